/-
  Walks of the laws on schemas (layer 2).
-/
import Derived.Test.YtiocekmiaediiaaSchC
set_option linter.unusedVariables false
set_option linter.unusedSimpArgs false
namespace Go.Proofs.Ytiocekmiaediiaa
open Go Go.MV
def exA : Sch := .mk 4 [.mk 3 []]
def exC : Sch := causeS (.mk 1 [])
theorem ex1 : isF 16 (.mk 4 [.mk 3 []]) = true := by decide
theorem ex2 : isF 16 (.mk 0 []) = false := by decide
theorem ex3 : isF 16 (.mk 4 []) = false := by decide
theorem ex4 : decide ((Sch.mk 4 [.mk 3 []]) = .mk 4 [.mk 3 []]) = true := decide_eq_true rfl
theorem ex5 : decide ((Sch.mk 4 [.mk 3 []]) = causeS (.mk 1 [])) = false := by rw [decide_eq_false_iff_not]; intro e; injection e with e; cases e
theorem ex6 : levelF (causeS (.mk 1 [])) = 3 := by
  have : isF 16 (causeS (.mk 1 [])) = true := by decide
  simp [levelF, this]
  simp [causeS]
theorem ex7 : levelF (.mk 6 []) = 2 := by
  have : isF 16 (.mk 6 []) = true := by decide
  simp [levelF, this]
theorem ex8 : levelF (.mk 4 [.mk 3 []]) = 1 := by simp [levelF, ex1]
theorem ex9 : levelF (.mk 0 []) = 0 := by simp [levelF, ex2]


theorem known_spec (S : MS) : MCalls Try.prog 7 [] S fun v σ' => v = .bool true ∧ σ' = S := by
  refine mcalls_body Try.func7 rfl Try.ntmps7 (Nat.le_of_ble_eq_true rfl) ?_
  refine mwp_seq ?_
  refine mwp_region rfl ?_   -- region 0
  refine wOps_op rfl (op_assign rfl rfl ?_)   -- t0 ← assign const bool false
  refine wOps_nil ?_
  refine mwp_seq ?_
  refine mwp_region rfl ?_   -- region 1
  refine wOps_op rfl (op_build rfl Try.underlying24 zm24 (.cons fo24_0 sz3 rfl rfl (by decide) .nil) (by kernel_rfl) ?_)   -- t3 ← build 24 [(0,const int i64 3)]
  refine wOps_op rfl (op_buildSlice rfl Try.underlying22 el24 rfl rfl (by decide) (by decide) rfl rfl ?_)   -- t4 ← buildSlice 22 1 [(0,tmp 3)]
  refine wOps_op rfl (op_build rfl Try.underlying24 zm24 (.cons fo24_0 sz3 rfl rfl (by decide) (.cons fo24_1 sz22 rfl rfl (by decide) .nil)) (by kernel_rfl) ?_)   -- t5 ← build 24 [(0,const int i64 4),(1,tmp 4)]
  refine wOps_op rfl (op_alloc' rfl zm24 rfl rfl ?_)   -- t1 ← alloc 24
  refine wOps_op rfl (op_store' rfl rfl rfl rfl sz24 rfl rfl (Nat.le_of_ble_eq_true rfl) rfl ?_)   -- store 24 tmp 1 tmp 5
  refine wOps_nil ?_
  refine mwp_seq ?_
  refine mwp_own_sub 0 rfl (.cons (.refl _) (.cons (.lstE (.agg (.cons (.refl _) (.cons (.nil 2) .nil)) .nil) rfl) .nil)) rfl ?_
  refine mwp_region rfl ?_   -- region 2
  refine wOps_op rfl (op_build rfl Try.underlying24 zm24 (.cons fo24_0 sz3 rfl rfl (by decide) .nil) (by kernel_rfl) ?_)   -- t6 ← build 24 [(0,const int i64 1)]
  refine wOps_op rfl (op_call rfl rfl rfl co16 (((Cause_spec (.mk 1 []) _).sub (.cons (.agg (.cons (.refl _) (.cons (.nil 2) .nil))) .nil)).mono ?_))   -- t7 ← call ('rec', {'callee': ('app', 'value', [('app', 'func', [16])])
  rintro _ _ ⟨rfl, rfl⟩
  refine wOps_op rfl (op_alloc' rfl zm24 rfl rfl ?_)   -- t2 ← alloc 24
  refine wOps_op rfl (op_store' rfl rfl rfl rfl sz24 rfl rfl (Nat.le_of_ble_eq_true rfl) rfl ?_)   -- store 24 tmp 2 tmp 7
  refine wOps_nil ?_
  refine mwp_seq ?_
  refine mwp_region rfl ?_   -- region 3
  refine wOps_op rfl (op_load' rfl rfl rfl ta24 rfl ?_)   -- t8 ← load 24 tmp 1
  refine wOps_op rfl (op_call rfl rfl rfl co8 ((Is_spec (.mk 4 [.mk 3 []]) _).mono ?_))   -- t9 ← call ('rec', {'callee': ('app', 'value', [('app', 'func', [8])]),
  rintro _ _ ⟨rfl, rfl⟩
  rw [ex1]
  refine wOps_op rfl (op_move rfl rfl ?_)   -- t10 ← move tmp 9
  refine wOps_op rfl (op_load' rfl rfl rfl ta24 rfl ?_)   -- t11 ← load 24 tmp 1  GUARD
  refine wOps_op rfl (op_call rfl rfl rfl co10 ((Deep_spec (.mk 4 [.mk 3 []]) _).mono ?_))   -- t12 ← call ('rec', {'callee': ('app', 'value', [('app', 'func', [10])])  GUARD
  rintro _ _ ⟨rfl, rfl⟩
  refine wOps_op rfl (op_cmp rfl rfl rfl rfl ?_)   -- t13 ← binOp eql 3 tmp 12 const int i64 2 3  GUARD
  refine wOps_op rfl (op_pick rfl rfl rfl ?_)   -- t14 ← pick tmp 10 tmp 13 const bool false
  refine wOps_op rfl (op_move rfl rfl ?_)   -- t15 ← move tmp 14
  refine wOps_op rfl (op_build rfl Try.underlying24 zm24 .nil (by kernel_rfl) ?_)   -- t16 ← build 24 []  GUARD
  refine wOps_op rfl (op_call rfl rfl rfl co8 (((Is_spec (.mk 0 []) _).sub (.cons (.agg (.cons (.refl _) (.cons (.nil 2) .nil))) .nil)).mono ?_))   -- t17 ← call ('rec', {'callee': ('app', 'value', [('app', 'func', [8])]),  GUARD
  rintro _ _ ⟨rfl, rfl⟩
  rw [ex2]
  refine wOps_op rfl (op_not rfl rfl ?_)   -- t18 ← unOp not 4 tmp 17  GUARD
  refine wOps_op rfl (op_pick rfl rfl rfl ?_)   -- t19 ← pick tmp 15 tmp 18 const bool false
  refine wOps_op rfl (op_move rfl rfl ?_)   -- t20 ← move tmp 19
  refine wOps_op rfl (op_build rfl Try.underlying24 zm24 (.cons fo24_0 sz3 rfl rfl (by decide) .nil) (by kernel_rfl) ?_)   -- t21 ← build 24 [(0,const int i64 4)]  GUARD
  refine wOps_op rfl (op_call rfl rfl rfl co8 (((Is_spec (.mk 4 []) _).sub (.cons (.agg (.cons (.refl _) (.cons (.nil 2) .nil))) .nil)).mono ?_))   -- t22 ← call ('rec', {'callee': ('app', 'value', [('app', 'func', [8])]),  GUARD
  rintro _ _ ⟨rfl, rfl⟩
  rw [ex3]
  refine wOps_op rfl (op_not rfl rfl ?_)   -- t23 ← unOp not 4 tmp 22  GUARD
  refine wOps_op rfl (op_pick rfl rfl rfl ?_)   -- t24 ← pick tmp 20 tmp 23 const bool false
  refine wOps_op rfl (op_move rfl rfl ?_)   -- t25 ← move tmp 24
  refine wOps_op rfl (op_load' rfl rfl rfl ta24 rfl ?_)   -- t26 ← load 24 tmp 1  GUARD
  refine wOps_op rfl (op_load' rfl rfl rfl ta24 rfl ?_)   -- t27 ← load 24 tmp 1  GUARD
  refine wOps_op rfl (op_call rfl rfl rfl co12 ((Same_spec _ (.mk 4 [.mk 3 []]) (.mk 4 [.mk 3 []]) (Nat.le_refl _) _).mono ?_))   -- t28 ← call ('rec', {'callee': ('app', 'value', [('app', 'func', [12])])  GUARD
  rintro _ _ ⟨rfl, rfl⟩
  rw [ex4]
  refine wOps_op rfl (op_pick rfl rfl rfl ?_)   -- t29 ← pick tmp 25 tmp 28 const bool false
  refine wOps_op rfl (op_move rfl rfl ?_)   -- t30 ← move tmp 29
  refine wOps_op rfl (op_load' rfl rfl rfl ta24 rfl ?_)   -- t31 ← load 24 tmp 1  GUARD
  refine wOps_op rfl (op_load' rfl rfl rfl ta24 rfl ?_)   -- t32 ← load 24 tmp 2  GUARD
  refine wOps_op rfl (op_call rfl rfl rfl co12 ((Same_spec _ (.mk 4 [.mk 3 []]) (causeS (.mk 1 [])) (Nat.le_refl _) _).mono ?_))   -- t33 ← call ('rec', {'callee': ('app', 'value', [('app', 'func', [12])])  GUARD
  rintro _ _ ⟨rfl, rfl⟩
  rw [ex5]
  refine wOps_op rfl (op_not rfl rfl ?_)   -- t34 ← unOp not 4 tmp 33  GUARD
  refine wOps_op rfl (op_pick rfl rfl rfl ?_)   -- t35 ← pick tmp 30 tmp 34 const bool false
  refine wOps_op rfl (op_move rfl rfl ?_)   -- t36 ← move tmp 35
  refine wOps_op rfl (op_load' rfl rfl rfl ta24 rfl ?_)   -- t37 ← load 24 tmp 2  GUARD
  refine wOps_op rfl (op_call rfl rfl rfl co14 ((Level_spec (causeS (.mk 1 [])) _).mono ?_))   -- t38 ← call ('rec', {'callee': ('app', 'value', [('app', 'func', [14])])  GUARD
  rintro _ _ ⟨rfl, rfl⟩
  rw [ex6]
  refine wOps_op rfl (op_cmp rfl rfl rfl rfl ?_)   -- t39 ← binOp eql 3 tmp 38 const int i64 3 3  GUARD
  refine wOps_op rfl (op_pick rfl rfl rfl ?_)   -- t40 ← pick tmp 36 tmp 39 const bool false
  refine wOps_op rfl (op_move rfl rfl ?_)   -- t41 ← move tmp 40
  refine wOps_op rfl (op_build rfl Try.underlying24 zm24 (.cons fo24_0 sz3 rfl rfl (by decide) .nil) (by kernel_rfl) ?_)   -- t42 ← build 24 [(0,const int i64 6)]  GUARD
  refine wOps_op rfl (op_call rfl rfl rfl co14 (((Level_spec (.mk 6 []) _).sub (.cons (.agg (.cons (.refl _) (.cons (.nil 2) .nil))) .nil)).mono ?_))   -- t43 ← call ('rec', {'callee': ('app', 'value', [('app', 'func', [14])])  GUARD
  rintro _ _ ⟨rfl, rfl⟩
  rw [ex7]
  refine wOps_op rfl (op_cmp rfl rfl rfl rfl ?_)   -- t44 ← binOp eql 3 tmp 43 const int i64 2 3  GUARD
  refine wOps_op rfl (op_pick rfl rfl rfl ?_)   -- t45 ← pick tmp 41 tmp 44 const bool false
  refine wOps_op rfl (op_move rfl rfl ?_)   -- t46 ← move tmp 45
  refine wOps_op rfl (op_load' rfl rfl rfl ta24 rfl ?_)   -- t47 ← load 24 tmp 1  GUARD
  refine wOps_op rfl (op_call rfl rfl rfl co14 ((Level_spec (.mk 4 [.mk 3 []]) _).mono ?_))   -- t48 ← call ('rec', {'callee': ('app', 'value', [('app', 'func', [14])])  GUARD
  rintro _ _ ⟨rfl, rfl⟩
  rw [ex8]
  refine wOps_op rfl (op_cmp rfl rfl rfl rfl ?_)   -- t49 ← binOp eql 3 tmp 48 const int i64 1 3  GUARD
  refine wOps_op rfl (op_pick rfl rfl rfl ?_)   -- t50 ← pick tmp 46 tmp 49 const bool false
  refine wOps_op rfl (op_move rfl rfl ?_)   -- t51 ← move tmp 50
  refine wOps_op rfl (op_build rfl Try.underlying24 zm24 .nil (by kernel_rfl) ?_)   -- t52 ← build 24 []  GUARD
  refine wOps_op rfl (op_call rfl rfl rfl co14 (((Level_spec (.mk 0 []) _).sub (.cons (.agg (.cons (.refl _) (.cons (.nil 2) .nil))) .nil)).mono ?_))   -- t53 ← call ('rec', {'callee': ('app', 'value', [('app', 'func', [14])])  GUARD
  rintro _ _ ⟨rfl, rfl⟩
  rw [ex9]
  refine wOps_op rfl (op_cmp rfl rfl rfl rfl ?_)   -- t54 ← binOp eql 3 tmp 53 const int i64 0 3  GUARD
  refine wOps_op rfl (op_pick rfl rfl rfl ?_)   -- t55 ← pick tmp 51 tmp 54 const bool false
  refine wOps_op rfl (op_assign rfl rfl ?_)   -- t0 ← assign tmp 55
  refine wOps_nil ?_
  refine mwp_ret ?_
  exact ret_tmp (.inr rfl) Try.results7 rfl (.refl _) (.bool _) ⟨rfl, rfl⟩

theorem SchemaTells_spec (a b : Sch) (S : MS) : MCalls Try.prog 3 [encS a, encS b] S fun v σ' => v = .bool true ∧ σ' = S := by
  obtain ⟨k, l⟩ := a
  obtain ⟨k2, l2⟩ := b
  refine mcalls_body Try.func3 rfl Try.ntmps3 (Nat.le_of_ble_eq_true rfl) ?_
  refine mwp_seq ?_
  refine mwp_region rfl ?_   -- region 0
  refine wOps_op rfl (op_box' rfl rfl rfl rfl ?_)   -- t2 ← box 24 tmp 0
  refine wOps_op rfl (op_box' rfl rfl rfl rfl ?_)   -- t3 ← box 24 tmp 1
  refine wOps_op rfl (op_assign rfl rfl ?_)   -- t4 ← assign const bool false
  refine wOps_nil ?_
  refine mwp_seq ?_
  refine mwp_seq ?_
  refine mwp_region rfl ?_   -- region 1
  refine wOps_op rfl (op_call rfl rfl rfl co7 ((known_spec _).mono ?_))   -- t5 ← call ('rec', {'callee': ('app', 'value', [('app', 'func', [7])]),
  rintro _ _ ⟨rfl, rfl⟩
  refine wOps_op rfl (op_not rfl rfl ?_)   -- t6 ← unOp not 4 tmp 5
  refine wOps_nil ?_
  refine mwp_cond_f rfl (rfl) ?_   -- if t6
  refine mwp_skip ?_
  refine mwp_seq ?_
  refine mwp_draw [] [_] mo (by decide) rfl rfl rfl rfl ?_   -- region 3
  refine dOps_op rfl rfl (.cons (op_load' rfl rfl rfl ta24 rfl ⟨rfl, rfl⟩) .nil) ?_   -- t7 ← load 24 tmp 2
  refine dOps_op rfl rfl (.cons (op_call rfl rfl rfl co8 (Is_spec (.mk k l) _)) .nil) ?_   -- t8 ← call ('rec', {'callee': ('app', 'value', [('app', 'func', [8])]),
  refine dOps_op rfl rfl (.cons (op_load' rfl rfl rfl ta24 rfl ⟨rfl, rfl⟩) .nil) ?_   -- t9 ← load 24 tmp 2
  refine dOps_op rfl rfl (.cons (op_call rfl rfl rfl co9 (rIsSchema_spec (.mk k l) _)) .nil) ?_   -- t10 ← call ('rec', {'callee': ('app', 'value', [('app', 'func', [9])]),
  refine dOps_op rfl rfl (.cons (op_booleq rfl Try.underlying4 rfl rfl ⟨rfl, rfl⟩) .nil) ?_   -- t11 ← binOp eql 4 tmp 8 tmp 10 4
  rw [beq_self_eq_true]
  refine dOps_op rfl rfl (.cons (op_move rfl rfl ⟨rfl, rfl⟩) .nil) ?_   -- t12 ← move tmp 11
  refine dOps_op rfl rfl (.cons (op_load' rfl rfl rfl ta24 rfl ⟨rfl, rfl⟩) .nil) ?_   -- t13 ← load 24 tmp 2  GUARD
  refine dOps_op rfl rfl (.cons (op_call rfl rfl rfl co10 (Deep_spec (.mk k l) _)) .nil) ?_   -- t14 ← call ('rec', {'callee': ('app', 'value', [('app', 'func', [10])])  GUARD
  refine dOps_op rfl rfl (.cons (op_load' rfl rfl rfl ta24 rfl ⟨rfl, rfl⟩) .nil) ?_   -- t15 ← load 24 tmp 2  GUARD
  refine dOps_op rfl rfl (.cons (op_call rfl rfl rfl co11 (rDeep_spec (.mk k l) _)) .nil) ?_   -- t16 ← call ('rec', {'callee': ('app', 'value', [('app', 'func', [11])])  GUARD
  refine dOps_op rfl rfl (.cons (op_cmp rfl rfl rfl rfl ⟨rfl, rfl⟩) .nil) ?_   -- t17 ← binOp eql 3 tmp 14 tmp 16 3  GUARD
  rw [beq_self_eq_true]
  refine dOps_op rfl rfl (.cons (op_pick rfl rfl rfl ⟨rfl, rfl⟩) .nil) ?_   -- t18 ← pick tmp 12 tmp 17 const bool false
  refine dOps_op rfl rfl (.cons (op_move rfl rfl ⟨rfl, rfl⟩) .nil) ?_   -- t19 ← move tmp 18
  refine dOps_op rfl rfl (.cons (op_load' rfl rfl rfl ta24 rfl ⟨rfl, rfl⟩) .nil) ?_   -- t20 ← load 24 tmp 2  GUARD
  refine dOps_op rfl rfl (.cons (op_load' rfl rfl rfl ta24 rfl ⟨rfl, rfl⟩) .nil) ?_   -- t21 ← load 24 tmp 3  GUARD
  refine dOps_op rfl rfl (.cons (op_call rfl rfl rfl co12 (Same_spec _ (.mk k l) (.mk k2 l2) (Nat.le_refl _) _)) .nil) ?_   -- t22 ← call ('rec', {'callee': ('app', 'value', [('app', 'func', [12])])  GUARD
  refine dOps_op rfl rfl (.cons (op_load' rfl rfl rfl ta24 rfl ⟨rfl, rfl⟩) .nil) ?_   -- t23 ← load 24 tmp 2  GUARD
  refine dOps_op rfl rfl (.cons (op_load' rfl rfl rfl ta24 rfl ⟨rfl, rfl⟩) .nil) ?_   -- t24 ← load 24 tmp 3  GUARD
  refine dOps_op rfl rfl (.cons (op_call rfl rfl rfl co13 (rSame_spec _ (.mk k l) (.mk k2 l2) (Nat.le_refl _) _)) .nil) ?_   -- t25 ← call ('rec', {'callee': ('app', 'value', [('app', 'func', [13])])  GUARD
  refine dOps_op rfl rfl (.cons (op_booleq rfl Try.underlying4 rfl rfl ⟨rfl, rfl⟩) .nil) ?_   -- t26 ← binOp eql 4 tmp 22 tmp 25 4  GUARD
  rw [beq_self_eq_true]
  refine dOps_op rfl rfl (.cons (op_pick rfl rfl rfl ⟨rfl, rfl⟩) .nil) ?_   -- t27 ← pick tmp 19 tmp 26 const bool false
  refine dOps_op rfl rfl (.cons (op_move rfl rfl ⟨rfl, rfl⟩) .nil) ?_   -- t28 ← move tmp 27
  refine dOps_op rfl rfl (.cons (op_load' rfl rfl rfl ta24 rfl ⟨rfl, rfl⟩) .nil) ?_   -- t29 ← load 24 tmp 2  GUARD
  refine dOps_op rfl rfl (.cons (op_call rfl rfl rfl co14 (Level_spec (.mk k l) _)) .nil) ?_   -- t30 ← call ('rec', {'callee': ('app', 'value', [('app', 'func', [14])])  GUARD
  refine dOps_op rfl rfl (.cons (op_load' rfl rfl rfl ta24 rfl ⟨rfl, rfl⟩) .nil) ?_   -- t31 ← load 24 tmp 2  GUARD
  refine dOps_op rfl rfl (.cons (op_call rfl rfl rfl co15 (rLevel_spec (.mk k l) _)) .nil) ?_   -- t32 ← call ('rec', {'callee': ('app', 'value', [('app', 'func', [15])])  GUARD
  refine dOps_op rfl rfl (.cons (op_cmp rfl rfl rfl rfl ⟨rfl, rfl⟩) .nil) ?_   -- t33 ← binOp eql 3 tmp 30 tmp 32 3  GUARD
  rw [beq_self_eq_true]
  refine dOps_op rfl rfl (.cons (op_pick rfl rfl rfl ⟨rfl, rfl⟩) .nil) ?_   -- t34 ← pick tmp 28 tmp 33 const bool false
  refine dOps_op rfl rfl (.cons (op_move rfl rfl ⟨rfl, rfl⟩) .nil) ?_   -- t35 ← move tmp 34
  refine dOps_op rfl rfl (.cons (op_load' rfl rfl rfl ta24 rfl ⟨rfl, rfl⟩) .nil) ?_   -- t36 ← load 24 tmp 2  GUARD
  refine dOps_op rfl rfl (.cons (op_call rfl rfl rfl co16 (Cause_spec (.mk k l) _)) .nil) ?_   -- t37 ← call ('rec', {'callee': ('app', 'value', [('app', 'func', [16])])  GUARD
  refine dOps_op rfl rfl (.cons (op_load' rfl rfl rfl ta24 rfl ⟨rfl, rfl⟩) .nil) ?_   -- t38 ← load 24 tmp 2  GUARD
  refine dOps_op rfl rfl (.cons (op_call rfl rfl rfl co17 (rCause_spec (.mk k l) _)) .nil) ?_   -- t39 ← call ('rec', {'callee': ('app', 'value', [('app', 'func', [17])])  GUARD
  refine dOps_op rfl rfl (.cons (op_call rfl rfl rfl co13 (rSame_spec _ (causeS (.mk k l)) (causeS (.mk k l)) (Nat.le_refl _) _)) .nil) ?_   -- t40 ← call ('rec', {'callee': ('app', 'value', [('app', 'func', [13])])  GUARD
  rw [decide_eq_true (rfl : causeS (.mk k l) = causeS (.mk k l))]
  refine dOps_op rfl rfl (.cons (op_pick rfl rfl rfl ⟨rfl, rfl⟩) .nil) ?_   -- t41 ← pick tmp 35 tmp 40 const bool false
  refine dOps_op rfl rfl (.cons (op_assign rfl rfl ⟨rfl, rfl⟩) .nil) ?_   -- t4 ← assign tmp 41
  refine dOps_nil ?_
  refine mwp_ret ?_
  exact ret_tmp (.inr rfl) Try.results3 rfl (.refl _) (.bool _) ⟨rfl, rfl⟩
end Go.Proofs.Ytiocekmiaediiaa
