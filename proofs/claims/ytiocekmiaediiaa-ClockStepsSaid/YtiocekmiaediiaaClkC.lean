/-
  Walks of the laws on clocks (layer 3).
-/
import Derived.Test.YtiocekmiaediiaaClkB
set_option linter.unusedVariables false
set_option linter.unusedSimpArgs false
set_option maxHeartbeats 400000
namespace Go.Proofs.Ytiocekmiaediiaa
open Go Go.MV
theorem kA : upF [] 3 = [(3, 1)] := by
  have : nextF 0 = 1 := by decide
  simp [upF, ofF, joinF, mergeF, this]
theorem kB : upF [(3, 1)] 1 = [(1, 1), (3, 1)] := by
  have : nextF 0 = 1 := by decide
  simp [upF, ofF, joinF, mergeF, this, cmpI]
theorem kC : upF [(3, 1)] 3 = [(3, 2)] := by
  have : nextF 1 = 2 := by decide
  simp [upF, ofF, joinF, mergeF, this, cmpI, bothT]
theorem kJ : joinF [(1, 1), (3, 1)] [(3, 2)] = [(1, 1), (3, 2)] := by simp [joinF, mergeF, cmpI, bothT]
theorem kAB : cmpF [(3, 1)] [(1, 1), (3, 1)] = -1 := by simp [cmpF, joinF, mergeF, cmpI, bothT]
theorem kBA : cmpF [(1, 1), (3, 1)] [(3, 1)] = 1 := by simp [cmpF, joinF, mergeF, cmpI, bothT]
theorem kBC : cmpF [(1, 1), (3, 1)] [(3, 2)] = 2 := by simp [cmpF, joinF, mergeF, cmpI, bothT]
theorem kAA : cmpF [(3, 1)] [(3, 1)] = 0 := by simp [cmpF]


theorem knownC_spec (S : MS) : MCalls Try.prog 18 [] S fun v σ' => v = .bool true ∧ σ' = S := by
  refine mcalls_body Try.func18 rfl Try.ntmps18 (Nat.le_of_ble_eq_true rfl) ?_
  refine mwp_seq ?_
  refine mwp_region rfl ?_   -- region 0
  refine wOps_op rfl (op_assign rfl rfl ?_)   -- t0 ← assign const bool false
  refine wOps_nil ?_
  refine mwp_seq ?_
  refine mwp_region rfl ?_   -- region 1
  refine wOps_op rfl (op_call rfl rfl rfl co25 (((clkUp_spec [] 3 (by decide) _).sub (.cons (.nil 2) (.cons (.refl _) .nil))).mono ?_))   -- t5 ← call ('rec', {'callee': ('app', 'value', [('app', 'func', [25])])
  rintro _ _ ⟨rfl, rfl⟩
  rw [kA]
  refine wOps_op rfl (op_assign rfl rfl ?_)   -- t1 ← assign tmp 5
  refine wOps_nil ?_
  refine mwp_seq ?_
  refine mwp_region rfl ?_   -- region 2
  refine wOps_op rfl (op_move rfl rfl ?_)   -- t6 ← move tmp 1
  refine wOps_op rfl (op_call rfl rfl rfl co25 ((clkUp_spec [(3, 1)] 1 (by decide) _).mono ?_))   -- t7 ← call ('rec', {'callee': ('app', 'value', [('app', 'func', [25])])
  rintro _ _ ⟨rfl, rfl⟩
  rw [kB]
  refine wOps_op rfl (op_assign rfl rfl ?_)   -- t2 ← assign tmp 7
  refine wOps_nil ?_
  refine mwp_seq ?_
  refine mwp_region rfl ?_   -- region 3
  refine wOps_op rfl (op_move rfl rfl ?_)   -- t8 ← move tmp 1
  refine wOps_op rfl (op_call rfl rfl rfl co25 ((clkUp_spec [(3, 1)] 3 (by decide) _).mono ?_))   -- t9 ← call ('rec', {'callee': ('app', 'value', [('app', 'func', [25])])
  rintro _ _ ⟨rfl, rfl⟩
  rw [kC]
  refine wOps_op rfl (op_assign rfl rfl ?_)   -- t3 ← assign tmp 9
  refine wOps_nil ?_
  refine mwp_seq ?_
  refine mwp_region rfl ?_   -- region 4
  refine wOps_op rfl (op_move rfl rfl ?_)   -- t10 ← move tmp 2
  refine wOps_op rfl (op_move rfl rfl ?_)   -- t11 ← move tmp 3
  refine wOps_op rfl (op_call rfl rfl rfl co27 ((clkJoin_spec [(1, 1), (3, 1)] [(3, 2)] (by decide) _).mono ?_))   -- t12 ← call ('rec', {'callee': ('app', 'value', [('app', 'func', [27])])
  rintro _ _ ⟨rfl, rfl⟩
  rw [kJ]
  refine wOps_op rfl (op_assign rfl rfl ?_)   -- t4 ← assign tmp 12
  refine wOps_nil ?_
  refine mwp_seq ?_
  refine mwp_region rfl ?_   -- region 5
  refine wOps_op rfl (op_move rfl rfl ?_)   -- t13 ← move tmp 2
  refine wOps_op rfl (op_call rfl rfl rfl co19 ((clkIs_spec [(1, 1), (3, 1)] _).mono ?_))   -- t14 ← call ('rec', {'callee': ('app', 'value', [('app', 'func', [19])])
  rintro _ _ ⟨rfl, rfl⟩
  rw [show isClockF [(1, 1), (3, 1)] = true by decide]
  refine wOps_op rfl (op_move rfl rfl ?_)   -- t15 ← move tmp 14
  refine wOps_op rfl (op_move rfl rfl ?_)   -- t16 ← move tmp 2  GUARD
  refine wOps_op rfl (op_len_lst rfl Try.underlying33 rfl ?_)   -- t17 ← call ('rec', {'callee': ('app', 'builtin', [('id', 'Go.Builtin.le  GUARD
  refine wOps_op rfl (op_cmp rfl rfl rfl (show _ = some true from rfl) ?_)   -- t18 ← binOp eql 3 tmp 17 const int i64 2 3  GUARD
  refine wOps_op rfl (op_pick rfl rfl rfl ?_)   -- t19 ← pick tmp 15 tmp 18 const bool false
  refine wOps_op rfl (op_move rfl rfl ?_)   -- t20 ← move tmp 19
  refine wOps_op rfl (op_move rfl rfl ?_)   -- t21 ← move tmp 3  GUARD
  refine wOps_op rfl (op_call rfl rfl rfl co23 ((clkOf_spec [(3, 2)] 3 _).mono ?_))   -- t22 ← call ('rec', {'callee': ('app', 'value', [('app', 'func', [23])])  GUARD
  rintro _ _ ⟨rfl, rfl⟩
  rw [show ofF [(3, 2)] 3 = 2 by decide]
  refine wOps_op rfl (op_cmp rfl rfl rfl (show _ = some true from rfl) ?_)   -- t23 ← binOp eql 36 tmp 22 const int u64 2 36  GUARD
  refine wOps_op rfl (op_pick rfl rfl rfl ?_)   -- t24 ← pick tmp 20 tmp 23 const bool false
  refine wOps_op rfl (op_move rfl rfl ?_)   -- t25 ← move tmp 24
  refine wOps_op rfl (op_move rfl rfl ?_)   -- t26 ← move tmp 1  GUARD
  refine wOps_op rfl (op_move rfl rfl ?_)   -- t27 ← move tmp 2  GUARD
  refine wOps_op rfl (op_call rfl rfl rfl co29 ((clkCmp_spec [(3, 1)] [(1, 1), (3, 1)] (by decide) _).mono ?_))   -- t28 ← call ('rec', {'callee': ('app', 'value', [('app', 'func', [29])])  GUARD
  rintro _ _ ⟨rfl, rfl⟩
  rw [kAB]
  refine wOps_op rfl (op_cmp rfl rfl rfl (show _ = some true from rfl) ?_)   -- t29 ← binOp eql 3 tmp 28 const int i64 -1 3  GUARD
  refine wOps_op rfl (op_pick rfl rfl rfl ?_)   -- t30 ← pick tmp 25 tmp 29 const bool false
  refine wOps_op rfl (op_move rfl rfl ?_)   -- t31 ← move tmp 30
  refine wOps_op rfl (op_move rfl rfl ?_)   -- t32 ← move tmp 2  GUARD
  refine wOps_op rfl (op_move rfl rfl ?_)   -- t33 ← move tmp 1  GUARD
  refine wOps_op rfl (op_call rfl rfl rfl co29 ((clkCmp_spec [(1, 1), (3, 1)] [(3, 1)] (by decide) _).mono ?_))   -- t34 ← call ('rec', {'callee': ('app', 'value', [('app', 'func', [29])])  GUARD
  rintro _ _ ⟨rfl, rfl⟩
  rw [kBA]
  refine wOps_op rfl (op_cmp rfl rfl rfl (show _ = some true from rfl) ?_)   -- t35 ← binOp eql 3 tmp 34 const int i64 1 3  GUARD
  refine wOps_op rfl (op_pick rfl rfl rfl ?_)   -- t36 ← pick tmp 31 tmp 35 const bool false
  refine wOps_op rfl (op_move rfl rfl ?_)   -- t37 ← move tmp 36
  refine wOps_op rfl (op_move rfl rfl ?_)   -- t38 ← move tmp 2  GUARD
  refine wOps_op rfl (op_move rfl rfl ?_)   -- t39 ← move tmp 3  GUARD
  refine wOps_op rfl (op_call rfl rfl rfl co29 ((clkCmp_spec [(1, 1), (3, 1)] [(3, 2)] (by decide) _).mono ?_))   -- t40 ← call ('rec', {'callee': ('app', 'value', [('app', 'func', [29])])  GUARD
  rintro _ _ ⟨rfl, rfl⟩
  rw [kBC]
  refine wOps_op rfl (op_cmp rfl rfl rfl (show _ = some true from rfl) ?_)   -- t41 ← binOp eql 3 tmp 40 const int i64 2 3  GUARD
  refine wOps_op rfl (op_pick rfl rfl rfl ?_)   -- t42 ← pick tmp 37 tmp 41 const bool false
  refine wOps_op rfl (op_move rfl rfl ?_)   -- t43 ← move tmp 42
  refine wOps_op rfl (op_move rfl rfl ?_)   -- t44 ← move tmp 1  GUARD
  refine wOps_op rfl (op_move rfl rfl ?_)   -- t45 ← move tmp 1  GUARD
  refine wOps_op rfl (op_call rfl rfl rfl co29 ((clkCmp_spec [(3, 1)] [(3, 1)] (by decide) _).mono ?_))   -- t46 ← call ('rec', {'callee': ('app', 'value', [('app', 'func', [29])])  GUARD
  rintro _ _ ⟨rfl, rfl⟩
  rw [kAA]
  refine wOps_op rfl (op_cmp rfl rfl rfl (show _ = some true from rfl) ?_)   -- t47 ← binOp eql 3 tmp 46 const int i64 0 3  GUARD
  refine wOps_op rfl (op_pick rfl rfl rfl ?_)   -- t48 ← pick tmp 43 tmp 47 const bool false
  refine wOps_op rfl (op_move rfl rfl ?_)   -- t49 ← move tmp 48
  refine wOps_op rfl (op_move rfl rfl ?_)   -- t50 ← move tmp 4  GUARD
  refine wOps_op rfl (op_call rfl rfl rfl co23 ((clkOf_spec [(1, 1), (3, 2)] 3 _).mono ?_))   -- t51 ← call ('rec', {'callee': ('app', 'value', [('app', 'func', [23])])  GUARD
  rintro _ _ ⟨rfl, rfl⟩
  rw [show ofF [(1, 1), (3, 2)] 3 = 2 by decide]
  refine wOps_op rfl (op_cmp rfl rfl rfl (show _ = some true from rfl) ?_)   -- t52 ← binOp eql 36 tmp 51 const int u64 2 36  GUARD
  refine wOps_op rfl (op_pick rfl rfl rfl ?_)   -- t53 ← pick tmp 49 tmp 52 const bool false
  refine wOps_op rfl (op_move rfl rfl ?_)   -- t54 ← move tmp 53
  refine wOps_op rfl (op_move rfl rfl ?_)   -- t55 ← move tmp 4  GUARD
  refine wOps_op rfl (op_call rfl rfl rfl co23 ((clkOf_spec [(1, 1), (3, 2)] 1 _).mono ?_))   -- t56 ← call ('rec', {'callee': ('app', 'value', [('app', 'func', [23])])  GUARD
  rintro _ _ ⟨rfl, rfl⟩
  rw [show ofF [(1, 1), (3, 2)] 1 = 1 by decide]
  refine wOps_op rfl (op_cmp rfl rfl rfl (show _ = some true from rfl) ?_)   -- t57 ← binOp eql 36 tmp 56 const int u64 1 36  GUARD
  refine wOps_op rfl (op_pick rfl rfl rfl ?_)   -- t58 ← pick tmp 54 tmp 57 const bool false
  refine wOps_op rfl (op_move rfl rfl ?_)   -- t59 ← move tmp 58
  refine wOps_op rfl (op_move rfl rfl ?_)   -- t60 ← move tmp 4  GUARD
  refine wOps_op rfl (op_move rfl rfl ?_)   -- t61 ← move tmp 4  GUARD
  refine wOps_op rfl (op_call rfl rfl rfl co21 ((clkSame_spec [(1, 1), (3, 2)] [(1, 1), (3, 2)] _).mono ?_))   -- t62 ← call ('rec', {'callee': ('app', 'value', [('app', 'func', [21])])  GUARD
  rintro _ _ ⟨rfl, rfl⟩
  rw [show decide (([(1, 1), (3, 2)] : List Tk) = [(1, 1), (3, 2)]) = true by decide]
  refine wOps_op rfl (op_pick rfl rfl rfl ?_)   -- t63 ← pick tmp 59 tmp 62 const bool false
  refine wOps_op rfl (op_move rfl rfl ?_)   -- t64 ← move tmp 63
  refine wOps_op rfl (op_build rfl Try.underlying45 zm45 (.cons fo45_0 sz3 rfl rfl (Nat.le_of_ble_eq_true rfl) .nil) (by kernel_rfl) ?_)   -- t65 ← build 45 [(0,const int i64 1)]  GUARD
  refine wOps_op rfl (op_buildSlice rfl Try.underlying33 el45 rfl rfl (by decide) (by decide) rfl rfl ?_)   -- t66 ← buildSlice 33 1 [(0,tmp 65)]  GUARD
  refine wOps_op rfl (op_call rfl rfl rfl co19 ((clkIs_spec [(1, 0)] _).mono ?_))   -- t67 ← call ('rec', {'callee': ('app', 'value', [('app', 'func', [19])])  GUARD
  rintro _ _ ⟨rfl, rfl⟩
  rw [show isClockF [(1, 0)] = false by decide]
  refine wOps_op rfl (op_not rfl rfl ?_)   -- t68 ← unOp not 4 tmp 67  GUARD
  refine wOps_op rfl (op_pick rfl rfl rfl ?_)   -- t69 ← pick tmp 64 tmp 68 const bool false
  refine wOps_op rfl (op_assign rfl rfl ?_)   -- t0 ← assign tmp 69
  refine wOps_nil ?_
  refine mwp_ret ?_
  exact ret_tmp (.inr rfl) Try.results18 rfl (.of_eq (rfl)) (.bool _) ⟨rfl, rfl⟩

theorem ClockTells_spec (a b : List Tk) (w : Int) (ua : ∀ t ∈ a, 0 ≤ t.2 ∧ t.2 < 18446744073709551616) (ub : ∀ t ∈ b, 0 ≤ t.2 ∧ t.2 < 18446744073709551616) (S : MS) : MCalls Try.prog 5 [.lst none 2 (a.map encT), .lst none 2 (b.map encT), .int .i64 w] S fun v σ' => v = .bool true ∧ σ' = S := by
  refine mcalls_body Try.func5 rfl Try.ntmps5 (Nat.le_of_ble_eq_true rfl) ?_
  refine mwp_seq ?_
  refine mwp_region rfl ?_   -- region 0
  refine wOps_op rfl (op_assign rfl rfl ?_)   -- t6 ← assign const bool false
  refine wOps_nil ?_
  refine mwp_seq ?_
  refine mwp_seq ?_
  refine mwp_region rfl ?_   -- region 1
  refine wOps_op rfl (op_call rfl rfl rfl co18 ((knownC_spec _).mono ?_))   -- t7 ← call ('rec', {'callee': ('app', 'value', [('app', 'func', [18])])
  rintro _ _ ⟨rfl, rfl⟩
  refine wOps_op rfl (op_not rfl rfl ?_)   -- t8 ← unOp not 4 tmp 7
  refine wOps_nil ?_
  refine mwp_cond_f rfl (rfl) ?_   -- if t8
  refine mwp_skip ?_
  refine mwp_seq ?_
  refine mwp_seq ?_
  refine mwp_region rfl ?_   -- region 3
  refine wOps_op rfl (op_move rfl rfl ?_)   -- t9 ← move tmp 0
  refine wOps_op rfl (op_call rfl rfl rfl co19 ((clkIs_spec a _).mono ?_))   -- t10 ← call ('rec', {'callee': ('app', 'value', [('app', 'func', [19])])
  rintro _ _ ⟨rfl, rfl⟩
  refine wOps_op rfl (op_move rfl rfl ?_)   -- t11 ← move tmp 0
  refine wOps_op rfl (op_call rfl rfl rfl co20 ((rIsClock_spec a _).mono ?_))   -- t12 ← call ('rec', {'callee': ('app', 'value', [('app', 'func', [20])])
  rintro _ _ ⟨rfl, rfl⟩
  refine wOps_op rfl (op_boolne rfl Try.underlying4 rfl rfl ?_)   -- t13 ← binOp neq 4 tmp 10 tmp 12 4
  rw [bne_self_eq_false]
  refine wOps_op rfl (op_move rfl rfl ?_)   -- t14 ← move tmp 13
  refine wOps_op rfl (op_move rfl rfl ?_)   -- t15 ← move tmp 0  GUARD
  refine wOps_op rfl (op_move rfl rfl ?_)   -- t16 ← move tmp 1  GUARD
  refine wOps_op rfl (op_call rfl rfl rfl co21 ((clkSame_spec a b _).mono ?_))   -- t17 ← call ('rec', {'callee': ('app', 'value', [('app', 'func', [21])])  GUARD
  rintro _ _ ⟨rfl, rfl⟩
  refine wOps_op rfl (op_move rfl rfl ?_)   -- t18 ← move tmp 0  GUARD
  refine wOps_op rfl (op_move rfl rfl ?_)   -- t19 ← move tmp 1  GUARD
  refine wOps_op rfl (op_call rfl rfl rfl co22 ((rSameC_spec a b _).mono ?_))   -- t20 ← call ('rec', {'callee': ('app', 'value', [('app', 'func', [22])])  GUARD
  rintro _ _ ⟨rfl, rfl⟩
  refine wOps_op rfl (op_boolne rfl Try.underlying4 rfl rfl ?_)   -- t21 ← binOp neq 4 tmp 17 tmp 20 4  GUARD
  rw [bne_self_eq_false]
  refine wOps_op rfl (op_pick rfl rfl rfl ?_)   -- t22 ← pick tmp 14 const bool true tmp 21
  refine wOps_nil ?_
  refine mwp_cond_f rfl (rfl) ?_   -- if t22
  refine mwp_skip ?_
  refine mwp_seq ?_
  refine mwp_seq ?_
  refine mwp_region rfl ?_   -- region 5
  refine wOps_op rfl (op_move rfl rfl ?_)   -- t23 ← move tmp 0
  refine wOps_op rfl (op_call rfl rfl rfl co20 ((rIsClock_spec a _).mono ?_))   -- t24 ← call ('rec', {'callee': ('app', 'value', [('app', 'func', [20])])
  rintro _ _ ⟨rfl, rfl⟩
  refine wOps_op rfl (op_not rfl rfl ?_)   -- t25 ← unOp not 4 tmp 24
  refine wOps_op rfl (op_move rfl rfl ?_)   -- t26 ← move tmp 25
  refine wOps_case (fun h26 => ?_) (fun h26 => ?_)
  ·
    refine wOps_skip rfl ?_
    refine wOps_skip rfl ?_
    refine wOps_skip rfl ?_
    refine wOps_op rfl (op_pick rfl rfl rfl ?_)   -- t30 ← pick tmp 26 const bool true tmp 29
    refine wOps_op rfl (op_move rfl rfl ?_)   -- t31 ← move tmp 30
    refine wOps_skip rfl ?_
    refine wOps_skip rfl ?_
    refine wOps_op rfl (op_pick rfl rfl rfl ?_)   -- t34 ← pick tmp 31 const bool true tmp 33
    refine wOps_op rfl (op_move rfl rfl ?_)   -- t35 ← move tmp 34
    refine wOps_skip rfl ?_
    refine wOps_skip rfl ?_
    refine wOps_op rfl (op_pick rfl rfl rfl ?_)   -- t38 ← pick tmp 35 const bool true tmp 37
    refine wOps_nil ?_
    refine mwp_cond_t rfl (rfl) ?_   -- if t38
    refine mwp_seq ?_
    refine mwp_region rfl ?_   -- region 6
    refine wOps_op rfl (op_assign rfl rfl ?_)   -- t6 ← assign const bool true
    refine wOps_nil ?_
    refine mwp_ret ?_
    exact ret_tmp (.inr rfl) Try.results5 rfl (.of_eq (rfl)) (.bool _) ⟨rfl, rfl⟩
  ·
    refine wOps_op rfl (op_move rfl rfl ?_)   -- t27 ← move tmp 1  GUARD
    refine wOps_op rfl (op_call rfl rfl rfl co20 ((rIsClock_spec b _).mono ?_))   -- t28 ← call ('rec', {'callee': ('app', 'value', [('app', 'func', [20])])  GUARD
    rintro _ _ ⟨rfl, rfl⟩
    refine wOps_op rfl (op_not rfl rfl ?_)   -- t29 ← unOp not 4 tmp 28  GUARD
    refine wOps_op rfl (op_pick rfl rfl rfl ?_)   -- t30 ← pick tmp 26 const bool true tmp 29
    refine wOps_op rfl (op_move rfl rfl ?_)   -- t31 ← move tmp 30
    refine wOps_case (fun h31 => ?_) (fun h31 => ?_)
    ·
      refine wOps_skip rfl ?_
      refine wOps_skip rfl ?_
      refine wOps_op rfl (op_pick rfl rfl rfl ?_)   -- t34 ← pick tmp 31 const bool true tmp 33
      refine wOps_op rfl (op_move rfl rfl ?_)   -- t35 ← move tmp 34
      refine wOps_skip rfl ?_
      refine wOps_skip rfl ?_
      refine wOps_op rfl (op_pick rfl rfl rfl ?_)   -- t38 ← pick tmp 35 const bool true tmp 37
      refine wOps_nil ?_
      refine mwp_cond_t rfl (rfl) ?_   -- if t38
      refine mwp_seq ?_
      refine mwp_region rfl ?_   -- region 6
      refine wOps_op rfl (op_assign rfl rfl ?_)   -- t6 ← assign const bool true
      refine wOps_nil ?_
      refine mwp_ret ?_
      exact ret_tmp (.inr rfl) Try.results5 rfl (.of_eq (rfl)) (.bool _) ⟨rfl, rfl⟩
    ·
      refine wOps_op rfl (op_move rfl rfl ?_)   -- t32 ← move tmp 2  GUARD
      refine wOps_op rfl (op_cmp rfl rfl rfl rfl ?_)   -- t33 ← binOp lss 3 tmp 32 const int i64 0 3  GUARD
      refine wOps_op rfl (op_pick rfl rfl rfl ?_)   -- t34 ← pick tmp 31 const bool true tmp 33
      refine wOps_op rfl (op_move rfl rfl ?_)   -- t35 ← move tmp 34
      refine wOps_case (fun h35 => ?_) (fun h35 => ?_)
      ·
        refine wOps_skip rfl ?_
        refine wOps_skip rfl ?_
        refine wOps_op rfl (op_pick rfl rfl rfl ?_)   -- t38 ← pick tmp 35 const bool true tmp 37
        refine wOps_nil ?_
        refine mwp_cond_t rfl (rfl) ?_   -- if t38
        refine mwp_seq ?_
        refine mwp_region rfl ?_   -- region 6
        refine wOps_op rfl (op_assign rfl rfl ?_)   -- t6 ← assign const bool true
        refine wOps_nil ?_
        refine mwp_ret ?_
        exact ret_tmp (.inr rfl) Try.results5 rfl (.of_eq (rfl)) (.bool _) ⟨rfl, rfl⟩
      ·
        refine wOps_op rfl (op_move rfl rfl ?_)   -- t36 ← move tmp 2  GUARD
        refine wOps_op rfl (op_cmp rfl rfl rfl rfl ?_)   -- t37 ← binOp gtr 3 tmp 36 const int i64 1000000 3  GUARD
        refine wOps_op rfl (op_pick rfl rfl rfl ?_)   -- t38 ← pick tmp 35 const bool true tmp 37
        refine wOps_nil ?_
        refine mwp_cond_split rfl (fun h38 => ?_) (fun h38 => ?_)   -- if t38
        · -- yes
          refine mwp_seq ?_
          refine mwp_region rfl ?_   -- region 6
          refine wOps_op rfl (op_assign rfl rfl ?_)   -- t6 ← assign const bool true
          refine wOps_nil ?_
          refine mwp_ret ?_
          exact ret_tmp (.inr rfl) Try.results5 rfl (.of_eq (rfl)) (.bool _) ⟨rfl, rfl⟩
        · -- no
          refine mwp_skip ?_
          refine mwp_seq ?_
          obtain ⟨ha, pa, la⟩ := isClock_spec (c := a) (by simpa using h26) ua
          obtain ⟨hb, pb, lb⟩ := isClock_spec (c := b) (by simpa using h31) ub
          refine mwp_region rfl ?_   -- region 7
          refine wOps_op rfl (op_move rfl rfl ?_)   -- t39 ← move tmp 0
          refine wOps_op rfl (op_move rfl rfl ?_)   -- t40 ← move tmp 2
          refine wOps_op rfl (op_call rfl rfl rfl co23 ((clkOf_spec a w _).mono ?_))   -- t41 ← call ('rec', {'callee': ('app', 'value', [('app', 'func', [23])])
          rintro _ _ ⟨rfl, rfl⟩
          refine wOps_op rfl (op_move rfl rfl ?_)   -- t42 ← move tmp 0
          refine wOps_op rfl (op_move rfl rfl ?_)   -- t43 ← move tmp 2
          refine wOps_op rfl (op_call rfl rfl rfl co24 ((rOf_spec a w _).mono ?_))   -- t44 ← call ('rec', {'callee': ('app', 'value', [('app', 'func', [24])])
          rintro _ _ ⟨rfl, rfl⟩
          refine wOps_op rfl (op_cmp rfl rfl rfl rfl ?_)   -- t45 ← binOp eql 36 tmp 41 tmp 44 36
          rw [beq_self_eq_true]
          refine wOps_op rfl (op_move rfl rfl ?_)   -- t46 ← move tmp 45
          refine wOps_op rfl (op_move rfl rfl ?_)   -- t47 ← move tmp 0  GUARD
          refine wOps_op rfl (op_move rfl rfl ?_)   -- t48 ← move tmp 2  GUARD
          refine wOps_op rfl (op_call rfl rfl rfl co25 ((clkUp_spec a w (by omega) _).mono ?_))   -- t49 ← call ('rec', {'callee': ('app', 'value', [('app', 'func', [25])])  GUARD
          rintro _ _ ⟨rfl, rfl⟩
          refine wOps_op rfl (op_move rfl rfl ?_)   -- t50 ← move tmp 0  GUARD
          refine wOps_op rfl (op_move rfl rfl ?_)   -- t51 ← move tmp 2  GUARD
          refine wOps_op rfl (op_call rfl rfl rfl co26 ((rUp_spec a w (by omega) _).mono ?_))   -- t52 ← call ('rec', {'callee': ('app', 'value', [('app', 'func', [26])])  GUARD
          rintro _ _ ⟨rfl, rfl⟩
          refine wOps_op rfl (op_call rfl rfl rfl co22 ((rSameC_spec (upF a w) (rupF a w) _).mono ?_))   -- t53 ← call ('rec', {'callee': ('app', 'value', [('app', 'func', [22])])  GUARD
          rintro _ _ ⟨rfl, rfl⟩
          rw [decide_eq_true (up_eq ha pa w)]
          refine wOps_op rfl (op_pick rfl rfl rfl ?_)   -- t54 ← pick tmp 46 tmp 53 const bool false
          refine wOps_op rfl (op_move rfl rfl ?_)   -- t55 ← move tmp 54
          refine wOps_op rfl (op_move rfl rfl ?_)   -- t56 ← move tmp 0  GUARD
          refine wOps_op rfl (op_move rfl rfl ?_)   -- t57 ← move tmp 1  GUARD
          refine wOps_op rfl (op_call rfl rfl rfl co27 ((clkJoin_spec a b (by omega) _).mono ?_))   -- t58 ← call ('rec', {'callee': ('app', 'value', [('app', 'func', [27])])  GUARD
          rintro _ _ ⟨rfl, rfl⟩
          refine wOps_op rfl (op_move rfl rfl ?_)   -- t59 ← move tmp 0  GUARD
          refine wOps_op rfl (op_move rfl rfl ?_)   -- t60 ← move tmp 1  GUARD
          refine wOps_op rfl (op_call rfl rfl rfl co28 ((rJoinC_spec a b (by omega) _).mono ?_))   -- t61 ← call ('rec', {'callee': ('app', 'value', [('app', 'func', [28])])  GUARD
          rintro _ _ ⟨rfl, rfl⟩
          refine wOps_op rfl (op_call rfl rfl rfl co22 ((rSameC_spec (joinF a b) (rjoinF a b) _).mono ?_))   -- t62 ← call ('rec', {'callee': ('app', 'value', [('app', 'func', [22])])  GUARD
          rintro _ _ ⟨rfl, rfl⟩
          rw [decide_eq_true (join_eq ha hb pa pb)]
          refine wOps_op rfl (op_pick rfl rfl rfl ?_)   -- t63 ← pick tmp 55 tmp 62 const bool false
          refine wOps_op rfl (op_move rfl rfl ?_)   -- t64 ← move tmp 63
          refine wOps_op rfl (op_move rfl rfl ?_)   -- t65 ← move tmp 0  GUARD
          refine wOps_op rfl (op_move rfl rfl ?_)   -- t66 ← move tmp 1  GUARD
          refine wOps_op rfl (op_call rfl rfl rfl co29 ((clkCmp_spec a b (by omega) _).mono ?_))   -- t67 ← call ('rec', {'callee': ('app', 'value', [('app', 'func', [29])])  GUARD
          rintro _ _ ⟨rfl, rfl⟩
          refine wOps_op rfl (op_move rfl rfl ?_)   -- t68 ← move tmp 0  GUARD
          refine wOps_op rfl (op_move rfl rfl ?_)   -- t69 ← move tmp 1  GUARD
          refine wOps_op rfl (op_call rfl rfl rfl co30 ((rCmpC_spec a b _).mono ?_))   -- t70 ← call ('rec', {'callee': ('app', 'value', [('app', 'func', [30])])  GUARD
          rintro _ _ ⟨rfl, rfl⟩
          refine wOps_op rfl (op_cmp rfl rfl rfl rfl ?_)   -- t71 ← binOp eql 3 tmp 67 tmp 70 3  GUARD
          rw [cmp_eq ha hb pa pb, beq_self_eq_true]
          refine wOps_op rfl (op_pick rfl rfl rfl ?_)   -- t72 ← pick tmp 64 tmp 71 const bool false
          refine wOps_op rfl (op_assign rfl rfl ?_)   -- t6 ← assign tmp 72
          refine wOps_nil ?_
          refine mwp_ret ?_
          exact ret_tmp (.inr rfl) Try.results5 rfl (.of_eq (rfl)) (.bool _) ⟨rfl, rfl⟩
end Go.Proofs.Ytiocekmiaediiaa
