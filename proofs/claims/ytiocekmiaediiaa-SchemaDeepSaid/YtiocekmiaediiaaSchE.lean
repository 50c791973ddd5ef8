/-
  Walk of the law on schemas by nesting (layer 2).
-/
import Derived.Test.YtiocekmiaediiaaSchD
import Derived.Test.YtiocekmiaediiaaLp
set_option linter.unusedVariables false
set_option linter.unusedSimpArgs false
namespace Go.Proofs.Ytiocekmiaediiaa
open Go Go.MV
def nestS (p : Nat → Bool) : Nat → Sch
  | 0 => .mk 1 []
  | i + 1 => if p i = true then .mk 4 [nestS p i] else .mk 5 [.mk 2 [], nestS p i]
theorem nest_depth (p : Nat → Bool) : ∀ k, depth (nestS p k) = k + 1
  | 0 => by simp [nestS, depth, depthL]
  | k + 1 => by
    have ih := nest_depth p k
    unfold nestS
    split
    · simp only [depth, depthL, ih]; omega
    · simp only [depth, depthL, ih]; omega
theorem nest_is (p : Nat → Bool) : ∀ k n, isF n (nestS p k) = decide (k + 1 ≤ n)
  | 0, 0 => by simp [isF]
  | 0, n + 1 => by simp [nestS, isF, partsF]
  | k + 1, 0 => by simp [isF]
  | k + 1, n + 1 => by
    have ih := nest_is p k n
    unfold nestS
    split
    · simp [isF, partsF, ih]
    · cases n with
      | zero => simp [isF]
      | succ n => simp [isF, partsF, ih] <;> (intros; omega)
theorem cause_is (s : Sch) : isF 16 (causeS s) = isF 14 s := by
  simp [causeS, isF, partsF]
def bitP (w : Int) (i : Nat) : Bool := IntKind.u32.wrap (BitVec.ofInt IntKind.u32.bits (w.fdiv (2 ^ min ((i % 32 : Nat) : Int).toNat IntKind.u32.bits)) &&& BitVec.ofInt IntKind.u32.bits 1).toNat == 1


theorem SchemaDeep_spec (n : Nat) (hn : n ≤ 255) (w : Int) (S : MS) : MCalls Try.prog 4 [.int .u8 (n : Int), .int .u32 w] S fun v σ' => v = .bool true ∧ σ' = S := by
  refine mcalls_body Try.func4 rfl Try.ntmps4 (Nat.le_of_ble_eq_true rfl) ?_
  refine mwp_seq ?_
  refine mwp_region rfl ?_   -- region 0
  refine wOps_op rfl (op_assign rfl rfl ?_)   -- t4 ← assign const bool false
  refine wOps_nil ?_
  refine mwp_seq ?_
  refine mwp_seq ?_
  refine mwp_region rfl ?_   -- region 1
  refine wOps_op rfl (op_call rfl rfl rfl co7 ((known_spec _).mono ?_))   -- t9 ← call ('rec', {'callee': ('app', 'value', [('app', 'func', [7])]),
  rintro _ _ ⟨rfl, rfl⟩
  refine wOps_op rfl (op_not rfl rfl ?_)   -- t10 ← unOp not 4 tmp 9
  refine wOps_nil ?_
  refine mwp_cond_f rfl (rfl) ?_   -- if t10
  refine mwp_skip ?_
  refine mwp_seq ?_
  refine mwp_region rfl ?_   -- region 3
  refine wOps_op rfl (op_move rfl rfl ?_)   -- t11 ← move tmp 0
  refine wOps_op rfl (op_rem rfl rfl rfl (by decide) (nat_tmod n 20) ?_)   -- t12 ← binOp rem 5 tmp 11 const int u8 20 5
  refine wOps_op rfl (op_convInt rfl Try.underlying5 Try.underlying3 rfl (wrap_i64 (by omega)) ?_)   -- t13 ← convert 5 3 tmp 12
  refine wOps_op rfl (op_assign rfl rfl ?_)   -- t5 ← assign tmp 13
  refine wOps_nil ?_
  refine mwp_seq ?_
  refine mwp_region rfl ?_   -- region 4
  refine wOps_op rfl (op_build rfl Try.underlying24 zm24 (.cons fo24_0 sz3 rfl rfl (by decide) .nil) (by kernel_rfl) ?_)   -- t14 ← build 24 [(0,const int i64 1)]
  refine wOps_op rfl (op_alloc' rfl zm24 rfl rfl ?_)   -- t6 ← alloc 24
  refine wOps_op rfl (op_store' rfl rfl rfl rfl sz24 rfl rfl (Nat.le_of_ble_eq_true rfl) rfl ?_)   -- store 24 tmp 6 tmp 14
  refine wOps_nil ?_
  refine mwp_seq ?_
  refine mwp_seq ?_
  refine mwp_own_sub 0 rfl (.cons (.refl _) (.cons (.nil 2) .nil)) rfl ?_
  refine mwp_region rfl ?_   -- region 5
  refine wOps_op rfl (op_assign rfl rfl ?_)   -- t7 ← assign const int i64 0
  refine wOps_nil ?_
  refine mwp_block ?_   -- block 0
  refine mwp_loopK (α := Nat × Int × List Sch) [(1, _), (5, _), (6, _)] (fun x => [(7, .int .i64 (x.1 : Int))]) (fun x => [.cells [.int .i64 x.2.1, .lst none 2 (encSs x.2.2)]]) (fun x => x.1 ≤ n % 20 ∧ nestS (bitP w) x.1 = .mk x.2.1 x.2.2) (fun x => n % 20 - x.1) (⟨0, 1, []⟩) (.keep rfl (.keep rfl (.keep rfl (.nil)))) (.keep rfl (.nil)) (⟨by omega, rfl⟩) rfl ?_
  rintro ⟨i, k0, ins0⟩ ⟨hi, hs⟩
  dsimp only at hi hs ⊢
  refine mwp_seq ?_
  refine mwp_seq ?_
  refine mwp_region rfl ?_   -- region 6
  refine wOps_op rfl (op_move rfl rfl ?_)   -- t15 ← move tmp 7
  refine wOps_op rfl (op_move rfl rfl ?_)   -- t16 ← move tmp 5
  refine wOps_op rfl (op_cmp rfl rfl rfl rfl ?_)   -- t17 ← binOp lss 3 tmp 15 tmp 16 3
  refine wOps_nil ?_
  refine mwp_cond_split rfl (fun h17 => ?_) (fun h17 => ?_)   -- if t17
  · -- yes
    have hlt : i < n % 20 := by simp at h17; omega
    have hlt2 : i < maxLen := by simp only [maxLen]; omega
    refine mwp_skip ?_
    refine mwp_seq ?_
    refine mwp_block ?_   -- block 1
    refine mwp_seq ?_
    refine mwp_region rfl ?_   -- region 8
    refine wOps_op rfl (op_move rfl rfl ?_)   -- t20 ← move tmp 1
    refine wOps_op rfl (op_move rfl rfl ?_)   -- t21 ← move tmp 7
    refine wOps_op rfl (op_rem rfl rfl rfl (by decide) (nat_tmod i 32) ?_)   -- t22 ← binOp rem 3 tmp 21 const int i64 32 3
    refine wOps_op rfl (op_convInt rfl Try.underlying3 Try.underlying31 rfl (wrap_u64 (by omega)) ?_)   -- t23 ← convert 3 31 tmp 22
    refine wOps_op rfl (op_shr rfl rfl rfl (by omega) rfl ?_)   -- t24 ← binOp shr 30 tmp 20 tmp 23 31
    refine wOps_op rfl (op_bits rfl rfl rfl rfl ?_)   -- t25 ← binOp and 30 tmp 24 const int u32 1 30
    refine wOps_op rfl (op_cmp rfl rfl rfl rfl ?_)   -- t26 ← binOp eql 30 tmp 25 const int u32 1 30
    refine wOps_nil ?_
    refine mwp_cond_split rfl (fun h26 => ?_) (fun h26 => ?_)   -- if t26
    · -- yes
      refine mwp_region rfl ?_   -- region 9
      refine wOps_op rfl (op_load' rfl rfl rfl ta24 rfl ?_)   -- t27 ← load 24 tmp 6
      refine wOps_op rfl (op_buildSlice rfl Try.underlying22 el24 rfl rfl (by decide) (by decide) rfl rfl ?_)   -- t28 ← buildSlice 22 1 [(0,tmp 27)]
      refine wOps_op rfl (op_build rfl Try.underlying24 zm24 (.cons fo24_0 sz3 rfl rfl (by decide) (.cons fo24_1 sz22 rfl rfl (by decide) .nil)) (by kernel_rfl) ?_)   -- t29 ← build 24 [(0,const int i64 4),(1,tmp 28)]
      refine wOps_op rfl (op_store' rfl rfl rfl rfl sz24 rfl rfl (Nat.le_of_ble_eq_true rfl) rfl ?_)   -- store 24 tmp 6 tmp 29
      refine wOps_nil ?_
      first | refine mwp_own_sub 0 rfl (.cons (.refl _) (.cons (.lstE (.agg (.cons (.refl _) (.cons (.nil 2) .nil)) (.same .nil)) rfl) .nil)) rfl ?_ | skip
      refine mwp_region rfl ?_   -- region 7
      refine wOps_op rfl (op_move rfl rfl ?_)   -- t18 ← move tmp 7
      refine wOps_op rfl (op_arith rfl rfl rfl rfl ?_)   -- t19 ← binOp add 3 tmp 18 const int i64 1 3
      refine wOps_op rfl (op_assign rfl rfl ?_)   -- t7 ← assign tmp 19
      refine wOps_nil ?_
      refine ⟨⟨i + 1, 4, [.mk k0 ins0]⟩, by simp only; omega, ⟨by simp only; omega, by simp only [nestS]; rw [if_pos (show bitP w i = true from h26), hs]⟩, rfl, (.keep rfl (.keep rfl (.keep rfl (.nil)))), (.eq rfl (int_succ hlt2 (Nat.le_refl _)) (.nil))⟩
    · -- no
      refine mwp_region rfl ?_   -- region 10
      refine wOps_op rfl (op_build rfl Try.underlying24 zm24 (.cons fo24_0 sz3 rfl rfl (by decide) .nil) (by kernel_rfl) ?_)   -- t30 ← build 24 [(0,const int i64 2)]
      refine wOps_op rfl (op_load' rfl rfl rfl ta24 rfl ?_)   -- t31 ← load 24 tmp 6
      refine wOps_op rfl (op_buildSlice rfl Try.underlying22 el24 rfl rfl (by decide) (by decide) rfl rfl ?_)   -- t32 ← buildSlice 22 2 [(0,tmp 30),(1,tmp 31)]
      refine wOps_op rfl (op_build rfl Try.underlying24 zm24 (.cons fo24_0 sz3 rfl rfl (by decide) (.cons fo24_1 sz22 rfl rfl (by decide) .nil)) (by kernel_rfl) ?_)   -- t33 ← build 24 [(0,const int i64 5),(1,tmp 32)]
      refine wOps_op rfl (op_store' rfl rfl rfl rfl sz24 rfl rfl (Nat.le_of_ble_eq_true rfl) rfl ?_)   -- store 24 tmp 6 tmp 33
      refine wOps_nil ?_
      first | refine mwp_own_sub 0 rfl (.cons (.refl _) (.cons (.lstE (.agg (.cons (.refl _) (.cons (.nil 2) .nil)) (.same .nil)) rfl) .nil)) rfl ?_ | skip
      refine mwp_region rfl ?_   -- region 7
      refine wOps_op rfl (op_move rfl rfl ?_)   -- t18 ← move tmp 7
      refine wOps_op rfl (op_arith rfl rfl rfl rfl ?_)   -- t19 ← binOp add 3 tmp 18 const int i64 1 3
      refine wOps_op rfl (op_assign rfl rfl ?_)   -- t7 ← assign tmp 19
      refine wOps_nil ?_
      refine ⟨⟨i + 1, 5, [.mk 2 [], .mk k0 ins0]⟩, by simp only; omega, ⟨by simp only; omega, by simp only [nestS]; rw [if_neg (by rw [show bitP w i = false from h26]; simp), hs]⟩, rfl, (.keep rfl (.keep rfl (.keep rfl (.nil)))), (.eq rfl (int_succ hlt2 (Nat.le_refl _)) (.nil))⟩
  · -- no
    have hge : i = n % 20 := by simp at h17; omega
    have hI1 : isF 16 (.mk k0 ins0) = decide (((n % 20 + 1 : Nat) : Int) ≤ 16) := by rw [← hs, nest_is, hge]; simp only [decide_eq_decide]; omega
    have hD : min 17 (depth (.mk k0 ins0)) = min (n % 20 + 1) 17 := by rw [← hs, nest_depth, hge]; omega
    have hmin : (if (17 : Int) < ((n % 20 + 1 : Nat) : Int) then (17 : Int) else ((n % 20 + 1 : Nat) : Int)) = ((min (n % 20 + 1) 17 : Nat) : Int) := by split <;> omega
    have hmax : (if (2 : Int) > ((n % 20 + 1 : Nat) : Int) then (2 : Int) else ((n % 20 + 1 : Nat) : Int)) = ((max (n % 20 + 1) 2 : Nat) : Int) := by split <;> omega
    have hI2 : isF 16 (causeS (.mk k0 ins0)) = decide (((max (n % 20 + 1) 2 + 2 : Nat) : Int) ≤ 16) := by rw [cause_is, ← hs, nest_is, hge]; simp only [decide_eq_decide]; omega
    refine mwp_exit ?_
    refine mwp_seq ?_
    refine mwp_region rfl ?_   -- region 11
    refine wOps_op rfl (op_load' rfl rfl rfl ta24 rfl ?_)   -- t34 ← load 24 tmp 6
    refine wOps_op rfl (op_call rfl rfl rfl co16 ((Cause_spec (.mk k0 ins0) _).mono ?_))   -- t35 ← call ('rec', {'callee': ('app', 'value', [('app', 'func', [16])])
    rintro _ _ ⟨rfl, rfl⟩
    refine wOps_op rfl (op_alloc' rfl zm24 rfl rfl ?_)   -- t8 ← alloc 24
    refine wOps_op rfl (op_store' rfl rfl rfl rfl sz24 rfl rfl (Nat.le_of_ble_eq_true rfl) rfl ?_)   -- store 24 tmp 8 tmp 35
    refine wOps_nil ?_
    refine mwp_seq ?_
    cases hc : isF 16 (causeS (.mk k0 ins0))
    ·
      have hc2 : decide (((max (n % 20 + 1) 2 + 2 : Nat) : Int) ≤ 16) = false := by rw [← hI2, hc]
      refine mwp_region rfl ?_   -- region 12
      refine wOps_op rfl (op_load' rfl rfl rfl ta24 rfl ?_)   -- t36 ← load 24 tmp 6
      refine wOps_op rfl (op_call rfl rfl rfl co8 ((Is_spec (.mk k0 ins0) _).mono ?_))   -- t37 ← call ('rec', {'callee': ('app', 'value', [('app', 'func', [8])]),
      rintro _ _ ⟨rfl, rfl⟩
      rw [hI1]
      refine wOps_op rfl (op_move rfl rfl ?_)   -- t38 ← move tmp 5
      refine wOps_op rfl (op_arith rfl rfl rfl (wadd (a := n % 20) (b := 1) rfl (by omega)) ?_)   -- t39 ← binOp add 3 tmp 38 const int i64 1 3
      refine wOps_op rfl (op_cmp rfl rfl rfl rfl ?_)   -- t40 ← binOp leq 3 tmp 39 const int i64 16 3
      refine wOps_op rfl (op_booleq rfl Try.underlying4 rfl rfl ?_)   -- t41 ← binOp eql 4 tmp 37 tmp 40 4
      rw [beq_self_eq_true]
      refine wOps_op rfl (op_move rfl rfl ?_)   -- t42 ← move tmp 41
      refine wOps_op rfl (op_load' rfl rfl rfl ta24 rfl ?_)   -- t43 ← load 24 tmp 6  GUARD
      refine wOps_op rfl (op_call rfl rfl rfl co10 ((Deep_spec (.mk k0 ins0) _).mono ?_))   -- t44 ← call ('rec', {'callee': ('app', 'value', [('app', 'func', [10])])  GUARD
      rintro _ _ ⟨rfl, rfl⟩
      rw [hD]
      refine wOps_op rfl (op_move rfl rfl ?_)   -- t45 ← move tmp 5  GUARD
      refine wOps_op rfl (op_arith rfl rfl rfl (wadd (a := n % 20) (b := 1) rfl (by omega)) ?_)   -- t46 ← binOp add 3 tmp 45 const int i64 1 3  GUARD
      refine wOps_op rfl (op_min2' rfl rfl rfl (hmin) ?_)   -- t47 ← call ('rec', {'callee': ('app', 'builtin', [('id', 'Go.Builtin.mi  GUARD
      refine wOps_op rfl (op_cmp rfl rfl rfl rfl ?_)   -- t48 ← binOp eql 3 tmp 44 tmp 47 3  GUARD
      rw [beq_self_eq_true]
      refine wOps_op rfl (op_pick rfl rfl rfl ?_)   -- t49 ← pick tmp 42 tmp 48 const bool false
      refine wOps_op rfl (op_move rfl rfl ?_)   -- t50 ← move tmp 49
      refine wOps_op rfl (op_load' rfl rfl rfl ta24 rfl ?_)   -- t51 ← load 24 tmp 8  GUARD
      refine wOps_op rfl (op_call rfl rfl rfl co8 ((Is_spec (causeS (.mk k0 ins0)) _).mono ?_))   -- t52 ← call ('rec', {'callee': ('app', 'value', [('app', 'func', [8])]),  GUARD
      rintro _ _ ⟨rfl, rfl⟩
      rw [hc]
      refine wOps_op rfl (op_move rfl rfl ?_)   -- t53 ← move tmp 5  GUARD
      refine wOps_op rfl (op_arith rfl rfl rfl (wadd (a := n % 20) (b := 1) rfl (by omega)) ?_)   -- t54 ← binOp add 3 tmp 53 const int i64 1 3  GUARD
      refine wOps_op rfl (op_max2' rfl rfl rfl (hmax) ?_)   -- t55 ← call ('rec', {'callee': ('app', 'builtin', [('id', 'Go.Builtin.ma  GUARD
      refine wOps_op rfl (op_arith rfl rfl rfl (wadd (a := max (n % 20 + 1) 2) (b := 2) rfl (by omega)) ?_)   -- t56 ← binOp add 3 tmp 55 const int i64 2 3  GUARD
      refine wOps_op rfl (op_cmp rfl rfl rfl rfl ?_)   -- t57 ← binOp leq 3 tmp 56 const int i64 16 3  GUARD
      rw [hc2]
      refine wOps_op rfl (op_booleq rfl Try.underlying4 rfl rfl ?_)   -- t58 ← binOp eql 4 tmp 52 tmp 57 4  GUARD
      refine wOps_op rfl (op_pick rfl rfl rfl ?_)   -- t59 ← pick tmp 50 tmp 58 const bool false
      refine wOps_op rfl (op_move rfl rfl ?_)   -- t60 ← move tmp 59
      refine wOps_op rfl (op_load' rfl rfl rfl ta24 rfl ?_)   -- t61 ← load 24 tmp 8  GUARD
      refine wOps_op rfl (op_call rfl rfl rfl co8 ((Is_spec (causeS (.mk k0 ins0)) _).mono ?_))   -- t62 ← call ('rec', {'callee': ('app', 'value', [('app', 'func', [8])]),  GUARD
      rintro _ _ ⟨rfl, rfl⟩
      rw [hc]
      refine wOps_op rfl (op_not rfl rfl ?_)   -- t63 ← unOp not 4 tmp 62  GUARD
      refine wOps_op rfl (op_move rfl rfl ?_)   -- t64 ← move tmp 63  GUARD
      refine wOps_skip rfl ?_
      refine wOps_skip rfl ?_
      refine wOps_skip rfl ?_
      refine wOps_op rfl (op_pick rfl rfl rfl ?_)   -- t68 ← pick tmp 64 const bool true tmp 67  GUARD
      refine wOps_op rfl (op_pick rfl rfl rfl ?_)   -- t69 ← pick tmp 60 tmp 68 const bool false
      refine wOps_op rfl (op_assign rfl rfl ?_)   -- t4 ← assign tmp 69
      refine wOps_nil ?_
      refine mwp_ret ?_
      exact ret_tmp (.inr rfl) Try.results4 rfl (.refl _) (.bool _) ⟨rfl, rfl⟩
    ·
      have hc2 : decide (((max (n % 20 + 1) 2 + 2 : Nat) : Int) ≤ 16) = true := by rw [← hI2, hc]
      have hl : levelF (causeS (.mk k0 ins0)) = 3 := by simp only [levelF, hc]; simp [causeS]
      refine mwp_region rfl ?_   -- region 12
      refine wOps_op rfl (op_load' rfl rfl rfl ta24 rfl ?_)   -- t36 ← load 24 tmp 6
      refine wOps_op rfl (op_call rfl rfl rfl co8 ((Is_spec (.mk k0 ins0) _).mono ?_))   -- t37 ← call ('rec', {'callee': ('app', 'value', [('app', 'func', [8])]),
      rintro _ _ ⟨rfl, rfl⟩
      rw [hI1]
      refine wOps_op rfl (op_move rfl rfl ?_)   -- t38 ← move tmp 5
      refine wOps_op rfl (op_arith rfl rfl rfl (wadd (a := n % 20) (b := 1) rfl (by omega)) ?_)   -- t39 ← binOp add 3 tmp 38 const int i64 1 3
      refine wOps_op rfl (op_cmp rfl rfl rfl rfl ?_)   -- t40 ← binOp leq 3 tmp 39 const int i64 16 3
      refine wOps_op rfl (op_booleq rfl Try.underlying4 rfl rfl ?_)   -- t41 ← binOp eql 4 tmp 37 tmp 40 4
      rw [beq_self_eq_true]
      refine wOps_op rfl (op_move rfl rfl ?_)   -- t42 ← move tmp 41
      refine wOps_op rfl (op_load' rfl rfl rfl ta24 rfl ?_)   -- t43 ← load 24 tmp 6  GUARD
      refine wOps_op rfl (op_call rfl rfl rfl co10 ((Deep_spec (.mk k0 ins0) _).mono ?_))   -- t44 ← call ('rec', {'callee': ('app', 'value', [('app', 'func', [10])])  GUARD
      rintro _ _ ⟨rfl, rfl⟩
      rw [hD]
      refine wOps_op rfl (op_move rfl rfl ?_)   -- t45 ← move tmp 5  GUARD
      refine wOps_op rfl (op_arith rfl rfl rfl (wadd (a := n % 20) (b := 1) rfl (by omega)) ?_)   -- t46 ← binOp add 3 tmp 45 const int i64 1 3  GUARD
      refine wOps_op rfl (op_min2' rfl rfl rfl (hmin) ?_)   -- t47 ← call ('rec', {'callee': ('app', 'builtin', [('id', 'Go.Builtin.mi  GUARD
      refine wOps_op rfl (op_cmp rfl rfl rfl rfl ?_)   -- t48 ← binOp eql 3 tmp 44 tmp 47 3  GUARD
      rw [beq_self_eq_true]
      refine wOps_op rfl (op_pick rfl rfl rfl ?_)   -- t49 ← pick tmp 42 tmp 48 const bool false
      refine wOps_op rfl (op_move rfl rfl ?_)   -- t50 ← move tmp 49
      refine wOps_op rfl (op_load' rfl rfl rfl ta24 rfl ?_)   -- t51 ← load 24 tmp 8  GUARD
      refine wOps_op rfl (op_call rfl rfl rfl co8 ((Is_spec (causeS (.mk k0 ins0)) _).mono ?_))   -- t52 ← call ('rec', {'callee': ('app', 'value', [('app', 'func', [8])]),  GUARD
      rintro _ _ ⟨rfl, rfl⟩
      rw [hc]
      refine wOps_op rfl (op_move rfl rfl ?_)   -- t53 ← move tmp 5  GUARD
      refine wOps_op rfl (op_arith rfl rfl rfl (wadd (a := n % 20) (b := 1) rfl (by omega)) ?_)   -- t54 ← binOp add 3 tmp 53 const int i64 1 3  GUARD
      refine wOps_op rfl (op_max2' rfl rfl rfl (hmax) ?_)   -- t55 ← call ('rec', {'callee': ('app', 'builtin', [('id', 'Go.Builtin.ma  GUARD
      refine wOps_op rfl (op_arith rfl rfl rfl (wadd (a := max (n % 20 + 1) 2) (b := 2) rfl (by omega)) ?_)   -- t56 ← binOp add 3 tmp 55 const int i64 2 3  GUARD
      refine wOps_op rfl (op_cmp rfl rfl rfl rfl ?_)   -- t57 ← binOp leq 3 tmp 56 const int i64 16 3  GUARD
      rw [hc2]
      refine wOps_op rfl (op_booleq rfl Try.underlying4 rfl rfl ?_)   -- t58 ← binOp eql 4 tmp 52 tmp 57 4  GUARD
      refine wOps_op rfl (op_pick rfl rfl rfl ?_)   -- t59 ← pick tmp 50 tmp 58 const bool false
      refine wOps_op rfl (op_move rfl rfl ?_)   -- t60 ← move tmp 59
      refine wOps_op rfl (op_load' rfl rfl rfl ta24 rfl ?_)   -- t61 ← load 24 tmp 8  GUARD
      refine wOps_op rfl (op_call rfl rfl rfl co8 ((Is_spec (causeS (.mk k0 ins0)) _).mono ?_))   -- t62 ← call ('rec', {'callee': ('app', 'value', [('app', 'func', [8])]),  GUARD
      rintro _ _ ⟨rfl, rfl⟩
      rw [hc]
      refine wOps_op rfl (op_not rfl rfl ?_)   -- t63 ← unOp not 4 tmp 62  GUARD
      refine wOps_op rfl (op_move rfl rfl ?_)   -- t64 ← move tmp 63  GUARD
      refine wOps_op rfl (op_load' rfl rfl rfl ta24 rfl ?_)   -- t65 ← load 24 tmp 8  GUARD
      refine wOps_op rfl (op_call rfl rfl rfl co14 ((Level_spec (causeS (.mk k0 ins0)) _).mono ?_))   -- t66 ← call ('rec', {'callee': ('app', 'value', [('app', 'func', [14])])  GUARD
      rintro _ _ ⟨rfl, rfl⟩
      rw [hl]
      refine wOps_op rfl (op_cmp rfl rfl rfl rfl ?_)   -- t67 ← binOp eql 3 tmp 66 const int i64 3 3  GUARD
      refine wOps_op rfl (op_pick rfl rfl rfl ?_)   -- t68 ← pick tmp 64 const bool true tmp 67  GUARD
      refine wOps_op rfl (op_pick rfl rfl rfl ?_)   -- t69 ← pick tmp 60 tmp 68 const bool false
      refine wOps_op rfl (op_assign rfl rfl ?_)   -- t4 ← assign tmp 69
      refine wOps_nil ?_
      refine mwp_ret ?_
      exact ret_tmp (.inr rfl) Try.results4 rfl (.refl _) (.bool _) ⟨rfl, rfl⟩
end Go.Proofs.Ytiocekmiaediiaa
