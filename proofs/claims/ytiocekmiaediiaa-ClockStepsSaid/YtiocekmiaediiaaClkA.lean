/-
  Walks of package clock (layer 3).
-/
import Derived.Test.YtiocekmiaediiaaFacts
import Derived.Test.YtiocekmiaediiaaClkP
set_option linter.unusedVariables false
set_option linter.unusedSimpArgs false
namespace Go.Proofs.Ytiocekmiaediiaa
open Go Go.MV
theorem gtr_nil {α : Type} {en : α → MV} : intCmp .gtr (((([] : List α).map en).length : Nat) : Int) 0 = some false := rfl
theorem gtr_cons {α : Type} {en : α → MV} {x : α} {l : List α} : intCmp .gtr ((((x :: l).map en).length : Nat) : Int) 0 = some true := by simp [intCmp]
theorem merge_cons {α : Type} {cmp : α → α → Int} {bo : α → α → α} {x y : α} {a b : List α} : mergeF cmp bo (x :: a) (y :: b) = if cmp x y < 0 then x :: mergeF cmp bo a (y :: b) else if cmp x y > 0 then y :: mergeF cmp bo (x :: a) b else bo x y :: mergeF cmp bo a b := by rw [mergeF]


theorem clkIs_spec (c : List Tk) (S : MS) : MCalls Try.prog 19 [.lst none 2 (c.map encT)] S fun v σ' => v = .bool (isClockF c) ∧ σ' = S := by
  refine mcalls_body Try.func19 rfl Try.ntmps19 (Nat.le_of_ble_eq_true rfl) ?_
  refine mwp_len (t := 0) rfl fun hlen => ?_
  rw [List.length_map] at hlen
  refine mwp_seq ?_
  refine mwp_region rfl ?_   -- region 0
  refine wOps_op rfl (op_assign rfl rfl ?_)   -- t2 ← assign const bool false
  refine wOps_nil ?_
  refine mwp_seq ?_
  refine mwp_seq ?_
  refine mwp_region rfl ?_   -- region 1
  refine wOps_op rfl (op_move rfl rfl ?_)   -- t5 ← move tmp 0
  refine wOps_op rfl (op_len_lst rfl Try.underlying33 rfl ?_)   -- t6 ← call ('rec', {'callee': ('app', 'builtin', [('id', 'Go.Builtin.le
  refine wOps_op rfl (op_move rfl rfl ?_)   -- t7 ← move const int i64 0
  refine wOps_nil ?_
  refine mwp_block ?_   -- block 0
  refine mwp_loopKJ (α := Nat) [(0, _), (5, _), (6, _)] (fun i => [(7, .int .i64 (i : Int))]) (fun i => []) (fun i => i ≤ c.length ∧ ∀ j, j < i → okAt c j = true) (fun i => c.length - i) (0) (Nat.le_refl _) (.keep rfl (.keep rfl (.keep rfl (.nil)))) (.keep rfl (.nil)) (⟨by omega, fun j hj => by omega⟩) rfl ?_
  rintro i ⟨hi, hall⟩
  refine mwp_seq ?_
  refine mwp_region rfl ?_   -- region 2
  refine wOps_op rfl (op_cmp rfl rfl rfl rfl ?_)   -- t8 ← binOp lss 3 tmp 7 tmp 6 3
  refine wOps_nil ?_
  refine mwp_seq ?_
  refine mwp_cond_split rfl (fun h8 => ?_) (fun h8 => ?_)   -- if t8
  · -- yes
    have hlt : i < c.length := by simpa using h8
    obtain ⟨t, hs⟩ : ∃ q_, c[i]? = some q_ := ⟨_, List.getElem?_eq_getElem hlt⟩
    refine mwp_skip ?_
    refine mwp_seq ?_
    refine mwp_block ?_   -- block 1
    refine mwp_seq ?_
    refine mwp_region rfl ?_   -- region 3
    refine wOps_op rfl (op_move rfl rfl ?_)   -- t9 ← move tmp 7
    refine wOps_op rfl (op_indexAddr rfl Try.underlying33 sz45 (by decide) rfl rfl rfl (get_map hs) ?_)   -- t10 ← indexAddr 33 tmp 5 tmp 7
    refine wOps_op rfl (op_load_sptr rfl rfl ta45 rfl ?_)   -- t11 ← load 45 tmp 10
    refine wOps_op rfl (op_alloc' rfl zm45 rfl rfl ?_)   -- t4 ← alloc 45
    refine wOps_op rfl (op_assign rfl rfl ?_)   -- t3 ← assign tmp 9
    refine wOps_op rfl (op_store' rfl rfl rfl rfl sz45 rfl rfl (Nat.le_of_ble_eq_true rfl) rfl ?_)   -- store 45 tmp 4 tmp 11
    refine wOps_nil ?_
    refine mwp_seq ?_
    refine mwp_draw [] [_] mo (by decide) rfl rfl rfl rfl ?_   -- region 4
    refine dOps_op rfl rfl (.cons (op_fieldAddr_ref rfl rfl fo45_0 ⟨rfl, rfl⟩) .nil) ?_   -- t12 ← fieldAddr 45 tmp 4 0
    refine dOps_op rfl rfl (.cons (op_load' rfl rfl rfl ta3 rfl ⟨rfl, rfl⟩) .nil) ?_   -- t13 ← load 3 tmp 12
    refine dOps_op rfl rfl (.cons (op_cmp rfl rfl rfl rfl ⟨rfl, rfl⟩) .nil) ?_   -- t14 ← binOp lss 3 tmp 13 const int i64 0 3
    refine dOps_op rfl rfl (.cons (op_move rfl rfl ⟨rfl, rfl⟩) .nil) ?_   -- t15 ← move tmp 14
    refine dOps_case (fun h15 => ?_) (fun h15 => ?_)
    ·
      refine dOps_skip rfl rfl ?_
      refine dOps_skip rfl rfl ?_
      refine dOps_skip rfl rfl ?_
      refine dOps_op rfl rfl (.cons (op_pick rfl rfl rfl ⟨rfl, rfl⟩) .nil) ?_   -- t19 ← pick tmp 15 const bool true tmp 18
      refine dOps_op rfl rfl (.cons (op_move rfl rfl ⟨rfl, rfl⟩) .nil) ?_   -- t20 ← move tmp 19
      refine dOps_skip rfl rfl ?_
      refine dOps_skip rfl rfl ?_
      refine dOps_skip rfl rfl ?_
      refine dOps_op rfl rfl (.cons (op_pick rfl rfl rfl ⟨rfl, rfl⟩) .nil) ?_   -- t24 ← pick tmp 20 const bool true tmp 23
      refine dOps_op rfl rfl (.cons (op_move rfl rfl ⟨rfl, rfl⟩) .nil) ?_   -- t25 ← move tmp 24
      refine dOps_skip rfl rfl ?_
      refine dOps_skip rfl rfl ?_
      refine dOps_skip rfl rfl ?_
      refine dOps_skip rfl rfl ?_
      refine dOps_skip rfl rfl ?_
      refine dOps_skip rfl rfl ?_
      refine dOps_skip rfl rfl ?_
      refine dOps_skip rfl rfl ?_
      refine dOps_skip rfl rfl ?_
      refine dOps_skip rfl rfl ?_
      refine dOps_skip rfl rfl ?_
      refine dOps_skip rfl rfl ?_
      refine dOps_skip rfl rfl ?_
      refine dOps_op rfl rfl (.cons (op_pick rfl rfl rfl ⟨rfl, rfl⟩) .nil) ?_   -- t39 ← pick tmp 25 const bool true tmp 38
      refine dOps_nil ?_
      refine mwp_cond_t rfl (rfl) ?_   -- if t39
      refine mwp_seq ?_
      refine mwp_region rfl ?_   -- region 5
      refine wOps_op rfl (op_assign rfl rfl ?_)   -- t2 ← assign const bool false
      refine wOps_nil ?_
      refine mwp_ret ?_
      exact ret_tmp (.inr rfl) Try.results19 rfl (.of_eq (by rw [isClock_false hlt (by simp_all [okAt] <;> omega)])) (.bool _) ⟨rfl, rfl⟩
    ·
      refine dOps_op rfl rfl (.cons (op_fieldAddr_ref rfl rfl fo45_0 ⟨rfl, rfl⟩) .nil) ?_   -- t16 ← fieldAddr 45 tmp 4 0  GUARD
      refine dOps_op rfl rfl (.cons (op_load' rfl rfl rfl ta3 rfl ⟨rfl, rfl⟩) .nil) ?_   -- t17 ← load 3 tmp 16  GUARD
      refine dOps_op rfl rfl (.cons (op_cmp rfl rfl rfl rfl ⟨rfl, rfl⟩) .nil) ?_   -- t18 ← binOp gtr 3 tmp 17 const int i64 1000000 3  GUARD
      refine dOps_op rfl rfl (.cons (op_pick rfl rfl rfl ⟨rfl, rfl⟩) .nil) ?_   -- t19 ← pick tmp 15 const bool true tmp 18
      refine dOps_op rfl rfl (.cons (op_move rfl rfl ⟨rfl, rfl⟩) .nil) ?_   -- t20 ← move tmp 19
      refine dOps_case (fun h20 => ?_) (fun h20 => ?_)
      ·
        refine dOps_skip rfl rfl ?_
        refine dOps_skip rfl rfl ?_
        refine dOps_skip rfl rfl ?_
        refine dOps_op rfl rfl (.cons (op_pick rfl rfl rfl ⟨rfl, rfl⟩) .nil) ?_   -- t24 ← pick tmp 20 const bool true tmp 23
        refine dOps_op rfl rfl (.cons (op_move rfl rfl ⟨rfl, rfl⟩) .nil) ?_   -- t25 ← move tmp 24
        refine dOps_skip rfl rfl ?_
        refine dOps_skip rfl rfl ?_
        refine dOps_skip rfl rfl ?_
        refine dOps_skip rfl rfl ?_
        refine dOps_skip rfl rfl ?_
        refine dOps_skip rfl rfl ?_
        refine dOps_skip rfl rfl ?_
        refine dOps_skip rfl rfl ?_
        refine dOps_skip rfl rfl ?_
        refine dOps_skip rfl rfl ?_
        refine dOps_skip rfl rfl ?_
        refine dOps_skip rfl rfl ?_
        refine dOps_skip rfl rfl ?_
        refine dOps_op rfl rfl (.cons (op_pick rfl rfl rfl ⟨rfl, rfl⟩) .nil) ?_   -- t39 ← pick tmp 25 const bool true tmp 38
        refine dOps_nil ?_
        refine mwp_cond_t rfl (rfl) ?_   -- if t39
        refine mwp_seq ?_
        refine mwp_region rfl ?_   -- region 5
        refine wOps_op rfl (op_assign rfl rfl ?_)   -- t2 ← assign const bool false
        refine wOps_nil ?_
        refine mwp_ret ?_
        exact ret_tmp (.inr rfl) Try.results19 rfl (.of_eq (by rw [isClock_false hlt (by simp_all [okAt] <;> omega)])) (.bool _) ⟨rfl, rfl⟩
      ·
        refine dOps_op rfl rfl (.cons (op_fieldAddr_ref rfl rfl fo45_1 ⟨rfl, rfl⟩) .nil) ?_   -- t21 ← fieldAddr 45 tmp 4 1  GUARD
        refine dOps_op rfl rfl (.cons (op_load' rfl rfl rfl ta36 rfl ⟨rfl, rfl⟩) .nil) ?_   -- t22 ← load 36 tmp 21  GUARD
        refine dOps_op rfl rfl (.cons (op_cmp rfl rfl rfl rfl ⟨rfl, rfl⟩) .nil) ?_   -- t23 ← binOp eql 36 tmp 22 const int u64 0 36  GUARD
        refine dOps_op rfl rfl (.cons (op_pick rfl rfl rfl ⟨rfl, rfl⟩) .nil) ?_   -- t24 ← pick tmp 20 const bool true tmp 23
        refine dOps_op rfl rfl (.cons (op_move rfl rfl ⟨rfl, rfl⟩) .nil) ?_   -- t25 ← move tmp 24
        refine dOps_case (fun h25 => ?_) (fun h25 => ?_)
        ·
          refine dOps_skip rfl rfl ?_
          refine dOps_skip rfl rfl ?_
          refine dOps_skip rfl rfl ?_
          refine dOps_skip rfl rfl ?_
          refine dOps_skip rfl rfl ?_
          refine dOps_skip rfl rfl ?_
          refine dOps_skip rfl rfl ?_
          refine dOps_skip rfl rfl ?_
          refine dOps_skip rfl rfl ?_
          refine dOps_skip rfl rfl ?_
          refine dOps_skip rfl rfl ?_
          refine dOps_skip rfl rfl ?_
          refine dOps_skip rfl rfl ?_
          refine dOps_op rfl rfl (.cons (op_pick rfl rfl rfl ⟨rfl, rfl⟩) .nil) ?_   -- t39 ← pick tmp 25 const bool true tmp 38
          refine dOps_nil ?_
          refine mwp_cond_t rfl (rfl) ?_   -- if t39
          refine mwp_seq ?_
          refine mwp_region rfl ?_   -- region 5
          refine wOps_op rfl (op_assign rfl rfl ?_)   -- t2 ← assign const bool false
          refine wOps_nil ?_
          refine mwp_ret ?_
          exact ret_tmp (.inr rfl) Try.results19 rfl (.of_eq (by rw [isClock_false hlt (by simp_all [okAt] <;> omega)])) (.bool _) ⟨rfl, rfl⟩
        ·
          refine dOps_op rfl rfl (.cons (op_move rfl rfl ⟨rfl, rfl⟩) .nil) ?_   -- t26 ← move tmp 3  GUARD
          refine dOps_op rfl rfl (.cons (op_cmp rfl rfl rfl rfl ⟨rfl, rfl⟩) .nil) ?_   -- t27 ← binOp gtr 3 tmp 26 const int i64 0 3  GUARD
          refine dOps_op rfl rfl (.cons (op_move rfl rfl ⟨rfl, rfl⟩) .nil) ?_   -- t28 ← move tmp 27  GUARD
          refine dOps_case (fun h28 => ?_) (fun h28 => ?_)
          ·
            have hi0 : 0 < i := by simpa using h28
            obtain ⟨p, hp⟩ : ∃ a, c[i - 1]? = some a := ⟨_, List.getElem?_eq_getElem (by omega)⟩
            refine dOps_op rfl rfl (.cons (op_fieldAddr_ref rfl rfl fo45_0 ⟨rfl, rfl⟩) .nil) ?_   -- t29 ← fieldAddr 45 tmp 4 0  GUARD
            refine dOps_op rfl rfl (.cons (op_load' rfl rfl rfl ta3 rfl ⟨rfl, rfl⟩) .nil) ?_   -- t30 ← load 3 tmp 29  GUARD
            refine dOps_op rfl rfl (.cons (op_move rfl rfl ⟨rfl, rfl⟩) .nil) ?_   -- t31 ← move tmp 0  GUARD
            refine dOps_op rfl rfl (.cons (op_move rfl rfl ⟨rfl, rfl⟩) .nil) ?_   -- t32 ← move tmp 3  GUARD
            refine dOps_op rfl rfl (.cons (op_arith rfl rfl rfl (wsub (a := i) (b := 1) (c := i - 1) (by omega) (by simp only [maxLen] at hlen; omega)) ⟨rfl, rfl⟩) .nil) ?_   -- t33 ← binOp sub 3 tmp 32 const int i64 1 3  GUARD
            refine dOps_op rfl rfl (.cons (op_indexAddr rfl Try.underlying33 sz45 (by decide) rfl rfl rfl (get_map hp) ⟨rfl, rfl⟩) .nil) ?_   -- t34 ← indexAddr 33 tmp 31 tmp 33  GUARD
            refine dOps_op rfl rfl (.cons (op_fieldAddr_sptr rfl rfl fo45_0 ⟨rfl, rfl⟩) .nil) ?_   -- t35 ← fieldAddr 45 tmp 34 0  GUARD
            refine dOps_op rfl rfl (.cons (op_load_sptr rfl rfl ta3 rfl ⟨rfl, rfl⟩) .nil) ?_   -- t36 ← load 3 tmp 35  GUARD
            refine dOps_op rfl rfl (.cons (op_cmp rfl rfl rfl rfl ⟨rfl, rfl⟩) .nil) ?_   -- t37 ← binOp leq 3 tmp 30 tmp 36 3  GUARD
            refine dOps_op rfl rfl (.cons (op_pick rfl rfl rfl ⟨rfl, rfl⟩) .nil) ?_   -- t38 ← pick tmp 28 tmp 37 const bool false  GUARD
            refine dOps_op rfl rfl (.cons (op_pick rfl rfl rfl ⟨rfl, rfl⟩) .nil) ?_   -- t39 ← pick tmp 25 const bool true tmp 38
            refine dOps_nil ?_
            refine mwp_cond_split rfl (fun h39 => ?_) (fun h39 => ?_)   -- if t39
            · -- yes
              refine mwp_seq ?_
              refine mwp_region rfl ?_   -- region 5
              refine wOps_op rfl (op_assign rfl rfl ?_)   -- t2 ← assign const bool false
              refine wOps_nil ?_
              refine mwp_ret ?_
              exact ret_tmp (.inr rfl) Try.results19 rfl (.of_eq (by rw [isClock_false hlt (by simp_all [okAt] <;> omega)])) (.bool _) ⟨rfl, rfl⟩
            · -- no
              refine mwp_skip ?_
              refine mwp_region rfl ?_   -- region 6
              refine wOps_op rfl (op_arith rfl rfl rfl rfl ?_)   -- t40 ← binOp add 3 tmp 7 const int i64 1 3
              refine wOps_op rfl (op_move rfl rfl ?_)   -- t7 ← move tmp 40
              refine wOps_nil ?_
              refine ⟨i + 1, _, by omega, ⟨by omega, fun j hj => ?_⟩, rfl, .nil, (.old rfl rfl (.old rfl rfl (.old rfl rfl (.nil)))), (.new' rfl (int_succ hlt hlen) (.int _ _) (.nil))⟩
              by_cases e : j = i
              · subst e; simp_all [okAt]
              · exact hall j (by omega)
          ·
            refine dOps_skip rfl rfl ?_
            refine dOps_skip rfl rfl ?_
            refine dOps_skip rfl rfl ?_
            refine dOps_skip rfl rfl ?_
            refine dOps_skip rfl rfl ?_
            refine dOps_skip rfl rfl ?_
            refine dOps_skip rfl rfl ?_
            refine dOps_skip rfl rfl ?_
            refine dOps_skip rfl rfl ?_
            refine dOps_op rfl rfl (.cons (op_pick rfl rfl rfl ⟨rfl, rfl⟩) .nil) ?_   -- t38 ← pick tmp 28 tmp 37 const bool false  GUARD
            refine dOps_op rfl rfl (.cons (op_pick rfl rfl rfl ⟨rfl, rfl⟩) .nil) ?_   -- t39 ← pick tmp 25 const bool true tmp 38
            refine dOps_nil ?_
            refine mwp_cond_f rfl (rfl) ?_   -- if t39
            refine mwp_skip ?_
            refine mwp_region rfl ?_   -- region 6
            refine wOps_op rfl (op_arith rfl rfl rfl rfl ?_)   -- t40 ← binOp add 3 tmp 7 const int i64 1 3
            refine wOps_op rfl (op_move rfl rfl ?_)   -- t7 ← move tmp 40
            refine wOps_nil ?_
            refine ⟨i + 1, _, by omega, ⟨by omega, fun j hj => ?_⟩, rfl, .nil, (.old rfl rfl (.old rfl rfl (.old rfl rfl (.nil)))), (.new' rfl (int_succ hlt hlen) (.int _ _) (.nil))⟩
            by_cases e : j = i
            · subst e; simp_all [okAt]
            · exact hall j (by omega)
  · -- no
    have hge : i = c.length := by simp at h8; omega
    refine mwp_exit ?_
    refine mwp_seq ?_
    refine mwp_region rfl ?_   -- region 7
    refine wOps_op rfl (op_move rfl rfl ?_)   -- t41 ← move tmp 0
    refine wOps_op rfl (op_len_lst rfl Try.underlying33 rfl ?_)   -- t42 ← call ('rec', {'callee': ('app', 'builtin', [('id', 'Go.Builtin.le
    refine wOps_op rfl (op_cmp rfl rfl rfl rfl ?_)   -- t43 ← binOp leq 3 tmp 42 const int i64 40 3
    refine wOps_op rfl (op_assign rfl rfl ?_)   -- t2 ← assign tmp 43
    refine wOps_nil ?_
    refine mwp_ret ?_
    exact ret_tmp (.inr rfl) Try.results19 rfl (.of_eq (by rw [isClock_end (fun j hj => hall j (by omega)), List.length_map])) (.bool _) ⟨rfl, rfl⟩

theorem tEqual_spec (a b : List Tk) (S : MS) : MCalls Try.prog 36 [.lst none 2 (a.map encT), .lst none 2 (b.map encT)] S fun v σ' => v = .bool (decide (a = b)) ∧ σ' = S := by
  refine mcalls_body Try.func36 rfl Try.ntmps36 (Nat.le_of_ble_eq_true rfl) ?_
  refine mwp_len (t := 0) rfl fun hlen => ?_
  rw [List.length_map] at hlen
  refine mwp_seq ?_
  refine mwp_region rfl ?_   -- region 0
  refine wOps_op rfl (op_assign rfl rfl ?_)   -- t4 ← assign const bool false
  refine wOps_nil ?_
  refine mwp_seq ?_
  refine mwp_seq ?_
  refine mwp_region rfl ?_   -- region 1
  refine wOps_op rfl (op_move rfl rfl ?_)   -- t6 ← move tmp 0
  refine wOps_op rfl (op_len_lst rfl Try.underlying33 rfl ?_)   -- t7 ← call ('rec', {'callee': ('app', 'builtin', [('id', 'Go.Builtin.le
  refine wOps_op rfl (op_move rfl rfl ?_)   -- t8 ← move tmp 1
  refine wOps_op rfl (op_len_lst rfl Try.underlying33 rfl ?_)   -- t9 ← call ('rec', {'callee': ('app', 'builtin', [('id', 'Go.Builtin.le
  refine wOps_op rfl (op_cmp rfl rfl rfl rfl ?_)   -- t10 ← binOp neq 3 tmp 7 tmp 9 3
  refine wOps_nil ?_
  refine mwp_cond_split rfl (fun h10 => ?_) (fun h10 => ?_)   -- if t10
  · -- yes
    refine mwp_seq ?_
    refine mwp_region rfl ?_   -- region 2
    refine wOps_op rfl (op_assign rfl rfl ?_)   -- t4 ← assign const bool false
    refine wOps_nil ?_
    refine mwp_ret ?_
    exact ret_tmp (.inr rfl) Try.results36 rfl (.of_eq (by congr 1; symm; rw [decide_eq_false_iff_not]; intro e; subst e; simp at h10)) (.bool _) ⟨rfl, rfl⟩
  · -- no
    have hab : a.length = b.length := by simp at h10; omega
    refine mwp_skip ?_
    refine mwp_seq ?_
    refine mwp_seq ?_
    refine mwp_region rfl ?_   -- region 3
    refine wOps_op rfl (op_move rfl rfl ?_)   -- t11 ← move tmp 0
    refine wOps_op rfl (op_len_lst rfl Try.underlying33 rfl ?_)   -- t12 ← call ('rec', {'callee': ('app', 'builtin', [('id', 'Go.Builtin.le
    refine wOps_op rfl (op_move rfl rfl ?_)   -- t13 ← move const int i64 0
    refine wOps_nil ?_
    refine mwp_block ?_   -- block 0
    refine mwp_loopK (α := Nat) [(0, _), (1, _), (12, _)] (fun i => [(13, .int .i64 (i : Int))]) (fun i => []) (fun i => i ≤ a.length ∧ a.take i = b.take i) (fun i => a.length - i) (0) (.keep rfl (.keep rfl (.keep rfl (.nil)))) (.keep rfl (.nil)) (⟨by omega, rfl⟩) rfl ?_
    rintro i ⟨hi, heq⟩
    refine mwp_seq ?_
    refine mwp_region rfl ?_   -- region 4
    refine wOps_op rfl (op_cmp rfl rfl rfl rfl ?_)   -- t14 ← binOp lss 3 tmp 13 tmp 12 3
    refine wOps_nil ?_
    refine mwp_seq ?_
    refine mwp_cond_split rfl (fun h14 => ?_) (fun h14 => ?_)   -- if t14
    · -- yes
      have hlt : i < a.length := by simpa using h14
      obtain ⟨x, hs⟩ : ∃ q_, a[i]? = some q_ := ⟨_, List.getElem?_eq_getElem hlt⟩
      obtain ⟨y, hs2⟩ : ∃ s, b[i]? = some s := ⟨_, List.getElem?_eq_getElem (by omega)⟩
      refine mwp_skip ?_
      refine mwp_seq ?_
      refine mwp_block ?_   -- block 1
      refine mwp_seq ?_
      refine mwp_region rfl ?_   -- region 5
      refine wOps_op rfl (op_move rfl rfl ?_)   -- t15 ← move tmp 13
      refine wOps_op rfl (op_assign rfl rfl ?_)   -- t5 ← assign tmp 15
      refine wOps_nil ?_
      refine mwp_seq ?_
      refine mwp_draw [] [_] mo (by decide) rfl rfl rfl rfl ?_   -- region 6
      refine dOps_op rfl rfl (.cons (op_move rfl rfl ⟨rfl, rfl⟩) .nil) ?_   -- t16 ← move tmp 0
      refine dOps_op rfl rfl (.cons (op_move rfl rfl ⟨rfl, rfl⟩) .nil) ?_   -- t17 ← move tmp 5
      refine dOps_op rfl rfl (.cons (op_indexAddr rfl Try.underlying33 sz45 (by decide) rfl rfl rfl (get_map hs) ⟨rfl, rfl⟩) .nil) ?_   -- t18 ← indexAddr 33 tmp 16 tmp 17
      refine dOps_op rfl rfl (.cons (op_load_sptr rfl rfl ta45 rfl ⟨rfl, rfl⟩) .nil) ?_   -- t19 ← load 45 tmp 18
      refine dOps_op rfl rfl (.cons (op_move rfl rfl ⟨rfl, rfl⟩) .nil) ?_   -- t20 ← move tmp 1
      refine dOps_op rfl rfl (.cons (op_move rfl rfl ⟨rfl, rfl⟩) .nil) ?_   -- t21 ← move tmp 5
      refine dOps_op rfl rfl (.cons (op_indexAddr rfl Try.underlying33 sz45 (by decide) rfl rfl rfl (get_map hs2) ⟨rfl, rfl⟩) .nil) ?_   -- t22 ← indexAddr 33 tmp 20 tmp 21
      refine dOps_op rfl rfl (.cons (op_load_sptr rfl rfl ta45 rfl ⟨rfl, rfl⟩) .nil) ?_   -- t23 ← load 45 tmp 22
      refine dOps_op rfl rfl (.cons (op_eqstruct rfl (by kernel_rfl) rfl rfl rfl (.inr ⟨rfl, rfl⟩) ⟨rfl, rfl⟩) .nil) ?_   -- t24 ← binOp neq 45 tmp 19 tmp 23 45
      refine dOps_nil ?_
      refine mwp_cond_split rfl (fun h24 => ?_) (fun h24 => ?_)   -- if t24
      · -- yes
        refine mwp_seq ?_
        refine mwp_region rfl ?_   -- region 7
        refine wOps_op rfl (op_assign rfl rfl ?_)   -- t4 ← assign const bool false
        refine wOps_nil ?_
        refine mwp_ret ?_
        exact ret_tmp (.inr rfl) Try.results36 rfl (.of_eq (by congr 1; symm; rw [decide_eq_false_iff_not]; intro e; subst e; rw [hs2] at hs; injection hs with hs; subst hs; simp at h24)) (.bool _) ⟨rfl, rfl⟩
      · -- no
        refine mwp_skip ?_
        refine mwp_region rfl ?_   -- region 8
        refine wOps_op rfl (op_arith rfl rfl rfl rfl ?_)   -- t25 ← binOp add 3 tmp 13 const int i64 1 3
        refine wOps_op rfl (op_move rfl rfl ?_)   -- t13 ← move tmp 25
        refine wOps_nil ?_
        refine ⟨i + 1, by omega, ⟨by omega, ?_⟩, rfl, (.keep rfl (.keep rfl (.keep rfl (.nil)))), (.eq rfl (int_succ hlt hlen) (.nil))⟩
        rw [List.take_add_one, List.take_add_one, hs, hs2, heq]
        obtain ⟨x1, x2⟩ := x; obtain ⟨y1, y2⟩ := y
        simp at h24
        rw [h24.1, h24.2]
    · -- no
      have hge : i = a.length := by simp at h14; omega
      refine mwp_exit ?_
      refine mwp_seq ?_
      refine mwp_region rfl ?_   -- region 9
      refine wOps_op rfl (op_assign rfl rfl ?_)   -- t4 ← assign const bool true
      refine wOps_nil ?_
      refine mwp_ret ?_
      exact ret_tmp (.inr rfl) Try.results36 rfl (.of_eq (by congr 1; symm; rw [decide_eq_true_iff]; rw [hge, List.take_length, hab, List.take_length] at heq; exact heq)) (.bool _) ⟨rfl, rfl⟩

theorem clkSame_spec (a b : List Tk) (S : MS) : MCalls Try.prog 21 [.lst none 2 (a.map encT), .lst none 2 (b.map encT)] S fun v σ' => v = .bool (decide (a = b)) ∧ σ' = S := by
  refine mcalls_body Try.func21 rfl Try.ntmps21 (Nat.le_of_ble_eq_true rfl) ?_
  refine mwp_seq ?_
  refine mwp_region rfl ?_   -- region 0
  refine wOps_op rfl (op_assign rfl rfl ?_)   -- t4 ← assign const bool false
  refine wOps_nil ?_
  refine mwp_seq ?_
  refine mwp_region rfl ?_   -- region 1
  refine wOps_op rfl (op_move rfl rfl ?_)   -- t5 ← move tmp 0
  refine wOps_op rfl (op_move rfl rfl ?_)   -- t6 ← move tmp 1
  refine wOps_op rfl (op_call rfl rfl rfl co36 ((tEqual_spec a b _).mono ?_))   -- t7 ← call ('rec', {'callee': ('app', 'value', [('app', 'func', [36])])
  rintro _ _ ⟨rfl, rfl⟩
  refine wOps_op rfl (op_assign rfl rfl ?_)   -- t4 ← assign tmp 7
  refine wOps_nil ?_
  refine mwp_ret ?_
  exact ret_tmp (.inr rfl) Try.results21 rfl (.of_eq (rfl)) (.bool _) ⟨rfl, rfl⟩

theorem clkOf_spec (c : List Tk) (w : Int) (S : MS) : MCalls Try.prog 23 [.lst none 2 (c.map encT), .int .i64 w] S fun v σ' => v = .int .u64 (ofF c w) ∧ σ' = S := by
  refine mcalls_body Try.func23 rfl Try.ntmps23 (Nat.le_of_ble_eq_true rfl) ?_
  refine mwp_len (t := 0) rfl fun hlen => ?_
  rw [List.length_map] at hlen
  refine mwp_seq ?_
  refine mwp_region rfl ?_   -- region 0
  refine wOps_op rfl (op_assign rfl rfl ?_)   -- t4 ← assign const int u64 0
  refine wOps_nil ?_
  refine mwp_seq ?_
  refine mwp_seq ?_
  refine mwp_region rfl ?_   -- region 1
  refine wOps_op rfl (op_move rfl rfl ?_)   -- t7 ← move tmp 0
  refine wOps_op rfl (op_len_lst rfl Try.underlying33 rfl ?_)   -- t8 ← call ('rec', {'callee': ('app', 'builtin', [('id', 'Go.Builtin.le
  refine wOps_op rfl (op_move rfl rfl ?_)   -- t9 ← move const int i64 0
  refine wOps_nil ?_
  refine mwp_block ?_   -- block 0
  refine mwp_loopKJ (α := Nat) [(1, _), (7, _), (8, _)] (fun i => [(9, .int .i64 (i : Int))]) (fun i => []) (fun i => i ≤ c.length ∧ ∀ j, j < i → ∀ t, c[j]? = some t → t.1 ≠ w) (fun i => c.length - i) (0) (Nat.le_refl _) (.keep rfl (.keep rfl (.keep rfl (.nil)))) (.keep rfl (.nil)) (⟨by omega, fun j hj => by omega⟩) rfl ?_
  rintro i ⟨hi, hall⟩
  refine mwp_seq ?_
  refine mwp_region rfl ?_   -- region 2
  refine wOps_op rfl (op_cmp rfl rfl rfl rfl ?_)   -- t10 ← binOp lss 3 tmp 9 tmp 8 3
  refine wOps_nil ?_
  refine mwp_seq ?_
  refine mwp_cond_split rfl (fun h10 => ?_) (fun h10 => ?_)   -- if t10
  · -- yes
    have hlt : i < c.length := by simpa using h10
    obtain ⟨t, hs⟩ : ∃ q_, c[i]? = some q_ := ⟨_, List.getElem?_eq_getElem hlt⟩
    refine mwp_skip ?_
    refine mwp_seq ?_
    refine mwp_block ?_   -- block 1
    refine mwp_seq ?_
    refine mwp_region rfl ?_   -- region 3
    refine wOps_op rfl (op_indexAddr rfl Try.underlying33 sz45 (by decide) rfl rfl rfl (get_map hs) ?_)   -- t11 ← indexAddr 33 tmp 7 tmp 9
    refine wOps_op rfl (op_load_sptr rfl rfl ta45 rfl ?_)   -- t12 ← load 45 tmp 11
    refine wOps_op rfl (op_alloc' rfl zm45 rfl rfl ?_)   -- t6 ← alloc 45
    refine wOps_op rfl (op_store' rfl rfl rfl rfl sz45 rfl rfl (Nat.le_of_ble_eq_true rfl) rfl ?_)   -- store 45 tmp 6 tmp 12
    refine wOps_nil ?_
    refine mwp_seq ?_
    refine mwp_region rfl ?_   -- region 4
    refine wOps_op rfl (op_fieldAddr_ref rfl rfl fo45_0 ?_)   -- t13 ← fieldAddr 45 tmp 6 0
    refine wOps_op rfl (op_load' rfl rfl rfl ta3 rfl ?_)   -- t14 ← load 3 tmp 13
    refine wOps_op rfl (op_move rfl rfl ?_)   -- t15 ← move tmp 1
    refine wOps_op rfl (op_cmp rfl rfl rfl rfl ?_)   -- t16 ← binOp eql 3 tmp 14 tmp 15 3
    refine wOps_nil ?_
    refine mwp_cond_split rfl (fun h16 => ?_) (fun h16 => ?_)   -- if t16
    · -- yes
      refine mwp_seq ?_
      refine mwp_region rfl ?_   -- region 5
      refine wOps_op rfl (op_fieldAddr_ref rfl rfl fo45_1 ?_)   -- t17 ← fieldAddr 45 tmp 6 1
      refine wOps_op rfl (op_load' rfl rfl rfl ta36 rfl ?_)   -- t18 ← load 36 tmp 17
      refine wOps_op rfl (op_assign rfl rfl ?_)   -- t4 ← assign tmp 18
      refine wOps_nil ?_
      refine mwp_ret ?_
      exact ret_tmp (.inr rfl) Try.results23 rfl (.of_eq (by rw [← of_drop hall, List.drop_eq_getElem_cons hlt]; obtain ⟨_, he⟩ := List.getElem?_eq_some_iff.1 hs; rw [he, ofF, if_pos (by simpa using h16)])) (.int _ _) ⟨rfl, rfl⟩
    · -- no
      refine mwp_skip ?_
      refine mwp_region rfl ?_   -- region 6
      refine wOps_op rfl (op_arith rfl rfl rfl rfl ?_)   -- t19 ← binOp add 3 tmp 9 const int i64 1 3
      refine wOps_op rfl (op_move rfl rfl ?_)   -- t9 ← move tmp 19
      refine wOps_nil ?_
      refine ⟨i + 1, _, by omega, ⟨by omega, fun j hj s hj2 => ?_⟩, rfl, .nil, (.old rfl rfl (.old rfl rfl (.old rfl rfl (.nil)))), (.new' rfl (int_succ hlt hlen) (.int _ _) (.nil))⟩
      by_cases e : j = i
      · subst e; rw [hs] at hj2; injection hj2 with hj2; subst hj2; simpa using h16
      · exact hall j (by omega) s hj2
  · -- no
    have hge : i = c.length := by simp at h10; omega
    refine mwp_exit ?_
    refine mwp_seq ?_
    refine mwp_region rfl ?_   -- region 7
    refine wOps_op rfl (op_assign rfl rfl ?_)   -- t4 ← assign const int u64 0
    refine wOps_nil ?_
    refine mwp_ret ?_
    exact ret_tmp (.inr rfl) Try.results23 rfl (.of_eq (by rw [← of_drop hall, hge, List.drop_length]; rfl)) (.int _ _) ⟨rfl, rfl⟩

theorem isNaN_spec (m : Int) (S : MS) : MCalls Try.prog 47 [.int .i64 m] S fun v σ' => v = .bool false ∧ σ' = S := by
  refine mcalls_body Try.func47 rfl Try.ntmps47 (Nat.le_of_ble_eq_true rfl) ?_
  refine mwp_seq ?_
  refine mwp_region rfl ?_   -- region 0
  refine wOps_op rfl (op_assign rfl rfl ?_)   -- t2 ← assign const bool false
  refine wOps_nil ?_
  refine mwp_seq ?_
  refine mwp_region rfl ?_   -- region 1
  refine wOps_op rfl (op_move rfl rfl ?_)   -- t3 ← move tmp 0
  refine wOps_op rfl (op_move rfl rfl ?_)   -- t4 ← move tmp 0
  refine wOps_op rfl (op_cmp rfl rfl rfl rfl ?_)   -- t5 ← binOp neq 3 tmp 3 tmp 4 3
  refine wOps_op rfl (op_assign rfl rfl ?_)   -- t2 ← assign tmp 5
  refine wOps_nil ?_
  refine mwp_ret ?_
  exact ret_tmp (.inr rfl) Try.results47 rfl (.of_eq (by simp)) (.bool _) ⟨rfl, rfl⟩

theorem compare_spec (m n : Int) (S : MS) : MCalls Try.prog 46 [.int .i64 m, .int .i64 n] S fun v σ' => v = .int .i64 (cmpI m n) ∧ σ' = S := by
  refine mcalls_body Try.func46 rfl Try.ntmps46 (Nat.le_of_ble_eq_true rfl) ?_
  refine mwp_seq ?_
  refine mwp_region rfl ?_   -- region 0
  refine wOps_op rfl (op_assign rfl rfl ?_)   -- t4 ← assign const int i64 0
  refine wOps_nil ?_
  refine mwp_seq ?_
  refine mwp_region rfl ?_   -- region 1
  refine wOps_op rfl (op_move rfl rfl ?_)   -- t7 ← move tmp 0
  refine wOps_op rfl (op_call rfl rfl rfl co47 ((isNaN_spec m _).mono ?_))   -- t8 ← call ('rec', {'callee': ('app', 'value', [('app', 'func', [47])])
  rintro _ _ ⟨rfl, rfl⟩
  refine wOps_op rfl (op_assign rfl rfl ?_)   -- t5 ← assign tmp 8
  refine wOps_nil ?_
  refine mwp_seq ?_
  refine mwp_region rfl ?_   -- region 2
  refine wOps_op rfl (op_move rfl rfl ?_)   -- t9 ← move tmp 1
  refine wOps_op rfl (op_call rfl rfl rfl co47 ((isNaN_spec n _).mono ?_))   -- t10 ← call ('rec', {'callee': ('app', 'value', [('app', 'func', [47])])
  rintro _ _ ⟨rfl, rfl⟩
  refine wOps_op rfl (op_assign rfl rfl ?_)   -- t6 ← assign tmp 10
  refine wOps_nil ?_
  refine mwp_seq ?_
  refine mwp_seq ?_
  refine mwp_region rfl ?_   -- region 3
  refine wOps_op rfl (op_move rfl rfl ?_)   -- t11 ← move tmp 5
  refine wOps_nil ?_
  refine mwp_cond_f rfl (rfl) ?_   -- if t11
  refine mwp_skip ?_
  refine mwp_seq ?_
  refine mwp_seq ?_
  refine mwp_region rfl ?_   -- region 7
  refine wOps_op rfl (op_move rfl rfl ?_)   -- t13 ← move tmp 6
  refine wOps_nil ?_
  refine mwp_cond_f rfl (rfl) ?_   -- if t13
  refine mwp_skip ?_
  refine mwp_seq ?_
  refine mwp_seq ?_
  refine mwp_region rfl ?_   -- region 9
  refine wOps_op rfl (op_move rfl rfl ?_)   -- t14 ← move tmp 0
  refine wOps_op rfl (op_move rfl rfl ?_)   -- t15 ← move tmp 1
  refine wOps_op rfl (op_cmp rfl rfl rfl rfl ?_)   -- t16 ← binOp lss 3 tmp 14 tmp 15 3
  refine wOps_nil ?_
  refine mwp_cond_split rfl (fun h16 => ?_) (fun h16 => ?_)   -- if t16
  · -- yes
    refine mwp_seq ?_
    refine mwp_region rfl ?_   -- region 10
    refine wOps_op rfl (op_assign rfl rfl ?_)   -- t4 ← assign const int i64 -1
    refine wOps_nil ?_
    refine mwp_ret ?_
    exact ret_tmp (.inr rfl) Try.results46 rfl (.of_eq (by simp only [decide_eq_true_eq] at h16; rw [cmpI, if_pos h16])) (.int _ _) ⟨rfl, rfl⟩
  · -- no
    refine mwp_skip ?_
    refine mwp_seq ?_
    refine mwp_seq ?_
    refine mwp_region rfl ?_   -- region 11
    refine wOps_op rfl (op_move rfl rfl ?_)   -- t17 ← move tmp 0
    refine wOps_op rfl (op_move rfl rfl ?_)   -- t18 ← move tmp 1
    refine wOps_op rfl (op_cmp rfl rfl rfl rfl ?_)   -- t19 ← binOp gtr 3 tmp 17 tmp 18 3
    refine wOps_nil ?_
    refine mwp_cond_split rfl (fun h19 => ?_) (fun h19 => ?_)   -- if t19
    · -- yes
      refine mwp_seq ?_
      refine mwp_region rfl ?_   -- region 12
      refine wOps_op rfl (op_assign rfl rfl ?_)   -- t4 ← assign const int i64 1
      refine wOps_nil ?_
      refine mwp_ret ?_
      exact ret_tmp (.inr rfl) Try.results46 rfl (.of_eq (by simp only [decide_eq_true_eq, decide_eq_false_iff_not] at h16 h19; rw [cmpI, if_neg h16, if_pos h19])) (.int _ _) ⟨rfl, rfl⟩
    · -- no
      refine mwp_skip ?_
      refine mwp_seq ?_
      refine mwp_region rfl ?_   -- region 13
      refine wOps_op rfl (op_assign rfl rfl ?_)   -- t4 ← assign const int i64 0
      refine wOps_nil ?_
      refine mwp_ret ?_
      exact ret_tmp (.inr rfl) Try.results46 rfl (.of_eq (by simp only [decide_eq_true_eq, decide_eq_false_iff_not] at h16 h19; rw [cmpI, if_neg h16, if_neg h19])) (.int _ _) ⟨rfl, rfl⟩

theorem byWho_spec (x y : Tk) (S : MS) : MCalls Try.prog 39 [encT x, encT y] S fun v σ' => v = .int .i64 (cmpI x.1 y.1) ∧ σ' = S := by
  refine mcalls_body Try.func39 rfl Try.ntmps39 (Nat.le_of_ble_eq_true rfl) ?_
  refine mwp_seq ?_
  refine mwp_region rfl ?_   -- region 0
  refine wOps_op rfl (op_box' rfl rfl rfl rfl ?_)   -- t2 ← box 45 tmp 0
  refine wOps_op rfl (op_box' rfl rfl rfl rfl ?_)   -- t3 ← box 45 tmp 1
  refine wOps_op rfl (op_assign rfl rfl ?_)   -- t4 ← assign const int i64 0
  refine wOps_nil ?_
  refine mwp_seq ?_
  refine mwp_region rfl ?_   -- region 1
  refine wOps_op rfl (op_fieldAddr_ref rfl rfl fo45_0 ?_)   -- t5 ← fieldAddr 45 tmp 2 0
  refine wOps_op rfl (op_load' rfl rfl rfl ta3 rfl ?_)   -- t6 ← load 3 tmp 5
  refine wOps_op rfl (op_fieldAddr_ref rfl rfl fo45_0 ?_)   -- t7 ← fieldAddr 45 tmp 3 0
  refine wOps_op rfl (op_load' rfl rfl rfl ta3 rfl ?_)   -- t8 ← load 3 tmp 7
  refine wOps_op rfl (op_call rfl rfl rfl co46 ((compare_spec x.1 y.1 _).mono ?_))   -- t9 ← call ('rec', {'callee': ('app', 'value', [('app', 'func', [46])])
  rintro _ _ ⟨rfl, rfl⟩
  refine wOps_op rfl (op_assign rfl rfl ?_)   -- t4 ← assign tmp 9
  refine wOps_nil ?_
  refine mwp_ret ?_
  exact ret_tmp (.inr rfl) Try.results39 rfl (.of_eq (rfl)) (.int _ _) ⟨rfl, rfl⟩

theorem join1_spec (x y : Tk) (S : MS) : MCalls Try.prog 40 [encT x, encT y] S fun v σ' => v = encT (bothT x y) ∧ σ' = S := by
  refine mcalls_body Try.func40 rfl Try.ntmps40 (Nat.le_of_ble_eq_true rfl) ?_
  refine mwp_seq ?_
  refine mwp_region rfl ?_   -- region 0
  refine wOps_op rfl (op_box' rfl rfl rfl rfl ?_)   -- t2 ← box 45 tmp 0
  refine wOps_op rfl (op_box' rfl rfl rfl rfl ?_)   -- t3 ← box 45 tmp 1
  refine wOps_op rfl (op_alloc' rfl zm45 rfl rfl ?_)   -- t4 ← alloc 45
  refine wOps_nil ?_
  refine mwp_seq ?_
  refine mwp_region rfl ?_   -- region 1
  refine wOps_op rfl (op_fieldAddr_ref rfl rfl fo45_0 ?_)   -- t5 ← fieldAddr 45 tmp 2 0
  refine wOps_op rfl (op_load' rfl rfl rfl ta3 rfl ?_)   -- t6 ← load 3 tmp 5
  refine wOps_op rfl (op_fieldAddr_ref rfl rfl fo45_1 ?_)   -- t7 ← fieldAddr 45 tmp 2 1
  refine wOps_op rfl (op_load' rfl rfl rfl ta36 rfl ?_)   -- t8 ← load 36 tmp 7
  refine wOps_op rfl (op_fieldAddr_ref rfl rfl fo45_1 ?_)   -- t9 ← fieldAddr 45 tmp 3 1
  refine wOps_op rfl (op_load' rfl rfl rfl ta36 rfl ?_)   -- t10 ← load 36 tmp 9
  refine wOps_op rfl (op_max2 rfl rfl rfl ?_)   -- t11 ← call ('rec', {'callee': ('app', 'builtin', [('id', 'Go.Builtin.ma
  refine wOps_op rfl (op_build rfl Try.underlying45 zm45 (.cons fo45_0 sz3 rfl rfl (Nat.le_of_ble_eq_true rfl) (.cons fo45_1 sz36 rfl rfl (Nat.le_of_ble_eq_true rfl) .nil)) (by kernel_rfl) ?_)   -- t12 ← build 45 [(0,tmp 6),(1,tmp 11)]
  refine wOps_op rfl (op_store' rfl rfl rfl rfl sz45 rfl rfl (Nat.le_of_ble_eq_true rfl) rfl ?_)   -- store 45 tmp 4 tmp 12
  refine wOps_nil ?_
  refine mwp_ret ?_
  exact ret_cell (.inr rfl) Try.results40 rfl rfl ta45 rfl (.refl _) (cl_encT _ (bothT x y)) ⟨rfl, rfl⟩

theorem merge_spec (a b : List Tk) (cmp : Tk → Tk → Int) (bo : Tk → Tk → Tk) (kc kb : FuncId) (hab : a.length + b.length ≤ 1000000) (hco : CallOk Try.prog kc) (hcb : CallOk Try.prog kb) (hp : ∀ (x y : Tk) (X : MS), MCalls Try.prog kc [encT x, encT y] X fun v σ' => v = .int .i64 (cmp x y) ∧ σ' = X) (hq : ∀ (x y : Tk) (X : MS), MCalls Try.prog kb [encT x, encT y] X fun v σ' => v = encT (bo x y) ∧ σ' = X) (S : MS) : MCalls Try.prog 38 [.lst none 2 (a.map encT), .lst none 2 (b.map encT), .fn (.func kc) [] [], .fn (.func kb) [] []] S fun v σ' => v = .lst none 2 ((mergeF cmp bo a b).map encT) ∧ σ' = S := by
  refine mcalls_body Try.func38 rfl Try.ntmps38 (Nat.le_of_ble_eq_true rfl) ?_
  refine mwp_seq ?_
  refine mwp_region rfl ?_   -- region 0
  refine wOps_op rfl (op_assign rfl rfl ?_)   -- t8 ← assign const slice none 0 0
  refine wOps_nil ?_
  refine mwp_seq ?_
  refine mwp_region rfl ?_   -- region 1
  refine wOps_op rfl (op_assign rfl rfl ?_)   -- t9 ← assign const slice none 0 0
  refine wOps_nil ?_
  refine mwp_seq ?_
  refine mwp_block ?_   -- block 0
  refine mwp_row0 9 45 2 rfl (Nat.le_refl _) rfl rfl ?_
  refine mwp_loopK (α := List Tk × List Tk × List Tk) [(2, _), (3, _)] (fun x => [(0, .lst none 2 (x.1.map encT)), (1, .lst none 2 (x.2.1.map encT)), (9, .lst (some (S.length + 0)) 2 (x.2.2.map encT))]) (fun x => [.row 45 2 x.2.2.length]) (fun x => x.2.2.length + x.1.length + x.2.1.length ≤ a.length + b.length ∧ x.2.2 ++ mergeF cmp bo x.1 x.2.1 = mergeF cmp bo a b) (fun x => x.1.length + x.2.1.length) (⟨a, b, []⟩) (.keep rfl (.keep rfl (.nil))) (.keep rfl (.keep rfl (.keep rfl (.nil)))) (⟨by simp, by simp⟩) rfl ?_
  rintro ⟨a', b', out⟩ ⟨hl, he⟩
  dsimp only at hl he ⊢
  refine mwp_seq ?_
  refine mwp_seq ?_
  rcases a' with _ | ⟨x, a'⟩
  ·
    refine mwp_region rfl ?_   -- region 2
    refine wOps_op rfl (op_move rfl rfl ?_)   -- t11 ← move tmp 0
    refine wOps_op rfl (op_len_lst rfl Try.underlying33 rfl ?_)   -- t12 ← call ('rec', {'callee': ('app', 'builtin', [('id', 'Go.Builtin.le
    refine wOps_op rfl (op_cmp rfl rfl rfl (gtr_nil) ?_)   -- t13 ← binOp gtr 3 tmp 12 const int i64 0 3
    refine wOps_op rfl (op_move rfl rfl ?_)   -- t14 ← move tmp 13
    refine wOps_skip rfl ?_
    refine wOps_skip rfl ?_
    refine wOps_skip rfl ?_
    refine wOps_op rfl (op_pick rfl rfl rfl ?_)   -- t18 ← pick tmp 14 tmp 17 const bool false
    refine wOps_nil ?_
    refine mwp_cond_f rfl (rfl) ?_   -- if t18
    refine mwp_exit ?_
    refine mwp_seq ?_
    refine mwp_region rfl ?_   -- region 9
    refine wOps_op rfl (op_move rfl rfl ?_)   -- t64 ← move tmp 9
    refine wOps_op rfl (op_move rfl rfl ?_)   -- t65 ← move tmp 0
    refine wOps_op rfl (op_append' rfl Try.underlying33 el45 rfl rfl rfl (by simp) (by simp only [List.length_cons, List.length_nil, List.length_map, List.length_append] at hl ⊢; omega) (by simp only [List.length_cons, List.length_nil, List.length_map, List.length_append] at hl ⊢; omega) rfl ?_)   -- t66 ← call ('rec', {'callee': ('app', 'builtin', [('id', 'Go.Builtin.ap
    refine wOps_op rfl (op_move rfl rfl ?_)   -- t67 ← move tmp 1
    refine wOps_op rfl (op_append' rfl Try.underlying33 el45 rfl rfl rfl (by simp) (by simp only [List.length_cons, List.length_nil, List.length_map, List.length_append] at hl ⊢; omega) (by simp only [List.length_cons, List.length_nil, List.length_map, List.length_append] at hl ⊢; omega) rfl ?_)   -- t68 ← call ('rec', {'callee': ('app', 'builtin', [('id', 'Go.Builtin.ap
    refine wOps_op rfl (op_assign rfl rfl ?_)   -- t8 ← assign tmp 68
    refine wOps_nil ?_
    refine mwp_ret ?_
    exact ret_tmp (.inr rfl) Try.results38 rfl (Sub.trans (.view _ _ _) (.of_eq (by rw [← he]; simp [nil_merge]))) (cl_clock _ _) ⟨rfl, rfl⟩
  ·
    rcases b' with _ | ⟨y, b'⟩
    ·
      refine mwp_region rfl ?_   -- region 2
      refine wOps_op rfl (op_move rfl rfl ?_)   -- t11 ← move tmp 0
      refine wOps_op rfl (op_len_lst rfl Try.underlying33 rfl ?_)   -- t12 ← call ('rec', {'callee': ('app', 'builtin', [('id', 'Go.Builtin.le
      refine wOps_op rfl (op_cmp rfl rfl rfl (gtr_cons) ?_)   -- t13 ← binOp gtr 3 tmp 12 const int i64 0 3
      refine wOps_op rfl (op_move rfl rfl ?_)   -- t14 ← move tmp 13
      refine wOps_op rfl (op_move rfl rfl ?_)   -- t15 ← move tmp 1  GUARD
      refine wOps_op rfl (op_len_lst rfl Try.underlying33 rfl ?_)   -- t16 ← call ('rec', {'callee': ('app', 'builtin', [('id', 'Go.Builtin.le  GUARD
      refine wOps_op rfl (op_cmp rfl rfl rfl (gtr_nil) ?_)   -- t17 ← binOp gtr 3 tmp 16 const int i64 0 3  GUARD
      refine wOps_op rfl (op_pick rfl rfl rfl ?_)   -- t18 ← pick tmp 14 tmp 17 const bool false
      refine wOps_nil ?_
      refine mwp_cond_f rfl (rfl) ?_   -- if t18
      refine mwp_exit ?_
      refine mwp_seq ?_
      refine mwp_region rfl ?_   -- region 9
      refine wOps_op rfl (op_move rfl rfl ?_)   -- t64 ← move tmp 9
      refine wOps_op rfl (op_move rfl rfl ?_)   -- t65 ← move tmp 0
      refine wOps_op rfl (op_append' rfl Try.underlying33 el45 rfl rfl rfl (by simp) (by simp only [List.length_cons, List.length_nil, List.length_map, List.length_append] at hl ⊢; omega) (by simp only [List.length_cons, List.length_nil, List.length_map, List.length_append] at hl ⊢; omega) rfl ?_)   -- t66 ← call ('rec', {'callee': ('app', 'builtin', [('id', 'Go.Builtin.ap
      refine wOps_op rfl (op_move rfl rfl ?_)   -- t67 ← move tmp 1
      refine wOps_op rfl (op_append' rfl Try.underlying33 el45 rfl rfl rfl (by simp) (by simp only [List.length_cons, List.length_nil, List.length_map, List.length_append] at hl ⊢; omega) (by simp only [List.length_cons, List.length_nil, List.length_map, List.length_append] at hl ⊢; omega) rfl ?_)   -- t68 ← call ('rec', {'callee': ('app', 'builtin', [('id', 'Go.Builtin.ap
      refine wOps_op rfl (op_assign rfl rfl ?_)   -- t8 ← assign tmp 68
      refine wOps_nil ?_
      refine mwp_ret ?_
      exact ret_tmp (.inr rfl) Try.results38 rfl (Sub.trans (.view _ _ _) (.of_eq (by rw [← he]; simp [merge_nil]))) (cl_clock _ _) ⟨rfl, rfl⟩
    ·
      simp only [List.length_cons] at hl
      refine mwp_region rfl ?_   -- region 2
      refine wOps_op rfl (op_move rfl rfl ?_)   -- t11 ← move tmp 0
      refine wOps_op rfl (op_len_lst rfl Try.underlying33 rfl ?_)   -- t12 ← call ('rec', {'callee': ('app', 'builtin', [('id', 'Go.Builtin.le
      refine wOps_op rfl (op_cmp rfl rfl rfl (gtr_cons) ?_)   -- t13 ← binOp gtr 3 tmp 12 const int i64 0 3
      refine wOps_op rfl (op_move rfl rfl ?_)   -- t14 ← move tmp 13
      refine wOps_op rfl (op_move rfl rfl ?_)   -- t15 ← move tmp 1  GUARD
      refine wOps_op rfl (op_len_lst rfl Try.underlying33 rfl ?_)   -- t16 ← call ('rec', {'callee': ('app', 'builtin', [('id', 'Go.Builtin.le  GUARD
      refine wOps_op rfl (op_cmp rfl rfl rfl (gtr_cons) ?_)   -- t17 ← binOp gtr 3 tmp 16 const int i64 0 3  GUARD
      refine wOps_op rfl (op_pick rfl rfl rfl ?_)   -- t18 ← pick tmp 14 tmp 17 const bool false
      refine wOps_nil ?_
      refine mwp_cond_t rfl (rfl) ?_   -- if t18
      refine mwp_skip ?_
      refine mwp_block ?_   -- block 1
      refine mwp_seq ?_
      refine mwp_draw [] [_] mo (by decide) rfl rfl rfl rfl ?_   -- region 3
      refine dOps_op rfl rfl (.cons (op_move rfl rfl ⟨rfl, rfl⟩) .nil) ?_   -- t19 ← move tmp 2
      refine dOps_op rfl rfl (.cons (op_move rfl rfl ⟨rfl, rfl⟩) .nil) ?_   -- t20 ← move tmp 0
      refine dOps_op rfl rfl (.cons (op_indexAddr rfl Try.underlying33 sz45 (by decide) rfl rfl rfl rfl ⟨rfl, rfl⟩) .nil) ?_   -- t21 ← indexAddr 33 tmp 20 const int i64 0
      refine dOps_op rfl rfl (.cons (op_load_sptr rfl rfl ta45 rfl ⟨rfl, rfl⟩) .nil) ?_   -- t22 ← load 45 tmp 21
      refine dOps_op rfl rfl (.cons (op_move rfl rfl ⟨rfl, rfl⟩) .nil) ?_   -- t23 ← move tmp 1
      refine dOps_op rfl rfl (.cons (op_indexAddr rfl Try.underlying33 sz45 (by decide) rfl rfl rfl rfl ⟨rfl, rfl⟩) .nil) ?_   -- t24 ← indexAddr 33 tmp 23 const int i64 0
      refine dOps_op rfl rfl (.cons (op_load_sptr rfl rfl ta45 rfl ⟨rfl, rfl⟩) .nil) ?_   -- t25 ← load 45 tmp 24
      refine dOps_op rfl rfl (.cons (op_call rfl rfl rfl hco (hp x y _)) .nil) ?_   -- t26 ← call ('rec', {'callee': ('app', 'value', [('app', 'tmp', [19])]),
      refine dOps_op rfl rfl (.cons (op_assign rfl rfl ⟨rfl, rfl⟩) .nil) ?_   -- t10 ← assign tmp 26
      refine dOps_nil ?_
      refine mwp_block ?_   -- block 2
      refine mwp_seq ?_
      refine mwp_region rfl ?_   -- region 5
      refine wOps_op rfl (op_move rfl rfl ?_)   -- t43 ← move tmp 10
      refine wOps_op rfl (op_cmp rfl rfl rfl rfl ?_)   -- t44 ← binOp lss 3 tmp 43 const int i64 0 3
      refine wOps_op rfl (op_assign rfl rfl ?_)   -- t42 ← assign tmp 44
      refine wOps_nil ?_
      refine mwp_cond_split rfl (fun h42 => ?_) (fun h42 => ?_)   -- if t42
      · -- yes
        refine mwp_draw [5] [_, S ++ [.row 45 2 (out.length + 1)]] mo (by decide) rfl rfl rfl rfl ?_   -- region 6
        refine dOps_op rfl rfl (.cons (op_move rfl rfl ⟨rfl, rfl⟩) .nil) ?_   -- t45 ← move tmp 9
        refine dOps_op rfl rfl (.cons (op_move rfl rfl ⟨rfl, rfl⟩) (.cons (op_move rfl rfl ⟨rfl, rfl⟩) (.nil))) ?_   -- t46 ← move tmp 0
        refine dOps_op rfl rfl (.cons (op_indexAddr rfl Try.underlying33 sz45 (by decide) rfl rfl rfl rfl ⟨rfl, rfl⟩) (.cons (op_indexAddr rfl Try.underlying33 sz45 (by decide) rfl rfl rfl rfl ⟨rfl, rfl⟩) (.nil))) ?_   -- t47 ← indexAddr 33 tmp 46 const int i64 0
        refine dOps_op rfl rfl (.cons (op_load_sptr rfl rfl ta45 rfl ⟨rfl, rfl⟩) (.cons (op_load_sptr rfl rfl ta45 rfl ⟨rfl, rfl⟩) (.nil))) ?_   -- t48 ← load 45 tmp 47
        refine dOps_op rfl rfl (.cons (op_buildSlice rfl Try.underlying33 el45 rfl rfl (by decide) (by decide) rfl rfl ⟨rfl, rfl⟩) .nil) ?_   -- t49 ← buildSlice 33 1 [(0,tmp 48)]
        refine dOps_eff rfl rfl rfl rfl (op_append' rfl Try.underlying33 el45 rfl rfl rfl (by simp) (by simp only [List.length_cons, List.length_nil, List.length_map, List.length_append] at hl ⊢; omega) (by simp only [List.length_cons, List.length_nil, List.length_map, List.length_append] at hl ⊢; omega) rfl ⟨rfl, rfl⟩) ?_   -- t50 ← call ('rec', {'callee': ('app', 'builtin', [('id', 'Go.Builtin.ap
        refine dOps_op rfl rfl (.cons (op_move rfl rfl ⟨rfl, rfl⟩) (.cons (op_move rfl rfl ⟨rfl, rfl⟩) (.nil))) ?_   -- t51 ← move tmp 0
        refine dOps_op rfl rfl (.cons (op_slice rfl Try.underlying33 sz45 rfl (.some rfl rfl) .none (by simp) (Nat.le_refl _) ⟨rfl, rfl⟩) (.cons (op_slice rfl Try.underlying33 sz45 rfl (.some rfl rfl) .none (by simp) (Nat.le_refl _) ⟨rfl, rfl⟩) (.nil))) ?_   -- t52 ← slice 33 tmp 51 some const int i64 1 none none
        refine dOps_op rfl rfl (.cons (op_assign rfl rfl ⟨rfl, rfl⟩) .nil) ?_   -- t9 ← assign tmp 50
        refine dOps_op rfl rfl (.cons (op_assign rfl rfl ⟨rfl, rfl⟩) .nil) ?_   -- t0 ← assign tmp 52
        refine dOps_nil ?_
        simp only [decide_eq_true_eq] at h42
        refine ⟨⟨a', y :: b', out ++ [x]⟩, by simp only [List.length_cons, List.length_append, List.length_nil]; omega, ⟨by simp only [List.length_cons, List.length_append, List.length_nil]; omega, by rw [← he, merge_cons, if_pos h42]; simp⟩, by simp, (.keep rfl (.keep rfl (.nil))), (.eq rfl (by simp [List.take_of_length_le]) (.keep rfl (.eq rfl (by rw [List.map_append]; rfl) (.nil))))⟩
      · -- no
        refine mwp_seq ?_
        refine mwp_region rfl ?_   -- region 7
        refine wOps_op rfl (op_move rfl rfl ?_)   -- t54 ← move tmp 10
        refine wOps_op rfl (op_cmp rfl rfl rfl rfl ?_)   -- t55 ← binOp gtr 3 tmp 54 const int i64 0 3
        refine wOps_op rfl (op_assign rfl rfl ?_)   -- t53 ← assign tmp 55
        refine wOps_nil ?_
        refine mwp_cond_split rfl (fun h53 => ?_) (fun h53 => ?_)   -- if t53
        · -- yes
          refine mwp_draw [5] [_, S ++ [.row 45 2 (out.length + 1)]] mo (by decide) rfl rfl rfl rfl ?_   -- region 8
          refine dOps_op rfl rfl (.cons (op_move rfl rfl ⟨rfl, rfl⟩) .nil) ?_   -- t56 ← move tmp 9
          refine dOps_op rfl rfl (.cons (op_move rfl rfl ⟨rfl, rfl⟩) (.cons (op_move rfl rfl ⟨rfl, rfl⟩) (.nil))) ?_   -- t57 ← move tmp 1
          refine dOps_op rfl rfl (.cons (op_indexAddr rfl Try.underlying33 sz45 (by decide) rfl rfl rfl rfl ⟨rfl, rfl⟩) (.cons (op_indexAddr rfl Try.underlying33 sz45 (by decide) rfl rfl rfl rfl ⟨rfl, rfl⟩) (.nil))) ?_   -- t58 ← indexAddr 33 tmp 57 const int i64 0
          refine dOps_op rfl rfl (.cons (op_load_sptr rfl rfl ta45 rfl ⟨rfl, rfl⟩) (.cons (op_load_sptr rfl rfl ta45 rfl ⟨rfl, rfl⟩) (.nil))) ?_   -- t59 ← load 45 tmp 58
          refine dOps_op rfl rfl (.cons (op_buildSlice rfl Try.underlying33 el45 rfl rfl (by decide) (by decide) rfl rfl ⟨rfl, rfl⟩) .nil) ?_   -- t60 ← buildSlice 33 1 [(0,tmp 59)]
          refine dOps_eff rfl rfl rfl rfl (op_append' rfl Try.underlying33 el45 rfl rfl rfl (by simp) (by simp only [List.length_cons, List.length_nil, List.length_map, List.length_append] at hl ⊢; omega) (by simp only [List.length_cons, List.length_nil, List.length_map, List.length_append] at hl ⊢; omega) rfl ⟨rfl, rfl⟩) ?_   -- t61 ← call ('rec', {'callee': ('app', 'builtin', [('id', 'Go.Builtin.ap
          refine dOps_op rfl rfl (.cons (op_move rfl rfl ⟨rfl, rfl⟩) (.cons (op_move rfl rfl ⟨rfl, rfl⟩) (.nil))) ?_   -- t62 ← move tmp 1
          refine dOps_op rfl rfl (.cons (op_slice rfl Try.underlying33 sz45 rfl (.some rfl rfl) .none (by simp) (Nat.le_refl _) ⟨rfl, rfl⟩) (.cons (op_slice rfl Try.underlying33 sz45 rfl (.some rfl rfl) .none (by simp) (Nat.le_refl _) ⟨rfl, rfl⟩) (.nil))) ?_   -- t63 ← slice 33 tmp 62 some const int i64 1 none none
          refine dOps_op rfl rfl (.cons (op_assign rfl rfl ⟨rfl, rfl⟩) .nil) ?_   -- t9 ← assign tmp 61
          refine dOps_op rfl rfl (.cons (op_assign rfl rfl ⟨rfl, rfl⟩) .nil) ?_   -- t1 ← assign tmp 63
          refine dOps_nil ?_
          simp only [decide_eq_true_eq, decide_eq_false_iff_not] at h42 h53
          refine ⟨⟨x :: a', b', out ++ [y]⟩, by simp only [List.length_cons, List.length_append, List.length_nil]; omega, ⟨by simp only [List.length_cons, List.length_append, List.length_nil]; omega, by rw [← he, merge_cons, if_neg h42, if_pos h53]; simp⟩, by simp, (.keep rfl (.keep rfl (.nil))), (.keep rfl (.eq rfl (by simp [List.take_of_length_le]) (.eq rfl (by rw [List.map_append]; rfl) (.nil))))⟩
        · -- no
          refine mwp_draw [10] [_, S ++ [.row 45 2 (out.length + 1)]] mo (by decide) rfl rfl rfl rfl ?_   -- region 4
          refine dOps_op rfl rfl (.cons (op_move rfl rfl ⟨rfl, rfl⟩) .nil) ?_   -- t27 ← move tmp 9
          refine dOps_op rfl rfl (.cons (op_move rfl rfl ⟨rfl, rfl⟩) (.cons (op_move rfl rfl ⟨rfl, rfl⟩) (.nil))) ?_   -- t28 ← move tmp 3
          refine dOps_op rfl rfl (.cons (op_move rfl rfl ⟨rfl, rfl⟩) (.cons (op_move rfl rfl ⟨rfl, rfl⟩) (.nil))) ?_   -- t29 ← move tmp 0
          refine dOps_op rfl rfl (.cons (op_indexAddr rfl Try.underlying33 sz45 (by decide) rfl rfl rfl rfl ⟨rfl, rfl⟩) (.cons (op_indexAddr rfl Try.underlying33 sz45 (by decide) rfl rfl rfl rfl ⟨rfl, rfl⟩) (.nil))) ?_   -- t30 ← indexAddr 33 tmp 29 const int i64 0
          refine dOps_op rfl rfl (.cons (op_load_sptr rfl rfl ta45 rfl ⟨rfl, rfl⟩) (.cons (op_load_sptr rfl rfl ta45 rfl ⟨rfl, rfl⟩) (.nil))) ?_   -- t31 ← load 45 tmp 30
          refine dOps_op rfl rfl (.cons (op_move rfl rfl ⟨rfl, rfl⟩) (.cons (op_move rfl rfl ⟨rfl, rfl⟩) (.nil))) ?_   -- t32 ← move tmp 1
          refine dOps_op rfl rfl (.cons (op_indexAddr rfl Try.underlying33 sz45 (by decide) rfl rfl rfl rfl ⟨rfl, rfl⟩) (.cons (op_indexAddr rfl Try.underlying33 sz45 (by decide) rfl rfl rfl rfl ⟨rfl, rfl⟩) (.nil))) ?_   -- t33 ← indexAddr 33 tmp 32 const int i64 0
          refine dOps_op rfl rfl (.cons (op_load_sptr rfl rfl ta45 rfl ⟨rfl, rfl⟩) (.cons (op_load_sptr rfl rfl ta45 rfl ⟨rfl, rfl⟩) (.nil))) ?_   -- t34 ← load 45 tmp 33
          refine dOps_op rfl rfl (.cons (op_call rfl rfl rfl hcb (hq x y _)) .nil) ?_   -- t35 ← call ('rec', {'callee': ('app', 'value', [('app', 'tmp', [28])]),
          refine dOps_op rfl rfl (.cons (op_buildSlice rfl Try.underlying33 el45 rfl rfl (by decide) (by decide) rfl rfl ⟨rfl, rfl⟩) .nil) ?_   -- t36 ← buildSlice 33 1 [(0,tmp 35)]
          refine dOps_eff rfl rfl rfl rfl (op_append' rfl Try.underlying33 el45 rfl rfl rfl (by simp) (by simp only [List.length_cons, List.length_nil, List.length_map, List.length_append] at hl ⊢; omega) (by simp only [List.length_cons, List.length_nil, List.length_map, List.length_append] at hl ⊢; omega) rfl ⟨rfl, rfl⟩) ?_   -- t37 ← call ('rec', {'callee': ('app', 'builtin', [('id', 'Go.Builtin.ap
          refine dOps_op rfl rfl (.cons (op_move rfl rfl ⟨rfl, rfl⟩) (.cons (op_move rfl rfl ⟨rfl, rfl⟩) (.nil))) ?_   -- t38 ← move tmp 0
          refine dOps_op rfl rfl (.cons (op_slice rfl Try.underlying33 sz45 rfl (.some rfl rfl) .none (by simp) (Nat.le_refl _) ⟨rfl, rfl⟩) (.cons (op_slice rfl Try.underlying33 sz45 rfl (.some rfl rfl) .none (by simp) (Nat.le_refl _) ⟨rfl, rfl⟩) (.nil))) ?_   -- t39 ← slice 33 tmp 38 some const int i64 1 none none
          refine dOps_op rfl rfl (.cons (op_move rfl rfl ⟨rfl, rfl⟩) (.cons (op_move rfl rfl ⟨rfl, rfl⟩) (.nil))) ?_   -- t40 ← move tmp 1
          refine dOps_op rfl rfl (.cons (op_slice rfl Try.underlying33 sz45 rfl (.some rfl rfl) .none (by simp) (Nat.le_refl _) ⟨rfl, rfl⟩) (.cons (op_slice rfl Try.underlying33 sz45 rfl (.some rfl rfl) .none (by simp) (Nat.le_refl _) ⟨rfl, rfl⟩) (.nil))) ?_   -- t41 ← slice 33 tmp 40 some const int i64 1 none none
          refine dOps_op rfl rfl (.cons (op_assign rfl rfl ⟨rfl, rfl⟩) .nil) ?_   -- t9 ← assign tmp 37
          refine dOps_op rfl rfl (.cons (op_assign rfl rfl ⟨rfl, rfl⟩) .nil) ?_   -- t0 ← assign tmp 39
          refine dOps_op rfl rfl (.cons (op_assign rfl rfl ⟨rfl, rfl⟩) .nil) ?_   -- t1 ← assign tmp 41
          refine dOps_nil ?_
          simp only [decide_eq_false_iff_not] at h42 h53
          refine ⟨⟨a', b', out ++ [bo x y]⟩, by simp only [List.length_cons, List.length_append, List.length_nil]; omega, ⟨by simp only [List.length_cons, List.length_append, List.length_nil]; omega, by rw [← he, merge_cons, if_neg h42, if_neg h53]; simp⟩, by simp, (.keep rfl (.keep rfl (.nil))), (.eq rfl (by simp [List.take_of_length_le]) (.eq rfl (by simp [List.take_of_length_le]) (.eq rfl (by rw [List.map_append]; rfl) (.nil))))⟩

theorem clkJoin_spec (a b : List Tk) (hab : a.length + b.length ≤ 1000000) (S : MS) : MCalls Try.prog 27 [.lst none 2 (a.map encT), .lst none 2 (b.map encT)] S fun v σ' => v = .lst none 2 ((joinF a b).map encT) ∧ σ' = S := by
  refine mcalls_body Try.func27 rfl Try.ntmps27 (Nat.le_of_ble_eq_true rfl) ?_
  refine mwp_seq ?_
  refine mwp_region rfl ?_   -- region 0
  refine wOps_op rfl (op_assign rfl rfl ?_)   -- t4 ← assign const slice none 0 0
  refine wOps_nil ?_
  refine mwp_seq ?_
  refine mwp_region rfl ?_   -- region 1
  refine wOps_op rfl (op_move rfl rfl ?_)   -- t5 ← move tmp 0
  refine wOps_op rfl (op_move rfl rfl ?_)   -- t6 ← move tmp 1
  refine wOps_op rfl (op_call rfl rfl rfl co38 ((merge_spec a b (fun x y => cmpI x.1 y.1) bothT 39 40 hab co39 co40 byWho_spec join1_spec _).mono ?_))   -- t7 ← call ('rec', {'callee': ('app', 'value', [('app', 'func', [38])])
  rintro _ _ ⟨rfl, rfl⟩
  refine wOps_op rfl (op_assign rfl rfl ?_)   -- t4 ← assign tmp 7
  refine wOps_nil ?_
  refine mwp_ret ?_
  exact ret_tmp (.inr rfl) Try.results27 rfl (.of_eq (rfl)) (cl_clock _ _) ⟨rfl, rfl⟩

theorem clkUp_spec (c : List Tk) (w : Int) (hc : c.length + 1 ≤ 1000000) (S : MS) : MCalls Try.prog 25 [.lst none 2 (c.map encT), .int .i64 w] S fun v σ' => v = .lst none 2 ((upF c w).map encT) ∧ σ' = S := by
  refine mcalls_body Try.func25 rfl Try.ntmps25 (Nat.le_of_ble_eq_true rfl) ?_
  refine mwp_seq ?_
  refine mwp_region rfl ?_   -- region 0
  refine wOps_op rfl (op_assign rfl rfl ?_)   -- t4 ← assign const slice none 0 0
  refine wOps_nil ?_
  refine mwp_seq ?_
  refine mwp_region rfl ?_   -- region 1
  refine wOps_op rfl (op_move rfl rfl ?_)   -- t6 ← move tmp 0
  refine wOps_op rfl (op_move rfl rfl ?_)   -- t7 ← move tmp 1
  refine wOps_op rfl (op_call rfl rfl rfl co23 ((clkOf_spec c w _).mono ?_))   -- t8 ← call ('rec', {'callee': ('app', 'value', [('app', 'func', [23])])
  rintro _ _ ⟨rfl, rfl⟩
  refine wOps_op rfl (op_assign rfl rfl ?_)   -- t5 ← assign tmp 8
  refine wOps_nil ?_
  refine mwp_seq ?_
  refine mwp_seq ?_
  refine mwp_region rfl ?_   -- region 2
  refine wOps_op rfl (op_move rfl rfl ?_)   -- t9 ← move tmp 5
  refine wOps_op rfl (op_arith rfl rfl rfl rfl ?_)   -- t10 ← binOp add 36 tmp 9 const int u64 1 36
  refine wOps_op rfl (op_move rfl rfl ?_)   -- t11 ← move tmp 5
  refine wOps_op rfl (op_cmp rfl rfl rfl rfl ?_)   -- t12 ← binOp gtr 36 tmp 10 tmp 11 36
  refine wOps_nil ?_
  refine mwp_cond_split rfl (fun h12 => ?_) (fun h12 => ?_)   -- if t12
  · -- yes
    refine mwp_region rfl ?_   -- region 3
    refine wOps_op rfl (op_move rfl rfl ?_)   -- t13 ← move tmp 5
    refine wOps_op rfl (op_arith rfl rfl rfl rfl ?_)   -- t14 ← binOp add 36 tmp 13 const int u64 1 36
    refine wOps_op rfl (op_assign rfl rfl ?_)   -- t5 ← assign tmp 14
    refine wOps_nil ?_
    refine mwp_seq ?_
    refine mwp_region rfl ?_   -- region 4
    refine wOps_op rfl (op_move rfl rfl ?_)   -- t15 ← move tmp 0
    refine wOps_op rfl (op_move rfl rfl ?_)   -- t16 ← move tmp 1
    refine wOps_op rfl (op_move rfl rfl ?_)   -- t17 ← move tmp 5
    refine wOps_op rfl (op_build rfl Try.underlying45 zm45 (.cons fo45_0 sz3 rfl rfl (Nat.le_of_ble_eq_true rfl) (.cons fo45_1 sz36 rfl rfl (Nat.le_of_ble_eq_true rfl) .nil)) (by kernel_rfl) ?_)   -- t18 ← build 45 [(0,tmp 16),(1,tmp 17)]
    refine wOps_op rfl (op_buildSlice rfl Try.underlying33 el45 rfl rfl (by decide) (by decide) rfl rfl ?_)   -- t19 ← buildSlice 33 1 [(0,tmp 18)]
    refine wOps_op rfl (op_call rfl rfl rfl co27 ((clkJoin_spec c [(w, IntKind.u64.wrap (ofF c w + 1))] (by simpa using hc) _).mono ?_))   -- t20 ← call ('rec', {'callee': ('app', 'value', [('app', 'func', [27])])
    rintro _ _ ⟨rfl, rfl⟩
    refine wOps_op rfl (op_assign rfl rfl ?_)   -- t4 ← assign tmp 20
    refine wOps_nil ?_
    refine mwp_ret ?_
    exact ret_tmp (.inr rfl) Try.results25 rfl (.of_eq (by simp only [decide_eq_true_eq] at h12; unfold upF nextF; rw [if_pos h12])) (cl_clock _ _) ⟨rfl, rfl⟩
  · -- no
    refine mwp_skip ?_
    refine mwp_seq ?_
    refine mwp_region rfl ?_   -- region 4
    refine wOps_op rfl (op_move rfl rfl ?_)   -- t15 ← move tmp 0
    refine wOps_op rfl (op_move rfl rfl ?_)   -- t16 ← move tmp 1
    refine wOps_op rfl (op_move rfl rfl ?_)   -- t17 ← move tmp 5
    refine wOps_op rfl (op_build rfl Try.underlying45 zm45 (.cons fo45_0 sz3 rfl rfl (Nat.le_of_ble_eq_true rfl) (.cons fo45_1 sz36 rfl rfl (Nat.le_of_ble_eq_true rfl) .nil)) (by kernel_rfl) ?_)   -- t18 ← build 45 [(0,tmp 16),(1,tmp 17)]
    refine wOps_op rfl (op_buildSlice rfl Try.underlying33 el45 rfl rfl (by decide) (by decide) rfl rfl ?_)   -- t19 ← buildSlice 33 1 [(0,tmp 18)]
    refine wOps_op rfl (op_call rfl rfl rfl co27 ((clkJoin_spec c [(w, ofF c w)] (by simpa using hc) _).mono ?_))   -- t20 ← call ('rec', {'callee': ('app', 'value', [('app', 'func', [27])])
    rintro _ _ ⟨rfl, rfl⟩
    refine wOps_op rfl (op_assign rfl rfl ?_)   -- t4 ← assign tmp 20
    refine wOps_nil ?_
    refine mwp_ret ?_
    exact ret_tmp (.inr rfl) Try.results25 rfl (.of_eq (by simp only [decide_eq_false_iff_not] at h12; unfold upF nextF; rw [if_neg h12])) (cl_clock _ _) ⟨rfl, rfl⟩

theorem clkCmp_spec (a b : List Tk) (hab : a.length + b.length ≤ 1000000) (S : MS) : MCalls Try.prog 29 [.lst none 2 (a.map encT), .lst none 2 (b.map encT)] S fun v σ' => v = .int .i64 (cmpF a b) ∧ σ' = S := by
  refine mcalls_body Try.func29 rfl Try.ntmps29 (Nat.le_of_ble_eq_true rfl) ?_
  refine mwp_seq ?_
  refine mwp_region rfl ?_   -- region 0
  refine wOps_op rfl (op_assign rfl rfl ?_)   -- t4 ← assign const int i64 0
  refine wOps_nil ?_
  refine mwp_seq ?_
  refine mwp_region rfl ?_   -- region 1
  refine wOps_op rfl (op_move rfl rfl ?_)   -- t6 ← move tmp 0
  refine wOps_op rfl (op_move rfl rfl ?_)   -- t7 ← move tmp 1
  refine wOps_op rfl (op_call rfl rfl rfl co27 ((clkJoin_spec a b hab _).mono ?_))   -- t8 ← call ('rec', {'callee': ('app', 'value', [('app', 'func', [27])])
  rintro _ _ ⟨rfl, rfl⟩
  refine wOps_op rfl (op_assign rfl rfl ?_)   -- t5 ← assign tmp 8
  refine wOps_nil ?_
  refine mwp_seq ?_
  refine mwp_block ?_   -- block 0
  refine mwp_seq ?_
  refine mwp_region rfl ?_   -- region 2
  refine wOps_op rfl (op_move rfl rfl ?_)   -- t10 ← move tmp 0
  refine wOps_op rfl (op_move rfl rfl ?_)   -- t11 ← move tmp 1
  refine wOps_op rfl (op_call rfl rfl rfl co21 ((clkSame_spec a b _).mono ?_))   -- t12 ← call ('rec', {'callee': ('app', 'value', [('app', 'func', [21])])
  rintro _ _ ⟨rfl, rfl⟩
  refine wOps_op rfl (op_assign rfl rfl ?_)   -- t9 ← assign tmp 12
  refine wOps_nil ?_
  refine mwp_cond_split rfl (fun h9 => ?_) (fun h9 => ?_)   -- if t9
  · -- yes
    refine mwp_seq ?_
    refine mwp_region rfl ?_   -- region 3
    refine wOps_op rfl (op_assign rfl rfl ?_)   -- t4 ← assign const int i64 0
    refine wOps_nil ?_
    refine mwp_ret ?_
    exact ret_tmp (.inr rfl) Try.results29 rfl (.of_eq (by unfold cmpF; simp_all)) (.int _ _) ⟨rfl, rfl⟩
  · -- no
    refine mwp_seq ?_
    refine mwp_region rfl ?_   -- region 4
    refine wOps_op rfl (op_move rfl rfl ?_)   -- t14 ← move tmp 5
    refine wOps_op rfl (op_move rfl rfl ?_)   -- t15 ← move tmp 1
    refine wOps_op rfl (op_call rfl rfl rfl co21 ((clkSame_spec (joinF a b) b _).mono ?_))   -- t16 ← call ('rec', {'callee': ('app', 'value', [('app', 'func', [21])])
    rintro _ _ ⟨rfl, rfl⟩
    refine wOps_op rfl (op_assign rfl rfl ?_)   -- t13 ← assign tmp 16
    refine wOps_nil ?_
    refine mwp_cond_split rfl (fun h13 => ?_) (fun h13 => ?_)   -- if t13
    · -- yes
      refine mwp_seq ?_
      refine mwp_region rfl ?_   -- region 5
      refine wOps_op rfl (op_assign rfl rfl ?_)   -- t4 ← assign const int i64 -1
      refine wOps_nil ?_
      refine mwp_ret ?_
      exact ret_tmp (.inr rfl) Try.results29 rfl (.of_eq (by unfold cmpF; simp_all)) (.int _ _) ⟨rfl, rfl⟩
    · -- no
      refine mwp_seq ?_
      refine mwp_region rfl ?_   -- region 6
      refine wOps_op rfl (op_move rfl rfl ?_)   -- t18 ← move tmp 5
      refine wOps_op rfl (op_move rfl rfl ?_)   -- t19 ← move tmp 0
      refine wOps_op rfl (op_call rfl rfl rfl co21 ((clkSame_spec (joinF a b) a _).mono ?_))   -- t20 ← call ('rec', {'callee': ('app', 'value', [('app', 'func', [21])])
      rintro _ _ ⟨rfl, rfl⟩
      refine wOps_op rfl (op_assign rfl rfl ?_)   -- t17 ← assign tmp 20
      refine wOps_nil ?_
      refine mwp_cond_split rfl (fun h17 => ?_) (fun h17 => ?_)   -- if t17
      · -- yes
        refine mwp_seq ?_
        refine mwp_region rfl ?_   -- region 7
        refine wOps_op rfl (op_assign rfl rfl ?_)   -- t4 ← assign const int i64 1
        refine wOps_nil ?_
        refine mwp_ret ?_
        exact ret_tmp (.inr rfl) Try.results29 rfl (.of_eq (by unfold cmpF; simp_all)) (.int _ _) ⟨rfl, rfl⟩
      · -- no
        refine mwp_skip ?_
        refine mwp_seq ?_
        refine mwp_region rfl ?_   -- region 8
        refine wOps_op rfl (op_assign rfl rfl ?_)   -- t4 ← assign const int i64 2
        refine wOps_nil ?_
        refine mwp_ret ?_
        exact ret_tmp (.inr rfl) Try.results29 rfl (.of_eq (by unfold cmpF; simp_all)) (.int _ _) ⟨rfl, rfl⟩
end Go.Proofs.Ytiocekmiaediiaa
