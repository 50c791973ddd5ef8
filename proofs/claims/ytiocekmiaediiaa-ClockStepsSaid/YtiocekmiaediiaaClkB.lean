/-
  Walks of the reference's clocks (layer 3).
-/
import Derived.Test.YtiocekmiaediiaaClkA
set_option linter.unusedVariables false
set_option linter.unusedSimpArgs false
set_option maxHeartbeats 400000
namespace Go.Proofs.Ytiocekmiaediiaa
open Go Go.MV
theorem withF_t (w n : Int) (t : Tk) (c : List Tk) : withF w n true (t :: c) = t :: withF w n true c := by rw [withF]
theorem withF_f (w n : Int) (t : Tk) (c : List Tk) : withF w n false (t :: c) = if w ≤ t.1 then (if t.1 = w then (w, if t.2 > n then t.2 else n) :: withF w n true c else (w, n) :: t :: withF w n true c) else t :: withF w n false c := by rw [withF]
theorem drop_cons {α : Type} {l : List α} {i : Nat} {a : α} (h : l[i]? = some a) : l.drop i = a :: l.drop (i + 1) := by
  obtain ⟨hlt, e⟩ := List.getElem?_eq_some_iff.1 h
  rw [List.drop_eq_getElem_cons hlt, e]


theorem rIsClock_spec (c : List Tk) (S : MS) : MCalls Try.prog 20 [.lst none 2 (c.map encT)] S fun v σ' => v = .bool (isClockF c) ∧ σ' = S := by
  refine mcalls_body Try.func20 rfl Try.ntmps20 (Nat.le_of_ble_eq_true rfl) ?_
  refine mwp_len (t := 0) rfl fun hlen => ?_
  rw [List.length_map] at hlen
  refine mwp_seq ?_
  refine mwp_region rfl ?_   -- region 0
  refine wOps_op rfl (op_assign rfl rfl ?_)   -- t2 ← assign const bool false
  refine wOps_nil ?_
  refine mwp_seq ?_
  refine mwp_seq ?_
  refine mwp_region rfl ?_   -- region 1
  refine wOps_op rfl (op_assign rfl rfl ?_)   -- t3 ← assign const int i64 0
  refine wOps_nil ?_
  refine mwp_block ?_   -- block 0
  refine mwp_loopK (α := Nat) [(0, _)] (fun i => [(3, .int .i64 (i : Int))]) (fun i => []) (fun i => i ≤ c.length ∧ ∀ j, j < i → okAt c j = true) (fun i => c.length - i) (0) (.keep rfl (.nil)) (.keep rfl (.nil)) (⟨by omega, fun j hj => by omega⟩) rfl ?_
  rintro i ⟨hi, hall⟩
  refine mwp_seq ?_
  refine mwp_seq ?_
  refine mwp_region rfl ?_   -- region 2
  refine wOps_op rfl (op_move rfl rfl ?_)   -- t4 ← move tmp 3
  refine wOps_op rfl (op_move rfl rfl ?_)   -- t5 ← move tmp 0
  refine wOps_op rfl (op_len_lst rfl Try.underlying33 rfl ?_)   -- t6 ← call ('rec', {'callee': ('app', 'builtin', [('id', 'Go.Builtin.le
  refine wOps_op rfl (op_cmp rfl rfl rfl rfl ?_)   -- t7 ← binOp lss 3 tmp 4 tmp 6 3
  refine wOps_nil ?_
  refine mwp_cond_split rfl (fun h7 => ?_) (fun h7 => ?_)   -- if t7
  · -- yes
    have hlt : i < c.length := by simpa using h7
    obtain ⟨t, hs⟩ : ∃ q_, c[i]? = some q_ := ⟨_, List.getElem?_eq_getElem hlt⟩
    refine mwp_skip ?_
    refine mwp_seq ?_
    refine mwp_block ?_   -- block 1
    refine mwp_seq ?_
    refine mwp_draw [] [_] mo (by decide) rfl rfl rfl rfl ?_   -- region 4
    refine dOps_op rfl rfl (.cons (op_move rfl rfl ⟨rfl, rfl⟩) .nil) ?_   -- t10 ← move tmp 0
    refine dOps_op rfl rfl (.cons (op_move rfl rfl ⟨rfl, rfl⟩) .nil) ?_   -- t11 ← move tmp 3
    refine dOps_op rfl rfl (.cons (op_indexAddr rfl Try.underlying33 sz45 (by decide) rfl rfl rfl (get_map hs) ⟨rfl, rfl⟩) .nil) ?_   -- t12 ← indexAddr 33 tmp 10 tmp 11
    refine dOps_op rfl rfl (.cons (op_fieldAddr_sptr rfl rfl fo45_0 ⟨rfl, rfl⟩) .nil) ?_   -- t13 ← fieldAddr 45 tmp 12 0
    refine dOps_op rfl rfl (.cons (op_load_sptr rfl rfl ta3 rfl ⟨rfl, rfl⟩) .nil) ?_   -- t14 ← load 3 tmp 13
    refine dOps_op rfl rfl (.cons (op_cmp rfl rfl rfl rfl ⟨rfl, rfl⟩) .nil) ?_   -- t15 ← binOp lss 3 tmp 14 const int i64 0 3
    refine dOps_op rfl rfl (.cons (op_move rfl rfl ⟨rfl, rfl⟩) .nil) ?_   -- t16 ← move tmp 15
    refine dOps_case (fun h16 => ?_) (fun h16 => ?_)
    ·
      refine dOps_skip rfl rfl ?_
      refine dOps_skip rfl rfl ?_
      refine dOps_skip rfl rfl ?_
      refine dOps_skip rfl rfl ?_
      refine dOps_skip rfl rfl ?_
      refine dOps_skip rfl rfl ?_
      refine dOps_op rfl rfl (.cons (op_pick rfl rfl rfl ⟨rfl, rfl⟩) .nil) ?_   -- t23 ← pick tmp 16 const bool true tmp 22
      refine dOps_op rfl rfl (.cons (op_move rfl rfl ⟨rfl, rfl⟩) .nil) ?_   -- t24 ← move tmp 23
      refine dOps_skip rfl rfl ?_
      refine dOps_skip rfl rfl ?_
      refine dOps_skip rfl rfl ?_
      refine dOps_skip rfl rfl ?_
      refine dOps_skip rfl rfl ?_
      refine dOps_skip rfl rfl ?_
      refine dOps_op rfl rfl (.cons (op_pick rfl rfl rfl ⟨rfl, rfl⟩) .nil) ?_   -- t31 ← pick tmp 24 const bool true tmp 30
      refine dOps_op rfl rfl (.cons (op_move rfl rfl ⟨rfl, rfl⟩) .nil) ?_   -- t32 ← move tmp 31
      refine dOps_skip rfl rfl ?_
      refine dOps_skip rfl rfl ?_
      refine dOps_skip rfl rfl ?_
      refine dOps_skip rfl rfl ?_
      refine dOps_skip rfl rfl ?_
      refine dOps_skip rfl rfl ?_
      refine dOps_skip rfl rfl ?_
      refine dOps_skip rfl rfl ?_
      refine dOps_skip rfl rfl ?_
      refine dOps_skip rfl rfl ?_
      refine dOps_skip rfl rfl ?_
      refine dOps_skip rfl rfl ?_
      refine dOps_skip rfl rfl ?_
      refine dOps_skip rfl rfl ?_
      refine dOps_skip rfl rfl ?_
      refine dOps_skip rfl rfl ?_
      refine dOps_op rfl rfl (.cons (op_pick rfl rfl rfl ⟨rfl, rfl⟩) .nil) ?_   -- t49 ← pick tmp 32 const bool true tmp 48
      refine dOps_nil ?_
      refine mwp_cond_t rfl (rfl) ?_   -- if t49
      refine mwp_seq ?_
      refine mwp_region rfl ?_   -- region 5
      refine wOps_op rfl (op_assign rfl rfl ?_)   -- t2 ← assign const bool false
      refine wOps_nil ?_
      refine mwp_ret ?_
      exact ret_tmp (.inr rfl) Try.results20 rfl (.of_eq (by rw [isClock_false hlt (by simp_all [okAt] <;> omega)])) (.bool _) ⟨rfl, rfl⟩
    ·
      refine dOps_op rfl rfl (.cons (op_move rfl rfl ⟨rfl, rfl⟩) .nil) ?_   -- t17 ← move tmp 0  GUARD
      refine dOps_op rfl rfl (.cons (op_move rfl rfl ⟨rfl, rfl⟩) .nil) ?_   -- t18 ← move tmp 3  GUARD
      refine dOps_op rfl rfl (.cons (op_indexAddr rfl Try.underlying33 sz45 (by decide) rfl rfl rfl (get_map hs) ⟨rfl, rfl⟩) .nil) ?_   -- t19 ← indexAddr 33 tmp 17 tmp 18  GUARD
      refine dOps_op rfl rfl (.cons (op_fieldAddr_sptr rfl rfl fo45_0 ⟨rfl, rfl⟩) .nil) ?_   -- t20 ← fieldAddr 45 tmp 19 0  GUARD
      refine dOps_op rfl rfl (.cons (op_load_sptr rfl rfl ta3 rfl ⟨rfl, rfl⟩) .nil) ?_   -- t21 ← load 3 tmp 20  GUARD
      refine dOps_op rfl rfl (.cons (op_cmp rfl rfl rfl rfl ⟨rfl, rfl⟩) .nil) ?_   -- t22 ← binOp gtr 3 tmp 21 const int i64 1000000 3  GUARD
      refine dOps_op rfl rfl (.cons (op_pick rfl rfl rfl ⟨rfl, rfl⟩) .nil) ?_   -- t23 ← pick tmp 16 const bool true tmp 22
      refine dOps_op rfl rfl (.cons (op_move rfl rfl ⟨rfl, rfl⟩) .nil) ?_   -- t24 ← move tmp 23
      refine dOps_case (fun h24 => ?_) (fun h24 => ?_)
      ·
        refine dOps_skip rfl rfl ?_
        refine dOps_skip rfl rfl ?_
        refine dOps_skip rfl rfl ?_
        refine dOps_skip rfl rfl ?_
        refine dOps_skip rfl rfl ?_
        refine dOps_skip rfl rfl ?_
        refine dOps_op rfl rfl (.cons (op_pick rfl rfl rfl ⟨rfl, rfl⟩) .nil) ?_   -- t31 ← pick tmp 24 const bool true tmp 30
        refine dOps_op rfl rfl (.cons (op_move rfl rfl ⟨rfl, rfl⟩) .nil) ?_   -- t32 ← move tmp 31
        refine dOps_skip rfl rfl ?_
        refine dOps_skip rfl rfl ?_
        refine dOps_skip rfl rfl ?_
        refine dOps_skip rfl rfl ?_
        refine dOps_skip rfl rfl ?_
        refine dOps_skip rfl rfl ?_
        refine dOps_skip rfl rfl ?_
        refine dOps_skip rfl rfl ?_
        refine dOps_skip rfl rfl ?_
        refine dOps_skip rfl rfl ?_
        refine dOps_skip rfl rfl ?_
        refine dOps_skip rfl rfl ?_
        refine dOps_skip rfl rfl ?_
        refine dOps_skip rfl rfl ?_
        refine dOps_skip rfl rfl ?_
        refine dOps_skip rfl rfl ?_
        refine dOps_op rfl rfl (.cons (op_pick rfl rfl rfl ⟨rfl, rfl⟩) .nil) ?_   -- t49 ← pick tmp 32 const bool true tmp 48
        refine dOps_nil ?_
        refine mwp_cond_t rfl (rfl) ?_   -- if t49
        refine mwp_seq ?_
        refine mwp_region rfl ?_   -- region 5
        refine wOps_op rfl (op_assign rfl rfl ?_)   -- t2 ← assign const bool false
        refine wOps_nil ?_
        refine mwp_ret ?_
        exact ret_tmp (.inr rfl) Try.results20 rfl (.of_eq (by rw [isClock_false hlt (by simp_all [okAt] <;> omega)])) (.bool _) ⟨rfl, rfl⟩
      ·
        refine dOps_op rfl rfl (.cons (op_move rfl rfl ⟨rfl, rfl⟩) .nil) ?_   -- t25 ← move tmp 0  GUARD
        refine dOps_op rfl rfl (.cons (op_move rfl rfl ⟨rfl, rfl⟩) .nil) ?_   -- t26 ← move tmp 3  GUARD
        refine dOps_op rfl rfl (.cons (op_indexAddr rfl Try.underlying33 sz45 (by decide) rfl rfl rfl (get_map hs) ⟨rfl, rfl⟩) .nil) ?_   -- t27 ← indexAddr 33 tmp 25 tmp 26  GUARD
        refine dOps_op rfl rfl (.cons (op_fieldAddr_sptr rfl rfl fo45_1 ⟨rfl, rfl⟩) .nil) ?_   -- t28 ← fieldAddr 45 tmp 27 1  GUARD
        refine dOps_op rfl rfl (.cons (op_load_sptr rfl rfl ta36 rfl ⟨rfl, rfl⟩) .nil) ?_   -- t29 ← load 36 tmp 28  GUARD
        refine dOps_op rfl rfl (.cons (op_cmp rfl rfl rfl rfl ⟨rfl, rfl⟩) .nil) ?_   -- t30 ← binOp eql 36 tmp 29 const int u64 0 36  GUARD
        refine dOps_op rfl rfl (.cons (op_pick rfl rfl rfl ⟨rfl, rfl⟩) .nil) ?_   -- t31 ← pick tmp 24 const bool true tmp 30
        refine dOps_op rfl rfl (.cons (op_move rfl rfl ⟨rfl, rfl⟩) .nil) ?_   -- t32 ← move tmp 31
        refine dOps_case (fun h32 => ?_) (fun h32 => ?_)
        ·
          refine dOps_skip rfl rfl ?_
          refine dOps_skip rfl rfl ?_
          refine dOps_skip rfl rfl ?_
          refine dOps_skip rfl rfl ?_
          refine dOps_skip rfl rfl ?_
          refine dOps_skip rfl rfl ?_
          refine dOps_skip rfl rfl ?_
          refine dOps_skip rfl rfl ?_
          refine dOps_skip rfl rfl ?_
          refine dOps_skip rfl rfl ?_
          refine dOps_skip rfl rfl ?_
          refine dOps_skip rfl rfl ?_
          refine dOps_skip rfl rfl ?_
          refine dOps_skip rfl rfl ?_
          refine dOps_skip rfl rfl ?_
          refine dOps_skip rfl rfl ?_
          refine dOps_op rfl rfl (.cons (op_pick rfl rfl rfl ⟨rfl, rfl⟩) .nil) ?_   -- t49 ← pick tmp 32 const bool true tmp 48
          refine dOps_nil ?_
          refine mwp_cond_t rfl (rfl) ?_   -- if t49
          refine mwp_seq ?_
          refine mwp_region rfl ?_   -- region 5
          refine wOps_op rfl (op_assign rfl rfl ?_)   -- t2 ← assign const bool false
          refine wOps_nil ?_
          refine mwp_ret ?_
          exact ret_tmp (.inr rfl) Try.results20 rfl (.of_eq (by rw [isClock_false hlt (by simp_all [okAt] <;> omega)])) (.bool _) ⟨rfl, rfl⟩
        ·
          refine dOps_op rfl rfl (.cons (op_move rfl rfl ⟨rfl, rfl⟩) .nil) ?_   -- t33 ← move tmp 3  GUARD
          refine dOps_op rfl rfl (.cons (op_cmp rfl rfl rfl rfl ⟨rfl, rfl⟩) .nil) ?_   -- t34 ← binOp gtr 3 tmp 33 const int i64 0 3  GUARD
          refine dOps_op rfl rfl (.cons (op_move rfl rfl ⟨rfl, rfl⟩) .nil) ?_   -- t35 ← move tmp 34  GUARD
          refine dOps_case (fun h35 => ?_) (fun h35 => ?_)
          ·
            have hi0 : 0 < i := by simpa using h35
            obtain ⟨p, hp⟩ : ∃ a, c[i - 1]? = some a := ⟨_, List.getElem?_eq_getElem (by omega)⟩
            refine dOps_op rfl rfl (.cons (op_move rfl rfl ⟨rfl, rfl⟩) .nil) ?_   -- t36 ← move tmp 0  GUARD
            refine dOps_op rfl rfl (.cons (op_move rfl rfl ⟨rfl, rfl⟩) .nil) ?_   -- t37 ← move tmp 3  GUARD
            refine dOps_op rfl rfl (.cons (op_arith rfl rfl rfl (wsub (a := i) (b := 1) (c := i - 1) (by omega) (by simp only [maxLen] at hlen; omega)) ⟨rfl, rfl⟩) .nil) ?_   -- t38 ← binOp sub 3 tmp 37 const int i64 1 3  GUARD
            refine dOps_op rfl rfl (.cons (op_indexAddr rfl Try.underlying33 sz45 (by decide) rfl rfl rfl (get_map hp) ⟨rfl, rfl⟩) .nil) ?_   -- t39 ← indexAddr 33 tmp 36 tmp 38  GUARD
            refine dOps_op rfl rfl (.cons (op_fieldAddr_sptr rfl rfl fo45_0 ⟨rfl, rfl⟩) .nil) ?_   -- t40 ← fieldAddr 45 tmp 39 0  GUARD
            refine dOps_op rfl rfl (.cons (op_load_sptr rfl rfl ta3 rfl ⟨rfl, rfl⟩) .nil) ?_   -- t41 ← load 3 tmp 40  GUARD
            refine dOps_op rfl rfl (.cons (op_move rfl rfl ⟨rfl, rfl⟩) .nil) ?_   -- t42 ← move tmp 0  GUARD
            refine dOps_op rfl rfl (.cons (op_move rfl rfl ⟨rfl, rfl⟩) .nil) ?_   -- t43 ← move tmp 3  GUARD
            refine dOps_op rfl rfl (.cons (op_indexAddr rfl Try.underlying33 sz45 (by decide) rfl rfl rfl (get_map hs) ⟨rfl, rfl⟩) .nil) ?_   -- t44 ← indexAddr 33 tmp 42 tmp 43  GUARD
            refine dOps_op rfl rfl (.cons (op_fieldAddr_sptr rfl rfl fo45_0 ⟨rfl, rfl⟩) .nil) ?_   -- t45 ← fieldAddr 45 tmp 44 0  GUARD
            refine dOps_op rfl rfl (.cons (op_load_sptr rfl rfl ta3 rfl ⟨rfl, rfl⟩) .nil) ?_   -- t46 ← load 3 tmp 45  GUARD
            refine dOps_op rfl rfl (.cons (op_cmp rfl rfl rfl rfl ⟨rfl, rfl⟩) .nil) ?_   -- t47 ← binOp geq 3 tmp 41 tmp 46 3  GUARD
            refine dOps_op rfl rfl (.cons (op_pick rfl rfl rfl ⟨rfl, rfl⟩) .nil) ?_   -- t48 ← pick tmp 35 tmp 47 const bool false  GUARD
            refine dOps_op rfl rfl (.cons (op_pick rfl rfl rfl ⟨rfl, rfl⟩) .nil) ?_   -- t49 ← pick tmp 32 const bool true tmp 48
            refine dOps_nil ?_
            refine mwp_cond_split rfl (fun h49 => ?_) (fun h49 => ?_)   -- if t49
            · -- yes
              refine mwp_seq ?_
              refine mwp_region rfl ?_   -- region 5
              refine wOps_op rfl (op_assign rfl rfl ?_)   -- t2 ← assign const bool false
              refine wOps_nil ?_
              refine mwp_ret ?_
              exact ret_tmp (.inr rfl) Try.results20 rfl (.of_eq (by rw [isClock_false hlt (by simp_all [okAt] <;> omega)])) (.bool _) ⟨rfl, rfl⟩
            · -- no
              refine mwp_skip ?_
              refine mwp_region rfl ?_   -- region 3
              refine wOps_op rfl (op_move rfl rfl ?_)   -- t8 ← move tmp 3
              refine wOps_op rfl (op_arith rfl rfl rfl rfl ?_)   -- t9 ← binOp add 3 tmp 8 const int i64 1 3
              refine wOps_op rfl (op_assign rfl rfl ?_)   -- t3 ← assign tmp 9
              refine wOps_nil ?_
              refine ⟨i + 1, by omega, ⟨by omega, fun j hj => ?_⟩, rfl, (.keep rfl (.nil)), (.eq rfl (int_succ hlt hlen) (.nil))⟩
              by_cases e : j = i
              · subst e; simp_all [okAt]
              · exact hall j (by omega)
          ·
            refine dOps_skip rfl rfl ?_
            refine dOps_skip rfl rfl ?_
            refine dOps_skip rfl rfl ?_
            refine dOps_skip rfl rfl ?_
            refine dOps_skip rfl rfl ?_
            refine dOps_skip rfl rfl ?_
            refine dOps_skip rfl rfl ?_
            refine dOps_skip rfl rfl ?_
            refine dOps_skip rfl rfl ?_
            refine dOps_skip rfl rfl ?_
            refine dOps_skip rfl rfl ?_
            refine dOps_skip rfl rfl ?_
            refine dOps_op rfl rfl (.cons (op_pick rfl rfl rfl ⟨rfl, rfl⟩) .nil) ?_   -- t48 ← pick tmp 35 tmp 47 const bool false  GUARD
            refine dOps_op rfl rfl (.cons (op_pick rfl rfl rfl ⟨rfl, rfl⟩) .nil) ?_   -- t49 ← pick tmp 32 const bool true tmp 48
            refine dOps_nil ?_
            refine mwp_cond_f rfl (rfl) ?_   -- if t49
            refine mwp_skip ?_
            refine mwp_region rfl ?_   -- region 3
            refine wOps_op rfl (op_move rfl rfl ?_)   -- t8 ← move tmp 3
            refine wOps_op rfl (op_arith rfl rfl rfl rfl ?_)   -- t9 ← binOp add 3 tmp 8 const int i64 1 3
            refine wOps_op rfl (op_assign rfl rfl ?_)   -- t3 ← assign tmp 9
            refine wOps_nil ?_
            refine ⟨i + 1, by omega, ⟨by omega, fun j hj => ?_⟩, rfl, (.keep rfl (.nil)), (.eq rfl (int_succ hlt hlen) (.nil))⟩
            by_cases e : j = i
            · subst e; simp_all [okAt]
            · exact hall j (by omega)
  · -- no
    have hge : i = c.length := by simp at h7; omega
    refine mwp_exit ?_
    refine mwp_seq ?_
    refine mwp_region rfl ?_   -- region 6
    refine wOps_op rfl (op_move rfl rfl ?_)   -- t50 ← move tmp 0
    refine wOps_op rfl (op_len_lst rfl Try.underlying33 rfl ?_)   -- t51 ← call ('rec', {'callee': ('app', 'builtin', [('id', 'Go.Builtin.le
    refine wOps_op rfl (op_cmp rfl rfl rfl rfl ?_)   -- t52 ← binOp leq 3 tmp 51 const int i64 40 3
    refine wOps_op rfl (op_assign rfl rfl ?_)   -- t2 ← assign tmp 52
    refine wOps_nil ?_
    refine mwp_ret ?_
    exact ret_tmp (.inr rfl) Try.results20 rfl (.of_eq (by rw [isClock_end (fun j hj => hall j (by omega)), List.length_map])) (.bool _) ⟨rfl, rfl⟩

theorem rOf_spec (c : List Tk) (w : Int) (S : MS) : MCalls Try.prog 24 [.lst none 2 (c.map encT), .int .i64 w] S fun v σ' => v = .int .u64 (ofF c w) ∧ σ' = S := by
  refine mcalls_body Try.func24 rfl Try.ntmps24 (Nat.le_of_ble_eq_true rfl) ?_
  refine mwp_len (t := 0) rfl fun hlen => ?_
  rw [List.length_map] at hlen
  refine mwp_seq ?_
  refine mwp_region rfl ?_   -- region 0
  refine wOps_op rfl (op_assign rfl rfl ?_)   -- t4 ← assign const int u64 0
  refine wOps_nil ?_
  refine mwp_seq ?_
  refine mwp_seq ?_
  refine mwp_region rfl ?_   -- region 1
  refine wOps_op rfl (op_assign rfl rfl ?_)   -- t5 ← assign const int i64 0
  refine wOps_nil ?_
  refine mwp_block ?_   -- block 0
  refine mwp_loopK (α := Nat) [(0, _), (1, _)] (fun i => [(5, .int .i64 (i : Int))]) (fun i => []) (fun i => i ≤ c.length ∧ ∀ j, j < i → ∀ t, c[j]? = some t → t.1 ≠ w) (fun i => c.length - i) (0) (.keep rfl (.keep rfl (.nil))) (.keep rfl (.nil)) (⟨by omega, fun j hj => by omega⟩) rfl ?_
  rintro i ⟨hi, hall⟩
  refine mwp_seq ?_
  refine mwp_seq ?_
  refine mwp_region rfl ?_   -- region 2
  refine wOps_op rfl (op_move rfl rfl ?_)   -- t6 ← move tmp 5
  refine wOps_op rfl (op_move rfl rfl ?_)   -- t7 ← move tmp 0
  refine wOps_op rfl (op_len_lst rfl Try.underlying33 rfl ?_)   -- t8 ← call ('rec', {'callee': ('app', 'builtin', [('id', 'Go.Builtin.le
  refine wOps_op rfl (op_cmp rfl rfl rfl rfl ?_)   -- t9 ← binOp lss 3 tmp 6 tmp 8 3
  refine wOps_nil ?_
  refine mwp_cond_split rfl (fun h9 => ?_) (fun h9 => ?_)   -- if t9
  · -- yes
    have hlt : i < c.length := by simpa using h9
    obtain ⟨t, hs⟩ : ∃ q_, c[i]? = some q_ := ⟨_, List.getElem?_eq_getElem hlt⟩
    refine mwp_skip ?_
    refine mwp_seq ?_
    refine mwp_block ?_   -- block 1
    refine mwp_seq ?_
    refine mwp_region rfl ?_   -- region 4
    refine wOps_op rfl (op_move rfl rfl ?_)   -- t12 ← move tmp 0
    refine wOps_op rfl (op_move rfl rfl ?_)   -- t13 ← move tmp 5
    refine wOps_op rfl (op_indexAddr rfl Try.underlying33 sz45 (by decide) rfl rfl rfl (get_map hs) ?_)   -- t14 ← indexAddr 33 tmp 12 tmp 13
    refine wOps_op rfl (op_fieldAddr_sptr rfl rfl fo45_0 ?_)   -- t15 ← fieldAddr 45 tmp 14 0
    refine wOps_op rfl (op_load_sptr rfl rfl ta3 rfl ?_)   -- t16 ← load 3 tmp 15
    refine wOps_op rfl (op_move rfl rfl ?_)   -- t17 ← move tmp 1
    refine wOps_op rfl (op_cmp rfl rfl rfl rfl ?_)   -- t18 ← binOp eql 3 tmp 16 tmp 17 3
    refine wOps_nil ?_
    refine mwp_cond_split rfl (fun h18 => ?_) (fun h18 => ?_)   -- if t18
    · -- yes
      refine mwp_seq ?_
      refine mwp_region rfl ?_   -- region 5
      refine wOps_op rfl (op_move rfl rfl ?_)   -- t19 ← move tmp 0
      refine wOps_op rfl (op_move rfl rfl ?_)   -- t20 ← move tmp 5
      refine wOps_op rfl (op_indexAddr rfl Try.underlying33 sz45 (by decide) rfl rfl rfl (get_map hs) ?_)   -- t21 ← indexAddr 33 tmp 19 tmp 20
      refine wOps_op rfl (op_fieldAddr_sptr rfl rfl fo45_1 ?_)   -- t22 ← fieldAddr 45 tmp 21 1
      refine wOps_op rfl (op_load_sptr rfl rfl ta36 rfl ?_)   -- t23 ← load 36 tmp 22
      refine wOps_op rfl (op_assign rfl rfl ?_)   -- t4 ← assign tmp 23
      refine wOps_nil ?_
      refine mwp_ret ?_
      exact ret_tmp (.inr rfl) Try.results24 rfl (.of_eq (by rw [← of_drop hall, drop_cons hs, ofF, if_pos (by simpa using h18)])) (.int _ _) ⟨rfl, rfl⟩
    · -- no
      refine mwp_skip ?_
      refine mwp_region rfl ?_   -- region 3
      refine wOps_op rfl (op_move rfl rfl ?_)   -- t10 ← move tmp 5
      refine wOps_op rfl (op_arith rfl rfl rfl rfl ?_)   -- t11 ← binOp add 3 tmp 10 const int i64 1 3
      refine wOps_op rfl (op_assign rfl rfl ?_)   -- t5 ← assign tmp 11
      refine wOps_nil ?_
      refine ⟨i + 1, by omega, ⟨by omega, fun j hj s hj2 => ?_⟩, rfl, (.keep rfl (.keep rfl (.nil))), (.eq rfl (int_succ hlt hlen) (.nil))⟩
      by_cases e : j = i
      · subst e; rw [hs] at hj2; injection hj2 with hj2; subst hj2; simpa using h18
      · exact hall j (by omega) s hj2
  · -- no
    have hge : i = c.length := by simp at h9; omega
    refine mwp_exit ?_
    refine mwp_seq ?_
    refine mwp_region rfl ?_   -- region 6
    refine wOps_op rfl (op_assign rfl rfl ?_)   -- t4 ← assign const int u64 0
    refine wOps_nil ?_
    refine mwp_ret ?_
    exact ret_tmp (.inr rfl) Try.results24 rfl (.of_eq (by rw [← of_drop hall, hge, List.drop_length]; rfl)) (.int _ _) ⟨rfl, rfl⟩

theorem rSameC_spec (a b : List Tk) (S : MS) : MCalls Try.prog 22 [.lst none 2 (a.map encT), .lst none 2 (b.map encT)] S fun v σ' => v = .bool (decide (a = b)) ∧ σ' = S := by
  refine mcalls_body Try.func22 rfl Try.ntmps22 (Nat.le_of_ble_eq_true rfl) ?_
  refine mwp_len (t := 0) rfl fun hlen => ?_
  rw [List.length_map] at hlen
  refine mwp_seq ?_
  refine mwp_region rfl ?_   -- region 0
  refine wOps_op rfl (op_assign rfl rfl ?_)   -- t4 ← assign const bool false
  refine wOps_nil ?_
  refine mwp_seq ?_
  refine mwp_seq ?_
  refine mwp_region rfl ?_   -- region 1
  refine wOps_op rfl (op_move rfl rfl ?_)   -- t6 ← move tmp 0
  refine wOps_op rfl (op_len_lst rfl Try.underlying33 rfl ?_)   -- t7 ← call ('rec', {'callee': ('app', 'builtin', [('id', 'Go.Builtin.le
  refine wOps_op rfl (op_move rfl rfl ?_)   -- t8 ← move tmp 1
  refine wOps_op rfl (op_len_lst rfl Try.underlying33 rfl ?_)   -- t9 ← call ('rec', {'callee': ('app', 'builtin', [('id', 'Go.Builtin.le
  refine wOps_op rfl (op_cmp rfl rfl rfl rfl ?_)   -- t10 ← binOp neq 3 tmp 7 tmp 9 3
  refine wOps_nil ?_
  refine mwp_cond_split rfl (fun h10 => ?_) (fun h10 => ?_)   -- if t10
  · -- yes
    refine mwp_seq ?_
    refine mwp_region rfl ?_   -- region 2
    refine wOps_op rfl (op_assign rfl rfl ?_)   -- t4 ← assign const bool false
    refine wOps_nil ?_
    refine mwp_ret ?_
    exact ret_tmp (.inr rfl) Try.results22 rfl (.of_eq (by congr 1; symm; rw [decide_eq_false_iff_not]; intro e; subst e; simp at h10)) (.bool _) ⟨rfl, rfl⟩
  · -- no
    have hab : a.length = b.length := by simp at h10; omega
    refine mwp_skip ?_
    refine mwp_seq ?_
    refine mwp_seq ?_
    refine mwp_region rfl ?_   -- region 3
    refine wOps_op rfl (op_assign rfl rfl ?_)   -- t5 ← assign const int i64 0
    refine wOps_nil ?_
    refine mwp_block ?_   -- block 0
    refine mwp_loopK (α := Nat) [(0, _), (1, _)] (fun i => [(5, .int .i64 (i : Int))]) (fun i => []) (fun i => i ≤ a.length ∧ a.take i = b.take i) (fun i => a.length - i) (0) (.keep rfl (.keep rfl (.nil))) (.keep rfl (.nil)) (⟨by omega, rfl⟩) rfl ?_
    rintro i ⟨hi, heq⟩
    refine mwp_seq ?_
    refine mwp_seq ?_
    refine mwp_region rfl ?_   -- region 4
    refine wOps_op rfl (op_move rfl rfl ?_)   -- t11 ← move tmp 5
    refine wOps_op rfl (op_move rfl rfl ?_)   -- t12 ← move tmp 0
    refine wOps_op rfl (op_len_lst rfl Try.underlying33 rfl ?_)   -- t13 ← call ('rec', {'callee': ('app', 'builtin', [('id', 'Go.Builtin.le
    refine wOps_op rfl (op_cmp rfl rfl rfl rfl ?_)   -- t14 ← binOp lss 3 tmp 11 tmp 13 3
    refine wOps_nil ?_
    refine mwp_cond_split rfl (fun h14 => ?_) (fun h14 => ?_)   -- if t14
    · -- yes
      have hlt : i < a.length := by simpa using h14
      obtain ⟨x, hs⟩ : ∃ q_, a[i]? = some q_ := ⟨_, List.getElem?_eq_getElem hlt⟩
      obtain ⟨y, hs2⟩ : ∃ s, b[i]? = some s := ⟨_, List.getElem?_eq_getElem (by omega)⟩
      refine mwp_skip ?_
      refine mwp_seq ?_
      refine mwp_block ?_   -- block 1
      refine mwp_seq ?_
      refine mwp_draw [] [_] mo (by decide) rfl rfl rfl rfl ?_   -- region 6
      refine dOps_op rfl rfl (.cons (op_move rfl rfl ⟨rfl, rfl⟩) .nil) ?_   -- t17 ← move tmp 0
      refine dOps_op rfl rfl (.cons (op_move rfl rfl ⟨rfl, rfl⟩) .nil) ?_   -- t18 ← move tmp 5
      refine dOps_op rfl rfl (.cons (op_indexAddr rfl Try.underlying33 sz45 (by decide) rfl rfl rfl (get_map hs) ⟨rfl, rfl⟩) .nil) ?_   -- t19 ← indexAddr 33 tmp 17 tmp 18
      refine dOps_op rfl rfl (.cons (op_load_sptr rfl rfl ta45 rfl ⟨rfl, rfl⟩) .nil) ?_   -- t20 ← load 45 tmp 19
      refine dOps_op rfl rfl (.cons (op_move rfl rfl ⟨rfl, rfl⟩) .nil) ?_   -- t21 ← move tmp 1
      refine dOps_op rfl rfl (.cons (op_move rfl rfl ⟨rfl, rfl⟩) .nil) ?_   -- t22 ← move tmp 5
      refine dOps_op rfl rfl (.cons (op_indexAddr rfl Try.underlying33 sz45 (by decide) rfl rfl rfl (get_map hs2) ⟨rfl, rfl⟩) .nil) ?_   -- t23 ← indexAddr 33 tmp 21 tmp 22
      refine dOps_op rfl rfl (.cons (op_load_sptr rfl rfl ta45 rfl ⟨rfl, rfl⟩) .nil) ?_   -- t24 ← load 45 tmp 23
      refine dOps_op rfl rfl (.cons (op_eqstruct rfl (by kernel_rfl) rfl rfl rfl (.inr ⟨rfl, rfl⟩) ⟨rfl, rfl⟩) .nil) ?_   -- t25 ← binOp neq 45 tmp 20 tmp 24 45
      refine dOps_nil ?_
      refine mwp_cond_split rfl (fun h25 => ?_) (fun h25 => ?_)   -- if t25
      · -- yes
        refine mwp_seq ?_
        refine mwp_region rfl ?_   -- region 7
        refine wOps_op rfl (op_assign rfl rfl ?_)   -- t4 ← assign const bool false
        refine wOps_nil ?_
        refine mwp_ret ?_
        exact ret_tmp (.inr rfl) Try.results22 rfl (.of_eq (by congr 1; symm; rw [decide_eq_false_iff_not]; intro e; subst e; rw [hs2] at hs; injection hs with hs; subst hs; simp at h25)) (.bool _) ⟨rfl, rfl⟩
      · -- no
        refine mwp_skip ?_
        refine mwp_region rfl ?_   -- region 5
        refine wOps_op rfl (op_move rfl rfl ?_)   -- t15 ← move tmp 5
        refine wOps_op rfl (op_arith rfl rfl rfl rfl ?_)   -- t16 ← binOp add 3 tmp 15 const int i64 1 3
        refine wOps_op rfl (op_assign rfl rfl ?_)   -- t5 ← assign tmp 16
        refine wOps_nil ?_
        refine ⟨i + 1, by omega, ⟨by omega, ?_⟩, rfl, (.keep rfl (.keep rfl (.nil))), (.eq rfl (int_succ hlt hlen) (.nil))⟩
        rw [List.take_add_one, List.take_add_one, hs, hs2, heq]
        obtain ⟨x1, x2⟩ := x; obtain ⟨y1, y2⟩ := y
        simp at h25
        rw [h25.1, h25.2]
    · -- no
      have hge : i = a.length := by simp at h14; omega
      refine mwp_exit ?_
      refine mwp_seq ?_
      refine mwp_region rfl ?_   -- region 8
      refine wOps_op rfl (op_assign rfl rfl ?_)   -- t4 ← assign const bool true
      refine wOps_nil ?_
      refine mwp_ret ?_
      exact ret_tmp (.inr rfl) Try.results22 rfl (.of_eq (by congr 1; symm; rw [decide_eq_true_iff]; rw [hge, List.take_length, hab, List.take_length] at heq; exact heq)) (.bool _) ⟨rfl, rfl⟩

theorem rwith_spec (c : List Tk) (w n : Int) (hc : c.length + 3 ≤ 1000000) (S : MS) : MCalls Try.prog 37 [.lst none 2 (c.map encT), .int .i64 w, .int .u64 n] S fun v σ' => v = .lst none 2 ((rwith c w n).map encT) ∧ σ' = S := by
  refine mcalls_body Try.func37 rfl Try.ntmps37 (Nat.le_of_ble_eq_true rfl) ?_
  refine mwp_len (t := 0) rfl fun hlen => ?_
  rw [List.length_map] at hlen
  refine mwp_seq ?_
  refine mwp_region rfl ?_   -- region 0
  refine wOps_op rfl (op_assign rfl rfl ?_)   -- t6 ← assign const slice none 0 0
  refine wOps_nil ?_
  refine mwp_seq ?_
  refine mwp_region rfl ?_   -- region 1
  refine wOps_op rfl (op_assign rfl rfl ?_)   -- t7 ← assign const slice none 0 0
  refine wOps_nil ?_
  refine mwp_seq ?_
  refine mwp_region rfl ?_   -- region 2
  refine wOps_op rfl (op_move rfl rfl ?_)   -- t11 ← move tmp 2
  refine wOps_op rfl (op_cmp rfl rfl rfl rfl ?_)   -- t12 ← binOp eql 36 tmp 11 const int u64 0 36
  refine wOps_op rfl (op_assign rfl rfl ?_)   -- t8 ← assign tmp 12
  refine wOps_nil ?_
  refine mwp_seq ?_
  refine mwp_seq ?_
  refine mwp_region rfl ?_   -- region 3
  refine wOps_op rfl (op_assign rfl rfl ?_)   -- t9 ← assign const int i64 0
  refine wOps_nil ?_
  refine mwp_block ?_   -- block 0
  refine mwp_row0 7 45 2 rfl (Nat.le_refl _) rfl rfl ?_
  refine mwp_loopKJ (α := Nat × Bool × List Tk) [(0, _), (1, _), (2, _)] (fun x => [(9, .int .i64 (x.1 : Int)), (8, .bool x.2.1), (7, .lst (some (S.length + 0)) 2 (x.2.2.map encT))]) (fun x => [.row 45 2 x.2.2.length]) (fun x => x.1 ≤ c.length ∧ x.2.2 ++ withF w n x.2.1 (c.drop x.1) = withF w n (n == 0) c) (fun x => c.length - x.1) (⟨0, n == 0, []⟩) (Nat.le_refl _) (.keep rfl (.keep rfl (.keep rfl (.nil)))) (.keep rfl (.keep rfl (.keep rfl (.nil)))) (⟨by simp, rfl⟩) rfl ?_
  rintro ⟨i, dn, out⟩ ⟨hi, he⟩
  dsimp only at hi he ⊢
  have hol : out.length ≤ c.length + 1 := by have h1 := congrArg List.length he; have h2 := with_len w n (n == 0) c; rw [List.length_append] at h1; omega
  refine mwp_seq ?_
  refine mwp_seq ?_
  refine mwp_region rfl ?_   -- region 4
  refine wOps_op rfl (op_move rfl rfl ?_)   -- t13 ← move tmp 9
  refine wOps_op rfl (op_move rfl rfl ?_)   -- t14 ← move tmp 0
  refine wOps_op rfl (op_len_lst rfl Try.underlying33 rfl ?_)   -- t15 ← call ('rec', {'callee': ('app', 'builtin', [('id', 'Go.Builtin.le
  refine wOps_op rfl (op_cmp rfl rfl rfl rfl ?_)   -- t16 ← binOp lss 3 tmp 13 tmp 15 3
  refine wOps_nil ?_
  refine mwp_cond_split rfl (fun h16 => ?_) (fun h16 => ?_)   -- if t16
  · -- yes
    have hlt : i < c.length := by simpa using h16
    obtain ⟨t, hs⟩ : ∃ q_, c[i]? = some q_ := ⟨_, List.getElem?_eq_getElem hlt⟩
    have hdr := drop_cons hs
    refine mwp_skip ?_
    refine mwp_seq ?_
    refine mwp_block ?_   -- block 1
    refine mwp_seq ?_
    refine mwp_seq ?_
    cases hd : dn
    ·
      rw [hd] at he
      refine mwp_region rfl ?_   -- region 6
      refine wOps_op rfl (op_move rfl rfl ?_)   -- t19 ← move tmp 8
      refine wOps_op rfl (op_not rfl rfl ?_)   -- t20 ← unOp not 4 tmp 19
      refine wOps_op rfl (op_move rfl rfl ?_)   -- t21 ← move tmp 20
      refine wOps_op rfl (op_move rfl rfl ?_)   -- t22 ← move tmp 0  GUARD
      refine wOps_op rfl (op_move rfl rfl ?_)   -- t23 ← move tmp 9  GUARD
      refine wOps_op rfl (op_indexAddr rfl Try.underlying33 sz45 (by decide) rfl rfl rfl (get_map hs) ?_)   -- t24 ← indexAddr 33 tmp 22 tmp 23  GUARD
      refine wOps_op rfl (op_fieldAddr_sptr rfl rfl fo45_0 ?_)   -- t25 ← fieldAddr 45 tmp 24 0  GUARD
      refine wOps_op rfl (op_load_sptr rfl rfl ta3 rfl ?_)   -- t26 ← load 3 tmp 25  GUARD
      refine wOps_op rfl (op_move rfl rfl ?_)   -- t27 ← move tmp 1  GUARD
      refine wOps_op rfl (op_cmp rfl rfl rfl rfl ?_)   -- t28 ← binOp geq 3 tmp 26 tmp 27 3  GUARD
      refine wOps_op rfl (op_pick rfl rfl rfl ?_)   -- t29 ← pick tmp 21 tmp 28 const bool false
      refine wOps_nil ?_
      refine mwp_cond_split rfl (fun h29 => ?_) (fun h29 => ?_)   -- if t29
      · -- yes
        refine mwp_seq ?_
        refine mwp_region rfl ?_   -- region 7
        refine wOps_op rfl (op_move rfl rfl ?_)   -- t30 ← move tmp 1
        refine wOps_op rfl (op_move rfl rfl ?_)   -- t31 ← move tmp 2
        refine wOps_op rfl (op_build rfl Try.underlying45 zm45 (.cons fo45_0 sz3 rfl rfl (Nat.le_of_ble_eq_true rfl) (.cons fo45_1 sz36 rfl rfl (Nat.le_of_ble_eq_true rfl) .nil)) (by kernel_rfl) ?_)   -- t32 ← build 45 [(0,tmp 30),(1,tmp 31)]
        refine wOps_op rfl (op_alloc' rfl zm45 rfl rfl ?_)   -- t10 ← alloc 45
        refine wOps_op rfl (op_store' rfl rfl rfl rfl sz45 rfl rfl (Nat.le_of_ble_eq_true rfl) rfl ?_)   -- store 45 tmp 10 tmp 32
        refine wOps_nil ?_
        refine mwp_seq ?_
        refine mwp_seq ?_
        refine mwp_region rfl ?_   -- region 8
        refine wOps_op rfl (op_move rfl rfl ?_)   -- t33 ← move tmp 0
        refine wOps_op rfl (op_move rfl rfl ?_)   -- t34 ← move tmp 9
        refine wOps_op rfl (op_indexAddr rfl Try.underlying33 sz45 (by decide) rfl rfl rfl (get_map hs) ?_)   -- t35 ← indexAddr 33 tmp 33 tmp 34
        refine wOps_op rfl (op_fieldAddr_sptr rfl rfl fo45_0 ?_)   -- t36 ← fieldAddr 45 tmp 35 0
        refine wOps_op rfl (op_load_sptr rfl rfl ta3 rfl ?_)   -- t37 ← load 3 tmp 36
        refine wOps_op rfl (op_move rfl rfl ?_)   -- t38 ← move tmp 1
        refine wOps_op rfl (op_cmp rfl rfl rfl rfl ?_)   -- t39 ← binOp eql 3 tmp 37 tmp 38 3
        refine wOps_nil ?_
        refine mwp_cond_split rfl (fun h39 => ?_) (fun h39 => ?_)   -- if t39
        · -- yes
          refine mwp_region rfl ?_   -- region 9
          refine wOps_op rfl (op_move rfl rfl ?_)   -- t40 ← move tmp 2
          refine wOps_op rfl (op_move rfl rfl ?_)   -- t41 ← move tmp 0
          refine wOps_op rfl (op_move rfl rfl ?_)   -- t42 ← move tmp 9
          refine wOps_op rfl (op_indexAddr rfl Try.underlying33 sz45 (by decide) rfl rfl rfl (get_map hs) ?_)   -- t43 ← indexAddr 33 tmp 41 tmp 42
          refine wOps_op rfl (op_fieldAddr_sptr rfl rfl fo45_1 ?_)   -- t44 ← fieldAddr 45 tmp 43 1
          refine wOps_op rfl (op_load_sptr rfl rfl ta36 rfl ?_)   -- t45 ← load 36 tmp 44
          refine wOps_op rfl (op_max2 rfl rfl rfl ?_)   -- t46 ← call ('rec', {'callee': ('app', 'builtin', [('id', 'Go.Builtin.ma
          refine wOps_op rfl (op_fieldAddr_ref rfl rfl fo45_1 ?_)   -- t47 ← fieldAddr 45 tmp 10 1
          refine wOps_op rfl (op_store' rfl rfl rfl rfl sz36 rfl rfl (Nat.le_of_ble_eq_true rfl) rfl ?_)   -- store 36 tmp 47 tmp 46
          refine wOps_nil ?_
          refine mwp_seq ?_
          refine mwp_region rfl ?_   -- region 10
          refine wOps_op rfl (op_move rfl rfl ?_)   -- t48 ← move tmp 7
          refine wOps_op rfl (op_load' rfl rfl rfl ta45 rfl ?_)   -- t49 ← load 45 tmp 10
          refine wOps_op rfl (op_buildSlice rfl Try.underlying33 el45 rfl rfl (by decide) (by decide) rfl rfl ?_)   -- t50 ← buildSlice 33 1 [(0,tmp 49)]
          refine wOps_op rfl (op_append' rfl Try.underlying33 el45 rfl rfl rfl (by simp) (by simp only [List.length_cons, List.length_nil, List.length_map, List.length_append]; omega) (by simp only [List.length_cons, List.length_nil, List.length_map, List.length_append]; omega) rfl ?_)   -- t51 ← call ('rec', {'callee': ('app', 'builtin', [('id', 'Go.Builtin.ap
          refine wOps_op rfl (op_assign rfl rfl ?_)   -- t7 ← assign tmp 51
          refine wOps_op rfl (op_assign rfl rfl ?_)   -- t8 ← assign const bool true
          refine wOps_nil ?_
          refine mwp_seq ?_
          refine mwp_region rfl ?_   -- region 11
          refine wOps_op rfl (op_move rfl rfl ?_)   -- t52 ← move tmp 0
          refine wOps_op rfl (op_move rfl rfl ?_)   -- t53 ← move tmp 9
          refine wOps_op rfl (op_indexAddr rfl Try.underlying33 sz45 (by decide) rfl rfl rfl (get_map hs) ?_)   -- t54 ← indexAddr 33 tmp 52 tmp 53
          refine wOps_op rfl (op_fieldAddr_sptr rfl rfl fo45_0 ?_)   -- t55 ← fieldAddr 45 tmp 54 0
          refine wOps_op rfl (op_load_sptr rfl rfl ta3 rfl ?_)   -- t56 ← load 3 tmp 55
          refine wOps_op rfl (op_move rfl rfl ?_)   -- t57 ← move tmp 1
          refine wOps_op rfl (op_cmp rfl rfl rfl rfl ?_)   -- t58 ← binOp eql 3 tmp 56 tmp 57 3
          refine wOps_nil ?_
          refine mwp_cond_t rfl (h39) ?_   -- if t58
          refine mwp_exit ?_
          refine mwp_region rfl ?_   -- region 5
          refine wOps_op rfl (op_move rfl rfl ?_)   -- t17 ← move tmp 9
          refine wOps_op rfl (op_arith rfl rfl rfl rfl ?_)   -- t18 ← binOp add 3 tmp 17 const int i64 1 3
          refine wOps_op rfl (op_assign rfl rfl ?_)   -- t9 ← assign tmp 18
          refine wOps_nil ?_
          simp only [decide_eq_true_eq, beq_iff_eq] at h29 h39
          refine ⟨⟨i + 1, true, out ++ [(w, if t.2 > n then t.2 else n)]⟩, _, by dsimp only; omega, ⟨by dsimp only; omega, by dsimp only; rw [← he, hdr, withF_f, if_pos h29, if_pos h39]; simp⟩, by rw [List.length_append]; rfl, .new trivial .nil, (.old rfl rfl (.old rfl rfl (.old rfl rfl (.nil)))), (.new' rfl (int_succ hlt hlen) (.int _ _) (.new' rfl (rfl) (.bool _) (.new' rfl (by rw [List.map_append]; rfl) (cl_lstT (by simp) (cl_encT _) encT_agg) (.nil))))⟩
        · -- no
          refine mwp_skip ?_
          refine mwp_seq ?_
          refine mwp_region rfl ?_   -- region 10
          refine wOps_op rfl (op_move rfl rfl ?_)   -- t48 ← move tmp 7
          refine wOps_op rfl (op_load' rfl rfl rfl ta45 rfl ?_)   -- t49 ← load 45 tmp 10
          refine wOps_op rfl (op_buildSlice rfl Try.underlying33 el45 rfl rfl (by decide) (by decide) rfl rfl ?_)   -- t50 ← buildSlice 33 1 [(0,tmp 49)]
          refine wOps_op rfl (op_append' rfl Try.underlying33 el45 rfl rfl rfl (by simp) (by simp only [List.length_cons, List.length_nil, List.length_map, List.length_append]; omega) (by simp only [List.length_cons, List.length_nil, List.length_map, List.length_append]; omega) rfl ?_)   -- t51 ← call ('rec', {'callee': ('app', 'builtin', [('id', 'Go.Builtin.ap
          refine wOps_op rfl (op_assign rfl rfl ?_)   -- t7 ← assign tmp 51
          refine wOps_op rfl (op_assign rfl rfl ?_)   -- t8 ← assign const bool true
          refine wOps_nil ?_
          refine mwp_seq ?_
          refine mwp_region rfl ?_   -- region 11
          refine wOps_op rfl (op_move rfl rfl ?_)   -- t52 ← move tmp 0
          refine wOps_op rfl (op_move rfl rfl ?_)   -- t53 ← move tmp 9
          refine wOps_op rfl (op_indexAddr rfl Try.underlying33 sz45 (by decide) rfl rfl rfl (get_map hs) ?_)   -- t54 ← indexAddr 33 tmp 52 tmp 53
          refine wOps_op rfl (op_fieldAddr_sptr rfl rfl fo45_0 ?_)   -- t55 ← fieldAddr 45 tmp 54 0
          refine wOps_op rfl (op_load_sptr rfl rfl ta3 rfl ?_)   -- t56 ← load 3 tmp 55
          refine wOps_op rfl (op_move rfl rfl ?_)   -- t57 ← move tmp 1
          refine wOps_op rfl (op_cmp rfl rfl rfl rfl ?_)   -- t58 ← binOp eql 3 tmp 56 tmp 57 3
          refine wOps_nil ?_
          refine mwp_cond_f rfl (h39) ?_   -- if t58
          refine mwp_skip ?_
          refine mwp_region rfl ?_   -- region 12
          refine wOps_op rfl (op_move rfl rfl ?_)   -- t59 ← move tmp 7
          refine wOps_op rfl (op_move rfl rfl ?_)   -- t60 ← move tmp 0
          refine wOps_op rfl (op_move rfl rfl ?_)   -- t61 ← move tmp 9
          refine wOps_op rfl (op_indexAddr rfl Try.underlying33 sz45 (by decide) rfl rfl rfl (get_map hs) ?_)   -- t62 ← indexAddr 33 tmp 60 tmp 61
          refine wOps_op rfl (op_load_sptr rfl rfl ta45 rfl ?_)   -- t63 ← load 45 tmp 62
          refine wOps_op rfl (op_buildSlice rfl Try.underlying33 el45 rfl rfl (by decide) (by decide) rfl rfl ?_)   -- t64 ← buildSlice 33 1 [(0,tmp 63)]
          refine wOps_op rfl (op_append' rfl Try.underlying33 el45 rfl rfl rfl (by simp) (by simp only [List.length_cons, List.length_nil, List.length_map, List.length_append]; omega) (by simp only [List.length_cons, List.length_nil, List.length_map, List.length_append]; omega) rfl ?_)   -- t65 ← call ('rec', {'callee': ('app', 'builtin', [('id', 'Go.Builtin.ap
          refine wOps_op rfl (op_assign rfl rfl ?_)   -- t7 ← assign tmp 65
          refine wOps_nil ?_
          refine mwp_region rfl ?_   -- region 5
          refine wOps_op rfl (op_move rfl rfl ?_)   -- t17 ← move tmp 9
          refine wOps_op rfl (op_arith rfl rfl rfl rfl ?_)   -- t18 ← binOp add 3 tmp 17 const int i64 1 3
          refine wOps_op rfl (op_assign rfl rfl ?_)   -- t9 ← assign tmp 18
          refine wOps_nil ?_
          simp only [decide_eq_true_eq, beq_eq_false_iff_ne] at h29 h39
          refine ⟨⟨i + 1, true, (out ++ [(w, n)]) ++ [t]⟩, _, by dsimp only; omega, ⟨by dsimp only; omega, by dsimp only; rw [← he, hdr, withF_f, if_pos h29, if_neg h39]; simp⟩, by rw [List.length_append, List.length_append]; rfl, .new trivial .nil, (.old rfl rfl (.old rfl rfl (.old rfl rfl (.nil)))), (.new' rfl (int_succ hlt hlen) (.int _ _) (.new' rfl (rfl) (.bool _) (.new' rfl (by rw [List.map_append, List.map_append]; rfl) (cl_lstT (by simp) (cl_encT _) encT_agg) (.nil))))⟩
      · -- no
        refine mwp_skip ?_
        refine mwp_region rfl ?_   -- region 12
        refine wOps_op rfl (op_move rfl rfl ?_)   -- t59 ← move tmp 7
        refine wOps_op rfl (op_move rfl rfl ?_)   -- t60 ← move tmp 0
        refine wOps_op rfl (op_move rfl rfl ?_)   -- t61 ← move tmp 9
        refine wOps_op rfl (op_indexAddr rfl Try.underlying33 sz45 (by decide) rfl rfl rfl (get_map hs) ?_)   -- t62 ← indexAddr 33 tmp 60 tmp 61
        refine wOps_op rfl (op_load_sptr rfl rfl ta45 rfl ?_)   -- t63 ← load 45 tmp 62
        refine wOps_op rfl (op_buildSlice rfl Try.underlying33 el45 rfl rfl (by decide) (by decide) rfl rfl ?_)   -- t64 ← buildSlice 33 1 [(0,tmp 63)]
        refine wOps_op rfl (op_append' rfl Try.underlying33 el45 rfl rfl rfl (by simp) (by simp only [List.length_cons, List.length_nil, List.length_map, List.length_append]; omega) (by simp only [List.length_cons, List.length_nil, List.length_map, List.length_append]; omega) rfl ?_)   -- t65 ← call ('rec', {'callee': ('app', 'builtin', [('id', 'Go.Builtin.ap
        refine wOps_op rfl (op_assign rfl rfl ?_)   -- t7 ← assign tmp 65
        refine wOps_nil ?_
        refine mwp_region rfl ?_   -- region 5
        refine wOps_op rfl (op_move rfl rfl ?_)   -- t17 ← move tmp 9
        refine wOps_op rfl (op_arith rfl rfl rfl rfl ?_)   -- t18 ← binOp add 3 tmp 17 const int i64 1 3
        refine wOps_op rfl (op_assign rfl rfl ?_)   -- t9 ← assign tmp 18
        refine wOps_nil ?_
        simp only [decide_eq_false_iff_not] at h29
        refine ⟨⟨i + 1, false, out ++ [t]⟩, _, by dsimp only; omega, ⟨by dsimp only; omega, by dsimp only; rw [← he, hdr, withF_f, if_neg h29]; simp⟩, by rw [List.length_append]; rfl, .new trivial .nil, (.old rfl rfl (.old rfl rfl (.old rfl rfl (.nil)))), (.new' rfl (int_succ hlt hlen) (.int _ _) (.new' rfl (rfl) (.bool _) (.new' rfl (by rw [List.map_append]; rfl) (cl_lstT (by simp) (cl_encT _) encT_agg) (.nil))))⟩
    ·
      rw [hd] at he
      refine mwp_region rfl ?_   -- region 6
      refine wOps_op rfl (op_move rfl rfl ?_)   -- t19 ← move tmp 8
      refine wOps_op rfl (op_not rfl rfl ?_)   -- t20 ← unOp not 4 tmp 19
      refine wOps_op rfl (op_move rfl rfl ?_)   -- t21 ← move tmp 20
      refine wOps_skip rfl ?_
      refine wOps_skip rfl ?_
      refine wOps_skip rfl ?_
      refine wOps_skip rfl ?_
      refine wOps_skip rfl ?_
      refine wOps_skip rfl ?_
      refine wOps_skip rfl ?_
      refine wOps_op rfl (op_pick rfl rfl rfl ?_)   -- t29 ← pick tmp 21 tmp 28 const bool false
      refine wOps_nil ?_
      refine mwp_cond_f rfl (rfl) ?_   -- if t29
      refine mwp_skip ?_
      refine mwp_region rfl ?_   -- region 12
      refine wOps_op rfl (op_move rfl rfl ?_)   -- t59 ← move tmp 7
      refine wOps_op rfl (op_move rfl rfl ?_)   -- t60 ← move tmp 0
      refine wOps_op rfl (op_move rfl rfl ?_)   -- t61 ← move tmp 9
      refine wOps_op rfl (op_indexAddr rfl Try.underlying33 sz45 (by decide) rfl rfl rfl (get_map hs) ?_)   -- t62 ← indexAddr 33 tmp 60 tmp 61
      refine wOps_op rfl (op_load_sptr rfl rfl ta45 rfl ?_)   -- t63 ← load 45 tmp 62
      refine wOps_op rfl (op_buildSlice rfl Try.underlying33 el45 rfl rfl (by decide) (by decide) rfl rfl ?_)   -- t64 ← buildSlice 33 1 [(0,tmp 63)]
      refine wOps_op rfl (op_append' rfl Try.underlying33 el45 rfl rfl rfl (by simp) (by simp only [List.length_cons, List.length_nil, List.length_map, List.length_append]; omega) (by simp only [List.length_cons, List.length_nil, List.length_map, List.length_append]; omega) rfl ?_)   -- t65 ← call ('rec', {'callee': ('app', 'builtin', [('id', 'Go.Builtin.ap
      refine wOps_op rfl (op_assign rfl rfl ?_)   -- t7 ← assign tmp 65
      refine wOps_nil ?_
      refine mwp_region rfl ?_   -- region 5
      refine wOps_op rfl (op_move rfl rfl ?_)   -- t17 ← move tmp 9
      refine wOps_op rfl (op_arith rfl rfl rfl rfl ?_)   -- t18 ← binOp add 3 tmp 17 const int i64 1 3
      refine wOps_op rfl (op_assign rfl rfl ?_)   -- t9 ← assign tmp 18
      refine wOps_nil ?_
      refine ⟨⟨i + 1, true, out ++ [t]⟩, _, by dsimp only; omega, ⟨by dsimp only; omega, by dsimp only; rw [← he, hdr, withF_t]; simp⟩, by rw [List.length_append]; rfl, .new trivial .nil, (.old rfl rfl (.old rfl rfl (.old rfl rfl (.nil)))), (.new' rfl (int_succ hlt hlen) (.int _ _) (.new' rfl (rfl) (.bool _) (.new' rfl (by rw [List.map_append]; rfl) (cl_lstT (by simp) (cl_encT _) encT_agg) (.nil))))⟩
  · -- no
    have hge : i = c.length := by simp at h16; omega
    refine mwp_exit ?_
    refine mwp_seq ?_
    refine mwp_seq ?_
    refine mwp_region rfl ?_   -- region 13
    refine wOps_op rfl (op_move rfl rfl ?_)   -- t66 ← move tmp 8
    refine wOps_op rfl (op_not rfl rfl ?_)   -- t67 ← unOp not 4 tmp 66
    refine wOps_nil ?_
    refine mwp_cond_split rfl (fun h67 => ?_) (fun h67 => ?_)   -- if t67
    · -- yes
      refine mwp_region rfl ?_   -- region 14
      refine wOps_op rfl (op_move rfl rfl ?_)   -- t68 ← move tmp 7
      refine wOps_op rfl (op_move rfl rfl ?_)   -- t69 ← move tmp 1
      refine wOps_op rfl (op_move rfl rfl ?_)   -- t70 ← move tmp 2
      refine wOps_op rfl (op_build rfl Try.underlying45 zm45 (.cons fo45_0 sz3 rfl rfl (Nat.le_of_ble_eq_true rfl) (.cons fo45_1 sz36 rfl rfl (Nat.le_of_ble_eq_true rfl) .nil)) (by kernel_rfl) ?_)   -- t71 ← build 45 [(0,tmp 69),(1,tmp 70)]
      refine wOps_op rfl (op_buildSlice rfl Try.underlying33 el45 rfl rfl (by decide) (by decide) rfl rfl ?_)   -- t72 ← buildSlice 33 1 [(0,tmp 71)]
      refine wOps_op rfl (op_append' rfl Try.underlying33 el45 rfl rfl rfl (by simp) (by simp only [List.length_cons, List.length_nil, List.length_map, List.length_append]; omega) (by simp only [List.length_cons, List.length_nil, List.length_map, List.length_append]; omega) rfl ?_)   -- t73 ← call ('rec', {'callee': ('app', 'builtin', [('id', 'Go.Builtin.ap
      refine wOps_op rfl (op_assign rfl rfl ?_)   -- t7 ← assign tmp 73
      refine wOps_nil ?_
      refine mwp_seq ?_
      refine mwp_region rfl ?_   -- region 15
      refine wOps_op rfl (op_move rfl rfl ?_)   -- t74 ← move tmp 7
      refine wOps_op rfl (op_assign rfl rfl ?_)   -- t6 ← assign tmp 74
      refine wOps_nil ?_
      refine mwp_ret ?_
      have hd : dn = false := by simpa using h67
      exact ret_tmp (.inr rfl) Try.results37 rfl (Sub.trans (.view _ _ _) (.of_eq (by show _ = MV.lst none 2 ((withF w n (n == 0) c).map encT); rw [← he, hd, hge, List.drop_length, withF, List.map_append]; rfl))) (cl_clock _ _) ⟨rfl, rfl⟩
    · -- no
      refine mwp_skip ?_
      refine mwp_seq ?_
      refine mwp_region rfl ?_   -- region 15
      refine wOps_op rfl (op_move rfl rfl ?_)   -- t74 ← move tmp 7
      refine wOps_op rfl (op_assign rfl rfl ?_)   -- t6 ← assign tmp 74
      refine wOps_nil ?_
      refine mwp_ret ?_
      have hd : dn = true := by simpa using h67
      exact ret_tmp (.inr rfl) Try.results37 rfl (Sub.trans (.view _ _ _) (.of_eq (by show _ = MV.lst none 2 ((withF w n (n == 0) c).map encT); rw [← he, hd, hge, List.drop_length, withF, List.append_nil]))) (cl_clock _ _) ⟨rfl, rfl⟩

theorem rUp_spec (c : List Tk) (w : Int) (hc : c.length + 3 ≤ 1000000) (S : MS) : MCalls Try.prog 26 [.lst none 2 (c.map encT), .int .i64 w] S fun v σ' => v = .lst none 2 ((rupF c w).map encT) ∧ σ' = S := by
  refine mcalls_body Try.func26 rfl Try.ntmps26 (Nat.le_of_ble_eq_true rfl) ?_
  refine mwp_seq ?_
  refine mwp_region rfl ?_   -- region 0
  refine wOps_op rfl (op_assign rfl rfl ?_)   -- t4 ← assign const slice none 0 0
  refine wOps_nil ?_
  refine mwp_seq ?_
  refine mwp_region rfl ?_   -- region 1
  refine wOps_op rfl (op_move rfl rfl ?_)   -- t6 ← move tmp 0
  refine wOps_op rfl (op_move rfl rfl ?_)   -- t7 ← move tmp 1
  refine wOps_op rfl (op_call rfl rfl rfl co24 ((rOf_spec c w _).mono ?_))   -- t8 ← call ('rec', {'callee': ('app', 'value', [('app', 'func', [24])])
  rintro _ _ ⟨rfl, rfl⟩
  refine wOps_op rfl (op_assign rfl rfl ?_)   -- t5 ← assign tmp 8
  refine wOps_nil ?_
  refine mwp_seq ?_
  refine mwp_seq ?_
  refine mwp_region rfl ?_   -- region 2
  refine wOps_op rfl (op_move rfl rfl ?_)   -- t9 ← move tmp 5
  refine wOps_op rfl (op_arith rfl rfl rfl rfl ?_)   -- t10 ← binOp add 36 tmp 9 const int u64 1 36
  refine wOps_op rfl (op_cmp rfl rfl rfl rfl ?_)   -- t11 ← binOp eql 36 tmp 10 const int u64 0 36
  refine wOps_nil ?_
  refine mwp_cond_split rfl (fun h11 => ?_) (fun h11 => ?_)   -- if t11
  · -- yes
    refine mwp_seq ?_
    refine mwp_region rfl ?_   -- region 3
    refine wOps_op rfl (op_move rfl rfl ?_)   -- t12 ← move tmp 0
    refine wOps_op rfl (op_move rfl rfl ?_)   -- t13 ← move tmp 1
    refine wOps_op rfl (op_move rfl rfl ?_)   -- t14 ← move tmp 5
    refine wOps_op rfl (op_call rfl rfl rfl co37 ((rwith_spec c w (ofF c w) hc _).mono ?_))   -- t15 ← call ('rec', {'callee': ('app', 'value', [('app', 'func', [37])])
    rintro _ _ ⟨rfl, rfl⟩
    refine wOps_op rfl (op_assign rfl rfl ?_)   -- t4 ← assign tmp 15
    refine wOps_nil ?_
    refine mwp_ret ?_
    exact ret_tmp (.inr rfl) Try.results26 rfl (.of_eq (by simp only [beq_iff_eq] at h11; unfold rupF; rw [if_pos h11])) (cl_clock _ _) ⟨rfl, rfl⟩
  · -- no
    refine mwp_skip ?_
    refine mwp_seq ?_
    refine mwp_region rfl ?_   -- region 4
    refine wOps_op rfl (op_move rfl rfl ?_)   -- t16 ← move tmp 0
    refine wOps_op rfl (op_move rfl rfl ?_)   -- t17 ← move tmp 1
    refine wOps_op rfl (op_move rfl rfl ?_)   -- t18 ← move tmp 5
    refine wOps_op rfl (op_arith rfl rfl rfl rfl ?_)   -- t19 ← binOp add 36 tmp 18 const int u64 1 36
    refine wOps_op rfl (op_call rfl rfl rfl co37 ((rwith_spec c w (IntKind.u64.wrap (ofF c w + 1)) hc _).mono ?_))   -- t20 ← call ('rec', {'callee': ('app', 'value', [('app', 'func', [37])])
    rintro _ _ ⟨rfl, rfl⟩
    refine wOps_op rfl (op_assign rfl rfl ?_)   -- t4 ← assign tmp 20
    refine wOps_nil ?_
    refine mwp_ret ?_
    exact ret_tmp (.inr rfl) Try.results26 rfl (.of_eq (by simp only [beq_eq_false_iff_ne] at h11; unfold rupF; rw [if_neg h11])) (cl_clock _ _) ⟨rfl, rfl⟩

theorem rJoinC_spec (a b : List Tk) (hab : a.length + b.length + 3 ≤ 1000000) (S : MS) : MCalls Try.prog 28 [.lst none 2 (a.map encT), .lst none 2 (b.map encT)] S fun v σ' => v = .lst none 2 ((rjoinF a b).map encT) ∧ σ' = S := by
  refine mcalls_body Try.func28 rfl Try.ntmps28 (Nat.le_of_ble_eq_true rfl) ?_
  refine mwp_len (t := 1) rfl fun hlen => ?_
  rw [List.length_map] at hlen
  refine mwp_seq ?_
  refine mwp_region rfl ?_   -- region 0
  refine wOps_op rfl (op_assign rfl rfl ?_)   -- t4 ← assign const slice none 0 0
  refine wOps_nil ?_
  refine mwp_seq ?_
  refine mwp_region rfl ?_   -- region 1
  refine wOps_op rfl (op_move rfl rfl ?_)   -- t7 ← move tmp 0
  refine wOps_op rfl (op_append0' rfl Try.underlying33 el45 rfl rfl (by rw [List.length_map]; omega) (by rw [List.length_map]; omega) rfl rfl ?_)   -- t8 ← call ('rec', {'callee': ('app', 'builtin', [('id', 'Go.Builtin.ap
  refine wOps_op rfl (op_assign rfl rfl ?_)   -- t5 ← assign tmp 8
  refine wOps_nil ?_
  refine mwp_seq ?_
  refine mwp_seq ?_
  refine mwp_region rfl ?_   -- region 2
  refine wOps_op rfl (op_assign rfl rfl ?_)   -- t6 ← assign const int i64 0
  refine wOps_nil ?_
  refine mwp_block ?_   -- block 0
  refine mwp_loopK (α := Nat × List Tk) [(1, _)] (fun x => [(6, .int .i64 (x.1 : Int)), (5, .lst none 2 (x.2.map encT))]) (fun x => [.row 45 2 (a.map encT).length]) (fun x => x.1 ≤ b.length ∧ x.2.length ≤ a.length + x.1 ∧ rjoinF x.2 (b.drop x.1) = rjoinF a b) (fun x => b.length - x.1) (⟨0, a⟩) (.keep rfl (.nil)) (.keep rfl (.cons rfl (.view _ _ _) (.nil))) (⟨by simp, by simp, rfl⟩) rfl ?_
  rintro ⟨i, out⟩ ⟨hi, hol, he⟩
  dsimp only at hi hol he ⊢
  refine mwp_seq ?_
  refine mwp_seq ?_
  refine mwp_region rfl ?_   -- region 3
  refine wOps_op rfl (op_move rfl rfl ?_)   -- t9 ← move tmp 6
  refine wOps_op rfl (op_move rfl rfl ?_)   -- t10 ← move tmp 1
  refine wOps_op rfl (op_len_lst rfl Try.underlying33 rfl ?_)   -- t11 ← call ('rec', {'callee': ('app', 'builtin', [('id', 'Go.Builtin.le
  refine wOps_op rfl (op_cmp rfl rfl rfl rfl ?_)   -- t12 ← binOp lss 3 tmp 9 tmp 11 3
  refine wOps_nil ?_
  refine mwp_cond_split rfl (fun h12 => ?_) (fun h12 => ?_)   -- if t12
  · -- yes
    have hlt : i < b.length := by simpa using h12
    obtain ⟨t, hs⟩ : ∃ q_, b[i]? = some q_ := ⟨_, List.getElem?_eq_getElem hlt⟩
    refine mwp_skip ?_
    refine mwp_seq ?_
    refine mwp_block ?_   -- block 1
    refine mwp_draw [] [_] mo (by decide) rfl rfl rfl rfl ?_   -- region 5
    refine dOps_op rfl rfl (.cons (op_move rfl rfl ⟨rfl, rfl⟩) .nil) ?_   -- t15 ← move tmp 5
    refine dOps_op rfl rfl (.cons (op_move rfl rfl ⟨rfl, rfl⟩) .nil) ?_   -- t16 ← move tmp 1
    refine dOps_op rfl rfl (.cons (op_move rfl rfl ⟨rfl, rfl⟩) .nil) ?_   -- t17 ← move tmp 6
    refine dOps_op rfl rfl (.cons (op_indexAddr rfl Try.underlying33 sz45 (by decide) rfl rfl rfl (get_map hs) ⟨rfl, rfl⟩) .nil) ?_   -- t18 ← indexAddr 33 tmp 16 tmp 17
    refine dOps_op rfl rfl (.cons (op_fieldAddr_sptr rfl rfl fo45_0 ⟨rfl, rfl⟩) .nil) ?_   -- t19 ← fieldAddr 45 tmp 18 0
    refine dOps_op rfl rfl (.cons (op_load_sptr rfl rfl ta3 rfl ⟨rfl, rfl⟩) .nil) ?_   -- t20 ← load 3 tmp 19
    refine dOps_op rfl rfl (.cons (op_move rfl rfl ⟨rfl, rfl⟩) .nil) ?_   -- t21 ← move tmp 1
    refine dOps_op rfl rfl (.cons (op_move rfl rfl ⟨rfl, rfl⟩) .nil) ?_   -- t22 ← move tmp 6
    refine dOps_op rfl rfl (.cons (op_indexAddr rfl Try.underlying33 sz45 (by decide) rfl rfl rfl (get_map hs) ⟨rfl, rfl⟩) .nil) ?_   -- t23 ← indexAddr 33 tmp 21 tmp 22
    refine dOps_op rfl rfl (.cons (op_fieldAddr_sptr rfl rfl fo45_1 ⟨rfl, rfl⟩) .nil) ?_   -- t24 ← fieldAddr 45 tmp 23 1
    refine dOps_op rfl rfl (.cons (op_load_sptr rfl rfl ta36 rfl ⟨rfl, rfl⟩) .nil) ?_   -- t25 ← load 36 tmp 24
    refine dOps_op rfl rfl (.cons (op_call rfl rfl rfl co37 (rwith_spec out t.1 t.2 (by omega) _)) .nil) ?_   -- t26 ← call ('rec', {'callee': ('app', 'value', [('app', 'func', [37])])
    refine dOps_op rfl rfl (.cons (op_assign rfl rfl ⟨rfl, rfl⟩) .nil) ?_   -- t5 ← assign tmp 26
    refine dOps_nil ?_
    refine mwp_region rfl ?_   -- region 4
    refine wOps_op rfl (op_move rfl rfl ?_)   -- t13 ← move tmp 6
    refine wOps_op rfl (op_arith rfl rfl rfl rfl ?_)   -- t14 ← binOp add 3 tmp 13 const int i64 1 3
    refine wOps_op rfl (op_assign rfl rfl ?_)   -- t6 ← assign tmp 14
    refine wOps_nil ?_
    refine ⟨⟨i + 1, rwith out t.1 t.2⟩, by dsimp only; omega, ⟨by dsimp only; omega, by have := rwith_len out t.1 t.2; dsimp only; omega, by dsimp only; rw [← he, drop_cons hs]; rfl⟩, rfl, (.keep rfl (.nil)), (.eq rfl (int_succ hlt hlen) (.eq rfl (rfl) (.nil)))⟩
  · -- no
    have hge : i = b.length := by simp at h12; omega
    refine mwp_exit ?_
    refine mwp_seq ?_
    refine mwp_region rfl ?_   -- region 6
    refine wOps_op rfl (op_move rfl rfl ?_)   -- t27 ← move tmp 5
    refine wOps_op rfl (op_assign rfl rfl ?_)   -- t4 ← assign tmp 27
    refine wOps_nil ?_
    refine mwp_ret ?_
    exact ret_tmp (.inr rfl) Try.results28 rfl (.of_eq (by rw [← he, hge, List.drop_length]; rfl)) (cl_clock _ _) ⟨rfl, rfl⟩

theorem rUnder_spec (a b : List Tk) (S : MS) : MCalls Try.prog 41 [.lst none 2 (a.map encT), .lst none 2 (b.map encT)] S fun v σ' => v = .bool (underF a b) ∧ σ' = S := by
  refine mcalls_body Try.func41 rfl Try.ntmps41 (Nat.le_of_ble_eq_true rfl) ?_
  refine mwp_len (t := 0) rfl fun hlen => ?_
  rw [List.length_map] at hlen
  refine mwp_seq ?_
  refine mwp_region rfl ?_   -- region 0
  refine wOps_op rfl (op_assign rfl rfl ?_)   -- t4 ← assign const bool false
  refine wOps_nil ?_
  refine mwp_seq ?_
  refine mwp_seq ?_
  refine mwp_region rfl ?_   -- region 1
  refine wOps_op rfl (op_assign rfl rfl ?_)   -- t5 ← assign const int i64 0
  refine wOps_nil ?_
  refine mwp_block ?_   -- block 0
  refine mwp_loopK (α := Nat) [(0, _), (1, _)] (fun i => [(5, .int .i64 (i : Int))]) (fun i => []) (fun i => i ≤ a.length ∧ (a.take i).all (fun t => !decide (t.2 > ofF b t.1)) = true) (fun i => a.length - i) (0) (.keep rfl (.keep rfl (.nil))) (.keep rfl (.nil)) (⟨by omega, rfl⟩) rfl ?_
  rintro i ⟨hi, hall⟩
  refine mwp_seq ?_
  refine mwp_seq ?_
  refine mwp_region rfl ?_   -- region 2
  refine wOps_op rfl (op_move rfl rfl ?_)   -- t6 ← move tmp 5
  refine wOps_op rfl (op_move rfl rfl ?_)   -- t7 ← move tmp 0
  refine wOps_op rfl (op_len_lst rfl Try.underlying33 rfl ?_)   -- t8 ← call ('rec', {'callee': ('app', 'builtin', [('id', 'Go.Builtin.le
  refine wOps_op rfl (op_cmp rfl rfl rfl rfl ?_)   -- t9 ← binOp lss 3 tmp 6 tmp 8 3
  refine wOps_nil ?_
  refine mwp_cond_split rfl (fun h9 => ?_) (fun h9 => ?_)   -- if t9
  · -- yes
    have hlt : i < a.length := by simpa using h9
    obtain ⟨t, hs⟩ : ∃ q_, a[i]? = some q_ := ⟨_, List.getElem?_eq_getElem hlt⟩
    refine mwp_skip ?_
    refine mwp_seq ?_
    refine mwp_block ?_   -- block 1
    refine mwp_seq ?_
    refine mwp_draw [] [_] mo (by decide) rfl rfl rfl rfl ?_   -- region 4
    refine dOps_op rfl rfl (.cons (op_move rfl rfl ⟨rfl, rfl⟩) .nil) ?_   -- t12 ← move tmp 0
    refine dOps_op rfl rfl (.cons (op_move rfl rfl ⟨rfl, rfl⟩) .nil) ?_   -- t13 ← move tmp 5
    refine dOps_op rfl rfl (.cons (op_indexAddr rfl Try.underlying33 sz45 (by decide) rfl rfl rfl (get_map hs) ⟨rfl, rfl⟩) .nil) ?_   -- t14 ← indexAddr 33 tmp 12 tmp 13
    refine dOps_op rfl rfl (.cons (op_fieldAddr_sptr rfl rfl fo45_1 ⟨rfl, rfl⟩) .nil) ?_   -- t15 ← fieldAddr 45 tmp 14 1
    refine dOps_op rfl rfl (.cons (op_load_sptr rfl rfl ta36 rfl ⟨rfl, rfl⟩) .nil) ?_   -- t16 ← load 36 tmp 15
    refine dOps_op rfl rfl (.cons (op_move rfl rfl ⟨rfl, rfl⟩) .nil) ?_   -- t17 ← move tmp 1
    refine dOps_op rfl rfl (.cons (op_move rfl rfl ⟨rfl, rfl⟩) .nil) ?_   -- t18 ← move tmp 0
    refine dOps_op rfl rfl (.cons (op_move rfl rfl ⟨rfl, rfl⟩) .nil) ?_   -- t19 ← move tmp 5
    refine dOps_op rfl rfl (.cons (op_indexAddr rfl Try.underlying33 sz45 (by decide) rfl rfl rfl (get_map hs) ⟨rfl, rfl⟩) .nil) ?_   -- t20 ← indexAddr 33 tmp 18 tmp 19
    refine dOps_op rfl rfl (.cons (op_fieldAddr_sptr rfl rfl fo45_0 ⟨rfl, rfl⟩) .nil) ?_   -- t21 ← fieldAddr 45 tmp 20 0
    refine dOps_op rfl rfl (.cons (op_load_sptr rfl rfl ta3 rfl ⟨rfl, rfl⟩) .nil) ?_   -- t22 ← load 3 tmp 21
    refine dOps_op rfl rfl (.cons (op_call rfl rfl rfl co24 (rOf_spec b t.1 _)) .nil) ?_   -- t23 ← call ('rec', {'callee': ('app', 'value', [('app', 'func', [24])])
    refine dOps_op rfl rfl (.cons (op_cmp rfl rfl rfl rfl ⟨rfl, rfl⟩) .nil) ?_   -- t24 ← binOp gtr 36 tmp 16 tmp 23 36
    refine dOps_nil ?_
    refine mwp_cond_split rfl (fun h24 => ?_) (fun h24 => ?_)   -- if t24
    · -- yes
      refine mwp_seq ?_
      refine mwp_region rfl ?_   -- region 5
      refine wOps_op rfl (op_assign rfl rfl ?_)   -- t4 ← assign const bool false
      refine wOps_nil ?_
      refine mwp_ret ?_
      exact ret_tmp (.inr rfl) Try.results41 rfl (.of_eq (by unfold underF; rw [List.all_eq_false.2 ⟨t, List.mem_of_getElem? hs, by simpa using h24⟩])) (.bool _) ⟨rfl, rfl⟩
    · -- no
      refine mwp_skip ?_
      refine mwp_region rfl ?_   -- region 3
      refine wOps_op rfl (op_move rfl rfl ?_)   -- t10 ← move tmp 5
      refine wOps_op rfl (op_arith rfl rfl rfl rfl ?_)   -- t11 ← binOp add 3 tmp 10 const int i64 1 3
      refine wOps_op rfl (op_assign rfl rfl ?_)   -- t5 ← assign tmp 11
      refine wOps_nil ?_
      refine ⟨i + 1, by omega, ⟨by omega, ?_⟩, rfl, (.keep rfl (.keep rfl (.nil))), (.eq rfl (int_succ hlt hlen) (.nil))⟩
      rw [List.take_add_one, hs, List.all_append, hall]
      simpa using h24
  · -- no
    have hge : i = a.length := by simp at h9; omega
    refine mwp_exit ?_
    refine mwp_seq ?_
    refine mwp_region rfl ?_   -- region 6
    refine wOps_op rfl (op_assign rfl rfl ?_)   -- t4 ← assign const bool true
    refine wOps_nil ?_
    refine mwp_ret ?_
    exact ret_tmp (.inr rfl) Try.results41 rfl (.of_eq (by rw [hge, List.take_length] at hall; unfold underF; rw [hall])) (.bool _) ⟨rfl, rfl⟩

theorem rCmpC_spec (a b : List Tk) (S : MS) : MCalls Try.prog 30 [.lst none 2 (a.map encT), .lst none 2 (b.map encT)] S fun v σ' => v = .int .i64 (rcmpF a b) ∧ σ' = S := by
  refine mcalls_body Try.func30 rfl Try.ntmps30 (Nat.le_of_ble_eq_true rfl) ?_
  refine mwp_seq ?_
  refine mwp_region rfl ?_   -- region 0
  refine wOps_op rfl (op_assign rfl rfl ?_)   -- t4 ← assign const int i64 0
  refine wOps_nil ?_
  refine mwp_seq ?_
  refine mwp_region rfl ?_   -- region 1
  refine wOps_op rfl (op_move rfl rfl ?_)   -- t7 ← move tmp 0
  refine wOps_op rfl (op_move rfl rfl ?_)   -- t8 ← move tmp 1
  refine wOps_op rfl (op_call rfl rfl rfl co41 ((rUnder_spec a b _).mono ?_))   -- t9 ← call ('rec', {'callee': ('app', 'value', [('app', 'func', [41])])
  rintro _ _ ⟨rfl, rfl⟩
  refine wOps_op rfl (op_move rfl rfl ?_)   -- t10 ← move tmp 1
  refine wOps_op rfl (op_move rfl rfl ?_)   -- t11 ← move tmp 0
  refine wOps_op rfl (op_call rfl rfl rfl co41 ((rUnder_spec b a _).mono ?_))   -- t12 ← call ('rec', {'callee': ('app', 'value', [('app', 'func', [41])])
  rintro _ _ ⟨rfl, rfl⟩
  refine wOps_op rfl (op_assign rfl rfl ?_)   -- t5 ← assign tmp 9
  refine wOps_op rfl (op_assign rfl rfl ?_)   -- t6 ← assign tmp 12
  refine wOps_nil ?_
  refine mwp_seq ?_
  refine mwp_block ?_   -- block 0
  refine mwp_seq ?_
  refine mwp_region rfl ?_   -- region 2
  refine wOps_op rfl (op_move rfl rfl ?_)   -- t14 ← move tmp 5
  refine wOps_op rfl (op_move rfl rfl ?_)   -- t15 ← move tmp 14
  refine wOps_case (fun h15 => ?_) (fun h15 => ?_)
  ·
    refine wOps_op rfl (op_move rfl rfl ?_)   -- t16 ← move tmp 6  GUARD
    refine wOps_op rfl (op_pick rfl rfl rfl ?_)   -- t17 ← pick tmp 15 tmp 16 const bool false
    refine wOps_op rfl (op_assign rfl rfl ?_)   -- t13 ← assign tmp 17
    refine wOps_nil ?_
    refine mwp_cond_split rfl (fun h13 => ?_) (fun h13 => ?_)   -- if t13
    · -- yes
      refine mwp_seq ?_
      refine mwp_region rfl ?_   -- region 3
      refine wOps_op rfl (op_assign rfl rfl ?_)   -- t4 ← assign const int i64 0
      refine wOps_nil ?_
      refine mwp_ret ?_
      exact ret_tmp (.inr rfl) Try.results30 rfl (.of_eq (by unfold rcmpF; simp_all)) (.int _ _) ⟨rfl, rfl⟩
    · -- no
      refine mwp_seq ?_
      refine mwp_region rfl ?_   -- region 4
      refine wOps_op rfl (op_move rfl rfl ?_)   -- t19 ← move tmp 5
      refine wOps_op rfl (op_assign rfl rfl ?_)   -- t18 ← assign tmp 19
      refine wOps_nil ?_
      refine mwp_cond_split rfl (fun h18 => ?_) (fun h18 => ?_)   -- if t18
      · -- yes
        refine mwp_seq ?_
        refine mwp_region rfl ?_   -- region 5
        refine wOps_op rfl (op_assign rfl rfl ?_)   -- t4 ← assign const int i64 -1
        refine wOps_nil ?_
        refine mwp_ret ?_
        exact ret_tmp (.inr rfl) Try.results30 rfl (.of_eq (by unfold rcmpF; simp_all)) (.int _ _) ⟨rfl, rfl⟩
      · -- no
        refine mwp_seq ?_
        refine mwp_region rfl ?_   -- region 6
        refine wOps_op rfl (op_move rfl rfl ?_)   -- t21 ← move tmp 6
        refine wOps_op rfl (op_assign rfl rfl ?_)   -- t20 ← assign tmp 21
        refine wOps_nil ?_
        refine mwp_cond_split rfl (fun h20 => ?_) (fun h20 => ?_)   -- if t20
        · -- yes
          refine mwp_seq ?_
          refine mwp_region rfl ?_   -- region 7
          refine wOps_op rfl (op_assign rfl rfl ?_)   -- t4 ← assign const int i64 1
          refine wOps_nil ?_
          refine mwp_ret ?_
          exact ret_tmp (.inr rfl) Try.results30 rfl (.of_eq (by unfold rcmpF; simp_all)) (.int _ _) ⟨rfl, rfl⟩
        · -- no
          refine mwp_skip ?_
          refine mwp_seq ?_
          refine mwp_region rfl ?_   -- region 8
          refine wOps_op rfl (op_assign rfl rfl ?_)   -- t4 ← assign const int i64 2
          refine wOps_nil ?_
          refine mwp_ret ?_
          exact ret_tmp (.inr rfl) Try.results30 rfl (.of_eq (by unfold rcmpF; simp_all)) (.int _ _) ⟨rfl, rfl⟩
  ·
    refine wOps_skip rfl ?_
    refine wOps_op rfl (op_pick rfl rfl rfl ?_)   -- t17 ← pick tmp 15 tmp 16 const bool false
    refine wOps_op rfl (op_assign rfl rfl ?_)   -- t13 ← assign tmp 17
    refine wOps_nil ?_
    refine mwp_cond_f rfl (rfl) ?_   -- if t13
    refine mwp_seq ?_
    refine mwp_region rfl ?_   -- region 4
    refine wOps_op rfl (op_move rfl rfl ?_)   -- t19 ← move tmp 5
    refine wOps_op rfl (op_assign rfl rfl ?_)   -- t18 ← assign tmp 19
    refine wOps_nil ?_
    refine mwp_cond_split rfl (fun h18 => ?_) (fun h18 => ?_)   -- if t18
    · -- yes
      refine mwp_seq ?_
      refine mwp_region rfl ?_   -- region 5
      refine wOps_op rfl (op_assign rfl rfl ?_)   -- t4 ← assign const int i64 -1
      refine wOps_nil ?_
      refine mwp_ret ?_
      exact ret_tmp (.inr rfl) Try.results30 rfl (.of_eq (by unfold rcmpF; simp_all)) (.int _ _) ⟨rfl, rfl⟩
    · -- no
      refine mwp_seq ?_
      refine mwp_region rfl ?_   -- region 6
      refine wOps_op rfl (op_move rfl rfl ?_)   -- t21 ← move tmp 6
      refine wOps_op rfl (op_assign rfl rfl ?_)   -- t20 ← assign tmp 21
      refine wOps_nil ?_
      refine mwp_cond_split rfl (fun h20 => ?_) (fun h20 => ?_)   -- if t20
      · -- yes
        refine mwp_seq ?_
        refine mwp_region rfl ?_   -- region 7
        refine wOps_op rfl (op_assign rfl rfl ?_)   -- t4 ← assign const int i64 1
        refine wOps_nil ?_
        refine mwp_ret ?_
        exact ret_tmp (.inr rfl) Try.results30 rfl (.of_eq (by unfold rcmpF; simp_all)) (.int _ _) ⟨rfl, rfl⟩
      · -- no
        refine mwp_skip ?_
        refine mwp_seq ?_
        refine mwp_region rfl ?_   -- region 8
        refine wOps_op rfl (op_assign rfl rfl ?_)   -- t4 ← assign const int i64 2
        refine wOps_nil ?_
        refine mwp_ret ?_
        exact ret_tmp (.inr rfl) Try.results30 rfl (.of_eq (by unfold rcmpF; simp_all)) (.int _ _) ⟨rfl, rfl⟩
end Go.Proofs.Ytiocekmiaediiaa
