/-
  Walks of package clock (layer 3).
-/
import Derived.Test.YtihpnfpdocnniaaFacts
import Derived.Test.YtihpnfpdocnniaaClkP
set_option linter.unusedVariables false
set_option linter.unusedSimpArgs false
namespace Go.Proofs.Ytihpnfpdocnniaa
open Go Go.MV
theorem gtr_nil {α : Type} {en : α → MV} : intCmp .gtr (((([] : List α).map en).length : Nat) : Int) 0 = some false := rfl
theorem gtr_cons {α : Type} {en : α → MV} {x : α} {l : List α} : intCmp .gtr ((((x :: l).map en).length : Nat) : Int) 0 = some true := by simp [intCmp]
theorem merge_cons {α : Type} {cmp : α → α → Int} {bo : α → α → α} {x y : α} {a b : List α} : mergeF cmp bo (x :: a) (y :: b) = if cmp x y < 0 then x :: mergeF cmp bo a (y :: b) else if cmp x y > 0 then y :: mergeF cmp bo (x :: a) b else bo x y :: mergeF cmp bo a b := by rw [mergeF]


theorem clkIs_spec (c : List Tk) (S : MS) : MCalls Try.prog 40 [.lst none 2 (c.map encT)] S fun v σ' => v = .bool (isClockF c) ∧ σ' = S := by
  refine mcalls_body Try.func40 rfl Try.ntmps40 (Nat.le_of_ble_eq_true rfl) ?_
  refine mwp_len (t := 0) rfl fun hlen => ?_
  rw [List.length_map] at hlen
  refine mwp_seq ?_
  refine mwp_region rfl ?_
  refine wOps_op rfl (op_assign rfl rfl ?_)
  refine wOps_nil ?_
  refine mwp_seq ?_
  refine mwp_seq ?_
  refine mwp_region rfl ?_
  refine wOps_op rfl (op_move rfl rfl ?_)
  refine wOps_op rfl (op_len_lst rfl Try.underlying40 rfl ?_)
  refine wOps_op rfl (op_move rfl rfl ?_)
  refine wOps_nil ?_
  refine mwp_block ?_
  refine mwp_loopKJ (α := Nat) [(0, _), (5, _), (6, _)] (fun i => [(7, .int .i64 (i : Int))]) (fun i => []) (fun i => i ≤ c.length ∧ ∀ j, j < i → okAt c j = true) (fun i => c.length - i) (0) (Nat.le_refl _) (.keep rfl (.keep rfl (.keep rfl (.nil)))) (.keep rfl (.nil)) (⟨by omega, fun j hj => by omega⟩) (rfl) ?_
  rintro i ⟨hi, hall⟩
  refine mwp_seq ?_
  refine mwp_region rfl ?_
  refine wOps_op rfl (op_cmp rfl rfl rfl rfl ?_)
  refine wOps_nil ?_
  refine mwp_seq ?_
  refine mwp_cond_split rfl (fun h8 => ?_) (fun h8 => ?_)
  · -- yes
    have hlt : i < c.length := by simpa using h8
    obtain ⟨t, hs⟩ : ∃ q_, c[i]? = some q_ := ⟨_, List.getElem?_eq_getElem hlt⟩
    refine mwp_skip ?_
    refine mwp_seq ?_
    refine mwp_block ?_
    refine mwp_seq ?_
    refine mwp_region rfl ?_
    refine wOps_op rfl (op_move rfl rfl ?_)
    refine wOps_op rfl (op_indexAddr rfl Try.underlying40 sz39 (by decide) rfl rfl rfl (get_map hs) ?_)
    refine wOps_op rfl (op_load_sptr rfl rfl ta39 rfl ?_)
    refine wOps_op rfl (op_alloc' rfl zm39 rfl rfl ?_)
    refine wOps_op rfl (op_assign rfl rfl ?_)
    refine wOps_op rfl (op_store' rfl rfl rfl rfl sz39 rfl rfl (Nat.le_of_ble_eq_true rfl) rfl ?_)
    refine wOps_nil ?_
    refine mwp_seq ?_
    refine mwp_draw [] [_] mo (by decide) rfl rfl rfl rfl ?_
    refine dOps_op rfl rfl (.cons (op_fieldAddr_ref rfl rfl fo39_0 ⟨rfl, rfl⟩) .nil) ?_
    refine dOps_op rfl rfl (.cons (op_load' rfl rfl rfl ta3 rfl ⟨rfl, rfl⟩) .nil) ?_
    refine dOps_op rfl rfl (.cons (op_cmp rfl rfl rfl rfl ⟨rfl, rfl⟩) .nil) ?_
    refine dOps_op rfl rfl (.cons (op_move rfl rfl ⟨rfl, rfl⟩) .nil) ?_
    refine dOps_case (fun h15 => ?_) (fun h15 => ?_)
    ·
      refine dOps_skip rfl rfl ?_
      refine dOps_skip rfl rfl ?_
      refine dOps_skip rfl rfl ?_
      refine dOps_op rfl rfl (.cons (op_pick rfl rfl rfl ⟨rfl, rfl⟩) .nil) ?_
      refine dOps_op rfl rfl (.cons (op_move rfl rfl ⟨rfl, rfl⟩) .nil) ?_
      refine dOps_skip rfl rfl ?_
      refine dOps_skip rfl rfl ?_
      refine dOps_skip rfl rfl ?_
      refine dOps_op rfl rfl (.cons (op_pick rfl rfl rfl ⟨rfl, rfl⟩) .nil) ?_
      refine dOps_op rfl rfl (.cons (op_move rfl rfl ⟨rfl, rfl⟩) .nil) ?_
      refine dOps_skip rfl rfl ?_
      refine dOps_skip rfl rfl ?_
      refine dOps_skip rfl rfl ?_
      refine dOps_skip rfl rfl ?_
      refine dOps_skip rfl rfl ?_
      refine dOps_skip rfl rfl ?_
      refine dOps_skip rfl rfl ?_
      refine dOps_skip rfl rfl ?_
      refine dOps_skip rfl rfl ?_
      refine dOps_skip rfl rfl ?_
      refine dOps_skip rfl rfl ?_
      refine dOps_skip rfl rfl ?_
      refine dOps_skip rfl rfl ?_
      refine dOps_op rfl rfl (.cons (op_pick rfl rfl rfl ⟨rfl, rfl⟩) .nil) ?_
      refine dOps_nil ?_
      refine mwp_cond_t rfl (rfl) ?_
      refine mwp_seq ?_
      refine mwp_region rfl ?_
      refine wOps_op rfl (op_assign rfl rfl ?_)
      refine wOps_nil ?_
      refine mwp_ret ?_
      exact ret_tmp (.inr rfl) Try.results40 rfl (.of_eq (by rw [isClock_false hlt (by simp_all [okAt] <;> omega)])) (.bool _) ⟨rfl, rfl⟩
    ·
      refine dOps_op rfl rfl (.cons (op_fieldAddr_ref rfl rfl fo39_0 ⟨rfl, rfl⟩) .nil) ?_
      refine dOps_op rfl rfl (.cons (op_load' rfl rfl rfl ta3 rfl ⟨rfl, rfl⟩) .nil) ?_
      refine dOps_op rfl rfl (.cons (op_cmp rfl rfl rfl rfl ⟨rfl, rfl⟩) .nil) ?_
      refine dOps_op rfl rfl (.cons (op_pick rfl rfl rfl ⟨rfl, rfl⟩) .nil) ?_
      refine dOps_op rfl rfl (.cons (op_move rfl rfl ⟨rfl, rfl⟩) .nil) ?_
      refine dOps_case (fun h20 => ?_) (fun h20 => ?_)
      ·
        refine dOps_skip rfl rfl ?_
        refine dOps_skip rfl rfl ?_
        refine dOps_skip rfl rfl ?_
        refine dOps_op rfl rfl (.cons (op_pick rfl rfl rfl ⟨rfl, rfl⟩) .nil) ?_
        refine dOps_op rfl rfl (.cons (op_move rfl rfl ⟨rfl, rfl⟩) .nil) ?_
        refine dOps_skip rfl rfl ?_
        refine dOps_skip rfl rfl ?_
        refine dOps_skip rfl rfl ?_
        refine dOps_skip rfl rfl ?_
        refine dOps_skip rfl rfl ?_
        refine dOps_skip rfl rfl ?_
        refine dOps_skip rfl rfl ?_
        refine dOps_skip rfl rfl ?_
        refine dOps_skip rfl rfl ?_
        refine dOps_skip rfl rfl ?_
        refine dOps_skip rfl rfl ?_
        refine dOps_skip rfl rfl ?_
        refine dOps_skip rfl rfl ?_
        refine dOps_op rfl rfl (.cons (op_pick rfl rfl rfl ⟨rfl, rfl⟩) .nil) ?_
        refine dOps_nil ?_
        refine mwp_cond_t rfl (rfl) ?_
        refine mwp_seq ?_
        refine mwp_region rfl ?_
        refine wOps_op rfl (op_assign rfl rfl ?_)
        refine wOps_nil ?_
        refine mwp_ret ?_
        exact ret_tmp (.inr rfl) Try.results40 rfl (.of_eq (by rw [isClock_false hlt (by simp_all [okAt] <;> omega)])) (.bool _) ⟨rfl, rfl⟩
      ·
        refine dOps_op rfl rfl (.cons (op_fieldAddr_ref rfl rfl fo39_1 ⟨rfl, rfl⟩) .nil) ?_
        refine dOps_op rfl rfl (.cons (op_load' rfl rfl rfl ta25 rfl ⟨rfl, rfl⟩) .nil) ?_
        refine dOps_op rfl rfl (.cons (op_cmp rfl rfl rfl rfl ⟨rfl, rfl⟩) .nil) ?_
        refine dOps_op rfl rfl (.cons (op_pick rfl rfl rfl ⟨rfl, rfl⟩) .nil) ?_
        refine dOps_op rfl rfl (.cons (op_move rfl rfl ⟨rfl, rfl⟩) .nil) ?_
        refine dOps_case (fun h25 => ?_) (fun h25 => ?_)
        ·
          refine dOps_skip rfl rfl ?_
          refine dOps_skip rfl rfl ?_
          refine dOps_skip rfl rfl ?_
          refine dOps_skip rfl rfl ?_
          refine dOps_skip rfl rfl ?_
          refine dOps_skip rfl rfl ?_
          refine dOps_skip rfl rfl ?_
          refine dOps_skip rfl rfl ?_
          refine dOps_skip rfl rfl ?_
          refine dOps_skip rfl rfl ?_
          refine dOps_skip rfl rfl ?_
          refine dOps_skip rfl rfl ?_
          refine dOps_skip rfl rfl ?_
          refine dOps_op rfl rfl (.cons (op_pick rfl rfl rfl ⟨rfl, rfl⟩) .nil) ?_
          refine dOps_nil ?_
          refine mwp_cond_t rfl (rfl) ?_
          refine mwp_seq ?_
          refine mwp_region rfl ?_
          refine wOps_op rfl (op_assign rfl rfl ?_)
          refine wOps_nil ?_
          refine mwp_ret ?_
          exact ret_tmp (.inr rfl) Try.results40 rfl (.of_eq (by rw [isClock_false hlt (by simp_all [okAt] <;> omega)])) (.bool _) ⟨rfl, rfl⟩
        ·
          refine dOps_op rfl rfl (.cons (op_move rfl rfl ⟨rfl, rfl⟩) .nil) ?_
          refine dOps_op rfl rfl (.cons (op_cmp rfl rfl rfl rfl ⟨rfl, rfl⟩) .nil) ?_
          refine dOps_op rfl rfl (.cons (op_move rfl rfl ⟨rfl, rfl⟩) .nil) ?_
          refine dOps_case (fun h28 => ?_) (fun h28 => ?_)
          ·
            have hi0 : 0 < i := by simpa using h28
            obtain ⟨p, hp⟩ : ∃ a, c[i - 1]? = some a := ⟨_, List.getElem?_eq_getElem (by omega)⟩
            refine dOps_op rfl rfl (.cons (op_fieldAddr_ref rfl rfl fo39_0 ⟨rfl, rfl⟩) .nil) ?_
            refine dOps_op rfl rfl (.cons (op_load' rfl rfl rfl ta3 rfl ⟨rfl, rfl⟩) .nil) ?_
            refine dOps_op rfl rfl (.cons (op_move rfl rfl ⟨rfl, rfl⟩) .nil) ?_
            refine dOps_op rfl rfl (.cons (op_move rfl rfl ⟨rfl, rfl⟩) .nil) ?_
            refine dOps_op rfl rfl (.cons (op_arith rfl rfl rfl (wsub (a := i) (b := 1) (c := i - 1) (by omega) (by simp only [maxLen] at hlen; omega)) ⟨rfl, rfl⟩) .nil) ?_
            refine dOps_op rfl rfl (.cons (op_indexAddr rfl Try.underlying40 sz39 (by decide) rfl rfl rfl (get_map hp) ⟨rfl, rfl⟩) .nil) ?_
            refine dOps_op rfl rfl (.cons (op_fieldAddr_sptr rfl rfl fo39_0 ⟨rfl, rfl⟩) .nil) ?_
            refine dOps_op rfl rfl (.cons (op_load_sptr rfl rfl ta3 rfl ⟨rfl, rfl⟩) .nil) ?_
            refine dOps_op rfl rfl (.cons (op_cmp rfl rfl rfl rfl ⟨rfl, rfl⟩) .nil) ?_
            refine dOps_op rfl rfl (.cons (op_pick rfl rfl rfl ⟨rfl, rfl⟩) .nil) ?_
            refine dOps_op rfl rfl (.cons (op_pick rfl rfl rfl ⟨rfl, rfl⟩) .nil) ?_
            refine dOps_nil ?_
            refine mwp_cond_split rfl (fun h39 => ?_) (fun h39 => ?_)
            · -- yes
              refine mwp_seq ?_
              refine mwp_region rfl ?_
              refine wOps_op rfl (op_assign rfl rfl ?_)
              refine wOps_nil ?_
              refine mwp_ret ?_
              exact ret_tmp (.inr rfl) Try.results40 rfl (.of_eq (by rw [isClock_false hlt (by simp_all [okAt] <;> omega)])) (.bool _) ⟨rfl, rfl⟩
            · -- no
              refine mwp_skip ?_
              refine mwp_region rfl ?_
              refine wOps_op rfl (op_arith rfl rfl rfl rfl ?_)
              refine wOps_op rfl (op_move rfl rfl ?_)
              refine wOps_nil ?_
              refine ⟨i + 1, _, by omega, ⟨by omega, fun j hj => ?_⟩, rfl, .nil, (.old rfl rfl (.old rfl rfl (.old rfl rfl (.nil)))), (.new' rfl (int_succ hlt hlen) (.int _ _) (.nil))⟩
              by_cases e : j = i
              · subst e; simp_all [okAt]
              · exact hall j (by omega)
          ·
            refine dOps_skip rfl rfl ?_
            refine dOps_skip rfl rfl ?_
            refine dOps_skip rfl rfl ?_
            refine dOps_skip rfl rfl ?_
            refine dOps_skip rfl rfl ?_
            refine dOps_skip rfl rfl ?_
            refine dOps_skip rfl rfl ?_
            refine dOps_skip rfl rfl ?_
            refine dOps_skip rfl rfl ?_
            refine dOps_op rfl rfl (.cons (op_pick rfl rfl rfl ⟨rfl, rfl⟩) .nil) ?_
            refine dOps_op rfl rfl (.cons (op_pick rfl rfl rfl ⟨rfl, rfl⟩) .nil) ?_
            refine dOps_nil ?_
            refine mwp_cond_f rfl (rfl) ?_
            refine mwp_skip ?_
            refine mwp_region rfl ?_
            refine wOps_op rfl (op_arith rfl rfl rfl rfl ?_)
            refine wOps_op rfl (op_move rfl rfl ?_)
            refine wOps_nil ?_
            refine ⟨i + 1, _, by omega, ⟨by omega, fun j hj => ?_⟩, rfl, .nil, (.old rfl rfl (.old rfl rfl (.old rfl rfl (.nil)))), (.new' rfl (int_succ hlt hlen) (.int _ _) (.nil))⟩
            by_cases e : j = i
            · subst e; simp_all [okAt]
            · exact hall j (by omega)
  · -- no
    have hge : i = c.length := by simp at h8; omega
    refine mwp_exit ?_
    refine mwp_seq ?_
    refine mwp_region rfl ?_
    refine wOps_op rfl (op_move rfl rfl ?_)
    refine wOps_op rfl (op_len_lst rfl Try.underlying40 rfl ?_)
    refine wOps_op rfl (op_cmp rfl rfl rfl rfl ?_)
    refine wOps_op rfl (op_assign rfl rfl ?_)
    refine wOps_nil ?_
    refine mwp_ret ?_
    exact ret_tmp (.inr rfl) Try.results40 rfl (.of_eq (by rw [isClock_end (fun j hj => hall j (by omega)), List.length_map])) (.bool _) ⟨rfl, rfl⟩

theorem tEqual_spec (a b : List Tk) (S : MS) : MCalls Try.prog 48 [.lst none 2 (a.map encT), .lst none 2 (b.map encT)] S fun v σ' => v = .bool (decide (a = b)) ∧ σ' = S := by
  refine mcalls_body Try.func48 rfl Try.ntmps48 (Nat.le_of_ble_eq_true rfl) ?_
  refine mwp_len (t := 0) rfl fun hlen => ?_
  rw [List.length_map] at hlen
  refine mwp_seq ?_
  refine mwp_region rfl ?_
  refine wOps_op rfl (op_assign rfl rfl ?_)
  refine wOps_nil ?_
  refine mwp_seq ?_
  refine mwp_seq ?_
  refine mwp_region rfl ?_
  refine wOps_op rfl (op_move rfl rfl ?_)
  refine wOps_op rfl (op_len_lst rfl Try.underlying40 rfl ?_)
  refine wOps_op rfl (op_move rfl rfl ?_)
  refine wOps_op rfl (op_len_lst rfl Try.underlying40 rfl ?_)
  refine wOps_op rfl (op_cmp rfl rfl rfl rfl ?_)
  refine wOps_nil ?_
  refine mwp_cond_split rfl (fun h10 => ?_) (fun h10 => ?_)
  · -- yes
    refine mwp_seq ?_
    refine mwp_region rfl ?_
    refine wOps_op rfl (op_assign rfl rfl ?_)
    refine wOps_nil ?_
    refine mwp_ret ?_
    exact ret_tmp (.inr rfl) Try.results48 rfl (.of_eq (by congr 1; symm; rw [decide_eq_false_iff_not]; intro e; subst e; simp at h10)) (.bool _) ⟨rfl, rfl⟩
  · -- no
    have hab : a.length = b.length := by simp at h10; omega
    refine mwp_skip ?_
    refine mwp_seq ?_
    refine mwp_seq ?_
    refine mwp_region rfl ?_
    refine wOps_op rfl (op_move rfl rfl ?_)
    refine wOps_op rfl (op_len_lst rfl Try.underlying40 rfl ?_)
    refine wOps_op rfl (op_move rfl rfl ?_)
    refine wOps_nil ?_
    refine mwp_block ?_
    refine mwp_loopK (α := Nat) [(0, _), (1, _), (12, _)] (fun i => [(13, .int .i64 (i : Int))]) (fun i => []) (fun i => i ≤ a.length ∧ a.take i = b.take i) (fun i => a.length - i) (0) (.keep rfl (.keep rfl (.keep rfl (.nil)))) (.keep rfl (.nil)) (⟨by omega, rfl⟩) (rfl) ?_
    rintro i ⟨hi, heq⟩
    refine mwp_seq ?_
    refine mwp_region rfl ?_
    refine wOps_op rfl (op_cmp rfl rfl rfl rfl ?_)
    refine wOps_nil ?_
    refine mwp_seq ?_
    refine mwp_cond_split rfl (fun h14 => ?_) (fun h14 => ?_)
    · -- yes
      have hlt : i < a.length := by simpa using h14
      obtain ⟨x, hs⟩ : ∃ q_, a[i]? = some q_ := ⟨_, List.getElem?_eq_getElem hlt⟩
      obtain ⟨y, hs2⟩ : ∃ s, b[i]? = some s := ⟨_, List.getElem?_eq_getElem (by omega)⟩
      refine mwp_skip ?_
      refine mwp_seq ?_
      refine mwp_block ?_
      refine mwp_seq ?_
      refine mwp_region rfl ?_
      refine wOps_op rfl (op_move rfl rfl ?_)
      refine wOps_op rfl (op_assign rfl rfl ?_)
      refine wOps_nil ?_
      refine mwp_seq ?_
      refine mwp_draw [] [_] mo (by decide) rfl rfl rfl rfl ?_
      refine dOps_op rfl rfl (.cons (op_move rfl rfl ⟨rfl, rfl⟩) .nil) ?_
      refine dOps_op rfl rfl (.cons (op_move rfl rfl ⟨rfl, rfl⟩) .nil) ?_
      refine dOps_op rfl rfl (.cons (op_indexAddr rfl Try.underlying40 sz39 (by decide) rfl rfl rfl (get_map hs) ⟨rfl, rfl⟩) .nil) ?_
      refine dOps_op rfl rfl (.cons (op_load_sptr rfl rfl ta39 rfl ⟨rfl, rfl⟩) .nil) ?_
      refine dOps_op rfl rfl (.cons (op_move rfl rfl ⟨rfl, rfl⟩) .nil) ?_
      refine dOps_op rfl rfl (.cons (op_move rfl rfl ⟨rfl, rfl⟩) .nil) ?_
      refine dOps_op rfl rfl (.cons (op_indexAddr rfl Try.underlying40 sz39 (by decide) rfl rfl rfl (get_map hs2) ⟨rfl, rfl⟩) .nil) ?_
      refine dOps_op rfl rfl (.cons (op_load_sptr rfl rfl ta39 rfl ⟨rfl, rfl⟩) .nil) ?_
      refine dOps_op rfl rfl (.cons (op_eqstruct rfl (by kernel_rfl) rfl rfl rfl (.inr ⟨rfl, rfl⟩) ⟨rfl, rfl⟩) .nil) ?_
      refine dOps_nil ?_
      refine mwp_cond_split rfl (fun h24 => ?_) (fun h24 => ?_)
      · -- yes
        refine mwp_seq ?_
        refine mwp_region rfl ?_
        refine wOps_op rfl (op_assign rfl rfl ?_)
        refine wOps_nil ?_
        refine mwp_ret ?_
        exact ret_tmp (.inr rfl) Try.results48 rfl (.of_eq (by congr 1; symm; rw [decide_eq_false_iff_not]; intro e; subst e; rw [hs2] at hs; injection hs with hs; subst hs; simp at h24)) (.bool _) ⟨rfl, rfl⟩
      · -- no
        refine mwp_skip ?_
        refine mwp_region rfl ?_
        refine wOps_op rfl (op_arith rfl rfl rfl rfl ?_)
        refine wOps_op rfl (op_move rfl rfl ?_)
        refine wOps_nil ?_
        refine ⟨i + 1, by omega, ⟨by omega, ?_⟩, rfl, (.keep rfl (.keep rfl (.keep rfl (.nil)))), (.eq rfl (int_succ hlt hlen) (.nil))⟩
        rw [List.take_add_one, List.take_add_one, hs, hs2, heq]
        obtain ⟨x1, x2⟩ := x; obtain ⟨y1, y2⟩ := y
        simp at h24
        rw [h24.1, h24.2]
    · -- no
      have hge : i = a.length := by simp at h14; omega
      refine mwp_exit ?_
      refine mwp_seq ?_
      refine mwp_region rfl ?_
      refine wOps_op rfl (op_assign rfl rfl ?_)
      refine wOps_nil ?_
      refine mwp_ret ?_
      exact ret_tmp (.inr rfl) Try.results48 rfl (.of_eq (by congr 1; symm; rw [decide_eq_true_iff]; rw [hge, List.take_length, hab, List.take_length] at heq; exact heq)) (.bool _) ⟨rfl, rfl⟩

theorem clkSame_spec (a b : List Tk) (S : MS) : MCalls Try.prog 29 [.lst none 2 (a.map encT), .lst none 2 (b.map encT)] S fun v σ' => v = .bool (decide (a = b)) ∧ σ' = S := by
  refine mcalls_body Try.func29 rfl Try.ntmps29 (Nat.le_of_ble_eq_true rfl) ?_
  refine mwp_seq ?_
  refine mwp_region rfl ?_
  refine wOps_op rfl (op_assign rfl rfl ?_)
  refine wOps_nil ?_
  refine mwp_seq ?_
  refine mwp_region rfl ?_
  refine wOps_op rfl (op_move rfl rfl ?_)
  refine wOps_op rfl (op_move rfl rfl ?_)
  refine wOps_op rfl (op_call rfl rfl rfl co48 ((tEqual_spec a b _).mono ?_))
  rintro _ _ ⟨rfl, rfl⟩
  refine wOps_op rfl (op_assign rfl rfl ?_)
  refine wOps_nil ?_
  refine mwp_ret ?_
  exact ret_tmp (.inr rfl) Try.results29 rfl (.of_eq (rfl)) (.bool _) ⟨rfl, rfl⟩

theorem isNaN_spec (m : Int) (S : MS) : MCalls Try.prog 77 [.int .i64 m] S fun v σ' => v = .bool false ∧ σ' = S := by
  refine mcalls_body Try.func77 rfl Try.ntmps77 (Nat.le_of_ble_eq_true rfl) ?_
  refine mwp_seq ?_
  refine mwp_region rfl ?_
  refine wOps_op rfl (op_assign rfl rfl ?_)
  refine wOps_nil ?_
  refine mwp_seq ?_
  refine mwp_region rfl ?_
  refine wOps_op rfl (op_move rfl rfl ?_)
  refine wOps_op rfl (op_move rfl rfl ?_)
  refine wOps_op rfl (op_cmp rfl rfl rfl rfl ?_)
  refine wOps_op rfl (op_assign rfl rfl ?_)
  refine wOps_nil ?_
  refine mwp_ret ?_
  exact ret_tmp (.inr rfl) Try.results77 rfl (.of_eq (by simp)) (.bool _) ⟨rfl, rfl⟩

theorem compare_spec (m n : Int) (S : MS) : MCalls Try.prog 72 [.int .i64 m, .int .i64 n] S fun v σ' => v = .int .i64 (cmpI m n) ∧ σ' = S := by
  refine mcalls_body Try.func72 rfl Try.ntmps72 (Nat.le_of_ble_eq_true rfl) ?_
  refine mwp_seq ?_
  refine mwp_region rfl ?_
  refine wOps_op rfl (op_assign rfl rfl ?_)
  refine wOps_nil ?_
  refine mwp_seq ?_
  refine mwp_region rfl ?_
  refine wOps_op rfl (op_move rfl rfl ?_)
  refine wOps_op rfl (op_call rfl rfl rfl co77 ((isNaN_spec m _).mono ?_))
  rintro _ _ ⟨rfl, rfl⟩
  refine wOps_op rfl (op_assign rfl rfl ?_)
  refine wOps_nil ?_
  refine mwp_seq ?_
  refine mwp_region rfl ?_
  refine wOps_op rfl (op_move rfl rfl ?_)
  refine wOps_op rfl (op_call rfl rfl rfl co77 ((isNaN_spec n _).mono ?_))
  rintro _ _ ⟨rfl, rfl⟩
  refine wOps_op rfl (op_assign rfl rfl ?_)
  refine wOps_nil ?_
  refine mwp_seq ?_
  refine mwp_seq ?_
  refine mwp_region rfl ?_
  refine wOps_op rfl (op_move rfl rfl ?_)
  refine wOps_nil ?_
  refine mwp_cond_f rfl (rfl) ?_
  refine mwp_skip ?_
  refine mwp_seq ?_
  refine mwp_seq ?_
  refine mwp_region rfl ?_
  refine wOps_op rfl (op_move rfl rfl ?_)
  refine wOps_nil ?_
  refine mwp_cond_f rfl (rfl) ?_
  refine mwp_skip ?_
  refine mwp_seq ?_
  refine mwp_seq ?_
  refine mwp_region rfl ?_
  refine wOps_op rfl (op_move rfl rfl ?_)
  refine wOps_op rfl (op_move rfl rfl ?_)
  refine wOps_op rfl (op_cmp rfl rfl rfl rfl ?_)
  refine wOps_nil ?_
  refine mwp_cond_split rfl (fun h16 => ?_) (fun h16 => ?_)
  · -- yes
    refine mwp_seq ?_
    refine mwp_region rfl ?_
    refine wOps_op rfl (op_assign rfl rfl ?_)
    refine wOps_nil ?_
    refine mwp_ret ?_
    exact ret_tmp (.inr rfl) Try.results72 rfl (.of_eq (by simp only [decide_eq_true_eq] at h16; rw [cmpI, if_pos h16])) (.int _ _) ⟨rfl, rfl⟩
  · -- no
    refine mwp_skip ?_
    refine mwp_seq ?_
    refine mwp_seq ?_
    refine mwp_region rfl ?_
    refine wOps_op rfl (op_move rfl rfl ?_)
    refine wOps_op rfl (op_move rfl rfl ?_)
    refine wOps_op rfl (op_cmp rfl rfl rfl rfl ?_)
    refine wOps_nil ?_
    refine mwp_cond_split rfl (fun h19 => ?_) (fun h19 => ?_)
    · -- yes
      refine mwp_seq ?_
      refine mwp_region rfl ?_
      refine wOps_op rfl (op_assign rfl rfl ?_)
      refine wOps_nil ?_
      refine mwp_ret ?_
      exact ret_tmp (.inr rfl) Try.results72 rfl (.of_eq (by simp only [decide_eq_true_eq, decide_eq_false_iff_not] at h16 h19; rw [cmpI, if_neg h16, if_pos h19])) (.int _ _) ⟨rfl, rfl⟩
    · -- no
      refine mwp_skip ?_
      refine mwp_seq ?_
      refine mwp_region rfl ?_
      refine wOps_op rfl (op_assign rfl rfl ?_)
      refine wOps_nil ?_
      refine mwp_ret ?_
      exact ret_tmp (.inr rfl) Try.results72 rfl (.of_eq (by simp only [decide_eq_true_eq, decide_eq_false_iff_not] at h16 h19; rw [cmpI, if_neg h16, if_neg h19])) (.int _ _) ⟨rfl, rfl⟩

theorem byWho_spec (x y : Tk) (S : MS) : MCalls Try.prog 80 [encT x, encT y] S fun v σ' => v = .int .i64 (cmpI x.1 y.1) ∧ σ' = S := by
  refine mcalls_body Try.func80 rfl Try.ntmps80 (Nat.le_of_ble_eq_true rfl) ?_
  refine mwp_seq ?_
  refine mwp_region rfl ?_
  refine wOps_op rfl (op_box' rfl rfl rfl rfl ?_)
  refine wOps_op rfl (op_box' rfl rfl rfl rfl ?_)
  refine wOps_op rfl (op_assign rfl rfl ?_)
  refine wOps_nil ?_
  refine mwp_seq ?_
  refine mwp_region rfl ?_
  refine wOps_op rfl (op_fieldAddr_ref rfl rfl fo39_0 ?_)
  refine wOps_op rfl (op_load' rfl rfl rfl ta3 rfl ?_)
  refine wOps_op rfl (op_fieldAddr_ref rfl rfl fo39_0 ?_)
  refine wOps_op rfl (op_load' rfl rfl rfl ta3 rfl ?_)
  refine wOps_op rfl (op_call rfl rfl rfl co72 ((compare_spec x.1 y.1 _).mono ?_))
  rintro _ _ ⟨rfl, rfl⟩
  refine wOps_op rfl (op_assign rfl rfl ?_)
  refine wOps_nil ?_
  refine mwp_ret ?_
  exact ret_tmp (.inr rfl) Try.results80 rfl (.of_eq (rfl)) (.int _ _) ⟨rfl, rfl⟩

theorem join1_spec (x y : Tk) (S : MS) : MCalls Try.prog 81 [encT x, encT y] S fun v σ' => v = encT (bothT x y) ∧ σ' = S := by
  refine mcalls_body Try.func81 rfl Try.ntmps81 (Nat.le_of_ble_eq_true rfl) ?_
  refine mwp_seq ?_
  refine mwp_region rfl ?_
  refine wOps_op rfl (op_box' rfl rfl rfl rfl ?_)
  refine wOps_op rfl (op_box' rfl rfl rfl rfl ?_)
  refine wOps_op rfl (op_alloc' rfl zm39 rfl rfl ?_)
  refine wOps_nil ?_
  refine mwp_seq ?_
  refine mwp_region rfl ?_
  refine wOps_op rfl (op_fieldAddr_ref rfl rfl fo39_0 ?_)
  refine wOps_op rfl (op_load' rfl rfl rfl ta3 rfl ?_)
  refine wOps_op rfl (op_fieldAddr_ref rfl rfl fo39_1 ?_)
  refine wOps_op rfl (op_load' rfl rfl rfl ta25 rfl ?_)
  refine wOps_op rfl (op_fieldAddr_ref rfl rfl fo39_1 ?_)
  refine wOps_op rfl (op_load' rfl rfl rfl ta25 rfl ?_)
  refine wOps_op rfl (op_max2 rfl rfl rfl ?_)
  refine wOps_op rfl (op_build rfl Try.underlying39 zm39 (.cons fo39_0 sz3 rfl rfl (Nat.le_of_ble_eq_true rfl) (.cons fo39_1 sz25 rfl rfl (Nat.le_of_ble_eq_true rfl) .nil)) (by kernel_rfl) ?_)
  refine wOps_op rfl (op_store' rfl rfl rfl rfl sz39 rfl rfl (Nat.le_of_ble_eq_true rfl) rfl ?_)
  refine wOps_nil ?_
  refine mwp_ret ?_
  exact ret_cell (.inr rfl) Try.results81 rfl rfl ta39 rfl (.refl _) (cl_encT _ (bothT x y)) ⟨rfl, rfl⟩

theorem merge_spec (a b : List Tk) (cmp : Tk → Tk → Int) (bo : Tk → Tk → Tk) (kc kb : FuncId) (hab : a.length + b.length ≤ 1000000) (hco : CallOk Try.prog kc) (hcb : CallOk Try.prog kb) (hp : ∀ (x y : Tk) (X : MS), MCalls Try.prog kc [encT x, encT y] X fun v σ' => v = .int .i64 (cmp x y) ∧ σ' = X) (hq : ∀ (x y : Tk) (X : MS), MCalls Try.prog kb [encT x, encT y] X fun v σ' => v = encT (bo x y) ∧ σ' = X) (S : MS) : MCalls Try.prog 79 [.lst none 2 (a.map encT), .lst none 2 (b.map encT), .fn (.func kc) [] [], .fn (.func kb) [] []] S fun v σ' => v = .lst none 2 ((mergeF cmp bo a b).map encT) ∧ σ' = S := by
  refine mcalls_body Try.func79 rfl Try.ntmps79 (Nat.le_of_ble_eq_true rfl) ?_
  refine mwp_seq ?_
  refine mwp_region rfl ?_
  refine wOps_op rfl (op_assign rfl rfl ?_)
  refine wOps_nil ?_
  refine mwp_seq ?_
  refine mwp_region rfl ?_
  refine wOps_op rfl (op_assign rfl rfl ?_)
  refine wOps_nil ?_
  refine mwp_seq ?_
  refine mwp_block ?_
  refine mwp_row0 9 39 2 rfl (Nat.le_refl _) rfl rfl ?_
  refine mwp_loopK (α := List Tk × List Tk × List Tk) [(2, _), (3, _)] (fun x => [(0, .lst none 2 (x.1.map encT)), (1, .lst none 2 (x.2.1.map encT)), (9, .lst (some (S.length + 0)) 2 (x.2.2.map encT))]) (fun x => [.row 39 2 x.2.2.length]) (fun x => x.2.2.length + x.1.length + x.2.1.length ≤ a.length + b.length ∧ x.2.2 ++ mergeF cmp bo x.1 x.2.1 = mergeF cmp bo a b) (fun x => x.1.length + x.2.1.length) (⟨a, b, []⟩) (.keep rfl (.keep rfl (.nil))) (.keep rfl (.keep rfl (.keep rfl (.nil)))) (⟨by simp, by simp⟩) (rfl) ?_
  rintro ⟨a', b', out⟩ ⟨hl, he⟩
  dsimp only at hl he ⊢
  refine mwp_seq ?_
  refine mwp_seq ?_
  rcases a' with _ | ⟨x, a'⟩
  ·
    refine mwp_region rfl ?_
    refine wOps_op rfl (op_move rfl rfl ?_)
    refine wOps_op rfl (op_len_lst rfl Try.underlying40 rfl ?_)
    refine wOps_op rfl (op_cmp rfl rfl rfl (gtr_nil) ?_)
    refine wOps_op rfl (op_move rfl rfl ?_)
    refine wOps_skip rfl ?_
    refine wOps_skip rfl ?_
    refine wOps_skip rfl ?_
    refine wOps_op rfl (op_pick rfl rfl rfl ?_)
    refine wOps_nil ?_
    refine mwp_cond_f rfl (rfl) ?_
    refine mwp_exit ?_
    refine mwp_seq ?_
    refine mwp_region rfl ?_
    refine wOps_op rfl (op_move rfl rfl ?_)
    refine wOps_op rfl (op_move rfl rfl ?_)
    refine wOps_op rfl (op_append' rfl Try.underlying40 el39 rfl rfl rfl (by simp) (by simp only [List.length_cons, List.length_nil, List.length_map, List.length_append] at hl ⊢; omega) (by simp only [List.length_cons, List.length_nil, List.length_map, List.length_append] at hl ⊢; omega) rfl ?_)
    refine wOps_op rfl (op_move rfl rfl ?_)
    refine wOps_op rfl (op_append' rfl Try.underlying40 el39 rfl rfl rfl (by simp) (by simp only [List.length_cons, List.length_nil, List.length_map, List.length_append] at hl ⊢; omega) (by simp only [List.length_cons, List.length_nil, List.length_map, List.length_append] at hl ⊢; omega) rfl ?_)
    refine wOps_op rfl (op_assign rfl rfl ?_)
    refine wOps_nil ?_
    refine mwp_ret ?_
    exact ret_tmp (.inr rfl) Try.results79 rfl (Sub.trans (.view _ _ _) (.of_eq (by rw [← he]; simp [nil_merge]))) (cl_clock _ _) ⟨rfl, rfl⟩
  ·
    rcases b' with _ | ⟨y, b'⟩
    ·
      refine mwp_region rfl ?_
      refine wOps_op rfl (op_move rfl rfl ?_)
      refine wOps_op rfl (op_len_lst rfl Try.underlying40 rfl ?_)
      refine wOps_op rfl (op_cmp rfl rfl rfl (gtr_cons) ?_)
      refine wOps_op rfl (op_move rfl rfl ?_)
      refine wOps_op rfl (op_move rfl rfl ?_)
      refine wOps_op rfl (op_len_lst rfl Try.underlying40 rfl ?_)
      refine wOps_op rfl (op_cmp rfl rfl rfl (gtr_nil) ?_)
      refine wOps_op rfl (op_pick rfl rfl rfl ?_)
      refine wOps_nil ?_
      refine mwp_cond_f rfl (rfl) ?_
      refine mwp_exit ?_
      refine mwp_seq ?_
      refine mwp_region rfl ?_
      refine wOps_op rfl (op_move rfl rfl ?_)
      refine wOps_op rfl (op_move rfl rfl ?_)
      refine wOps_op rfl (op_append' rfl Try.underlying40 el39 rfl rfl rfl (by simp) (by simp only [List.length_cons, List.length_nil, List.length_map, List.length_append] at hl ⊢; omega) (by simp only [List.length_cons, List.length_nil, List.length_map, List.length_append] at hl ⊢; omega) rfl ?_)
      refine wOps_op rfl (op_move rfl rfl ?_)
      refine wOps_op rfl (op_append' rfl Try.underlying40 el39 rfl rfl rfl (by simp) (by simp only [List.length_cons, List.length_nil, List.length_map, List.length_append] at hl ⊢; omega) (by simp only [List.length_cons, List.length_nil, List.length_map, List.length_append] at hl ⊢; omega) rfl ?_)
      refine wOps_op rfl (op_assign rfl rfl ?_)
      refine wOps_nil ?_
      refine mwp_ret ?_
      exact ret_tmp (.inr rfl) Try.results79 rfl (Sub.trans (.view _ _ _) (.of_eq (by rw [← he]; simp [merge_nil]))) (cl_clock _ _) ⟨rfl, rfl⟩
    ·
      simp only [List.length_cons] at hl
      refine mwp_region rfl ?_
      refine wOps_op rfl (op_move rfl rfl ?_)
      refine wOps_op rfl (op_len_lst rfl Try.underlying40 rfl ?_)
      refine wOps_op rfl (op_cmp rfl rfl rfl (gtr_cons) ?_)
      refine wOps_op rfl (op_move rfl rfl ?_)
      refine wOps_op rfl (op_move rfl rfl ?_)
      refine wOps_op rfl (op_len_lst rfl Try.underlying40 rfl ?_)
      refine wOps_op rfl (op_cmp rfl rfl rfl (gtr_cons) ?_)
      refine wOps_op rfl (op_pick rfl rfl rfl ?_)
      refine wOps_nil ?_
      refine mwp_cond_t rfl (rfl) ?_
      refine mwp_skip ?_
      refine mwp_block ?_
      refine mwp_seq ?_
      refine mwp_draw [] [_] mo (by decide) rfl rfl rfl rfl ?_
      refine dOps_op rfl rfl (.cons (op_move rfl rfl ⟨rfl, rfl⟩) .nil) ?_
      refine dOps_op rfl rfl (.cons (op_move rfl rfl ⟨rfl, rfl⟩) .nil) ?_
      refine dOps_op rfl rfl (.cons (op_indexAddr rfl Try.underlying40 sz39 (by decide) rfl rfl rfl rfl ⟨rfl, rfl⟩) .nil) ?_
      refine dOps_op rfl rfl (.cons (op_load_sptr rfl rfl ta39 rfl ⟨rfl, rfl⟩) .nil) ?_
      refine dOps_op rfl rfl (.cons (op_move rfl rfl ⟨rfl, rfl⟩) .nil) ?_
      refine dOps_op rfl rfl (.cons (op_indexAddr rfl Try.underlying40 sz39 (by decide) rfl rfl rfl rfl ⟨rfl, rfl⟩) .nil) ?_
      refine dOps_op rfl rfl (.cons (op_load_sptr rfl rfl ta39 rfl ⟨rfl, rfl⟩) .nil) ?_
      refine dOps_op rfl rfl (.cons (op_call rfl rfl rfl hco (hp x y _)) .nil) ?_
      refine dOps_op rfl rfl (.cons (op_assign rfl rfl ⟨rfl, rfl⟩) .nil) ?_
      refine dOps_nil ?_
      refine mwp_block ?_
      refine mwp_seq ?_
      refine mwp_region rfl ?_
      refine wOps_op rfl (op_move rfl rfl ?_)
      refine wOps_op rfl (op_cmp rfl rfl rfl rfl ?_)
      refine wOps_op rfl (op_assign rfl rfl ?_)
      refine wOps_nil ?_
      refine mwp_cond_split rfl (fun h42 => ?_) (fun h42 => ?_)
      · -- yes
        refine mwp_draw [5] [_, S ++ [.row 39 2 (out.length + 1)]] mo (by decide) rfl rfl rfl rfl ?_
        refine dOps_op rfl rfl (.cons (op_move rfl rfl ⟨rfl, rfl⟩) .nil) ?_
        refine dOps_op rfl rfl (.cons (op_move rfl rfl ⟨rfl, rfl⟩) (.cons (op_move rfl rfl ⟨rfl, rfl⟩) (.nil))) ?_
        refine dOps_op rfl rfl (.cons (op_indexAddr rfl Try.underlying40 sz39 (by decide) rfl rfl rfl rfl ⟨rfl, rfl⟩) (.cons (op_indexAddr rfl Try.underlying40 sz39 (by decide) rfl rfl rfl rfl ⟨rfl, rfl⟩) (.nil))) ?_
        refine dOps_op rfl rfl (.cons (op_load_sptr rfl rfl ta39 rfl ⟨rfl, rfl⟩) (.cons (op_load_sptr rfl rfl ta39 rfl ⟨rfl, rfl⟩) (.nil))) ?_
        refine dOps_op rfl rfl (.cons (op_buildSlice rfl Try.underlying40 el39 rfl rfl (by decide) (by decide) rfl rfl ⟨rfl, rfl⟩) .nil) ?_
        refine dOps_eff rfl rfl rfl rfl (op_append' rfl Try.underlying40 el39 rfl rfl rfl (by simp) (by simp only [List.length_cons, List.length_nil, List.length_map, List.length_append] at hl ⊢; omega) (by simp only [List.length_cons, List.length_nil, List.length_map, List.length_append] at hl ⊢; omega) rfl ⟨rfl, rfl⟩) ?_
        refine dOps_op rfl rfl (.cons (op_move rfl rfl ⟨rfl, rfl⟩) (.cons (op_move rfl rfl ⟨rfl, rfl⟩) (.nil))) ?_
        refine dOps_op rfl rfl (.cons (op_slice rfl Try.underlying40 sz39 rfl (.some rfl rfl) .none (by simp) (Nat.le_refl _) ⟨rfl, rfl⟩) (.cons (op_slice rfl Try.underlying40 sz39 rfl (.some rfl rfl) .none (by simp) (Nat.le_refl _) ⟨rfl, rfl⟩) (.nil))) ?_
        refine dOps_op rfl rfl (.cons (op_assign rfl rfl ⟨rfl, rfl⟩) .nil) ?_
        refine dOps_op rfl rfl (.cons (op_assign rfl rfl ⟨rfl, rfl⟩) .nil) ?_
        refine dOps_nil ?_
        simp only [decide_eq_true_eq] at h42
        refine ⟨⟨a', y :: b', out ++ [x]⟩, by simp only [List.length_cons, List.length_append, List.length_nil]; omega, ⟨by simp only [List.length_cons, List.length_append, List.length_nil]; omega, by rw [← he, merge_cons, if_pos h42]; simp⟩, by simp, (.keep rfl (.keep rfl (.nil))), (.eq rfl (by simp [List.take_of_length_le]) (.keep rfl (.eq rfl (by rw [List.map_append]; rfl) (.nil))))⟩
      · -- no
        refine mwp_seq ?_
        refine mwp_region rfl ?_
        refine wOps_op rfl (op_move rfl rfl ?_)
        refine wOps_op rfl (op_cmp rfl rfl rfl rfl ?_)
        refine wOps_op rfl (op_assign rfl rfl ?_)
        refine wOps_nil ?_
        refine mwp_cond_split rfl (fun h53 => ?_) (fun h53 => ?_)
        · -- yes
          refine mwp_draw [5] [_, S ++ [.row 39 2 (out.length + 1)]] mo (by decide) rfl rfl rfl rfl ?_
          refine dOps_op rfl rfl (.cons (op_move rfl rfl ⟨rfl, rfl⟩) .nil) ?_
          refine dOps_op rfl rfl (.cons (op_move rfl rfl ⟨rfl, rfl⟩) (.cons (op_move rfl rfl ⟨rfl, rfl⟩) (.nil))) ?_
          refine dOps_op rfl rfl (.cons (op_indexAddr rfl Try.underlying40 sz39 (by decide) rfl rfl rfl rfl ⟨rfl, rfl⟩) (.cons (op_indexAddr rfl Try.underlying40 sz39 (by decide) rfl rfl rfl rfl ⟨rfl, rfl⟩) (.nil))) ?_
          refine dOps_op rfl rfl (.cons (op_load_sptr rfl rfl ta39 rfl ⟨rfl, rfl⟩) (.cons (op_load_sptr rfl rfl ta39 rfl ⟨rfl, rfl⟩) (.nil))) ?_
          refine dOps_op rfl rfl (.cons (op_buildSlice rfl Try.underlying40 el39 rfl rfl (by decide) (by decide) rfl rfl ⟨rfl, rfl⟩) .nil) ?_
          refine dOps_eff rfl rfl rfl rfl (op_append' rfl Try.underlying40 el39 rfl rfl rfl (by simp) (by simp only [List.length_cons, List.length_nil, List.length_map, List.length_append] at hl ⊢; omega) (by simp only [List.length_cons, List.length_nil, List.length_map, List.length_append] at hl ⊢; omega) rfl ⟨rfl, rfl⟩) ?_
          refine dOps_op rfl rfl (.cons (op_move rfl rfl ⟨rfl, rfl⟩) (.cons (op_move rfl rfl ⟨rfl, rfl⟩) (.nil))) ?_
          refine dOps_op rfl rfl (.cons (op_slice rfl Try.underlying40 sz39 rfl (.some rfl rfl) .none (by simp) (Nat.le_refl _) ⟨rfl, rfl⟩) (.cons (op_slice rfl Try.underlying40 sz39 rfl (.some rfl rfl) .none (by simp) (Nat.le_refl _) ⟨rfl, rfl⟩) (.nil))) ?_
          refine dOps_op rfl rfl (.cons (op_assign rfl rfl ⟨rfl, rfl⟩) .nil) ?_
          refine dOps_op rfl rfl (.cons (op_assign rfl rfl ⟨rfl, rfl⟩) .nil) ?_
          refine dOps_nil ?_
          simp only [decide_eq_true_eq, decide_eq_false_iff_not] at h42 h53
          refine ⟨⟨x :: a', b', out ++ [y]⟩, by simp only [List.length_cons, List.length_append, List.length_nil]; omega, ⟨by simp only [List.length_cons, List.length_append, List.length_nil]; omega, by rw [← he, merge_cons, if_neg h42, if_pos h53]; simp⟩, by simp, (.keep rfl (.keep rfl (.nil))), (.keep rfl (.eq rfl (by simp [List.take_of_length_le]) (.eq rfl (by rw [List.map_append]; rfl) (.nil))))⟩
        · -- no
          refine mwp_draw [10] [_, S ++ [.row 39 2 (out.length + 1)]] mo (by decide) rfl rfl rfl rfl ?_
          refine dOps_op rfl rfl (.cons (op_move rfl rfl ⟨rfl, rfl⟩) .nil) ?_
          refine dOps_op rfl rfl (.cons (op_move rfl rfl ⟨rfl, rfl⟩) (.cons (op_move rfl rfl ⟨rfl, rfl⟩) (.nil))) ?_
          refine dOps_op rfl rfl (.cons (op_move rfl rfl ⟨rfl, rfl⟩) (.cons (op_move rfl rfl ⟨rfl, rfl⟩) (.nil))) ?_
          refine dOps_op rfl rfl (.cons (op_indexAddr rfl Try.underlying40 sz39 (by decide) rfl rfl rfl rfl ⟨rfl, rfl⟩) (.cons (op_indexAddr rfl Try.underlying40 sz39 (by decide) rfl rfl rfl rfl ⟨rfl, rfl⟩) (.nil))) ?_
          refine dOps_op rfl rfl (.cons (op_load_sptr rfl rfl ta39 rfl ⟨rfl, rfl⟩) (.cons (op_load_sptr rfl rfl ta39 rfl ⟨rfl, rfl⟩) (.nil))) ?_
          refine dOps_op rfl rfl (.cons (op_move rfl rfl ⟨rfl, rfl⟩) (.cons (op_move rfl rfl ⟨rfl, rfl⟩) (.nil))) ?_
          refine dOps_op rfl rfl (.cons (op_indexAddr rfl Try.underlying40 sz39 (by decide) rfl rfl rfl rfl ⟨rfl, rfl⟩) (.cons (op_indexAddr rfl Try.underlying40 sz39 (by decide) rfl rfl rfl rfl ⟨rfl, rfl⟩) (.nil))) ?_
          refine dOps_op rfl rfl (.cons (op_load_sptr rfl rfl ta39 rfl ⟨rfl, rfl⟩) (.cons (op_load_sptr rfl rfl ta39 rfl ⟨rfl, rfl⟩) (.nil))) ?_
          refine dOps_op rfl rfl (.cons (op_call rfl rfl rfl hcb (hq x y _)) .nil) ?_
          refine dOps_op rfl rfl (.cons (op_buildSlice rfl Try.underlying40 el39 rfl rfl (by decide) (by decide) rfl rfl ⟨rfl, rfl⟩) .nil) ?_
          refine dOps_eff rfl rfl rfl rfl (op_append' rfl Try.underlying40 el39 rfl rfl rfl (by simp) (by simp only [List.length_cons, List.length_nil, List.length_map, List.length_append] at hl ⊢; omega) (by simp only [List.length_cons, List.length_nil, List.length_map, List.length_append] at hl ⊢; omega) rfl ⟨rfl, rfl⟩) ?_
          refine dOps_op rfl rfl (.cons (op_move rfl rfl ⟨rfl, rfl⟩) (.cons (op_move rfl rfl ⟨rfl, rfl⟩) (.nil))) ?_
          refine dOps_op rfl rfl (.cons (op_slice rfl Try.underlying40 sz39 rfl (.some rfl rfl) .none (by simp) (Nat.le_refl _) ⟨rfl, rfl⟩) (.cons (op_slice rfl Try.underlying40 sz39 rfl (.some rfl rfl) .none (by simp) (Nat.le_refl _) ⟨rfl, rfl⟩) (.nil))) ?_
          refine dOps_op rfl rfl (.cons (op_move rfl rfl ⟨rfl, rfl⟩) (.cons (op_move rfl rfl ⟨rfl, rfl⟩) (.nil))) ?_
          refine dOps_op rfl rfl (.cons (op_slice rfl Try.underlying40 sz39 rfl (.some rfl rfl) .none (by simp) (Nat.le_refl _) ⟨rfl, rfl⟩) (.cons (op_slice rfl Try.underlying40 sz39 rfl (.some rfl rfl) .none (by simp) (Nat.le_refl _) ⟨rfl, rfl⟩) (.nil))) ?_
          refine dOps_op rfl rfl (.cons (op_assign rfl rfl ⟨rfl, rfl⟩) .nil) ?_
          refine dOps_op rfl rfl (.cons (op_assign rfl rfl ⟨rfl, rfl⟩) .nil) ?_
          refine dOps_op rfl rfl (.cons (op_assign rfl rfl ⟨rfl, rfl⟩) .nil) ?_
          refine dOps_nil ?_
          simp only [decide_eq_false_iff_not] at h42 h53
          refine ⟨⟨a', b', out ++ [bo x y]⟩, by simp only [List.length_cons, List.length_append, List.length_nil]; omega, ⟨by simp only [List.length_cons, List.length_append, List.length_nil]; omega, by rw [← he, merge_cons, if_neg h42, if_neg h53]; simp⟩, by simp, (.keep rfl (.keep rfl (.nil))), (.eq rfl (by simp [List.take_of_length_le]) (.eq rfl (by simp [List.take_of_length_le]) (.eq rfl (by rw [List.map_append]; rfl) (.nil))))⟩

theorem clkJoin_spec (a b : List Tk) (hab : a.length + b.length ≤ 1000000) (S : MS) : MCalls Try.prog 74 [.lst none 2 (a.map encT), .lst none 2 (b.map encT)] S fun v σ' => v = .lst none 2 ((joinF a b).map encT) ∧ σ' = S := by
  refine mcalls_body Try.func74 rfl Try.ntmps74 (Nat.le_of_ble_eq_true rfl) ?_
  refine mwp_seq ?_
  refine mwp_region rfl ?_
  refine wOps_op rfl (op_assign rfl rfl ?_)
  refine wOps_nil ?_
  refine mwp_seq ?_
  refine mwp_region rfl ?_
  refine wOps_op rfl (op_move rfl rfl ?_)
  refine wOps_op rfl (op_move rfl rfl ?_)
  refine wOps_op rfl (op_call rfl rfl rfl co79 ((merge_spec a b (fun x y => cmpI x.1 y.1) bothT 80 81 hab co80 co81 byWho_spec join1_spec _).mono ?_))
  rintro _ _ ⟨rfl, rfl⟩
  refine wOps_op rfl (op_assign rfl rfl ?_)
  refine wOps_nil ?_
  refine mwp_ret ?_
  exact ret_tmp (.inr rfl) Try.results74 rfl (.of_eq (rfl)) (cl_clock _ _) ⟨rfl, rfl⟩

theorem clkCmp_spec (a b : List Tk) (hab : a.length + b.length ≤ 1000000) (S : MS) : MCalls Try.prog 61 [.lst none 2 (a.map encT), .lst none 2 (b.map encT)] S fun v σ' => v = .int .i64 (cmpF a b) ∧ σ' = S := by
  refine mcalls_body Try.func61 rfl Try.ntmps61 (Nat.le_of_ble_eq_true rfl) ?_
  refine mwp_seq ?_
  refine mwp_region rfl ?_
  refine wOps_op rfl (op_assign rfl rfl ?_)
  refine wOps_nil ?_
  refine mwp_seq ?_
  refine mwp_region rfl ?_
  refine wOps_op rfl (op_move rfl rfl ?_)
  refine wOps_op rfl (op_move rfl rfl ?_)
  refine wOps_op rfl (op_call rfl rfl rfl co74 ((clkJoin_spec a b hab _).mono ?_))
  rintro _ _ ⟨rfl, rfl⟩
  refine wOps_op rfl (op_assign rfl rfl ?_)
  refine wOps_nil ?_
  refine mwp_seq ?_
  refine mwp_block ?_
  refine mwp_seq ?_
  refine mwp_region rfl ?_
  refine wOps_op rfl (op_move rfl rfl ?_)
  refine wOps_op rfl (op_move rfl rfl ?_)
  refine wOps_op rfl (op_call rfl rfl rfl co29 ((clkSame_spec a b _).mono ?_))
  rintro _ _ ⟨rfl, rfl⟩
  refine wOps_op rfl (op_assign rfl rfl ?_)
  refine wOps_nil ?_
  refine mwp_cond_split rfl (fun h9 => ?_) (fun h9 => ?_)
  · -- yes
    refine mwp_seq ?_
    refine mwp_region rfl ?_
    refine wOps_op rfl (op_assign rfl rfl ?_)
    refine wOps_nil ?_
    refine mwp_ret ?_
    exact ret_tmp (.inr rfl) Try.results61 rfl (.of_eq (by unfold cmpF; simp_all)) (.int _ _) ⟨rfl, rfl⟩
  · -- no
    refine mwp_seq ?_
    refine mwp_region rfl ?_
    refine wOps_op rfl (op_move rfl rfl ?_)
    refine wOps_op rfl (op_move rfl rfl ?_)
    refine wOps_op rfl (op_call rfl rfl rfl co29 ((clkSame_spec (joinF a b) b _).mono ?_))
    rintro _ _ ⟨rfl, rfl⟩
    refine wOps_op rfl (op_assign rfl rfl ?_)
    refine wOps_nil ?_
    refine mwp_cond_split rfl (fun h13 => ?_) (fun h13 => ?_)
    · -- yes
      refine mwp_seq ?_
      refine mwp_region rfl ?_
      refine wOps_op rfl (op_assign rfl rfl ?_)
      refine wOps_nil ?_
      refine mwp_ret ?_
      exact ret_tmp (.inr rfl) Try.results61 rfl (.of_eq (by unfold cmpF; simp_all)) (.int _ _) ⟨rfl, rfl⟩
    · -- no
      refine mwp_seq ?_
      refine mwp_region rfl ?_
      refine wOps_op rfl (op_move rfl rfl ?_)
      refine wOps_op rfl (op_move rfl rfl ?_)
      refine wOps_op rfl (op_call rfl rfl rfl co29 ((clkSame_spec (joinF a b) a _).mono ?_))
      rintro _ _ ⟨rfl, rfl⟩
      refine wOps_op rfl (op_assign rfl rfl ?_)
      refine wOps_nil ?_
      refine mwp_cond_split rfl (fun h17 => ?_) (fun h17 => ?_)
      · -- yes
        refine mwp_seq ?_
        refine mwp_region rfl ?_
        refine wOps_op rfl (op_assign rfl rfl ?_)
        refine wOps_nil ?_
        refine mwp_ret ?_
        exact ret_tmp (.inr rfl) Try.results61 rfl (.of_eq (by unfold cmpF; simp_all)) (.int _ _) ⟨rfl, rfl⟩
      · -- no
        refine mwp_skip ?_
        refine mwp_seq ?_
        refine mwp_region rfl ?_
        refine wOps_op rfl (op_assign rfl rfl ?_)
        refine wOps_nil ?_
        refine mwp_ret ?_
        exact ret_tmp (.inr rfl) Try.results61 rfl (.of_eq (by unfold cmpF; simp_all)) (.int _ _) ⟨rfl, rfl⟩
end Go.Proofs.Ytihpnfpdocnniaa
