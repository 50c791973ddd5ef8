/-
  Walks of the reference's clocks (layer 3).
-/
import Derived.Test.YtihpnfpdocnniaaClkA
set_option linter.unusedVariables false
set_option linter.unusedSimpArgs false
set_option maxHeartbeats 400000
namespace Go.Proofs.Ytihpnfpdocnniaa
open Go Go.MV
theorem withF_t (w n : Int) (t : Tk) (c : List Tk) : withF w n true (t :: c) = t :: withF w n true c := by rw [withF]
theorem withF_f (w n : Int) (t : Tk) (c : List Tk) : withF w n false (t :: c) = if w ≤ t.1 then (if t.1 = w then (w, if t.2 > n then t.2 else n) :: withF w n true c else (w, n) :: t :: withF w n true c) else t :: withF w n false c := by rw [withF]
theorem drop_cons {α : Type} {l : List α} {i : Nat} {a : α} (h : l[i]? = some a) : l.drop i = a :: l.drop (i + 1) := by
  obtain ⟨hlt, e⟩ := List.getElem?_eq_some_iff.1 h
  rw [List.drop_eq_getElem_cons hlt, e]


theorem rIsClock_spec (c : List Tk) (S : MS) : MCalls Try.prog 45 [.lst none 2 (c.map encT)] S fun v σ' => v = .bool (isClockF c) ∧ σ' = S := by
  refine mcalls_body Try.func45 rfl Try.ntmps45 (Nat.le_of_ble_eq_true rfl) ?_
  refine mwp_len (t := 0) rfl fun hlen => ?_
  rw [List.length_map] at hlen
  refine mwp_seq ?_
  refine mwp_region rfl ?_
  refine wOps_op rfl (op_assign rfl rfl ?_)
  refine wOps_nil ?_
  refine mwp_seq ?_
  refine mwp_seq ?_
  refine mwp_region rfl ?_
  refine wOps_op rfl (op_assign rfl rfl ?_)
  refine wOps_nil ?_
  refine mwp_block ?_
  refine mwp_loopK (α := Nat) [(0, _)] (fun i => [(3, .int .i64 (i : Int))]) (fun i => []) (fun i => i ≤ c.length ∧ ∀ j, j < i → okAt c j = true) (fun i => c.length - i) (0) (.keep rfl (.nil)) (.keep rfl (.nil)) (⟨by omega, fun j hj => by omega⟩) (rfl) ?_
  rintro i ⟨hi, hall⟩
  refine mwp_seq ?_
  refine mwp_seq ?_
  refine mwp_region rfl ?_
  refine wOps_op rfl (op_move rfl rfl ?_)
  refine wOps_op rfl (op_move rfl rfl ?_)
  refine wOps_op rfl (op_len_lst rfl Try.underlying40 rfl ?_)
  refine wOps_op rfl (op_cmp rfl rfl rfl rfl ?_)
  refine wOps_nil ?_
  refine mwp_cond_split rfl (fun h7 => ?_) (fun h7 => ?_)
  · -- yes
    have hlt : i < c.length := by simpa using h7
    obtain ⟨t, hs⟩ : ∃ q_, c[i]? = some q_ := ⟨_, List.getElem?_eq_getElem hlt⟩
    refine mwp_skip ?_
    refine mwp_seq ?_
    refine mwp_block ?_
    refine mwp_seq ?_
    refine mwp_draw [] [_] mo (by decide) rfl rfl rfl rfl ?_
    refine dOps_op rfl rfl (.cons (op_move rfl rfl ⟨rfl, rfl⟩) .nil) ?_
    refine dOps_op rfl rfl (.cons (op_move rfl rfl ⟨rfl, rfl⟩) .nil) ?_
    refine dOps_op rfl rfl (.cons (op_indexAddr rfl Try.underlying40 sz39 (by decide) rfl rfl rfl (get_map hs) ⟨rfl, rfl⟩) .nil) ?_
    refine dOps_op rfl rfl (.cons (op_fieldAddr_sptr rfl rfl fo39_0 ⟨rfl, rfl⟩) .nil) ?_
    refine dOps_op rfl rfl (.cons (op_load_sptr rfl rfl ta3 rfl ⟨rfl, rfl⟩) .nil) ?_
    refine dOps_op rfl rfl (.cons (op_cmp rfl rfl rfl rfl ⟨rfl, rfl⟩) .nil) ?_
    refine dOps_op rfl rfl (.cons (op_move rfl rfl ⟨rfl, rfl⟩) .nil) ?_
    refine dOps_case (fun h16 => ?_) (fun h16 => ?_)
    ·
      refine dOps_skip rfl rfl ?_
      refine dOps_skip rfl rfl ?_
      refine dOps_skip rfl rfl ?_
      refine dOps_skip rfl rfl ?_
      refine dOps_skip rfl rfl ?_
      refine dOps_skip rfl rfl ?_
      refine dOps_op rfl rfl (.cons (op_pick rfl rfl rfl ⟨rfl, rfl⟩) .nil) ?_
      refine dOps_op rfl rfl (.cons (op_move rfl rfl ⟨rfl, rfl⟩) .nil) ?_
      refine dOps_skip rfl rfl ?_
      refine dOps_skip rfl rfl ?_
      refine dOps_skip rfl rfl ?_
      refine dOps_skip rfl rfl ?_
      refine dOps_skip rfl rfl ?_
      refine dOps_skip rfl rfl ?_
      refine dOps_op rfl rfl (.cons (op_pick rfl rfl rfl ⟨rfl, rfl⟩) .nil) ?_
      refine dOps_op rfl rfl (.cons (op_move rfl rfl ⟨rfl, rfl⟩) .nil) ?_
      refine dOps_skip rfl rfl ?_
      refine dOps_skip rfl rfl ?_
      refine dOps_skip rfl rfl ?_
      refine dOps_skip rfl rfl ?_
      refine dOps_skip rfl rfl ?_
      refine dOps_skip rfl rfl ?_
      refine dOps_skip rfl rfl ?_
      refine dOps_skip rfl rfl ?_
      refine dOps_skip rfl rfl ?_
      refine dOps_skip rfl rfl ?_
      refine dOps_skip rfl rfl ?_
      refine dOps_skip rfl rfl ?_
      refine dOps_skip rfl rfl ?_
      refine dOps_skip rfl rfl ?_
      refine dOps_skip rfl rfl ?_
      refine dOps_skip rfl rfl ?_
      refine dOps_op rfl rfl (.cons (op_pick rfl rfl rfl ⟨rfl, rfl⟩) .nil) ?_
      refine dOps_nil ?_
      refine mwp_cond_t rfl (rfl) ?_
      refine mwp_seq ?_
      refine mwp_region rfl ?_
      refine wOps_op rfl (op_assign rfl rfl ?_)
      refine wOps_nil ?_
      refine mwp_ret ?_
      exact ret_tmp (.inr rfl) Try.results45 rfl (.of_eq (by rw [isClock_false hlt (by simp_all [okAt] <;> omega)])) (.bool _) ⟨rfl, rfl⟩
    ·
      refine dOps_op rfl rfl (.cons (op_move rfl rfl ⟨rfl, rfl⟩) .nil) ?_
      refine dOps_op rfl rfl (.cons (op_move rfl rfl ⟨rfl, rfl⟩) .nil) ?_
      refine dOps_op rfl rfl (.cons (op_indexAddr rfl Try.underlying40 sz39 (by decide) rfl rfl rfl (get_map hs) ⟨rfl, rfl⟩) .nil) ?_
      refine dOps_op rfl rfl (.cons (op_fieldAddr_sptr rfl rfl fo39_0 ⟨rfl, rfl⟩) .nil) ?_
      refine dOps_op rfl rfl (.cons (op_load_sptr rfl rfl ta3 rfl ⟨rfl, rfl⟩) .nil) ?_
      refine dOps_op rfl rfl (.cons (op_cmp rfl rfl rfl rfl ⟨rfl, rfl⟩) .nil) ?_
      refine dOps_op rfl rfl (.cons (op_pick rfl rfl rfl ⟨rfl, rfl⟩) .nil) ?_
      refine dOps_op rfl rfl (.cons (op_move rfl rfl ⟨rfl, rfl⟩) .nil) ?_
      refine dOps_case (fun h24 => ?_) (fun h24 => ?_)
      ·
        refine dOps_skip rfl rfl ?_
        refine dOps_skip rfl rfl ?_
        refine dOps_skip rfl rfl ?_
        refine dOps_skip rfl rfl ?_
        refine dOps_skip rfl rfl ?_
        refine dOps_skip rfl rfl ?_
        refine dOps_op rfl rfl (.cons (op_pick rfl rfl rfl ⟨rfl, rfl⟩) .nil) ?_
        refine dOps_op rfl rfl (.cons (op_move rfl rfl ⟨rfl, rfl⟩) .nil) ?_
        refine dOps_skip rfl rfl ?_
        refine dOps_skip rfl rfl ?_
        refine dOps_skip rfl rfl ?_
        refine dOps_skip rfl rfl ?_
        refine dOps_skip rfl rfl ?_
        refine dOps_skip rfl rfl ?_
        refine dOps_skip rfl rfl ?_
        refine dOps_skip rfl rfl ?_
        refine dOps_skip rfl rfl ?_
        refine dOps_skip rfl rfl ?_
        refine dOps_skip rfl rfl ?_
        refine dOps_skip rfl rfl ?_
        refine dOps_skip rfl rfl ?_
        refine dOps_skip rfl rfl ?_
        refine dOps_skip rfl rfl ?_
        refine dOps_skip rfl rfl ?_
        refine dOps_op rfl rfl (.cons (op_pick rfl rfl rfl ⟨rfl, rfl⟩) .nil) ?_
        refine dOps_nil ?_
        refine mwp_cond_t rfl (rfl) ?_
        refine mwp_seq ?_
        refine mwp_region rfl ?_
        refine wOps_op rfl (op_assign rfl rfl ?_)
        refine wOps_nil ?_
        refine mwp_ret ?_
        exact ret_tmp (.inr rfl) Try.results45 rfl (.of_eq (by rw [isClock_false hlt (by simp_all [okAt] <;> omega)])) (.bool _) ⟨rfl, rfl⟩
      ·
        refine dOps_op rfl rfl (.cons (op_move rfl rfl ⟨rfl, rfl⟩) .nil) ?_
        refine dOps_op rfl rfl (.cons (op_move rfl rfl ⟨rfl, rfl⟩) .nil) ?_
        refine dOps_op rfl rfl (.cons (op_indexAddr rfl Try.underlying40 sz39 (by decide) rfl rfl rfl (get_map hs) ⟨rfl, rfl⟩) .nil) ?_
        refine dOps_op rfl rfl (.cons (op_fieldAddr_sptr rfl rfl fo39_1 ⟨rfl, rfl⟩) .nil) ?_
        refine dOps_op rfl rfl (.cons (op_load_sptr rfl rfl ta25 rfl ⟨rfl, rfl⟩) .nil) ?_
        refine dOps_op rfl rfl (.cons (op_cmp rfl rfl rfl rfl ⟨rfl, rfl⟩) .nil) ?_
        refine dOps_op rfl rfl (.cons (op_pick rfl rfl rfl ⟨rfl, rfl⟩) .nil) ?_
        refine dOps_op rfl rfl (.cons (op_move rfl rfl ⟨rfl, rfl⟩) .nil) ?_
        refine dOps_case (fun h32 => ?_) (fun h32 => ?_)
        ·
          refine dOps_skip rfl rfl ?_
          refine dOps_skip rfl rfl ?_
          refine dOps_skip rfl rfl ?_
          refine dOps_skip rfl rfl ?_
          refine dOps_skip rfl rfl ?_
          refine dOps_skip rfl rfl ?_
          refine dOps_skip rfl rfl ?_
          refine dOps_skip rfl rfl ?_
          refine dOps_skip rfl rfl ?_
          refine dOps_skip rfl rfl ?_
          refine dOps_skip rfl rfl ?_
          refine dOps_skip rfl rfl ?_
          refine dOps_skip rfl rfl ?_
          refine dOps_skip rfl rfl ?_
          refine dOps_skip rfl rfl ?_
          refine dOps_skip rfl rfl ?_
          refine dOps_op rfl rfl (.cons (op_pick rfl rfl rfl ⟨rfl, rfl⟩) .nil) ?_
          refine dOps_nil ?_
          refine mwp_cond_t rfl (rfl) ?_
          refine mwp_seq ?_
          refine mwp_region rfl ?_
          refine wOps_op rfl (op_assign rfl rfl ?_)
          refine wOps_nil ?_
          refine mwp_ret ?_
          exact ret_tmp (.inr rfl) Try.results45 rfl (.of_eq (by rw [isClock_false hlt (by simp_all [okAt] <;> omega)])) (.bool _) ⟨rfl, rfl⟩
        ·
          refine dOps_op rfl rfl (.cons (op_move rfl rfl ⟨rfl, rfl⟩) .nil) ?_
          refine dOps_op rfl rfl (.cons (op_cmp rfl rfl rfl rfl ⟨rfl, rfl⟩) .nil) ?_
          refine dOps_op rfl rfl (.cons (op_move rfl rfl ⟨rfl, rfl⟩) .nil) ?_
          refine dOps_case (fun h35 => ?_) (fun h35 => ?_)
          ·
            have hi0 : 0 < i := by simpa using h35
            obtain ⟨p, hp⟩ : ∃ a, c[i - 1]? = some a := ⟨_, List.getElem?_eq_getElem (by omega)⟩
            refine dOps_op rfl rfl (.cons (op_move rfl rfl ⟨rfl, rfl⟩) .nil) ?_
            refine dOps_op rfl rfl (.cons (op_move rfl rfl ⟨rfl, rfl⟩) .nil) ?_
            refine dOps_op rfl rfl (.cons (op_arith rfl rfl rfl (wsub (a := i) (b := 1) (c := i - 1) (by omega) (by simp only [maxLen] at hlen; omega)) ⟨rfl, rfl⟩) .nil) ?_
            refine dOps_op rfl rfl (.cons (op_indexAddr rfl Try.underlying40 sz39 (by decide) rfl rfl rfl (get_map hp) ⟨rfl, rfl⟩) .nil) ?_
            refine dOps_op rfl rfl (.cons (op_fieldAddr_sptr rfl rfl fo39_0 ⟨rfl, rfl⟩) .nil) ?_
            refine dOps_op rfl rfl (.cons (op_load_sptr rfl rfl ta3 rfl ⟨rfl, rfl⟩) .nil) ?_
            refine dOps_op rfl rfl (.cons (op_move rfl rfl ⟨rfl, rfl⟩) .nil) ?_
            refine dOps_op rfl rfl (.cons (op_move rfl rfl ⟨rfl, rfl⟩) .nil) ?_
            refine dOps_op rfl rfl (.cons (op_indexAddr rfl Try.underlying40 sz39 (by decide) rfl rfl rfl (get_map hs) ⟨rfl, rfl⟩) .nil) ?_
            refine dOps_op rfl rfl (.cons (op_fieldAddr_sptr rfl rfl fo39_0 ⟨rfl, rfl⟩) .nil) ?_
            refine dOps_op rfl rfl (.cons (op_load_sptr rfl rfl ta3 rfl ⟨rfl, rfl⟩) .nil) ?_
            refine dOps_op rfl rfl (.cons (op_cmp rfl rfl rfl rfl ⟨rfl, rfl⟩) .nil) ?_
            refine dOps_op rfl rfl (.cons (op_pick rfl rfl rfl ⟨rfl, rfl⟩) .nil) ?_
            refine dOps_op rfl rfl (.cons (op_pick rfl rfl rfl ⟨rfl, rfl⟩) .nil) ?_
            refine dOps_nil ?_
            refine mwp_cond_split rfl (fun h49 => ?_) (fun h49 => ?_)
            · -- yes
              refine mwp_seq ?_
              refine mwp_region rfl ?_
              refine wOps_op rfl (op_assign rfl rfl ?_)
              refine wOps_nil ?_
              refine mwp_ret ?_
              exact ret_tmp (.inr rfl) Try.results45 rfl (.of_eq (by rw [isClock_false hlt (by simp_all [okAt] <;> omega)])) (.bool _) ⟨rfl, rfl⟩
            · -- no
              refine mwp_skip ?_
              refine mwp_region rfl ?_
              refine wOps_op rfl (op_move rfl rfl ?_)
              refine wOps_op rfl (op_arith rfl rfl rfl rfl ?_)
              refine wOps_op rfl (op_assign rfl rfl ?_)
              refine wOps_nil ?_
              refine ⟨i + 1, by omega, ⟨by omega, fun j hj => ?_⟩, rfl, (.keep rfl (.nil)), (.eq rfl (int_succ hlt hlen) (.nil))⟩
              by_cases e : j = i
              · subst e; simp_all [okAt]
              · exact hall j (by omega)
          ·
            refine dOps_skip rfl rfl ?_
            refine dOps_skip rfl rfl ?_
            refine dOps_skip rfl rfl ?_
            refine dOps_skip rfl rfl ?_
            refine dOps_skip rfl rfl ?_
            refine dOps_skip rfl rfl ?_
            refine dOps_skip rfl rfl ?_
            refine dOps_skip rfl rfl ?_
            refine dOps_skip rfl rfl ?_
            refine dOps_skip rfl rfl ?_
            refine dOps_skip rfl rfl ?_
            refine dOps_skip rfl rfl ?_
            refine dOps_op rfl rfl (.cons (op_pick rfl rfl rfl ⟨rfl, rfl⟩) .nil) ?_
            refine dOps_op rfl rfl (.cons (op_pick rfl rfl rfl ⟨rfl, rfl⟩) .nil) ?_
            refine dOps_nil ?_
            refine mwp_cond_f rfl (rfl) ?_
            refine mwp_skip ?_
            refine mwp_region rfl ?_
            refine wOps_op rfl (op_move rfl rfl ?_)
            refine wOps_op rfl (op_arith rfl rfl rfl rfl ?_)
            refine wOps_op rfl (op_assign rfl rfl ?_)
            refine wOps_nil ?_
            refine ⟨i + 1, by omega, ⟨by omega, fun j hj => ?_⟩, rfl, (.keep rfl (.nil)), (.eq rfl (int_succ hlt hlen) (.nil))⟩
            by_cases e : j = i
            · subst e; simp_all [okAt]
            · exact hall j (by omega)
  · -- no
    have hge : i = c.length := by simp at h7; omega
    refine mwp_exit ?_
    refine mwp_seq ?_
    refine mwp_region rfl ?_
    refine wOps_op rfl (op_move rfl rfl ?_)
    refine wOps_op rfl (op_len_lst rfl Try.underlying40 rfl ?_)
    refine wOps_op rfl (op_cmp rfl rfl rfl rfl ?_)
    refine wOps_op rfl (op_assign rfl rfl ?_)
    refine wOps_nil ?_
    refine mwp_ret ?_
    exact ret_tmp (.inr rfl) Try.results45 rfl (.of_eq (by rw [isClock_end (fun j hj => hall j (by omega)), List.length_map])) (.bool _) ⟨rfl, rfl⟩

theorem rOf_spec (c : List Tk) (w : Int) (S : MS) : MCalls Try.prog 82 [.lst none 2 (c.map encT), .int .i64 w] S fun v σ' => v = .int .u64 (ofF c w) ∧ σ' = S := by
  refine mcalls_body Try.func82 rfl Try.ntmps82 (Nat.le_of_ble_eq_true rfl) ?_
  refine mwp_len (t := 0) rfl fun hlen => ?_
  rw [List.length_map] at hlen
  refine mwp_seq ?_
  refine mwp_region rfl ?_
  refine wOps_op rfl (op_assign rfl rfl ?_)
  refine wOps_nil ?_
  refine mwp_seq ?_
  refine mwp_seq ?_
  refine mwp_region rfl ?_
  refine wOps_op rfl (op_assign rfl rfl ?_)
  refine wOps_nil ?_
  refine mwp_block ?_
  refine mwp_loopK (α := Nat) [(0, _), (1, _)] (fun i => [(5, .int .i64 (i : Int))]) (fun i => []) (fun i => i ≤ c.length ∧ ∀ j, j < i → ∀ t, c[j]? = some t → t.1 ≠ w) (fun i => c.length - i) (0) (.keep rfl (.keep rfl (.nil))) (.keep rfl (.nil)) (⟨by omega, fun j hj => by omega⟩) (rfl) ?_
  rintro i ⟨hi, hall⟩
  refine mwp_seq ?_
  refine mwp_seq ?_
  refine mwp_region rfl ?_
  refine wOps_op rfl (op_move rfl rfl ?_)
  refine wOps_op rfl (op_move rfl rfl ?_)
  refine wOps_op rfl (op_len_lst rfl Try.underlying40 rfl ?_)
  refine wOps_op rfl (op_cmp rfl rfl rfl rfl ?_)
  refine wOps_nil ?_
  refine mwp_cond_split rfl (fun h9 => ?_) (fun h9 => ?_)
  · -- yes
    have hlt : i < c.length := by simpa using h9
    obtain ⟨t, hs⟩ : ∃ q_, c[i]? = some q_ := ⟨_, List.getElem?_eq_getElem hlt⟩
    refine mwp_skip ?_
    refine mwp_seq ?_
    refine mwp_block ?_
    refine mwp_seq ?_
    refine mwp_region rfl ?_
    refine wOps_op rfl (op_move rfl rfl ?_)
    refine wOps_op rfl (op_move rfl rfl ?_)
    refine wOps_op rfl (op_indexAddr rfl Try.underlying40 sz39 (by decide) rfl rfl rfl (get_map hs) ?_)
    refine wOps_op rfl (op_fieldAddr_sptr rfl rfl fo39_0 ?_)
    refine wOps_op rfl (op_load_sptr rfl rfl ta3 rfl ?_)
    refine wOps_op rfl (op_move rfl rfl ?_)
    refine wOps_op rfl (op_cmp rfl rfl rfl rfl ?_)
    refine wOps_nil ?_
    refine mwp_cond_split rfl (fun h18 => ?_) (fun h18 => ?_)
    · -- yes
      refine mwp_seq ?_
      refine mwp_region rfl ?_
      refine wOps_op rfl (op_move rfl rfl ?_)
      refine wOps_op rfl (op_move rfl rfl ?_)
      refine wOps_op rfl (op_indexAddr rfl Try.underlying40 sz39 (by decide) rfl rfl rfl (get_map hs) ?_)
      refine wOps_op rfl (op_fieldAddr_sptr rfl rfl fo39_1 ?_)
      refine wOps_op rfl (op_load_sptr rfl rfl ta25 rfl ?_)
      refine wOps_op rfl (op_assign rfl rfl ?_)
      refine wOps_nil ?_
      refine mwp_ret ?_
      exact ret_tmp (.inr rfl) Try.results82 rfl (.of_eq (by rw [← of_drop hall, drop_cons hs, ofF, if_pos (by simpa using h18)])) (.int _ _) ⟨rfl, rfl⟩
    · -- no
      refine mwp_skip ?_
      refine mwp_region rfl ?_
      refine wOps_op rfl (op_move rfl rfl ?_)
      refine wOps_op rfl (op_arith rfl rfl rfl rfl ?_)
      refine wOps_op rfl (op_assign rfl rfl ?_)
      refine wOps_nil ?_
      refine ⟨i + 1, by omega, ⟨by omega, fun j hj s hj2 => ?_⟩, rfl, (.keep rfl (.keep rfl (.nil))), (.eq rfl (int_succ hlt hlen) (.nil))⟩
      by_cases e : j = i
      · subst e; rw [hs] at hj2; injection hj2 with hj2; subst hj2; simpa using h18
      · exact hall j (by omega) s hj2
  · -- no
    have hge : i = c.length := by simp at h9; omega
    refine mwp_exit ?_
    refine mwp_seq ?_
    refine mwp_region rfl ?_
    refine wOps_op rfl (op_assign rfl rfl ?_)
    refine wOps_nil ?_
    refine mwp_ret ?_
    exact ret_tmp (.inr rfl) Try.results82 rfl (.of_eq (by rw [← of_drop hall, hge, List.drop_length]; rfl)) (.int _ _) ⟨rfl, rfl⟩

theorem rSameC_spec (a b : List Tk) (S : MS) : MCalls Try.prog 25 [.lst none 2 (a.map encT), .lst none 2 (b.map encT)] S fun v σ' => v = .bool (decide (a = b)) ∧ σ' = S := by
  refine mcalls_body Try.func25 rfl Try.ntmps25 (Nat.le_of_ble_eq_true rfl) ?_
  refine mwp_len (t := 0) rfl fun hlen => ?_
  rw [List.length_map] at hlen
  refine mwp_seq ?_
  refine mwp_region rfl ?_
  refine wOps_op rfl (op_assign rfl rfl ?_)
  refine wOps_nil ?_
  refine mwp_seq ?_
  refine mwp_seq ?_
  refine mwp_region rfl ?_
  refine wOps_op rfl (op_move rfl rfl ?_)
  refine wOps_op rfl (op_len_lst rfl Try.underlying40 rfl ?_)
  refine wOps_op rfl (op_move rfl rfl ?_)
  refine wOps_op rfl (op_len_lst rfl Try.underlying40 rfl ?_)
  refine wOps_op rfl (op_cmp rfl rfl rfl rfl ?_)
  refine wOps_nil ?_
  refine mwp_cond_split rfl (fun h10 => ?_) (fun h10 => ?_)
  · -- yes
    refine mwp_seq ?_
    refine mwp_region rfl ?_
    refine wOps_op rfl (op_assign rfl rfl ?_)
    refine wOps_nil ?_
    refine mwp_ret ?_
    exact ret_tmp (.inr rfl) Try.results25 rfl (.of_eq (by congr 1; symm; rw [decide_eq_false_iff_not]; intro e; subst e; simp at h10)) (.bool _) ⟨rfl, rfl⟩
  · -- no
    have hab : a.length = b.length := by simp at h10; omega
    refine mwp_skip ?_
    refine mwp_seq ?_
    refine mwp_seq ?_
    refine mwp_region rfl ?_
    refine wOps_op rfl (op_assign rfl rfl ?_)
    refine wOps_nil ?_
    refine mwp_block ?_
    refine mwp_loopK (α := Nat) [(0, _), (1, _)] (fun i => [(5, .int .i64 (i : Int))]) (fun i => []) (fun i => i ≤ a.length ∧ a.take i = b.take i) (fun i => a.length - i) (0) (.keep rfl (.keep rfl (.nil))) (.keep rfl (.nil)) (⟨by omega, rfl⟩) (rfl) ?_
    rintro i ⟨hi, heq⟩
    refine mwp_seq ?_
    refine mwp_seq ?_
    refine mwp_region rfl ?_
    refine wOps_op rfl (op_move rfl rfl ?_)
    refine wOps_op rfl (op_move rfl rfl ?_)
    refine wOps_op rfl (op_len_lst rfl Try.underlying40 rfl ?_)
    refine wOps_op rfl (op_cmp rfl rfl rfl rfl ?_)
    refine wOps_nil ?_
    refine mwp_cond_split rfl (fun h14 => ?_) (fun h14 => ?_)
    · -- yes
      have hlt : i < a.length := by simpa using h14
      obtain ⟨x, hs⟩ : ∃ q_, a[i]? = some q_ := ⟨_, List.getElem?_eq_getElem hlt⟩
      obtain ⟨y, hs2⟩ : ∃ s, b[i]? = some s := ⟨_, List.getElem?_eq_getElem (by omega)⟩
      refine mwp_skip ?_
      refine mwp_seq ?_
      refine mwp_block ?_
      refine mwp_seq ?_
      refine mwp_draw [] [_] mo (by decide) rfl rfl rfl rfl ?_
      refine dOps_op rfl rfl (.cons (op_move rfl rfl ⟨rfl, rfl⟩) .nil) ?_
      refine dOps_op rfl rfl (.cons (op_move rfl rfl ⟨rfl, rfl⟩) .nil) ?_
      refine dOps_op rfl rfl (.cons (op_indexAddr rfl Try.underlying40 sz39 (by decide) rfl rfl rfl (get_map hs) ⟨rfl, rfl⟩) .nil) ?_
      refine dOps_op rfl rfl (.cons (op_load_sptr rfl rfl ta39 rfl ⟨rfl, rfl⟩) .nil) ?_
      refine dOps_op rfl rfl (.cons (op_move rfl rfl ⟨rfl, rfl⟩) .nil) ?_
      refine dOps_op rfl rfl (.cons (op_move rfl rfl ⟨rfl, rfl⟩) .nil) ?_
      refine dOps_op rfl rfl (.cons (op_indexAddr rfl Try.underlying40 sz39 (by decide) rfl rfl rfl (get_map hs2) ⟨rfl, rfl⟩) .nil) ?_
      refine dOps_op rfl rfl (.cons (op_load_sptr rfl rfl ta39 rfl ⟨rfl, rfl⟩) .nil) ?_
      refine dOps_op rfl rfl (.cons (op_eqstruct rfl (by kernel_rfl) rfl rfl rfl (.inr ⟨rfl, rfl⟩) ⟨rfl, rfl⟩) .nil) ?_
      refine dOps_nil ?_
      refine mwp_cond_split rfl (fun h25 => ?_) (fun h25 => ?_)
      · -- yes
        refine mwp_seq ?_
        refine mwp_region rfl ?_
        refine wOps_op rfl (op_assign rfl rfl ?_)
        refine wOps_nil ?_
        refine mwp_ret ?_
        exact ret_tmp (.inr rfl) Try.results25 rfl (.of_eq (by congr 1; symm; rw [decide_eq_false_iff_not]; intro e; subst e; rw [hs2] at hs; injection hs with hs; subst hs; simp at h25)) (.bool _) ⟨rfl, rfl⟩
      · -- no
        refine mwp_skip ?_
        refine mwp_region rfl ?_
        refine wOps_op rfl (op_move rfl rfl ?_)
        refine wOps_op rfl (op_arith rfl rfl rfl rfl ?_)
        refine wOps_op rfl (op_assign rfl rfl ?_)
        refine wOps_nil ?_
        refine ⟨i + 1, by omega, ⟨by omega, ?_⟩, rfl, (.keep rfl (.keep rfl (.nil))), (.eq rfl (int_succ hlt hlen) (.nil))⟩
        rw [List.take_add_one, List.take_add_one, hs, hs2, heq]
        obtain ⟨x1, x2⟩ := x; obtain ⟨y1, y2⟩ := y
        simp at h25
        rw [h25.1, h25.2]
    · -- no
      have hge : i = a.length := by simp at h14; omega
      refine mwp_exit ?_
      refine mwp_seq ?_
      refine mwp_region rfl ?_
      refine wOps_op rfl (op_assign rfl rfl ?_)
      refine wOps_nil ?_
      refine mwp_ret ?_
      exact ret_tmp (.inr rfl) Try.results25 rfl (.of_eq (by congr 1; symm; rw [decide_eq_true_iff]; rw [hge, List.take_length, hab, List.take_length] at heq; exact heq)) (.bool _) ⟨rfl, rfl⟩

theorem rUnder_spec (a b : List Tk) (S : MS) : MCalls Try.prog 75 [.lst none 2 (a.map encT), .lst none 2 (b.map encT)] S fun v σ' => v = .bool (underF a b) ∧ σ' = S := by
  refine mcalls_body Try.func75 rfl Try.ntmps75 (Nat.le_of_ble_eq_true rfl) ?_
  refine mwp_len (t := 0) rfl fun hlen => ?_
  rw [List.length_map] at hlen
  refine mwp_seq ?_
  refine mwp_region rfl ?_
  refine wOps_op rfl (op_assign rfl rfl ?_)
  refine wOps_nil ?_
  refine mwp_seq ?_
  refine mwp_seq ?_
  refine mwp_region rfl ?_
  refine wOps_op rfl (op_assign rfl rfl ?_)
  refine wOps_nil ?_
  refine mwp_block ?_
  refine mwp_loopK (α := Nat) [(0, _), (1, _)] (fun i => [(5, .int .i64 (i : Int))]) (fun i => []) (fun i => i ≤ a.length ∧ (a.take i).all (fun t => !decide (t.2 > ofF b t.1)) = true) (fun i => a.length - i) (0) (.keep rfl (.keep rfl (.nil))) (.keep rfl (.nil)) (⟨by omega, rfl⟩) (rfl) ?_
  rintro i ⟨hi, hall⟩
  refine mwp_seq ?_
  refine mwp_seq ?_
  refine mwp_region rfl ?_
  refine wOps_op rfl (op_move rfl rfl ?_)
  refine wOps_op rfl (op_move rfl rfl ?_)
  refine wOps_op rfl (op_len_lst rfl Try.underlying40 rfl ?_)
  refine wOps_op rfl (op_cmp rfl rfl rfl rfl ?_)
  refine wOps_nil ?_
  refine mwp_cond_split rfl (fun h9 => ?_) (fun h9 => ?_)
  · -- yes
    have hlt : i < a.length := by simpa using h9
    obtain ⟨t, hs⟩ : ∃ q_, a[i]? = some q_ := ⟨_, List.getElem?_eq_getElem hlt⟩
    refine mwp_skip ?_
    refine mwp_seq ?_
    refine mwp_block ?_
    refine mwp_seq ?_
    refine mwp_draw [] [_] mo (by decide) rfl rfl rfl rfl ?_
    refine dOps_op rfl rfl (.cons (op_move rfl rfl ⟨rfl, rfl⟩) .nil) ?_
    refine dOps_op rfl rfl (.cons (op_move rfl rfl ⟨rfl, rfl⟩) .nil) ?_
    refine dOps_op rfl rfl (.cons (op_indexAddr rfl Try.underlying40 sz39 (by decide) rfl rfl rfl (get_map hs) ⟨rfl, rfl⟩) .nil) ?_
    refine dOps_op rfl rfl (.cons (op_fieldAddr_sptr rfl rfl fo39_1 ⟨rfl, rfl⟩) .nil) ?_
    refine dOps_op rfl rfl (.cons (op_load_sptr rfl rfl ta25 rfl ⟨rfl, rfl⟩) .nil) ?_
    refine dOps_op rfl rfl (.cons (op_move rfl rfl ⟨rfl, rfl⟩) .nil) ?_
    refine dOps_op rfl rfl (.cons (op_move rfl rfl ⟨rfl, rfl⟩) .nil) ?_
    refine dOps_op rfl rfl (.cons (op_move rfl rfl ⟨rfl, rfl⟩) .nil) ?_
    refine dOps_op rfl rfl (.cons (op_indexAddr rfl Try.underlying40 sz39 (by decide) rfl rfl rfl (get_map hs) ⟨rfl, rfl⟩) .nil) ?_
    refine dOps_op rfl rfl (.cons (op_fieldAddr_sptr rfl rfl fo39_0 ⟨rfl, rfl⟩) .nil) ?_
    refine dOps_op rfl rfl (.cons (op_load_sptr rfl rfl ta3 rfl ⟨rfl, rfl⟩) .nil) ?_
    refine dOps_op rfl rfl (.cons (op_call rfl rfl rfl co82 (rOf_spec b t.1 _)) .nil) ?_
    refine dOps_op rfl rfl (.cons (op_cmp rfl rfl rfl rfl ⟨rfl, rfl⟩) .nil) ?_
    refine dOps_nil ?_
    refine mwp_cond_split rfl (fun h24 => ?_) (fun h24 => ?_)
    · -- yes
      refine mwp_seq ?_
      refine mwp_region rfl ?_
      refine wOps_op rfl (op_assign rfl rfl ?_)
      refine wOps_nil ?_
      refine mwp_ret ?_
      exact ret_tmp (.inr rfl) Try.results75 rfl (.of_eq (by unfold underF; rw [List.all_eq_false.2 ⟨t, List.mem_of_getElem? hs, by simpa using h24⟩])) (.bool _) ⟨rfl, rfl⟩
    · -- no
      refine mwp_skip ?_
      refine mwp_region rfl ?_
      refine wOps_op rfl (op_move rfl rfl ?_)
      refine wOps_op rfl (op_arith rfl rfl rfl rfl ?_)
      refine wOps_op rfl (op_assign rfl rfl ?_)
      refine wOps_nil ?_
      refine ⟨i + 1, by omega, ⟨by omega, ?_⟩, rfl, (.keep rfl (.keep rfl (.nil))), (.eq rfl (int_succ hlt hlen) (.nil))⟩
      rw [List.take_add_one, hs, List.all_append, hall]
      simpa using h24
  · -- no
    have hge : i = a.length := by simp at h9; omega
    refine mwp_exit ?_
    refine mwp_seq ?_
    refine mwp_region rfl ?_
    refine wOps_op rfl (op_assign rfl rfl ?_)
    refine wOps_nil ?_
    refine mwp_ret ?_
    exact ret_tmp (.inr rfl) Try.results75 rfl (.of_eq (by rw [hge, List.take_length] at hall; unfold underF; rw [hall])) (.bool _) ⟨rfl, rfl⟩

theorem rCmpC_spec (a b : List Tk) (S : MS) : MCalls Try.prog 65 [.lst none 2 (a.map encT), .lst none 2 (b.map encT)] S fun v σ' => v = .int .i64 (rcmpF a b) ∧ σ' = S := by
  refine mcalls_body Try.func65 rfl Try.ntmps65 (Nat.le_of_ble_eq_true rfl) ?_
  refine mwp_seq ?_
  refine mwp_region rfl ?_
  refine wOps_op rfl (op_assign rfl rfl ?_)
  refine wOps_nil ?_
  refine mwp_seq ?_
  refine mwp_region rfl ?_
  refine wOps_op rfl (op_move rfl rfl ?_)
  refine wOps_op rfl (op_move rfl rfl ?_)
  refine wOps_op rfl (op_call rfl rfl rfl co75 ((rUnder_spec a b _).mono ?_))
  rintro _ _ ⟨rfl, rfl⟩
  refine wOps_op rfl (op_move rfl rfl ?_)
  refine wOps_op rfl (op_move rfl rfl ?_)
  refine wOps_op rfl (op_call rfl rfl rfl co75 ((rUnder_spec b a _).mono ?_))
  rintro _ _ ⟨rfl, rfl⟩
  refine wOps_op rfl (op_assign rfl rfl ?_)
  refine wOps_op rfl (op_assign rfl rfl ?_)
  refine wOps_nil ?_
  refine mwp_seq ?_
  refine mwp_block ?_
  refine mwp_seq ?_
  refine mwp_region rfl ?_
  refine wOps_op rfl (op_move rfl rfl ?_)
  refine wOps_op rfl (op_move rfl rfl ?_)
  refine wOps_case (fun h15 => ?_) (fun h15 => ?_)
  ·
    refine wOps_op rfl (op_move rfl rfl ?_)
    refine wOps_op rfl (op_pick rfl rfl rfl ?_)
    refine wOps_op rfl (op_assign rfl rfl ?_)
    refine wOps_nil ?_
    refine mwp_cond_split rfl (fun h13 => ?_) (fun h13 => ?_)
    · -- yes
      refine mwp_seq ?_
      refine mwp_region rfl ?_
      refine wOps_op rfl (op_assign rfl rfl ?_)
      refine wOps_nil ?_
      refine mwp_ret ?_
      exact ret_tmp (.inr rfl) Try.results65 rfl (.of_eq (by unfold rcmpF; simp_all)) (.int _ _) ⟨rfl, rfl⟩
    · -- no
      refine mwp_seq ?_
      refine mwp_region rfl ?_
      refine wOps_op rfl (op_move rfl rfl ?_)
      refine wOps_op rfl (op_assign rfl rfl ?_)
      refine wOps_nil ?_
      refine mwp_cond_split rfl (fun h18 => ?_) (fun h18 => ?_)
      · -- yes
        refine mwp_seq ?_
        refine mwp_region rfl ?_
        refine wOps_op rfl (op_assign rfl rfl ?_)
        refine wOps_nil ?_
        refine mwp_ret ?_
        exact ret_tmp (.inr rfl) Try.results65 rfl (.of_eq (by unfold rcmpF; simp_all)) (.int _ _) ⟨rfl, rfl⟩
      · -- no
        refine mwp_seq ?_
        refine mwp_region rfl ?_
        refine wOps_op rfl (op_move rfl rfl ?_)
        refine wOps_op rfl (op_assign rfl rfl ?_)
        refine wOps_nil ?_
        refine mwp_cond_split rfl (fun h20 => ?_) (fun h20 => ?_)
        · -- yes
          refine mwp_seq ?_
          refine mwp_region rfl ?_
          refine wOps_op rfl (op_assign rfl rfl ?_)
          refine wOps_nil ?_
          refine mwp_ret ?_
          exact ret_tmp (.inr rfl) Try.results65 rfl (.of_eq (by unfold rcmpF; simp_all)) (.int _ _) ⟨rfl, rfl⟩
        · -- no
          refine mwp_skip ?_
          refine mwp_seq ?_
          refine mwp_region rfl ?_
          refine wOps_op rfl (op_assign rfl rfl ?_)
          refine wOps_nil ?_
          refine mwp_ret ?_
          exact ret_tmp (.inr rfl) Try.results65 rfl (.of_eq (by unfold rcmpF; simp_all)) (.int _ _) ⟨rfl, rfl⟩
  ·
    refine wOps_skip rfl ?_
    refine wOps_op rfl (op_pick rfl rfl rfl ?_)
    refine wOps_op rfl (op_assign rfl rfl ?_)
    refine wOps_nil ?_
    refine mwp_cond_f rfl (rfl) ?_
    refine mwp_seq ?_
    refine mwp_region rfl ?_
    refine wOps_op rfl (op_move rfl rfl ?_)
    refine wOps_op rfl (op_assign rfl rfl ?_)
    refine wOps_nil ?_
    refine mwp_cond_split rfl (fun h18 => ?_) (fun h18 => ?_)
    · -- yes
      refine mwp_seq ?_
      refine mwp_region rfl ?_
      refine wOps_op rfl (op_assign rfl rfl ?_)
      refine wOps_nil ?_
      refine mwp_ret ?_
      exact ret_tmp (.inr rfl) Try.results65 rfl (.of_eq (by unfold rcmpF; simp_all)) (.int _ _) ⟨rfl, rfl⟩
    · -- no
      refine mwp_seq ?_
      refine mwp_region rfl ?_
      refine wOps_op rfl (op_move rfl rfl ?_)
      refine wOps_op rfl (op_assign rfl rfl ?_)
      refine wOps_nil ?_
      refine mwp_cond_split rfl (fun h20 => ?_) (fun h20 => ?_)
      · -- yes
        refine mwp_seq ?_
        refine mwp_region rfl ?_
        refine wOps_op rfl (op_assign rfl rfl ?_)
        refine wOps_nil ?_
        refine mwp_ret ?_
        exact ret_tmp (.inr rfl) Try.results65 rfl (.of_eq (by unfold rcmpF; simp_all)) (.int _ _) ⟨rfl, rfl⟩
      · -- no
        refine mwp_skip ?_
        refine mwp_seq ?_
        refine mwp_region rfl ?_
        refine wOps_op rfl (op_assign rfl rfl ?_)
        refine wOps_nil ?_
        refine mwp_ret ?_
        exact ret_tmp (.inr rfl) Try.results65 rfl (.of_eq (by unfold rcmpF; simp_all)) (.int _ _) ⟨rfl, rfl⟩
end Go.Proofs.Ytihpnfpdocnniaa
