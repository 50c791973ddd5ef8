/-
  Walks of the document's values: siblings, whether one is of a schema (layer 4).
-/
import Derived.Test.YtihpnfpdocnniaaValE
set_option linter.unusedVariables false
set_option linter.unusedSimpArgs false
set_option maxHeartbeats 400000
namespace Go.Proofs.Ytihpnfpdocnniaa
open Go Go.MV
theorem rcmp_eq {a b : List Tk} (ha : isClockF a = true) (hb : isClockF b = true) (ua : ∀ t ∈ a, okTk t) (ub : ∀ t ∈ b, okTk t) : rcmpF a b = cmpF a b := by
  obtain ⟨h1, h2, _⟩ := isClock_spec ha ua
  obtain ⟨h3, h4, _⟩ := isClock_spec hb ub
  exact (cmp_eq h1 h3 h2 h4).symm
theorem getD_of {α : Type} {l : List α} {i : Nat} {a d : α} (h : l[i]? = some a) : l.getD i d = a := by simp [h]
theorem sibAt_of {f : Val → Bool} {c : List (List Tk)} {w : List Val} {i : Nat} {x : List Tk} {y : Val} (hs : c[i]? = some x) (hs2 : w[i]? = some y) : sibAt f c w i = (isClockF x && f y && (i == 0 || aheadF (c.getD (i - 1) []) x) && decide (∀ j, j < i → cmpF (c.getD j []) x = 2)) := by
  unfold sibAt
  rw [getD_of hs, getD_of hs2]
theorem sibs_false {f : Val → Bool} {c : List (List Tk)} {w : List Val} {i : Nat} (hlt : i < c.length) (h : sibAt f c w i = false) : sibsF f c w = false := by
  unfold sibsF
  rw [decide_eq_false (p := ∀ i, i < c.length → sibAt f c w i = true) (fun hall => by rw [hall i hlt] at h; cases h), Bool.and_false]
theorem sibs_long {f : Val → Bool} {c : List (List Tk)} {w : List Val} (h : ¬ c.length ≤ 40) : sibsF f c w = false := by
  unfold sibsF
  rw [decide_eq_false h, Bool.false_and]
theorem sibs_true {f : Val → Bool} {c : List (List Tk)} {w : List Val} (h : c.length ≤ 40) (hall : ∀ i, i < c.length → sibAt f c w i = true) : sibsF f c w = true := by
  unfold sibsF
  rw [decide_eq_true h, decide_eq_true hall]; rfl
theorem sibAt_clock {f : Val → Bool} {c : List (List Tk)} {w : List Val} {i : Nat} {x : List Tk} (hs : c[i]? = some x) (h : sibAt f c w i = true) : isClockF x = true := by
  unfold sibAt at h
  rw [getD_of hs] at h
  simp only [Bool.and_eq_true] at h
  exact h.1.1.1
theorem isRF_mk {ins : List Sch} {n m : Int} {s : List Bs} {c : List (List Tk)} {w : List Val} (k : Int) : isRF (.mk k ins) (.mk n m s c w) = (fitsF k (.mk n m s c w) && risesF s && decide (s.length ≤ 40) &&
  (if k = 4 then w.all (fun x => (isRL ins).headD (fun _ => false) x && !noneF (ins.headD default) x)
   else if k = 5 then (match w with | [x, y] => (isRL ins).headD (fun _ => false) x && (isRL ins).tail.headD (fun _ => false) y | _ => false)
   else if k = 7 then (match c with | [] => true | [c] => isClockF c && decide (0 < c.length) | _ => false)
   else if k = 8 then sibsF ((isRL ins).headD (fun _ => false)) c w else true)) := by rw [isRF]; rfl
theorem fits5 {n m : Int} {s : List Bs} {c : List (List Tk)} {w : List Val} (h : fitsF 5 (.mk n m s c w) = true) : w.length = 2 := by
  rw [fits_mk 5] at h; simp at h; exact h.2
theorem fits7 {n m : Int} {s : List Bs} {c : List (List Tk)} {w : List Val} (h : fitsF 7 (.mk n m s c w) = true) : c.length ≤ 1 := by
  rw [fits_mk 7] at h; simp at h; exact h.2
theorem fits8 {n m : Int} {s : List Bs} {c : List (List Tk)} {w : List Val} (h : fitsF 8 (.mk n m s c w) = true) : c.length = w.length := by
  rw [fits_mk 8] at h; simp at h; exact h.2


theorem sibs_spec (k k1 : Int) (i1 rest : List Sch) (f : Val → Bool) (ih : ∀ x, okV x → ∀ S : MS, MCalls Try.prog 23 [encS (.mk k1 i1), encV x] S fun v σ' => v = .bool (f x) ∧ σ' = S) (n m : Int) (s : List Bs) (c : List (List Tk)) (w : List Val) (hl : c.length = w.length) (hc : ∀ x ∈ c, ∀ t ∈ x, okTk t) (hw : ∀ x ∈ w, okV x) (S : MS) : MCalls Try.prog 46 [encS (.mk k (.mk k1 i1 :: rest)), encV (.mk n m s c w)] S fun v σ' => v = .bool (sibsF f c w) ∧ σ' = S := by
  refine mcalls_body Try.func46 rfl Try.ntmps46 (Nat.le_of_ble_eq_true rfl) ?_
  refine mwp_seq ?_
  refine mwp_region rfl ?_
  refine wOps_op rfl (op_box' rfl rfl rfl rfl ?_)
  refine wOps_op rfl (op_box' rfl rfl rfl rfl ?_)
  refine wOps_op rfl (op_assign rfl rfl ?_)
  refine wOps_nil ?_
  refine mwp_seq ?_
  refine mwp_seq ?_
  refine mwp_region rfl ?_
  refine wOps_op rfl (op_fieldAddr_ref rfl rfl fo30_3 ?_)
  refine wOps_op rfl (op_load' rfl rfl rfl ta27 rfl ?_)
  refine wOps_op rfl (op_len_lst rfl Try.underlying27 rfl ?_)
  refine wOps_op rfl (op_cmp rfl rfl rfl rfl ?_)
  refine wOps_nil ?_
  refine mwp_cond_split rfl (fun h10 => ?_) (fun h10 => ?_)
  · -- yes
    have c40 : ¬ c.length ≤ 40 := by rw [List.length_map] at h10; simp at h10; omega
    refine mwp_seq ?_
    refine mwp_region rfl ?_
    refine wOps_op rfl (op_assign rfl rfl ?_)
    refine wOps_nil ?_
    refine mwp_ret ?_
    exact ret_tmp (.inr rfl) Try.results46 rfl (.of_eq (by rw [sibs_long c40])) (.bool _) ⟨rfl, rfl⟩
  · -- no
    have c40 : c.length ≤ 40 := by rw [List.length_map] at h10; simp at h10; omega
    refine mwp_len (t := 8) rfl fun hlen => ?_
    rw [List.length_map] at hlen
    refine mwp_skip ?_
    refine mwp_seq ?_
    refine mwp_seq ?_
    refine mwp_region rfl ?_
    refine wOps_op rfl (op_assign rfl rfl ?_)
    refine wOps_nil ?_
    refine mwp_block ?_
    refine mwp_loopK (α := Nat) [(2, _), (3, _)] (fun i => [(5, .int .i64 (i : Int))]) (fun i => [.cells (encS (.mk k (.mk k1 i1 :: rest))).cells, .cells (encV (.mk n m s c w)).cells]) (fun i => i ≤ c.length ∧ ∀ j, j < i → sibAt f c w j = true) (fun i => c.length - i) (0) (.keep rfl (.keep rfl (.nil))) (.keep rfl (.nil)) (⟨by omega, fun j hj => by omega⟩) (rfl) ?_
    rintro i ⟨hi, hall⟩
    refine mwp_seq ?_
    refine mwp_seq ?_
    refine mwp_region rfl ?_
    refine wOps_op rfl (op_move rfl rfl ?_)
    refine wOps_op rfl (op_fieldAddr_ref rfl rfl fo30_3 ?_)
    refine wOps_op rfl (op_load' rfl rfl rfl ta27 rfl ?_)
    refine wOps_op rfl (op_len_lst rfl Try.underlying27 rfl ?_)
    refine wOps_op rfl (op_cmp rfl rfl rfl rfl ?_)
    refine wOps_nil ?_
    refine mwp_cond_split rfl (fun h15 => ?_) (fun h15 => ?_)
    · -- yes
      have hlt : i < c.length := by simpa using h15
      obtain ⟨x, hs⟩ : ∃ q_, c[i]? = some q_ := ⟨_, List.getElem?_eq_getElem hlt⟩
      refine mwp_skip ?_
      refine mwp_seq ?_
      refine mwp_block ?_
      refine mwp_seq ?_
      refine mwp_seq ?_
      obtain ⟨⟨n1, m1, s1, c1, w1⟩, hs2⟩ : ∃ q, w[i]? = some q := ⟨_, List.getElem?_eq_getElem (by omega)⟩
      refine mwp_draw [] [_] mo (by decide) rfl rfl rfl rfl ?_
      refine dOps_op rfl rfl (.cons (op_fieldAddr_ref rfl rfl fo30_3 ⟨rfl, rfl⟩) .nil) ?_
      refine dOps_op rfl rfl (.cons (op_load' rfl rfl rfl ta27 rfl ⟨rfl, rfl⟩) .nil) ?_
      refine dOps_op rfl rfl (.cons (op_move rfl rfl ⟨rfl, rfl⟩) .nil) ?_
      refine dOps_op rfl rfl (.cons (op_indexAddr rfl Try.underlying27 sz40 (by decide) rfl rfl rfl (get_map hs) ⟨rfl, rfl⟩) .nil) ?_
      refine dOps_op rfl rfl (.cons (op_load_sptr rfl rfl ta40 rfl ⟨rfl, rfl⟩) .nil) ?_
      refine dOps_op rfl rfl (.cons (op_call rfl rfl rfl co45 (rIsClock_spec x _)) .nil) ?_
      refine dOps_op rfl rfl (.cons (op_not rfl rfl ⟨rfl, rfl⟩) .nil) ?_
      refine dOps_op rfl rfl (.cons (op_move rfl rfl ⟨rfl, rfl⟩) .nil) ?_
      refine dOps_case (fun h25 => ?_) (fun h25 => ?_)
      ·
        refine dOps_skip rfl rfl ?_
        refine dOps_skip rfl rfl ?_
        refine dOps_skip rfl rfl ?_
        refine dOps_skip rfl rfl ?_
        refine dOps_skip rfl rfl ?_
        refine dOps_skip rfl rfl ?_
        refine dOps_skip rfl rfl ?_
        refine dOps_skip rfl rfl ?_
        refine dOps_skip rfl rfl ?_
        refine dOps_skip rfl rfl ?_
        refine dOps_skip rfl rfl ?_
        refine dOps_op rfl rfl (.cons (op_pick rfl rfl rfl ⟨rfl, rfl⟩) .nil) ?_
        refine dOps_op rfl rfl (.cons (op_move rfl rfl ⟨rfl, rfl⟩) .nil) ?_
        refine dOps_skip rfl rfl ?_
        refine dOps_skip rfl rfl ?_
        refine dOps_skip rfl rfl ?_
        refine dOps_skip rfl rfl ?_
        refine dOps_skip rfl rfl ?_
        refine dOps_skip rfl rfl ?_
        refine dOps_skip rfl rfl ?_
        refine dOps_skip rfl rfl ?_
        refine dOps_skip rfl rfl ?_
        refine dOps_skip rfl rfl ?_
        refine dOps_skip rfl rfl ?_
        refine dOps_skip rfl rfl ?_
        refine dOps_skip rfl rfl ?_
        refine dOps_skip rfl rfl ?_
        refine dOps_skip rfl rfl ?_
        refine dOps_skip rfl rfl ?_
        refine dOps_skip rfl rfl ?_
        refine dOps_op rfl rfl (.cons (op_pick rfl rfl rfl ⟨rfl, rfl⟩) .nil) ?_
        refine dOps_nil ?_
        refine mwp_cond_t rfl (rfl) ?_
        refine mwp_seq ?_
        refine mwp_region rfl ?_
        refine wOps_op rfl (op_assign rfl rfl ?_)
        refine wOps_nil ?_
        refine mwp_ret ?_
        exact ret_tmp (.inr rfl) Try.results46 rfl (.of_eq (by rw [sibs_false hlt (by rw [sibAt_of hs hs2]; simp_all <;> omega)])) (.bool _) ⟨rfl, rfl⟩
      ·
        refine dOps_op rfl rfl (.cons (op_fieldAddr_ref rfl rfl fo24_1 ⟨rfl, rfl⟩) .nil) ?_
        refine dOps_op rfl rfl (.cons (op_load' rfl rfl rfl ta22 rfl ⟨rfl, rfl⟩) .nil) ?_
        refine dOps_op rfl rfl (.cons (op_indexAddr rfl Try.underlying22 sz24 (by decide) rfl rfl rfl (show _ = some (encS (.mk k1 i1)) from rfl) ⟨rfl, rfl⟩) .nil) ?_
        refine dOps_op rfl rfl (.cons (op_load_sptr rfl rfl ta24 rfl ⟨rfl, rfl⟩) .nil) ?_
        refine dOps_op rfl rfl (.cons (op_fieldAddr_ref rfl rfl fo30_4 ⟨rfl, rfl⟩) .nil) ?_
        refine dOps_op rfl rfl (.cons (op_load' rfl rfl rfl ta28 rfl ⟨rfl, rfl⟩) .nil) ?_
        refine dOps_op rfl rfl (.cons (op_move rfl rfl ⟨rfl, rfl⟩) .nil) ?_
        refine dOps_op rfl rfl (.cons (op_indexAddr rfl Try.underlying28 sz30 (by decide) rfl rfl rfl (encVs_get hs2) ⟨rfl, rfl⟩) .nil) ?_
        refine dOps_op rfl rfl (.cons (op_load_sptr rfl rfl ta30 rfl ⟨rfl, rfl⟩) .nil) ?_
        refine dOps_op rfl rfl (.cons (op_call rfl rfl rfl co23 (ih (.mk n1 m1 s1 c1 w1) (hw _ (List.mem_of_getElem? hs2)) _)) .nil) ?_
        refine dOps_op rfl rfl (.cons (op_not rfl rfl ⟨rfl, rfl⟩) .nil) ?_
        refine dOps_op rfl rfl (.cons (op_pick rfl rfl rfl ⟨rfl, rfl⟩) .nil) ?_
        refine dOps_op rfl rfl (.cons (op_move rfl rfl ⟨rfl, rfl⟩) .nil) ?_
        refine dOps_case (fun h38 => ?_) (fun h38 => ?_)
        ·
          refine dOps_skip rfl rfl ?_
          refine dOps_skip rfl rfl ?_
          refine dOps_skip rfl rfl ?_
          refine dOps_skip rfl rfl ?_
          refine dOps_skip rfl rfl ?_
          refine dOps_skip rfl rfl ?_
          refine dOps_skip rfl rfl ?_
          refine dOps_skip rfl rfl ?_
          refine dOps_skip rfl rfl ?_
          refine dOps_skip rfl rfl ?_
          refine dOps_skip rfl rfl ?_
          refine dOps_skip rfl rfl ?_
          refine dOps_skip rfl rfl ?_
          refine dOps_skip rfl rfl ?_
          refine dOps_skip rfl rfl ?_
          refine dOps_skip rfl rfl ?_
          refine dOps_skip rfl rfl ?_
          refine dOps_op rfl rfl (.cons (op_pick rfl rfl rfl ⟨rfl, rfl⟩) .nil) ?_
          refine dOps_nil ?_
          refine mwp_cond_t rfl (rfl) ?_
          refine mwp_seq ?_
          refine mwp_region rfl ?_
          refine wOps_op rfl (op_assign rfl rfl ?_)
          refine wOps_nil ?_
          refine mwp_ret ?_
          exact ret_tmp (.inr rfl) Try.results46 rfl (.of_eq (by rw [sibs_false hlt (by rw [sibAt_of hs hs2]; simp_all <;> omega)])) (.bool _) ⟨rfl, rfl⟩
        ·
          refine dOps_op rfl rfl (.cons (op_move rfl rfl ⟨rfl, rfl⟩) .nil) ?_
          refine dOps_op rfl rfl (.cons (op_cmp rfl rfl rfl rfl ⟨rfl, rfl⟩) .nil) ?_
          refine dOps_op rfl rfl (.cons (op_move rfl rfl ⟨rfl, rfl⟩) .nil) ?_
          refine dOps_case (fun h41 => ?_) (fun h41 => ?_)
          ·
            have hi0 : 0 < i := by simpa using h41
            obtain ⟨p, hp⟩ : ∃ q, c[i - 1]? = some q := ⟨_, List.getElem?_eq_getElem (by omega)⟩
            have hgp := getD_of (d := []) hp
            refine dOps_op rfl rfl (.cons (op_fieldAddr_ref rfl rfl fo30_3 ⟨rfl, rfl⟩) .nil) ?_
            refine dOps_op rfl rfl (.cons (op_load' rfl rfl rfl ta27 rfl ⟨rfl, rfl⟩) .nil) ?_
            refine dOps_op rfl rfl (.cons (op_move rfl rfl ⟨rfl, rfl⟩) .nil) ?_
            refine dOps_op rfl rfl (.cons (op_arith rfl rfl rfl (wsub (a := i) (b := 1) (c := i - 1) (by omega) (by simp only [maxLen] at hlen; omega)) ⟨rfl, rfl⟩) .nil) ?_
            refine dOps_op rfl rfl (.cons (op_indexAddr rfl Try.underlying27 sz40 (by decide) rfl rfl rfl (get_map hp) ⟨rfl, rfl⟩) .nil) ?_
            refine dOps_op rfl rfl (.cons (op_load_sptr rfl rfl ta40 rfl ⟨rfl, rfl⟩) .nil) ?_
            refine dOps_op rfl rfl (.cons (op_fieldAddr_ref rfl rfl fo30_3 ⟨rfl, rfl⟩) .nil) ?_
            refine dOps_op rfl rfl (.cons (op_load' rfl rfl rfl ta27 rfl ⟨rfl, rfl⟩) .nil) ?_
            refine dOps_op rfl rfl (.cons (op_move rfl rfl ⟨rfl, rfl⟩) .nil) ?_
            refine dOps_op rfl rfl (.cons (op_indexAddr rfl Try.underlying27 sz40 (by decide) rfl rfl rfl (get_map hs) ⟨rfl, rfl⟩) .nil) ?_
            refine dOps_op rfl rfl (.cons (op_load_sptr rfl rfl ta40 rfl ⟨rfl, rfl⟩) .nil) ?_
            refine dOps_op rfl rfl (.cons (op_call rfl rfl rfl co64 (rAhead_spec p x _)) .nil) ?_
            refine dOps_op rfl rfl (.cons (op_not rfl rfl ⟨rfl, rfl⟩) .nil) ?_
            refine dOps_op rfl rfl (.cons (op_pick rfl rfl rfl ⟨rfl, rfl⟩) .nil) ?_
            refine dOps_op rfl rfl (.cons (op_pick rfl rfl rfl ⟨rfl, rfl⟩) .nil) ?_
            refine dOps_nil ?_
            refine mwp_cond_split rfl (fun h56 => ?_) (fun h56 => ?_)
            · -- yes
              refine mwp_seq ?_
              refine mwp_region rfl ?_
              refine wOps_op rfl (op_assign rfl rfl ?_)
              refine wOps_nil ?_
              refine mwp_ret ?_
              exact ret_tmp (.inr rfl) Try.results46 rfl (.of_eq (by rw [sibs_false hlt (by rw [sibAt_of hs hs2]; simp_all <;> omega)])) (.bool _) ⟨rfl, rfl⟩
            · -- no
              refine mwp_skip ?_
              refine mwp_seq ?_
              refine mwp_region rfl ?_
              refine wOps_op rfl (op_assign rfl rfl ?_)
              refine wOps_nil ?_
              refine mwp_block ?_
              refine mwp_loopK (α := Nat) [(2, _), (3, _), (5, _), (26, _), (27, _), (28, _), (29, _), (30, _), (31, _), (32, _), (33, _), (34, _), (35, _), (36, _), (39, _), (40, _), (41, _), (42, _), (43, _), (44, _), (45, _), (46, _), (47, _), (48, _), (49, _), (50, _), (51, _), (52, _), (53, _), (54, _), (55, _)] (fun q => [(6, .int .i64 (q : Int))]) (fun q => [.cells (encS (.mk k (.mk k1 i1 :: rest))).cells, .cells (encV (.mk n m s c w)).cells]) (fun q => q ≤ i ∧ ∀ j, j < q → cmpF (c.getD j []) x = 2) (fun q => i - q) (0) (.keep rfl (.keep rfl (.keep rfl (.keep rfl (.keep rfl (.keep rfl (.keep rfl (.keep rfl (.keep rfl (.keep rfl (.keep rfl (.keep rfl (.keep rfl (.keep rfl (.keep rfl (.keep rfl (.keep rfl (.keep rfl (.keep rfl (.keep rfl (.keep rfl (.keep rfl (.keep rfl (.keep rfl (.keep rfl (.keep rfl (.keep rfl (.keep rfl (.keep rfl (.keep rfl (.keep rfl (.nil)))))))))))))))))))))))))))))))) (.keep rfl (.nil)) (⟨by omega, fun j hj => by omega⟩) (rfl) ?_
              rintro q ⟨hq, hin⟩
              refine mwp_seq ?_
              refine mwp_seq ?_
              refine mwp_region rfl ?_
              refine wOps_op rfl (op_move rfl rfl ?_)
              refine wOps_op rfl (op_move rfl rfl ?_)
              refine wOps_op rfl (op_cmp rfl rfl rfl rfl ?_)
              refine wOps_nil ?_
              refine mwp_cond_split rfl (fun h59 => ?_) (fun h59 => ?_)
              · -- yes
                have hlt2 : q < i := by simpa using h59
                obtain ⟨z, hz⟩ : ∃ z, c[q]? = some z := ⟨_, List.getElem?_eq_getElem (by omega)⟩
                have hzc := sibAt_clock hz (hall q hlt2)
                have hre := rcmp_eq hzc (show isClockF x = true by simpa using h25) (hc z (List.mem_of_getElem? hz)) (hc x (List.mem_of_getElem? hs))
                refine mwp_skip ?_
                refine mwp_seq ?_
                refine mwp_block ?_
                refine mwp_seq ?_
                refine mwp_draw [] [_] mo (by decide) rfl rfl rfl rfl ?_
                refine dOps_op rfl rfl (.cons (op_fieldAddr_ref rfl rfl fo30_3 ⟨rfl, rfl⟩) .nil) ?_
                refine dOps_op rfl rfl (.cons (op_load' rfl rfl rfl ta27 rfl ⟨rfl, rfl⟩) .nil) ?_
                refine dOps_op rfl rfl (.cons (op_move rfl rfl ⟨rfl, rfl⟩) .nil) ?_
                refine dOps_op rfl rfl (.cons (op_indexAddr rfl Try.underlying27 sz40 (by decide) rfl rfl rfl (get_map hz) ⟨rfl, rfl⟩) .nil) ?_
                refine dOps_op rfl rfl (.cons (op_load_sptr rfl rfl ta40 rfl ⟨rfl, rfl⟩) .nil) ?_
                refine dOps_op rfl rfl (.cons (op_fieldAddr_ref rfl rfl fo30_3 ⟨rfl, rfl⟩) .nil) ?_
                refine dOps_op rfl rfl (.cons (op_load' rfl rfl rfl ta27 rfl ⟨rfl, rfl⟩) .nil) ?_
                refine dOps_op rfl rfl (.cons (op_move rfl rfl ⟨rfl, rfl⟩) .nil) ?_
                refine dOps_op rfl rfl (.cons (op_indexAddr rfl Try.underlying27 sz40 (by decide) rfl rfl rfl (get_map hs) ⟨rfl, rfl⟩) .nil) ?_
                refine dOps_op rfl rfl (.cons (op_load_sptr rfl rfl ta40 rfl ⟨rfl, rfl⟩) .nil) ?_
                refine dOps_op rfl rfl (.cons (op_call rfl rfl rfl co65 (rCmpC_spec z x _)) .nil) ?_
                refine dOps_op rfl rfl (.cons (op_cmp rfl rfl rfl rfl ⟨rfl, rfl⟩) .nil) ?_
                refine dOps_nil ?_
                refine mwp_cond_split rfl (fun h73 => ?_) (fun h73 => ?_)
                · -- yes
                  have hcmp : ¬ cmpF z x = 2 := by rw [hre] at h73; simpa using h73
                  refine mwp_seq ?_
                  refine mwp_region rfl ?_
                  refine wOps_op rfl (op_assign rfl rfl ?_)
                  refine wOps_nil ?_
                  refine mwp_ret ?_
                  exact ret_tmp (.inr rfl) Try.results46 rfl (.of_eq (by rw [sibs_false hlt (by rw [sibAt_of hs hs2, decide_eq_false (fun hn => hcmp (by have := hn q hlt2; rwa [getD_of hz] at this)), Bool.and_false])])) (.bool _) ⟨rfl, rfl⟩
                · -- no
                  have hcmp : cmpF z x = 2 := by rw [hre] at h73; simpa using h73
                  refine mwp_skip ?_
                  refine mwp_region rfl ?_
                  refine wOps_op rfl (op_move rfl rfl ?_)
                  refine wOps_op rfl (op_arith rfl rfl rfl rfl ?_)
                  refine wOps_op rfl (op_assign rfl rfl ?_)
                  refine wOps_nil ?_
                  refine ⟨q + 1, by omega, ⟨by omega, fun j hj => ?_⟩, rfl, (.keep rfl (.keep rfl (.keep rfl (.keep rfl (.keep rfl (.keep rfl (.keep rfl (.keep rfl (.keep rfl (.keep rfl (.keep rfl (.keep rfl (.keep rfl (.keep rfl (.keep rfl (.keep rfl (.keep rfl (.keep rfl (.keep rfl (.keep rfl (.keep rfl (.keep rfl (.keep rfl (.keep rfl (.keep rfl (.keep rfl (.keep rfl (.keep rfl (.keep rfl (.keep rfl (.keep rfl (.nil)))))))))))))))))))))))))))))))), (.eq rfl (int_succ (show q < c.length by omega) hlen) (.nil))⟩
                  by_cases e : j = q
                  · subst e; rw [getD_of hz]; exact hcmp
                  · exact hin j (by omega)
              · -- no
                have hge2 : q = i := by simp at h59; omega
                refine mwp_exit ?_
                refine mwp_region rfl ?_
                refine wOps_op rfl (op_move rfl rfl ?_)
                refine wOps_op rfl (op_arith rfl rfl rfl rfl ?_)
                refine wOps_op rfl (op_assign rfl rfl ?_)
                refine wOps_nil ?_
                refine ⟨i + 1, by omega, ⟨by omega, fun j hj => ?_⟩, rfl, (.keep rfl (.keep rfl (.nil))), (.eq rfl (int_succ hlt hlen) (.nil))⟩
                by_cases e : j = i
                · subst e
                  rw [sibAt_of hs hs2, show isClockF x = true by simpa using h25, show f _ = true by simpa using h38, decide_eq_true (fun q hq => hin q (by omega))]
                  simp_all
                · exact hall j (by omega)
          ·
            have hi0 : i = 0 := by simp at h41; omega
            refine dOps_skip rfl rfl ?_
            refine dOps_skip rfl rfl ?_
            refine dOps_skip rfl rfl ?_
            refine dOps_skip rfl rfl ?_
            refine dOps_skip rfl rfl ?_
            refine dOps_skip rfl rfl ?_
            refine dOps_skip rfl rfl ?_
            refine dOps_skip rfl rfl ?_
            refine dOps_skip rfl rfl ?_
            refine dOps_skip rfl rfl ?_
            refine dOps_skip rfl rfl ?_
            refine dOps_skip rfl rfl ?_
            refine dOps_skip rfl rfl ?_
            refine dOps_op rfl rfl (.cons (op_pick rfl rfl rfl ⟨rfl, rfl⟩) .nil) ?_
            refine dOps_op rfl rfl (.cons (op_pick rfl rfl rfl ⟨rfl, rfl⟩) .nil) ?_
            refine dOps_nil ?_
            refine mwp_cond_f rfl (rfl) ?_
            refine mwp_skip ?_
            refine mwp_seq ?_
            refine mwp_region rfl ?_
            refine wOps_op rfl (op_assign rfl rfl ?_)
            refine wOps_nil ?_
            refine mwp_block ?_
            refine mwp_loopK (α := Nat) [(2, _), (3, _), (5, _), (26, _), (27, _), (28, _), (29, _), (30, _), (31, _), (32, _), (33, _), (34, _), (35, _), (36, _), (39, _), (40, _), (41, _), (42, _), (43, _), (44, _), (45, _), (46, _), (47, _), (48, _), (49, _), (50, _), (51, _), (52, _), (53, _), (54, _), (55, _)] (fun q => [(6, .int .i64 (q : Int))]) (fun q => [.cells (encS (.mk k (.mk k1 i1 :: rest))).cells, .cells (encV (.mk n m s c w)).cells]) (fun q => q ≤ i ∧ ∀ j, j < q → cmpF (c.getD j []) x = 2) (fun q => i - q) (0) (.keep rfl (.keep rfl (.keep rfl (.keep rfl (.keep rfl (.keep rfl (.keep rfl (.keep rfl (.keep rfl (.keep rfl (.keep rfl (.keep rfl (.keep rfl (.keep rfl (.keep rfl (.keep rfl (.keep rfl (.keep rfl (.keep rfl (.keep rfl (.keep rfl (.keep rfl (.keep rfl (.keep rfl (.keep rfl (.keep rfl (.keep rfl (.keep rfl (.keep rfl (.keep rfl (.keep rfl (.nil)))))))))))))))))))))))))))))))) (.keep rfl (.nil)) (⟨by omega, fun j hj => by omega⟩) (rfl) ?_
            rintro q ⟨hq, hin⟩
            refine mwp_seq ?_
            refine mwp_seq ?_
            refine mwp_region rfl ?_
            refine wOps_op rfl (op_move rfl rfl ?_)
            refine wOps_op rfl (op_move rfl rfl ?_)
            refine wOps_op rfl (op_cmp rfl rfl rfl rfl ?_)
            refine wOps_nil ?_
            refine mwp_cond_split rfl (fun h59 => ?_) (fun h59 => ?_)
            · -- yes
              have hlt2 : q < i := by simpa using h59
              obtain ⟨z, hz⟩ : ∃ z, c[q]? = some z := ⟨_, List.getElem?_eq_getElem (by omega)⟩
              have hzc := sibAt_clock hz (hall q hlt2)
              have hre := rcmp_eq hzc (show isClockF x = true by simpa using h25) (hc z (List.mem_of_getElem? hz)) (hc x (List.mem_of_getElem? hs))
              refine mwp_skip ?_
              refine mwp_seq ?_
              refine mwp_block ?_
              refine mwp_seq ?_
              refine mwp_draw [] [_] mo (by decide) rfl rfl rfl rfl ?_
              refine dOps_op rfl rfl (.cons (op_fieldAddr_ref rfl rfl fo30_3 ⟨rfl, rfl⟩) .nil) ?_
              refine dOps_op rfl rfl (.cons (op_load' rfl rfl rfl ta27 rfl ⟨rfl, rfl⟩) .nil) ?_
              refine dOps_op rfl rfl (.cons (op_move rfl rfl ⟨rfl, rfl⟩) .nil) ?_
              refine dOps_op rfl rfl (.cons (op_indexAddr rfl Try.underlying27 sz40 (by decide) rfl rfl rfl (get_map hz) ⟨rfl, rfl⟩) .nil) ?_
              refine dOps_op rfl rfl (.cons (op_load_sptr rfl rfl ta40 rfl ⟨rfl, rfl⟩) .nil) ?_
              refine dOps_op rfl rfl (.cons (op_fieldAddr_ref rfl rfl fo30_3 ⟨rfl, rfl⟩) .nil) ?_
              refine dOps_op rfl rfl (.cons (op_load' rfl rfl rfl ta27 rfl ⟨rfl, rfl⟩) .nil) ?_
              refine dOps_op rfl rfl (.cons (op_move rfl rfl ⟨rfl, rfl⟩) .nil) ?_
              refine dOps_op rfl rfl (.cons (op_indexAddr rfl Try.underlying27 sz40 (by decide) rfl rfl rfl (get_map hs) ⟨rfl, rfl⟩) .nil) ?_
              refine dOps_op rfl rfl (.cons (op_load_sptr rfl rfl ta40 rfl ⟨rfl, rfl⟩) .nil) ?_
              refine dOps_op rfl rfl (.cons (op_call rfl rfl rfl co65 (rCmpC_spec z x _)) .nil) ?_
              refine dOps_op rfl rfl (.cons (op_cmp rfl rfl rfl rfl ⟨rfl, rfl⟩) .nil) ?_
              refine dOps_nil ?_
              refine mwp_cond_split rfl (fun h73 => ?_) (fun h73 => ?_)
              · -- yes
                have hcmp : ¬ cmpF z x = 2 := by rw [hre] at h73; simpa using h73
                refine mwp_seq ?_
                refine mwp_region rfl ?_
                refine wOps_op rfl (op_assign rfl rfl ?_)
                refine wOps_nil ?_
                refine mwp_ret ?_
                exact ret_tmp (.inr rfl) Try.results46 rfl (.of_eq (by rw [sibs_false hlt (by rw [sibAt_of hs hs2, decide_eq_false (fun hn => hcmp (by have := hn q hlt2; rwa [getD_of hz] at this)), Bool.and_false])])) (.bool _) ⟨rfl, rfl⟩
              · -- no
                have hcmp : cmpF z x = 2 := by rw [hre] at h73; simpa using h73
                refine mwp_skip ?_
                refine mwp_region rfl ?_
                refine wOps_op rfl (op_move rfl rfl ?_)
                refine wOps_op rfl (op_arith rfl rfl rfl rfl ?_)
                refine wOps_op rfl (op_assign rfl rfl ?_)
                refine wOps_nil ?_
                refine ⟨q + 1, by omega, ⟨by omega, fun j hj => ?_⟩, rfl, (.keep rfl (.keep rfl (.keep rfl (.keep rfl (.keep rfl (.keep rfl (.keep rfl (.keep rfl (.keep rfl (.keep rfl (.keep rfl (.keep rfl (.keep rfl (.keep rfl (.keep rfl (.keep rfl (.keep rfl (.keep rfl (.keep rfl (.keep rfl (.keep rfl (.keep rfl (.keep rfl (.keep rfl (.keep rfl (.keep rfl (.keep rfl (.keep rfl (.keep rfl (.keep rfl (.keep rfl (.nil)))))))))))))))))))))))))))))))), (.eq rfl (int_succ (show q < c.length by omega) hlen) (.nil))⟩
                by_cases e : j = q
                · subst e; rw [getD_of hz]; exact hcmp
                · exact hin j (by omega)
            · -- no
              have hge2 : q = i := by simp at h59; omega
              refine mwp_exit ?_
              refine mwp_region rfl ?_
              refine wOps_op rfl (op_move rfl rfl ?_)
              refine wOps_op rfl (op_arith rfl rfl rfl rfl ?_)
              refine wOps_op rfl (op_assign rfl rfl ?_)
              refine wOps_nil ?_
              refine ⟨i + 1, by omega, ⟨by omega, fun j hj => ?_⟩, rfl, (.keep rfl (.keep rfl (.nil))), (.eq rfl (int_succ hlt hlen) (.nil))⟩
              by_cases e : j = i
              · subst e
                rw [sibAt_of hs hs2, show isClockF x = true by simpa using h25, show f _ = true by simpa using h38, decide_eq_true (fun q hq => hin q (by omega))]
                simp_all
              · exact hall j (by omega)
    · -- no
      have hge : i = c.length := by simp at h15; omega
      refine mwp_exit ?_
      refine mwp_seq ?_
      refine mwp_region rfl ?_
      refine wOps_op rfl (op_assign rfl rfl ?_)
      refine wOps_nil ?_
      refine mwp_ret ?_
      exact ret_tmp (.inr rfl) Try.results46 rfl (.of_eq (by rw [sibs_true c40 (fun j hj => hall j (by omega))])) (.bool _) ⟨rfl, rfl⟩

theorem isR_spec (d : Nat) : ∀ (s : Sch), isF d s = true → ∀ x : Val, okV x → ∀ S : MS, MCalls Try.prog 23 [encS s, encV x] S fun v σ' => v = .bool (isRF s x) ∧ σ' = S := by
  induction d with
  | zero => intro s h; simp [isF] at h
  | succ d ih =>
  rintro ⟨k, ins⟩ hd ⟨n, m, s, c, w⟩ hv S
  rw [isF] at hd
  simp only [Bool.and_eq_true, List.all_eq_true, beq_iff_eq] at hd
  simp only [okV] at hv
  have hvs := okVs_iff.1 hv.2.2.2
  rcases k8_of hd.1 with rfl | rfl | rfl | rfl | rfl | rfl | rfl | rfl
  ·
    refine mcalls_body Try.func23 rfl Try.ntmps23 (Nat.le_of_ble_eq_true rfl) ?_
    refine mwp_seq ?_
    refine mwp_region rfl ?_
    refine wOps_op rfl (op_box' rfl rfl rfl rfl ?_)
    refine wOps_op rfl (op_box' rfl rfl rfl rfl ?_)
    refine wOps_op rfl (op_assign rfl rfl ?_)
    refine wOps_nil ?_
    refine mwp_seq ?_
    refine mwp_seq ?_
    refine mwp_region rfl ?_
    refine wOps_op rfl (op_load' rfl rfl rfl ta24 rfl ?_)
    refine wOps_op rfl (op_load' rfl rfl rfl ta30 rfl ?_)
    refine wOps_op rfl (op_call rfl rfl rfl co43 ((fits_spec 1 _ (by omega) n m s c w _).mono ?_))
    rintro _ _ ⟨rfl, rfl⟩
    refine wOps_op rfl (op_not rfl rfl ?_)
    refine wOps_op rfl (op_move rfl rfl ?_)
    refine wOps_case (fun h10 => ?_) (fun h10 => ?_)
    ·
      refine wOps_skip rfl ?_
      refine wOps_skip rfl ?_
      refine wOps_skip rfl ?_
      refine wOps_skip rfl ?_
      refine wOps_op rfl (op_pick rfl rfl rfl ?_)
      refine wOps_op rfl (op_move rfl rfl ?_)
      refine wOps_skip rfl ?_
      refine wOps_skip rfl ?_
      refine wOps_skip rfl ?_
      refine wOps_skip rfl ?_
      refine wOps_op rfl (op_pick rfl rfl rfl ?_)
      refine wOps_nil ?_
      refine mwp_cond_t rfl (rfl) ?_
      refine mwp_seq ?_
      refine mwp_region rfl ?_
      refine wOps_op rfl (op_assign rfl rfl ?_)
      refine wOps_nil ?_
      refine mwp_ret ?_
      exact ret_tmp (.inr rfl) Try.results23 rfl (.of_eq (by rw [isRF_mk 1]; congr 1; symm; first | (rw [show fitsF 1 _ = false by simpa using h10]; rfl) | (rw [show risesF s = false by simpa using h16]; simp; done) | (rw [s40f]; simp; done))) (.bool _) ⟨rfl, rfl⟩
    ·
      refine wOps_op rfl (op_fieldAddr_ref rfl rfl fo30_2 ?_)
      refine wOps_op rfl (op_load' rfl rfl rfl ta26 rfl ?_)
      refine wOps_op rfl (op_call rfl rfl rfl co44 ((rRises_spec s _).mono ?_))
      rintro _ _ ⟨rfl, rfl⟩
      refine wOps_op rfl (op_not rfl rfl ?_)
      refine wOps_op rfl (op_pick rfl rfl rfl ?_)
      refine wOps_op rfl (op_move rfl rfl ?_)
      refine wOps_case (fun h16 => ?_) (fun h16 => ?_)
      ·
        refine wOps_skip rfl ?_
        refine wOps_skip rfl ?_
        refine wOps_skip rfl ?_
        refine wOps_skip rfl ?_
        refine wOps_op rfl (op_pick rfl rfl rfl ?_)
        refine wOps_nil ?_
        refine mwp_cond_t rfl (rfl) ?_
        refine mwp_seq ?_
        refine mwp_region rfl ?_
        refine wOps_op rfl (op_assign rfl rfl ?_)
        refine wOps_nil ?_
        refine mwp_ret ?_
        exact ret_tmp (.inr rfl) Try.results23 rfl (.of_eq (by rw [isRF_mk 1]; congr 1; symm; first | (rw [show fitsF 1 _ = false by simpa using h10]; rfl) | (rw [show risesF s = false by simpa using h16]; simp; done) | (rw [s40f]; simp; done))) (.bool _) ⟨rfl, rfl⟩
      ·
        refine wOps_op rfl (op_fieldAddr_ref rfl rfl fo30_2 ?_)
        refine wOps_op rfl (op_load' rfl rfl rfl ta26 rfl ?_)
        refine wOps_op rfl (op_len_lst rfl Try.underlying26 rfl ?_)
        refine wOps_op rfl (op_cmp rfl rfl rfl rfl ?_)
        refine wOps_op rfl (op_pick rfl rfl rfl ?_)
        refine wOps_nil ?_
        refine mwp_cond_split rfl (fun h21 => ?_) (fun h21 => ?_)
        · -- yes
          have s40f := decide_eq_false (by rw [List.length_map] at h21; simp at h21; omega : ¬ s.length ≤ 40)
          refine mwp_seq ?_
          refine mwp_region rfl ?_
          refine wOps_op rfl (op_assign rfl rfl ?_)
          refine wOps_nil ?_
          refine mwp_ret ?_
          exact ret_tmp (.inr rfl) Try.results23 rfl (.of_eq (by rw [isRF_mk 1]; congr 1; symm; first | (rw [show fitsF 1 _ = false by simpa using h10]; rfl) | (rw [show risesF s = false by simpa using h16]; simp; done) | (rw [s40f]; simp; done))) (.bool _) ⟨rfl, rfl⟩
        · -- no
          have s40t := decide_eq_true (by rw [List.length_map] at h21; simp at h21; omega : s.length ≤ 40)
          have hfit : fitsF 1 (.mk n m s c w) = true := by simpa using h10
          have hris : risesF s = true := by simpa using h16
          refine mwp_skip ?_
          refine mwp_seq ?_
          refine mwp_seq ?_
          refine mwp_region rfl ?_
          refine wOps_op rfl (op_fieldAddr_ref rfl rfl fo24_0 ?_)
          refine wOps_op rfl (op_load' rfl rfl rfl ta3 rfl ?_)
          refine wOps_nil ?_
          refine mwp_block ?_
          refine mwp_seq ?_
          refine mwp_region rfl ?_
          refine wOps_op rfl (op_cmp rfl rfl rfl rfl ?_)
          refine wOps_op rfl (op_assign rfl rfl ?_)
          refine wOps_nil ?_
          refine mwp_cond_f rfl (rfl) ?_
          refine mwp_seq ?_
          refine mwp_region rfl ?_
          refine wOps_op rfl (op_cmp rfl rfl rfl rfl ?_)
          refine wOps_op rfl (op_assign rfl rfl ?_)
          refine wOps_nil ?_
          refine mwp_cond_f rfl (rfl) ?_
          refine mwp_seq ?_
          refine mwp_region rfl ?_
          refine wOps_op rfl (op_cmp rfl rfl rfl rfl ?_)
          refine wOps_op rfl (op_assign rfl rfl ?_)
          refine wOps_nil ?_
          refine mwp_cond_f rfl (rfl) ?_
          refine mwp_seq ?_
          refine mwp_region rfl ?_
          refine wOps_op rfl (op_cmp rfl rfl rfl rfl ?_)
          refine wOps_op rfl (op_assign rfl rfl ?_)
          refine wOps_nil ?_
          refine mwp_cond_f rfl (rfl) ?_
          refine mwp_skip ?_
          refine mwp_seq ?_
          refine mwp_region rfl ?_
          refine wOps_op rfl (op_assign rfl rfl ?_)
          refine wOps_nil ?_
          refine mwp_ret ?_
          exact ret_tmp (.inr rfl) Try.results23 rfl (.of_eq (by rw [isRF_mk 1]; rw [hfit, hris, s40t]; simp only [Bool.true_and, isRL, List.headD_cons, List.tail_cons]; rfl)) (.bool _) ⟨rfl, rfl⟩
  ·
    refine mcalls_body Try.func23 rfl Try.ntmps23 (Nat.le_of_ble_eq_true rfl) ?_
    refine mwp_seq ?_
    refine mwp_region rfl ?_
    refine wOps_op rfl (op_box' rfl rfl rfl rfl ?_)
    refine wOps_op rfl (op_box' rfl rfl rfl rfl ?_)
    refine wOps_op rfl (op_assign rfl rfl ?_)
    refine wOps_nil ?_
    refine mwp_seq ?_
    refine mwp_seq ?_
    refine mwp_region rfl ?_
    refine wOps_op rfl (op_load' rfl rfl rfl ta24 rfl ?_)
    refine wOps_op rfl (op_load' rfl rfl rfl ta30 rfl ?_)
    refine wOps_op rfl (op_call rfl rfl rfl co43 ((fits_spec 2 _ (by omega) n m s c w _).mono ?_))
    rintro _ _ ⟨rfl, rfl⟩
    refine wOps_op rfl (op_not rfl rfl ?_)
    refine wOps_op rfl (op_move rfl rfl ?_)
    refine wOps_case (fun h10 => ?_) (fun h10 => ?_)
    ·
      refine wOps_skip rfl ?_
      refine wOps_skip rfl ?_
      refine wOps_skip rfl ?_
      refine wOps_skip rfl ?_
      refine wOps_op rfl (op_pick rfl rfl rfl ?_)
      refine wOps_op rfl (op_move rfl rfl ?_)
      refine wOps_skip rfl ?_
      refine wOps_skip rfl ?_
      refine wOps_skip rfl ?_
      refine wOps_skip rfl ?_
      refine wOps_op rfl (op_pick rfl rfl rfl ?_)
      refine wOps_nil ?_
      refine mwp_cond_t rfl (rfl) ?_
      refine mwp_seq ?_
      refine mwp_region rfl ?_
      refine wOps_op rfl (op_assign rfl rfl ?_)
      refine wOps_nil ?_
      refine mwp_ret ?_
      exact ret_tmp (.inr rfl) Try.results23 rfl (.of_eq (by rw [isRF_mk 2]; congr 1; symm; first | (rw [show fitsF 2 _ = false by simpa using h10]; rfl) | (rw [show risesF s = false by simpa using h16]; simp; done) | (rw [s40f]; simp; done))) (.bool _) ⟨rfl, rfl⟩
    ·
      refine wOps_op rfl (op_fieldAddr_ref rfl rfl fo30_2 ?_)
      refine wOps_op rfl (op_load' rfl rfl rfl ta26 rfl ?_)
      refine wOps_op rfl (op_call rfl rfl rfl co44 ((rRises_spec s _).mono ?_))
      rintro _ _ ⟨rfl, rfl⟩
      refine wOps_op rfl (op_not rfl rfl ?_)
      refine wOps_op rfl (op_pick rfl rfl rfl ?_)
      refine wOps_op rfl (op_move rfl rfl ?_)
      refine wOps_case (fun h16 => ?_) (fun h16 => ?_)
      ·
        refine wOps_skip rfl ?_
        refine wOps_skip rfl ?_
        refine wOps_skip rfl ?_
        refine wOps_skip rfl ?_
        refine wOps_op rfl (op_pick rfl rfl rfl ?_)
        refine wOps_nil ?_
        refine mwp_cond_t rfl (rfl) ?_
        refine mwp_seq ?_
        refine mwp_region rfl ?_
        refine wOps_op rfl (op_assign rfl rfl ?_)
        refine wOps_nil ?_
        refine mwp_ret ?_
        exact ret_tmp (.inr rfl) Try.results23 rfl (.of_eq (by rw [isRF_mk 2]; congr 1; symm; first | (rw [show fitsF 2 _ = false by simpa using h10]; rfl) | (rw [show risesF s = false by simpa using h16]; simp; done) | (rw [s40f]; simp; done))) (.bool _) ⟨rfl, rfl⟩
      ·
        refine wOps_op rfl (op_fieldAddr_ref rfl rfl fo30_2 ?_)
        refine wOps_op rfl (op_load' rfl rfl rfl ta26 rfl ?_)
        refine wOps_op rfl (op_len_lst rfl Try.underlying26 rfl ?_)
        refine wOps_op rfl (op_cmp rfl rfl rfl rfl ?_)
        refine wOps_op rfl (op_pick rfl rfl rfl ?_)
        refine wOps_nil ?_
        refine mwp_cond_split rfl (fun h21 => ?_) (fun h21 => ?_)
        · -- yes
          have s40f := decide_eq_false (by rw [List.length_map] at h21; simp at h21; omega : ¬ s.length ≤ 40)
          refine mwp_seq ?_
          refine mwp_region rfl ?_
          refine wOps_op rfl (op_assign rfl rfl ?_)
          refine wOps_nil ?_
          refine mwp_ret ?_
          exact ret_tmp (.inr rfl) Try.results23 rfl (.of_eq (by rw [isRF_mk 2]; congr 1; symm; first | (rw [show fitsF 2 _ = false by simpa using h10]; rfl) | (rw [show risesF s = false by simpa using h16]; simp; done) | (rw [s40f]; simp; done))) (.bool _) ⟨rfl, rfl⟩
        · -- no
          have s40t := decide_eq_true (by rw [List.length_map] at h21; simp at h21; omega : s.length ≤ 40)
          have hfit : fitsF 2 (.mk n m s c w) = true := by simpa using h10
          have hris : risesF s = true := by simpa using h16
          refine mwp_skip ?_
          refine mwp_seq ?_
          refine mwp_seq ?_
          refine mwp_region rfl ?_
          refine wOps_op rfl (op_fieldAddr_ref rfl rfl fo24_0 ?_)
          refine wOps_op rfl (op_load' rfl rfl rfl ta3 rfl ?_)
          refine wOps_nil ?_
          refine mwp_block ?_
          refine mwp_seq ?_
          refine mwp_region rfl ?_
          refine wOps_op rfl (op_cmp rfl rfl rfl rfl ?_)
          refine wOps_op rfl (op_assign rfl rfl ?_)
          refine wOps_nil ?_
          refine mwp_cond_f rfl (rfl) ?_
          refine mwp_seq ?_
          refine mwp_region rfl ?_
          refine wOps_op rfl (op_cmp rfl rfl rfl rfl ?_)
          refine wOps_op rfl (op_assign rfl rfl ?_)
          refine wOps_nil ?_
          refine mwp_cond_f rfl (rfl) ?_
          refine mwp_seq ?_
          refine mwp_region rfl ?_
          refine wOps_op rfl (op_cmp rfl rfl rfl rfl ?_)
          refine wOps_op rfl (op_assign rfl rfl ?_)
          refine wOps_nil ?_
          refine mwp_cond_f rfl (rfl) ?_
          refine mwp_seq ?_
          refine mwp_region rfl ?_
          refine wOps_op rfl (op_cmp rfl rfl rfl rfl ?_)
          refine wOps_op rfl (op_assign rfl rfl ?_)
          refine wOps_nil ?_
          refine mwp_cond_f rfl (rfl) ?_
          refine mwp_skip ?_
          refine mwp_seq ?_
          refine mwp_region rfl ?_
          refine wOps_op rfl (op_assign rfl rfl ?_)
          refine wOps_nil ?_
          refine mwp_ret ?_
          exact ret_tmp (.inr rfl) Try.results23 rfl (.of_eq (by rw [isRF_mk 2]; rw [hfit, hris, s40t]; simp only [Bool.true_and, isRL, List.headD_cons, List.tail_cons]; rfl)) (.bool _) ⟨rfl, rfl⟩
  ·
    refine mcalls_body Try.func23 rfl Try.ntmps23 (Nat.le_of_ble_eq_true rfl) ?_
    refine mwp_seq ?_
    refine mwp_region rfl ?_
    refine wOps_op rfl (op_box' rfl rfl rfl rfl ?_)
    refine wOps_op rfl (op_box' rfl rfl rfl rfl ?_)
    refine wOps_op rfl (op_assign rfl rfl ?_)
    refine wOps_nil ?_
    refine mwp_seq ?_
    refine mwp_seq ?_
    refine mwp_region rfl ?_
    refine wOps_op rfl (op_load' rfl rfl rfl ta24 rfl ?_)
    refine wOps_op rfl (op_load' rfl rfl rfl ta30 rfl ?_)
    refine wOps_op rfl (op_call rfl rfl rfl co43 ((fits_spec 3 _ (by omega) n m s c w _).mono ?_))
    rintro _ _ ⟨rfl, rfl⟩
    refine wOps_op rfl (op_not rfl rfl ?_)
    refine wOps_op rfl (op_move rfl rfl ?_)
    refine wOps_case (fun h10 => ?_) (fun h10 => ?_)
    ·
      refine wOps_skip rfl ?_
      refine wOps_skip rfl ?_
      refine wOps_skip rfl ?_
      refine wOps_skip rfl ?_
      refine wOps_op rfl (op_pick rfl rfl rfl ?_)
      refine wOps_op rfl (op_move rfl rfl ?_)
      refine wOps_skip rfl ?_
      refine wOps_skip rfl ?_
      refine wOps_skip rfl ?_
      refine wOps_skip rfl ?_
      refine wOps_op rfl (op_pick rfl rfl rfl ?_)
      refine wOps_nil ?_
      refine mwp_cond_t rfl (rfl) ?_
      refine mwp_seq ?_
      refine mwp_region rfl ?_
      refine wOps_op rfl (op_assign rfl rfl ?_)
      refine wOps_nil ?_
      refine mwp_ret ?_
      exact ret_tmp (.inr rfl) Try.results23 rfl (.of_eq (by rw [isRF_mk 3]; congr 1; symm; first | (rw [show fitsF 3 _ = false by simpa using h10]; rfl) | (rw [show risesF s = false by simpa using h16]; simp; done) | (rw [s40f]; simp; done))) (.bool _) ⟨rfl, rfl⟩
    ·
      refine wOps_op rfl (op_fieldAddr_ref rfl rfl fo30_2 ?_)
      refine wOps_op rfl (op_load' rfl rfl rfl ta26 rfl ?_)
      refine wOps_op rfl (op_call rfl rfl rfl co44 ((rRises_spec s _).mono ?_))
      rintro _ _ ⟨rfl, rfl⟩
      refine wOps_op rfl (op_not rfl rfl ?_)
      refine wOps_op rfl (op_pick rfl rfl rfl ?_)
      refine wOps_op rfl (op_move rfl rfl ?_)
      refine wOps_case (fun h16 => ?_) (fun h16 => ?_)
      ·
        refine wOps_skip rfl ?_
        refine wOps_skip rfl ?_
        refine wOps_skip rfl ?_
        refine wOps_skip rfl ?_
        refine wOps_op rfl (op_pick rfl rfl rfl ?_)
        refine wOps_nil ?_
        refine mwp_cond_t rfl (rfl) ?_
        refine mwp_seq ?_
        refine mwp_region rfl ?_
        refine wOps_op rfl (op_assign rfl rfl ?_)
        refine wOps_nil ?_
        refine mwp_ret ?_
        exact ret_tmp (.inr rfl) Try.results23 rfl (.of_eq (by rw [isRF_mk 3]; congr 1; symm; first | (rw [show fitsF 3 _ = false by simpa using h10]; rfl) | (rw [show risesF s = false by simpa using h16]; simp; done) | (rw [s40f]; simp; done))) (.bool _) ⟨rfl, rfl⟩
      ·
        refine wOps_op rfl (op_fieldAddr_ref rfl rfl fo30_2 ?_)
        refine wOps_op rfl (op_load' rfl rfl rfl ta26 rfl ?_)
        refine wOps_op rfl (op_len_lst rfl Try.underlying26 rfl ?_)
        refine wOps_op rfl (op_cmp rfl rfl rfl rfl ?_)
        refine wOps_op rfl (op_pick rfl rfl rfl ?_)
        refine wOps_nil ?_
        refine mwp_cond_split rfl (fun h21 => ?_) (fun h21 => ?_)
        · -- yes
          have s40f := decide_eq_false (by rw [List.length_map] at h21; simp at h21; omega : ¬ s.length ≤ 40)
          refine mwp_seq ?_
          refine mwp_region rfl ?_
          refine wOps_op rfl (op_assign rfl rfl ?_)
          refine wOps_nil ?_
          refine mwp_ret ?_
          exact ret_tmp (.inr rfl) Try.results23 rfl (.of_eq (by rw [isRF_mk 3]; congr 1; symm; first | (rw [show fitsF 3 _ = false by simpa using h10]; rfl) | (rw [show risesF s = false by simpa using h16]; simp; done) | (rw [s40f]; simp; done))) (.bool _) ⟨rfl, rfl⟩
        · -- no
          have s40t := decide_eq_true (by rw [List.length_map] at h21; simp at h21; omega : s.length ≤ 40)
          have hfit : fitsF 3 (.mk n m s c w) = true := by simpa using h10
          have hris : risesF s = true := by simpa using h16
          refine mwp_skip ?_
          refine mwp_seq ?_
          refine mwp_seq ?_
          refine mwp_region rfl ?_
          refine wOps_op rfl (op_fieldAddr_ref rfl rfl fo24_0 ?_)
          refine wOps_op rfl (op_load' rfl rfl rfl ta3 rfl ?_)
          refine wOps_nil ?_
          refine mwp_block ?_
          refine mwp_seq ?_
          refine mwp_region rfl ?_
          refine wOps_op rfl (op_cmp rfl rfl rfl rfl ?_)
          refine wOps_op rfl (op_assign rfl rfl ?_)
          refine wOps_nil ?_
          refine mwp_cond_f rfl (rfl) ?_
          refine mwp_seq ?_
          refine mwp_region rfl ?_
          refine wOps_op rfl (op_cmp rfl rfl rfl rfl ?_)
          refine wOps_op rfl (op_assign rfl rfl ?_)
          refine wOps_nil ?_
          refine mwp_cond_f rfl (rfl) ?_
          refine mwp_seq ?_
          refine mwp_region rfl ?_
          refine wOps_op rfl (op_cmp rfl rfl rfl rfl ?_)
          refine wOps_op rfl (op_assign rfl rfl ?_)
          refine wOps_nil ?_
          refine mwp_cond_f rfl (rfl) ?_
          refine mwp_seq ?_
          refine mwp_region rfl ?_
          refine wOps_op rfl (op_cmp rfl rfl rfl rfl ?_)
          refine wOps_op rfl (op_assign rfl rfl ?_)
          refine wOps_nil ?_
          refine mwp_cond_f rfl (rfl) ?_
          refine mwp_skip ?_
          refine mwp_seq ?_
          refine mwp_region rfl ?_
          refine wOps_op rfl (op_assign rfl rfl ?_)
          refine wOps_nil ?_
          refine mwp_ret ?_
          exact ret_tmp (.inr rfl) Try.results23 rfl (.of_eq (by rw [isRF_mk 3]; rw [hfit, hris, s40t]; simp only [Bool.true_and, isRL, List.headD_cons, List.tail_cons]; rfl)) (.bool _) ⟨rfl, rfl⟩
  ·
    obtain ⟨⟨k1, i1⟩, rfl⟩ := one_ins hd.1 (by decide)
    have ih1 := ih (.mk k1 i1) (hd.2 _ (by simp))
    refine mcalls_body Try.func23 rfl Try.ntmps23 (Nat.le_of_ble_eq_true rfl) ?_
    refine mwp_seq ?_
    refine mwp_region rfl ?_
    refine wOps_op rfl (op_box' rfl rfl rfl rfl ?_)
    refine wOps_op rfl (op_box' rfl rfl rfl rfl ?_)
    refine wOps_op rfl (op_assign rfl rfl ?_)
    refine wOps_nil ?_
    refine mwp_seq ?_
    refine mwp_seq ?_
    refine mwp_region rfl ?_
    refine wOps_op rfl (op_load' rfl rfl rfl ta24 rfl ?_)
    refine wOps_op rfl (op_load' rfl rfl rfl ta30 rfl ?_)
    refine wOps_op rfl (op_call rfl rfl rfl co43 ((fits_spec 4 _ (by omega) n m s c w _).mono ?_))
    rintro _ _ ⟨rfl, rfl⟩
    refine wOps_op rfl (op_not rfl rfl ?_)
    refine wOps_op rfl (op_move rfl rfl ?_)
    refine wOps_case (fun h10 => ?_) (fun h10 => ?_)
    ·
      refine wOps_skip rfl ?_
      refine wOps_skip rfl ?_
      refine wOps_skip rfl ?_
      refine wOps_skip rfl ?_
      refine wOps_op rfl (op_pick rfl rfl rfl ?_)
      refine wOps_op rfl (op_move rfl rfl ?_)
      refine wOps_skip rfl ?_
      refine wOps_skip rfl ?_
      refine wOps_skip rfl ?_
      refine wOps_skip rfl ?_
      refine wOps_op rfl (op_pick rfl rfl rfl ?_)
      refine wOps_nil ?_
      refine mwp_cond_t rfl (rfl) ?_
      refine mwp_seq ?_
      refine mwp_region rfl ?_
      refine wOps_op rfl (op_assign rfl rfl ?_)
      refine wOps_nil ?_
      refine mwp_ret ?_
      exact ret_tmp (.inr rfl) Try.results23 rfl (.of_eq (by rw [isRF_mk 4]; congr 1; symm; first | (rw [show fitsF 4 _ = false by simpa using h10]; rfl) | (rw [show risesF s = false by simpa using h16]; simp; done) | (rw [s40f]; simp; done))) (.bool _) ⟨rfl, rfl⟩
    ·
      refine wOps_op rfl (op_fieldAddr_ref rfl rfl fo30_2 ?_)
      refine wOps_op rfl (op_load' rfl rfl rfl ta26 rfl ?_)
      refine wOps_op rfl (op_call rfl rfl rfl co44 ((rRises_spec s _).mono ?_))
      rintro _ _ ⟨rfl, rfl⟩
      refine wOps_op rfl (op_not rfl rfl ?_)
      refine wOps_op rfl (op_pick rfl rfl rfl ?_)
      refine wOps_op rfl (op_move rfl rfl ?_)
      refine wOps_case (fun h16 => ?_) (fun h16 => ?_)
      ·
        refine wOps_skip rfl ?_
        refine wOps_skip rfl ?_
        refine wOps_skip rfl ?_
        refine wOps_skip rfl ?_
        refine wOps_op rfl (op_pick rfl rfl rfl ?_)
        refine wOps_nil ?_
        refine mwp_cond_t rfl (rfl) ?_
        refine mwp_seq ?_
        refine mwp_region rfl ?_
        refine wOps_op rfl (op_assign rfl rfl ?_)
        refine wOps_nil ?_
        refine mwp_ret ?_
        exact ret_tmp (.inr rfl) Try.results23 rfl (.of_eq (by rw [isRF_mk 4]; congr 1; symm; first | (rw [show fitsF 4 _ = false by simpa using h10]; rfl) | (rw [show risesF s = false by simpa using h16]; simp; done) | (rw [s40f]; simp; done))) (.bool _) ⟨rfl, rfl⟩
      ·
        refine wOps_op rfl (op_fieldAddr_ref rfl rfl fo30_2 ?_)
        refine wOps_op rfl (op_load' rfl rfl rfl ta26 rfl ?_)
        refine wOps_op rfl (op_len_lst rfl Try.underlying26 rfl ?_)
        refine wOps_op rfl (op_cmp rfl rfl rfl rfl ?_)
        refine wOps_op rfl (op_pick rfl rfl rfl ?_)
        refine wOps_nil ?_
        refine mwp_cond_split rfl (fun h21 => ?_) (fun h21 => ?_)
        · -- yes
          have s40f := decide_eq_false (by rw [List.length_map] at h21; simp at h21; omega : ¬ s.length ≤ 40)
          refine mwp_seq ?_
          refine mwp_region rfl ?_
          refine wOps_op rfl (op_assign rfl rfl ?_)
          refine wOps_nil ?_
          refine mwp_ret ?_
          exact ret_tmp (.inr rfl) Try.results23 rfl (.of_eq (by rw [isRF_mk 4]; congr 1; symm; first | (rw [show fitsF 4 _ = false by simpa using h10]; rfl) | (rw [show risesF s = false by simpa using h16]; simp; done) | (rw [s40f]; simp; done))) (.bool _) ⟨rfl, rfl⟩
        · -- no
          have s40t := decide_eq_true (by rw [List.length_map] at h21; simp at h21; omega : s.length ≤ 40)
          have hfit : fitsF 4 (.mk n m s c w) = true := by simpa using h10
          have hris : risesF s = true := by simpa using h16
          refine mwp_skip ?_
          refine mwp_seq ?_
          refine mwp_seq ?_
          refine mwp_region rfl ?_
          refine wOps_op rfl (op_fieldAddr_ref rfl rfl fo24_0 ?_)
          refine wOps_op rfl (op_load' rfl rfl rfl ta3 rfl ?_)
          refine wOps_nil ?_
          refine mwp_block ?_
          refine mwp_seq ?_
          refine mwp_region rfl ?_
          refine wOps_op rfl (op_cmp rfl rfl rfl rfl ?_)
          refine wOps_op rfl (op_assign rfl rfl ?_)
          refine wOps_nil ?_
          refine mwp_cond_t rfl (rfl) ?_
          refine mwp_seq ?_
          refine mwp_region rfl ?_
          refine wOps_op rfl (op_assign rfl rfl ?_)
          refine wOps_nil ?_
          refine mwp_block ?_
          refine mwp_loopK (α := Nat) [(2, _), (3, _)] (fun i => [(5, .int .i64 (i : Int))]) (fun i => [.cells (encS (.mk 4 [.mk k1 i1])).cells, .cells (encV (.mk n m s c w)).cells]) (fun i => i ≤ w.length ∧ (w.take i).all (fun x => isRF (.mk k1 i1) x && !noneF (.mk k1 i1) x) = true) (fun i => w.length - i) (0) (.keep rfl (.keep rfl (.nil))) (.keep rfl (.nil)) (⟨by omega, rfl⟩) (rfl) ?_
          rintro i ⟨hi, hall⟩
          refine mwp_seq ?_
          refine mwp_seq ?_
          refine mwp_region rfl ?_
          refine wOps_op rfl (op_move rfl rfl ?_)
          refine wOps_op rfl (op_fieldAddr_ref rfl rfl fo30_4 ?_)
          refine wOps_op rfl (op_load' rfl rfl rfl ta28 rfl ?_)
          refine wOps_op rfl (op_len_lst rfl Try.underlying28 rfl ?_)
          refine wOps_op rfl (op_cmp rfl rfl rfl rfl ?_)
          refine wOps_nil ?_
          refine mwp_cond_split rfl (fun h30 => ?_) (fun h30 => ?_)
          · -- yes
            rw [encVs_length] at h30
            have hlt : i < w.length := by simpa using h30
            obtain ⟨⟨n1, m1, s1, c1, w1⟩, hs⟩ : ∃ q, w[i]? = some q := ⟨_, List.getElem?_eq_getElem hlt⟩
            refine mwp_len (t := 28) rfl fun hlen => ?_
            rw [encVs_length] at hlen
            refine mwp_skip ?_
            refine mwp_seq ?_
            refine mwp_block ?_
            refine mwp_seq ?_
            refine mwp_draw [] [_] mo (by decide) rfl rfl rfl rfl ?_
            refine dOps_op rfl rfl (.cons (op_fieldAddr_ref rfl rfl fo24_1 ⟨rfl, rfl⟩) .nil) ?_
            refine dOps_op rfl rfl (.cons (op_load' rfl rfl rfl ta22 rfl ⟨rfl, rfl⟩) .nil) ?_
            refine dOps_op rfl rfl (.cons (op_indexAddr rfl Try.underlying22 sz24 (by decide) rfl rfl rfl (show _ = some (encS (.mk k1 i1)) from rfl) ⟨rfl, rfl⟩) .nil) ?_
            refine dOps_op rfl rfl (.cons (op_load_sptr rfl rfl ta24 rfl ⟨rfl, rfl⟩) .nil) ?_
            refine dOps_op rfl rfl (.cons (op_fieldAddr_ref rfl rfl fo30_4 ⟨rfl, rfl⟩) .nil) ?_
            refine dOps_op rfl rfl (.cons (op_load' rfl rfl rfl ta28 rfl ⟨rfl, rfl⟩) .nil) ?_
            refine dOps_op rfl rfl (.cons (op_move rfl rfl ⟨rfl, rfl⟩) .nil) ?_
            refine dOps_op rfl rfl (.cons (op_indexAddr rfl Try.underlying28 sz30 (by decide) rfl rfl rfl (encVs_get hs) ⟨rfl, rfl⟩) .nil) ?_
            refine dOps_op rfl rfl (.cons (op_load_sptr rfl rfl ta30 rfl ⟨rfl, rfl⟩) .nil) ?_
            refine dOps_op rfl rfl (.cons (op_call rfl rfl rfl co23 (ih1 (.mk n1 m1 s1 c1 w1) (hvs _ (List.mem_of_getElem? hs)) _)) .nil) ?_
            refine dOps_op rfl rfl (.cons (op_not rfl rfl ⟨rfl, rfl⟩) .nil) ?_
            refine dOps_op rfl rfl (.cons (op_move rfl rfl ⟨rfl, rfl⟩) .nil) ?_
            refine dOps_case (fun h44 => ?_) (fun h44 => ?_)
            ·
              refine dOps_skip rfl rfl ?_
              refine dOps_skip rfl rfl ?_
              refine dOps_skip rfl rfl ?_
              refine dOps_skip rfl rfl ?_
              refine dOps_skip rfl rfl ?_
              refine dOps_skip rfl rfl ?_
              refine dOps_skip rfl rfl ?_
              refine dOps_skip rfl rfl ?_
              refine dOps_skip rfl rfl ?_
              refine dOps_skip rfl rfl ?_
              refine dOps_op rfl rfl (.cons (op_pick rfl rfl rfl ⟨rfl, rfl⟩) .nil) ?_
              refine dOps_nil ?_
              refine mwp_cond_t rfl (rfl) ?_
              refine mwp_seq ?_
              refine mwp_region rfl ?_
              refine wOps_op rfl (op_assign rfl rfl ?_)
              refine wOps_nil ?_
              refine mwp_ret ?_
              exact ret_tmp (.inr rfl) Try.results23 rfl (.of_eq (by rw [isRF_mk 4]; rw [hfit, hris, s40t]; simp only [Bool.true_and, isRL, List.headD_cons, List.tail_cons]; congr 1; symm; show w.all (fun x => isRF (.mk k1 i1) x && !noneF (.mk k1 i1) x) = false; rw [List.all_eq_false]; exact ⟨_, List.mem_of_getElem? hs, by simp_all⟩)) (.bool _) ⟨rfl, rfl⟩
            ·
              refine dOps_op rfl rfl (.cons (op_fieldAddr_ref rfl rfl fo24_1 ⟨rfl, rfl⟩) .nil) ?_
              refine dOps_op rfl rfl (.cons (op_load' rfl rfl rfl ta22 rfl ⟨rfl, rfl⟩) .nil) ?_
              refine dOps_op rfl rfl (.cons (op_indexAddr rfl Try.underlying22 sz24 (by decide) rfl rfl rfl (show _ = some (encS (.mk k1 i1)) from rfl) ⟨rfl, rfl⟩) .nil) ?_
              refine dOps_op rfl rfl (.cons (op_load_sptr rfl rfl ta24 rfl ⟨rfl, rfl⟩) .nil) ?_
              refine dOps_op rfl rfl (.cons (op_fieldAddr_ref rfl rfl fo30_4 ⟨rfl, rfl⟩) .nil) ?_
              refine dOps_op rfl rfl (.cons (op_load' rfl rfl rfl ta28 rfl ⟨rfl, rfl⟩) .nil) ?_
              refine dOps_op rfl rfl (.cons (op_move rfl rfl ⟨rfl, rfl⟩) .nil) ?_
              refine dOps_op rfl rfl (.cons (op_indexAddr rfl Try.underlying28 sz30 (by decide) rfl rfl rfl (encVs_get hs) ⟨rfl, rfl⟩) .nil) ?_
              refine dOps_op rfl rfl (.cons (op_load_sptr rfl rfl ta30 rfl ⟨rfl, rfl⟩) .nil) ?_
              refine dOps_op rfl rfl (.cons (op_call rfl rfl rfl co15 (rNone_spec (.mk k1 i1) (.mk n1 m1 s1 c1 w1) _)) .nil) ?_
              refine dOps_op rfl rfl (.cons (op_pick rfl rfl rfl ⟨rfl, rfl⟩) .nil) ?_
              refine dOps_nil ?_
              refine mwp_cond_split rfl (fun h55 => ?_) (fun h55 => ?_)
              · -- yes
                refine mwp_seq ?_
                refine mwp_region rfl ?_
                refine wOps_op rfl (op_assign rfl rfl ?_)
                refine wOps_nil ?_
                refine mwp_ret ?_
                exact ret_tmp (.inr rfl) Try.results23 rfl (.of_eq (by rw [isRF_mk 4]; rw [hfit, hris, s40t]; simp only [Bool.true_and, isRL, List.headD_cons, List.tail_cons]; congr 1; symm; show w.all (fun x => isRF (.mk k1 i1) x && !noneF (.mk k1 i1) x) = false; rw [List.all_eq_false]; exact ⟨_, List.mem_of_getElem? hs, by simp_all⟩)) (.bool _) ⟨rfl, rfl⟩
              · -- no
                refine mwp_skip ?_
                refine mwp_region rfl ?_
                refine wOps_op rfl (op_move rfl rfl ?_)
                refine wOps_op rfl (op_arith rfl rfl rfl rfl ?_)
                refine wOps_op rfl (op_assign rfl rfl ?_)
                refine wOps_nil ?_
                refine ⟨i + 1, by omega, ⟨by omega, ?_⟩, rfl, (.keep rfl (.keep rfl (.nil))), (.eq rfl (int_succ hlt hlen) (.nil))⟩
                rw [List.take_add_one, hs, List.all_append, hall]
                simp_all
          · -- no
            rw [encVs_length] at h30
            have hge : i = w.length := by simp at h30; omega
            refine mwp_exit ?_
            refine mwp_seq ?_
            refine mwp_region rfl ?_
            refine wOps_op rfl (op_assign rfl rfl ?_)
            refine wOps_nil ?_
            refine mwp_ret ?_
            exact ret_tmp (.inr rfl) Try.results23 rfl (.of_eq (by rw [isRF_mk 4]; rw [hfit, hris, s40t]; simp only [Bool.true_and, isRL, List.headD_cons, List.tail_cons]; congr 1; symm; show w.all (fun x => isRF (.mk k1 i1) x && !noneF (.mk k1 i1) x) = true; rw [hge, List.take_length] at hall; exact hall)) (.bool _) ⟨rfl, rfl⟩
  ·
    obtain ⟨⟨k1, i1⟩, ⟨k2, i2⟩, rfl⟩ := two_of hd.1
    have ih1 := ih (.mk k1 i1) (hd.2 _ (by simp))
    have ih2 := ih (.mk k2 i2) (hd.2 _ (by simp))
    refine mcalls_body Try.func23 rfl Try.ntmps23 (Nat.le_of_ble_eq_true rfl) ?_
    refine mwp_seq ?_
    refine mwp_region rfl ?_
    refine wOps_op rfl (op_box' rfl rfl rfl rfl ?_)
    refine wOps_op rfl (op_box' rfl rfl rfl rfl ?_)
    refine wOps_op rfl (op_assign rfl rfl ?_)
    refine wOps_nil ?_
    refine mwp_seq ?_
    refine mwp_seq ?_
    refine mwp_region rfl ?_
    refine wOps_op rfl (op_load' rfl rfl rfl ta24 rfl ?_)
    refine wOps_op rfl (op_load' rfl rfl rfl ta30 rfl ?_)
    refine wOps_op rfl (op_call rfl rfl rfl co43 ((fits_spec 5 _ (by omega) n m s c w _).mono ?_))
    rintro _ _ ⟨rfl, rfl⟩
    refine wOps_op rfl (op_not rfl rfl ?_)
    refine wOps_op rfl (op_move rfl rfl ?_)
    refine wOps_case (fun h10 => ?_) (fun h10 => ?_)
    ·
      refine wOps_skip rfl ?_
      refine wOps_skip rfl ?_
      refine wOps_skip rfl ?_
      refine wOps_skip rfl ?_
      refine wOps_op rfl (op_pick rfl rfl rfl ?_)
      refine wOps_op rfl (op_move rfl rfl ?_)
      refine wOps_skip rfl ?_
      refine wOps_skip rfl ?_
      refine wOps_skip rfl ?_
      refine wOps_skip rfl ?_
      refine wOps_op rfl (op_pick rfl rfl rfl ?_)
      refine wOps_nil ?_
      refine mwp_cond_t rfl (rfl) ?_
      refine mwp_seq ?_
      refine mwp_region rfl ?_
      refine wOps_op rfl (op_assign rfl rfl ?_)
      refine wOps_nil ?_
      refine mwp_ret ?_
      exact ret_tmp (.inr rfl) Try.results23 rfl (.of_eq (by rw [isRF_mk 5]; congr 1; symm; first | (rw [show fitsF 5 _ = false by simpa using h10]; rfl) | (rw [show risesF s = false by simpa using h16]; simp; done) | (rw [s40f]; simp; done))) (.bool _) ⟨rfl, rfl⟩
    ·
      refine wOps_op rfl (op_fieldAddr_ref rfl rfl fo30_2 ?_)
      refine wOps_op rfl (op_load' rfl rfl rfl ta26 rfl ?_)
      refine wOps_op rfl (op_call rfl rfl rfl co44 ((rRises_spec s _).mono ?_))
      rintro _ _ ⟨rfl, rfl⟩
      refine wOps_op rfl (op_not rfl rfl ?_)
      refine wOps_op rfl (op_pick rfl rfl rfl ?_)
      refine wOps_op rfl (op_move rfl rfl ?_)
      refine wOps_case (fun h16 => ?_) (fun h16 => ?_)
      ·
        refine wOps_skip rfl ?_
        refine wOps_skip rfl ?_
        refine wOps_skip rfl ?_
        refine wOps_skip rfl ?_
        refine wOps_op rfl (op_pick rfl rfl rfl ?_)
        refine wOps_nil ?_
        refine mwp_cond_t rfl (rfl) ?_
        refine mwp_seq ?_
        refine mwp_region rfl ?_
        refine wOps_op rfl (op_assign rfl rfl ?_)
        refine wOps_nil ?_
        refine mwp_ret ?_
        exact ret_tmp (.inr rfl) Try.results23 rfl (.of_eq (by rw [isRF_mk 5]; congr 1; symm; first | (rw [show fitsF 5 _ = false by simpa using h10]; rfl) | (rw [show risesF s = false by simpa using h16]; simp; done) | (rw [s40f]; simp; done))) (.bool _) ⟨rfl, rfl⟩
      ·
        refine wOps_op rfl (op_fieldAddr_ref rfl rfl fo30_2 ?_)
        refine wOps_op rfl (op_load' rfl rfl rfl ta26 rfl ?_)
        refine wOps_op rfl (op_len_lst rfl Try.underlying26 rfl ?_)
        refine wOps_op rfl (op_cmp rfl rfl rfl rfl ?_)
        refine wOps_op rfl (op_pick rfl rfl rfl ?_)
        refine wOps_nil ?_
        refine mwp_cond_split rfl (fun h21 => ?_) (fun h21 => ?_)
        · -- yes
          have s40f := decide_eq_false (by rw [List.length_map] at h21; simp at h21; omega : ¬ s.length ≤ 40)
          refine mwp_seq ?_
          refine mwp_region rfl ?_
          refine wOps_op rfl (op_assign rfl rfl ?_)
          refine wOps_nil ?_
          refine mwp_ret ?_
          exact ret_tmp (.inr rfl) Try.results23 rfl (.of_eq (by rw [isRF_mk 5]; congr 1; symm; first | (rw [show fitsF 5 _ = false by simpa using h10]; rfl) | (rw [show risesF s = false by simpa using h16]; simp; done) | (rw [s40f]; simp; done))) (.bool _) ⟨rfl, rfl⟩
        · -- no
          have s40t := decide_eq_true (by rw [List.length_map] at h21; simp at h21; omega : s.length ≤ 40)
          have hfit : fitsF 5 (.mk n m s c w) = true := by simpa using h10
          have hris : risesF s = true := by simpa using h16
          refine mwp_skip ?_
          refine mwp_seq ?_
          refine mwp_seq ?_
          refine mwp_region rfl ?_
          refine wOps_op rfl (op_fieldAddr_ref rfl rfl fo24_0 ?_)
          refine wOps_op rfl (op_load' rfl rfl rfl ta3 rfl ?_)
          refine wOps_nil ?_
          refine mwp_block ?_
          refine mwp_seq ?_
          refine mwp_region rfl ?_
          refine wOps_op rfl (op_cmp rfl rfl rfl rfl ?_)
          refine wOps_op rfl (op_assign rfl rfl ?_)
          refine wOps_nil ?_
          refine mwp_cond_f rfl (rfl) ?_
          refine mwp_seq ?_
          refine mwp_region rfl ?_
          refine wOps_op rfl (op_cmp rfl rfl rfl rfl ?_)
          refine wOps_op rfl (op_assign rfl rfl ?_)
          refine wOps_nil ?_
          refine mwp_cond_t rfl (rfl) ?_
          refine mwp_seq ?_
          obtain ⟨⟨n1, m1, s1, c1, w1⟩, ⟨n2, m2, s2, c2, w2⟩, rfl⟩ := two_of' (fits5 hfit)
          refine mwp_draw [] [_] mo (by decide) rfl rfl rfl rfl ?_
          refine dOps_op rfl rfl (.cons (op_fieldAddr_ref rfl rfl fo24_1 ⟨rfl, rfl⟩) .nil) ?_
          refine dOps_op rfl rfl (.cons (op_load' rfl rfl rfl ta22 rfl ⟨rfl, rfl⟩) .nil) ?_
          refine dOps_op rfl rfl (.cons (op_indexAddr rfl Try.underlying22 sz24 (by decide) rfl rfl rfl (show _ = some (encS (.mk k1 i1)) from rfl) ⟨rfl, rfl⟩) .nil) ?_
          refine dOps_op rfl rfl (.cons (op_load_sptr rfl rfl ta24 rfl ⟨rfl, rfl⟩) .nil) ?_
          refine dOps_op rfl rfl (.cons (op_fieldAddr_ref rfl rfl fo30_4 ⟨rfl, rfl⟩) .nil) ?_
          refine dOps_op rfl rfl (.cons (op_load' rfl rfl rfl ta28 rfl ⟨rfl, rfl⟩) .nil) ?_
          refine dOps_op rfl rfl (.cons (op_indexAddr rfl Try.underlying28 sz30 (by decide) rfl rfl rfl (show _ = some (encV (.mk n1 m1 s1 c1 w1)) from rfl) ⟨rfl, rfl⟩) .nil) ?_
          refine dOps_op rfl rfl (.cons (op_load_sptr rfl rfl ta30 rfl ⟨rfl, rfl⟩) .nil) ?_
          refine dOps_op rfl rfl (.cons (op_call rfl rfl rfl co23 (ih1 (.mk n1 m1 s1 c1 w1) (hvs _ (by simp)) _)) .nil) ?_
          refine dOps_op rfl rfl (.cons (op_move rfl rfl ⟨rfl, rfl⟩) .nil) ?_
          refine dOps_case (fun h67 => ?_) (fun h67 => ?_)
          ·
            refine dOps_op rfl rfl (.cons (op_fieldAddr_ref rfl rfl fo24_1 ⟨rfl, rfl⟩) .nil) ?_
            refine dOps_op rfl rfl (.cons (op_load' rfl rfl rfl ta22 rfl ⟨rfl, rfl⟩) .nil) ?_
            refine dOps_op rfl rfl (.cons (op_indexAddr rfl Try.underlying22 sz24 (by decide) rfl rfl rfl (show _ = some (encS (.mk k2 i2)) from rfl) ⟨rfl, rfl⟩) .nil) ?_
            refine dOps_op rfl rfl (.cons (op_load_sptr rfl rfl ta24 rfl ⟨rfl, rfl⟩) .nil) ?_
            refine dOps_op rfl rfl (.cons (op_fieldAddr_ref rfl rfl fo30_4 ⟨rfl, rfl⟩) .nil) ?_
            refine dOps_op rfl rfl (.cons (op_load' rfl rfl rfl ta28 rfl ⟨rfl, rfl⟩) .nil) ?_
            refine dOps_op rfl rfl (.cons (op_indexAddr rfl Try.underlying28 sz30 (by decide) rfl rfl rfl (show _ = some (encV (.mk n2 m2 s2 c2 w2)) from rfl) ⟨rfl, rfl⟩) .nil) ?_
            refine dOps_op rfl rfl (.cons (op_load_sptr rfl rfl ta30 rfl ⟨rfl, rfl⟩) .nil) ?_
            refine dOps_op rfl rfl (.cons (op_call rfl rfl rfl co23 (ih2 (.mk n2 m2 s2 c2 w2) (hvs _ (by simp)) _)) .nil) ?_
            refine dOps_op rfl rfl (.cons (op_pick rfl rfl rfl ⟨rfl, rfl⟩) .nil) ?_
            refine dOps_op rfl rfl (.cons (op_assign rfl rfl ⟨rfl, rfl⟩) .nil) ?_
            refine dOps_nil ?_
            refine mwp_ret ?_
            exact ret_tmp (.inr rfl) Try.results23 rfl (.of_eq (by rw [isRF_mk 5]; rw [hfit, hris, s40t]; simp only [Bool.true_and, isRL, List.headD_cons, List.tail_cons]; congr 1; rw [Bool.eq_iff_iff]; simp_all)) (.bool _) ⟨rfl, rfl⟩
          ·
            refine dOps_skip rfl rfl ?_
            refine dOps_skip rfl rfl ?_
            refine dOps_skip rfl rfl ?_
            refine dOps_skip rfl rfl ?_
            refine dOps_skip rfl rfl ?_
            refine dOps_skip rfl rfl ?_
            refine dOps_skip rfl rfl ?_
            refine dOps_skip rfl rfl ?_
            refine dOps_skip rfl rfl ?_
            refine dOps_op rfl rfl (.cons (op_pick rfl rfl rfl ⟨rfl, rfl⟩) .nil) ?_
            refine dOps_op rfl rfl (.cons (op_assign rfl rfl ⟨rfl, rfl⟩) .nil) ?_
            refine dOps_nil ?_
            refine mwp_ret ?_
            exact ret_tmp (.inr rfl) Try.results23 rfl (.of_eq (by rw [isRF_mk 5]; rw [hfit, hris, s40t]; simp only [Bool.true_and, isRL, List.headD_cons, List.tail_cons]; congr 1; rw [Bool.eq_iff_iff]; simp_all)) (.bool _) ⟨rfl, rfl⟩
  ·
    refine mcalls_body Try.func23 rfl Try.ntmps23 (Nat.le_of_ble_eq_true rfl) ?_
    refine mwp_seq ?_
    refine mwp_region rfl ?_
    refine wOps_op rfl (op_box' rfl rfl rfl rfl ?_)
    refine wOps_op rfl (op_box' rfl rfl rfl rfl ?_)
    refine wOps_op rfl (op_assign rfl rfl ?_)
    refine wOps_nil ?_
    refine mwp_seq ?_
    refine mwp_seq ?_
    refine mwp_region rfl ?_
    refine wOps_op rfl (op_load' rfl rfl rfl ta24 rfl ?_)
    refine wOps_op rfl (op_load' rfl rfl rfl ta30 rfl ?_)
    refine wOps_op rfl (op_call rfl rfl rfl co43 ((fits_spec 6 _ (by omega) n m s c w _).mono ?_))
    rintro _ _ ⟨rfl, rfl⟩
    refine wOps_op rfl (op_not rfl rfl ?_)
    refine wOps_op rfl (op_move rfl rfl ?_)
    refine wOps_case (fun h10 => ?_) (fun h10 => ?_)
    ·
      refine wOps_skip rfl ?_
      refine wOps_skip rfl ?_
      refine wOps_skip rfl ?_
      refine wOps_skip rfl ?_
      refine wOps_op rfl (op_pick rfl rfl rfl ?_)
      refine wOps_op rfl (op_move rfl rfl ?_)
      refine wOps_skip rfl ?_
      refine wOps_skip rfl ?_
      refine wOps_skip rfl ?_
      refine wOps_skip rfl ?_
      refine wOps_op rfl (op_pick rfl rfl rfl ?_)
      refine wOps_nil ?_
      refine mwp_cond_t rfl (rfl) ?_
      refine mwp_seq ?_
      refine mwp_region rfl ?_
      refine wOps_op rfl (op_assign rfl rfl ?_)
      refine wOps_nil ?_
      refine mwp_ret ?_
      exact ret_tmp (.inr rfl) Try.results23 rfl (.of_eq (by rw [isRF_mk 6]; congr 1; symm; first | (rw [show fitsF 6 _ = false by simpa using h10]; rfl) | (rw [show risesF s = false by simpa using h16]; simp; done) | (rw [s40f]; simp; done))) (.bool _) ⟨rfl, rfl⟩
    ·
      refine wOps_op rfl (op_fieldAddr_ref rfl rfl fo30_2 ?_)
      refine wOps_op rfl (op_load' rfl rfl rfl ta26 rfl ?_)
      refine wOps_op rfl (op_call rfl rfl rfl co44 ((rRises_spec s _).mono ?_))
      rintro _ _ ⟨rfl, rfl⟩
      refine wOps_op rfl (op_not rfl rfl ?_)
      refine wOps_op rfl (op_pick rfl rfl rfl ?_)
      refine wOps_op rfl (op_move rfl rfl ?_)
      refine wOps_case (fun h16 => ?_) (fun h16 => ?_)
      ·
        refine wOps_skip rfl ?_
        refine wOps_skip rfl ?_
        refine wOps_skip rfl ?_
        refine wOps_skip rfl ?_
        refine wOps_op rfl (op_pick rfl rfl rfl ?_)
        refine wOps_nil ?_
        refine mwp_cond_t rfl (rfl) ?_
        refine mwp_seq ?_
        refine mwp_region rfl ?_
        refine wOps_op rfl (op_assign rfl rfl ?_)
        refine wOps_nil ?_
        refine mwp_ret ?_
        exact ret_tmp (.inr rfl) Try.results23 rfl (.of_eq (by rw [isRF_mk 6]; congr 1; symm; first | (rw [show fitsF 6 _ = false by simpa using h10]; rfl) | (rw [show risesF s = false by simpa using h16]; simp; done) | (rw [s40f]; simp; done))) (.bool _) ⟨rfl, rfl⟩
      ·
        refine wOps_op rfl (op_fieldAddr_ref rfl rfl fo30_2 ?_)
        refine wOps_op rfl (op_load' rfl rfl rfl ta26 rfl ?_)
        refine wOps_op rfl (op_len_lst rfl Try.underlying26 rfl ?_)
        refine wOps_op rfl (op_cmp rfl rfl rfl rfl ?_)
        refine wOps_op rfl (op_pick rfl rfl rfl ?_)
        refine wOps_nil ?_
        refine mwp_cond_split rfl (fun h21 => ?_) (fun h21 => ?_)
        · -- yes
          have s40f := decide_eq_false (by rw [List.length_map] at h21; simp at h21; omega : ¬ s.length ≤ 40)
          refine mwp_seq ?_
          refine mwp_region rfl ?_
          refine wOps_op rfl (op_assign rfl rfl ?_)
          refine wOps_nil ?_
          refine mwp_ret ?_
          exact ret_tmp (.inr rfl) Try.results23 rfl (.of_eq (by rw [isRF_mk 6]; congr 1; symm; first | (rw [show fitsF 6 _ = false by simpa using h10]; rfl) | (rw [show risesF s = false by simpa using h16]; simp; done) | (rw [s40f]; simp; done))) (.bool _) ⟨rfl, rfl⟩
        · -- no
          have s40t := decide_eq_true (by rw [List.length_map] at h21; simp at h21; omega : s.length ≤ 40)
          have hfit : fitsF 6 (.mk n m s c w) = true := by simpa using h10
          have hris : risesF s = true := by simpa using h16
          refine mwp_skip ?_
          refine mwp_seq ?_
          refine mwp_seq ?_
          refine mwp_region rfl ?_
          refine wOps_op rfl (op_fieldAddr_ref rfl rfl fo24_0 ?_)
          refine wOps_op rfl (op_load' rfl rfl rfl ta3 rfl ?_)
          refine wOps_nil ?_
          refine mwp_block ?_
          refine mwp_seq ?_
          refine mwp_region rfl ?_
          refine wOps_op rfl (op_cmp rfl rfl rfl rfl ?_)
          refine wOps_op rfl (op_assign rfl rfl ?_)
          refine wOps_nil ?_
          refine mwp_cond_f rfl (rfl) ?_
          refine mwp_seq ?_
          refine mwp_region rfl ?_
          refine wOps_op rfl (op_cmp rfl rfl rfl rfl ?_)
          refine wOps_op rfl (op_assign rfl rfl ?_)
          refine wOps_nil ?_
          refine mwp_cond_f rfl (rfl) ?_
          refine mwp_seq ?_
          refine mwp_region rfl ?_
          refine wOps_op rfl (op_cmp rfl rfl rfl rfl ?_)
          refine wOps_op rfl (op_assign rfl rfl ?_)
          refine wOps_nil ?_
          refine mwp_cond_f rfl (rfl) ?_
          refine mwp_seq ?_
          refine mwp_region rfl ?_
          refine wOps_op rfl (op_cmp rfl rfl rfl rfl ?_)
          refine wOps_op rfl (op_assign rfl rfl ?_)
          refine wOps_nil ?_
          refine mwp_cond_f rfl (rfl) ?_
          refine mwp_skip ?_
          refine mwp_seq ?_
          refine mwp_region rfl ?_
          refine wOps_op rfl (op_assign rfl rfl ?_)
          refine wOps_nil ?_
          refine mwp_ret ?_
          exact ret_tmp (.inr rfl) Try.results23 rfl (.of_eq (by rw [isRF_mk 6]; rw [hfit, hris, s40t]; simp only [Bool.true_and, isRL, List.headD_cons, List.tail_cons]; rfl)) (.bool _) ⟨rfl, rfl⟩
  ·
    refine mcalls_body Try.func23 rfl Try.ntmps23 (Nat.le_of_ble_eq_true rfl) ?_
    refine mwp_seq ?_
    refine mwp_region rfl ?_
    refine wOps_op rfl (op_box' rfl rfl rfl rfl ?_)
    refine wOps_op rfl (op_box' rfl rfl rfl rfl ?_)
    refine wOps_op rfl (op_assign rfl rfl ?_)
    refine wOps_nil ?_
    refine mwp_seq ?_
    refine mwp_seq ?_
    refine mwp_region rfl ?_
    refine wOps_op rfl (op_load' rfl rfl rfl ta24 rfl ?_)
    refine wOps_op rfl (op_load' rfl rfl rfl ta30 rfl ?_)
    refine wOps_op rfl (op_call rfl rfl rfl co43 ((fits_spec 7 _ (by omega) n m s c w _).mono ?_))
    rintro _ _ ⟨rfl, rfl⟩
    refine wOps_op rfl (op_not rfl rfl ?_)
    refine wOps_op rfl (op_move rfl rfl ?_)
    refine wOps_case (fun h10 => ?_) (fun h10 => ?_)
    ·
      refine wOps_skip rfl ?_
      refine wOps_skip rfl ?_
      refine wOps_skip rfl ?_
      refine wOps_skip rfl ?_
      refine wOps_op rfl (op_pick rfl rfl rfl ?_)
      refine wOps_op rfl (op_move rfl rfl ?_)
      refine wOps_skip rfl ?_
      refine wOps_skip rfl ?_
      refine wOps_skip rfl ?_
      refine wOps_skip rfl ?_
      refine wOps_op rfl (op_pick rfl rfl rfl ?_)
      refine wOps_nil ?_
      refine mwp_cond_t rfl (rfl) ?_
      refine mwp_seq ?_
      refine mwp_region rfl ?_
      refine wOps_op rfl (op_assign rfl rfl ?_)
      refine wOps_nil ?_
      refine mwp_ret ?_
      exact ret_tmp (.inr rfl) Try.results23 rfl (.of_eq (by rw [isRF_mk 7]; congr 1; symm; first | (rw [show fitsF 7 _ = false by simpa using h10]; rfl) | (rw [show risesF s = false by simpa using h16]; simp; done) | (rw [s40f]; simp; done))) (.bool _) ⟨rfl, rfl⟩
    ·
      refine wOps_op rfl (op_fieldAddr_ref rfl rfl fo30_2 ?_)
      refine wOps_op rfl (op_load' rfl rfl rfl ta26 rfl ?_)
      refine wOps_op rfl (op_call rfl rfl rfl co44 ((rRises_spec s _).mono ?_))
      rintro _ _ ⟨rfl, rfl⟩
      refine wOps_op rfl (op_not rfl rfl ?_)
      refine wOps_op rfl (op_pick rfl rfl rfl ?_)
      refine wOps_op rfl (op_move rfl rfl ?_)
      refine wOps_case (fun h16 => ?_) (fun h16 => ?_)
      ·
        refine wOps_skip rfl ?_
        refine wOps_skip rfl ?_
        refine wOps_skip rfl ?_
        refine wOps_skip rfl ?_
        refine wOps_op rfl (op_pick rfl rfl rfl ?_)
        refine wOps_nil ?_
        refine mwp_cond_t rfl (rfl) ?_
        refine mwp_seq ?_
        refine mwp_region rfl ?_
        refine wOps_op rfl (op_assign rfl rfl ?_)
        refine wOps_nil ?_
        refine mwp_ret ?_
        exact ret_tmp (.inr rfl) Try.results23 rfl (.of_eq (by rw [isRF_mk 7]; congr 1; symm; first | (rw [show fitsF 7 _ = false by simpa using h10]; rfl) | (rw [show risesF s = false by simpa using h16]; simp; done) | (rw [s40f]; simp; done))) (.bool _) ⟨rfl, rfl⟩
      ·
        refine wOps_op rfl (op_fieldAddr_ref rfl rfl fo30_2 ?_)
        refine wOps_op rfl (op_load' rfl rfl rfl ta26 rfl ?_)
        refine wOps_op rfl (op_len_lst rfl Try.underlying26 rfl ?_)
        refine wOps_op rfl (op_cmp rfl rfl rfl rfl ?_)
        refine wOps_op rfl (op_pick rfl rfl rfl ?_)
        refine wOps_nil ?_
        refine mwp_cond_split rfl (fun h21 => ?_) (fun h21 => ?_)
        · -- yes
          have s40f := decide_eq_false (by rw [List.length_map] at h21; simp at h21; omega : ¬ s.length ≤ 40)
          refine mwp_seq ?_
          refine mwp_region rfl ?_
          refine wOps_op rfl (op_assign rfl rfl ?_)
          refine wOps_nil ?_
          refine mwp_ret ?_
          exact ret_tmp (.inr rfl) Try.results23 rfl (.of_eq (by rw [isRF_mk 7]; congr 1; symm; first | (rw [show fitsF 7 _ = false by simpa using h10]; rfl) | (rw [show risesF s = false by simpa using h16]; simp; done) | (rw [s40f]; simp; done))) (.bool _) ⟨rfl, rfl⟩
        · -- no
          have s40t := decide_eq_true (by rw [List.length_map] at h21; simp at h21; omega : s.length ≤ 40)
          have hfit : fitsF 7 (.mk n m s c w) = true := by simpa using h10
          have hris : risesF s = true := by simpa using h16
          refine mwp_skip ?_
          refine mwp_seq ?_
          refine mwp_seq ?_
          refine mwp_region rfl ?_
          refine wOps_op rfl (op_fieldAddr_ref rfl rfl fo24_0 ?_)
          refine wOps_op rfl (op_load' rfl rfl rfl ta3 rfl ?_)
          refine wOps_nil ?_
          refine mwp_block ?_
          refine mwp_seq ?_
          refine mwp_region rfl ?_
          refine wOps_op rfl (op_cmp rfl rfl rfl rfl ?_)
          refine wOps_op rfl (op_assign rfl rfl ?_)
          refine wOps_nil ?_
          refine mwp_cond_f rfl (rfl) ?_
          refine mwp_seq ?_
          refine mwp_region rfl ?_
          refine wOps_op rfl (op_cmp rfl rfl rfl rfl ?_)
          refine wOps_op rfl (op_assign rfl rfl ?_)
          refine wOps_nil ?_
          refine mwp_cond_f rfl (rfl) ?_
          refine mwp_seq ?_
          refine mwp_region rfl ?_
          refine wOps_op rfl (op_cmp rfl rfl rfl rfl ?_)
          refine wOps_op rfl (op_assign rfl rfl ?_)
          refine wOps_nil ?_
          refine mwp_cond_t rfl (rfl) ?_
          refine mwp_seq ?_
          refine mwp_region rfl ?_
          refine wOps_op rfl (op_fieldAddr_ref rfl rfl fo30_3 ?_)
          refine wOps_op rfl (op_load' rfl rfl rfl ta27 rfl ?_)
          refine wOps_op rfl (op_len_lst rfl Try.underlying27 rfl ?_)
          refine wOps_op rfl (op_cmp rfl rfl rfl rfl ?_)
          refine wOps_op rfl (op_move rfl rfl ?_)
          refine wOps_case (fun h84 => ?_) (fun h84 => ?_)
          ·
            have hc0 : c = [] := by simpa using h84
            subst hc0
            refine wOps_skip rfl ?_
            refine wOps_skip rfl ?_
            refine wOps_skip rfl ?_
            refine wOps_skip rfl ?_
            refine wOps_skip rfl ?_
            refine wOps_skip rfl ?_
            refine wOps_skip rfl ?_
            refine wOps_skip rfl ?_
            refine wOps_skip rfl ?_
            refine wOps_skip rfl ?_
            refine wOps_skip rfl ?_
            refine wOps_skip rfl ?_
            refine wOps_skip rfl ?_
            refine wOps_op rfl (op_pick rfl rfl rfl ?_)
            refine wOps_op rfl (op_assign rfl rfl ?_)
            refine wOps_nil ?_
            refine mwp_ret ?_
            exact ret_tmp (.inr rfl) Try.results23 rfl (.of_eq (by rw [isRF_mk 7]; rw [hfit, hris, s40t]; simp only [Bool.true_and, isRL, List.headD_cons, List.tail_cons]; first | rfl | (congr 1; rw [Bool.eq_iff_iff]; simp_all))) (.bool _) ⟨rfl, rfl⟩
          ·
            obtain ⟨c0, rfl⟩ := one_of (by have := fits7 hfit; rw [List.length_map] at h84; simp at h84; have : c.length ≠ 0 := fun e => h84 (List.length_eq_zero_iff.1 e); omega : c.length = 1)
            refine wOps_op rfl (op_fieldAddr_ref rfl rfl fo30_3 ?_)
            refine wOps_op rfl (op_load' rfl rfl rfl ta27 rfl ?_)
            refine wOps_op rfl (op_indexAddr rfl Try.underlying27 sz40 (by decide) rfl rfl rfl (show _ = some (encC c0) from rfl) ?_)
            refine wOps_op rfl (op_load_sptr rfl rfl ta40 rfl ?_)
            refine wOps_op rfl (op_call rfl rfl rfl co45 ((rIsClock_spec c0 _).mono ?_))
            rintro _ _ ⟨rfl, rfl⟩
            refine wOps_op rfl (op_move rfl rfl ?_)
            refine wOps_case (fun h90 => ?_) (fun h90 => ?_)
            ·
              refine wOps_op rfl (op_fieldAddr_ref rfl rfl fo30_3 ?_)
              refine wOps_op rfl (op_load' rfl rfl rfl ta27 rfl ?_)
              refine wOps_op rfl (op_indexAddr rfl Try.underlying27 sz40 (by decide) rfl rfl rfl (show _ = some (encC c0) from rfl) ?_)
              refine wOps_op rfl (op_load_sptr rfl rfl ta40 rfl ?_)
              refine wOps_op rfl (op_len_lst rfl Try.underlying40 rfl ?_)
              refine wOps_op rfl (op_cmp rfl rfl rfl rfl ?_)
              refine wOps_op rfl (op_pick rfl rfl rfl ?_)
              refine wOps_op rfl (op_pick rfl rfl rfl ?_)
              refine wOps_op rfl (op_assign rfl rfl ?_)
              refine wOps_nil ?_
              refine mwp_ret ?_
              exact ret_tmp (.inr rfl) Try.results23 rfl (.of_eq (by rw [isRF_mk 7]; rw [hfit, hris, s40t]; simp only [Bool.true_and, isRL, List.headD_cons, List.tail_cons]; first | rfl | (congr 1; rw [Bool.eq_iff_iff]; simp_all))) (.bool _) ⟨rfl, rfl⟩
            ·
              refine wOps_skip rfl ?_
              refine wOps_skip rfl ?_
              refine wOps_skip rfl ?_
              refine wOps_skip rfl ?_
              refine wOps_skip rfl ?_
              refine wOps_skip rfl ?_
              refine wOps_op rfl (op_pick rfl rfl rfl ?_)
              refine wOps_op rfl (op_pick rfl rfl rfl ?_)
              refine wOps_op rfl (op_assign rfl rfl ?_)
              refine wOps_nil ?_
              refine mwp_ret ?_
              exact ret_tmp (.inr rfl) Try.results23 rfl (.of_eq (by rw [isRF_mk 7]; rw [hfit, hris, s40t]; simp only [Bool.true_and, isRL, List.headD_cons, List.tail_cons]; first | rfl | (congr 1; rw [Bool.eq_iff_iff]; simp_all))) (.bool _) ⟨rfl, rfl⟩
  ·
    obtain ⟨⟨k1, i1⟩, rfl⟩ := one_ins hd.1 (by decide)
    have ih1 := ih (.mk k1 i1) (hd.2 _ (by simp))
    refine mcalls_body Try.func23 rfl Try.ntmps23 (Nat.le_of_ble_eq_true rfl) ?_
    refine mwp_seq ?_
    refine mwp_region rfl ?_
    refine wOps_op rfl (op_box' rfl rfl rfl rfl ?_)
    refine wOps_op rfl (op_box' rfl rfl rfl rfl ?_)
    refine wOps_op rfl (op_assign rfl rfl ?_)
    refine wOps_nil ?_
    refine mwp_seq ?_
    refine mwp_seq ?_
    refine mwp_region rfl ?_
    refine wOps_op rfl (op_load' rfl rfl rfl ta24 rfl ?_)
    refine wOps_op rfl (op_load' rfl rfl rfl ta30 rfl ?_)
    refine wOps_op rfl (op_call rfl rfl rfl co43 ((fits_spec 8 _ (by omega) n m s c w _).mono ?_))
    rintro _ _ ⟨rfl, rfl⟩
    refine wOps_op rfl (op_not rfl rfl ?_)
    refine wOps_op rfl (op_move rfl rfl ?_)
    refine wOps_case (fun h10 => ?_) (fun h10 => ?_)
    ·
      refine wOps_skip rfl ?_
      refine wOps_skip rfl ?_
      refine wOps_skip rfl ?_
      refine wOps_skip rfl ?_
      refine wOps_op rfl (op_pick rfl rfl rfl ?_)
      refine wOps_op rfl (op_move rfl rfl ?_)
      refine wOps_skip rfl ?_
      refine wOps_skip rfl ?_
      refine wOps_skip rfl ?_
      refine wOps_skip rfl ?_
      refine wOps_op rfl (op_pick rfl rfl rfl ?_)
      refine wOps_nil ?_
      refine mwp_cond_t rfl (rfl) ?_
      refine mwp_seq ?_
      refine mwp_region rfl ?_
      refine wOps_op rfl (op_assign rfl rfl ?_)
      refine wOps_nil ?_
      refine mwp_ret ?_
      exact ret_tmp (.inr rfl) Try.results23 rfl (.of_eq (by rw [isRF_mk 8]; congr 1; symm; first | (rw [show fitsF 8 _ = false by simpa using h10]; rfl) | (rw [show risesF s = false by simpa using h16]; simp; done) | (rw [s40f]; simp; done))) (.bool _) ⟨rfl, rfl⟩
    ·
      refine wOps_op rfl (op_fieldAddr_ref rfl rfl fo30_2 ?_)
      refine wOps_op rfl (op_load' rfl rfl rfl ta26 rfl ?_)
      refine wOps_op rfl (op_call rfl rfl rfl co44 ((rRises_spec s _).mono ?_))
      rintro _ _ ⟨rfl, rfl⟩
      refine wOps_op rfl (op_not rfl rfl ?_)
      refine wOps_op rfl (op_pick rfl rfl rfl ?_)
      refine wOps_op rfl (op_move rfl rfl ?_)
      refine wOps_case (fun h16 => ?_) (fun h16 => ?_)
      ·
        refine wOps_skip rfl ?_
        refine wOps_skip rfl ?_
        refine wOps_skip rfl ?_
        refine wOps_skip rfl ?_
        refine wOps_op rfl (op_pick rfl rfl rfl ?_)
        refine wOps_nil ?_
        refine mwp_cond_t rfl (rfl) ?_
        refine mwp_seq ?_
        refine mwp_region rfl ?_
        refine wOps_op rfl (op_assign rfl rfl ?_)
        refine wOps_nil ?_
        refine mwp_ret ?_
        exact ret_tmp (.inr rfl) Try.results23 rfl (.of_eq (by rw [isRF_mk 8]; congr 1; symm; first | (rw [show fitsF 8 _ = false by simpa using h10]; rfl) | (rw [show risesF s = false by simpa using h16]; simp; done) | (rw [s40f]; simp; done))) (.bool _) ⟨rfl, rfl⟩
      ·
        refine wOps_op rfl (op_fieldAddr_ref rfl rfl fo30_2 ?_)
        refine wOps_op rfl (op_load' rfl rfl rfl ta26 rfl ?_)
        refine wOps_op rfl (op_len_lst rfl Try.underlying26 rfl ?_)
        refine wOps_op rfl (op_cmp rfl rfl rfl rfl ?_)
        refine wOps_op rfl (op_pick rfl rfl rfl ?_)
        refine wOps_nil ?_
        refine mwp_cond_split rfl (fun h21 => ?_) (fun h21 => ?_)
        · -- yes
          have s40f := decide_eq_false (by rw [List.length_map] at h21; simp at h21; omega : ¬ s.length ≤ 40)
          refine mwp_seq ?_
          refine mwp_region rfl ?_
          refine wOps_op rfl (op_assign rfl rfl ?_)
          refine wOps_nil ?_
          refine mwp_ret ?_
          exact ret_tmp (.inr rfl) Try.results23 rfl (.of_eq (by rw [isRF_mk 8]; congr 1; symm; first | (rw [show fitsF 8 _ = false by simpa using h10]; rfl) | (rw [show risesF s = false by simpa using h16]; simp; done) | (rw [s40f]; simp; done))) (.bool _) ⟨rfl, rfl⟩
        · -- no
          have s40t := decide_eq_true (by rw [List.length_map] at h21; simp at h21; omega : s.length ≤ 40)
          have hfit : fitsF 8 (.mk n m s c w) = true := by simpa using h10
          have hris : risesF s = true := by simpa using h16
          refine mwp_skip ?_
          refine mwp_seq ?_
          refine mwp_seq ?_
          refine mwp_region rfl ?_
          refine wOps_op rfl (op_fieldAddr_ref rfl rfl fo24_0 ?_)
          refine wOps_op rfl (op_load' rfl rfl rfl ta3 rfl ?_)
          refine wOps_nil ?_
          refine mwp_block ?_
          refine mwp_seq ?_
          refine mwp_region rfl ?_
          refine wOps_op rfl (op_cmp rfl rfl rfl rfl ?_)
          refine wOps_op rfl (op_assign rfl rfl ?_)
          refine wOps_nil ?_
          refine mwp_cond_f rfl (rfl) ?_
          refine mwp_seq ?_
          refine mwp_region rfl ?_
          refine wOps_op rfl (op_cmp rfl rfl rfl rfl ?_)
          refine wOps_op rfl (op_assign rfl rfl ?_)
          refine wOps_nil ?_
          refine mwp_cond_f rfl (rfl) ?_
          refine mwp_seq ?_
          refine mwp_region rfl ?_
          refine wOps_op rfl (op_cmp rfl rfl rfl rfl ?_)
          refine wOps_op rfl (op_assign rfl rfl ?_)
          refine wOps_nil ?_
          refine mwp_cond_f rfl (rfl) ?_
          refine mwp_seq ?_
          refine mwp_region rfl ?_
          refine wOps_op rfl (op_cmp rfl rfl rfl rfl ?_)
          refine wOps_op rfl (op_assign rfl rfl ?_)
          refine wOps_nil ?_
          refine mwp_cond_t rfl (rfl) ?_
          refine mwp_seq ?_
          refine mwp_region rfl ?_
          refine wOps_op rfl (op_load' rfl rfl rfl ta24 rfl ?_)
          refine wOps_op rfl (op_load' rfl rfl rfl ta30 rfl ?_)
          refine wOps_op rfl (op_call rfl rfl rfl co46 ((sibs_spec 8 k1 i1 [] (isRF (.mk k1 i1)) ih1 n m s c w (fits8 hfit) hv.2.2.1 hvs _).mono ?_))
          rintro _ _ ⟨rfl, rfl⟩
          refine wOps_op rfl (op_assign rfl rfl ?_)
          refine wOps_nil ?_
          refine mwp_ret ?_
          exact ret_tmp (.inr rfl) Try.results23 rfl (.of_eq (by rw [isRF_mk 8]; rw [hfit, hris, s40t]; simp only [Bool.true_and, isRL, List.headD_cons, List.tail_cons]; rfl)) (.bool _) ⟨rfl, rfl⟩

theorem rValIs_spec (s : Sch) (x : Val) (hx : okV x) (S : MS) : MCalls Try.prog 10 [encS s, encV x] S fun v σ' => v = .bool (isF 16 s && isVF s x) ∧ σ' = S := by
  obtain ⟨k, ins⟩ := s
  obtain ⟨n, m, s, c, w⟩ := x
  refine mcalls_body Try.func10 rfl Try.ntmps10 (Nat.le_of_ble_eq_true rfl) ?_
  refine mwp_seq ?_
  refine mwp_region rfl ?_
  refine wOps_op rfl (op_box' rfl rfl rfl rfl ?_)
  refine wOps_op rfl (op_box' rfl rfl rfl rfl ?_)
  refine wOps_op rfl (op_assign rfl rfl ?_)
  refine wOps_nil ?_
  refine mwp_seq ?_
  refine mwp_region rfl ?_
  refine wOps_op rfl (op_load' rfl rfl rfl ta24 rfl ?_)
  refine wOps_op rfl (op_call rfl rfl rfl co19 ((rIsSchema_spec (.mk k ins) _).mono ?_))
  rintro _ _ ⟨rfl, rfl⟩
  refine wOps_op rfl (op_move rfl rfl ?_)
  refine wOps_case (fun h7 => ?_) (fun h7 => ?_)
  ·
    refine wOps_op rfl (op_load' rfl rfl rfl ta24 rfl ?_)
    refine wOps_op rfl (op_load' rfl rfl rfl ta30 rfl ?_)
    refine wOps_op rfl (op_call rfl rfl rfl co23 ((isR_spec 16 (.mk k ins) h7 (.mk n m s c w) hx _).mono ?_))
    rintro _ _ ⟨rfl, rfl⟩
    refine wOps_op rfl (op_pick rfl rfl rfl ?_)
    refine wOps_op rfl (op_assign rfl rfl ?_)
    refine wOps_nil ?_
    refine mwp_ret ?_
    exact ret_tmp (.inr rfl) Try.results10 rfl (.of_eq (by simp_all [isVF_eq 16 (.mk k ins)])) (.bool _) ⟨rfl, rfl⟩
  ·
    refine wOps_skip rfl ?_
    refine wOps_skip rfl ?_
    refine wOps_skip rfl ?_
    refine wOps_op rfl (op_pick rfl rfl rfl ?_)
    refine wOps_op rfl (op_assign rfl rfl ?_)
    refine wOps_nil ?_
    refine mwp_ret ?_
    exact ret_tmp (.inr rfl) Try.results10 rfl (.of_eq (by simp_all [isVF_eq 16 (.mk k ins)])) (.bool _) ⟨rfl, rfl⟩
end Go.Proofs.Ytihpnfpdocnniaa
