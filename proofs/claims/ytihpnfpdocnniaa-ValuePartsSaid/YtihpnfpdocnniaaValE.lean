/-
  Walks of the document's values: nothing, whether one is of a schema (layer 4).
-/
import Derived.Test.YtihpnfpdocnniaaValD
set_option linter.unusedVariables false
set_option linter.unusedSimpArgs false
set_option maxHeartbeats 400000
namespace Go.Proofs.Ytihpnfpdocnniaa
open Go Go.MV
theorem ahead_nil : ∀ b : List Tk, aheadF [] b = decide (0 < b.length)
  | [] => rfl
  | _ :: _ => rfl
theorem ahead_nil2 : ∀ a : List Tk, aheadF a [] = false
  | [] => rfl
  | _ :: _ => rfl
theorem fits_mk {n m : Int} {s : List Bs} {c : List (List Tk)} {w : List Val} (k : Int) : fitsF k (.mk n m s c w) =
  (if k = 1 then hasF (.mk n m s c w) true false false false false
  else if k = 2 then hasF (.mk n m s c w) true false false false false && decide (n ≤ 1)
  else if k = 3 then hasF (.mk n m s c w) false false true false false && shortF s
  else if k = 4 then hasF (.mk n m s c w) false false true false true && shortF s && decide (s.length = w.length)
  else if k = 5 then hasF (.mk n m s c w) false false false false true && decide (w.length = 2)
  else if k = 6 then (match s with | [] => hasF (.mk n m s c w) false false false false false | [t] => hasF (.mk n m s c w) true true true false false && decide (t.length ≤ 16) && (!(n == 0) || !(m == 0) || !(t == [])) | _ => false)
  else if k = 7 then hasF (.mk n m s c w) false false false true false && decide (c.length ≤ 1)
  else hasF (.mk n m s c w) false false false true true && decide (c.length = w.length)) := rfl
theorem fits6_one {n m : Int} {t : Bs} {c : List (List Tk)} {w : List Val} : fitsF 6 (.mk n m [t] c w) = (hasF (.mk n m [t] c w) true true true false false && decide (t.length ≤ 16) && (!(n == 0) || !(m == 0) || !(t == []))) := rfl
theorem fits6_nil {n m : Int} {c : List (List Tk)} {w : List Val} : fitsF 6 (.mk n m [] c w) = hasF (.mk n m [] c w) false false false false false := rfl
theorem fits6_no {n m : Int} {s : List Bs} {c : List (List Tk)} {w : List Val} (h : ¬ s = []) (h1 : ¬ s.length = 1) : fitsF 6 (.mk n m s c w) = false := by
  match s, h, h1 with
  | [], h, _ => exact absurd rfl h
  | [t], _, h => exact absurd rfl h
  | _ :: _ :: _, _, _ => rfl
theorem fits6_has {n m : Int} {s : List Bs} {c : List (List Tk)} {w : List Val} (h : ¬ s = []) (h1 : hasF (.mk n m s c w) true true true false false = false) : fitsF 6 (.mk n m s c w) = false := by
  match s, h, h1 with
  | [], h, _ => exact absurd rfl h
  | [t], _, h =>
    show (hasF (.mk n m [t] c w) true true true false false && _ && _) = false
    rw [h]; rfl
  | _ :: _ :: _, _, _ => rfl


theorem rBottomV_spec (d : Nat) : d ≤ 16 → ∀ (s : Sch), isF d s = true → ∀ S : MS, MCalls Try.prog 13 [encS s] S fun v σ' => v = encV (BottomF s) ∧ σ' = S := by
  induction d with
  | zero => intro _ s h; simp [isF] at h
  | succ d ih =>
  rintro h16 ⟨k, ins⟩ hd S
  have his := isF_le h16 hd
  rw [isF] at hd
  simp only [Bool.and_eq_true, List.all_eq_true, beq_iff_eq] at hd
  refine mcalls_body Try.func13 rfl Try.ntmps13 (Nat.le_of_ble_eq_true rfl) ?_
  refine mwp_seq ?_
  refine mwp_region rfl ?_
  refine wOps_op rfl (op_box' rfl rfl rfl rfl ?_)
  refine wOps_op rfl (op_alloc' rfl zm30 rfl rfl ?_)
  refine wOps_nil ?_
  refine mwp_seq ?_
  refine mwp_seq ?_
  refine mwp_region rfl ?_
  refine wOps_op rfl (op_load' rfl rfl rfl ta24 rfl ?_)
  refine wOps_op rfl (op_call rfl rfl rfl co19 ((rIsSchema_spec (.mk k ins) _).mono ?_))
  rintro _ _ ⟨rfl, rfl⟩
  rw [his]
  refine wOps_op rfl (op_not rfl rfl ?_)
  refine wOps_op rfl (op_move rfl rfl ?_)
  refine wOps_op rfl (op_fieldAddr_ref rfl rfl fo24_0 ?_)
  refine wOps_op rfl (op_load' rfl rfl rfl ta3 rfl ?_)
  refine wOps_op rfl (op_cmp rfl rfl rfl rfl ?_)
  refine wOps_op rfl (op_pick rfl rfl rfl ?_)
  refine wOps_nil ?_
  refine mwp_cond_split rfl (fun h10 => ?_) (fun h10 => ?_)
  · -- yes
    have hk : ¬ k = 5 := by simpa using h10
    have hbot : BottomF (.mk k ins) = noV := by unfold BottomF; rw [if_pos his, bottomF, if_neg hk]
    refine mwp_seq ?_
    refine mwp_region rfl ?_
    refine wOps_op rfl (op_build rfl Try.underlying30 zm30 .nil (by kernel_rfl) ?_)
    refine wOps_op rfl (op_store' rfl rfl rfl rfl sz30 rfl rfl (Nat.le_of_ble_eq_true rfl) rfl ?_)
    refine wOps_nil ?_
    refine mwp_ret ?_
    rw [hbot]
    exact ret_cell (y := encV (noV)) (.inr rfl) Try.results13 rfl rfl ta30 rfl (.agg (.cons (.refl _) (.cons (.refl _) (.cons (.nil _) (.cons (.nil _) (.cons (.nil _) .nil)))))) (cl_encV _ _) ⟨rfl, rfl⟩
  · -- no
    have hk : k = 5 := by simpa using h10
    subst hk
    obtain ⟨⟨k1, i1⟩, ⟨k2, i2⟩, rfl⟩ := two_of hd.1
    have his1 := isF_le (by omega : d ≤ 16) (hd.2 (.mk k1 i1) (by simp))
    have his2 := isF_le (by omega : d ≤ 16) (hd.2 (.mk k2 i2) (by simp))
    obtain ⟨⟨n1, m1, s1, c1, w1⟩, e1⟩ : ∃ v, BottomF (.mk k1 i1) = v := ⟨_, rfl⟩
    obtain ⟨⟨n2, m2, s2, c2, w2⟩, e2⟩ : ∃ v, BottomF (.mk k2 i2) = v := ⟨_, rfl⟩
    have ih1 := ih (by omega) (.mk k1 i1) (hd.2 _ (by simp))
    have ih2 := ih (by omega) (.mk k2 i2) (hd.2 _ (by simp))
    simp only [e1] at ih1
    simp only [e2] at ih2
    have hbot : BottomF (.mk 5 [.mk k1 i1, .mk k2 i2]) = .mk 0 0 [] [] [.mk n1 m1 s1 c1 w1, .mk n2 m2 s2 c2 w2] := by
      unfold BottomF at e1 e2 ⊢
      rw [if_pos his1] at e1
      rw [if_pos his2] at e2
      rw [if_pos his, bottomF, if_pos rfl, bottomL, bottomL, bottomL, e1, e2]
    refine mwp_skip ?_
    refine mwp_seq ?_
    refine mwp_draw [12] [_, S ++ [.cells (encS (.mk 5 [.mk k1 i1, .mk k2 i2])).cells, .cells [.int .u64 0, .int .u64 0, .lst0, .lst0, .lst none 5 [encV (.mk n1 m1 s1 c1 w1), encV (.mk n2 m2 s2 c2 w2)]]]] mo (by decide) rfl rfl rfl rfl ?_
    refine dOps_op rfl rfl (.cons (op_fieldAddr_ref rfl rfl fo24_1 ⟨rfl, rfl⟩) .nil) ?_
    refine dOps_op rfl rfl (.cons (op_load' rfl rfl rfl ta22 rfl ⟨rfl, rfl⟩) .nil) ?_
    refine dOps_op rfl rfl (.cons (op_indexAddr rfl Try.underlying22 sz24 (by decide) rfl rfl rfl (show _ = some (encS (.mk k1 i1)) from rfl) ⟨rfl, rfl⟩) .nil) ?_
    refine dOps_op rfl rfl (.cons (op_load_sptr rfl rfl ta24 rfl ⟨rfl, rfl⟩) .nil) ?_
    refine dOps_op rfl rfl (.cons (op_call rfl rfl rfl co13 (ih1 _)) .nil) ?_
    refine dOps_op rfl rfl (.cons (op_fieldAddr_ref rfl rfl fo24_1 ⟨rfl, rfl⟩) .nil) ?_
    refine dOps_op rfl rfl (.cons (op_load' rfl rfl rfl ta22 rfl ⟨rfl, rfl⟩) .nil) ?_
    refine dOps_op rfl rfl (.cons (op_indexAddr rfl Try.underlying22 sz24 (by decide) rfl rfl rfl (show _ = some (encS (.mk k2 i2)) from rfl) ⟨rfl, rfl⟩) .nil) ?_
    refine dOps_op rfl rfl (.cons (op_load_sptr rfl rfl ta24 rfl ⟨rfl, rfl⟩) .nil) ?_
    refine dOps_op rfl rfl (.cons (op_call rfl rfl rfl co13 (ih2 _)) .nil) ?_
    refine dOps_op rfl rfl (.cons (op_buildSlice rfl Try.underlying28 el30 rfl rfl (by decide) (by decide) rfl rfl ⟨rfl, rfl⟩) .nil) ?_
    refine dOps_op rfl rfl (.cons (op_build rfl Try.underlying30 zm30 (.cons fo30_4 sz28 rfl rfl (Nat.le_of_ble_eq_true rfl) .nil) (by kernel_rfl) ⟨rfl, rfl⟩) .nil) ?_
    refine dOps_eff rfl rfl rfl rfl (op_store' rfl rfl rfl rfl sz30 rfl rfl (Nat.le_of_ble_eq_true rfl) rfl ⟨rfl, rfl⟩) ?_
    refine dOps_nil ?_
    refine mwp_ret ?_
    rw [hbot]
    exact ret_cell (y := encV (.mk 0 0 [] [] [.mk n1 m1 s1 c1 w1, .mk n2 m2 s2 c2 w2])) (.inr rfl) Try.results13 rfl rfl ta30 rfl (.agg (.cons (.refl _) (.cons (.refl _) (.cons (.nil _) (.cons (.nil _) (.cons (.refl _) .nil)))))) (cl_encV _ _) ⟨rfl, rfl⟩

theorem rBottom_spec (s : Sch) (S : MS) : MCalls Try.prog 13 [encS s] S fun v σ' => v = encV (BottomF s) ∧ σ' = S := by
  by_cases h : isF 16 s = true
  · exact rBottomV_spec 16 (by omega) s h S
  · obtain ⟨k, ins⟩ := s
    replace h : isF 16 (.mk k ins) = false := by simpa using h
    have hbot : BottomF (.mk k ins) = noV := by unfold BottomF; rw [if_neg (by simp [h])]
    refine mcalls_body Try.func13 rfl Try.ntmps13 (Nat.le_of_ble_eq_true rfl) ?_
    refine mwp_seq ?_
    refine mwp_region rfl ?_
    refine wOps_op rfl (op_box' rfl rfl rfl rfl ?_)
    refine wOps_op rfl (op_alloc' rfl zm30 rfl rfl ?_)
    refine wOps_nil ?_
    refine mwp_seq ?_
    refine mwp_seq ?_
    refine mwp_region rfl ?_
    refine wOps_op rfl (op_load' rfl rfl rfl ta24 rfl ?_)
    refine wOps_op rfl (op_call rfl rfl rfl co19 ((rIsSchema_spec (.mk k ins) _).mono ?_))
    rintro _ _ ⟨rfl, rfl⟩
    rw [h]
    refine wOps_op rfl (op_not rfl rfl ?_)
    refine wOps_op rfl (op_move rfl rfl ?_)
    refine wOps_skip rfl ?_
    refine wOps_skip rfl ?_
    refine wOps_skip rfl ?_
    refine wOps_op rfl (op_pick rfl rfl rfl ?_)
    refine wOps_nil ?_
    refine mwp_cond_t rfl (rfl) ?_
    refine mwp_seq ?_
    refine mwp_region rfl ?_
    refine wOps_op rfl (op_build rfl Try.underlying30 zm30 .nil (by kernel_rfl) ?_)
    refine wOps_op rfl (op_store' rfl rfl rfl rfl sz30 rfl rfl (Nat.le_of_ble_eq_true rfl) rfl ?_)
    refine wOps_nil ?_
    refine mwp_ret ?_
    rw [hbot]
    exact ret_cell (y := encV (noV)) (.inr rfl) Try.results13 rfl rfl ta30 rfl (.agg (.cons (.refl _) (.cons (.refl _) (.cons (.nil _) (.cons (.nil _) (.cons (.nil _) .nil)))))) (cl_encV _ _) ⟨rfl, rfl⟩

theorem rNone_spec (s : Sch) (x : Val) (S : MS) : MCalls Try.prog 15 [encS s, encV x] S fun v σ' => v = .bool (noneF s x) ∧ σ' = S := by
  obtain ⟨k, ins⟩ := s
  obtain ⟨n, m, s, c, w⟩ := x
  refine mcalls_body Try.func15 rfl Try.ntmps15 (Nat.le_of_ble_eq_true rfl) ?_
  refine mwp_seq ?_
  refine mwp_region rfl ?_
  refine wOps_op rfl (op_box' rfl rfl rfl rfl ?_)
  refine wOps_op rfl (op_box' rfl rfl rfl rfl ?_)
  refine wOps_op rfl (op_assign rfl rfl ?_)
  refine wOps_nil ?_
  refine mwp_seq ?_
  refine mwp_draw [] [_] mo (by decide) rfl rfl rfl rfl ?_
  refine dOps_op rfl rfl (.cons (op_load' rfl rfl rfl ta30 rfl ⟨rfl, rfl⟩) .nil) ?_
  refine dOps_op rfl rfl (.cons (op_load' rfl rfl rfl ta24 rfl ⟨rfl, rfl⟩) .nil) ?_
  refine dOps_op rfl rfl (.cons (op_call rfl rfl rfl co13 (rBottom_spec (.mk k ins) _)) .nil) ?_
  refine dOps_op rfl rfl (.cons (op_call rfl rfl rfl co11 (rSame_spec (.mk n m s c w) (BottomF (.mk k ins)) _)) .nil) ?_
  refine dOps_op rfl rfl (.cons (op_assign rfl rfl ⟨rfl, rfl⟩) .nil) ?_
  refine dOps_nil ?_
  refine mwp_ret ?_
  exact ret_tmp (.inr rfl) Try.results15 rfl (.of_eq (by unfold noneF; congr 1; rw [Bool.eq_iff_iff]; simp only [decide_eq_true_eq]; exact eq_comm)) (.bool _) ⟨rfl, rfl⟩

theorem rRises_spec (l : List Bs) (S : MS) : MCalls Try.prog 44 [.lst none 1 (l.map encX)] S fun v σ' => v = .bool (risesF l) ∧ σ' = S := by
  refine mcalls_body Try.func44 rfl Try.ntmps44 (Nat.le_of_ble_eq_true rfl) ?_
  refine mwp_len (t := 0) rfl fun hlen => ?_
  rw [List.length_map] at hlen
  refine mwp_seq ?_
  refine mwp_region rfl ?_
  refine wOps_op rfl (op_assign rfl rfl ?_)
  refine wOps_nil ?_
  refine mwp_seq ?_
  refine mwp_seq ?_
  refine mwp_region rfl ?_
  refine wOps_op rfl (op_assign rfl rfl ?_)
  refine wOps_nil ?_
  refine mwp_block ?_
  refine mwp_loopK (α := Nat) [(0, _)] (fun j => [(3, .int .i64 ((j + 1 : Nat) : Int))]) (fun j => []) (fun j => j ≤ l.length ∧ ∀ i, i < j → i + 1 < l.length → Op.bytesLess (l.getD i []) (l.getD (i + 1) []) = true) (fun j => l.length + 1 - j) (0) (.keep rfl (.nil)) (.keep rfl (.nil)) (⟨by omega, fun i hi => by omega⟩) (rfl) ?_
  rintro j ⟨hj, hall⟩
  refine mwp_seq ?_
  refine mwp_seq ?_
  refine mwp_region rfl ?_
  refine wOps_op rfl (op_move rfl rfl ?_)
  refine wOps_op rfl (op_move rfl rfl ?_)
  refine wOps_op rfl (op_len_lst rfl Try.underlying26 rfl ?_)
  refine wOps_op rfl (op_cmp rfl rfl rfl rfl ?_)
  refine wOps_nil ?_
  refine mwp_cond_split rfl (fun h7 => ?_) (fun h7 => ?_)
  · -- yes
    have hlt : j + 1 < l.length := by rw [List.length_map] at h7; simp at h7; omega
    obtain ⟨a, hs⟩ : ∃ a, l[j]? = some a := ⟨_, List.getElem?_eq_getElem (by omega)⟩
    obtain ⟨b, hs2⟩ : ∃ a, l[j + 1]? = some a := ⟨_, List.getElem?_eq_getElem hlt⟩
    have ha : l.getD j [] = a := by simp [hs]
    have hb : l.getD (j + 1) [] = b := by simp [hs2]
    refine mwp_skip ?_
    refine mwp_seq ?_
    refine mwp_block ?_
    refine mwp_seq ?_
    refine mwp_draw [] [_] mo (by decide) rfl rfl rfl rfl ?_
    refine dOps_op rfl rfl (.cons (op_move rfl rfl ⟨rfl, rfl⟩) .nil) ?_
    refine dOps_op rfl rfl (.cons (op_move rfl rfl ⟨rfl, rfl⟩) .nil) ?_
    refine dOps_op rfl rfl (.cons (op_arith rfl rfl rfl (wsub (a := j + 1) (b := 1) (c := j) (by omega) (by simp only [maxLen] at hlen; omega)) ⟨rfl, rfl⟩) .nil) ?_
    refine dOps_op rfl rfl (.cons (op_indexAddr rfl Try.underlying26 sz9 (by decide) rfl rfl rfl (get_map hs) ⟨rfl, rfl⟩) .nil) ?_
    refine dOps_op rfl rfl (.cons (op_load_sptr rfl rfl ta9 rfl ⟨rfl, rfl⟩) .nil) ?_
    refine dOps_op rfl rfl (.cons (op_move rfl rfl ⟨rfl, rfl⟩) .nil) ?_
    refine dOps_op rfl rfl (.cons (op_move rfl rfl ⟨rfl, rfl⟩) .nil) ?_
    refine dOps_op rfl rfl (.cons (op_indexAddr rfl Try.underlying26 sz9 (by decide) rfl rfl rfl (get_map hs2) ⟨rfl, rfl⟩) .nil) ?_
    refine dOps_op rfl rfl (.cons (op_load_sptr rfl rfl ta9 rfl ⟨rfl, rfl⟩) .nil) ?_
    refine dOps_op rfl rfl (.cons (op_strcmp rfl rfl rfl rfl ⟨rfl, rfl⟩) .nil) ?_
    refine dOps_nil ?_
    refine mwp_cond_split rfl (fun h19 => ?_) (fun h19 => ?_)
    · -- yes
      refine mwp_seq ?_
      refine mwp_region rfl ?_
      refine wOps_op rfl (op_assign rfl rfl ?_)
      refine wOps_nil ?_
      refine mwp_ret ?_
      exact ret_tmp (.inr rfl) Try.results44 rfl (.of_eq (by congr 1; symm; cases h : risesF l with | false => rfl | true => (have := (rises_iff l).1 h j hlt; rw [ha, hb] at this; simp [this] at h19))) (.bool _) ⟨rfl, rfl⟩
    · -- no
      refine mwp_skip ?_
      refine mwp_region rfl ?_
      refine wOps_op rfl (op_move rfl rfl ?_)
      refine wOps_op rfl (op_arith rfl rfl rfl rfl ?_)
      refine wOps_op rfl (op_assign rfl rfl ?_)
      refine wOps_nil ?_
      refine ⟨j + 1, by omega, ⟨by omega, fun i hi hi2 => ?_⟩, rfl, (.keep rfl (.nil)), (.eq rfl (int_succ hlt hlen) (.nil))⟩
      by_cases e : i = j
      · subst e; rw [ha, hb]; simpa using h19
      · exact hall i (by omega) hi2
  · -- no
    have hge : l.length ≤ j + 1 := by rw [List.length_map] at h7; simp at h7; omega
    refine mwp_exit ?_
    refine mwp_seq ?_
    refine mwp_region rfl ?_
    refine wOps_op rfl (op_assign rfl rfl ?_)
    refine wOps_nil ?_
    refine mwp_ret ?_
    exact ret_tmp (.inr rfl) Try.results44 rfl (.of_eq (by congr 1; symm; exact (rises_iff l).2 fun i hi => hall i (by omega) hi)) (.bool _) ⟨rfl, rfl⟩

theorem rShort_spec (l : List Bs) (S : MS) : MCalls Try.prog 63 [.lst none 1 (l.map encX)] S fun v σ' => v = .bool (shortF l) ∧ σ' = S := by
  refine mcalls_body Try.func63 rfl Try.ntmps63 (Nat.le_of_ble_eq_true rfl) ?_
  refine mwp_len (t := 0) rfl fun hlen => ?_
  rw [List.length_map] at hlen
  refine mwp_seq ?_
  refine mwp_region rfl ?_
  refine wOps_op rfl (op_assign rfl rfl ?_)
  refine wOps_nil ?_
  refine mwp_seq ?_
  refine mwp_seq ?_
  refine mwp_region rfl ?_
  refine wOps_op rfl (op_assign rfl rfl ?_)
  refine wOps_nil ?_
  refine mwp_block ?_
  refine mwp_loopK (α := Nat) [(0, _)] (fun i => [(3, .int .i64 (i : Int))]) (fun i => []) (fun i => i ≤ l.length ∧ shortF (l.take i) = true) (fun i => l.length - i) (0) (.keep rfl (.nil)) (.keep rfl (.nil)) (⟨by omega, rfl⟩) (rfl) ?_
  rintro i ⟨hi, hall⟩
  refine mwp_seq ?_
  refine mwp_seq ?_
  refine mwp_region rfl ?_
  refine wOps_op rfl (op_move rfl rfl ?_)
  refine wOps_op rfl (op_move rfl rfl ?_)
  refine wOps_op rfl (op_len_lst rfl Try.underlying26 rfl ?_)
  refine wOps_op rfl (op_cmp rfl rfl rfl rfl ?_)
  refine wOps_nil ?_
  refine mwp_cond_split rfl (fun h7 => ?_) (fun h7 => ?_)
  · -- yes
    have hlt : i < l.length := by simpa using h7
    obtain ⟨s, hs⟩ : ∃ q_, l[i]? = some q_ := ⟨_, List.getElem?_eq_getElem hlt⟩
    refine mwp_skip ?_
    refine mwp_seq ?_
    refine mwp_block ?_
    refine mwp_seq ?_
    refine mwp_region rfl ?_
    refine wOps_op rfl (op_move rfl rfl ?_)
    refine wOps_op rfl (op_move rfl rfl ?_)
    refine wOps_op rfl (op_indexAddr rfl Try.underlying26 sz9 (by decide) rfl rfl rfl (get_map hs) ?_)
    refine wOps_op rfl (op_load_sptr rfl rfl ta9 rfl ?_)
    refine wOps_op rfl (op_len_bs rfl Try.underlying9 rfl ?_)
    refine wOps_op rfl (op_cmp rfl rfl rfl rfl ?_)
    refine wOps_nil ?_
    refine mwp_cond_split rfl (fun h15 => ?_) (fun h15 => ?_)
    · -- yes
      refine mwp_seq ?_
      refine mwp_region rfl ?_
      refine wOps_op rfl (op_assign rfl rfl ?_)
      refine wOps_nil ?_
      refine mwp_ret ?_
      exact ret_tmp (.inr rfl) Try.results63 rfl (.of_eq (by congr 1; symm; unfold shortF; rw [List.all_eq_false]; exact ⟨s, List.mem_of_getElem? hs, by simp at h15; simp; omega⟩)) (.bool _) ⟨rfl, rfl⟩
    · -- no
      refine mwp_skip ?_
      refine mwp_region rfl ?_
      refine wOps_op rfl (op_move rfl rfl ?_)
      refine wOps_op rfl (op_arith rfl rfl rfl rfl ?_)
      refine wOps_op rfl (op_assign rfl rfl ?_)
      refine wOps_nil ?_
      refine ⟨i + 1, by omega, ⟨by omega, ?_⟩, rfl, (.keep rfl (.nil)), (.eq rfl (int_succ hlt hlen) (.nil))⟩
      unfold shortF at hall ⊢
      rw [List.take_add_one, hs, List.all_append, hall]
      simp at h15
      simp
      omega
  · -- no
    have hge : i = l.length := by simp at h7; omega
    refine mwp_exit ?_
    refine mwp_seq ?_
    refine mwp_region rfl ?_
    refine wOps_op rfl (op_assign rfl rfl ?_)
    refine wOps_nil ?_
    refine mwp_ret ?_
    exact ret_tmp (.inr rfl) Try.results63 rfl (.of_eq (by rw [hge, List.take_length] at hall; rw [hall])) (.bool _) ⟨rfl, rfl⟩

theorem has_spec (n m : Int) (s : List Bs) (c : List (List Tk)) (w : List Val) (f1 f2 f3 f4 f5 : Bool) (S : MS) : MCalls Try.prog 62 [encV (.mk n m s c w), .bool f1, .bool f2, .bool f3, .bool f4, .bool f5] S fun v σ' => v = .bool (hasF (.mk n m s c w) f1 f2 f3 f4 f5) ∧ σ' = S := by
  refine mcalls_body Try.func62 rfl Try.ntmps62 (Nat.le_of_ble_eq_true rfl) ?_
  refine mwp_seq ?_
  refine mwp_region rfl ?_
  refine wOps_op rfl (op_box' rfl rfl rfl rfl ?_)
  refine wOps_op rfl (op_assign rfl rfl ?_)
  refine wOps_nil ?_
  refine mwp_seq ?_
  refine mwp_region rfl ?_
  refine wOps_op rfl (op_move rfl rfl ?_)
  refine wOps_op rfl (op_move rfl rfl ?_)
  refine wOps_case (fun h14 => ?_) (fun h14 => ?_)
  ·
    refine wOps_skip rfl ?_
    refine wOps_skip rfl ?_
    refine wOps_skip rfl ?_
    refine wOps_op rfl (op_pick rfl rfl rfl ?_)
    refine wOps_op rfl (op_move rfl rfl ?_)
    refine wOps_op rfl (op_move rfl rfl ?_)
    refine wOps_op rfl (op_move rfl rfl ?_)
    refine wOps_case (fun h21 => ?_) (fun h21 => ?_)
    ·
      refine wOps_skip rfl ?_
      refine wOps_skip rfl ?_
      refine wOps_skip rfl ?_
      refine wOps_op rfl (op_pick rfl rfl rfl ?_)
      refine wOps_op rfl (op_pick rfl rfl rfl ?_)
      refine wOps_op rfl (op_move rfl rfl ?_)
      refine wOps_op rfl (op_move rfl rfl ?_)
      refine wOps_op rfl (op_move rfl rfl ?_)
      refine wOps_case (fun h29 => ?_) (fun h29 => ?_)
      ·
        refine wOps_skip rfl ?_
        refine wOps_skip rfl ?_
        refine wOps_skip rfl ?_
        refine wOps_skip rfl ?_
        refine wOps_op rfl (op_pick rfl rfl rfl ?_)
        refine wOps_op rfl (op_pick rfl rfl rfl ?_)
        refine wOps_op rfl (op_move rfl rfl ?_)
        refine wOps_op rfl (op_move rfl rfl ?_)
        refine wOps_op rfl (op_move rfl rfl ?_)
        refine wOps_case (fun h38 => ?_) (fun h38 => ?_)
        ·
          refine wOps_skip rfl ?_
          refine wOps_skip rfl ?_
          refine wOps_skip rfl ?_
          refine wOps_skip rfl ?_
          refine wOps_op rfl (op_pick rfl rfl rfl ?_)
          refine wOps_op rfl (op_pick rfl rfl rfl ?_)
          refine wOps_op rfl (op_move rfl rfl ?_)
          refine wOps_op rfl (op_move rfl rfl ?_)
          refine wOps_op rfl (op_move rfl rfl ?_)
          refine wOps_case (fun h47 => ?_) (fun h47 => ?_)
          ·
            refine wOps_skip rfl ?_
            refine wOps_skip rfl ?_
            refine wOps_skip rfl ?_
            refine wOps_skip rfl ?_
            refine wOps_op rfl (op_pick rfl rfl rfl ?_)
            refine wOps_op rfl (op_pick rfl rfl rfl ?_)
            refine wOps_op rfl (op_assign rfl rfl ?_)
            refine wOps_nil ?_
            refine mwp_ret ?_
            exact ret_tmp (.inr rfl) Try.results62 rfl (.of_eq (by congr 1; rw [Bool.eq_iff_iff]; simp_all [hasF, Val.nv, Val.mv, Val.sv, Val.cv, Val.vv])) (.bool _) ⟨rfl, rfl⟩
          ·
            refine wOps_op rfl (op_fieldAddr_ref rfl rfl fo30_4 ?_)
            refine wOps_op rfl (op_load' rfl rfl rfl ta28 rfl ?_)
            refine wOps_op rfl (op_len_lst rfl Try.underlying28 rfl ?_)
            try rw [encVs_length]
            refine wOps_op rfl (op_cmp rfl rfl rfl rfl ?_)
            refine wOps_op rfl (op_pick rfl rfl rfl ?_)
            refine wOps_op rfl (op_pick rfl rfl rfl ?_)
            refine wOps_op rfl (op_assign rfl rfl ?_)
            refine wOps_nil ?_
            refine mwp_ret ?_
            exact ret_tmp (.inr rfl) Try.results62 rfl (.of_eq (by congr 1; rw [Bool.eq_iff_iff]; simp_all [hasF, Val.nv, Val.mv, Val.sv, Val.cv, Val.vv])) (.bool _) ⟨rfl, rfl⟩
        ·
          refine wOps_op rfl (op_fieldAddr_ref rfl rfl fo30_3 ?_)
          refine wOps_op rfl (op_load' rfl rfl rfl ta27 rfl ?_)
          refine wOps_op rfl (op_len_lst rfl Try.underlying27 rfl ?_)
          refine wOps_op rfl (op_cmp rfl rfl rfl rfl ?_)
          refine wOps_op rfl (op_pick rfl rfl rfl ?_)
          refine wOps_op rfl (op_pick rfl rfl rfl ?_)
          refine wOps_op rfl (op_move rfl rfl ?_)
          refine wOps_case (fun h45 => ?_) (fun h45 => ?_)
          ·
            refine wOps_op rfl (op_move rfl rfl ?_)
            refine wOps_op rfl (op_move rfl rfl ?_)
            refine wOps_case (fun h47 => ?_) (fun h47 => ?_)
            ·
              refine wOps_skip rfl ?_
              refine wOps_skip rfl ?_
              refine wOps_skip rfl ?_
              refine wOps_skip rfl ?_
              refine wOps_op rfl (op_pick rfl rfl rfl ?_)
              refine wOps_op rfl (op_pick rfl rfl rfl ?_)
              refine wOps_op rfl (op_assign rfl rfl ?_)
              refine wOps_nil ?_
              refine mwp_ret ?_
              exact ret_tmp (.inr rfl) Try.results62 rfl (.of_eq (by congr 1; rw [Bool.eq_iff_iff]; simp_all [hasF, Val.nv, Val.mv, Val.sv, Val.cv, Val.vv])) (.bool _) ⟨rfl, rfl⟩
            ·
              refine wOps_op rfl (op_fieldAddr_ref rfl rfl fo30_4 ?_)
              refine wOps_op rfl (op_load' rfl rfl rfl ta28 rfl ?_)
              refine wOps_op rfl (op_len_lst rfl Try.underlying28 rfl ?_)
              try rw [encVs_length]
              refine wOps_op rfl (op_cmp rfl rfl rfl rfl ?_)
              refine wOps_op rfl (op_pick rfl rfl rfl ?_)
              refine wOps_op rfl (op_pick rfl rfl rfl ?_)
              refine wOps_op rfl (op_assign rfl rfl ?_)
              refine wOps_nil ?_
              refine mwp_ret ?_
              exact ret_tmp (.inr rfl) Try.results62 rfl (.of_eq (by congr 1; rw [Bool.eq_iff_iff]; simp_all [hasF, Val.nv, Val.mv, Val.sv, Val.cv, Val.vv])) (.bool _) ⟨rfl, rfl⟩
          ·
            refine wOps_skip rfl ?_
            refine wOps_skip rfl ?_
            refine wOps_skip rfl ?_
            refine wOps_skip rfl ?_
            refine wOps_skip rfl ?_
            refine wOps_skip rfl ?_
            refine wOps_skip rfl ?_
            refine wOps_op rfl (op_pick rfl rfl rfl ?_)
            refine wOps_op rfl (op_assign rfl rfl ?_)
            refine wOps_nil ?_
            refine mwp_ret ?_
            exact ret_tmp (.inr rfl) Try.results62 rfl (.of_eq (by congr 1; rw [Bool.eq_iff_iff]; simp_all [hasF, Val.nv, Val.mv, Val.sv, Val.cv, Val.vv])) (.bool _) ⟨rfl, rfl⟩
      ·
        refine wOps_op rfl (op_fieldAddr_ref rfl rfl fo30_2 ?_)
        refine wOps_op rfl (op_load' rfl rfl rfl ta26 rfl ?_)
        refine wOps_op rfl (op_len_lst rfl Try.underlying26 rfl ?_)
        refine wOps_op rfl (op_cmp rfl rfl rfl rfl ?_)
        refine wOps_op rfl (op_pick rfl rfl rfl ?_)
        refine wOps_op rfl (op_pick rfl rfl rfl ?_)
        refine wOps_op rfl (op_move rfl rfl ?_)
        refine wOps_case (fun h36 => ?_) (fun h36 => ?_)
        ·
          refine wOps_op rfl (op_move rfl rfl ?_)
          refine wOps_op rfl (op_move rfl rfl ?_)
          refine wOps_case (fun h38 => ?_) (fun h38 => ?_)
          ·
            refine wOps_skip rfl ?_
            refine wOps_skip rfl ?_
            refine wOps_skip rfl ?_
            refine wOps_skip rfl ?_
            refine wOps_op rfl (op_pick rfl rfl rfl ?_)
            refine wOps_op rfl (op_pick rfl rfl rfl ?_)
            refine wOps_op rfl (op_move rfl rfl ?_)
            refine wOps_op rfl (op_move rfl rfl ?_)
            refine wOps_op rfl (op_move rfl rfl ?_)
            refine wOps_case (fun h47 => ?_) (fun h47 => ?_)
            ·
              refine wOps_skip rfl ?_
              refine wOps_skip rfl ?_
              refine wOps_skip rfl ?_
              refine wOps_skip rfl ?_
              refine wOps_op rfl (op_pick rfl rfl rfl ?_)
              refine wOps_op rfl (op_pick rfl rfl rfl ?_)
              refine wOps_op rfl (op_assign rfl rfl ?_)
              refine wOps_nil ?_
              refine mwp_ret ?_
              exact ret_tmp (.inr rfl) Try.results62 rfl (.of_eq (by congr 1; rw [Bool.eq_iff_iff]; simp_all [hasF, Val.nv, Val.mv, Val.sv, Val.cv, Val.vv])) (.bool _) ⟨rfl, rfl⟩
            ·
              refine wOps_op rfl (op_fieldAddr_ref rfl rfl fo30_4 ?_)
              refine wOps_op rfl (op_load' rfl rfl rfl ta28 rfl ?_)
              refine wOps_op rfl (op_len_lst rfl Try.underlying28 rfl ?_)
              try rw [encVs_length]
              refine wOps_op rfl (op_cmp rfl rfl rfl rfl ?_)
              refine wOps_op rfl (op_pick rfl rfl rfl ?_)
              refine wOps_op rfl (op_pick rfl rfl rfl ?_)
              refine wOps_op rfl (op_assign rfl rfl ?_)
              refine wOps_nil ?_
              refine mwp_ret ?_
              exact ret_tmp (.inr rfl) Try.results62 rfl (.of_eq (by congr 1; rw [Bool.eq_iff_iff]; simp_all [hasF, Val.nv, Val.mv, Val.sv, Val.cv, Val.vv])) (.bool _) ⟨rfl, rfl⟩
          ·
            refine wOps_op rfl (op_fieldAddr_ref rfl rfl fo30_3 ?_)
            refine wOps_op rfl (op_load' rfl rfl rfl ta27 rfl ?_)
            refine wOps_op rfl (op_len_lst rfl Try.underlying27 rfl ?_)
            refine wOps_op rfl (op_cmp rfl rfl rfl rfl ?_)
            refine wOps_op rfl (op_pick rfl rfl rfl ?_)
            refine wOps_op rfl (op_pick rfl rfl rfl ?_)
            refine wOps_op rfl (op_move rfl rfl ?_)
            refine wOps_case (fun h45 => ?_) (fun h45 => ?_)
            ·
              refine wOps_op rfl (op_move rfl rfl ?_)
              refine wOps_op rfl (op_move rfl rfl ?_)
              refine wOps_case (fun h47 => ?_) (fun h47 => ?_)
              ·
                refine wOps_skip rfl ?_
                refine wOps_skip rfl ?_
                refine wOps_skip rfl ?_
                refine wOps_skip rfl ?_
                refine wOps_op rfl (op_pick rfl rfl rfl ?_)
                refine wOps_op rfl (op_pick rfl rfl rfl ?_)
                refine wOps_op rfl (op_assign rfl rfl ?_)
                refine wOps_nil ?_
                refine mwp_ret ?_
                exact ret_tmp (.inr rfl) Try.results62 rfl (.of_eq (by congr 1; rw [Bool.eq_iff_iff]; simp_all [hasF, Val.nv, Val.mv, Val.sv, Val.cv, Val.vv])) (.bool _) ⟨rfl, rfl⟩
              ·
                refine wOps_op rfl (op_fieldAddr_ref rfl rfl fo30_4 ?_)
                refine wOps_op rfl (op_load' rfl rfl rfl ta28 rfl ?_)
                refine wOps_op rfl (op_len_lst rfl Try.underlying28 rfl ?_)
                try rw [encVs_length]
                refine wOps_op rfl (op_cmp rfl rfl rfl rfl ?_)
                refine wOps_op rfl (op_pick rfl rfl rfl ?_)
                refine wOps_op rfl (op_pick rfl rfl rfl ?_)
                refine wOps_op rfl (op_assign rfl rfl ?_)
                refine wOps_nil ?_
                refine mwp_ret ?_
                exact ret_tmp (.inr rfl) Try.results62 rfl (.of_eq (by congr 1; rw [Bool.eq_iff_iff]; simp_all [hasF, Val.nv, Val.mv, Val.sv, Val.cv, Val.vv])) (.bool _) ⟨rfl, rfl⟩
            ·
              refine wOps_skip rfl ?_
              refine wOps_skip rfl ?_
              refine wOps_skip rfl ?_
              refine wOps_skip rfl ?_
              refine wOps_skip rfl ?_
              refine wOps_skip rfl ?_
              refine wOps_skip rfl ?_
              refine wOps_op rfl (op_pick rfl rfl rfl ?_)
              refine wOps_op rfl (op_assign rfl rfl ?_)
              refine wOps_nil ?_
              refine mwp_ret ?_
              exact ret_tmp (.inr rfl) Try.results62 rfl (.of_eq (by congr 1; rw [Bool.eq_iff_iff]; simp_all [hasF, Val.nv, Val.mv, Val.sv, Val.cv, Val.vv])) (.bool _) ⟨rfl, rfl⟩
        ·
          refine wOps_skip rfl ?_
          refine wOps_skip rfl ?_
          refine wOps_skip rfl ?_
          refine wOps_skip rfl ?_
          refine wOps_skip rfl ?_
          refine wOps_skip rfl ?_
          refine wOps_skip rfl ?_
          refine wOps_op rfl (op_pick rfl rfl rfl ?_)
          refine wOps_op rfl (op_move rfl rfl ?_)
          refine wOps_skip rfl ?_
          refine wOps_skip rfl ?_
          refine wOps_skip rfl ?_
          refine wOps_skip rfl ?_
          refine wOps_skip rfl ?_
          refine wOps_skip rfl ?_
          refine wOps_skip rfl ?_
          refine wOps_op rfl (op_pick rfl rfl rfl ?_)
          refine wOps_op rfl (op_assign rfl rfl ?_)
          refine wOps_nil ?_
          refine mwp_ret ?_
          exact ret_tmp (.inr rfl) Try.results62 rfl (.of_eq (by congr 1; rw [Bool.eq_iff_iff]; simp_all [hasF, Val.nv, Val.mv, Val.sv, Val.cv, Val.vv])) (.bool _) ⟨rfl, rfl⟩
    ·
      refine wOps_op rfl (op_fieldAddr_ref rfl rfl fo30_1 ?_)
      refine wOps_op rfl (op_load' rfl rfl rfl ta25 rfl ?_)
      refine wOps_op rfl (op_cmp rfl rfl rfl rfl ?_)
      refine wOps_op rfl (op_pick rfl rfl rfl ?_)
      refine wOps_op rfl (op_pick rfl rfl rfl ?_)
      refine wOps_op rfl (op_move rfl rfl ?_)
      refine wOps_case (fun h27 => ?_) (fun h27 => ?_)
      ·
        refine wOps_op rfl (op_move rfl rfl ?_)
        refine wOps_op rfl (op_move rfl rfl ?_)
        refine wOps_case (fun h29 => ?_) (fun h29 => ?_)
        ·
          refine wOps_skip rfl ?_
          refine wOps_skip rfl ?_
          refine wOps_skip rfl ?_
          refine wOps_skip rfl ?_
          refine wOps_op rfl (op_pick rfl rfl rfl ?_)
          refine wOps_op rfl (op_pick rfl rfl rfl ?_)
          refine wOps_op rfl (op_move rfl rfl ?_)
          refine wOps_op rfl (op_move rfl rfl ?_)
          refine wOps_op rfl (op_move rfl rfl ?_)
          refine wOps_case (fun h38 => ?_) (fun h38 => ?_)
          ·
            refine wOps_skip rfl ?_
            refine wOps_skip rfl ?_
            refine wOps_skip rfl ?_
            refine wOps_skip rfl ?_
            refine wOps_op rfl (op_pick rfl rfl rfl ?_)
            refine wOps_op rfl (op_pick rfl rfl rfl ?_)
            refine wOps_op rfl (op_move rfl rfl ?_)
            refine wOps_op rfl (op_move rfl rfl ?_)
            refine wOps_op rfl (op_move rfl rfl ?_)
            refine wOps_case (fun h47 => ?_) (fun h47 => ?_)
            ·
              refine wOps_skip rfl ?_
              refine wOps_skip rfl ?_
              refine wOps_skip rfl ?_
              refine wOps_skip rfl ?_
              refine wOps_op rfl (op_pick rfl rfl rfl ?_)
              refine wOps_op rfl (op_pick rfl rfl rfl ?_)
              refine wOps_op rfl (op_assign rfl rfl ?_)
              refine wOps_nil ?_
              refine mwp_ret ?_
              exact ret_tmp (.inr rfl) Try.results62 rfl (.of_eq (by congr 1; rw [Bool.eq_iff_iff]; simp_all [hasF, Val.nv, Val.mv, Val.sv, Val.cv, Val.vv])) (.bool _) ⟨rfl, rfl⟩
            ·
              refine wOps_op rfl (op_fieldAddr_ref rfl rfl fo30_4 ?_)
              refine wOps_op rfl (op_load' rfl rfl rfl ta28 rfl ?_)
              refine wOps_op rfl (op_len_lst rfl Try.underlying28 rfl ?_)
              try rw [encVs_length]
              refine wOps_op rfl (op_cmp rfl rfl rfl rfl ?_)
              refine wOps_op rfl (op_pick rfl rfl rfl ?_)
              refine wOps_op rfl (op_pick rfl rfl rfl ?_)
              refine wOps_op rfl (op_assign rfl rfl ?_)
              refine wOps_nil ?_
              refine mwp_ret ?_
              exact ret_tmp (.inr rfl) Try.results62 rfl (.of_eq (by congr 1; rw [Bool.eq_iff_iff]; simp_all [hasF, Val.nv, Val.mv, Val.sv, Val.cv, Val.vv])) (.bool _) ⟨rfl, rfl⟩
          ·
            refine wOps_op rfl (op_fieldAddr_ref rfl rfl fo30_3 ?_)
            refine wOps_op rfl (op_load' rfl rfl rfl ta27 rfl ?_)
            refine wOps_op rfl (op_len_lst rfl Try.underlying27 rfl ?_)
            refine wOps_op rfl (op_cmp rfl rfl rfl rfl ?_)
            refine wOps_op rfl (op_pick rfl rfl rfl ?_)
            refine wOps_op rfl (op_pick rfl rfl rfl ?_)
            refine wOps_op rfl (op_move rfl rfl ?_)
            refine wOps_case (fun h45 => ?_) (fun h45 => ?_)
            ·
              refine wOps_op rfl (op_move rfl rfl ?_)
              refine wOps_op rfl (op_move rfl rfl ?_)
              refine wOps_case (fun h47 => ?_) (fun h47 => ?_)
              ·
                refine wOps_skip rfl ?_
                refine wOps_skip rfl ?_
                refine wOps_skip rfl ?_
                refine wOps_skip rfl ?_
                refine wOps_op rfl (op_pick rfl rfl rfl ?_)
                refine wOps_op rfl (op_pick rfl rfl rfl ?_)
                refine wOps_op rfl (op_assign rfl rfl ?_)
                refine wOps_nil ?_
                refine mwp_ret ?_
                exact ret_tmp (.inr rfl) Try.results62 rfl (.of_eq (by congr 1; rw [Bool.eq_iff_iff]; simp_all [hasF, Val.nv, Val.mv, Val.sv, Val.cv, Val.vv])) (.bool _) ⟨rfl, rfl⟩
              ·
                refine wOps_op rfl (op_fieldAddr_ref rfl rfl fo30_4 ?_)
                refine wOps_op rfl (op_load' rfl rfl rfl ta28 rfl ?_)
                refine wOps_op rfl (op_len_lst rfl Try.underlying28 rfl ?_)
                try rw [encVs_length]
                refine wOps_op rfl (op_cmp rfl rfl rfl rfl ?_)
                refine wOps_op rfl (op_pick rfl rfl rfl ?_)
                refine wOps_op rfl (op_pick rfl rfl rfl ?_)
                refine wOps_op rfl (op_assign rfl rfl ?_)
                refine wOps_nil ?_
                refine mwp_ret ?_
                exact ret_tmp (.inr rfl) Try.results62 rfl (.of_eq (by congr 1; rw [Bool.eq_iff_iff]; simp_all [hasF, Val.nv, Val.mv, Val.sv, Val.cv, Val.vv])) (.bool _) ⟨rfl, rfl⟩
            ·
              refine wOps_skip rfl ?_
              refine wOps_skip rfl ?_
              refine wOps_skip rfl ?_
              refine wOps_skip rfl ?_
              refine wOps_skip rfl ?_
              refine wOps_skip rfl ?_
              refine wOps_skip rfl ?_
              refine wOps_op rfl (op_pick rfl rfl rfl ?_)
              refine wOps_op rfl (op_assign rfl rfl ?_)
              refine wOps_nil ?_
              refine mwp_ret ?_
              exact ret_tmp (.inr rfl) Try.results62 rfl (.of_eq (by congr 1; rw [Bool.eq_iff_iff]; simp_all [hasF, Val.nv, Val.mv, Val.sv, Val.cv, Val.vv])) (.bool _) ⟨rfl, rfl⟩
        ·
          refine wOps_op rfl (op_fieldAddr_ref rfl rfl fo30_2 ?_)
          refine wOps_op rfl (op_load' rfl rfl rfl ta26 rfl ?_)
          refine wOps_op rfl (op_len_lst rfl Try.underlying26 rfl ?_)
          refine wOps_op rfl (op_cmp rfl rfl rfl rfl ?_)
          refine wOps_op rfl (op_pick rfl rfl rfl ?_)
          refine wOps_op rfl (op_pick rfl rfl rfl ?_)
          refine wOps_op rfl (op_move rfl rfl ?_)
          refine wOps_case (fun h36 => ?_) (fun h36 => ?_)
          ·
            refine wOps_op rfl (op_move rfl rfl ?_)
            refine wOps_op rfl (op_move rfl rfl ?_)
            refine wOps_case (fun h38 => ?_) (fun h38 => ?_)
            ·
              refine wOps_skip rfl ?_
              refine wOps_skip rfl ?_
              refine wOps_skip rfl ?_
              refine wOps_skip rfl ?_
              refine wOps_op rfl (op_pick rfl rfl rfl ?_)
              refine wOps_op rfl (op_pick rfl rfl rfl ?_)
              refine wOps_op rfl (op_move rfl rfl ?_)
              refine wOps_op rfl (op_move rfl rfl ?_)
              refine wOps_op rfl (op_move rfl rfl ?_)
              refine wOps_case (fun h47 => ?_) (fun h47 => ?_)
              ·
                refine wOps_skip rfl ?_
                refine wOps_skip rfl ?_
                refine wOps_skip rfl ?_
                refine wOps_skip rfl ?_
                refine wOps_op rfl (op_pick rfl rfl rfl ?_)
                refine wOps_op rfl (op_pick rfl rfl rfl ?_)
                refine wOps_op rfl (op_assign rfl rfl ?_)
                refine wOps_nil ?_
                refine mwp_ret ?_
                exact ret_tmp (.inr rfl) Try.results62 rfl (.of_eq (by congr 1; rw [Bool.eq_iff_iff]; simp_all [hasF, Val.nv, Val.mv, Val.sv, Val.cv, Val.vv])) (.bool _) ⟨rfl, rfl⟩
              ·
                refine wOps_op rfl (op_fieldAddr_ref rfl rfl fo30_4 ?_)
                refine wOps_op rfl (op_load' rfl rfl rfl ta28 rfl ?_)
                refine wOps_op rfl (op_len_lst rfl Try.underlying28 rfl ?_)
                try rw [encVs_length]
                refine wOps_op rfl (op_cmp rfl rfl rfl rfl ?_)
                refine wOps_op rfl (op_pick rfl rfl rfl ?_)
                refine wOps_op rfl (op_pick rfl rfl rfl ?_)
                refine wOps_op rfl (op_assign rfl rfl ?_)
                refine wOps_nil ?_
                refine mwp_ret ?_
                exact ret_tmp (.inr rfl) Try.results62 rfl (.of_eq (by congr 1; rw [Bool.eq_iff_iff]; simp_all [hasF, Val.nv, Val.mv, Val.sv, Val.cv, Val.vv])) (.bool _) ⟨rfl, rfl⟩
            ·
              refine wOps_op rfl (op_fieldAddr_ref rfl rfl fo30_3 ?_)
              refine wOps_op rfl (op_load' rfl rfl rfl ta27 rfl ?_)
              refine wOps_op rfl (op_len_lst rfl Try.underlying27 rfl ?_)
              refine wOps_op rfl (op_cmp rfl rfl rfl rfl ?_)
              refine wOps_op rfl (op_pick rfl rfl rfl ?_)
              refine wOps_op rfl (op_pick rfl rfl rfl ?_)
              refine wOps_op rfl (op_move rfl rfl ?_)
              refine wOps_case (fun h45 => ?_) (fun h45 => ?_)
              ·
                refine wOps_op rfl (op_move rfl rfl ?_)
                refine wOps_op rfl (op_move rfl rfl ?_)
                refine wOps_case (fun h47 => ?_) (fun h47 => ?_)
                ·
                  refine wOps_skip rfl ?_
                  refine wOps_skip rfl ?_
                  refine wOps_skip rfl ?_
                  refine wOps_skip rfl ?_
                  refine wOps_op rfl (op_pick rfl rfl rfl ?_)
                  refine wOps_op rfl (op_pick rfl rfl rfl ?_)
                  refine wOps_op rfl (op_assign rfl rfl ?_)
                  refine wOps_nil ?_
                  refine mwp_ret ?_
                  exact ret_tmp (.inr rfl) Try.results62 rfl (.of_eq (by congr 1; rw [Bool.eq_iff_iff]; simp_all [hasF, Val.nv, Val.mv, Val.sv, Val.cv, Val.vv])) (.bool _) ⟨rfl, rfl⟩
                ·
                  refine wOps_op rfl (op_fieldAddr_ref rfl rfl fo30_4 ?_)
                  refine wOps_op rfl (op_load' rfl rfl rfl ta28 rfl ?_)
                  refine wOps_op rfl (op_len_lst rfl Try.underlying28 rfl ?_)
                  try rw [encVs_length]
                  refine wOps_op rfl (op_cmp rfl rfl rfl rfl ?_)
                  refine wOps_op rfl (op_pick rfl rfl rfl ?_)
                  refine wOps_op rfl (op_pick rfl rfl rfl ?_)
                  refine wOps_op rfl (op_assign rfl rfl ?_)
                  refine wOps_nil ?_
                  refine mwp_ret ?_
                  exact ret_tmp (.inr rfl) Try.results62 rfl (.of_eq (by congr 1; rw [Bool.eq_iff_iff]; simp_all [hasF, Val.nv, Val.mv, Val.sv, Val.cv, Val.vv])) (.bool _) ⟨rfl, rfl⟩
              ·
                refine wOps_skip rfl ?_
                refine wOps_skip rfl ?_
                refine wOps_skip rfl ?_
                refine wOps_skip rfl ?_
                refine wOps_skip rfl ?_
                refine wOps_skip rfl ?_
                refine wOps_skip rfl ?_
                refine wOps_op rfl (op_pick rfl rfl rfl ?_)
                refine wOps_op rfl (op_assign rfl rfl ?_)
                refine wOps_nil ?_
                refine mwp_ret ?_
                exact ret_tmp (.inr rfl) Try.results62 rfl (.of_eq (by congr 1; rw [Bool.eq_iff_iff]; simp_all [hasF, Val.nv, Val.mv, Val.sv, Val.cv, Val.vv])) (.bool _) ⟨rfl, rfl⟩
          ·
            refine wOps_skip rfl ?_
            refine wOps_skip rfl ?_
            refine wOps_skip rfl ?_
            refine wOps_skip rfl ?_
            refine wOps_skip rfl ?_
            refine wOps_skip rfl ?_
            refine wOps_skip rfl ?_
            refine wOps_op rfl (op_pick rfl rfl rfl ?_)
            refine wOps_op rfl (op_move rfl rfl ?_)
            refine wOps_skip rfl ?_
            refine wOps_skip rfl ?_
            refine wOps_skip rfl ?_
            refine wOps_skip rfl ?_
            refine wOps_skip rfl ?_
            refine wOps_skip rfl ?_
            refine wOps_skip rfl ?_
            refine wOps_op rfl (op_pick rfl rfl rfl ?_)
            refine wOps_op rfl (op_assign rfl rfl ?_)
            refine wOps_nil ?_
            refine mwp_ret ?_
            exact ret_tmp (.inr rfl) Try.results62 rfl (.of_eq (by congr 1; rw [Bool.eq_iff_iff]; simp_all [hasF, Val.nv, Val.mv, Val.sv, Val.cv, Val.vv])) (.bool _) ⟨rfl, rfl⟩
      ·
        refine wOps_skip rfl ?_
        refine wOps_skip rfl ?_
        refine wOps_skip rfl ?_
        refine wOps_skip rfl ?_
        refine wOps_skip rfl ?_
        refine wOps_skip rfl ?_
        refine wOps_skip rfl ?_
        refine wOps_op rfl (op_pick rfl rfl rfl ?_)
        refine wOps_op rfl (op_move rfl rfl ?_)
        refine wOps_skip rfl ?_
        refine wOps_skip rfl ?_
        refine wOps_skip rfl ?_
        refine wOps_skip rfl ?_
        refine wOps_skip rfl ?_
        refine wOps_skip rfl ?_
        refine wOps_skip rfl ?_
        refine wOps_op rfl (op_pick rfl rfl rfl ?_)
        refine wOps_op rfl (op_move rfl rfl ?_)
        refine wOps_skip rfl ?_
        refine wOps_skip rfl ?_
        refine wOps_skip rfl ?_
        refine wOps_skip rfl ?_
        refine wOps_skip rfl ?_
        refine wOps_skip rfl ?_
        refine wOps_skip rfl ?_
        refine wOps_op rfl (op_pick rfl rfl rfl ?_)
        refine wOps_op rfl (op_assign rfl rfl ?_)
        refine wOps_nil ?_
        refine mwp_ret ?_
        exact ret_tmp (.inr rfl) Try.results62 rfl (.of_eq (by congr 1; rw [Bool.eq_iff_iff]; simp_all [hasF, Val.nv, Val.mv, Val.sv, Val.cv, Val.vv])) (.bool _) ⟨rfl, rfl⟩
  ·
    refine wOps_op rfl (op_fieldAddr_ref rfl rfl fo30_0 ?_)
    refine wOps_op rfl (op_load' rfl rfl rfl ta25 rfl ?_)
    refine wOps_op rfl (op_cmp rfl rfl rfl rfl ?_)
    refine wOps_op rfl (op_pick rfl rfl rfl ?_)
    refine wOps_op rfl (op_move rfl rfl ?_)
    refine wOps_case (fun h19 => ?_) (fun h19 => ?_)
    ·
      refine wOps_op rfl (op_move rfl rfl ?_)
      refine wOps_op rfl (op_move rfl rfl ?_)
      refine wOps_case (fun h21 => ?_) (fun h21 => ?_)
      ·
        refine wOps_skip rfl ?_
        refine wOps_skip rfl ?_
        refine wOps_skip rfl ?_
        refine wOps_op rfl (op_pick rfl rfl rfl ?_)
        refine wOps_op rfl (op_pick rfl rfl rfl ?_)
        refine wOps_op rfl (op_move rfl rfl ?_)
        refine wOps_op rfl (op_move rfl rfl ?_)
        refine wOps_op rfl (op_move rfl rfl ?_)
        refine wOps_case (fun h29 => ?_) (fun h29 => ?_)
        ·
          refine wOps_skip rfl ?_
          refine wOps_skip rfl ?_
          refine wOps_skip rfl ?_
          refine wOps_skip rfl ?_
          refine wOps_op rfl (op_pick rfl rfl rfl ?_)
          refine wOps_op rfl (op_pick rfl rfl rfl ?_)
          refine wOps_op rfl (op_move rfl rfl ?_)
          refine wOps_op rfl (op_move rfl rfl ?_)
          refine wOps_op rfl (op_move rfl rfl ?_)
          refine wOps_case (fun h38 => ?_) (fun h38 => ?_)
          ·
            refine wOps_skip rfl ?_
            refine wOps_skip rfl ?_
            refine wOps_skip rfl ?_
            refine wOps_skip rfl ?_
            refine wOps_op rfl (op_pick rfl rfl rfl ?_)
            refine wOps_op rfl (op_pick rfl rfl rfl ?_)
            refine wOps_op rfl (op_move rfl rfl ?_)
            refine wOps_op rfl (op_move rfl rfl ?_)
            refine wOps_op rfl (op_move rfl rfl ?_)
            refine wOps_case (fun h47 => ?_) (fun h47 => ?_)
            ·
              refine wOps_skip rfl ?_
              refine wOps_skip rfl ?_
              refine wOps_skip rfl ?_
              refine wOps_skip rfl ?_
              refine wOps_op rfl (op_pick rfl rfl rfl ?_)
              refine wOps_op rfl (op_pick rfl rfl rfl ?_)
              refine wOps_op rfl (op_assign rfl rfl ?_)
              refine wOps_nil ?_
              refine mwp_ret ?_
              exact ret_tmp (.inr rfl) Try.results62 rfl (.of_eq (by congr 1; rw [Bool.eq_iff_iff]; simp_all [hasF, Val.nv, Val.mv, Val.sv, Val.cv, Val.vv])) (.bool _) ⟨rfl, rfl⟩
            ·
              refine wOps_op rfl (op_fieldAddr_ref rfl rfl fo30_4 ?_)
              refine wOps_op rfl (op_load' rfl rfl rfl ta28 rfl ?_)
              refine wOps_op rfl (op_len_lst rfl Try.underlying28 rfl ?_)
              try rw [encVs_length]
              refine wOps_op rfl (op_cmp rfl rfl rfl rfl ?_)
              refine wOps_op rfl (op_pick rfl rfl rfl ?_)
              refine wOps_op rfl (op_pick rfl rfl rfl ?_)
              refine wOps_op rfl (op_assign rfl rfl ?_)
              refine wOps_nil ?_
              refine mwp_ret ?_
              exact ret_tmp (.inr rfl) Try.results62 rfl (.of_eq (by congr 1; rw [Bool.eq_iff_iff]; simp_all [hasF, Val.nv, Val.mv, Val.sv, Val.cv, Val.vv])) (.bool _) ⟨rfl, rfl⟩
          ·
            refine wOps_op rfl (op_fieldAddr_ref rfl rfl fo30_3 ?_)
            refine wOps_op rfl (op_load' rfl rfl rfl ta27 rfl ?_)
            refine wOps_op rfl (op_len_lst rfl Try.underlying27 rfl ?_)
            refine wOps_op rfl (op_cmp rfl rfl rfl rfl ?_)
            refine wOps_op rfl (op_pick rfl rfl rfl ?_)
            refine wOps_op rfl (op_pick rfl rfl rfl ?_)
            refine wOps_op rfl (op_move rfl rfl ?_)
            refine wOps_case (fun h45 => ?_) (fun h45 => ?_)
            ·
              refine wOps_op rfl (op_move rfl rfl ?_)
              refine wOps_op rfl (op_move rfl rfl ?_)
              refine wOps_case (fun h47 => ?_) (fun h47 => ?_)
              ·
                refine wOps_skip rfl ?_
                refine wOps_skip rfl ?_
                refine wOps_skip rfl ?_
                refine wOps_skip rfl ?_
                refine wOps_op rfl (op_pick rfl rfl rfl ?_)
                refine wOps_op rfl (op_pick rfl rfl rfl ?_)
                refine wOps_op rfl (op_assign rfl rfl ?_)
                refine wOps_nil ?_
                refine mwp_ret ?_
                exact ret_tmp (.inr rfl) Try.results62 rfl (.of_eq (by congr 1; rw [Bool.eq_iff_iff]; simp_all [hasF, Val.nv, Val.mv, Val.sv, Val.cv, Val.vv])) (.bool _) ⟨rfl, rfl⟩
              ·
                refine wOps_op rfl (op_fieldAddr_ref rfl rfl fo30_4 ?_)
                refine wOps_op rfl (op_load' rfl rfl rfl ta28 rfl ?_)
                refine wOps_op rfl (op_len_lst rfl Try.underlying28 rfl ?_)
                try rw [encVs_length]
                refine wOps_op rfl (op_cmp rfl rfl rfl rfl ?_)
                refine wOps_op rfl (op_pick rfl rfl rfl ?_)
                refine wOps_op rfl (op_pick rfl rfl rfl ?_)
                refine wOps_op rfl (op_assign rfl rfl ?_)
                refine wOps_nil ?_
                refine mwp_ret ?_
                exact ret_tmp (.inr rfl) Try.results62 rfl (.of_eq (by congr 1; rw [Bool.eq_iff_iff]; simp_all [hasF, Val.nv, Val.mv, Val.sv, Val.cv, Val.vv])) (.bool _) ⟨rfl, rfl⟩
            ·
              refine wOps_skip rfl ?_
              refine wOps_skip rfl ?_
              refine wOps_skip rfl ?_
              refine wOps_skip rfl ?_
              refine wOps_skip rfl ?_
              refine wOps_skip rfl ?_
              refine wOps_skip rfl ?_
              refine wOps_op rfl (op_pick rfl rfl rfl ?_)
              refine wOps_op rfl (op_assign rfl rfl ?_)
              refine wOps_nil ?_
              refine mwp_ret ?_
              exact ret_tmp (.inr rfl) Try.results62 rfl (.of_eq (by congr 1; rw [Bool.eq_iff_iff]; simp_all [hasF, Val.nv, Val.mv, Val.sv, Val.cv, Val.vv])) (.bool _) ⟨rfl, rfl⟩
        ·
          refine wOps_op rfl (op_fieldAddr_ref rfl rfl fo30_2 ?_)
          refine wOps_op rfl (op_load' rfl rfl rfl ta26 rfl ?_)
          refine wOps_op rfl (op_len_lst rfl Try.underlying26 rfl ?_)
          refine wOps_op rfl (op_cmp rfl rfl rfl rfl ?_)
          refine wOps_op rfl (op_pick rfl rfl rfl ?_)
          refine wOps_op rfl (op_pick rfl rfl rfl ?_)
          refine wOps_op rfl (op_move rfl rfl ?_)
          refine wOps_case (fun h36 => ?_) (fun h36 => ?_)
          ·
            refine wOps_op rfl (op_move rfl rfl ?_)
            refine wOps_op rfl (op_move rfl rfl ?_)
            refine wOps_case (fun h38 => ?_) (fun h38 => ?_)
            ·
              refine wOps_skip rfl ?_
              refine wOps_skip rfl ?_
              refine wOps_skip rfl ?_
              refine wOps_skip rfl ?_
              refine wOps_op rfl (op_pick rfl rfl rfl ?_)
              refine wOps_op rfl (op_pick rfl rfl rfl ?_)
              refine wOps_op rfl (op_move rfl rfl ?_)
              refine wOps_op rfl (op_move rfl rfl ?_)
              refine wOps_op rfl (op_move rfl rfl ?_)
              refine wOps_case (fun h47 => ?_) (fun h47 => ?_)
              ·
                refine wOps_skip rfl ?_
                refine wOps_skip rfl ?_
                refine wOps_skip rfl ?_
                refine wOps_skip rfl ?_
                refine wOps_op rfl (op_pick rfl rfl rfl ?_)
                refine wOps_op rfl (op_pick rfl rfl rfl ?_)
                refine wOps_op rfl (op_assign rfl rfl ?_)
                refine wOps_nil ?_
                refine mwp_ret ?_
                exact ret_tmp (.inr rfl) Try.results62 rfl (.of_eq (by congr 1; rw [Bool.eq_iff_iff]; simp_all [hasF, Val.nv, Val.mv, Val.sv, Val.cv, Val.vv])) (.bool _) ⟨rfl, rfl⟩
              ·
                refine wOps_op rfl (op_fieldAddr_ref rfl rfl fo30_4 ?_)
                refine wOps_op rfl (op_load' rfl rfl rfl ta28 rfl ?_)
                refine wOps_op rfl (op_len_lst rfl Try.underlying28 rfl ?_)
                try rw [encVs_length]
                refine wOps_op rfl (op_cmp rfl rfl rfl rfl ?_)
                refine wOps_op rfl (op_pick rfl rfl rfl ?_)
                refine wOps_op rfl (op_pick rfl rfl rfl ?_)
                refine wOps_op rfl (op_assign rfl rfl ?_)
                refine wOps_nil ?_
                refine mwp_ret ?_
                exact ret_tmp (.inr rfl) Try.results62 rfl (.of_eq (by congr 1; rw [Bool.eq_iff_iff]; simp_all [hasF, Val.nv, Val.mv, Val.sv, Val.cv, Val.vv])) (.bool _) ⟨rfl, rfl⟩
            ·
              refine wOps_op rfl (op_fieldAddr_ref rfl rfl fo30_3 ?_)
              refine wOps_op rfl (op_load' rfl rfl rfl ta27 rfl ?_)
              refine wOps_op rfl (op_len_lst rfl Try.underlying27 rfl ?_)
              refine wOps_op rfl (op_cmp rfl rfl rfl rfl ?_)
              refine wOps_op rfl (op_pick rfl rfl rfl ?_)
              refine wOps_op rfl (op_pick rfl rfl rfl ?_)
              refine wOps_op rfl (op_move rfl rfl ?_)
              refine wOps_case (fun h45 => ?_) (fun h45 => ?_)
              ·
                refine wOps_op rfl (op_move rfl rfl ?_)
                refine wOps_op rfl (op_move rfl rfl ?_)
                refine wOps_case (fun h47 => ?_) (fun h47 => ?_)
                ·
                  refine wOps_skip rfl ?_
                  refine wOps_skip rfl ?_
                  refine wOps_skip rfl ?_
                  refine wOps_skip rfl ?_
                  refine wOps_op rfl (op_pick rfl rfl rfl ?_)
                  refine wOps_op rfl (op_pick rfl rfl rfl ?_)
                  refine wOps_op rfl (op_assign rfl rfl ?_)
                  refine wOps_nil ?_
                  refine mwp_ret ?_
                  exact ret_tmp (.inr rfl) Try.results62 rfl (.of_eq (by congr 1; rw [Bool.eq_iff_iff]; simp_all [hasF, Val.nv, Val.mv, Val.sv, Val.cv, Val.vv])) (.bool _) ⟨rfl, rfl⟩
                ·
                  refine wOps_op rfl (op_fieldAddr_ref rfl rfl fo30_4 ?_)
                  refine wOps_op rfl (op_load' rfl rfl rfl ta28 rfl ?_)
                  refine wOps_op rfl (op_len_lst rfl Try.underlying28 rfl ?_)
                  try rw [encVs_length]
                  refine wOps_op rfl (op_cmp rfl rfl rfl rfl ?_)
                  refine wOps_op rfl (op_pick rfl rfl rfl ?_)
                  refine wOps_op rfl (op_pick rfl rfl rfl ?_)
                  refine wOps_op rfl (op_assign rfl rfl ?_)
                  refine wOps_nil ?_
                  refine mwp_ret ?_
                  exact ret_tmp (.inr rfl) Try.results62 rfl (.of_eq (by congr 1; rw [Bool.eq_iff_iff]; simp_all [hasF, Val.nv, Val.mv, Val.sv, Val.cv, Val.vv])) (.bool _) ⟨rfl, rfl⟩
              ·
                refine wOps_skip rfl ?_
                refine wOps_skip rfl ?_
                refine wOps_skip rfl ?_
                refine wOps_skip rfl ?_
                refine wOps_skip rfl ?_
                refine wOps_skip rfl ?_
                refine wOps_skip rfl ?_
                refine wOps_op rfl (op_pick rfl rfl rfl ?_)
                refine wOps_op rfl (op_assign rfl rfl ?_)
                refine wOps_nil ?_
                refine mwp_ret ?_
                exact ret_tmp (.inr rfl) Try.results62 rfl (.of_eq (by congr 1; rw [Bool.eq_iff_iff]; simp_all [hasF, Val.nv, Val.mv, Val.sv, Val.cv, Val.vv])) (.bool _) ⟨rfl, rfl⟩
          ·
            refine wOps_skip rfl ?_
            refine wOps_skip rfl ?_
            refine wOps_skip rfl ?_
            refine wOps_skip rfl ?_
            refine wOps_skip rfl ?_
            refine wOps_skip rfl ?_
            refine wOps_skip rfl ?_
            refine wOps_op rfl (op_pick rfl rfl rfl ?_)
            refine wOps_op rfl (op_move rfl rfl ?_)
            refine wOps_skip rfl ?_
            refine wOps_skip rfl ?_
            refine wOps_skip rfl ?_
            refine wOps_skip rfl ?_
            refine wOps_skip rfl ?_
            refine wOps_skip rfl ?_
            refine wOps_skip rfl ?_
            refine wOps_op rfl (op_pick rfl rfl rfl ?_)
            refine wOps_op rfl (op_assign rfl rfl ?_)
            refine wOps_nil ?_
            refine mwp_ret ?_
            exact ret_tmp (.inr rfl) Try.results62 rfl (.of_eq (by congr 1; rw [Bool.eq_iff_iff]; simp_all [hasF, Val.nv, Val.mv, Val.sv, Val.cv, Val.vv])) (.bool _) ⟨rfl, rfl⟩
      ·
        refine wOps_op rfl (op_fieldAddr_ref rfl rfl fo30_1 ?_)
        refine wOps_op rfl (op_load' rfl rfl rfl ta25 rfl ?_)
        refine wOps_op rfl (op_cmp rfl rfl rfl rfl ?_)
        refine wOps_op rfl (op_pick rfl rfl rfl ?_)
        refine wOps_op rfl (op_pick rfl rfl rfl ?_)
        refine wOps_op rfl (op_move rfl rfl ?_)
        refine wOps_case (fun h27 => ?_) (fun h27 => ?_)
        ·
          refine wOps_op rfl (op_move rfl rfl ?_)
          refine wOps_op rfl (op_move rfl rfl ?_)
          refine wOps_case (fun h29 => ?_) (fun h29 => ?_)
          ·
            refine wOps_skip rfl ?_
            refine wOps_skip rfl ?_
            refine wOps_skip rfl ?_
            refine wOps_skip rfl ?_
            refine wOps_op rfl (op_pick rfl rfl rfl ?_)
            refine wOps_op rfl (op_pick rfl rfl rfl ?_)
            refine wOps_op rfl (op_move rfl rfl ?_)
            refine wOps_op rfl (op_move rfl rfl ?_)
            refine wOps_op rfl (op_move rfl rfl ?_)
            refine wOps_case (fun h38 => ?_) (fun h38 => ?_)
            ·
              refine wOps_skip rfl ?_
              refine wOps_skip rfl ?_
              refine wOps_skip rfl ?_
              refine wOps_skip rfl ?_
              refine wOps_op rfl (op_pick rfl rfl rfl ?_)
              refine wOps_op rfl (op_pick rfl rfl rfl ?_)
              refine wOps_op rfl (op_move rfl rfl ?_)
              refine wOps_op rfl (op_move rfl rfl ?_)
              refine wOps_op rfl (op_move rfl rfl ?_)
              refine wOps_case (fun h47 => ?_) (fun h47 => ?_)
              ·
                refine wOps_skip rfl ?_
                refine wOps_skip rfl ?_
                refine wOps_skip rfl ?_
                refine wOps_skip rfl ?_
                refine wOps_op rfl (op_pick rfl rfl rfl ?_)
                refine wOps_op rfl (op_pick rfl rfl rfl ?_)
                refine wOps_op rfl (op_assign rfl rfl ?_)
                refine wOps_nil ?_
                refine mwp_ret ?_
                exact ret_tmp (.inr rfl) Try.results62 rfl (.of_eq (by congr 1; rw [Bool.eq_iff_iff]; simp_all [hasF, Val.nv, Val.mv, Val.sv, Val.cv, Val.vv])) (.bool _) ⟨rfl, rfl⟩
              ·
                refine wOps_op rfl (op_fieldAddr_ref rfl rfl fo30_4 ?_)
                refine wOps_op rfl (op_load' rfl rfl rfl ta28 rfl ?_)
                refine wOps_op rfl (op_len_lst rfl Try.underlying28 rfl ?_)
                try rw [encVs_length]
                refine wOps_op rfl (op_cmp rfl rfl rfl rfl ?_)
                refine wOps_op rfl (op_pick rfl rfl rfl ?_)
                refine wOps_op rfl (op_pick rfl rfl rfl ?_)
                refine wOps_op rfl (op_assign rfl rfl ?_)
                refine wOps_nil ?_
                refine mwp_ret ?_
                exact ret_tmp (.inr rfl) Try.results62 rfl (.of_eq (by congr 1; rw [Bool.eq_iff_iff]; simp_all [hasF, Val.nv, Val.mv, Val.sv, Val.cv, Val.vv])) (.bool _) ⟨rfl, rfl⟩
            ·
              refine wOps_op rfl (op_fieldAddr_ref rfl rfl fo30_3 ?_)
              refine wOps_op rfl (op_load' rfl rfl rfl ta27 rfl ?_)
              refine wOps_op rfl (op_len_lst rfl Try.underlying27 rfl ?_)
              refine wOps_op rfl (op_cmp rfl rfl rfl rfl ?_)
              refine wOps_op rfl (op_pick rfl rfl rfl ?_)
              refine wOps_op rfl (op_pick rfl rfl rfl ?_)
              refine wOps_op rfl (op_move rfl rfl ?_)
              refine wOps_case (fun h45 => ?_) (fun h45 => ?_)
              ·
                refine wOps_op rfl (op_move rfl rfl ?_)
                refine wOps_op rfl (op_move rfl rfl ?_)
                refine wOps_case (fun h47 => ?_) (fun h47 => ?_)
                ·
                  refine wOps_skip rfl ?_
                  refine wOps_skip rfl ?_
                  refine wOps_skip rfl ?_
                  refine wOps_skip rfl ?_
                  refine wOps_op rfl (op_pick rfl rfl rfl ?_)
                  refine wOps_op rfl (op_pick rfl rfl rfl ?_)
                  refine wOps_op rfl (op_assign rfl rfl ?_)
                  refine wOps_nil ?_
                  refine mwp_ret ?_
                  exact ret_tmp (.inr rfl) Try.results62 rfl (.of_eq (by congr 1; rw [Bool.eq_iff_iff]; simp_all [hasF, Val.nv, Val.mv, Val.sv, Val.cv, Val.vv])) (.bool _) ⟨rfl, rfl⟩
                ·
                  refine wOps_op rfl (op_fieldAddr_ref rfl rfl fo30_4 ?_)
                  refine wOps_op rfl (op_load' rfl rfl rfl ta28 rfl ?_)
                  refine wOps_op rfl (op_len_lst rfl Try.underlying28 rfl ?_)
                  try rw [encVs_length]
                  refine wOps_op rfl (op_cmp rfl rfl rfl rfl ?_)
                  refine wOps_op rfl (op_pick rfl rfl rfl ?_)
                  refine wOps_op rfl (op_pick rfl rfl rfl ?_)
                  refine wOps_op rfl (op_assign rfl rfl ?_)
                  refine wOps_nil ?_
                  refine mwp_ret ?_
                  exact ret_tmp (.inr rfl) Try.results62 rfl (.of_eq (by congr 1; rw [Bool.eq_iff_iff]; simp_all [hasF, Val.nv, Val.mv, Val.sv, Val.cv, Val.vv])) (.bool _) ⟨rfl, rfl⟩
              ·
                refine wOps_skip rfl ?_
                refine wOps_skip rfl ?_
                refine wOps_skip rfl ?_
                refine wOps_skip rfl ?_
                refine wOps_skip rfl ?_
                refine wOps_skip rfl ?_
                refine wOps_skip rfl ?_
                refine wOps_op rfl (op_pick rfl rfl rfl ?_)
                refine wOps_op rfl (op_assign rfl rfl ?_)
                refine wOps_nil ?_
                refine mwp_ret ?_
                exact ret_tmp (.inr rfl) Try.results62 rfl (.of_eq (by congr 1; rw [Bool.eq_iff_iff]; simp_all [hasF, Val.nv, Val.mv, Val.sv, Val.cv, Val.vv])) (.bool _) ⟨rfl, rfl⟩
          ·
            refine wOps_op rfl (op_fieldAddr_ref rfl rfl fo30_2 ?_)
            refine wOps_op rfl (op_load' rfl rfl rfl ta26 rfl ?_)
            refine wOps_op rfl (op_len_lst rfl Try.underlying26 rfl ?_)
            refine wOps_op rfl (op_cmp rfl rfl rfl rfl ?_)
            refine wOps_op rfl (op_pick rfl rfl rfl ?_)
            refine wOps_op rfl (op_pick rfl rfl rfl ?_)
            refine wOps_op rfl (op_move rfl rfl ?_)
            refine wOps_case (fun h36 => ?_) (fun h36 => ?_)
            ·
              refine wOps_op rfl (op_move rfl rfl ?_)
              refine wOps_op rfl (op_move rfl rfl ?_)
              refine wOps_case (fun h38 => ?_) (fun h38 => ?_)
              ·
                refine wOps_skip rfl ?_
                refine wOps_skip rfl ?_
                refine wOps_skip rfl ?_
                refine wOps_skip rfl ?_
                refine wOps_op rfl (op_pick rfl rfl rfl ?_)
                refine wOps_op rfl (op_pick rfl rfl rfl ?_)
                refine wOps_op rfl (op_move rfl rfl ?_)
                refine wOps_op rfl (op_move rfl rfl ?_)
                refine wOps_op rfl (op_move rfl rfl ?_)
                refine wOps_case (fun h47 => ?_) (fun h47 => ?_)
                ·
                  refine wOps_skip rfl ?_
                  refine wOps_skip rfl ?_
                  refine wOps_skip rfl ?_
                  refine wOps_skip rfl ?_
                  refine wOps_op rfl (op_pick rfl rfl rfl ?_)
                  refine wOps_op rfl (op_pick rfl rfl rfl ?_)
                  refine wOps_op rfl (op_assign rfl rfl ?_)
                  refine wOps_nil ?_
                  refine mwp_ret ?_
                  exact ret_tmp (.inr rfl) Try.results62 rfl (.of_eq (by congr 1; rw [Bool.eq_iff_iff]; simp_all [hasF, Val.nv, Val.mv, Val.sv, Val.cv, Val.vv])) (.bool _) ⟨rfl, rfl⟩
                ·
                  refine wOps_op rfl (op_fieldAddr_ref rfl rfl fo30_4 ?_)
                  refine wOps_op rfl (op_load' rfl rfl rfl ta28 rfl ?_)
                  refine wOps_op rfl (op_len_lst rfl Try.underlying28 rfl ?_)
                  try rw [encVs_length]
                  refine wOps_op rfl (op_cmp rfl rfl rfl rfl ?_)
                  refine wOps_op rfl (op_pick rfl rfl rfl ?_)
                  refine wOps_op rfl (op_pick rfl rfl rfl ?_)
                  refine wOps_op rfl (op_assign rfl rfl ?_)
                  refine wOps_nil ?_
                  refine mwp_ret ?_
                  exact ret_tmp (.inr rfl) Try.results62 rfl (.of_eq (by congr 1; rw [Bool.eq_iff_iff]; simp_all [hasF, Val.nv, Val.mv, Val.sv, Val.cv, Val.vv])) (.bool _) ⟨rfl, rfl⟩
              ·
                refine wOps_op rfl (op_fieldAddr_ref rfl rfl fo30_3 ?_)
                refine wOps_op rfl (op_load' rfl rfl rfl ta27 rfl ?_)
                refine wOps_op rfl (op_len_lst rfl Try.underlying27 rfl ?_)
                refine wOps_op rfl (op_cmp rfl rfl rfl rfl ?_)
                refine wOps_op rfl (op_pick rfl rfl rfl ?_)
                refine wOps_op rfl (op_pick rfl rfl rfl ?_)
                refine wOps_op rfl (op_move rfl rfl ?_)
                refine wOps_case (fun h45 => ?_) (fun h45 => ?_)
                ·
                  refine wOps_op rfl (op_move rfl rfl ?_)
                  refine wOps_op rfl (op_move rfl rfl ?_)
                  refine wOps_case (fun h47 => ?_) (fun h47 => ?_)
                  ·
                    refine wOps_skip rfl ?_
                    refine wOps_skip rfl ?_
                    refine wOps_skip rfl ?_
                    refine wOps_skip rfl ?_
                    refine wOps_op rfl (op_pick rfl rfl rfl ?_)
                    refine wOps_op rfl (op_pick rfl rfl rfl ?_)
                    refine wOps_op rfl (op_assign rfl rfl ?_)
                    refine wOps_nil ?_
                    refine mwp_ret ?_
                    exact ret_tmp (.inr rfl) Try.results62 rfl (.of_eq (by congr 1; rw [Bool.eq_iff_iff]; simp_all [hasF, Val.nv, Val.mv, Val.sv, Val.cv, Val.vv])) (.bool _) ⟨rfl, rfl⟩
                  ·
                    refine wOps_op rfl (op_fieldAddr_ref rfl rfl fo30_4 ?_)
                    refine wOps_op rfl (op_load' rfl rfl rfl ta28 rfl ?_)
                    refine wOps_op rfl (op_len_lst rfl Try.underlying28 rfl ?_)
                    try rw [encVs_length]
                    refine wOps_op rfl (op_cmp rfl rfl rfl rfl ?_)
                    refine wOps_op rfl (op_pick rfl rfl rfl ?_)
                    refine wOps_op rfl (op_pick rfl rfl rfl ?_)
                    refine wOps_op rfl (op_assign rfl rfl ?_)
                    refine wOps_nil ?_
                    refine mwp_ret ?_
                    exact ret_tmp (.inr rfl) Try.results62 rfl (.of_eq (by congr 1; rw [Bool.eq_iff_iff]; simp_all [hasF, Val.nv, Val.mv, Val.sv, Val.cv, Val.vv])) (.bool _) ⟨rfl, rfl⟩
                ·
                  refine wOps_skip rfl ?_
                  refine wOps_skip rfl ?_
                  refine wOps_skip rfl ?_
                  refine wOps_skip rfl ?_
                  refine wOps_skip rfl ?_
                  refine wOps_skip rfl ?_
                  refine wOps_skip rfl ?_
                  refine wOps_op rfl (op_pick rfl rfl rfl ?_)
                  refine wOps_op rfl (op_assign rfl rfl ?_)
                  refine wOps_nil ?_
                  refine mwp_ret ?_
                  exact ret_tmp (.inr rfl) Try.results62 rfl (.of_eq (by congr 1; rw [Bool.eq_iff_iff]; simp_all [hasF, Val.nv, Val.mv, Val.sv, Val.cv, Val.vv])) (.bool _) ⟨rfl, rfl⟩
            ·
              refine wOps_skip rfl ?_
              refine wOps_skip rfl ?_
              refine wOps_skip rfl ?_
              refine wOps_skip rfl ?_
              refine wOps_skip rfl ?_
              refine wOps_skip rfl ?_
              refine wOps_skip rfl ?_
              refine wOps_op rfl (op_pick rfl rfl rfl ?_)
              refine wOps_op rfl (op_move rfl rfl ?_)
              refine wOps_skip rfl ?_
              refine wOps_skip rfl ?_
              refine wOps_skip rfl ?_
              refine wOps_skip rfl ?_
              refine wOps_skip rfl ?_
              refine wOps_skip rfl ?_
              refine wOps_skip rfl ?_
              refine wOps_op rfl (op_pick rfl rfl rfl ?_)
              refine wOps_op rfl (op_assign rfl rfl ?_)
              refine wOps_nil ?_
              refine mwp_ret ?_
              exact ret_tmp (.inr rfl) Try.results62 rfl (.of_eq (by congr 1; rw [Bool.eq_iff_iff]; simp_all [hasF, Val.nv, Val.mv, Val.sv, Val.cv, Val.vv])) (.bool _) ⟨rfl, rfl⟩
        ·
          refine wOps_skip rfl ?_
          refine wOps_skip rfl ?_
          refine wOps_skip rfl ?_
          refine wOps_skip rfl ?_
          refine wOps_skip rfl ?_
          refine wOps_skip rfl ?_
          refine wOps_skip rfl ?_
          refine wOps_op rfl (op_pick rfl rfl rfl ?_)
          refine wOps_op rfl (op_move rfl rfl ?_)
          refine wOps_skip rfl ?_
          refine wOps_skip rfl ?_
          refine wOps_skip rfl ?_
          refine wOps_skip rfl ?_
          refine wOps_skip rfl ?_
          refine wOps_skip rfl ?_
          refine wOps_skip rfl ?_
          refine wOps_op rfl (op_pick rfl rfl rfl ?_)
          refine wOps_op rfl (op_move rfl rfl ?_)
          refine wOps_skip rfl ?_
          refine wOps_skip rfl ?_
          refine wOps_skip rfl ?_
          refine wOps_skip rfl ?_
          refine wOps_skip rfl ?_
          refine wOps_skip rfl ?_
          refine wOps_skip rfl ?_
          refine wOps_op rfl (op_pick rfl rfl rfl ?_)
          refine wOps_op rfl (op_assign rfl rfl ?_)
          refine wOps_nil ?_
          refine mwp_ret ?_
          exact ret_tmp (.inr rfl) Try.results62 rfl (.of_eq (by congr 1; rw [Bool.eq_iff_iff]; simp_all [hasF, Val.nv, Val.mv, Val.sv, Val.cv, Val.vv])) (.bool _) ⟨rfl, rfl⟩
    ·
      refine wOps_skip rfl ?_
      refine wOps_skip rfl ?_
      refine wOps_skip rfl ?_
      refine wOps_skip rfl ?_
      refine wOps_skip rfl ?_
      refine wOps_skip rfl ?_
      refine wOps_op rfl (op_pick rfl rfl rfl ?_)
      refine wOps_op rfl (op_move rfl rfl ?_)
      refine wOps_skip rfl ?_
      refine wOps_skip rfl ?_
      refine wOps_skip rfl ?_
      refine wOps_skip rfl ?_
      refine wOps_skip rfl ?_
      refine wOps_skip rfl ?_
      refine wOps_skip rfl ?_
      refine wOps_op rfl (op_pick rfl rfl rfl ?_)
      refine wOps_op rfl (op_move rfl rfl ?_)
      refine wOps_skip rfl ?_
      refine wOps_skip rfl ?_
      refine wOps_skip rfl ?_
      refine wOps_skip rfl ?_
      refine wOps_skip rfl ?_
      refine wOps_skip rfl ?_
      refine wOps_skip rfl ?_
      refine wOps_op rfl (op_pick rfl rfl rfl ?_)
      refine wOps_op rfl (op_move rfl rfl ?_)
      refine wOps_skip rfl ?_
      refine wOps_skip rfl ?_
      refine wOps_skip rfl ?_
      refine wOps_skip rfl ?_
      refine wOps_skip rfl ?_
      refine wOps_skip rfl ?_
      refine wOps_skip rfl ?_
      refine wOps_op rfl (op_pick rfl rfl rfl ?_)
      refine wOps_op rfl (op_assign rfl rfl ?_)
      refine wOps_nil ?_
      refine mwp_ret ?_
      exact ret_tmp (.inr rfl) Try.results62 rfl (.of_eq (by congr 1; rw [Bool.eq_iff_iff]; simp_all [hasF, Val.nv, Val.mv, Val.sv, Val.cv, Val.vv])) (.bool _) ⟨rfl, rfl⟩

theorem rAhead_spec (a b : List Tk) (S : MS) : MCalls Try.prog 64 [.lst none 2 (a.map encT), .lst none 2 (b.map encT)] S fun v σ' => v = .bool (aheadF a b) ∧ σ' = S := by
  refine mcalls_body Try.func64 rfl Try.ntmps64 (Nat.le_of_ble_eq_true rfl) ?_
  refine mwp_len (t := 0) rfl fun hlen => ?_
  rw [List.length_map] at hlen
  refine mwp_seq ?_
  refine mwp_region rfl ?_
  refine wOps_op rfl (op_assign rfl rfl ?_)
  refine wOps_nil ?_
  refine mwp_seq ?_
  refine mwp_seq ?_
  refine mwp_region rfl ?_
  refine wOps_op rfl (op_assign rfl rfl ?_)
  refine wOps_nil ?_
  refine mwp_block ?_
  refine mwp_loopK (α := Nat) [(0, _), (1, _)] (fun i => [(5, .int .i64 (i : Int))]) (fun i => []) (fun i => i ≤ a.length ∧ i ≤ b.length ∧ aheadF (a.drop i) (b.drop i) = aheadF a b) (fun i => a.length - i) (0) (.keep rfl (.keep rfl (.nil))) (.keep rfl (.nil)) (⟨by omega, by omega, rfl⟩) (rfl) ?_
  rintro i ⟨hi, hib, he⟩
  refine mwp_seq ?_
  refine mwp_seq ?_
  refine mwp_region rfl ?_
  refine wOps_op rfl (op_move rfl rfl ?_)
  refine wOps_op rfl (op_move rfl rfl ?_)
  refine wOps_op rfl (op_len_lst rfl Try.underlying40 rfl ?_)
  refine wOps_op rfl (op_cmp rfl rfl rfl rfl ?_)
  refine wOps_op rfl (op_move rfl rfl ?_)
  refine wOps_case (fun h10 => ?_) (fun h10 => ?_)
  ·
    have hlt : i < a.length := by rw [List.length_map] at h10; simpa using h10
    obtain ⟨x, hs⟩ : ∃ q, a[i]? = some q := ⟨_, List.getElem?_eq_getElem hlt⟩
    refine wOps_op rfl (op_move rfl rfl ?_)
    refine wOps_op rfl (op_move rfl rfl ?_)
    refine wOps_op rfl (op_len_lst rfl Try.underlying40 rfl ?_)
    refine wOps_op rfl (op_cmp rfl rfl rfl rfl ?_)
    refine wOps_op rfl (op_pick rfl rfl rfl ?_)
    refine wOps_nil ?_
    refine mwp_cond_split rfl (fun h15 => ?_) (fun h15 => ?_)
    · -- yes
      have hltb : i < b.length := by rw [List.length_map] at h15; simpa using h15
      obtain ⟨y, hs2⟩ : ∃ q, b[i]? = some q := ⟨_, List.getElem?_eq_getElem hltb⟩
      refine mwp_skip ?_
      refine mwp_seq ?_
      refine mwp_block ?_
      refine mwp_seq ?_
      refine mwp_seq ?_
      refine mwp_draw [] [_] mo (by decide) rfl rfl rfl rfl ?_
      refine dOps_op rfl rfl (.cons (op_move rfl rfl ⟨rfl, rfl⟩) .nil) ?_
      refine dOps_op rfl rfl (.cons (op_move rfl rfl ⟨rfl, rfl⟩) .nil) ?_
      refine dOps_op rfl rfl (.cons (op_indexAddr rfl Try.underlying40 sz39 (by decide) rfl rfl rfl (get_map hs) ⟨rfl, rfl⟩) .nil) ?_
      refine dOps_op rfl rfl (.cons (op_fieldAddr_sptr rfl rfl fo39_0 ⟨rfl, rfl⟩) .nil) ?_
      refine dOps_op rfl rfl (.cons (op_load_sptr rfl rfl ta3 rfl ⟨rfl, rfl⟩) .nil) ?_
      refine dOps_op rfl rfl (.cons (op_move rfl rfl ⟨rfl, rfl⟩) .nil) ?_
      refine dOps_op rfl rfl (.cons (op_move rfl rfl ⟨rfl, rfl⟩) .nil) ?_
      refine dOps_op rfl rfl (.cons (op_indexAddr rfl Try.underlying40 sz39 (by decide) rfl rfl rfl (get_map hs2) ⟨rfl, rfl⟩) .nil) ?_
      refine dOps_op rfl rfl (.cons (op_fieldAddr_sptr rfl rfl fo39_0 ⟨rfl, rfl⟩) .nil) ?_
      refine dOps_op rfl rfl (.cons (op_load_sptr rfl rfl ta3 rfl ⟨rfl, rfl⟩) .nil) ?_
      refine dOps_op rfl rfl (.cons (op_cmp rfl rfl rfl rfl ⟨rfl, rfl⟩) .nil) ?_
      refine dOps_nil ?_
      refine mwp_cond_split rfl (fun h28 => ?_) (fun h28 => ?_)
      · -- yes
        refine mwp_seq ?_
        refine mwp_draw [] [_] mo (by decide) rfl rfl rfl rfl ?_
        refine dOps_op rfl rfl (.cons (op_move rfl rfl ⟨rfl, rfl⟩) .nil) ?_
        refine dOps_op rfl rfl (.cons (op_move rfl rfl ⟨rfl, rfl⟩) .nil) ?_
        refine dOps_op rfl rfl (.cons (op_indexAddr rfl Try.underlying40 sz39 (by decide) rfl rfl rfl (get_map hs) ⟨rfl, rfl⟩) .nil) ?_
        refine dOps_op rfl rfl (.cons (op_fieldAddr_sptr rfl rfl fo39_0 ⟨rfl, rfl⟩) .nil) ?_
        refine dOps_op rfl rfl (.cons (op_load_sptr rfl rfl ta3 rfl ⟨rfl, rfl⟩) .nil) ?_
        refine dOps_op rfl rfl (.cons (op_move rfl rfl ⟨rfl, rfl⟩) .nil) ?_
        refine dOps_op rfl rfl (.cons (op_move rfl rfl ⟨rfl, rfl⟩) .nil) ?_
        refine dOps_op rfl rfl (.cons (op_indexAddr rfl Try.underlying40 sz39 (by decide) rfl rfl rfl (get_map hs2) ⟨rfl, rfl⟩) .nil) ?_
        refine dOps_op rfl rfl (.cons (op_fieldAddr_sptr rfl rfl fo39_0 ⟨rfl, rfl⟩) .nil) ?_
        refine dOps_op rfl rfl (.cons (op_load_sptr rfl rfl ta3 rfl ⟨rfl, rfl⟩) .nil) ?_
        refine dOps_op rfl rfl (.cons (op_cmp rfl rfl rfl rfl ⟨rfl, rfl⟩) .nil) ?_
        refine dOps_op rfl rfl (.cons (op_assign rfl rfl ⟨rfl, rfl⟩) .nil) ?_
        refine dOps_nil ?_
        refine mwp_ret ?_
        exact ret_tmp (.inr rfl) Try.results64 rfl (.of_eq (by rw [← he, drop_at hs, drop_at hs2, aheadF, if_pos (by simpa using h28)])) (.bool _) ⟨rfl, rfl⟩
      · -- no
        refine mwp_skip ?_
        refine mwp_seq ?_
        refine mwp_draw [] [_] mo (by decide) rfl rfl rfl rfl ?_
        refine dOps_op rfl rfl (.cons (op_move rfl rfl ⟨rfl, rfl⟩) .nil) ?_
        refine dOps_op rfl rfl (.cons (op_move rfl rfl ⟨rfl, rfl⟩) .nil) ?_
        refine dOps_op rfl rfl (.cons (op_indexAddr rfl Try.underlying40 sz39 (by decide) rfl rfl rfl (get_map hs) ⟨rfl, rfl⟩) .nil) ?_
        refine dOps_op rfl rfl (.cons (op_fieldAddr_sptr rfl rfl fo39_1 ⟨rfl, rfl⟩) .nil) ?_
        refine dOps_op rfl rfl (.cons (op_load_sptr rfl rfl ta25 rfl ⟨rfl, rfl⟩) .nil) ?_
        refine dOps_op rfl rfl (.cons (op_move rfl rfl ⟨rfl, rfl⟩) .nil) ?_
        refine dOps_op rfl rfl (.cons (op_move rfl rfl ⟨rfl, rfl⟩) .nil) ?_
        refine dOps_op rfl rfl (.cons (op_indexAddr rfl Try.underlying40 sz39 (by decide) rfl rfl rfl (get_map hs2) ⟨rfl, rfl⟩) .nil) ?_
        refine dOps_op rfl rfl (.cons (op_fieldAddr_sptr rfl rfl fo39_1 ⟨rfl, rfl⟩) .nil) ?_
        refine dOps_op rfl rfl (.cons (op_load_sptr rfl rfl ta25 rfl ⟨rfl, rfl⟩) .nil) ?_
        refine dOps_op rfl rfl (.cons (op_cmp rfl rfl rfl rfl ⟨rfl, rfl⟩) .nil) ?_
        refine dOps_nil ?_
        refine mwp_cond_split rfl (fun h50 => ?_) (fun h50 => ?_)
        · -- yes
          refine mwp_seq ?_
          refine mwp_draw [] [_] mo (by decide) rfl rfl rfl rfl ?_
          refine dOps_op rfl rfl (.cons (op_move rfl rfl ⟨rfl, rfl⟩) .nil) ?_
          refine dOps_op rfl rfl (.cons (op_move rfl rfl ⟨rfl, rfl⟩) .nil) ?_
          refine dOps_op rfl rfl (.cons (op_indexAddr rfl Try.underlying40 sz39 (by decide) rfl rfl rfl (get_map hs) ⟨rfl, rfl⟩) .nil) ?_
          refine dOps_op rfl rfl (.cons (op_fieldAddr_sptr rfl rfl fo39_1 ⟨rfl, rfl⟩) .nil) ?_
          refine dOps_op rfl rfl (.cons (op_load_sptr rfl rfl ta25 rfl ⟨rfl, rfl⟩) .nil) ?_
          refine dOps_op rfl rfl (.cons (op_move rfl rfl ⟨rfl, rfl⟩) .nil) ?_
          refine dOps_op rfl rfl (.cons (op_move rfl rfl ⟨rfl, rfl⟩) .nil) ?_
          refine dOps_op rfl rfl (.cons (op_indexAddr rfl Try.underlying40 sz39 (by decide) rfl rfl rfl (get_map hs2) ⟨rfl, rfl⟩) .nil) ?_
          refine dOps_op rfl rfl (.cons (op_fieldAddr_sptr rfl rfl fo39_1 ⟨rfl, rfl⟩) .nil) ?_
          refine dOps_op rfl rfl (.cons (op_load_sptr rfl rfl ta25 rfl ⟨rfl, rfl⟩) .nil) ?_
          refine dOps_op rfl rfl (.cons (op_cmp rfl rfl rfl rfl ⟨rfl, rfl⟩) .nil) ?_
          refine dOps_op rfl rfl (.cons (op_assign rfl rfl ⟨rfl, rfl⟩) .nil) ?_
          refine dOps_nil ?_
          refine mwp_ret ?_
          exact ret_tmp (.inr rfl) Try.results64 rfl (.of_eq (by rw [← he, drop_at hs, drop_at hs2, aheadF, if_neg (by simpa using h28), if_pos (by simpa using h50)])) (.bool _) ⟨rfl, rfl⟩
        · -- no
          refine mwp_skip ?_
          refine mwp_region rfl ?_
          refine wOps_op rfl (op_move rfl rfl ?_)
          refine wOps_op rfl (op_arith rfl rfl rfl rfl ?_)
          refine wOps_op rfl (op_assign rfl rfl ?_)
          refine wOps_nil ?_
          refine ⟨i + 1, by omega, ⟨by omega, by omega, by rw [← he, drop_at hs, drop_at hs2, aheadF, if_neg (by simpa using h28), if_neg (by simpa using h50)]⟩, rfl, (.keep rfl (.keep rfl (.nil))), (.eq rfl (int_succ hlt hlen) (.nil))⟩
    · -- no
      have hgb : i = b.length := by rw [List.length_map] at h15; simp at h15; omega
      have hE : aheadF a b = decide ((a.map encT).length < (b.map encT).length) := by rw [← he, hgb, List.drop_length, ahead_nil2]; simp; try omega
      refine mwp_exit ?_
      refine mwp_seq ?_
      refine mwp_region rfl ?_
      refine wOps_op rfl (op_move rfl rfl ?_)
      refine wOps_op rfl (op_len_lst rfl Try.underlying40 rfl ?_)
      refine wOps_op rfl (op_move rfl rfl ?_)
      refine wOps_op rfl (op_len_lst rfl Try.underlying40 rfl ?_)
      refine wOps_op rfl (op_cmp rfl rfl rfl rfl ?_)
      refine wOps_op rfl (op_assign rfl rfl ?_)
      refine wOps_nil ?_
      refine mwp_ret ?_
      exact ret_tmp (.inr rfl) Try.results64 rfl (.of_eq (by rw [hE]; congr 1; rw [Bool.eq_iff_iff]; simp only [decide_eq_true_eq]; omega)) (.bool _) ⟨rfl, rfl⟩
  ·
    have hge : i = a.length := by rw [List.length_map] at h10; simp at h10; omega
    have hE : aheadF a b = decide ((a.map encT).length < (b.map encT).length) := by rw [← he, hge, List.drop_length, ahead_nil]; simp; try omega
    refine wOps_skip rfl ?_
    refine wOps_skip rfl ?_
    refine wOps_skip rfl ?_
    refine wOps_skip rfl ?_
    refine wOps_op rfl (op_pick rfl rfl rfl ?_)
    refine wOps_nil ?_
    refine mwp_cond_f rfl (rfl) ?_
    refine mwp_exit ?_
    refine mwp_seq ?_
    refine mwp_region rfl ?_
    refine wOps_op rfl (op_move rfl rfl ?_)
    refine wOps_op rfl (op_len_lst rfl Try.underlying40 rfl ?_)
    refine wOps_op rfl (op_move rfl rfl ?_)
    refine wOps_op rfl (op_len_lst rfl Try.underlying40 rfl ?_)
    refine wOps_op rfl (op_cmp rfl rfl rfl rfl ?_)
    refine wOps_op rfl (op_assign rfl rfl ?_)
    refine wOps_nil ?_
    refine mwp_ret ?_
    exact ret_tmp (.inr rfl) Try.results64 rfl (.of_eq (by rw [hE]; congr 1; rw [Bool.eq_iff_iff]; simp only [decide_eq_true_eq]; omega)) (.bool _) ⟨rfl, rfl⟩

theorem fits_spec (k : Int) (ins : List Sch) (hk : k = 1 ∨ k = 2 ∨ k = 3 ∨ k = 4 ∨ k = 5 ∨ k = 6 ∨ k = 7 ∨ k = 8) (n m : Int) (s : List Bs) (c : List (List Tk)) (w : List Val) (S : MS) : MCalls Try.prog 43 [encS (.mk k ins), encV (.mk n m s c w)] S fun v σ' => v = .bool (fitsF k (.mk n m s c w)) ∧ σ' = S := by
  rcases hk with rfl | rfl | rfl | rfl | rfl | rfl | rfl | rfl
  ·
    refine mcalls_body Try.func43 rfl Try.ntmps43 (Nat.le_of_ble_eq_true rfl) ?_
    refine mwp_seq ?_
    refine mwp_region rfl ?_
    refine wOps_op rfl (op_box' rfl rfl rfl rfl ?_)
    refine wOps_op rfl (op_box' rfl rfl rfl rfl ?_)
    refine wOps_op rfl (op_assign rfl rfl ?_)
    refine wOps_nil ?_
    refine mwp_seq ?_
    refine mwp_seq ?_
    refine mwp_region rfl ?_
    refine wOps_op rfl (op_fieldAddr_ref rfl rfl fo24_0 ?_)
    refine wOps_op rfl (op_load' rfl rfl rfl ta3 rfl ?_)
    refine wOps_nil ?_
    refine mwp_block ?_
    refine mwp_seq ?_
    refine mwp_region rfl ?_
    refine wOps_op rfl (op_cmp rfl rfl rfl rfl ?_)
    refine wOps_op rfl (op_assign rfl rfl ?_)
    refine wOps_nil ?_
    refine mwp_cond_t rfl (rfl) ?_
    refine mwp_seq ?_
    refine mwp_region rfl ?_
    refine wOps_op rfl (op_load' rfl rfl rfl ta30 rfl ?_)
    refine wOps_op rfl (op_call rfl rfl rfl co62 ((has_spec n m _ c w true false false false false _).mono ?_))
    rintro _ _ ⟨rfl, rfl⟩
    refine wOps_op rfl (op_assign rfl rfl ?_)
    refine wOps_nil ?_
    refine mwp_ret ?_
    exact ret_tmp (.inr rfl) Try.results43 rfl (.of_eq (by rw [fits_mk 1]; first | rfl | (congr 1; rw [Bool.eq_iff_iff]; simp_all [encVs_length]; done) | (congr 1; rw [Bool.eq_iff_iff]; simp_all [encVs_length]; omega))) (.bool _) ⟨rfl, rfl⟩
  ·
    refine mcalls_body Try.func43 rfl Try.ntmps43 (Nat.le_of_ble_eq_true rfl) ?_
    refine mwp_seq ?_
    refine mwp_region rfl ?_
    refine wOps_op rfl (op_box' rfl rfl rfl rfl ?_)
    refine wOps_op rfl (op_box' rfl rfl rfl rfl ?_)
    refine wOps_op rfl (op_assign rfl rfl ?_)
    refine wOps_nil ?_
    refine mwp_seq ?_
    refine mwp_seq ?_
    refine mwp_region rfl ?_
    refine wOps_op rfl (op_fieldAddr_ref rfl rfl fo24_0 ?_)
    refine wOps_op rfl (op_load' rfl rfl rfl ta3 rfl ?_)
    refine wOps_nil ?_
    refine mwp_block ?_
    refine mwp_seq ?_
    refine mwp_region rfl ?_
    refine wOps_op rfl (op_cmp rfl rfl rfl rfl ?_)
    refine wOps_op rfl (op_assign rfl rfl ?_)
    refine wOps_nil ?_
    refine mwp_cond_f rfl (rfl) ?_
    refine mwp_seq ?_
    refine mwp_region rfl ?_
    refine wOps_op rfl (op_cmp rfl rfl rfl rfl ?_)
    refine wOps_op rfl (op_assign rfl rfl ?_)
    refine wOps_nil ?_
    refine mwp_cond_t rfl (rfl) ?_
    refine mwp_seq ?_
    refine mwp_region rfl ?_
    refine wOps_op rfl (op_load' rfl rfl rfl ta30 rfl ?_)
    refine wOps_op rfl (op_call rfl rfl rfl co62 ((has_spec n m _ c w true false false false false _).mono ?_))
    rintro _ _ ⟨rfl, rfl⟩
    refine wOps_op rfl (op_move rfl rfl ?_)
    refine wOps_case (fun h15 => ?_) (fun h15 => ?_)
    ·
      refine wOps_op rfl (op_fieldAddr_ref rfl rfl fo30_0 ?_)
      refine wOps_op rfl (op_load' rfl rfl rfl ta25 rfl ?_)
      refine wOps_op rfl (op_cmp rfl rfl rfl rfl ?_)
      refine wOps_op rfl (op_pick rfl rfl rfl ?_)
      refine wOps_op rfl (op_assign rfl rfl ?_)
      refine wOps_nil ?_
      refine mwp_ret ?_
      exact ret_tmp (.inr rfl) Try.results43 rfl (.of_eq (by rw [fits_mk 2]; first | rfl | (congr 1; rw [Bool.eq_iff_iff]; simp_all [encVs_length]; done) | (congr 1; rw [Bool.eq_iff_iff]; simp_all [encVs_length]; omega))) (.bool _) ⟨rfl, rfl⟩
    ·
      refine wOps_skip rfl ?_
      refine wOps_skip rfl ?_
      refine wOps_skip rfl ?_
      refine wOps_op rfl (op_pick rfl rfl rfl ?_)
      refine wOps_op rfl (op_assign rfl rfl ?_)
      refine wOps_nil ?_
      refine mwp_ret ?_
      exact ret_tmp (.inr rfl) Try.results43 rfl (.of_eq (by rw [fits_mk 2]; first | rfl | (congr 1; rw [Bool.eq_iff_iff]; simp_all [encVs_length]; done) | (congr 1; rw [Bool.eq_iff_iff]; simp_all [encVs_length]; omega))) (.bool _) ⟨rfl, rfl⟩
  ·
    refine mcalls_body Try.func43 rfl Try.ntmps43 (Nat.le_of_ble_eq_true rfl) ?_
    refine mwp_seq ?_
    refine mwp_region rfl ?_
    refine wOps_op rfl (op_box' rfl rfl rfl rfl ?_)
    refine wOps_op rfl (op_box' rfl rfl rfl rfl ?_)
    refine wOps_op rfl (op_assign rfl rfl ?_)
    refine wOps_nil ?_
    refine mwp_seq ?_
    refine mwp_seq ?_
    refine mwp_region rfl ?_
    refine wOps_op rfl (op_fieldAddr_ref rfl rfl fo24_0 ?_)
    refine wOps_op rfl (op_load' rfl rfl rfl ta3 rfl ?_)
    refine wOps_nil ?_
    refine mwp_block ?_
    refine mwp_seq ?_
    refine mwp_region rfl ?_
    refine wOps_op rfl (op_cmp rfl rfl rfl rfl ?_)
    refine wOps_op rfl (op_assign rfl rfl ?_)
    refine wOps_nil ?_
    refine mwp_cond_f rfl (rfl) ?_
    refine mwp_seq ?_
    refine mwp_region rfl ?_
    refine wOps_op rfl (op_cmp rfl rfl rfl rfl ?_)
    refine wOps_op rfl (op_assign rfl rfl ?_)
    refine wOps_nil ?_
    refine mwp_cond_f rfl (rfl) ?_
    refine mwp_seq ?_
    refine mwp_region rfl ?_
    refine wOps_op rfl (op_cmp rfl rfl rfl rfl ?_)
    refine wOps_op rfl (op_assign rfl rfl ?_)
    refine wOps_nil ?_
    refine mwp_cond_t rfl (rfl) ?_
    refine mwp_seq ?_
    refine mwp_region rfl ?_
    refine wOps_op rfl (op_load' rfl rfl rfl ta30 rfl ?_)
    refine wOps_op rfl (op_call rfl rfl rfl co62 ((has_spec n m _ c w false false true false false _).mono ?_))
    rintro _ _ ⟨rfl, rfl⟩
    refine wOps_op rfl (op_move rfl rfl ?_)
    refine wOps_case (fun h24 => ?_) (fun h24 => ?_)
    ·
      refine wOps_op rfl (op_fieldAddr_ref rfl rfl fo30_2 ?_)
      refine wOps_op rfl (op_load' rfl rfl rfl ta26 rfl ?_)
      refine wOps_op rfl (op_call rfl rfl rfl co63 ((rShort_spec s _).mono ?_))
      rintro _ _ ⟨rfl, rfl⟩
      refine wOps_op rfl (op_pick rfl rfl rfl ?_)
      refine wOps_op rfl (op_assign rfl rfl ?_)
      refine wOps_nil ?_
      refine mwp_ret ?_
      exact ret_tmp (.inr rfl) Try.results43 rfl (.of_eq (by rw [fits_mk 3]; first | rfl | (congr 1; rw [Bool.eq_iff_iff]; simp_all [encVs_length]; done) | (congr 1; rw [Bool.eq_iff_iff]; simp_all [encVs_length]; omega))) (.bool _) ⟨rfl, rfl⟩
    ·
      refine wOps_skip rfl ?_
      refine wOps_skip rfl ?_
      refine wOps_skip rfl ?_
      refine wOps_op rfl (op_pick rfl rfl rfl ?_)
      refine wOps_op rfl (op_assign rfl rfl ?_)
      refine wOps_nil ?_
      refine mwp_ret ?_
      exact ret_tmp (.inr rfl) Try.results43 rfl (.of_eq (by rw [fits_mk 3]; first | rfl | (congr 1; rw [Bool.eq_iff_iff]; simp_all [encVs_length]; done) | (congr 1; rw [Bool.eq_iff_iff]; simp_all [encVs_length]; omega))) (.bool _) ⟨rfl, rfl⟩
  ·
    refine mcalls_body Try.func43 rfl Try.ntmps43 (Nat.le_of_ble_eq_true rfl) ?_
    refine mwp_seq ?_
    refine mwp_region rfl ?_
    refine wOps_op rfl (op_box' rfl rfl rfl rfl ?_)
    refine wOps_op rfl (op_box' rfl rfl rfl rfl ?_)
    refine wOps_op rfl (op_assign rfl rfl ?_)
    refine wOps_nil ?_
    refine mwp_seq ?_
    refine mwp_seq ?_
    refine mwp_region rfl ?_
    refine wOps_op rfl (op_fieldAddr_ref rfl rfl fo24_0 ?_)
    refine wOps_op rfl (op_load' rfl rfl rfl ta3 rfl ?_)
    refine wOps_nil ?_
    refine mwp_block ?_
    refine mwp_seq ?_
    refine mwp_region rfl ?_
    refine wOps_op rfl (op_cmp rfl rfl rfl rfl ?_)
    refine wOps_op rfl (op_assign rfl rfl ?_)
    refine wOps_nil ?_
    refine mwp_cond_f rfl (rfl) ?_
    refine mwp_seq ?_
    refine mwp_region rfl ?_
    refine wOps_op rfl (op_cmp rfl rfl rfl rfl ?_)
    refine wOps_op rfl (op_assign rfl rfl ?_)
    refine wOps_nil ?_
    refine mwp_cond_f rfl (rfl) ?_
    refine mwp_seq ?_
    refine mwp_region rfl ?_
    refine wOps_op rfl (op_cmp rfl rfl rfl rfl ?_)
    refine wOps_op rfl (op_assign rfl rfl ?_)
    refine wOps_nil ?_
    refine mwp_cond_f rfl (rfl) ?_
    refine mwp_seq ?_
    refine mwp_region rfl ?_
    refine wOps_op rfl (op_cmp rfl rfl rfl rfl ?_)
    refine wOps_op rfl (op_assign rfl rfl ?_)
    refine wOps_nil ?_
    refine mwp_cond_t rfl (rfl) ?_
    refine mwp_seq ?_
    refine mwp_region rfl ?_
    refine wOps_op rfl (op_load' rfl rfl rfl ta30 rfl ?_)
    refine wOps_op rfl (op_call rfl rfl rfl co62 ((has_spec n m _ c w false false true false true _).mono ?_))
    rintro _ _ ⟨rfl, rfl⟩
    refine wOps_op rfl (op_move rfl rfl ?_)
    refine wOps_case (fun h33 => ?_) (fun h33 => ?_)
    ·
      refine wOps_op rfl (op_fieldAddr_ref rfl rfl fo30_2 ?_)
      refine wOps_op rfl (op_load' rfl rfl rfl ta26 rfl ?_)
      refine wOps_op rfl (op_call rfl rfl rfl co63 ((rShort_spec s _).mono ?_))
      rintro _ _ ⟨rfl, rfl⟩
      refine wOps_op rfl (op_pick rfl rfl rfl ?_)
      refine wOps_op rfl (op_move rfl rfl ?_)
      refine wOps_case (fun h38 => ?_) (fun h38 => ?_)
      ·
        refine wOps_op rfl (op_fieldAddr_ref rfl rfl fo30_2 ?_)
        refine wOps_op rfl (op_load' rfl rfl rfl ta26 rfl ?_)
        refine wOps_op rfl (op_len_lst rfl Try.underlying26 rfl ?_)
        refine wOps_op rfl (op_fieldAddr_ref rfl rfl fo30_4 ?_)
        refine wOps_op rfl (op_load' rfl rfl rfl ta28 rfl ?_)
        refine wOps_op rfl (op_len_lst rfl Try.underlying28 rfl ?_)
        refine wOps_op rfl (op_cmp rfl rfl rfl rfl ?_)
        refine wOps_op rfl (op_pick rfl rfl rfl ?_)
        refine wOps_op rfl (op_assign rfl rfl ?_)
        refine wOps_nil ?_
        refine mwp_ret ?_
        exact ret_tmp (.inr rfl) Try.results43 rfl (.of_eq (by rw [fits_mk 4]; first | rfl | (congr 1; rw [Bool.eq_iff_iff]; simp_all [encVs_length]; done) | (congr 1; rw [Bool.eq_iff_iff]; simp_all [encVs_length]; omega))) (.bool _) ⟨rfl, rfl⟩
      ·
        refine wOps_skip rfl ?_
        refine wOps_skip rfl ?_
        refine wOps_skip rfl ?_
        refine wOps_skip rfl ?_
        refine wOps_skip rfl ?_
        refine wOps_skip rfl ?_
        refine wOps_skip rfl ?_
        refine wOps_op rfl (op_pick rfl rfl rfl ?_)
        refine wOps_op rfl (op_assign rfl rfl ?_)
        refine wOps_nil ?_
        refine mwp_ret ?_
        exact ret_tmp (.inr rfl) Try.results43 rfl (.of_eq (by rw [fits_mk 4]; first | rfl | (congr 1; rw [Bool.eq_iff_iff]; simp_all [encVs_length]; done) | (congr 1; rw [Bool.eq_iff_iff]; simp_all [encVs_length]; omega))) (.bool _) ⟨rfl, rfl⟩
    ·
      refine wOps_skip rfl ?_
      refine wOps_skip rfl ?_
      refine wOps_skip rfl ?_
      refine wOps_op rfl (op_pick rfl rfl rfl ?_)
      refine wOps_op rfl (op_move rfl rfl ?_)
      refine wOps_skip rfl ?_
      refine wOps_skip rfl ?_
      refine wOps_skip rfl ?_
      refine wOps_skip rfl ?_
      refine wOps_skip rfl ?_
      refine wOps_skip rfl ?_
      refine wOps_skip rfl ?_
      refine wOps_op rfl (op_pick rfl rfl rfl ?_)
      refine wOps_op rfl (op_assign rfl rfl ?_)
      refine wOps_nil ?_
      refine mwp_ret ?_
      exact ret_tmp (.inr rfl) Try.results43 rfl (.of_eq (by rw [fits_mk 4]; first | rfl | (congr 1; rw [Bool.eq_iff_iff]; simp_all [encVs_length]; done) | (congr 1; rw [Bool.eq_iff_iff]; simp_all [encVs_length]; omega))) (.bool _) ⟨rfl, rfl⟩
  ·
    refine mcalls_body Try.func43 rfl Try.ntmps43 (Nat.le_of_ble_eq_true rfl) ?_
    refine mwp_seq ?_
    refine mwp_region rfl ?_
    refine wOps_op rfl (op_box' rfl rfl rfl rfl ?_)
    refine wOps_op rfl (op_box' rfl rfl rfl rfl ?_)
    refine wOps_op rfl (op_assign rfl rfl ?_)
    refine wOps_nil ?_
    refine mwp_seq ?_
    refine mwp_seq ?_
    refine mwp_region rfl ?_
    refine wOps_op rfl (op_fieldAddr_ref rfl rfl fo24_0 ?_)
    refine wOps_op rfl (op_load' rfl rfl rfl ta3 rfl ?_)
    refine wOps_nil ?_
    refine mwp_block ?_
    refine mwp_seq ?_
    refine mwp_region rfl ?_
    refine wOps_op rfl (op_cmp rfl rfl rfl rfl ?_)
    refine wOps_op rfl (op_assign rfl rfl ?_)
    refine wOps_nil ?_
    refine mwp_cond_f rfl (rfl) ?_
    refine mwp_seq ?_
    refine mwp_region rfl ?_
    refine wOps_op rfl (op_cmp rfl rfl rfl rfl ?_)
    refine wOps_op rfl (op_assign rfl rfl ?_)
    refine wOps_nil ?_
    refine mwp_cond_f rfl (rfl) ?_
    refine mwp_seq ?_
    refine mwp_region rfl ?_
    refine wOps_op rfl (op_cmp rfl rfl rfl rfl ?_)
    refine wOps_op rfl (op_assign rfl rfl ?_)
    refine wOps_nil ?_
    refine mwp_cond_f rfl (rfl) ?_
    refine mwp_seq ?_
    refine mwp_region rfl ?_
    refine wOps_op rfl (op_cmp rfl rfl rfl rfl ?_)
    refine wOps_op rfl (op_assign rfl rfl ?_)
    refine wOps_nil ?_
    refine mwp_cond_f rfl (rfl) ?_
    refine mwp_seq ?_
    refine mwp_region rfl ?_
    refine wOps_op rfl (op_cmp rfl rfl rfl rfl ?_)
    refine wOps_op rfl (op_assign rfl rfl ?_)
    refine wOps_nil ?_
    refine mwp_cond_t rfl (rfl) ?_
    refine mwp_seq ?_
    refine mwp_region rfl ?_
    refine wOps_op rfl (op_load' rfl rfl rfl ta30 rfl ?_)
    refine wOps_op rfl (op_call rfl rfl rfl co62 ((has_spec n m _ c w false false false false true _).mono ?_))
    rintro _ _ ⟨rfl, rfl⟩
    refine wOps_op rfl (op_move rfl rfl ?_)
    refine wOps_case (fun h51 => ?_) (fun h51 => ?_)
    ·
      refine wOps_op rfl (op_fieldAddr_ref rfl rfl fo30_4 ?_)
      refine wOps_op rfl (op_load' rfl rfl rfl ta28 rfl ?_)
      refine wOps_op rfl (op_len_lst rfl Try.underlying28 rfl ?_)
      refine wOps_op rfl (op_cmp rfl rfl rfl rfl ?_)
      refine wOps_op rfl (op_pick rfl rfl rfl ?_)
      refine wOps_op rfl (op_assign rfl rfl ?_)
      refine wOps_nil ?_
      refine mwp_ret ?_
      exact ret_tmp (.inr rfl) Try.results43 rfl (.of_eq (by rw [fits_mk 5]; first | rfl | (congr 1; rw [Bool.eq_iff_iff]; simp_all [encVs_length]; done) | (congr 1; rw [Bool.eq_iff_iff]; simp_all [encVs_length]; omega))) (.bool _) ⟨rfl, rfl⟩
    ·
      refine wOps_skip rfl ?_
      refine wOps_skip rfl ?_
      refine wOps_skip rfl ?_
      refine wOps_skip rfl ?_
      refine wOps_op rfl (op_pick rfl rfl rfl ?_)
      refine wOps_op rfl (op_assign rfl rfl ?_)
      refine wOps_nil ?_
      refine mwp_ret ?_
      exact ret_tmp (.inr rfl) Try.results43 rfl (.of_eq (by rw [fits_mk 5]; first | rfl | (congr 1; rw [Bool.eq_iff_iff]; simp_all [encVs_length]; done) | (congr 1; rw [Bool.eq_iff_iff]; simp_all [encVs_length]; omega))) (.bool _) ⟨rfl, rfl⟩
  ·
    refine mcalls_body Try.func43 rfl Try.ntmps43 (Nat.le_of_ble_eq_true rfl) ?_
    refine mwp_seq ?_
    refine mwp_region rfl ?_
    refine wOps_op rfl (op_box' rfl rfl rfl rfl ?_)
    refine wOps_op rfl (op_box' rfl rfl rfl rfl ?_)
    refine wOps_op rfl (op_assign rfl rfl ?_)
    refine wOps_nil ?_
    refine mwp_seq ?_
    refine mwp_seq ?_
    refine mwp_region rfl ?_
    refine wOps_op rfl (op_fieldAddr_ref rfl rfl fo24_0 ?_)
    refine wOps_op rfl (op_load' rfl rfl rfl ta3 rfl ?_)
    refine wOps_nil ?_
    refine mwp_block ?_
    refine mwp_seq ?_
    refine mwp_region rfl ?_
    refine wOps_op rfl (op_cmp rfl rfl rfl rfl ?_)
    refine wOps_op rfl (op_assign rfl rfl ?_)
    refine wOps_nil ?_
    refine mwp_cond_f rfl (rfl) ?_
    refine mwp_seq ?_
    refine mwp_region rfl ?_
    refine wOps_op rfl (op_cmp rfl rfl rfl rfl ?_)
    refine wOps_op rfl (op_assign rfl rfl ?_)
    refine wOps_nil ?_
    refine mwp_cond_f rfl (rfl) ?_
    refine mwp_seq ?_
    refine mwp_region rfl ?_
    refine wOps_op rfl (op_cmp rfl rfl rfl rfl ?_)
    refine wOps_op rfl (op_assign rfl rfl ?_)
    refine wOps_nil ?_
    refine mwp_cond_f rfl (rfl) ?_
    refine mwp_seq ?_
    refine mwp_region rfl ?_
    refine wOps_op rfl (op_cmp rfl rfl rfl rfl ?_)
    refine wOps_op rfl (op_assign rfl rfl ?_)
    refine wOps_nil ?_
    refine mwp_cond_f rfl (rfl) ?_
    refine mwp_seq ?_
    refine mwp_region rfl ?_
    refine wOps_op rfl (op_cmp rfl rfl rfl rfl ?_)
    refine wOps_op rfl (op_assign rfl rfl ?_)
    refine wOps_nil ?_
    refine mwp_cond_f rfl (rfl) ?_
    refine mwp_seq ?_
    refine mwp_region rfl ?_
    refine wOps_op rfl (op_cmp rfl rfl rfl rfl ?_)
    refine wOps_op rfl (op_assign rfl rfl ?_)
    refine wOps_nil ?_
    refine mwp_cond_t rfl (rfl) ?_
    refine mwp_seq ?_
    refine mwp_seq ?_
    refine mwp_region rfl ?_
    refine wOps_op rfl (op_fieldAddr_ref rfl rfl fo30_2 ?_)
    refine wOps_op rfl (op_load' rfl rfl rfl ta26 rfl ?_)
    refine wOps_op rfl (op_len_lst rfl Try.underlying26 rfl ?_)
    refine wOps_op rfl (op_cmp rfl rfl rfl rfl ?_)
    refine wOps_nil ?_
    refine mwp_cond_split rfl (fun h62 => ?_) (fun h62 => ?_)
    · -- yes
      have hs0 : s = [] := by simpa using h62
      subst hs0
      refine mwp_seq ?_
      refine mwp_region rfl ?_
      refine wOps_op rfl (op_load' rfl rfl rfl ta30 rfl ?_)
      refine wOps_op rfl (op_call rfl rfl rfl co62 ((has_spec n m _ c w false false false false false _).mono ?_))
      rintro _ _ ⟨rfl, rfl⟩
      refine wOps_op rfl (op_assign rfl rfl ?_)
      refine wOps_nil ?_
      refine mwp_ret ?_
      exact ret_tmp (.inr rfl) Try.results43 rfl (.of_eq (by first | (rw [hF]; done) | (rw [fits6_nil]; done) | (rw [fits6_one]; congr 1; rw [Bool.eq_iff_iff]; simp_all [shortF]; done) | (rw [fits6_one]; congr 1; rw [Bool.eq_iff_iff]; simp_all [shortF]; intros; omega) | (congr 1; symm; exact fits6_has hs0 (by simpa using h67)))) (.bool _) ⟨rfl, rfl⟩
    · -- no
      have hs0 : ¬ s = [] := by simpa using h62
      refine mwp_skip ?_
      refine mwp_seq ?_
      refine mwp_region rfl ?_
      refine wOps_op rfl (op_load' rfl rfl rfl ta30 rfl ?_)
      refine wOps_op rfl (op_call rfl rfl rfl co62 ((has_spec n m _ c w true true true false false _).mono ?_))
      rintro _ _ ⟨rfl, rfl⟩
      refine wOps_op rfl (op_move rfl rfl ?_)
      refine wOps_case (fun h67 => ?_) (fun h67 => ?_)
      ·
        refine wOps_op rfl (op_fieldAddr_ref rfl rfl fo30_2 ?_)
        refine wOps_op rfl (op_load' rfl rfl rfl ta26 rfl ?_)
        refine wOps_op rfl (op_len_lst rfl Try.underlying26 rfl ?_)
        refine wOps_op rfl (op_cmp rfl rfl rfl rfl ?_)
        refine wOps_op rfl (op_pick rfl rfl rfl ?_)
        refine wOps_op rfl (op_move rfl rfl ?_)
        refine wOps_case (fun h73 => ?_) (fun h73 => ?_)
        ·
          obtain ⟨t, rfl⟩ := one_of (by rw [List.length_map] at h73; simp at h73; omega : s.length = 1)
          refine wOps_op rfl (op_fieldAddr_ref rfl rfl fo30_2 ?_)
          refine wOps_op rfl (op_load' rfl rfl rfl ta26 rfl ?_)
          refine wOps_op rfl (op_call rfl rfl rfl co63 ((rShort_spec [t] _).mono ?_))
          rintro _ _ ⟨rfl, rfl⟩
          refine wOps_op rfl (op_pick rfl rfl rfl ?_)
          refine wOps_op rfl (op_move rfl rfl ?_)
          refine wOps_case (fun h78 => ?_) (fun h78 => ?_)
          ·
            refine wOps_op rfl (op_fieldAddr_ref rfl rfl fo30_0 ?_)
            refine wOps_op rfl (op_load' rfl rfl rfl ta25 rfl ?_)
            refine wOps_op rfl (op_cmp rfl rfl rfl rfl ?_)
            refine wOps_op rfl (op_move rfl rfl ?_)
            refine wOps_case (fun h82 => ?_) (fun h82 => ?_)
            ·
              refine wOps_skip rfl ?_
              refine wOps_skip rfl ?_
              refine wOps_skip rfl ?_
              refine wOps_op rfl (op_pick rfl rfl rfl ?_)
              refine wOps_op rfl (op_move rfl rfl ?_)
              refine wOps_skip rfl ?_
              refine wOps_skip rfl ?_
              refine wOps_skip rfl ?_
              refine wOps_skip rfl ?_
              refine wOps_skip rfl ?_
              refine wOps_op rfl (op_pick rfl rfl rfl ?_)
              refine wOps_op rfl (op_pick rfl rfl rfl ?_)
              refine wOps_op rfl (op_assign rfl rfl ?_)
              refine wOps_nil ?_
              refine mwp_ret ?_
              exact ret_tmp (.inr rfl) Try.results43 rfl (.of_eq (by first | (rw [hF]; done) | (rw [fits6_nil]; done) | (rw [fits6_one]; congr 1; rw [Bool.eq_iff_iff]; simp_all [shortF]; done) | (rw [fits6_one]; congr 1; rw [Bool.eq_iff_iff]; simp_all [shortF]; intros; omega) | (congr 1; symm; exact fits6_has hs0 (by simpa using h67)))) (.bool _) ⟨rfl, rfl⟩
            ·
              refine wOps_op rfl (op_fieldAddr_ref rfl rfl fo30_1 ?_)
              refine wOps_op rfl (op_load' rfl rfl rfl ta25 rfl ?_)
              refine wOps_op rfl (op_cmp rfl rfl rfl rfl ?_)
              refine wOps_op rfl (op_pick rfl rfl rfl ?_)
              refine wOps_op rfl (op_move rfl rfl ?_)
              refine wOps_case (fun h87 => ?_) (fun h87 => ?_)
              ·
                refine wOps_skip rfl ?_
                refine wOps_skip rfl ?_
                refine wOps_skip rfl ?_
                refine wOps_skip rfl ?_
                refine wOps_skip rfl ?_
                refine wOps_op rfl (op_pick rfl rfl rfl ?_)
                refine wOps_op rfl (op_pick rfl rfl rfl ?_)
                refine wOps_op rfl (op_assign rfl rfl ?_)
                refine wOps_nil ?_
                refine mwp_ret ?_
                exact ret_tmp (.inr rfl) Try.results43 rfl (.of_eq (by first | (rw [hF]; done) | (rw [fits6_nil]; done) | (rw [fits6_one]; congr 1; rw [Bool.eq_iff_iff]; simp_all [shortF]; done) | (rw [fits6_one]; congr 1; rw [Bool.eq_iff_iff]; simp_all [shortF]; intros; omega) | (congr 1; symm; exact fits6_has hs0 (by simpa using h67)))) (.bool _) ⟨rfl, rfl⟩
              ·
                refine wOps_op rfl (op_fieldAddr_ref rfl rfl fo30_2 ?_)
                refine wOps_op rfl (op_load' rfl rfl rfl ta26 rfl ?_)
                refine wOps_op rfl (op_indexAddr rfl Try.underlying26 sz9 (by decide) rfl rfl rfl (show _ = some (encX t) from rfl) ?_)
                refine wOps_op rfl (op_load_sptr rfl rfl ta9 rfl ?_)
                refine wOps_op rfl (op_strcmp rfl rfl rfl rfl ?_)
                refine wOps_op rfl (op_pick rfl rfl rfl ?_)
                refine wOps_op rfl (op_pick rfl rfl rfl ?_)
                refine wOps_op rfl (op_assign rfl rfl ?_)
                refine wOps_nil ?_
                refine mwp_ret ?_
                exact ret_tmp (.inr rfl) Try.results43 rfl (.of_eq (by first | (rw [hF]; done) | (rw [fits6_nil]; done) | (rw [fits6_one]; congr 1; rw [Bool.eq_iff_iff]; simp_all [shortF]; done) | (rw [fits6_one]; congr 1; rw [Bool.eq_iff_iff]; simp_all [shortF]; intros; omega) | (congr 1; symm; exact fits6_has hs0 (by simpa using h67)))) (.bool _) ⟨rfl, rfl⟩
          ·
            refine wOps_skip rfl ?_
            refine wOps_skip rfl ?_
            refine wOps_skip rfl ?_
            refine wOps_skip rfl ?_
            refine wOps_skip rfl ?_
            refine wOps_skip rfl ?_
            refine wOps_skip rfl ?_
            refine wOps_skip rfl ?_
            refine wOps_skip rfl ?_
            refine wOps_skip rfl ?_
            refine wOps_skip rfl ?_
            refine wOps_skip rfl ?_
            refine wOps_skip rfl ?_
            refine wOps_skip rfl ?_
            refine wOps_skip rfl ?_
            refine wOps_op rfl (op_pick rfl rfl rfl ?_)
            refine wOps_op rfl (op_assign rfl rfl ?_)
            refine wOps_nil ?_
            refine mwp_ret ?_
            exact ret_tmp (.inr rfl) Try.results43 rfl (.of_eq (by first | (rw [hF]; done) | (rw [fits6_nil]; done) | (rw [fits6_one]; congr 1; rw [Bool.eq_iff_iff]; simp_all [shortF]; done) | (rw [fits6_one]; congr 1; rw [Bool.eq_iff_iff]; simp_all [shortF]; intros; omega) | (congr 1; symm; exact fits6_has hs0 (by simpa using h67)))) (.bool _) ⟨rfl, rfl⟩
        ·
          have hF : fitsF 6 (.mk n m s c w) = false := fits6_no hs0 (fun e => by rw [List.length_map, e] at h73; simp at h73)
          refine wOps_skip rfl ?_
          refine wOps_skip rfl ?_
          refine wOps_skip rfl ?_
          refine wOps_op rfl (op_pick rfl rfl rfl ?_)
          refine wOps_op rfl (op_move rfl rfl ?_)
          refine wOps_skip rfl ?_
          refine wOps_skip rfl ?_
          refine wOps_skip rfl ?_
          refine wOps_skip rfl ?_
          refine wOps_skip rfl ?_
          refine wOps_skip rfl ?_
          refine wOps_skip rfl ?_
          refine wOps_skip rfl ?_
          refine wOps_skip rfl ?_
          refine wOps_skip rfl ?_
          refine wOps_skip rfl ?_
          refine wOps_skip rfl ?_
          refine wOps_skip rfl ?_
          refine wOps_skip rfl ?_
          refine wOps_skip rfl ?_
          refine wOps_op rfl (op_pick rfl rfl rfl ?_)
          refine wOps_op rfl (op_assign rfl rfl ?_)
          refine wOps_nil ?_
          refine mwp_ret ?_
          exact ret_tmp (.inr rfl) Try.results43 rfl (.of_eq (by first | (rw [hF]; done) | (rw [fits6_nil]; done) | (rw [fits6_one]; congr 1; rw [Bool.eq_iff_iff]; simp_all [shortF]; done) | (rw [fits6_one]; congr 1; rw [Bool.eq_iff_iff]; simp_all [shortF]; intros; omega) | (congr 1; symm; exact fits6_has hs0 (by simpa using h67)))) (.bool _) ⟨rfl, rfl⟩
      ·
        refine wOps_skip rfl ?_
        refine wOps_skip rfl ?_
        refine wOps_skip rfl ?_
        refine wOps_skip rfl ?_
        refine wOps_op rfl (op_pick rfl rfl rfl ?_)
        refine wOps_op rfl (op_move rfl rfl ?_)
        refine wOps_skip rfl ?_
        refine wOps_skip rfl ?_
        refine wOps_skip rfl ?_
        refine wOps_op rfl (op_pick rfl rfl rfl ?_)
        refine wOps_op rfl (op_move rfl rfl ?_)
        refine wOps_skip rfl ?_
        refine wOps_skip rfl ?_
        refine wOps_skip rfl ?_
        refine wOps_skip rfl ?_
        refine wOps_skip rfl ?_
        refine wOps_skip rfl ?_
        refine wOps_skip rfl ?_
        refine wOps_skip rfl ?_
        refine wOps_skip rfl ?_
        refine wOps_skip rfl ?_
        refine wOps_skip rfl ?_
        refine wOps_skip rfl ?_
        refine wOps_skip rfl ?_
        refine wOps_skip rfl ?_
        refine wOps_skip rfl ?_
        refine wOps_op rfl (op_pick rfl rfl rfl ?_)
        refine wOps_op rfl (op_assign rfl rfl ?_)
        refine wOps_nil ?_
        refine mwp_ret ?_
        exact ret_tmp (.inr rfl) Try.results43 rfl (.of_eq (by first | (rw [hF]; done) | (rw [fits6_nil]; done) | (rw [fits6_one]; congr 1; rw [Bool.eq_iff_iff]; simp_all [shortF]; done) | (rw [fits6_one]; congr 1; rw [Bool.eq_iff_iff]; simp_all [shortF]; intros; omega) | (congr 1; symm; exact fits6_has hs0 (by simpa using h67)))) (.bool _) ⟨rfl, rfl⟩
  ·
    refine mcalls_body Try.func43 rfl Try.ntmps43 (Nat.le_of_ble_eq_true rfl) ?_
    refine mwp_seq ?_
    refine mwp_region rfl ?_
    refine wOps_op rfl (op_box' rfl rfl rfl rfl ?_)
    refine wOps_op rfl (op_box' rfl rfl rfl rfl ?_)
    refine wOps_op rfl (op_assign rfl rfl ?_)
    refine wOps_nil ?_
    refine mwp_seq ?_
    refine mwp_seq ?_
    refine mwp_region rfl ?_
    refine wOps_op rfl (op_fieldAddr_ref rfl rfl fo24_0 ?_)
    refine wOps_op rfl (op_load' rfl rfl rfl ta3 rfl ?_)
    refine wOps_nil ?_
    refine mwp_block ?_
    refine mwp_seq ?_
    refine mwp_region rfl ?_
    refine wOps_op rfl (op_cmp rfl rfl rfl rfl ?_)
    refine wOps_op rfl (op_assign rfl rfl ?_)
    refine wOps_nil ?_
    refine mwp_cond_f rfl (rfl) ?_
    refine mwp_seq ?_
    refine mwp_region rfl ?_
    refine wOps_op rfl (op_cmp rfl rfl rfl rfl ?_)
    refine wOps_op rfl (op_assign rfl rfl ?_)
    refine wOps_nil ?_
    refine mwp_cond_f rfl (rfl) ?_
    refine mwp_seq ?_
    refine mwp_region rfl ?_
    refine wOps_op rfl (op_cmp rfl rfl rfl rfl ?_)
    refine wOps_op rfl (op_assign rfl rfl ?_)
    refine wOps_nil ?_
    refine mwp_cond_f rfl (rfl) ?_
    refine mwp_seq ?_
    refine mwp_region rfl ?_
    refine wOps_op rfl (op_cmp rfl rfl rfl rfl ?_)
    refine wOps_op rfl (op_assign rfl rfl ?_)
    refine wOps_nil ?_
    refine mwp_cond_f rfl (rfl) ?_
    refine mwp_seq ?_
    refine mwp_region rfl ?_
    refine wOps_op rfl (op_cmp rfl rfl rfl rfl ?_)
    refine wOps_op rfl (op_assign rfl rfl ?_)
    refine wOps_nil ?_
    refine mwp_cond_f rfl (rfl) ?_
    refine mwp_seq ?_
    refine mwp_region rfl ?_
    refine wOps_op rfl (op_cmp rfl rfl rfl rfl ?_)
    refine wOps_op rfl (op_assign rfl rfl ?_)
    refine wOps_nil ?_
    refine mwp_cond_f rfl (rfl) ?_
    refine mwp_seq ?_
    refine mwp_region rfl ?_
    refine wOps_op rfl (op_cmp rfl rfl rfl rfl ?_)
    refine wOps_op rfl (op_assign rfl rfl ?_)
    refine wOps_nil ?_
    refine mwp_cond_t rfl (rfl) ?_
    refine mwp_seq ?_
    refine mwp_region rfl ?_
    refine wOps_op rfl (op_load' rfl rfl rfl ta30 rfl ?_)
    refine wOps_op rfl (op_call rfl rfl rfl co62 ((has_spec n m _ c w false false false true false _).mono ?_))
    rintro _ _ ⟨rfl, rfl⟩
    refine wOps_op rfl (op_move rfl rfl ?_)
    refine wOps_case (fun h99 => ?_) (fun h99 => ?_)
    ·
      refine wOps_op rfl (op_fieldAddr_ref rfl rfl fo30_3 ?_)
      refine wOps_op rfl (op_load' rfl rfl rfl ta27 rfl ?_)
      refine wOps_op rfl (op_len_lst rfl Try.underlying27 rfl ?_)
      refine wOps_op rfl (op_cmp rfl rfl rfl rfl ?_)
      refine wOps_op rfl (op_pick rfl rfl rfl ?_)
      refine wOps_op rfl (op_assign rfl rfl ?_)
      refine wOps_nil ?_
      refine mwp_ret ?_
      exact ret_tmp (.inr rfl) Try.results43 rfl (.of_eq (by rw [fits_mk 7]; first | rfl | (congr 1; rw [Bool.eq_iff_iff]; simp_all [encVs_length]; done) | (congr 1; rw [Bool.eq_iff_iff]; simp_all [encVs_length]; omega))) (.bool _) ⟨rfl, rfl⟩
    ·
      refine wOps_skip rfl ?_
      refine wOps_skip rfl ?_
      refine wOps_skip rfl ?_
      refine wOps_skip rfl ?_
      refine wOps_op rfl (op_pick rfl rfl rfl ?_)
      refine wOps_op rfl (op_assign rfl rfl ?_)
      refine wOps_nil ?_
      refine mwp_ret ?_
      exact ret_tmp (.inr rfl) Try.results43 rfl (.of_eq (by rw [fits_mk 7]; first | rfl | (congr 1; rw [Bool.eq_iff_iff]; simp_all [encVs_length]; done) | (congr 1; rw [Bool.eq_iff_iff]; simp_all [encVs_length]; omega))) (.bool _) ⟨rfl, rfl⟩
  ·
    refine mcalls_body Try.func43 rfl Try.ntmps43 (Nat.le_of_ble_eq_true rfl) ?_
    refine mwp_seq ?_
    refine mwp_region rfl ?_
    refine wOps_op rfl (op_box' rfl rfl rfl rfl ?_)
    refine wOps_op rfl (op_box' rfl rfl rfl rfl ?_)
    refine wOps_op rfl (op_assign rfl rfl ?_)
    refine wOps_nil ?_
    refine mwp_seq ?_
    refine mwp_seq ?_
    refine mwp_region rfl ?_
    refine wOps_op rfl (op_fieldAddr_ref rfl rfl fo24_0 ?_)
    refine wOps_op rfl (op_load' rfl rfl rfl ta3 rfl ?_)
    refine wOps_nil ?_
    refine mwp_block ?_
    refine mwp_seq ?_
    refine mwp_region rfl ?_
    refine wOps_op rfl (op_cmp rfl rfl rfl rfl ?_)
    refine wOps_op rfl (op_assign rfl rfl ?_)
    refine wOps_nil ?_
    refine mwp_cond_f rfl (rfl) ?_
    refine mwp_seq ?_
    refine mwp_region rfl ?_
    refine wOps_op rfl (op_cmp rfl rfl rfl rfl ?_)
    refine wOps_op rfl (op_assign rfl rfl ?_)
    refine wOps_nil ?_
    refine mwp_cond_f rfl (rfl) ?_
    refine mwp_seq ?_
    refine mwp_region rfl ?_
    refine wOps_op rfl (op_cmp rfl rfl rfl rfl ?_)
    refine wOps_op rfl (op_assign rfl rfl ?_)
    refine wOps_nil ?_
    refine mwp_cond_f rfl (rfl) ?_
    refine mwp_seq ?_
    refine mwp_region rfl ?_
    refine wOps_op rfl (op_cmp rfl rfl rfl rfl ?_)
    refine wOps_op rfl (op_assign rfl rfl ?_)
    refine wOps_nil ?_
    refine mwp_cond_f rfl (rfl) ?_
    refine mwp_seq ?_
    refine mwp_region rfl ?_
    refine wOps_op rfl (op_cmp rfl rfl rfl rfl ?_)
    refine wOps_op rfl (op_assign rfl rfl ?_)
    refine wOps_nil ?_
    refine mwp_cond_f rfl (rfl) ?_
    refine mwp_seq ?_
    refine mwp_region rfl ?_
    refine wOps_op rfl (op_cmp rfl rfl rfl rfl ?_)
    refine wOps_op rfl (op_assign rfl rfl ?_)
    refine wOps_nil ?_
    refine mwp_cond_f rfl (rfl) ?_
    refine mwp_seq ?_
    refine mwp_region rfl ?_
    refine wOps_op rfl (op_cmp rfl rfl rfl rfl ?_)
    refine wOps_op rfl (op_assign rfl rfl ?_)
    refine wOps_nil ?_
    refine mwp_cond_f rfl (rfl) ?_
    refine mwp_skip ?_
    refine mwp_seq ?_
    refine mwp_region rfl ?_
    refine wOps_op rfl (op_load' rfl rfl rfl ta30 rfl ?_)
    refine wOps_op rfl (op_call rfl rfl rfl co62 ((has_spec n m _ c w false false false true true _).mono ?_))
    rintro _ _ ⟨rfl, rfl⟩
    refine wOps_op rfl (op_move rfl rfl ?_)
    refine wOps_case (fun h107 => ?_) (fun h107 => ?_)
    ·
      refine wOps_op rfl (op_fieldAddr_ref rfl rfl fo30_3 ?_)
      refine wOps_op rfl (op_load' rfl rfl rfl ta27 rfl ?_)
      refine wOps_op rfl (op_len_lst rfl Try.underlying27 rfl ?_)
      refine wOps_op rfl (op_fieldAddr_ref rfl rfl fo30_4 ?_)
      refine wOps_op rfl (op_load' rfl rfl rfl ta28 rfl ?_)
      refine wOps_op rfl (op_len_lst rfl Try.underlying28 rfl ?_)
      refine wOps_op rfl (op_cmp rfl rfl rfl rfl ?_)
      refine wOps_op rfl (op_pick rfl rfl rfl ?_)
      refine wOps_op rfl (op_assign rfl rfl ?_)
      refine wOps_nil ?_
      refine mwp_ret ?_
      exact ret_tmp (.inr rfl) Try.results43 rfl (.of_eq (by rw [fits_mk 8]; first | rfl | (congr 1; rw [Bool.eq_iff_iff]; simp_all [encVs_length]; done) | (congr 1; rw [Bool.eq_iff_iff]; simp_all [encVs_length]; omega))) (.bool _) ⟨rfl, rfl⟩
    ·
      refine wOps_skip rfl ?_
      refine wOps_skip rfl ?_
      refine wOps_skip rfl ?_
      refine wOps_skip rfl ?_
      refine wOps_skip rfl ?_
      refine wOps_skip rfl ?_
      refine wOps_skip rfl ?_
      refine wOps_op rfl (op_pick rfl rfl rfl ?_)
      refine wOps_op rfl (op_assign rfl rfl ?_)
      refine wOps_nil ?_
      refine mwp_ret ?_
      exact ret_tmp (.inr rfl) Try.results43 rfl (.of_eq (by rw [fits_mk 8]; first | rfl | (congr 1; rw [Bool.eq_iff_iff]; simp_all [encVs_length]; done) | (congr 1; rw [Bool.eq_iff_iff]; simp_all [encVs_length]; omega))) (.bool _) ⟨rfl, rfl⟩
end Go.Proofs.Ytihpnfpdocnniaa
