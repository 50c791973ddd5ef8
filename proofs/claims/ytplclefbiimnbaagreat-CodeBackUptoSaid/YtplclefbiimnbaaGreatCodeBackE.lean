/-
  Texts on which the proof of CodeBack leans: part 5.
-/
import Derived.Test.YtplclefbiimnbaaGreatCodeBackD
set_option linter.unusedVariables false
set_option linter.unusedSimpArgs false
set_option maxRecDepth 20000
set_option maxHeartbeats 8000000
namespace Go.Proofs.YtplclefbiimnbaaGreat
open Go Go.MV
theorem ahead_nil : ∀ b : List Tk, aheadF [] b = decide (0 < b.length)
 | [] => rfl
 | _ :: _ => rfl
theorem ahead_nil2 : ∀ a : List Tk, aheadF a [] = false
 | [] => rfl
 | _ :: _ => rfl
theorem fits_mk {n m : Int} {s : List Bs} {c : List (List Tk)} {w : List Val} (k : Int) : fitsF k (.mk n m s c w) =
 (if k = 1 then hasF (.mk n m s c w) true false false false false
 else if k = 2 then hasF (.mk n m s c w) true false false false false && decide (n ≤ 1)
 else if k = 3 then hasF (.mk n m s c w) false false true false false && shortF s
 else if k = 4 then hasF (.mk n m s c w) false false true false true && shortF s && decide (s.length = w.length)
 else if k = 5 then hasF (.mk n m s c w) false false false false true && decide (w.length = 2)
 else if k = 6 then (match s with | [] => hasF (.mk n m s c w) false false false false false | [t] => hasF (.mk n m s c w) true true true false false && decide (t.length ≤ 16) && (!(n == 0) || !(m == 0) || !(t == [])) | _ => false)
 else if k = 7 then hasF (.mk n m s c w) false false false true false && decide (c.length ≤ 1)
 else hasF (.mk n m s c w) false false false true true && decide (c.length = w.length)) := rfl
theorem _root_.zT3 : type_of% @fits_mk := @fits_mk
theorem fits6_one {n m : Int} {t : Bs} {c : List (List Tk)} {w : List Val} : fitsF 6 (.mk n m [t] c w) = (hasF (.mk n m [t] c w) true true true false false && decide (t.length ≤ 16) && (!(n == 0) || !(m == 0) || !(t == []))) := rfl
theorem _root_.zA3 : type_of% @fits6_one := @fits6_one
theorem fits6_nil {n m : Int} {c : List (List Tk)} {w : List Val} : fitsF 6 (.mk n m [] c w) = hasF (.mk n m [] c w) false false false false false := rfl
theorem fits6_no {n m : Int} {s : List Bs} {c : List (List Tk)} {w : List Val} (h : ¬ s = []) (h1 : ¬ s.length = 1) : fitsF 6 (.mk n m s c w) = false := by
 match s, h, h1 with
 | [], h, _ => exact absurd rfl h
 | [t], _, h => exact absurd rfl h
 | _ :: _ :: _, _, _ => rfl
theorem fits6_has {n m : Int} {s : List Bs} {c : List (List Tk)} {w : List Val} (h : ¬ s = []) (h1 : hasF (.mk n m s c w) true true true false false = false) : fitsF 6 (.mk n m s c w) = false := by
 match s, h, h1 with
 | [], h, _ => exact absurd rfl h
 | [t], _, h =>
  show (hasF (.mk n m [t] c w) true true true false false && _ && _) = false
  rw [h]; rfl
 | _ :: _ :: _, _, _ => rfl
theorem rBottomV_spec (d : Nat) : d ≤ 16 → ∀ (s : Sch), isF d s = true → ∀ S : MS, MCalls Tryz.prog 53 [encS s] S fun v σ' => v = encV (BottomF s) ∧ σ' = S := by
 induction d with
 | zero => intro _ s h; simp [isF] at h
 | succ d ih =>
 rintro h16 ⟨k, ins⟩ hd S
 have his := isF_le h16 hd
 rw [isF] at hd
 simp only [Bool.and_eq_true, List.all_eq_true, beq_iff_eq] at hd
 refine zN Tryz.func53 V Tryz.ntmps53 (zB V) ?_
 refine zA <| qR V <| qB V V V V V <| qO V <| zH0 V zm30 V V <| qN <| zA <| zA <| qR V <| qL V V V V ta24 V ?_
 refine qX V V V V co16 (rIsSchema_spec (.mk k ins) _) ?_
 rw [his]
 refine qO V <| zL1 V V <| qM V V V <| qF V V V zM1 <| qL V V V V ta3 V <| qC V V V V V <| qP V V V V <| qN ?_
 refine zE V (fun h10 => ?_) (fun h10 => ?_)
 ·
  have hk : ¬ k = 5 := by simpa using h10
  have hbot : BottomF (.mk k ins) = noV := by unfold BottomF; rw [if_pos his, bottomF, if_neg hk]
  refine zA <| qR V <| qO V <| zA2 V zU1 zm30 .nil (by kernel_rfl) ?_
  refine qO V <| zT0 V V V V sz30 V V (zB V) V <| qN <| zG ?_
  rw [hbot]
  exact zA4 (y := encV (noV)) (.inr V) Tryz.results53 V V ta30 V (.agg (.cons (.refl _) (.cons (.refl _) (.cons (.nil _) (.cons (.nil _) (.cons (.nil _) .nil)))))) (zG2 _ _) Vv
 ·
  have hk : k = 5 := by simpa using h10
  subst hk
  obtain ⟨⟨k1, i1⟩, ⟨k2, i2⟩, rfl⟩ := two_of hd.1
  have his1 := isF_le (by omega : d ≤ 16) (hd.2 (.mk k1 i1) (by simp))
  have his2 := isF_le (by omega : d ≤ 16) (hd.2 (.mk k2 i2) (by simp))
  obtain ⟨⟨n1, m1, s1, c1, w1⟩, e1⟩ : ∃ v, BottomF (.mk k1 i1) = v := ⟨_, rfl⟩
  obtain ⟨⟨n2, m2, s2, c2, w2⟩, e2⟩ : ∃ v, BottomF (.mk k2 i2) = v := ⟨_, rfl⟩
  have ih1 := ih (by omega) (.mk k1 i1) (hd.2 _ (by simp))
  have ih2 := ih (by omega) (.mk k2 i2) (hd.2 _ (by simp))
  simp only [e1] at ih1
  simp only [e2] at ih2
  have hbot : BottomF (.mk 5 [.mk k1 i1, .mk k2 i2]) = .mk 0 0 [] [] [.mk n1 m1 s1 c1 w1, .mk n2 m2 s2 c2 w2] := by
   unfold BottomF at e1 e2 ⊢
   rw [if_pos his1] at e1
   rw [if_pos his2] at e2
   rw [if_pos his, bottomF, if_pos rfl, bottomL, bottomL, bottomL, e1, e2]
  refine zQ <| zA ?_
  refine zV0 [12] [_, S ++ [.cells (encS (.mk 5 [.mk k1 i1, .mk k2 i2])).cells, .cells [.int .u64 0, .int .u64 0, .lst0, .lst0, .lst none 5 [encV (.mk n1 m1 s1 c1 w1), encV (.mk n2 m2 s2 c2 w2)]]]] mo (by decide) V V V V ?_
  refine dO V V V (zL V V zC2 Vv) <| dO V V V (zL0 V V V ta22 V Vv) <| dO V V V (zO V zD0 sz24 (by decide) V V V (show _ = some (encS (.mk k1 i1)) from V) Vv) ?_
  refine dO V V V (zP V V ta24 V Vv) <| zV V V (.cons (zX0 V V V co53 (ih1 _)) .nil) <| dO V V V (zL V V zC2 Vv) <| dO V V V (zL0 V V V ta22 V Vv) <| dO V V V (zO V zD0 sz24 (by decide) V V V (show _ = some (encS (.mk k2 i2)) from V) Vv) ?_
  refine dO V V V (zP V V ta24 V Vv) <| zV V V (.cons (zX0 V V V co53 (ih2 _)) .nil) <| dO V V V (zI1 V zT el30 V V (by decide) (by decide) V V Vv) ?_
  refine dO V V V (zA2 V zU1 zm30 (.cons zO1 sz28 V V (zB V) .nil) (by kernel_rfl) Vv) ?_
  refine zG1 V V V V (zT0 V V V V sz30 V V (zB V) V Vv) <| zO0 <| zG ?_
  rw [hbot]
  exact zA4 (y := encV (.mk 0 0 [] [] [.mk n1 m1 s1 c1 w1, .mk n2 m2 s2 c2 w2])) (.inr V) Tryz.results53 V V ta30 V (.agg (.cons (.refl _) (.cons (.refl _) (.cons (.nil _) (.cons (.nil _) (.cons (.refl _) .nil)))))) (zG2 _ _) Vv
theorem rBottom_spec (s : Sch) (S : MS) : MCalls Tryz.prog 53 [encS s] S fun v σ' => v = encV (BottomF s) ∧ σ' = S := by
 by_cases h : isF 16 s = true
 ·exact rBottomV_spec 16 (by omega) s h S
 ·obtain ⟨k, ins⟩ := s
  replace h : isF 16 (.mk k ins) = false := by simpa using h
  have hbot : BottomF (.mk k ins) = noV := by unfold BottomF; rw [if_neg (by simp [h])]
  refine zN Tryz.func53 V Tryz.ntmps53 (zB V) ?_
  refine zA <| qR V <| qB V V V V V <| qO V <| zH0 V zm30 V V <| qN <| zA <| zA <| qR V <| qL V V V V ta24 V ?_
  refine qX V V V V co16 (rIsSchema_spec (.mk k ins) _) ?_
  rw [h]
  refine qO V <| zL1 V V <| qM V V V <| qS V <| qS V <| qS V <| qP V V V V <| qN <| zX V (V) <| zA <| qR V <| qO V <| zA2 V zU1 zm30 .nil (by kernel_rfl) ?_
  refine qO V <| zT0 V V V V sz30 V V (zB V) V <| qN <| zG ?_
  rw [hbot]
  exact zA4 (y := encV (noV)) (.inr V) Tryz.results53 V V ta30 V (.agg (.cons (.refl _) (.cons (.refl _) (.cons (.nil _) (.cons (.nil _) (.cons (.nil _) .nil)))))) (zG2 _ _) Vv
theorem rNone_spec (s : Sch) (x : Val) (S : MS) : MCalls Tryz.prog 33 [encS s, encV x] S fun v σ' => v = .bool (noneF s x) ∧ σ' = S := by
 obtain ⟨k, ins⟩ := s
 obtain ⟨n, m, s, c, w⟩ := x
 refine zN Tryz.func33 V Tryz.ntmps33 (zB V) ?_
 refine zA <| qR V <| qB V V V V V <| qB V V V V V <| qA V V V <| qN <| zA ?_
 refine zV0 [] [_] mo (by decide) V V V V ?_
 refine dO V V V (zL0 V V V ta30 V Vv) <| dO V V V (zL0 V V V ta24 V Vv) <| zV V V (.cons (zX0 V V V co53 (rBottom_spec (.mk k ins) _)) .nil) <| zV V V (.cons (zX0 V V V co10 (rSame_spec (.mk n m s c w) (BottomF (.mk k ins)) _)) .nil) <| dO V V V (zC1 V V Vv) <| zO0 <| zG ?_
 exact zK (.inr V) Tryz.results33 V (.of_eq (by unfold noneF; congr 1; rw [zC]; simp only [decide_eq_true_eq]; exact eq_comm)) (.bool _) Vv
theorem rRises_spec (l : List Bs) (S : MS) : MCalls Tryz.prog 32 [.lst none 1 (l.map encX)] S fun v σ' => v = .bool (risesF l) ∧ σ' = S := by
 refine zN Tryz.func32 V Tryz.ntmps32 (zB V) ?_
 refine zP2 (t := 0) V fun hlen => ?_
 rw [zH] at hlen
 refine zA <| qR V <| qA V V V <| qN <| zA <| zA <| qR V <| qA V V V <| qN <| zW ?_
 refine zD1 (α := Nat) [(0, _)] (fun j => [(3, .int .i64 ((j + 1 : Nat) : Int))]) (fun j => []) (fun j => j ≤ l.length ∧ ∀ i, i < j → i + 1 < l.length → Op.bytesLess (l.getD i []) (l.getD (i + 1) []) = true) (fun j => l.length + 1 - j) (0) (.keep V (.nil)) (.keep V (.nil)) (⟨by omega, fun i hi => by omega⟩) (V) ?_
 rintro j ⟨hj, hall⟩
 refine zA <| zA <| qR V <| qM V V V <| qM V V V <| qE V V zA0 V <| qC V V V V V <| qN ?_
 refine zE V (fun h7 => ?_) (fun h7 => ?_)
 ·
  have hlt : j + 1 < l.length := by rw [zH] at h7; simp at h7; omega
  obtain ⟨a, hs⟩ : ∃ a, l[j]? = some a := ⟨_, zD (by omega)⟩
  obtain ⟨b, hs2⟩ : ∃ a, l[j + 1]? = some a := ⟨_, zD hlt⟩
  have ha : l.getD j [] = a := by simp [hs]
  have hb : l.getD (j + 1) [] = b := by simp [hs2]
  refine zQ <| zA <| zW <| zA ?_
  refine zV0 [] [_] mo (by decide) V V V V ?_
  refine dO V V V (zY V V Vv) <| dO V V V (zY V V Vv) <| dO V V V (zU0 V V V (wsub (a := j + 1) (b := 1) (c := j) (by omega) (by simp only [maxLen] at hlen; omega)) Vv) ?_
  refine dO V V V (zO V zA0 sz9 (by decide) V V V (zE1 hs) Vv) ?_
  refine dO V V V (zP V V ta9 V Vv) <| dO V V V (zY V V Vv) <| dO V V V (zY V V Vv) <| dO V V V (zO V zA0 sz9 (by decide) V V V (zE1 hs2) Vv) ?_
  refine dO V V V (zP V V ta9 V Vv) <| dO V V V (zZ2 V V V V Vv) <| zO0 ?_
  refine zE V (fun h19 => ?_) (fun h19 => ?_)
  ·
   refine zA <| qR V <| qA V V V <| qN <| zG ?_
   exact zK (.inr V) Tryz.results32 V (.of_eq (by congr 1; symm; cases h : risesF l with | false => rfl | true => (have := (rises_iff l).1 h j hlt; rw [ha, hb] at this; simp [this] at h19))) (.bool _) Vv
  ·
   refine zQ <| qR V <| qM V V V <| qO V <| zU0 V V V V <| qA V V V <| qN ?_
   refine ⟨j + 1, by omega, ⟨by omega, fun i hi hi2 => ?_⟩, rfl, (.keep V (.nil)), (.eq V (zH1 hlt hlen) (.nil))⟩
   by_cases e : i = j
   ·subst e; rw [ha, hb]; simpa using h19
   ·exact hall i (by omega) hi2
 ·
  have hge : l.length ≤ j + 1 := by rw [zH] at h7; simp at h7; omega
  refine zA1 <| zA <| qR V <| qA V V V <| qN <| zG ?_
  exact zK (.inr V) Tryz.results32 V (.of_eq (by congr 1; symm; exact (rises_iff l).2 fun i hi => hall i (by omega) hi)) (.bool _) Vv
theorem _root_.zK4 : type_of% @rRises_spec := @rRises_spec
theorem rShort_spec (l : List Bs) (S : MS) : MCalls Tryz.prog 52 [.lst none 1 (l.map encX)] S fun v σ' => v = .bool (shortF l) ∧ σ' = S := by
 refine zN Tryz.func52 V Tryz.ntmps52 (zB V) ?_
 refine zP2 (t := 0) V fun hlen => ?_
 rw [zH] at hlen
 refine zA <| qR V <| qA V V V <| qN <| zA <| zA <| qR V <| qA V V V <| qN <| zW ?_
 refine zD1 (α := Nat) [(0, _)] (fun i => [(3, .int .i64 (i : Int))]) (fun i => []) (fun i => i ≤ l.length ∧ shortF (l.take i) = true) (fun i => l.length - i) (0) (.keep V (.nil)) (.keep V (.nil)) (⟨by omega, rfl⟩) (V) ?_
 rintro i ⟨hi, hall⟩
 refine zA <| zA <| qR V <| qM V V V <| qM V V V <| qE V V zA0 V <| qC V V V V V <| qN ?_
 refine zE V (fun h7 => ?_) (fun h7 => ?_)
 ·
  have hlt : i < l.length := by simpa using h7
  obtain ⟨s, hs⟩ : ∃ q_, l[i]? = some q_ := ⟨_, zD hlt⟩
  refine zQ <| zA <| zW <| zA <| qR V <| qM V V V <| qM V V V <| qO V <| zO V zA0 sz9 (by decide) V V V (zE1 hs) ?_
  refine qO V <| zP V V ta9 V <| qO V <| zD2 V zJ0 V <| qC V V V V V <| qN ?_
  refine zE V (fun h15 => ?_) (fun h15 => ?_)
  ·
   refine zA <| qR V <| qA V V V <| qN <| zG ?_
   exact zK (.inr V) Tryz.results52 V (.of_eq (by congr 1; symm; unfold shortF; rw [List.all_eq_false]; exact ⟨s, zU hs, by simp at h15; simp; omega⟩)) (.bool _) Vv
  ·
   refine zQ <| qR V <| qM V V V <| qO V <| zU0 V V V V <| qA V V V <| qN ?_
   refine ⟨i + 1, by omega, ⟨by omega, ?_⟩, rfl, (.keep V (.nil)), (.eq V (zH1 hlt hlen) (.nil))⟩
   unfold shortF at hall ⊢
   rw [List.take_add_one, hs, List.all_append, hall]
   simp at h15
   simp
   omega
 ·
  have hge : i = l.length := by simp at h7; omega
  refine zA1 <| zA <| qR V <| qA V V V <| qN <| zG ?_
  exact zK (.inr V) Tryz.results52 V (.of_eq (by rw [hge, List.take_length] at hall; rw [hall])) (.bool _) Vv
theorem _root_.zI0 : type_of% @Tryz.results51 := @Tryz.results51
theorem has_spec (n m : Int) (s : List Bs) (c : List (List Tk)) (w : List Val) (f1 f2 f3 f4 f5 : Bool) (S : MS) : MCalls Tryz.prog 51 [encV (.mk n m s c w), .bool f1, .bool f2, .bool f3, .bool f4, .bool f5] S fun v σ' => v = .bool (hasF (.mk n m s c w) f1 f2 f3 f4 f5) ∧ σ' = S := by
 refine zN Tryz.func51 V Tryz.ntmps51 (zB V) ?_
 refine zA <| qR V <| qB V V V V V <| qA V V V <| qN <| zA <| qR V <| qM V V V <| qM V V V ?_
 refine zB0 (fun h14 => ?_) (fun h14 => ?_)
 ·
  refine qS V <| qS V <| qS V <| qP V V V V <| qM V V V <| qM V V V <| qM V V V ?_
  refine zB0 (fun h21 => ?_) (fun h21 => ?_)
  ·
   refine qS V <| qS V <| qS V <| qP V V V V <| qP V V V V <| qM V V V <| qM V V V <| qM V V V ?_
   refine zB0 (fun h29 => ?_) (fun h29 => ?_)
   ·
    refine qT V V V V <| qP V V V V <| qP V V V V <| qM V V V <| qM V V V <| qM V V V ?_
    refine zB0 (fun h38 => ?_) (fun h38 => ?_)
    ·
     refine qT V V V V <| qP V V V V <| qP V V V V <| qM V V V <| qM V V V <| qM V V V ?_
     refine zB0 (fun h47 => ?_) (fun h47 => ?_)
     ·
      refine qT V V V V <| qP V V V V <| qP V V V V <| qA V V V <| qN <| zG ?_
      exact zK (.inr V) zI0 V (.of_eq (by congr 1; rw [zC]; simp_all [hasF, Val.nv, Val.mv, Val.sv, Val.cv, Val.vv])) (.bool _) Vv
     ·
      refine qF V V V zO1 <| qL V V V V ta28 V <| qE V V zT V ?_
      try rw [zZ]
      refine qC V V V V V <| qP V V V V <| qP V V V V <| qA V V V <| qN <| zG ?_
      exact zK (.inr V) zI0 V (.of_eq (by congr 1; rw [zC]; simp_all [hasF, Val.nv, Val.mv, Val.sv, Val.cv, Val.vv])) (.bool _) Vv
    ·
     refine qF V V V zS1 <| qL V V V V ta27 V <| qE V V zS V <| qC V V V V V <| qP V V V V <| qP V V V V <| qM V V V ?_
     refine zB0 (fun h45 => ?_) (fun h45 => ?_)
     ·
      refine qM V V V <| qM V V V ?_
      refine zB0 (fun h47 => ?_) (fun h47 => ?_)
      ·
       refine qT V V V V <| qP V V V V <| qP V V V V <| qA V V V <| qN <| zG ?_
       exact zK (.inr V) zI0 V (.of_eq (by congr 1; rw [zC]; simp_all [hasF, Val.nv, Val.mv, Val.sv, Val.cv, Val.vv])) (.bool _) Vv
      ·
       refine qF V V V zO1 <| qL V V V V ta28 V <| qE V V zT V ?_
       try rw [zZ]
       refine qC V V V V V <| qP V V V V <| qP V V V V <| qA V V V <| qN <| zG ?_
       exact zK (.inr V) zI0 V (.of_eq (by congr 1; rw [zC]; simp_all [hasF, Val.nv, Val.mv, Val.sv, Val.cv, Val.vv])) (.bool _) Vv
     ·
      refine qT V V V V <| qS V <| qS V <| qS V <| qP V V V V <| qA V V V <| qN <| zG ?_
      exact zK (.inr V) zI0 V (.of_eq (by congr 1; rw [zC]; simp_all [hasF, Val.nv, Val.mv, Val.sv, Val.cv, Val.vv])) (.bool _) Vv
   ·
    refine qF V V V zT1 <| qL V V V V ta26 V <| qE V V zA0 V <| qC V V V V V <| qP V V V V <| qP V V V V <| qM V V V ?_
    refine zB0 (fun h36 => ?_) (fun h36 => ?_)
    ·
     refine qM V V V <| qM V V V ?_
     refine zB0 (fun h38 => ?_) (fun h38 => ?_)
     ·
      refine qT V V V V <| qP V V V V <| qP V V V V <| qM V V V <| qM V V V <| qM V V V ?_
      refine zB0 (fun h47 => ?_) (fun h47 => ?_)
      ·
       refine qT V V V V <| qP V V V V <| qP V V V V <| qA V V V <| qN <| zG ?_
       exact zK (.inr V) zI0 V (.of_eq (by congr 1; rw [zC]; simp_all [hasF, Val.nv, Val.mv, Val.sv, Val.cv, Val.vv])) (.bool _) Vv
      ·
       refine qF V V V zO1 <| qL V V V V ta28 V <| qE V V zT V ?_
       try rw [zZ]
       refine qC V V V V V <| qP V V V V <| qP V V V V <| qA V V V <| qN <| zG ?_
       exact zK (.inr V) zI0 V (.of_eq (by congr 1; rw [zC]; simp_all [hasF, Val.nv, Val.mv, Val.sv, Val.cv, Val.vv])) (.bool _) Vv
     ·
      refine qF V V V zS1 <| qL V V V V ta27 V <| qE V V zS V <| qC V V V V V <| qP V V V V <| qP V V V V <| qM V V V ?_
      refine zB0 (fun h45 => ?_) (fun h45 => ?_)
      ·
       refine qM V V V <| qM V V V ?_
       refine zB0 (fun h47 => ?_) (fun h47 => ?_)
       ·
        refine qT V V V V <| qP V V V V <| qP V V V V <| qA V V V <| qN <| zG ?_
        exact zK (.inr V) zI0 V (.of_eq (by congr 1; rw [zC]; simp_all [hasF, Val.nv, Val.mv, Val.sv, Val.cv, Val.vv])) (.bool _) Vv
       ·
        refine qF V V V zO1 <| qL V V V V ta28 V <| qE V V zT V ?_
        try rw [zZ]
        refine qC V V V V V <| qP V V V V <| qP V V V V <| qA V V V <| qN <| zG ?_
        exact zK (.inr V) zI0 V (.of_eq (by congr 1; rw [zC]; simp_all [hasF, Val.nv, Val.mv, Val.sv, Val.cv, Val.vv])) (.bool _) Vv
      ·
       refine qT V V V V <| qS V <| qS V <| qS V <| qP V V V V <| qA V V V <| qN <| zG ?_
       exact zK (.inr V) zI0 V (.of_eq (by congr 1; rw [zC]; simp_all [hasF, Val.nv, Val.mv, Val.sv, Val.cv, Val.vv])) (.bool _) Vv
    ·
     refine qT V V V V <| qS V <| qS V <| qS V <| qP V V V V <| qM V V V <| qT V V V V <| qS V <| qS V <| qS V <| qP V V V V <| qA V V V <| qN <| zG ?_
     exact zK (.inr V) zI0 V (.of_eq (by congr 1; rw [zC]; simp_all [hasF, Val.nv, Val.mv, Val.sv, Val.cv, Val.vv])) (.bool _) Vv
  ·
   refine qF V V V zX4 <| qL V V V V ta25 V <| qC V V V V V <| qP V V V V <| qP V V V V <| qM V V V ?_
   refine zB0 (fun h27 => ?_) (fun h27 => ?_)
   ·
    refine qM V V V <| qM V V V ?_
    refine zB0 (fun h29 => ?_) (fun h29 => ?_)
    ·
     refine qT V V V V <| qP V V V V <| qP V V V V <| qM V V V <| qM V V V <| qM V V V ?_
     refine zB0 (fun h38 => ?_) (fun h38 => ?_)
     ·
      refine qT V V V V <| qP V V V V <| qP V V V V <| qM V V V <| qM V V V <| qM V V V ?_
      refine zB0 (fun h47 => ?_) (fun h47 => ?_)
      ·
       refine qT V V V V <| qP V V V V <| qP V V V V <| qA V V V <| qN <| zG ?_
       exact zK (.inr V) zI0 V (.of_eq (by congr 1; rw [zC]; simp_all [hasF, Val.nv, Val.mv, Val.sv, Val.cv, Val.vv])) (.bool _) Vv
      ·
       refine qF V V V zO1 <| qL V V V V ta28 V <| qE V V zT V ?_
       try rw [zZ]
       refine qC V V V V V <| qP V V V V <| qP V V V V <| qA V V V <| qN <| zG ?_
       exact zK (.inr V) zI0 V (.of_eq (by congr 1; rw [zC]; simp_all [hasF, Val.nv, Val.mv, Val.sv, Val.cv, Val.vv])) (.bool _) Vv
     ·
      refine qF V V V zS1 <| qL V V V V ta27 V <| qE V V zS V <| qC V V V V V <| qP V V V V <| qP V V V V <| qM V V V ?_
      refine zB0 (fun h45 => ?_) (fun h45 => ?_)
      ·
       refine qM V V V <| qM V V V ?_
       refine zB0 (fun h47 => ?_) (fun h47 => ?_)
       ·
        refine qT V V V V <| qP V V V V <| qP V V V V <| qA V V V <| qN <| zG ?_
        exact zK (.inr V) zI0 V (.of_eq (by congr 1; rw [zC]; simp_all [hasF, Val.nv, Val.mv, Val.sv, Val.cv, Val.vv])) (.bool _) Vv
       ·
        refine qF V V V zO1 <| qL V V V V ta28 V <| qE V V zT V ?_
        try rw [zZ]
        refine qC V V V V V <| qP V V V V <| qP V V V V <| qA V V V <| qN <| zG ?_
        exact zK (.inr V) zI0 V (.of_eq (by congr 1; rw [zC]; simp_all [hasF, Val.nv, Val.mv, Val.sv, Val.cv, Val.vv])) (.bool _) Vv
      ·
       refine qT V V V V <| qS V <| qS V <| qS V <| qP V V V V <| qA V V V <| qN <| zG ?_
       exact zK (.inr V) zI0 V (.of_eq (by congr 1; rw [zC]; simp_all [hasF, Val.nv, Val.mv, Val.sv, Val.cv, Val.vv])) (.bool _) Vv
    ·
     refine qF V V V zT1 <| qL V V V V ta26 V <| qE V V zA0 V <| qC V V V V V <| qP V V V V <| qP V V V V <| qM V V V ?_
     refine zB0 (fun h36 => ?_) (fun h36 => ?_)
     ·
      refine qM V V V <| qM V V V ?_
      refine zB0 (fun h38 => ?_) (fun h38 => ?_)
      ·
       refine qT V V V V <| qP V V V V <| qP V V V V <| qM V V V <| qM V V V <| qM V V V ?_
       refine zB0 (fun h47 => ?_) (fun h47 => ?_)
       ·
        refine qT V V V V <| qP V V V V <| qP V V V V <| qA V V V <| qN <| zG ?_
        exact zK (.inr V) zI0 V (.of_eq (by congr 1; rw [zC]; simp_all [hasF, Val.nv, Val.mv, Val.sv, Val.cv, Val.vv])) (.bool _) Vv
       ·
        refine qF V V V zO1 <| qL V V V V ta28 V <| qE V V zT V ?_
        try rw [zZ]
        refine qC V V V V V <| qP V V V V <| qP V V V V <| qA V V V <| qN <| zG ?_
        exact zK (.inr V) zI0 V (.of_eq (by congr 1; rw [zC]; simp_all [hasF, Val.nv, Val.mv, Val.sv, Val.cv, Val.vv])) (.bool _) Vv
      ·
       refine qF V V V zS1 <| qL V V V V ta27 V <| qE V V zS V <| qC V V V V V <| qP V V V V <| qP V V V V <| qM V V V ?_
       refine zB0 (fun h45 => ?_) (fun h45 => ?_)
       ·
        refine qM V V V <| qM V V V ?_
        refine zB0 (fun h47 => ?_) (fun h47 => ?_)
        ·
         refine qT V V V V <| qP V V V V <| qP V V V V <| qA V V V <| qN <| zG ?_
         exact zK (.inr V) zI0 V (.of_eq (by congr 1; rw [zC]; simp_all [hasF, Val.nv, Val.mv, Val.sv, Val.cv, Val.vv])) (.bool _) Vv
        ·
         refine qF V V V zO1 <| qL V V V V ta28 V <| qE V V zT V ?_
         try rw [zZ]
         refine qC V V V V V <| qP V V V V <| qP V V V V <| qA V V V <| qN <| zG ?_
         exact zK (.inr V) zI0 V (.of_eq (by congr 1; rw [zC]; simp_all [hasF, Val.nv, Val.mv, Val.sv, Val.cv, Val.vv])) (.bool _) Vv
       ·
        refine qT V V V V <| qS V <| qS V <| qS V <| qP V V V V <| qA V V V <| qN <| zG ?_
        exact zK (.inr V) zI0 V (.of_eq (by congr 1; rw [zC]; simp_all [hasF, Val.nv, Val.mv, Val.sv, Val.cv, Val.vv])) (.bool _) Vv
     ·
      refine qT V V V V <| qS V <| qS V <| qS V <| qP V V V V <| qM V V V <| qT V V V V <| qS V <| qS V <| qS V <| qP V V V V <| qA V V V <| qN <| zG ?_
      exact zK (.inr V) zI0 V (.of_eq (by congr 1; rw [zC]; simp_all [hasF, Val.nv, Val.mv, Val.sv, Val.cv, Val.vv])) (.bool _) Vv
   ·
    refine qT V V V V <| qS V <| qS V <| qS V <| qP V V V V <| qM V V V <| qT V V V V <| qS V <| qS V <| qS V <| qP V V V V <| qM V V V <| qT V V V V <| qS V <| qS V <| qS V <| qP V V V V ?_
    refine qA V V V <| qN <| zG ?_
    exact zK (.inr V) zI0 V (.of_eq (by congr 1; rw [zC]; simp_all [hasF, Val.nv, Val.mv, Val.sv, Val.cv, Val.vv])) (.bool _) Vv
 ·
  refine qF V V V zB4 <| qL V V V V ta25 V <| qC V V V V V <| qP V V V V <| qM V V V ?_
  refine zB0 (fun h19 => ?_) (fun h19 => ?_)
  ·
   refine qM V V V <| qM V V V ?_
   refine zB0 (fun h21 => ?_) (fun h21 => ?_)
   ·
    refine qS V <| qS V <| qS V <| qP V V V V <| qP V V V V <| qM V V V <| qM V V V <| qM V V V ?_
    refine zB0 (fun h29 => ?_) (fun h29 => ?_)
    ·
     refine qT V V V V <| qP V V V V <| qP V V V V <| qM V V V <| qM V V V <| qM V V V ?_
     refine zB0 (fun h38 => ?_) (fun h38 => ?_)
     ·
      refine qT V V V V <| qP V V V V <| qP V V V V <| qM V V V <| qM V V V <| qM V V V ?_
      refine zB0 (fun h47 => ?_) (fun h47 => ?_)
      ·
       refine qT V V V V <| qP V V V V <| qP V V V V <| qA V V V <| qN <| zG ?_
       exact zK (.inr V) zI0 V (.of_eq (by congr 1; rw [zC]; simp_all [hasF, Val.nv, Val.mv, Val.sv, Val.cv, Val.vv])) (.bool _) Vv
      ·
       refine qF V V V zO1 <| qL V V V V ta28 V <| qE V V zT V ?_
       try rw [zZ]
       refine qC V V V V V <| qP V V V V <| qP V V V V <| qA V V V <| qN <| zG ?_
       exact zK (.inr V) zI0 V (.of_eq (by congr 1; rw [zC]; simp_all [hasF, Val.nv, Val.mv, Val.sv, Val.cv, Val.vv])) (.bool _) Vv
     ·
      refine qF V V V zS1 <| qL V V V V ta27 V <| qE V V zS V <| qC V V V V V <| qP V V V V <| qP V V V V <| qM V V V ?_
      refine zB0 (fun h45 => ?_) (fun h45 => ?_)
      ·
       refine qM V V V <| qM V V V ?_
       refine zB0 (fun h47 => ?_) (fun h47 => ?_)
       ·
        refine qT V V V V <| qP V V V V <| qP V V V V <| qA V V V <| qN <| zG ?_
        exact zK (.inr V) zI0 V (.of_eq (by congr 1; rw [zC]; simp_all [hasF, Val.nv, Val.mv, Val.sv, Val.cv, Val.vv])) (.bool _) Vv
       ·
        refine qF V V V zO1 <| qL V V V V ta28 V <| qE V V zT V ?_
        try rw [zZ]
        refine qC V V V V V <| qP V V V V <| qP V V V V <| qA V V V <| qN <| zG ?_
        exact zK (.inr V) zI0 V (.of_eq (by congr 1; rw [zC]; simp_all [hasF, Val.nv, Val.mv, Val.sv, Val.cv, Val.vv])) (.bool _) Vv
      ·
       refine qT V V V V <| qS V <| qS V <| qS V <| qP V V V V <| qA V V V <| qN <| zG ?_
       exact zK (.inr V) zI0 V (.of_eq (by congr 1; rw [zC]; simp_all [hasF, Val.nv, Val.mv, Val.sv, Val.cv, Val.vv])) (.bool _) Vv
    ·
     refine qF V V V zT1 <| qL V V V V ta26 V <| qE V V zA0 V <| qC V V V V V <| qP V V V V <| qP V V V V <| qM V V V ?_
     refine zB0 (fun h36 => ?_) (fun h36 => ?_)
     ·
      refine qM V V V <| qM V V V ?_
      refine zB0 (fun h38 => ?_) (fun h38 => ?_)
      ·
       refine qT V V V V <| qP V V V V <| qP V V V V <| qM V V V <| qM V V V <| qM V V V ?_
       refine zB0 (fun h47 => ?_) (fun h47 => ?_)
       ·
        refine qT V V V V <| qP V V V V <| qP V V V V <| qA V V V <| qN <| zG ?_
        exact zK (.inr V) zI0 V (.of_eq (by congr 1; rw [zC]; simp_all [hasF, Val.nv, Val.mv, Val.sv, Val.cv, Val.vv])) (.bool _) Vv
       ·
        refine qF V V V zO1 <| qL V V V V ta28 V <| qE V V zT V ?_
        try rw [zZ]
        refine qC V V V V V <| qP V V V V <| qP V V V V <| qA V V V <| qN <| zG ?_
        exact zK (.inr V) zI0 V (.of_eq (by congr 1; rw [zC]; simp_all [hasF, Val.nv, Val.mv, Val.sv, Val.cv, Val.vv])) (.bool _) Vv
      ·
       refine qF V V V zS1 <| qL V V V V ta27 V <| qE V V zS V <| qC V V V V V <| qP V V V V <| qP V V V V <| qM V V V ?_
       refine zB0 (fun h45 => ?_) (fun h45 => ?_)
       ·
        refine qM V V V <| qM V V V ?_
        refine zB0 (fun h47 => ?_) (fun h47 => ?_)
        ·
         refine qT V V V V <| qP V V V V <| qP V V V V <| qA V V V <| qN <| zG ?_
         exact zK (.inr V) zI0 V (.of_eq (by congr 1; rw [zC]; simp_all [hasF, Val.nv, Val.mv, Val.sv, Val.cv, Val.vv])) (.bool _) Vv
        ·
         refine qF V V V zO1 <| qL V V V V ta28 V <| qE V V zT V ?_
         try rw [zZ]
         refine qC V V V V V <| qP V V V V <| qP V V V V <| qA V V V <| qN <| zG ?_
         exact zK (.inr V) zI0 V (.of_eq (by congr 1; rw [zC]; simp_all [hasF, Val.nv, Val.mv, Val.sv, Val.cv, Val.vv])) (.bool _) Vv
       ·
        refine qT V V V V <| qS V <| qS V <| qS V <| qP V V V V <| qA V V V <| qN <| zG ?_
        exact zK (.inr V) zI0 V (.of_eq (by congr 1; rw [zC]; simp_all [hasF, Val.nv, Val.mv, Val.sv, Val.cv, Val.vv])) (.bool _) Vv
     ·
      refine qT V V V V <| qS V <| qS V <| qS V <| qP V V V V <| qM V V V <| qT V V V V <| qS V <| qS V <| qS V <| qP V V V V <| qA V V V <| qN <| zG ?_
      exact zK (.inr V) zI0 V (.of_eq (by congr 1; rw [zC]; simp_all [hasF, Val.nv, Val.mv, Val.sv, Val.cv, Val.vv])) (.bool _) Vv
   ·
    refine qF V V V zX4 <| qL V V V V ta25 V <| qC V V V V V <| qP V V V V <| qP V V V V <| qM V V V ?_
    refine zB0 (fun h27 => ?_) (fun h27 => ?_)
    ·
     refine qM V V V <| qM V V V ?_
     refine zB0 (fun h29 => ?_) (fun h29 => ?_)
     ·
      refine qT V V V V <| qP V V V V <| qP V V V V <| qM V V V <| qM V V V <| qM V V V ?_
      refine zB0 (fun h38 => ?_) (fun h38 => ?_)
      ·
       refine qT V V V V <| qP V V V V <| qP V V V V <| qM V V V <| qM V V V <| qM V V V ?_
       refine zB0 (fun h47 => ?_) (fun h47 => ?_)
       ·
        refine qT V V V V <| qP V V V V <| qP V V V V <| qA V V V <| qN <| zG ?_
        exact zK (.inr V) zI0 V (.of_eq (by congr 1; rw [zC]; simp_all [hasF, Val.nv, Val.mv, Val.sv, Val.cv, Val.vv])) (.bool _) Vv
       ·
        refine qF V V V zO1 <| qL V V V V ta28 V <| qE V V zT V ?_
        try rw [zZ]
        refine qC V V V V V <| qP V V V V <| qP V V V V <| qA V V V <| qN <| zG ?_
        exact zK (.inr V) zI0 V (.of_eq (by congr 1; rw [zC]; simp_all [hasF, Val.nv, Val.mv, Val.sv, Val.cv, Val.vv])) (.bool _) Vv
      ·
       refine qF V V V zS1 <| qL V V V V ta27 V <| qE V V zS V <| qC V V V V V <| qP V V V V <| qP V V V V <| qM V V V ?_
       refine zB0 (fun h45 => ?_) (fun h45 => ?_)
       ·
        refine qM V V V <| qM V V V ?_
        refine zB0 (fun h47 => ?_) (fun h47 => ?_)
        ·
         refine qT V V V V <| qP V V V V <| qP V V V V <| qA V V V <| qN <| zG ?_
         exact zK (.inr V) zI0 V (.of_eq (by congr 1; rw [zC]; simp_all [hasF, Val.nv, Val.mv, Val.sv, Val.cv, Val.vv])) (.bool _) Vv
        ·
         refine qF V V V zO1 <| qL V V V V ta28 V <| qE V V zT V ?_
         try rw [zZ]
         refine qC V V V V V <| qP V V V V <| qP V V V V <| qA V V V <| qN <| zG ?_
         exact zK (.inr V) zI0 V (.of_eq (by congr 1; rw [zC]; simp_all [hasF, Val.nv, Val.mv, Val.sv, Val.cv, Val.vv])) (.bool _) Vv
       ·
        refine qT V V V V <| qS V <| qS V <| qS V <| qP V V V V <| qA V V V <| qN <| zG ?_
        exact zK (.inr V) zI0 V (.of_eq (by congr 1; rw [zC]; simp_all [hasF, Val.nv, Val.mv, Val.sv, Val.cv, Val.vv])) (.bool _) Vv
     ·
      refine qF V V V zT1 <| qL V V V V ta26 V <| qE V V zA0 V <| qC V V V V V <| qP V V V V <| qP V V V V <| qM V V V ?_
      refine zB0 (fun h36 => ?_) (fun h36 => ?_)
      ·
       refine qM V V V <| qM V V V ?_
       refine zB0 (fun h38 => ?_) (fun h38 => ?_)
       ·
        refine qT V V V V <| qP V V V V <| qP V V V V <| qM V V V <| qM V V V <| qM V V V ?_
        refine zB0 (fun h47 => ?_) (fun h47 => ?_)
        ·
         refine qT V V V V <| qP V V V V <| qP V V V V <| qA V V V <| qN <| zG ?_
         exact zK (.inr V) zI0 V (.of_eq (by congr 1; rw [zC]; simp_all [hasF, Val.nv, Val.mv, Val.sv, Val.cv, Val.vv])) (.bool _) Vv
        ·
         refine qF V V V zO1 <| qL V V V V ta28 V <| qE V V zT V ?_
         try rw [zZ]
         refine qC V V V V V <| qP V V V V <| qP V V V V <| qA V V V <| qN <| zG ?_
         exact zK (.inr V) zI0 V (.of_eq (by congr 1; rw [zC]; simp_all [hasF, Val.nv, Val.mv, Val.sv, Val.cv, Val.vv])) (.bool _) Vv
       ·
        refine qF V V V zS1 <| qL V V V V ta27 V <| qE V V zS V <| qC V V V V V <| qP V V V V <| qP V V V V <| qM V V V ?_
        refine zB0 (fun h45 => ?_) (fun h45 => ?_)
        ·
         refine qM V V V <| qM V V V ?_
         refine zB0 (fun h47 => ?_) (fun h47 => ?_)
         ·
          refine qT V V V V <| qP V V V V <| qP V V V V <| qA V V V <| qN <| zG ?_
          exact zK (.inr V) zI0 V (.of_eq (by congr 1; rw [zC]; simp_all [hasF, Val.nv, Val.mv, Val.sv, Val.cv, Val.vv])) (.bool _) Vv
         ·
          refine qF V V V zO1 <| qL V V V V ta28 V <| qE V V zT V ?_
          try rw [zZ]
          refine qC V V V V V <| qP V V V V <| qP V V V V <| qA V V V <| qN <| zG ?_
          exact zK (.inr V) zI0 V (.of_eq (by congr 1; rw [zC]; simp_all [hasF, Val.nv, Val.mv, Val.sv, Val.cv, Val.vv])) (.bool _) Vv
        ·
         refine qT V V V V <| qS V <| qS V <| qS V <| qP V V V V <| qA V V V <| qN <| zG ?_
         exact zK (.inr V) zI0 V (.of_eq (by congr 1; rw [zC]; simp_all [hasF, Val.nv, Val.mv, Val.sv, Val.cv, Val.vv])) (.bool _) Vv
      ·
       refine qT V V V V <| qS V <| qS V <| qS V <| qP V V V V <| qM V V V <| qT V V V V <| qS V <| qS V <| qS V <| qP V V V V <| qA V V V <| qN <| zG ?_
       exact zK (.inr V) zI0 V (.of_eq (by congr 1; rw [zC]; simp_all [hasF, Val.nv, Val.mv, Val.sv, Val.cv, Val.vv])) (.bool _) Vv
    ·
     refine qT V V V V <| qS V <| qS V <| qS V <| qP V V V V <| qM V V V <| qT V V V V <| qS V <| qS V <| qS V <| qP V V V V <| qM V V V <| qT V V V V <| qS V <| qS V <| qS V <| qP V V V V ?_
     refine qA V V V <| qN <| zG ?_
     exact zK (.inr V) zI0 V (.of_eq (by congr 1; rw [zC]; simp_all [hasF, Val.nv, Val.mv, Val.sv, Val.cv, Val.vv])) (.bool _) Vv
  ·
   refine qT V V V V <| qS V <| qS V <| qP V V V V <| qM V V V <| qT V V V V <| qS V <| qS V <| qS V <| qP V V V V <| qM V V V <| qT V V V V <| qS V <| qS V <| qS V <| qP V V V V ?_
   refine qM V V V <| qT V V V V <| qS V <| qS V <| qS V <| qP V V V V <| qA V V V <| qN <| zG ?_
   exact zK (.inr V) zI0 V (.of_eq (by congr 1; rw [zC]; simp_all [hasF, Val.nv, Val.mv, Val.sv, Val.cv, Val.vv])) (.bool _) Vv
theorem rAhead_spec (a b : List Tk) (S : MS) : MCalls Tryz.prog 54 [.lst none 2 (a.map encT), .lst none 2 (b.map encT)] S fun v σ' => v = .bool (aheadF a b) ∧ σ' = S := by
 refine zN Tryz.func54 V Tryz.ntmps54 (zB V) ?_
 refine zP2 (t := 0) V fun hlen => ?_
 rw [zH] at hlen
 refine zA <| qR V <| qA V V V <| qN <| zA <| zA <| qR V <| qA V V V <| qN <| zW ?_
 refine zD1 (α := Nat) [(0, _), (1, _)] (fun i => [(5, .int .i64 (i : Int))]) (fun i => []) (fun i => i ≤ a.length ∧ i ≤ b.length ∧ aheadF (a.drop i) (b.drop i) = aheadF a b) (fun i => a.length - i) (0) (.keep V (.keep V (.nil))) (.keep V (.nil)) (⟨by omega, by omega, rfl⟩) (V) ?_
 rintro i ⟨hi, hib, he⟩
 refine zA <| zA <| qR V <| qM V V V <| qM V V V <| qE V V zM V <| qC V V V V V <| qM V V V ?_
 refine zB0 (fun h10 => ?_) (fun h10 => ?_)
 ·
  have hlt : i < a.length := by rw [zH] at h10; simpa using h10
  obtain ⟨x, hs⟩ : ∃ q, a[i]? = some q := ⟨_, zD hlt⟩
  refine qM V V V <| qM V V V <| qE V V zM V <| qC V V V V V <| qP V V V V <| qN ?_
  refine zE V (fun h15 => ?_) (fun h15 => ?_)
  ·
   have hltb : i < b.length := by rw [zH] at h15; simpa using h15
   obtain ⟨y, hs2⟩ : ∃ q, b[i]? = some q := ⟨_, zD hltb⟩
   refine zQ <| zA <| zW <| zA <| zA ?_
   refine zV0 [] [_] mo (by decide) V V V V ?_
   refine dO V V V (zY V V Vv) <| dO V V V (zY V V Vv) <| dO V V V (zO V zM sz87 (by decide) V V V (zE1 hs) Vv) ?_
   refine dO V V V (zF1 V V zQ3 Vv) <| dO V V V (zP V V ta3 V Vv) <| dO V V V (zY V V Vv) <| dO V V V (zY V V Vv) <| dO V V V (zO V zM sz87 (by decide) V V V (zE1 hs2) Vv) ?_
   refine dO V V V (zF1 V V zQ3 Vv) <| dO V V V (zP V V ta3 V Vv) <| dO V V V (zX2 V V V V Vv) <| zO0 ?_
   refine zE V (fun h28 => ?_) (fun h28 => ?_)
   ·
    refine zA ?_
    refine zV0 [] [_] mo (by decide) V V V V ?_
    refine dO V V V (zY V V Vv) <| dO V V V (zY V V Vv) <| dO V V V (zO V zM sz87 (by decide) V V V (zE1 hs) Vv) ?_
    refine dO V V V (zF1 V V zQ3 Vv) <| dO V V V (zP V V ta3 V Vv) <| dO V V V (zY V V Vv) <| dO V V V (zY V V Vv) <| dO V V V (zO V zM sz87 (by decide) V V V (zE1 hs2) Vv) ?_
    refine dO V V V (zF1 V V zQ3 Vv) <| dO V V V (zP V V ta3 V Vv) <| dO V V V (zX2 V V V V Vv) <| dO V V V (zC1 V V Vv) <| zO0 <| zG ?_
    exact zK (.inr V) Tryz.results54 V (.of_eq (by rw [← he, drop_at hs, drop_at hs2, aheadF, if_pos (by simpa using h28)])) (.bool _) Vv
   ·
    refine zQ <| zA ?_
    refine zV0 [] [_] mo (by decide) V V V V ?_
    refine dO V V V (zY V V Vv) <| dO V V V (zY V V Vv) <| dO V V V (zO V zM sz87 (by decide) V V V (zE1 hs) Vv) ?_
    refine dO V V V (zF1 V V zA5 Vv) <| dO V V V (zP V V ta25 V Vv) <| dO V V V (zY V V Vv) <| dO V V V (zY V V Vv) <| dO V V V (zO V zM sz87 (by decide) V V V (zE1 hs2) Vv) ?_
    refine dO V V V (zF1 V V zA5 Vv) <| dO V V V (zP V V ta25 V Vv) <| dO V V V (zX2 V V V V Vv) <| zO0 ?_
    refine zE V (fun h50 => ?_) (fun h50 => ?_)
    ·
     refine zA ?_
     refine zV0 [] [_] mo (by decide) V V V V ?_
     refine dO V V V (zY V V Vv) <| dO V V V (zY V V Vv) <| dO V V V (zO V zM sz87 (by decide) V V V (zE1 hs) Vv) ?_
     refine dO V V V (zF1 V V zA5 Vv) <| dO V V V (zP V V ta25 V Vv) <| dO V V V (zY V V Vv) <| dO V V V (zY V V Vv) <| dO V V V (zO V zM sz87 (by decide) V V V (zE1 hs2) Vv) ?_
     refine dO V V V (zF1 V V zA5 Vv) <| dO V V V (zP V V ta25 V Vv) <| dO V V V (zX2 V V V V Vv) <| dO V V V (zC1 V V Vv) <| zO0 <| zG ?_
     exact zK (.inr V) Tryz.results54 V (.of_eq (by rw [← he, drop_at hs, drop_at hs2, aheadF, if_neg (by simpa using h28), if_pos (by simpa using h50)])) (.bool _) Vv
    ·
     refine zQ <| qR V <| qM V V V <| qO V <| zU0 V V V V <| qA V V V <| qN ?_
     refine ⟨i + 1, by omega, ⟨by omega, by omega, by rw [← he, drop_at hs, drop_at hs2, aheadF, if_neg (by simpa using h28), if_neg (by simpa using h50)]⟩, rfl, (.keep V (.keep V (.nil))), (.eq V (zH1 hlt hlen) (.nil))⟩
  ·
   have hgb : i = b.length := by rw [zH] at h15; simp at h15; omega
   have hE : aheadF a b = decide ((a.map encT).length < (b.map encT).length) := by rw [← he, hgb, List.drop_length, ahead_nil2]; simp; try omega
   refine zA1 <| zA <| qR V <| qM V V V <| qE V V zM V <| qM V V V <| qE V V zM V <| qC V V V V V <| qA V V V <| qN <| zG ?_
   exact zK (.inr V) Tryz.results54 V (.of_eq (by rw [hE]; congr 1; rw [zC]; simp only [decide_eq_true_eq]; omega)) (.bool _) Vv
 ·
  have hge : i = a.length := by rw [zH] at h10; simp at h10; omega
  have hE : aheadF a b = decide ((a.map encT).length < (b.map encT).length) := by rw [← he, hge, List.drop_length, ahead_nil]; simp; try omega
  refine qT V V V V <| qP V V V V <| qN <| zJ V (V) <| zA1 <| zA <| qR V <| qM V V V <| qE V V zM V <| qM V V V <| qE V V zM V <| qC V V V V V <| qA V V V <| qN <| zG ?_
  exact zK (.inr V) Tryz.results54 V (.of_eq (by rw [hE]; congr 1; rw [zC]; simp only [decide_eq_true_eq]; omega)) (.bool _) Vv
theorem _root_.zV4 : type_of% @Tryz.ntmps31 := @Tryz.ntmps31
theorem _root_.zK1 : type_of% @Tryz.results31 := @Tryz.results31
theorem fits_spec (k : Int) (ins : List Sch) (hk : k = 1 ∨ k = 2 ∨ k = 3 ∨ k = 4 ∨ k = 5 ∨ k = 6 ∨ k = 7 ∨ k = 8) (n m : Int) (s : List Bs) (c : List (List Tk)) (w : List Val) (S : MS) : MCalls Tryz.prog 31 [encS (.mk k ins), encV (.mk n m s c w)] S fun v σ' => v = .bool (fitsF k (.mk n m s c w)) ∧ σ' = S := by
 rcases hk with rfl | rfl | rfl | rfl | rfl | rfl | rfl | rfl
 ·
  refine zN zH4 V zV4 (zB V) ?_
  refine zA <| qR V <| qB V V V V V <| qB V V V V V <| qA V V V <| qN <| zA <| zA <| qR V <| qF V V V zM1 <| qL V V V V ta3 V <| qN <| zW <| zA <| qR V <| qC V V V V V <| qA V V V <| qN <| zX V (V) <| zA <| qR V <| qL V V V V ta30 V ?_
  refine qX V V V V co51 (has_spec n m _ c w true false false false false _) ?_
  refine qA V V V <| qN <| zG ?_
  exact zK (.inr V) zK1 V (.of_eq (by rw [zT3 1]; first | rfl | (congr 1; rw [zC]; simp_all [zZ]; done) | (congr 1; rw [zC]; simp_all [zZ]; omega))) (.bool _) Vv
 ·
  refine zN zH4 V zV4 (zB V) ?_
  refine zA <| qR V <| qB V V V V V <| qB V V V V V <| qA V V V <| qN <| zA <| zA <| qR V <| qF V V V zM1 <| qL V V V V ta3 V <| qN <| zW <| zA <| qR V <| qC V V V V V <| qA V V V <| qN <| zJ V (V) <| zA <| qR V <| qC V V V V V ?_
  refine qA V V V <| qN <| zX V (V) <| zA <| qR V <| qL V V V V ta30 V ?_
  refine qX V V V V co51 (has_spec n m _ c w true false false false false _) ?_
  refine qM V V V ?_
  refine zB0 (fun h15 => ?_) (fun h15 => ?_)
  ·
   refine qF V V V zB4 <| qL V V V V ta25 V <| qC V V V V V <| qP V V V V <| qA V V V <| qN <| zG ?_
   exact zK (.inr V) zK1 V (.of_eq (by rw [zT3 2]; first | rfl | (congr 1; rw [zC]; simp_all [zZ]; done) | (congr 1; rw [zC]; simp_all [zZ]; omega))) (.bool _) Vv
  ·
   refine qS V <| qS V <| qS V <| qP V V V V <| qA V V V <| qN <| zG ?_
   exact zK (.inr V) zK1 V (.of_eq (by rw [zT3 2]; first | rfl | (congr 1; rw [zC]; simp_all [zZ]; done) | (congr 1; rw [zC]; simp_all [zZ]; omega))) (.bool _) Vv
 ·
  refine zN zH4 V zV4 (zB V) ?_
  refine zA <| qR V <| qB V V V V V <| qB V V V V V <| qA V V V <| qN <| zA <| zA <| qR V <| qF V V V zM1 <| qL V V V V ta3 V <| qN <| zW <| zA <| qR V <| qC V V V V V <| qA V V V <| qN <| zJ V (V) <| zA <| qR V <| qC V V V V V ?_
  refine qA V V V <| qN <| zJ V (V) <| zA <| qR V <| qC V V V V V <| qA V V V <| qN <| zX V (V) <| zA <| qR V <| qL V V V V ta30 V ?_
  refine qX V V V V co51 (has_spec n m _ c w false false true false false _) ?_
  refine qM V V V ?_
  refine zB0 (fun h24 => ?_) (fun h24 => ?_)
  ·
   refine qF V V V zT1 <| qL V V V V ta26 V ?_
   refine qX V V V V co52 (rShort_spec s _) ?_
   refine qP V V V V <| qA V V V <| qN <| zG ?_
   exact zK (.inr V) zK1 V (.of_eq (by rw [zT3 3]; first | rfl | (congr 1; rw [zC]; simp_all [zZ]; done) | (congr 1; rw [zC]; simp_all [zZ]; omega))) (.bool _) Vv
  ·
   refine qS V <| qS V <| qS V <| qP V V V V <| qA V V V <| qN <| zG ?_
   exact zK (.inr V) zK1 V (.of_eq (by rw [zT3 3]; first | rfl | (congr 1; rw [zC]; simp_all [zZ]; done) | (congr 1; rw [zC]; simp_all [zZ]; omega))) (.bool _) Vv
 ·
  refine zN zH4 V zV4 (zB V) ?_
  refine zA <| qR V <| qB V V V V V <| qB V V V V V <| qA V V V <| qN <| zA <| zA <| qR V <| qF V V V zM1 <| qL V V V V ta3 V <| qN <| zW <| zA <| qR V <| qC V V V V V <| qA V V V <| qN <| zJ V (V) <| zA <| qR V <| qC V V V V V ?_
  refine qA V V V <| qN <| zJ V (V) <| zA <| qR V <| qC V V V V V <| qA V V V <| qN <| zJ V (V) <| zA <| qR V <| qC V V V V V <| qA V V V <| qN <| zX V (V) <| zA <| qR V <| qL V V V V ta30 V ?_
  refine qX V V V V co51 (has_spec n m _ c w false false true false true _) ?_
  refine qM V V V ?_
  refine zB0 (fun h33 => ?_) (fun h33 => ?_)
  ·
   refine qF V V V zT1 <| qL V V V V ta26 V ?_
   refine qX V V V V co52 (rShort_spec s _) ?_
   refine qP V V V V <| qM V V V ?_
   refine zB0 (fun h38 => ?_) (fun h38 => ?_)
   ·
    refine qF V V V zT1 <| qL V V V V ta26 V <| qE V V zA0 V <| qF V V V zO1 <| qL V V V V ta28 V <| qE V V zT V <| qC V V V V V <| qP V V V V <| qA V V V <| qN <| zG ?_
    exact zK (.inr V) zK1 V (.of_eq (by rw [zT3 4]; first | rfl | (congr 1; rw [zC]; simp_all [zZ]; done) | (congr 1; rw [zC]; simp_all [zZ]; omega))) (.bool _) Vv
   ·
    refine qT V V V V <| qS V <| qS V <| qS V <| qP V V V V <| qA V V V <| qN <| zG ?_
    exact zK (.inr V) zK1 V (.of_eq (by rw [zT3 4]; first | rfl | (congr 1; rw [zC]; simp_all [zZ]; done) | (congr 1; rw [zC]; simp_all [zZ]; omega))) (.bool _) Vv
  ·
   refine qS V <| qS V <| qS V <| qP V V V V <| qM V V V <| qT V V V V <| qS V <| qS V <| qS V <| qP V V V V <| qA V V V <| qN <| zG ?_
   exact zK (.inr V) zK1 V (.of_eq (by rw [zT3 4]; first | rfl | (congr 1; rw [zC]; simp_all [zZ]; done) | (congr 1; rw [zC]; simp_all [zZ]; omega))) (.bool _) Vv
 ·
  refine zN zH4 V zV4 (zB V) ?_
  refine zA <| qR V <| qB V V V V V <| qB V V V V V <| qA V V V <| qN <| zA <| zA <| qR V <| qF V V V zM1 <| qL V V V V ta3 V <| qN <| zW <| zA <| qR V <| qC V V V V V <| qA V V V <| qN <| zJ V (V) <| zA <| qR V <| qC V V V V V ?_
  refine qA V V V <| qN <| zJ V (V) <| zA <| qR V <| qC V V V V V <| qA V V V <| qN <| zJ V (V) <| zA <| qR V <| qC V V V V V <| qA V V V <| qN <| zJ V (V) <| zA <| qR V <| qC V V V V V <| qA V V V <| qN <| zX V (V) <| zA <| qR V ?_
  refine qL V V V V ta30 V ?_
  refine qX V V V V co51 (has_spec n m _ c w false false false false true _) ?_
  refine qM V V V ?_
  refine zB0 (fun h51 => ?_) (fun h51 => ?_)
  ·
   refine qF V V V zO1 <| qL V V V V ta28 V <| qE V V zT V <| qC V V V V V <| qP V V V V <| qA V V V <| qN <| zG ?_
   exact zK (.inr V) zK1 V (.of_eq (by rw [zT3 5]; first | rfl | (congr 1; rw [zC]; simp_all [zZ]; done) | (congr 1; rw [zC]; simp_all [zZ]; omega))) (.bool _) Vv
  ·
   refine qT V V V V <| qP V V V V <| qA V V V <| qN <| zG ?_
   exact zK (.inr V) zK1 V (.of_eq (by rw [zT3 5]; first | rfl | (congr 1; rw [zC]; simp_all [zZ]; done) | (congr 1; rw [zC]; simp_all [zZ]; omega))) (.bool _) Vv
 ·
  refine zN zH4 V zV4 (zB V) ?_
  refine zA <| qR V <| qB V V V V V <| qB V V V V V <| qA V V V <| qN <| zA <| zA <| qR V <| qF V V V zM1 <| qL V V V V ta3 V <| qN <| zW <| zA <| qR V <| qC V V V V V <| qA V V V <| qN <| zJ V (V) <| zA <| qR V <| qC V V V V V ?_
  refine qA V V V <| qN <| zJ V (V) <| zA <| qR V <| qC V V V V V <| qA V V V <| qN <| zJ V (V) <| zA <| qR V <| qC V V V V V <| qA V V V <| qN <| zJ V (V) <| zA <| qR V <| qC V V V V V <| qA V V V <| qN <| zJ V (V) <| zA <| qR V ?_
  refine qC V V V V V <| qA V V V <| qN <| zX V (V) <| zA <| zA <| qR V <| qF V V V zT1 <| qL V V V V ta26 V <| qE V V zA0 V <| qC V V V V V <| qN ?_
  refine zE V (fun h62 => ?_) (fun h62 => ?_)
  ·
   have hs0 : s = [] := by simpa using h62
   subst hs0
   refine zA <| qR V <| qL V V V V ta30 V ?_
   refine qX V V V V co51 (has_spec n m _ c w false false false false false _) ?_
   refine qA V V V <| qN <| zG ?_
   exact zK (.inr V) zK1 V (.of_eq (by first | (rw [hF]; done) | (rw [fits6_nil]; done) | (rw [zA3]; congr 1; rw [zC]; simp_all [shortF]; done) | (rw [zA3]; congr 1; rw [zC]; simp_all [shortF]; intros; omega) | (congr 1; symm; exact fits6_has hs0 (by simpa using h67)))) (.bool _) Vv
  ·
   have hs0 : ¬ s = [] := by simpa using h62
   refine zQ <| zA <| qR V <| qL V V V V ta30 V ?_
   refine qX V V V V co51 (has_spec n m _ c w true true true false false _) ?_
   refine qM V V V ?_
   refine zB0 (fun h67 => ?_) (fun h67 => ?_)
   ·
    refine qF V V V zT1 <| qL V V V V ta26 V <| qE V V zA0 V <| qC V V V V V <| qP V V V V <| qM V V V ?_
    refine zB0 (fun h73 => ?_) (fun h73 => ?_)
    ·
     obtain ⟨t, rfl⟩ := one_of (by rw [zH] at h73; simp at h73; omega : s.length = 1)
     refine qF V V V zT1 <| qL V V V V ta26 V ?_
     refine qX V V V V co52 (rShort_spec [t] _) ?_
     refine qP V V V V <| qM V V V ?_
     refine zB0 (fun h78 => ?_) (fun h78 => ?_)
     ·
      refine qF V V V zB4 <| qL V V V V ta25 V <| qC V V V V V <| qM V V V ?_
      refine zB0 (fun h82 => ?_) (fun h82 => ?_)
      ·
       refine qS V <| qS V <| qS V <| qP V V V V <| qM V V V <| qT V V V V <| qS V <| qP V V V V <| qP V V V V <| qA V V V <| qN <| zG ?_
       exact zK (.inr V) zK1 V (.of_eq (by first | (rw [hF]; done) | (rw [fits6_nil]; done) | (rw [zA3]; congr 1; rw [zC]; simp_all [shortF]; done) | (rw [zA3]; congr 1; rw [zC]; simp_all [shortF]; intros; omega) | (congr 1; symm; exact fits6_has hs0 (by simpa using h67)))) (.bool _) Vv
      ·
       refine qF V V V zX4 <| qL V V V V ta25 V <| qC V V V V V <| qP V V V V <| qM V V V ?_
       refine zB0 (fun h87 => ?_) (fun h87 => ?_)
       ·
        refine qT V V V V <| qS V <| qP V V V V <| qP V V V V <| qA V V V <| qN <| zG ?_
        exact zK (.inr V) zK1 V (.of_eq (by first | (rw [hF]; done) | (rw [fits6_nil]; done) | (rw [zA3]; congr 1; rw [zC]; simp_all [shortF]; done) | (rw [zA3]; congr 1; rw [zC]; simp_all [shortF]; intros; omega) | (congr 1; symm; exact fits6_has hs0 (by simpa using h67)))) (.bool _) Vv
       ·
        refine qF V V V zT1 <| qL V V V V ta26 V <| qO V <| zO V zA0 sz9 (by decide) V V V (show _ = some (encX t) from V) ?_
        refine qO V <| zP V V ta9 V <| qO V <| zZ2 V V V V <| qP V V V V <| qP V V V V <| qA V V V <| qN <| zG ?_
        exact zK (.inr V) zK1 V (.of_eq (by first | (rw [hF]; done) | (rw [fits6_nil]; done) | (rw [zA3]; congr 1; rw [zC]; simp_all [shortF]; done) | (rw [zA3]; congr 1; rw [zC]; simp_all [shortF]; intros; omega) | (congr 1; symm; exact fits6_has hs0 (by simpa using h67)))) (.bool _) Vv
     ·
      refine qT V V V V <| qT V V V V <| qT V V V V <| qS V <| qS V <| qS V <| qP V V V V <| qA V V V <| qN <| zG ?_
      exact zK (.inr V) zK1 V (.of_eq (by first | (rw [hF]; done) | (rw [fits6_nil]; done) | (rw [zA3]; congr 1; rw [zC]; simp_all [shortF]; done) | (rw [zA3]; congr 1; rw [zC]; simp_all [shortF]; intros; omega) | (congr 1; symm; exact fits6_has hs0 (by simpa using h67)))) (.bool _) Vv
    ·
     have hF : fitsF 6 (.mk n m s c w) = false := fits6_no hs0 (fun e => by rw [zH, e] at h73; simp at h73)
     refine qS V <| qS V <| qS V <| qP V V V V <| qM V V V <| qT V V V V <| qT V V V V <| qT V V V V <| qS V <| qS V <| qS V <| qP V V V V <| qA V V V <| qN <| zG ?_
     exact zK (.inr V) zK1 V (.of_eq (by first | (rw [hF]; done) | (rw [fits6_nil]; done) | (rw [zA3]; congr 1; rw [zC]; simp_all [shortF]; done) | (rw [zA3]; congr 1; rw [zC]; simp_all [shortF]; intros; omega) | (congr 1; symm; exact fits6_has hs0 (by simpa using h67)))) (.bool _) Vv
   ·
    refine qT V V V V <| qP V V V V <| qM V V V <| qS V <| qS V <| qS V <| qP V V V V <| qM V V V <| qT V V V V <| qT V V V V <| qT V V V V <| qS V <| qS V <| qS V ?_
    refine qP V V V V <| qA V V V <| qN <| zG ?_
    exact zK (.inr V) zK1 V (.of_eq (by first | (rw [hF]; done) | (rw [fits6_nil]; done) | (rw [zA3]; congr 1; rw [zC]; simp_all [shortF]; done) | (rw [zA3]; congr 1; rw [zC]; simp_all [shortF]; intros; omega) | (congr 1; symm; exact fits6_has hs0 (by simpa using h67)))) (.bool _) Vv
 ·
  refine zN zH4 V zV4 (zB V) ?_
  refine zA <| qR V <| qB V V V V V <| qB V V V V V <| qA V V V <| qN <| zA <| zA <| qR V <| qF V V V zM1 <| qL V V V V ta3 V <| qN <| zW <| zA <| qR V <| qC V V V V V <| qA V V V <| qN <| zJ V (V) <| zA <| qR V <| qC V V V V V ?_
  refine qA V V V <| qN <| zJ V (V) <| zA <| qR V <| qC V V V V V <| qA V V V <| qN <| zJ V (V) <| zA <| qR V <| qC V V V V V <| qA V V V <| qN <| zJ V (V) <| zA <| qR V <| qC V V V V V <| qA V V V <| qN <| zJ V (V) <| zA <| qR V ?_
  refine qC V V V V V <| qA V V V <| qN <| zJ V (V) <| zA <| qR V <| qC V V V V V <| qA V V V <| qN <| zX V (V) <| zA <| qR V <| qL V V V V ta30 V ?_
  refine qX V V V V co51 (has_spec n m _ c w false false false true false _) ?_
  refine qM V V V ?_
  refine zB0 (fun h99 => ?_) (fun h99 => ?_)
  ·
   refine qF V V V zS1 <| qL V V V V ta27 V <| qE V V zS V <| qC V V V V V <| qP V V V V <| qA V V V <| qN <| zG ?_
   exact zK (.inr V) zK1 V (.of_eq (by rw [zT3 7]; first | rfl | (congr 1; rw [zC]; simp_all [zZ]; done) | (congr 1; rw [zC]; simp_all [zZ]; omega))) (.bool _) Vv
  ·
   refine qT V V V V <| qP V V V V <| qA V V V <| qN <| zG ?_
   exact zK (.inr V) zK1 V (.of_eq (by rw [zT3 7]; first | rfl | (congr 1; rw [zC]; simp_all [zZ]; done) | (congr 1; rw [zC]; simp_all [zZ]; omega))) (.bool _) Vv
 ·
  refine zN zH4 V zV4 (zB V) ?_
  refine zA <| qR V <| qB V V V V V <| qB V V V V V <| qA V V V <| qN <| zA <| zA <| qR V <| qF V V V zM1 <| qL V V V V ta3 V <| qN <| zW <| zA <| qR V <| qC V V V V V <| qA V V V <| qN <| zJ V (V) <| zA <| qR V <| qC V V V V V ?_
  refine qA V V V <| qN <| zJ V (V) <| zA <| qR V <| qC V V V V V <| qA V V V <| qN <| zJ V (V) <| zA <| qR V <| qC V V V V V <| qA V V V <| qN <| zJ V (V) <| zA <| qR V <| qC V V V V V <| qA V V V <| qN <| zJ V (V) <| zA <| qR V ?_
  refine qC V V V V V <| qA V V V <| qN <| zJ V (V) <| zA <| qR V <| qC V V V V V <| qA V V V <| qN <| zJ V (V) <| zQ <| zA <| qR V <| qL V V V V ta30 V ?_
  refine qX V V V V co51 (has_spec n m _ c w false false false true true _) ?_
  refine qM V V V ?_
  refine zB0 (fun h107 => ?_) (fun h107 => ?_)
  ·
   refine qF V V V zS1 <| qL V V V V ta27 V <| qE V V zS V <| qF V V V zO1 <| qL V V V V ta28 V <| qE V V zT V <| qC V V V V V <| qP V V V V <| qA V V V <| qN <| zG ?_
   exact zK (.inr V) zK1 V (.of_eq (by rw [zT3 8]; first | rfl | (congr 1; rw [zC]; simp_all [zZ]; done) | (congr 1; rw [zC]; simp_all [zZ]; omega))) (.bool _) Vv
  ·
   refine qT V V V V <| qS V <| qS V <| qS V <| qP V V V V <| qA V V V <| qN <| zG ?_
   exact zK (.inr V) zK1 V (.of_eq (by rw [zT3 8]; first | rfl | (congr 1; rw [zC]; simp_all [zZ]; done) | (congr 1; rw [zC]; simp_all [zZ]; omega))) (.bool _) Vv
theorem _root_.zK5 : type_of% @fits_spec := @fits_spec
theorem rcmp_eq {a b : List Tk} (ha : isClockF a = true) (hb : isClockF b = true) (ua : ∀ t ∈ a, okTk t) (ub : ∀ t ∈ b, okTk t) : rcmpF a b = cmpF a b := by
 obtain ⟨h1, h2, _⟩ := isClock_spec ha ua
 obtain ⟨h3, h4, _⟩ := isClock_spec hb ub
 exact (cmp_eq h1 h3 h2 h4).symm
theorem getD_of {α : Type} {l : List α} {i : Nat} {a d : α} (h : l[i]? = some a) : l.getD i d = a := by simp [h]
theorem sibAt_of {f : Val → Bool} {c : List (List Tk)} {w : List Val} {i : Nat} {x : List Tk} {y : Val} (hs : c[i]? = some x) (hs2 : w[i]? = some y) : sibAt f c w i = (isClockF x && f y && (i == 0 || aheadF (c.getD (i - 1) []) x) && decide (∀ j, j < i → cmpF (c.getD j []) x = 2)) := by
 unfold sibAt
 rw [getD_of hs, getD_of hs2]
theorem sibs_false {f : Val → Bool} {c : List (List Tk)} {w : List Val} {i : Nat} (hlt : i < c.length) (h : sibAt f c w i = false) : sibsF f c w = false := by
 unfold sibsF
 rw [decide_eq_false (p := ∀ i, i < c.length → sibAt f c w i = true) (fun hall => by rw [hall i hlt] at h; cases h), Bool.and_false]
theorem sibs_long {f : Val → Bool} {c : List (List Tk)} {w : List Val} (h : ¬ c.length ≤ 40) : sibsF f c w = false := by
 unfold sibsF
 rw [decide_eq_false h, Bool.false_and]
theorem sibs_true {f : Val → Bool} {c : List (List Tk)} {w : List Val} (h : c.length ≤ 40) (hall : ∀ i, i < c.length → sibAt f c w i = true) : sibsF f c w = true := by
 unfold sibsF
 rw [decide_eq_true h, decide_eq_true hall]; rfl
theorem sibAt_clock {f : Val → Bool} {c : List (List Tk)} {w : List Val} {i : Nat} {x : List Tk} (hs : c[i]? = some x) (h : sibAt f c w i = true) : isClockF x = true := by
 unfold sibAt at h
 rw [getD_of hs] at h
 simp only [Bool.and_eq_true] at h
 exact h.1.1.1
theorem isRF_mk {ins : List Sch} {n m : Int} {s : List Bs} {c : List (List Tk)} {w : List Val} (k : Int) : isRF (.mk k ins) (.mk n m s c w) = (fitsF k (.mk n m s c w) && risesF s && decide (s.length ≤ 40) &&
 (if k = 4 then w.all (fun x => (isRL ins).headD (fun _ => false) x && !noneF (ins.headD default) x)
  else if k = 5 then (match w with | [x, y] => (isRL ins).headD (fun _ => false) x && (isRL ins).tail.headD (fun _ => false) y | _ => false)
  else if k = 7 then (match c with | [] => true | [c] => isClockF c && decide (0 < c.length) | _ => false)
  else if k = 8 then sibsF ((isRL ins).headD (fun _ => false)) c w else true)) := by rw [isRF]; rfl
theorem _root_.zZ1 : type_of% @isRF_mk := @isRF_mk
theorem fits5 {n m : Int} {s : List Bs} {c : List (List Tk)} {w : List Val} (h : fitsF 5 (.mk n m s c w) = true) : w.length = 2 := by
 rw [zT3 5] at h; simp at h; exact h.2
theorem fits7 {n m : Int} {s : List Bs} {c : List (List Tk)} {w : List Val} (h : fitsF 7 (.mk n m s c w) = true) : c.length ≤ 1 := by
 rw [zT3 7] at h; simp at h; exact h.2
theorem fits8 {n m : Int} {s : List Bs} {c : List (List Tk)} {w : List Val} (h : fitsF 8 (.mk n m s c w) = true) : c.length = w.length := by
 rw [zT3 8] at h; simp at h; exact h.2
theorem _root_.zP4 : type_of% @Tryz.results35 := @Tryz.results35
theorem sibs_spec (k k1 : Int) (i1 rest : List Sch) (f : Val → Bool) (ih : ∀ x, okV x → ∀ S : MS, MCalls Tryz.prog 17 [encS (.mk k1 i1), encV x] S fun v σ' => v = .bool (f x) ∧ σ' = S) (n m : Int) (s : List Bs) (c : List (List Tk)) (w : List Val) (hl : c.length = w.length) (hc : ∀ x ∈ c, ∀ t ∈ x, okTk t) (hw : ∀ x ∈ w, okV x) (S : MS) : MCalls Tryz.prog 35 [encS (.mk k (.mk k1 i1 :: rest)), encV (.mk n m s c w)] S fun v σ' => v = .bool (sibsF f c w) ∧ σ' = S := by
 refine zN Tryz.func35 V Tryz.ntmps35 (zB V) ?_
 refine zA <| qR V <| qB V V V V V <| qB V V V V V <| qA V V V <| qN <| zA <| zA <| qR V <| qF V V V zS1 <| qL V V V V ta27 V <| qE V V zS V <| qC V V V V V <| qN ?_
 refine zE V (fun h10 => ?_) (fun h10 => ?_)
 ·
  have c40 : ¬ c.length ≤ 40 := by rw [zH] at h10; simp at h10; omega
  refine zA <| qR V <| qA V V V <| qN <| zG ?_
  exact zK (.inr V) zP4 V (.of_eq (by rw [sibs_long c40])) (.bool _) Vv
 ·
  have c40 : c.length ≤ 40 := by rw [zH] at h10; simp at h10; omega
  refine zP2 (t := 8) V fun hlen => ?_
  rw [zH] at hlen
  refine zQ <| zA <| zA <| qR V <| qA V V V <| qN <| zW ?_
  refine zD1 (α := Nat) [(2, _), (3, _)] (fun i => [(5, .int .i64 (i : Int))]) (fun i => [.cells (encS (.mk k (.mk k1 i1 :: rest))).cells, .cells (encV (.mk n m s c w)).cells]) (fun i => i ≤ c.length ∧ ∀ j, j < i → sibAt f c w j = true) (fun i => c.length - i) (0) (.keep V (.keep V (.nil))) (.keep V (.nil)) (⟨by omega, fun j hj => by omega⟩) (V) ?_
  rintro i ⟨hi, hall⟩
  refine zA <| zA <| qR V <| qM V V V <| qF V V V zS1 <| qL V V V V ta27 V <| qE V V zS V <| qC V V V V V <| qN ?_
  refine zE V (fun h15 => ?_) (fun h15 => ?_)
  ·
   have hlt : i < c.length := by simpa using h15
   obtain ⟨x, hs⟩ : ∃ q_, c[i]? = some q_ := ⟨_, zD hlt⟩
   refine zQ <| zA <| zW <| zA <| zA ?_
   obtain ⟨⟨n1, m1, s1, c1, w1⟩, hs2⟩ : ∃ q, w[i]? = some q := ⟨_, zD (by omega)⟩
   refine zV0 [] [_] mo (by decide) V V V V ?_
   refine dO V V V (zL V V zS1 Vv) <| dO V V V (zL0 V V V ta27 V Vv) <| dO V V V (zY V V Vv) <| dO V V V (zO V zS sz68 (by decide) V V V (zE1 hs) Vv) ?_
   refine dO V V V (zP V V ta68 V Vv) <| zV V V (.cons (zX0 V V V co34 (rIsClock_spec x _)) .nil) <| dO V V V (zL1 V V Vv) <| dO V V V (zY V V Vv) ?_
   refine zS2 (fun h25 => ?_) (fun h25 => ?_)
   ·
    refine dS V V <| dS V V <| dS V V <| dS V V <| dS V V <| dS V V <| dS V V <| dS V V <| dS V V <| dS V V <| dS V V <| dO V V V (zP1 V V V Vv) <| dO V V V (zY V V Vv) <| dS V V <| dS V V <| dS V V <| dS V V <| dS V V <| dS V V <| dS V V <| dS V V <| dS V V <| dS V V <| dS V V <| dS V V <| dS V V <| dS V V <| dS V V <| dS V V <| dS V V ?_
    refine dO V V V (zP1 V V V Vv) <| zO0 <| zX V (V) <| zA <| qR V <| qA V V V <| qN <| zG ?_
    exact zK (.inr V) zP4 V (.of_eq (by rw [sibs_false hlt (by rw [sibAt_of hs hs2]; simp_all <;> omega)])) (.bool _) Vv
   ·
    refine dO V V V (zL V V zC2 Vv) <| dO V V V (zL0 V V V ta22 V Vv) <| dO V V V (zO V zD0 sz24 (by decide) V V V (show _ = some (encS (.mk k1 i1)) from V) Vv) ?_
    refine dO V V V (zP V V ta24 V Vv) <| dO V V V (zL V V zO1 Vv) <| dO V V V (zL0 V V V ta28 V Vv) <| dO V V V (zY V V Vv) <| dO V V V (zO V zT sz30 (by decide) V V V (zE5 hs2) Vv) ?_
    refine dO V V V (zP V V ta30 V Vv) <| zV V V (.cons (zX0 V V V co17 (ih (.mk n1 m1 s1 c1 w1) (hw _ (zU hs2)) _)) .nil) <| dO V V V (zL1 V V Vv) <| dO V V V (zP1 V V V Vv) <| dO V V V (zY V V Vv) ?_
    refine zS2 (fun h38 => ?_) (fun h38 => ?_)
    ·
     refine dS V V <| dS V V <| dS V V <| dS V V <| dS V V <| dS V V <| dS V V <| dS V V <| dS V V <| dS V V <| dS V V <| dS V V <| dS V V <| dS V V <| dS V V <| dS V V <| dS V V <| dO V V V (zP1 V V V Vv) <| zO0 <| zX V (V) <| zA <| qR V <| qA V V V <| qN <| zG ?_
     exact zK (.inr V) zP4 V (.of_eq (by rw [sibs_false hlt (by rw [sibAt_of hs hs2]; simp_all <;> omega)])) (.bool _) Vv
    ·
     refine dO V V V (zY V V Vv) <| dO V V V (zX2 V V V V Vv) <| dO V V V (zY V V Vv) ?_
     refine zS2 (fun h41 => ?_) (fun h41 => ?_)
     ·
      have hi0 : 0 < i := by simpa using h41
      obtain ⟨p, hp⟩ : ∃ q, c[i - 1]? = some q := ⟨_, zD (by omega)⟩
      have hgp := getD_of (d := []) hp
      refine dO V V V (zL V V zS1 Vv) <| dO V V V (zL0 V V V ta27 V Vv) <| dO V V V (zY V V Vv) <| dO V V V (zU0 V V V (wsub (a := i) (b := 1) (c := i - 1) (by omega) (by simp only [maxLen] at hlen; omega)) Vv) ?_
      refine dO V V V (zO V zS sz68 (by decide) V V V (zE1 hp) Vv) ?_
      refine dO V V V (zP V V ta68 V Vv) <| dO V V V (zL V V zS1 Vv) <| dO V V V (zL0 V V V ta27 V Vv) <| dO V V V (zY V V Vv) <| dO V V V (zO V zS sz68 (by decide) V V V (zE1 hs) Vv) ?_
      refine dO V V V (zP V V ta68 V Vv) <| zV V V (.cons (zX0 V V V co54 (rAhead_spec p x _)) .nil) <| dO V V V (zL1 V V Vv) <| dO V V V (zP1 V V V Vv) <| dO V V V (zP1 V V V Vv) <| zO0 ?_
      refine zE V (fun h56 => ?_) (fun h56 => ?_)
      ·
       refine zA <| qR V <| qA V V V <| qN <| zG ?_
       exact zK (.inr V) zP4 V (.of_eq (by rw [sibs_false hlt (by rw [sibAt_of hs hs2]; simp_all <;> omega)])) (.bool _) Vv
      ·
       refine zQ <| zA <| qR V <| qA V V V <| qN <| zW ?_
       refine zD1 (α := Nat) [(2, _), (3, _), (5, _), (26, _), (27, _), (28, _), (29, _), (30, _), (31, _), (32, _), (33, _), (34, _), (35, _), (36, _), (39, _), (40, _), (41, _), (42, _), (43, _), (44, _), (45, _), (46, _), (47, _), (48, _), (49, _), (50, _), (51, _), (52, _), (53, _), (54, _), (55, _)] (fun q => [(6, .int .i64 (q : Int))]) (fun q => [.cells (encS (.mk k (.mk k1 i1 :: rest))).cells, .cells (encV (.mk n m s c w)).cells]) (fun q => q ≤ i ∧ ∀ j, j < q → cmpF (c.getD j []) x = 2) (fun q => i - q) (0) (.keep V (.keep V (.keep V (.keep V (.keep V (.keep V (.keep V (.keep V (.keep V (.keep V (.keep V (.keep V (.keep V (.keep V (.keep V (.keep V (.keep V (.keep V (.keep V (.keep V (.keep V (.keep V (.keep V (.keep V (.keep V (.keep V (.keep V (.keep V (.keep V (.keep V (.keep V (.nil)))))))))))))))))))))))))))))))) (.keep V (.nil)) (⟨by omega, fun j hj => by omega⟩) (V) ?_
       rintro q ⟨hq, hin⟩
       refine zA <| zA <| qR V <| qM V V V <| qM V V V <| qC V V V V V <| qN ?_
       refine zE V (fun h59 => ?_) (fun h59 => ?_)
       ·
        have hlt2 : q < i := by simpa using h59
        obtain ⟨z, hz⟩ : ∃ z, c[q]? = some z := ⟨_, zD (by omega)⟩
        have hzc := sibAt_clock hz (hall q hlt2)
        have hre := rcmp_eq hzc (show isClockF x = true by simpa using h25) (hc z (zU hz)) (hc x (zU hs))
        refine zQ <| zA <| zW <| zA ?_
        refine zV0 [] [_] mo (by decide) V V V V ?_
        refine dO V V V (zL V V zS1 Vv) <| dO V V V (zL0 V V V ta27 V Vv) <| dO V V V (zY V V Vv) <| dO V V V (zO V zS sz68 (by decide) V V V (zE1 hz) Vv) ?_
        refine dO V V V (zP V V ta68 V Vv) <| dO V V V (zL V V zS1 Vv) <| dO V V V (zL0 V V V ta27 V Vv) <| dO V V V (zY V V Vv) <| dO V V V (zO V zS sz68 (by decide) V V V (zE1 hs) Vv) ?_
        refine dO V V V (zP V V ta68 V Vv) <| zV V V (.cons (zX0 V V V co55 (rCmpC_spec z x _)) .nil) <| dO V V V (zX2 V V V V Vv) <| zO0 ?_
        refine zE V (fun h73 => ?_) (fun h73 => ?_)
        ·
         have hcmp : ¬ cmpF z x = 2 := by rw [hre] at h73; simpa using h73
         refine zA <| qR V <| qA V V V <| qN <| zG ?_
         exact zK (.inr V) zP4 V (.of_eq (by rw [sibs_false hlt (by rw [sibAt_of hs hs2, decide_eq_false (fun hn => hcmp (by have := hn q hlt2; rwa [getD_of hz] at this)), Bool.and_false])])) (.bool _) Vv
        ·
         have hcmp : cmpF z x = 2 := by rw [hre] at h73; simpa using h73
         refine zQ <| qR V <| qM V V V <| qO V <| zU0 V V V V <| qA V V V <| qN ?_
         refine ⟨q + 1, by omega, ⟨by omega, fun j hj => ?_⟩, rfl, (.keep V (.keep V (.keep V (.keep V (.keep V (.keep V (.keep V (.keep V (.keep V (.keep V (.keep V (.keep V (.keep V (.keep V (.keep V (.keep V (.keep V (.keep V (.keep V (.keep V (.keep V (.keep V (.keep V (.keep V (.keep V (.keep V (.keep V (.keep V (.keep V (.keep V (.keep V (.nil)))))))))))))))))))))))))))))))), (.eq V (zH1 (show q < c.length by omega) hlen) (.nil))⟩
         by_cases e : j = q
         ·subst e; rw [getD_of hz]; exact hcmp
         ·exact hin j (by omega)
       ·
        have hge2 : q = i := by simp at h59; omega
        refine zA1 <| qR V <| qM V V V <| qO V <| zU0 V V V V <| qA V V V <| qN ?_
        refine ⟨i + 1, by omega, ⟨by omega, fun j hj => ?_⟩, rfl, (.keep V (.keep V (.nil))), (.eq V (zH1 hlt hlen) (.nil))⟩
        by_cases e : j = i
        ·subst e
         rw [sibAt_of hs hs2, show isClockF x = true by simpa using h25, show f _ = true by simpa using h38, decide_eq_true (fun q hq => hin q (by omega))]
         simp_all
        ·exact hall j (by omega)
     ·
      have hi0 : i = 0 := by simp at h41; omega
      refine dS V V <| dS V V <| dS V V <| dS V V <| dS V V <| dS V V <| dS V V <| dS V V <| dS V V <| dS V V <| dS V V <| dS V V <| dS V V <| dO V V V (zP1 V V V Vv) <| dO V V V (zP1 V V V Vv) <| zO0 <| zJ V (V) <| zQ <| zA <| qR V <| qA V V V <| qN <| zW ?_
      refine zD1 (α := Nat) [(2, _), (3, _), (5, _), (26, _), (27, _), (28, _), (29, _), (30, _), (31, _), (32, _), (33, _), (34, _), (35, _), (36, _), (39, _), (40, _), (41, _), (42, _), (43, _), (44, _), (45, _), (46, _), (47, _), (48, _), (49, _), (50, _), (51, _), (52, _), (53, _), (54, _), (55, _)] (fun q => [(6, .int .i64 (q : Int))]) (fun q => [.cells (encS (.mk k (.mk k1 i1 :: rest))).cells, .cells (encV (.mk n m s c w)).cells]) (fun q => q ≤ i ∧ ∀ j, j < q → cmpF (c.getD j []) x = 2) (fun q => i - q) (0) (.keep V (.keep V (.keep V (.keep V (.keep V (.keep V (.keep V (.keep V (.keep V (.keep V (.keep V (.keep V (.keep V (.keep V (.keep V (.keep V (.keep V (.keep V (.keep V (.keep V (.keep V (.keep V (.keep V (.keep V (.keep V (.keep V (.keep V (.keep V (.keep V (.keep V (.keep V (.nil)))))))))))))))))))))))))))))))) (.keep V (.nil)) (⟨by omega, fun j hj => by omega⟩) (V) ?_
      rintro q ⟨hq, hin⟩
      refine zA <| zA <| qR V <| qM V V V <| qM V V V <| qC V V V V V <| qN ?_
      refine zE V (fun h59 => ?_) (fun h59 => ?_)
      ·
       have hlt2 : q < i := by simpa using h59
       obtain ⟨z, hz⟩ : ∃ z, c[q]? = some z := ⟨_, zD (by omega)⟩
       have hzc := sibAt_clock hz (hall q hlt2)
       have hre := rcmp_eq hzc (show isClockF x = true by simpa using h25) (hc z (zU hz)) (hc x (zU hs))
       refine zQ <| zA <| zW <| zA ?_
       refine zV0 [] [_] mo (by decide) V V V V ?_
       refine dO V V V (zL V V zS1 Vv) <| dO V V V (zL0 V V V ta27 V Vv) <| dO V V V (zY V V Vv) <| dO V V V (zO V zS sz68 (by decide) V V V (zE1 hz) Vv) ?_
       refine dO V V V (zP V V ta68 V Vv) <| dO V V V (zL V V zS1 Vv) <| dO V V V (zL0 V V V ta27 V Vv) <| dO V V V (zY V V Vv) <| dO V V V (zO V zS sz68 (by decide) V V V (zE1 hs) Vv) ?_
       refine dO V V V (zP V V ta68 V Vv) <| zV V V (.cons (zX0 V V V co55 (rCmpC_spec z x _)) .nil) <| dO V V V (zX2 V V V V Vv) <| zO0 ?_
       refine zE V (fun h73 => ?_) (fun h73 => ?_)
       ·
        have hcmp : ¬ cmpF z x = 2 := by rw [hre] at h73; simpa using h73
        refine zA <| qR V <| qA V V V <| qN <| zG ?_
        exact zK (.inr V) zP4 V (.of_eq (by rw [sibs_false hlt (by rw [sibAt_of hs hs2, decide_eq_false (fun hn => hcmp (by have := hn q hlt2; rwa [getD_of hz] at this)), Bool.and_false])])) (.bool _) Vv
       ·
        have hcmp : cmpF z x = 2 := by rw [hre] at h73; simpa using h73
        refine zQ <| qR V <| qM V V V <| qO V <| zU0 V V V V <| qA V V V <| qN ?_
        refine ⟨q + 1, by omega, ⟨by omega, fun j hj => ?_⟩, rfl, (.keep V (.keep V (.keep V (.keep V (.keep V (.keep V (.keep V (.keep V (.keep V (.keep V (.keep V (.keep V (.keep V (.keep V (.keep V (.keep V (.keep V (.keep V (.keep V (.keep V (.keep V (.keep V (.keep V (.keep V (.keep V (.keep V (.keep V (.keep V (.keep V (.keep V (.keep V (.nil)))))))))))))))))))))))))))))))), (.eq V (zH1 (show q < c.length by omega) hlen) (.nil))⟩
        by_cases e : j = q
        ·subst e; rw [getD_of hz]; exact hcmp
        ·exact hin j (by omega)
      ·
       have hge2 : q = i := by simp at h59; omega
       refine zA1 <| qR V <| qM V V V <| qO V <| zU0 V V V V <| qA V V V <| qN ?_
       refine ⟨i + 1, by omega, ⟨by omega, fun j hj => ?_⟩, rfl, (.keep V (.keep V (.nil))), (.eq V (zH1 hlt hlen) (.nil))⟩
       by_cases e : j = i
       ·subst e
        rw [sibAt_of hs hs2, show isClockF x = true by simpa using h25, show f _ = true by simpa using h38, decide_eq_true (fun q hq => hin q (by omega))]
        simp_all
       ·exact hall j (by omega)
  ·
   have hge : i = c.length := by simp at h15; omega
   refine zA1 <| zA <| qR V <| qA V V V <| qN <| zG ?_
   exact zK (.inr V) zP4 V (.of_eq (by rw [sibs_true c40 (fun j hj => hall j (by omega))])) (.bool _) Vv
theorem _root_.zW4 : type_of% @Tryz.ntmps17 := @Tryz.ntmps17
theorem _root_.zQ0 : type_of% @Tryz.results17 := @Tryz.results17
theorem isR_spec (d : Nat) : ∀ (s : Sch), isF d s = true → ∀ x : Val, okV x → ∀ S : MS, MCalls Tryz.prog 17 [encS s, encV x] S fun v σ' => v = .bool (isRF s x) ∧ σ' = S := by
 induction d with
 | zero => intro s h; simp [isF] at h
 | succ d ih =>
 rintro ⟨k, ins⟩ hd ⟨n, m, s, c, w⟩ hv S
 rw [isF] at hd
 simp only [Bool.and_eq_true, List.all_eq_true, beq_iff_eq] at hd
 simp only [okV] at hv
 have hvs := okVs_iff.1 hv.2.2.2
 rcases k8_of hd.1 with rfl | rfl | rfl | rfl | rfl | rfl | rfl | rfl
 ·
  refine zN zF4 V zW4 (zB V) ?_
  refine zA <| qR V <| qB V V V V V <| qB V V V V V <| qA V V V <| qN <| zA <| zA <| qR V <| qL V V V V ta24 V <| qL V V V V ta30 V ?_
  refine qX V V V V co31 (zK5 1 _ (by omega) n m s c w _) ?_
  refine qO V <| zL1 V V <| qM V V V ?_
  refine zB0 (fun h10 => ?_) (fun h10 => ?_)
  ·
   refine qT V V V V <| qP V V V V <| qM V V V <| qT V V V V <| qP V V V V <| qN <| zX V (V) <| zA <| qR V <| qA V V V <| qN <| zG ?_
   exact zK (.inr V) zQ0 V (.of_eq (by rw [zZ1 1]; congr 1; symm; first | (rw [show fitsF 1 _ = false by simpa using h10]; rfl) | (rw [show risesF s = false by simpa using h16]; simp; done) | (rw [s40f]; simp; done))) (.bool _) Vv
  ·
   refine qF V V V zT1 <| qL V V V V ta26 V ?_
   refine qX V V V V co32 (zK4 s _) ?_
   refine qO V <| zL1 V V <| qP V V V V <| qM V V V ?_
   refine zB0 (fun h16 => ?_) (fun h16 => ?_)
   ·
    refine qT V V V V <| qP V V V V <| qN <| zX V (V) <| zA <| qR V <| qA V V V <| qN <| zG ?_
    exact zK (.inr V) zQ0 V (.of_eq (by rw [zZ1 1]; congr 1; symm; first | (rw [show fitsF 1 _ = false by simpa using h10]; rfl) | (rw [show risesF s = false by simpa using h16]; simp; done) | (rw [s40f]; simp; done))) (.bool _) Vv
   ·
    refine qF V V V zT1 <| qL V V V V ta26 V <| qE V V zA0 V <| qC V V V V V <| qP V V V V <| qN ?_
    refine zE V (fun h21 => ?_) (fun h21 => ?_)
    ·
     have s40f := decide_eq_false (by rw [zH] at h21; simp at h21; omega : ¬ s.length ≤ 40)
     refine zA <| qR V <| qA V V V <| qN <| zG ?_
     exact zK (.inr V) zQ0 V (.of_eq (by rw [zZ1 1]; congr 1; symm; first | (rw [show fitsF 1 _ = false by simpa using h10]; rfl) | (rw [show risesF s = false by simpa using h16]; simp; done) | (rw [s40f]; simp; done))) (.bool _) Vv
    ·
     have s40t := decide_eq_true (by rw [zH] at h21; simp at h21; omega : s.length ≤ 40)
     have hfit : fitsF 1 (.mk n m s c w) = true := by simpa using h10
     have hris : risesF s = true := by simpa using h16
     refine zQ <| zA <| zA <| qR V <| qF V V V zM1 <| qL V V V V ta3 V <| qN <| zW <| zA <| qR V <| qC V V V V V <| qA V V V <| qN <| zJ V (V) <| zA <| qR V <| qC V V V V V <| qA V V V <| qN <| zJ V (V) <| zA <| qR V <| qC V V V V V ?_
     refine qA V V V <| qN <| zJ V (V) <| zA <| qR V <| qC V V V V V <| qA V V V <| qN <| zJ V (V) <| zQ <| zA <| qR V <| qA V V V <| qN <| zG ?_
     exact zK (.inr V) zQ0 V (.of_eq (by rw [zZ1 1]; rw [hfit, hris, s40t]; simp only [Bool.true_and, isRL, List.headD_cons, List.tail_cons]; rfl)) (.bool _) Vv
 ·
  refine zN zF4 V zW4 (zB V) ?_
  refine zA <| qR V <| qB V V V V V <| qB V V V V V <| qA V V V <| qN <| zA <| zA <| qR V <| qL V V V V ta24 V <| qL V V V V ta30 V ?_
  refine qX V V V V co31 (zK5 2 _ (by omega) n m s c w _) ?_
  refine qO V <| zL1 V V <| qM V V V ?_
  refine zB0 (fun h10 => ?_) (fun h10 => ?_)
  ·
   refine qT V V V V <| qP V V V V <| qM V V V <| qT V V V V <| qP V V V V <| qN <| zX V (V) <| zA <| qR V <| qA V V V <| qN <| zG ?_
   exact zK (.inr V) zQ0 V (.of_eq (by rw [zZ1 2]; congr 1; symm; first | (rw [show fitsF 2 _ = false by simpa using h10]; rfl) | (rw [show risesF s = false by simpa using h16]; simp; done) | (rw [s40f]; simp; done))) (.bool _) Vv
  ·
   refine qF V V V zT1 <| qL V V V V ta26 V ?_
   refine qX V V V V co32 (zK4 s _) ?_
   refine qO V <| zL1 V V <| qP V V V V <| qM V V V ?_
   refine zB0 (fun h16 => ?_) (fun h16 => ?_)
   ·
    refine qT V V V V <| qP V V V V <| qN <| zX V (V) <| zA <| qR V <| qA V V V <| qN <| zG ?_
    exact zK (.inr V) zQ0 V (.of_eq (by rw [zZ1 2]; congr 1; symm; first | (rw [show fitsF 2 _ = false by simpa using h10]; rfl) | (rw [show risesF s = false by simpa using h16]; simp; done) | (rw [s40f]; simp; done))) (.bool _) Vv
   ·
    refine qF V V V zT1 <| qL V V V V ta26 V <| qE V V zA0 V <| qC V V V V V <| qP V V V V <| qN ?_
    refine zE V (fun h21 => ?_) (fun h21 => ?_)
    ·
     have s40f := decide_eq_false (by rw [zH] at h21; simp at h21; omega : ¬ s.length ≤ 40)
     refine zA <| qR V <| qA V V V <| qN <| zG ?_
     exact zK (.inr V) zQ0 V (.of_eq (by rw [zZ1 2]; congr 1; symm; first | (rw [show fitsF 2 _ = false by simpa using h10]; rfl) | (rw [show risesF s = false by simpa using h16]; simp; done) | (rw [s40f]; simp; done))) (.bool _) Vv
    ·
     have s40t := decide_eq_true (by rw [zH] at h21; simp at h21; omega : s.length ≤ 40)
     have hfit : fitsF 2 (.mk n m s c w) = true := by simpa using h10
     have hris : risesF s = true := by simpa using h16
     refine zQ <| zA <| zA <| qR V <| qF V V V zM1 <| qL V V V V ta3 V <| qN <| zW <| zA <| qR V <| qC V V V V V <| qA V V V <| qN <| zJ V (V) <| zA <| qR V <| qC V V V V V <| qA V V V <| qN <| zJ V (V) <| zA <| qR V <| qC V V V V V ?_
     refine qA V V V <| qN <| zJ V (V) <| zA <| qR V <| qC V V V V V <| qA V V V <| qN <| zJ V (V) <| zQ <| zA <| qR V <| qA V V V <| qN <| zG ?_
     exact zK (.inr V) zQ0 V (.of_eq (by rw [zZ1 2]; rw [hfit, hris, s40t]; simp only [Bool.true_and, isRL, List.headD_cons, List.tail_cons]; rfl)) (.bool _) Vv
 ·
  refine zN zF4 V zW4 (zB V) ?_
  refine zA <| qR V <| qB V V V V V <| qB V V V V V <| qA V V V <| qN <| zA <| zA <| qR V <| qL V V V V ta24 V <| qL V V V V ta30 V ?_
  refine qX V V V V co31 (zK5 3 _ (by omega) n m s c w _) ?_
  refine qO V <| zL1 V V <| qM V V V ?_
  refine zB0 (fun h10 => ?_) (fun h10 => ?_)
  ·
   refine qT V V V V <| qP V V V V <| qM V V V <| qT V V V V <| qP V V V V <| qN <| zX V (V) <| zA <| qR V <| qA V V V <| qN <| zG ?_
   exact zK (.inr V) zQ0 V (.of_eq (by rw [zZ1 3]; congr 1; symm; first | (rw [show fitsF 3 _ = false by simpa using h10]; rfl) | (rw [show risesF s = false by simpa using h16]; simp; done) | (rw [s40f]; simp; done))) (.bool _) Vv
  ·
   refine qF V V V zT1 <| qL V V V V ta26 V ?_
   refine qX V V V V co32 (zK4 s _) ?_
   refine qO V <| zL1 V V <| qP V V V V <| qM V V V ?_
   refine zB0 (fun h16 => ?_) (fun h16 => ?_)
   ·
    refine qT V V V V <| qP V V V V <| qN <| zX V (V) <| zA <| qR V <| qA V V V <| qN <| zG ?_
    exact zK (.inr V) zQ0 V (.of_eq (by rw [zZ1 3]; congr 1; symm; first | (rw [show fitsF 3 _ = false by simpa using h10]; rfl) | (rw [show risesF s = false by simpa using h16]; simp; done) | (rw [s40f]; simp; done))) (.bool _) Vv
   ·
    refine qF V V V zT1 <| qL V V V V ta26 V <| qE V V zA0 V <| qC V V V V V <| qP V V V V <| qN ?_
    refine zE V (fun h21 => ?_) (fun h21 => ?_)
    ·
     have s40f := decide_eq_false (by rw [zH] at h21; simp at h21; omega : ¬ s.length ≤ 40)
     refine zA <| qR V <| qA V V V <| qN <| zG ?_
     exact zK (.inr V) zQ0 V (.of_eq (by rw [zZ1 3]; congr 1; symm; first | (rw [show fitsF 3 _ = false by simpa using h10]; rfl) | (rw [show risesF s = false by simpa using h16]; simp; done) | (rw [s40f]; simp; done))) (.bool _) Vv
    ·
     have s40t := decide_eq_true (by rw [zH] at h21; simp at h21; omega : s.length ≤ 40)
     have hfit : fitsF 3 (.mk n m s c w) = true := by simpa using h10
     have hris : risesF s = true := by simpa using h16
     refine zQ <| zA <| zA <| qR V <| qF V V V zM1 <| qL V V V V ta3 V <| qN <| zW <| zA <| qR V <| qC V V V V V <| qA V V V <| qN <| zJ V (V) <| zA <| qR V <| qC V V V V V <| qA V V V <| qN <| zJ V (V) <| zA <| qR V <| qC V V V V V ?_
     refine qA V V V <| qN <| zJ V (V) <| zA <| qR V <| qC V V V V V <| qA V V V <| qN <| zJ V (V) <| zQ <| zA <| qR V <| qA V V V <| qN <| zG ?_
     exact zK (.inr V) zQ0 V (.of_eq (by rw [zZ1 3]; rw [hfit, hris, s40t]; simp only [Bool.true_and, isRL, List.headD_cons, List.tail_cons]; rfl)) (.bool _) Vv
 ·
  obtain ⟨⟨k1, i1⟩, rfl⟩ := one_ins hd.1 (by decide)
  have ih1 := ih (.mk k1 i1) (hd.2 _ (by simp))
  refine zN zF4 V zW4 (zB V) ?_
  refine zA <| qR V <| qB V V V V V <| qB V V V V V <| qA V V V <| qN <| zA <| zA <| qR V <| qL V V V V ta24 V <| qL V V V V ta30 V ?_
  refine qX V V V V co31 (zK5 4 _ (by omega) n m s c w _) ?_
  refine qO V <| zL1 V V <| qM V V V ?_
  refine zB0 (fun h10 => ?_) (fun h10 => ?_)
  ·
   refine qT V V V V <| qP V V V V <| qM V V V <| qT V V V V <| qP V V V V <| qN <| zX V (V) <| zA <| qR V <| qA V V V <| qN <| zG ?_
   exact zK (.inr V) zQ0 V (.of_eq (by rw [zZ1 4]; congr 1; symm; first | (rw [show fitsF 4 _ = false by simpa using h10]; rfl) | (rw [show risesF s = false by simpa using h16]; simp; done) | (rw [s40f]; simp; done))) (.bool _) Vv
  ·
   refine qF V V V zT1 <| qL V V V V ta26 V ?_
   refine qX V V V V co32 (zK4 s _) ?_
   refine qO V <| zL1 V V <| qP V V V V <| qM V V V ?_
   refine zB0 (fun h16 => ?_) (fun h16 => ?_)
   ·
    refine qT V V V V <| qP V V V V <| qN <| zX V (V) <| zA <| qR V <| qA V V V <| qN <| zG ?_
    exact zK (.inr V) zQ0 V (.of_eq (by rw [zZ1 4]; congr 1; symm; first | (rw [show fitsF 4 _ = false by simpa using h10]; rfl) | (rw [show risesF s = false by simpa using h16]; simp; done) | (rw [s40f]; simp; done))) (.bool _) Vv
   ·
    refine qF V V V zT1 <| qL V V V V ta26 V <| qE V V zA0 V <| qC V V V V V <| qP V V V V <| qN ?_
    refine zE V (fun h21 => ?_) (fun h21 => ?_)
    ·
     have s40f := decide_eq_false (by rw [zH] at h21; simp at h21; omega : ¬ s.length ≤ 40)
     refine zA <| qR V <| qA V V V <| qN <| zG ?_
     exact zK (.inr V) zQ0 V (.of_eq (by rw [zZ1 4]; congr 1; symm; first | (rw [show fitsF 4 _ = false by simpa using h10]; rfl) | (rw [show risesF s = false by simpa using h16]; simp; done) | (rw [s40f]; simp; done))) (.bool _) Vv
    ·
     have s40t := decide_eq_true (by rw [zH] at h21; simp at h21; omega : s.length ≤ 40)
     have hfit : fitsF 4 (.mk n m s c w) = true := by simpa using h10
     have hris : risesF s = true := by simpa using h16
     refine zQ <| zA <| zA <| qR V <| qF V V V zM1 <| qL V V V V ta3 V <| qN <| zW <| zA <| qR V <| qC V V V V V <| qA V V V <| qN <| zX V (V) <| zA <| qR V <| qA V V V <| qN <| zW ?_
     refine zD1 (α := Nat) [(2, _), (3, _)] (fun i => [(5, .int .i64 (i : Int))]) (fun i => [.cells (encS (.mk 4 [.mk k1 i1])).cells, .cells (encV (.mk n m s c w)).cells]) (fun i => i ≤ w.length ∧ (w.take i).all (fun x => isRF (.mk k1 i1) x && !noneF (.mk k1 i1) x) = true) (fun i => w.length - i) (0) (.keep V (.keep V (.nil))) (.keep V (.nil)) (⟨by omega, rfl⟩) (V) ?_
     rintro i ⟨hi, hall⟩
     refine zA <| zA <| qR V <| qM V V V <| qF V V V zO1 <| qL V V V V ta28 V <| qE V V zT V <| qC V V V V V <| qN ?_
     refine zE V (fun h30 => ?_) (fun h30 => ?_)
     ·
      rw [zZ] at h30
      have hlt : i < w.length := by simpa using h30
      obtain ⟨⟨n1, m1, s1, c1, w1⟩, hs⟩ : ∃ q, w[i]? = some q := ⟨_, zD hlt⟩
      refine zP2 (t := 28) V fun hlen => ?_
      rw [zZ] at hlen
      refine zQ <| zA <| zW <| zA ?_
      refine zV0 [] [_] mo (by decide) V V V V ?_
      refine dO V V V (zL V V zC2 Vv) <| dO V V V (zL0 V V V ta22 V Vv) <| dO V V V (zO V zD0 sz24 (by decide) V V V (show _ = some (encS (.mk k1 i1)) from V) Vv) ?_
      refine dO V V V (zP V V ta24 V Vv) <| dO V V V (zL V V zO1 Vv) <| dO V V V (zL0 V V V ta28 V Vv) <| dO V V V (zY V V Vv) <| dO V V V (zO V zT sz30 (by decide) V V V (zE5 hs) Vv) ?_
      refine dO V V V (zP V V ta30 V Vv) <| zV V V (.cons (zX0 V V V co17 (ih1 (.mk n1 m1 s1 c1 w1) (hvs _ (zU hs)) _)) .nil) <| dO V V V (zL1 V V Vv) <| dO V V V (zY V V Vv) ?_
      refine zS2 (fun h44 => ?_) (fun h44 => ?_)
      ·
       refine dS V V <| dS V V <| dS V V <| dS V V <| dS V V <| dS V V <| dS V V <| dS V V <| dS V V <| dS V V <| dO V V V (zP1 V V V Vv) <| zO0 <| zX V (V) <| zA <| qR V <| qA V V V <| qN <| zG ?_
       exact zK (.inr V) zQ0 V (.of_eq (by rw [zZ1 4]; rw [hfit, hris, s40t]; simp only [Bool.true_and, isRL, List.headD_cons, List.tail_cons]; congr 1; symm; show w.all (fun x => isRF (.mk k1 i1) x && !noneF (.mk k1 i1) x) = false; rw [List.all_eq_false]; exact ⟨_, zU hs, by simp_all⟩)) (.bool _) Vv
      ·
       refine dO V V V (zL V V zC2 Vv) <| dO V V V (zL0 V V V ta22 V Vv) <| dO V V V (zO V zD0 sz24 (by decide) V V V (show _ = some (encS (.mk k1 i1)) from V) Vv) ?_
       refine dO V V V (zP V V ta24 V Vv) <| dO V V V (zL V V zO1 Vv) <| dO V V V (zL0 V V V ta28 V Vv) <| dO V V V (zY V V Vv) <| dO V V V (zO V zT sz30 (by decide) V V V (zE5 hs) Vv) ?_
       refine dO V V V (zP V V ta30 V Vv) <| zV V V (.cons (zX0 V V V co33 (rNone_spec (.mk k1 i1) (.mk n1 m1 s1 c1 w1) _)) .nil) <| dO V V V (zP1 V V V Vv) <| zO0 ?_
       refine zE V (fun h55 => ?_) (fun h55 => ?_)
       ·
        refine zA <| qR V <| qA V V V <| qN <| zG ?_
        exact zK (.inr V) zQ0 V (.of_eq (by rw [zZ1 4]; rw [hfit, hris, s40t]; simp only [Bool.true_and, isRL, List.headD_cons, List.tail_cons]; congr 1; symm; show w.all (fun x => isRF (.mk k1 i1) x && !noneF (.mk k1 i1) x) = false; rw [List.all_eq_false]; exact ⟨_, zU hs, by simp_all⟩)) (.bool _) Vv
       ·
        refine zQ <| qR V <| qM V V V <| qO V <| zU0 V V V V <| qA V V V <| qN ?_
        refine ⟨i + 1, by omega, ⟨by omega, ?_⟩, rfl, (.keep V (.keep V (.nil))), (.eq V (zH1 hlt hlen) (.nil))⟩
        rw [List.take_add_one, hs, List.all_append, hall]
        simp_all
     ·
      rw [zZ] at h30
      have hge : i = w.length := by simp at h30; omega
      refine zA1 <| zA <| qR V <| qA V V V <| qN <| zG ?_
      exact zK (.inr V) zQ0 V (.of_eq (by rw [zZ1 4]; rw [hfit, hris, s40t]; simp only [Bool.true_and, isRL, List.headD_cons, List.tail_cons]; congr 1; symm; show w.all (fun x => isRF (.mk k1 i1) x && !noneF (.mk k1 i1) x) = true; rw [hge, List.take_length] at hall; exact hall)) (.bool _) Vv
 ·
  obtain ⟨⟨k1, i1⟩, ⟨k2, i2⟩, rfl⟩ := two_of hd.1
  have ih1 := ih (.mk k1 i1) (hd.2 _ (by simp))
  have ih2 := ih (.mk k2 i2) (hd.2 _ (by simp))
  refine zN zF4 V zW4 (zB V) ?_
  refine zA <| qR V <| qB V V V V V <| qB V V V V V <| qA V V V <| qN <| zA <| zA <| qR V <| qL V V V V ta24 V <| qL V V V V ta30 V ?_
  refine qX V V V V co31 (zK5 5 _ (by omega) n m s c w _) ?_
  refine qO V <| zL1 V V <| qM V V V ?_
  refine zB0 (fun h10 => ?_) (fun h10 => ?_)
  ·
   refine qT V V V V <| qP V V V V <| qM V V V <| qT V V V V <| qP V V V V <| qN <| zX V (V) <| zA <| qR V <| qA V V V <| qN <| zG ?_
   exact zK (.inr V) zQ0 V (.of_eq (by rw [zZ1 5]; congr 1; symm; first | (rw [show fitsF 5 _ = false by simpa using h10]; rfl) | (rw [show risesF s = false by simpa using h16]; simp; done) | (rw [s40f]; simp; done))) (.bool _) Vv
  ·
   refine qF V V V zT1 <| qL V V V V ta26 V ?_
   refine qX V V V V co32 (zK4 s _) ?_
   refine qO V <| zL1 V V <| qP V V V V <| qM V V V ?_
   refine zB0 (fun h16 => ?_) (fun h16 => ?_)
   ·
    refine qT V V V V <| qP V V V V <| qN <| zX V (V) <| zA <| qR V <| qA V V V <| qN <| zG ?_
    exact zK (.inr V) zQ0 V (.of_eq (by rw [zZ1 5]; congr 1; symm; first | (rw [show fitsF 5 _ = false by simpa using h10]; rfl) | (rw [show risesF s = false by simpa using h16]; simp; done) | (rw [s40f]; simp; done))) (.bool _) Vv
   ·
    refine qF V V V zT1 <| qL V V V V ta26 V <| qE V V zA0 V <| qC V V V V V <| qP V V V V <| qN ?_
    refine zE V (fun h21 => ?_) (fun h21 => ?_)
    ·
     have s40f := decide_eq_false (by rw [zH] at h21; simp at h21; omega : ¬ s.length ≤ 40)
     refine zA <| qR V <| qA V V V <| qN <| zG ?_
     exact zK (.inr V) zQ0 V (.of_eq (by rw [zZ1 5]; congr 1; symm; first | (rw [show fitsF 5 _ = false by simpa using h10]; rfl) | (rw [show risesF s = false by simpa using h16]; simp; done) | (rw [s40f]; simp; done))) (.bool _) Vv
    ·
     have s40t := decide_eq_true (by rw [zH] at h21; simp at h21; omega : s.length ≤ 40)
     have hfit : fitsF 5 (.mk n m s c w) = true := by simpa using h10
     have hris : risesF s = true := by simpa using h16
     refine zQ <| zA <| zA <| qR V <| qF V V V zM1 <| qL V V V V ta3 V <| qN <| zW <| zA <| qR V <| qC V V V V V <| qA V V V <| qN <| zJ V (V) <| zA <| qR V <| qC V V V V V <| qA V V V <| qN <| zX V (V) <| zA ?_
     obtain ⟨⟨n1, m1, s1, c1, w1⟩, ⟨n2, m2, s2, c2, w2⟩, rfl⟩ := two_of' (fits5 hfit)
     refine zV0 [] [_] mo (by decide) V V V V ?_
     refine dO V V V (zL V V zC2 Vv) <| dO V V V (zL0 V V V ta22 V Vv) <| dO V V V (zO V zD0 sz24 (by decide) V V V (show _ = some (encS (.mk k1 i1)) from V) Vv) ?_
     refine dO V V V (zP V V ta24 V Vv) <| dO V V V (zL V V zO1 Vv) <| dO V V V (zL0 V V V ta28 V Vv) <| dO V V V (zO V zT sz30 (by decide) V V V (show _ = some (encV (.mk n1 m1 s1 c1 w1)) from V) Vv) ?_
     refine dO V V V (zP V V ta30 V Vv) <| zV V V (.cons (zX0 V V V co17 (ih1 (.mk n1 m1 s1 c1 w1) (hvs _ (by simp)) _)) .nil) ?_
     refine dO V V V (zY V V Vv) ?_
     refine zS2 (fun h67 => ?_) (fun h67 => ?_)
     ·
      refine dO V V V (zL V V zC2 Vv) <| dO V V V (zL0 V V V ta22 V Vv) <| dO V V V (zO V zD0 sz24 (by decide) V V V (show _ = some (encS (.mk k2 i2)) from V) Vv) ?_
      refine dO V V V (zP V V ta24 V Vv) <| dO V V V (zL V V zO1 Vv) <| dO V V V (zL0 V V V ta28 V Vv) <| dO V V V (zO V zT sz30 (by decide) V V V (show _ = some (encV (.mk n2 m2 s2 c2 w2)) from V) Vv) ?_
      refine dO V V V (zP V V ta30 V Vv) <| zV V V (.cons (zX0 V V V co17 (ih2 (.mk n2 m2 s2 c2 w2) (hvs _ (by simp)) _)) .nil) ?_
      refine dO V V V (zP1 V V V Vv) <| dO V V V (zC1 V V Vv) <| zO0 <| zG ?_
      exact zK (.inr V) zQ0 V (.of_eq (by rw [zZ1 5]; rw [hfit, hris, s40t]; simp only [Bool.true_and, isRL, List.headD_cons, List.tail_cons]; congr 1; rw [zC]; simp_all)) (.bool _) Vv
     ·
      refine dS V V <| dS V V <| dS V V <| dS V V <| dS V V <| dS V V <| dS V V <| dS V V <| dS V V <| dO V V V (zP1 V V V Vv) <| dO V V V (zC1 V V Vv) <| zO0 <| zG ?_
      exact zK (.inr V) zQ0 V (.of_eq (by rw [zZ1 5]; rw [hfit, hris, s40t]; simp only [Bool.true_and, isRL, List.headD_cons, List.tail_cons]; congr 1; rw [zC]; simp_all)) (.bool _) Vv
 ·
  refine zN zF4 V zW4 (zB V) ?_
  refine zA <| qR V <| qB V V V V V <| qB V V V V V <| qA V V V <| qN <| zA <| zA <| qR V <| qL V V V V ta24 V <| qL V V V V ta30 V ?_
  refine qX V V V V co31 (zK5 6 _ (by omega) n m s c w _) ?_
  refine qO V <| zL1 V V <| qM V V V ?_
  refine zB0 (fun h10 => ?_) (fun h10 => ?_)
  ·
   refine qT V V V V <| qP V V V V <| qM V V V <| qT V V V V <| qP V V V V <| qN <| zX V (V) <| zA <| qR V <| qA V V V <| qN <| zG ?_
   exact zK (.inr V) zQ0 V (.of_eq (by rw [zZ1 6]; congr 1; symm; first | (rw [show fitsF 6 _ = false by simpa using h10]; rfl) | (rw [show risesF s = false by simpa using h16]; simp; done) | (rw [s40f]; simp; done))) (.bool _) Vv
  ·
   refine qF V V V zT1 <| qL V V V V ta26 V ?_
   refine qX V V V V co32 (zK4 s _) ?_
   refine qO V <| zL1 V V <| qP V V V V <| qM V V V ?_
   refine zB0 (fun h16 => ?_) (fun h16 => ?_)
   ·
    refine qT V V V V <| qP V V V V <| qN <| zX V (V) <| zA <| qR V <| qA V V V <| qN <| zG ?_
    exact zK (.inr V) zQ0 V (.of_eq (by rw [zZ1 6]; congr 1; symm; first | (rw [show fitsF 6 _ = false by simpa using h10]; rfl) | (rw [show risesF s = false by simpa using h16]; simp; done) | (rw [s40f]; simp; done))) (.bool _) Vv
   ·
    refine qF V V V zT1 <| qL V V V V ta26 V <| qE V V zA0 V <| qC V V V V V <| qP V V V V <| qN ?_
    refine zE V (fun h21 => ?_) (fun h21 => ?_)
    ·
     have s40f := decide_eq_false (by rw [zH] at h21; simp at h21; omega : ¬ s.length ≤ 40)
     refine zA <| qR V <| qA V V V <| qN <| zG ?_
     exact zK (.inr V) zQ0 V (.of_eq (by rw [zZ1 6]; congr 1; symm; first | (rw [show fitsF 6 _ = false by simpa using h10]; rfl) | (rw [show risesF s = false by simpa using h16]; simp; done) | (rw [s40f]; simp; done))) (.bool _) Vv
    ·
     have s40t := decide_eq_true (by rw [zH] at h21; simp at h21; omega : s.length ≤ 40)
     have hfit : fitsF 6 (.mk n m s c w) = true := by simpa using h10
     have hris : risesF s = true := by simpa using h16
     refine zQ <| zA <| zA <| qR V <| qF V V V zM1 <| qL V V V V ta3 V <| qN <| zW <| zA <| qR V <| qC V V V V V <| qA V V V <| qN <| zJ V (V) <| zA <| qR V <| qC V V V V V <| qA V V V <| qN <| zJ V (V) <| zA <| qR V <| qC V V V V V ?_
     refine qA V V V <| qN <| zJ V (V) <| zA <| qR V <| qC V V V V V <| qA V V V <| qN <| zJ V (V) <| zQ <| zA <| qR V <| qA V V V <| qN <| zG ?_
     exact zK (.inr V) zQ0 V (.of_eq (by rw [zZ1 6]; rw [hfit, hris, s40t]; simp only [Bool.true_and, isRL, List.headD_cons, List.tail_cons]; rfl)) (.bool _) Vv
 ·
  refine zN zF4 V zW4 (zB V) ?_
  refine zA <| qR V <| qB V V V V V <| qB V V V V V <| qA V V V <| qN <| zA <| zA <| qR V <| qL V V V V ta24 V <| qL V V V V ta30 V ?_
  refine qX V V V V co31 (zK5 7 _ (by omega) n m s c w _) ?_
  refine qO V <| zL1 V V <| qM V V V ?_
  refine zB0 (fun h10 => ?_) (fun h10 => ?_)
  ·
   refine qT V V V V <| qP V V V V <| qM V V V <| qT V V V V <| qP V V V V <| qN <| zX V (V) <| zA <| qR V <| qA V V V <| qN <| zG ?_
   exact zK (.inr V) zQ0 V (.of_eq (by rw [zZ1 7]; congr 1; symm; first | (rw [show fitsF 7 _ = false by simpa using h10]; rfl) | (rw [show risesF s = false by simpa using h16]; simp; done) | (rw [s40f]; simp; done))) (.bool _) Vv
  ·
   refine qF V V V zT1 <| qL V V V V ta26 V ?_
   refine qX V V V V co32 (zK4 s _) ?_
   refine qO V <| zL1 V V <| qP V V V V <| qM V V V ?_
   refine zB0 (fun h16 => ?_) (fun h16 => ?_)
   ·
    refine qT V V V V <| qP V V V V <| qN <| zX V (V) <| zA <| qR V <| qA V V V <| qN <| zG ?_
    exact zK (.inr V) zQ0 V (.of_eq (by rw [zZ1 7]; congr 1; symm; first | (rw [show fitsF 7 _ = false by simpa using h10]; rfl) | (rw [show risesF s = false by simpa using h16]; simp; done) | (rw [s40f]; simp; done))) (.bool _) Vv
   ·
    refine qF V V V zT1 <| qL V V V V ta26 V <| qE V V zA0 V <| qC V V V V V <| qP V V V V <| qN ?_
    refine zE V (fun h21 => ?_) (fun h21 => ?_)
    ·
     have s40f := decide_eq_false (by rw [zH] at h21; simp at h21; omega : ¬ s.length ≤ 40)
     refine zA <| qR V <| qA V V V <| qN <| zG ?_
     exact zK (.inr V) zQ0 V (.of_eq (by rw [zZ1 7]; congr 1; symm; first | (rw [show fitsF 7 _ = false by simpa using h10]; rfl) | (rw [show risesF s = false by simpa using h16]; simp; done) | (rw [s40f]; simp; done))) (.bool _) Vv
    ·
     have s40t := decide_eq_true (by rw [zH] at h21; simp at h21; omega : s.length ≤ 40)
     have hfit : fitsF 7 (.mk n m s c w) = true := by simpa using h10
     have hris : risesF s = true := by simpa using h16
     refine zQ <| zA <| zA <| qR V <| qF V V V zM1 <| qL V V V V ta3 V <| qN <| zW <| zA <| qR V <| qC V V V V V <| qA V V V <| qN <| zJ V (V) <| zA <| qR V <| qC V V V V V <| qA V V V <| qN <| zJ V (V) <| zA <| qR V <| qC V V V V V ?_
     refine qA V V V <| qN <| zX V (V) <| zA <| qR V <| qF V V V zS1 <| qL V V V V ta27 V <| qE V V zS V <| qC V V V V V <| qM V V V ?_
     refine zB0 (fun h84 => ?_) (fun h84 => ?_)
     ·
      have hc0 : c = [] := by simpa using h84
      subst hc0
      refine qT V V V V <| qT V V V V <| qT V V V V <| qS V <| qP V V V V <| qA V V V <| qN <| zG ?_
      exact zK (.inr V) zQ0 V (.of_eq (by rw [zZ1 7]; rw [hfit, hris, s40t]; simp only [Bool.true_and, isRL, List.headD_cons, List.tail_cons]; first | rfl | (congr 1; rw [zC]; simp_all))) (.bool _) Vv
     ·
      obtain ⟨c0, rfl⟩ := one_of (by have := fits7 hfit; rw [zH] at h84; simp at h84; have : c.length ≠ 0 := fun e => h84 (List.length_eq_zero_iff.1 e); omega : c.length = 1)
      refine qF V V V zS1 <| qL V V V V ta27 V <| qO V <| zO V zS sz68 (by decide) V V V (show _ = some (encC c0) from V) ?_
      refine qO V <| zP V V ta68 V ?_
      refine qX V V V V co34 (rIsClock_spec c0 _) ?_
      refine qM V V V ?_
      refine zB0 (fun h90 => ?_) (fun h90 => ?_)
      ·
       refine qF V V V zS1 <| qL V V V V ta27 V <| qO V <| zO V zS sz68 (by decide) V V V (show _ = some (encC c0) from V) ?_
       refine qO V <| zP V V ta68 V <| qE V V zM V <| qC V V V V V <| qP V V V V <| qP V V V V <| qA V V V <| qN <| zG ?_
       exact zK (.inr V) zQ0 V (.of_eq (by rw [zZ1 7]; rw [hfit, hris, s40t]; simp only [Bool.true_and, isRL, List.headD_cons, List.tail_cons]; first | rfl | (congr 1; rw [zC]; simp_all))) (.bool _) Vv
      ·
       refine qT V V V V <| qS V <| qS V <| qP V V V V <| qP V V V V <| qA V V V <| qN <| zG ?_
       exact zK (.inr V) zQ0 V (.of_eq (by rw [zZ1 7]; rw [hfit, hris, s40t]; simp only [Bool.true_and, isRL, List.headD_cons, List.tail_cons]; first | rfl | (congr 1; rw [zC]; simp_all))) (.bool _) Vv
 ·
  obtain ⟨⟨k1, i1⟩, rfl⟩ := one_ins hd.1 (by decide)
  have ih1 := ih (.mk k1 i1) (hd.2 _ (by simp))
  refine zN zF4 V zW4 (zB V) ?_
  refine zA <| qR V <| qB V V V V V <| qB V V V V V <| qA V V V <| qN <| zA <| zA <| qR V <| qL V V V V ta24 V <| qL V V V V ta30 V ?_
  refine qX V V V V co31 (zK5 8 _ (by omega) n m s c w _) ?_
  refine qO V <| zL1 V V <| qM V V V ?_
  refine zB0 (fun h10 => ?_) (fun h10 => ?_)
  ·
   refine qT V V V V <| qP V V V V <| qM V V V <| qT V V V V <| qP V V V V <| qN <| zX V (V) <| zA <| qR V <| qA V V V <| qN <| zG ?_
   exact zK (.inr V) zQ0 V (.of_eq (by rw [zZ1 8]; congr 1; symm; first | (rw [show fitsF 8 _ = false by simpa using h10]; rfl) | (rw [show risesF s = false by simpa using h16]; simp; done) | (rw [s40f]; simp; done))) (.bool _) Vv
  ·
   refine qF V V V zT1 <| qL V V V V ta26 V ?_
   refine qX V V V V co32 (zK4 s _) ?_
   refine qO V <| zL1 V V <| qP V V V V <| qM V V V ?_
   refine zB0 (fun h16 => ?_) (fun h16 => ?_)
   ·
    refine qT V V V V <| qP V V V V <| qN <| zX V (V) <| zA <| qR V <| qA V V V <| qN <| zG ?_
    exact zK (.inr V) zQ0 V (.of_eq (by rw [zZ1 8]; congr 1; symm; first | (rw [show fitsF 8 _ = false by simpa using h10]; rfl) | (rw [show risesF s = false by simpa using h16]; simp; done) | (rw [s40f]; simp; done))) (.bool _) Vv
   ·
    refine qF V V V zT1 <| qL V V V V ta26 V <| qE V V zA0 V <| qC V V V V V <| qP V V V V <| qN ?_
    refine zE V (fun h21 => ?_) (fun h21 => ?_)
    ·
     have s40f := decide_eq_false (by rw [zH] at h21; simp at h21; omega : ¬ s.length ≤ 40)
     refine zA <| qR V <| qA V V V <| qN <| zG ?_
     exact zK (.inr V) zQ0 V (.of_eq (by rw [zZ1 8]; congr 1; symm; first | (rw [show fitsF 8 _ = false by simpa using h10]; rfl) | (rw [show risesF s = false by simpa using h16]; simp; done) | (rw [s40f]; simp; done))) (.bool _) Vv
    ·
     have s40t := decide_eq_true (by rw [zH] at h21; simp at h21; omega : s.length ≤ 40)
     have hfit : fitsF 8 (.mk n m s c w) = true := by simpa using h10
     have hris : risesF s = true := by simpa using h16
     refine zQ <| zA <| zA <| qR V <| qF V V V zM1 <| qL V V V V ta3 V <| qN <| zW <| zA <| qR V <| qC V V V V V <| qA V V V <| qN <| zJ V (V) <| zA <| qR V <| qC V V V V V <| qA V V V <| qN <| zJ V (V) <| zA <| qR V <| qC V V V V V ?_
     refine qA V V V <| qN <| zJ V (V) <| zA <| qR V <| qC V V V V V <| qA V V V <| qN <| zX V (V) <| zA <| qR V <| qL V V V V ta24 V <| qL V V V V ta30 V ?_
     refine qX V V V V co35 (sibs_spec 8 k1 i1 [] (isRF (.mk k1 i1)) ih1 n m s c w (fits8 hfit) hv.2.2.1 hvs _) ?_
     refine qA V V V <| qN <| zG ?_
     exact zK (.inr V) zQ0 V (.of_eq (by rw [zZ1 8]; rw [hfit, hris, s40t]; simp only [Bool.true_and, isRL, List.headD_cons, List.tail_cons]; rfl)) (.bool _) Vv
theorem rValIs_spec (s : Sch) (x : Val) (hx : okV x) (S : MS) : MCalls Tryz.prog 5 [encS s, encV x] S fun v σ' => v = .bool (isF 16 s && isVF s x) ∧ σ' = S := by
 obtain ⟨k, ins⟩ := s
 obtain ⟨n, m, s, c, w⟩ := x
 refine zN Tryz.func5 V Tryz.ntmps5 (zB V) ?_
 refine zA <| qR V <| qB V V V V V <| qB V V V V V <| qA V V V <| qN <| zA <| qR V <| qL V V V V ta24 V ?_
 refine qX V V V V co16 (rIsSchema_spec (.mk k ins) _) ?_
 refine qM V V V ?_
 refine zB0 (fun h7 => ?_) (fun h7 => ?_)
 ·
  refine qL V V V V ta24 V <| qL V V V V ta30 V ?_
  refine qX V V V V co17 (isR_spec 16 (.mk k ins) h7 (.mk n m s c w) hx _) ?_
  refine qP V V V V <| qA V V V <| qN <| zG ?_
  exact zK (.inr V) Tryz.results5 V (.of_eq (by simp_all [isVF_eq 16 (.mk k ins)])) (.bool _) Vv
 ·
  refine qS V <| qS V <| qS V <| qP V V V V <| qA V V V <| qN <| zG ?_
  exact zK (.inr V) Tryz.results5 V (.of_eq (by simp_all [isVF_eq 16 (.mk k ins)])) (.bool _) Vv
end Go.Proofs.YtplclefbiimnbaaGreat
namespace Go.Proofs.YtplclefbiimnbaaGreat
open Go Go.MV Go.RowKit
theorem rowGoC_all {α γ : Type} {P : α → Prop} {I : γ → Prop} {f : RdS → γ → α × RdS × γ} (hf : ∀ r c, I c → P (f r c).1 ∧ I (f r c).2.2) : ∀ k acc r c, (∀ x ∈ acc, P x) → I c → (∀ x ∈ (rowGoC f k acc r c).1, P x) ∧ I (rowGoC f k acc r c).2.2
 | 0, acc, r, c, h, hc => ⟨h, hc⟩
 | k + 1, acc, r, c, h, hc => by
  rw [rowGoC]
  split
  ·exact ⟨fun x hx => (by cases hx), hc⟩
  ·obtain ⟨h1, h2⟩ := hf r c hc
   exact rowGoC_all hf k _ _ _ (fun x hx => by
    rcases zX1.1 hx with hx | hx
    ·exact h x hx
    ·rw [List.mem_singleton.1 hx]; exact h1) h2
theorem rowGo_all {α : Type} {P : α → Prop} {f : RdS → α × RdS} (hf : ∀ r, P (f r).1) : ∀ k acc r, (∀ x ∈ acc, P x) → ∀ x ∈ (rowGo f k acc r).1, P x
 | 0, acc, r, h => h
 | k + 1, acc, r, h => by
  rw [rowGo]
  split
  ·exact fun x hx => (by cases hx)
  ·exact rowGo_all hf k _ _ (fun x hx => by
    rcases zX1.1 hx with hx | hx
    ·exact h x hx
    ·rw [List.mem_singleton.1 hx]; exact hf r)
theorem numM_i (r : RdS) : 0 ≤ ((numM r).1 : Int) ∧ ((numM r).1 : Int) < 18446744073709551616 := by
 have := (zV2 r).2
 omega
theorem clockM_ok (r : RdS) : ∀ t ∈ (clockM r).1, okTk t := rowGo_all (fun r => numM_i (whoM r).2) _ _ _ (fun x hx => by cases hx)
theorem okV_mk {n m : Int} {s : List Bs} {c : List (List Tk)} {w : List Val} (h1 : 0 ≤ n ∧ n < 18446744073709551616) (h2 : 0 ≤ m ∧ m < 18446744073709551616) (h3 : ∀ x ∈ c, ∀ t ∈ x, okTk t) (h4 : ∀ x ∈ w, okV x) : okV (.mk n m s c w) := by
 rw [okV]
 exact ⟨h1, h2, h3, okVs_iff.2 h4⟩
theorem valueM_ok : ∀ (d : Nat) (s : Sch), isF d s = true → ∀ r, okV (valueM s r).1
 | 0, s, h, r => by simp [isF] at h
 | d + 1, .mk k ins, h, r => by
  simp only [isF, Bool.and_eq_true, beq_iff_eq, List.all_eq_true] at h
  have z : (0 : Int) ≤ 0 ∧ (0 : Int) < 18446744073709551616 := by decide
  have e : ∀ x ∈ ([] : List (List Tk)), ∀ t ∈ x, okTk t := fun x hx => by cases hx
  have e2 : ∀ x ∈ ([] : List Val), okV x := fun x hx => by cases hx
  rcases kinds h.1 with ⟨hk, rfl⟩ | ⟨rfl, rfl⟩ | ⟨rfl, rfl⟩ | ⟨rfl, rfl⟩ | ⟨s, rfl, rfl⟩ | ⟨s, rfl, rfl⟩ | ⟨s, t, rfl, rfl⟩
  ·rw [valueM, kindM, if_pos (by omega), flatM, if_neg (by omega)]
   exact okV_mk (numM_i r) z e e2
  ·rw [valueM, kindM, if_pos (by omega), flatM, if_pos rfl]
   exact okV_mk z z e e2
  ·rw [valueM, kindM, if_neg (by omega), if_neg (by omega), if_neg (by omega), if_pos rfl, lastM]
   split
   ·exact okV_mk z z e e2
   ·split
    ·exact okV_mk (numM_i _) (numM_i _) e e2
    ·exact okV_mk z z e e2
  ·rw [valueM, kindM, if_neg (by omega), if_neg (by omega), if_neg (by omega), if_neg (by omega), if_pos rfl, oneClockM]
   refine okV_mk z z (fun x hx => ?_) e2
   split at hx
   ·cases hx
   ·rw [List.mem_singleton.1 hx]
    exact clockM_ok r
  ·have ih := valueM_ok d s (h.2 s (by simp))
   rw [valueM, kindM, if_neg (by omega), if_pos rfl, valueMs, mapM]
   exact okV_mk z z e (rowGoC_all (P := okV) (I := fun _ => True) (f := entM (valueM s)) (fun r c _ => ⟨ih _, trivial⟩) _ _ _ _ e2 trivial).1
  ·have ih := valueM_ok d s (h.2 s (by simp))
   rw [valueM, kindM, if_neg (by omega), if_neg (by omega), if_neg (by omega), if_neg (by omega), if_neg (by omega), valueMs, sibsM]
   have := rowGoC_all (P := okV) (I := fun c => ∀ x ∈ c, ∀ t ∈ x, okTk t) (f := sibM (valueM s)) (fun r c hc => ⟨ih _, fun x hx => by
    rcases zX1.1 hx with hx | hx
    ·exact hc x hx
    ·rw [List.mem_singleton.1 hx]; exact clockM_ok r⟩) (numM r).1 [] (rowStart r) [] e2 e
   exact okV_mk z z this.2 this.1
  ·have ih := valueM_ok d s (h.2 s (by simp))
   have ih2 := valueM_ok d t (h.2 t (by simp))
   rw [valueM, kindM, if_neg (by omega), if_neg (by omega), if_pos rfl, valueMs, valueMs, pairM]
   exact okV_mk z z e (fun x hx => by
    simp only [List.mem_cons, List.not_mem_nil, or_false] at hx
    rcases hx with rfl | rfl
    ·exact ih _
    ·exact ih2 _)
theorem rIs_atB {s : Sch} {x : Val} {b : Bool} (h : (isF 16 s && isVF s x) = b) (hx : okV x) (S : MS) : MCalls Tryz.prog 5 [encS s, encV x] S fun v σ' => v = .bool b ∧ σ' = S := h ▸ rValIs_spec s x hx S
theorem rSame_tB (a : Val) (S : MS) : MCalls Tryz.prog 10 [encV a, encV a] S fun v σ' => v = .bool true ∧ σ' = S := by
 have := rSame_spec a a S
 rw [decide_eq_true rfl] at this
 exact this
theorem readS_ok (b rest : Bs) (s : Sch) (hm : schM 16 (b, none) = (s, (rest, none))) (hlen : b.length ≤ 8000000) (S : MS) : MCalls Tryz.prog 9 [.str (bs b)] S fun v σ' => v = .tup [encS s, .str (bs rest), .iface0] ∧ σ' = S := by
 obtain ⟨k, ins⟩ := s
 refine readS_of b rest k ins (fun id S h hl => ?_) hlen S
 have := schM_reads 16 (by decide) id (b, none) S h hl
 rw [hm] at this
 exact this
theorem val_ends {d : Nat} {s : Sch} (hs : isF d s = true) (b : Bs) : (∃ v l e, valueM s (b, none) = (v, (l, some e))) ∨ ∃ v l, valueM s (b, none) = (v, (l, none)) ∧ okV v := by
 have ho := valueM_ok d s hs (b, none)
 obtain ⟨v, l, e⟩ : ∃ v l e, valueM s (b, none) = (v, (l, e)) := ⟨_, _, _, rfl⟩
 obtain ⟨e, q⟩ := e
 cases e with
 | none => exact .inr ⟨v, l, q, by rw [q] at ho; exact ho⟩
 | some e => exact .inl ⟨v, l, e, q⟩
theorem eq_same {a b : Val} {x y : Bs} (h : x = y ↔ a = b) : (decide (x = y) != decide (a = b)) = false := by
 by_cases e : a = b
 ·rw [decide_eq_true e, decide_eq_true (h.2 e)]; rfl
 ·rw [decide_eq_false e, decide_eq_false (fun q => e (h.1 q))]; rfl
theorem strEqD {a b : Bs} : strCmp .eql a b = some (decide (a = b)) := by
 simp only [strCmp]
 congr 1
 rw [zC, beq_iff_eq, decide_eq_true_iff]
theorem tkne {a b : Bs} (h : a ≠ []) (n : Nat) : a.drop (n % a.length) ≠ [] := fun e => by
 have h1 := Nat.mod_lt n (List.length_pos_iff.2 h)
 have h2 := List.drop_eq_nil_iff.1 e
 omega
theorem readS_bad (b l : Bs) (k : Int) (ins : List Sch) (e : Int) (hR : ∀ (id : Nat) (S : MS), S[id]? = some (rdO (b, none)) → b.length ≤ 8000000 → MCalls Tryz.prog 25 [.ref id 0, .int .i64 16] S fun v σ' => v = encS (.mk k ins) ∧ σ' = S.set id (rdO (l, some e))) (hlen : b.length ≤ 8000000) (S : MS) : MCalls Tryz.prog 9 [.str (bs b)] S fun v σ' => v = .tup [encS (.mk 0 []), .str (bs b), (.iface 45 (.int .i64 e))] ∧ σ' = S := by
 refine zN Tryz.func9 V Tryz.ntmps9 (zB V) ?_
 refine zS0 fun _ hcl => ?_
 rw [List.append_nil] at hcl
 refine zA <| qR V <| qO V <| zH0 V zm24 V V <| qA V V V <| qA V V V <| qN <| zA <| qR V <| qM V V V <| qO V <| zA2 V zM3 zm62 (.cons zP3 sz9 V V (zB V) .nil) (by kernel_rfl) ?_
 refine qB V V V V V <| qA V V V <| qN <| zA <| qR V ?_
 have hst : (S ++ [MObj.cells [.int .i64 0, .lst0], rdO (b, none)]).set (S.length + 1) (rdO (l, some e)) = S ++ [MObj.cells [.int .i64 0, .lst0], rdO (l, some e)] := by rw [zY3]; rfl
 refine qM V V V ?_
 refine qX V V V V co25 ((hR (S.length + 1) (S ++ [MObj.cells [.int .i64 0, .lst0], rdO (b, none)]) (by rw [getElem?_own]; rfl) hlen)) ?_
 rw [hst]
 refine qO V <| zH0 V zm24 V V <| qO V <| zT0 V V V V sz24 V V (zB V) V <| qN <| zA <| zA <| qR V <| qM V V V <| qO V <| zE0 V V V <| qF V V V zH2 <| qL V V V V ta37 V <| qO V <| zY2 V zG0 V V (.inr Vv) <| qN <| zX V (V) <| zA ?_
 refine zV0 [6] [_, S ++ [.cells [.int .i64 0, .lst0], rdO (l, some e), .cells (encS (.mk k ins)).cells]] mo (by decide) V V V V ?_
 refine dO V V V (zA2 V zJ2 zm24 .nil (by kernel_rfl) Vv) ?_
 refine zV V V (.cons (zY V V Vv) (.cons (zY V V Vv) (.nil))) <| zV V V (.cons (zY V V Vv) (.cons (zY V V Vv) (.nil))) <| zV V V (.cons (zE0 V V V Vv) (.cons (zE0 V V V Vv) (.nil))) <| zV V V (.cons (zL V V zH2 Vv) (.cons (zL V V zH2 Vv) (.nil))) <| zV V V (.cons (zL0 V V V ta37 V Vv) (.cons (zL0 V V V ta37 V Vv) (.nil))) <| zG1 V V V V (zT0 V V V V sz24 V V (zB V) V Vv) <| dO V V V (zC1 V V Vv) <| dO V V V (zC1 V V Vv) <| zO0 <| zG ?_
 exact ret_ctt (y := encS (.mk 0 [])) (y2 := .str (bs b)) (y3 := (.iface 45 (.int .i64 e))) (.inr V) Tryz.results9 V V ta24 V (.agg (.cons (.refl _) (.cons (.nil 2) .nil))) (cl_encS _ _) V (.refl _) (.str _) V (.refl _) (.iface _ _ (.int _ _)) Vv
theorem readS_err (b : Bs) (e : Int) (hm : (schM 16 (b, none)).2.2 = some e) (hlen : b.length ≤ 8000000) (S : MS) : MCalls Tryz.prog 9 [.str (bs b)] S fun v σ' => v = .tup [encS (.mk 0 []), .str (bs b), (.iface 45 (.int .i64 e))] ∧ σ' = S := by
 obtain ⟨⟨k, ins⟩, l, hq⟩ : ∃ s l, schM 16 (b, none) = (s, (l, some e)) := ⟨(schM 16 (b, none)).1, (schM 16 (b, none)).2.1, Prod.ext rfl (Prod.ext rfl hm)⟩
 refine readS_bad b l k ins e (fun id S h hl => ?_) hlen S
 have := schM_reads 16 (by decide) id (b, none) S h hl
 rw [hq] at this
 exact this
theorem strEqT {a b : Bs} (h : b = a) : strCmp .eql a b = some true := by rw [strEqD, decide_eq_true h.symm]
theorem schB_ne (s : Sch) : schB s ≠ [] := by
 obtain ⟨k, ins⟩ := s
 rw [schB]
 intro e
 have h1 := numB_pos1 k.toNat
 have h2 := congrArg List.length e
 rw [zF, List.length_nil] at h2
 omega
theorem _root_.zN3 : type_of% @Tryz.underlying31 := @Tryz.underlying31
theorem CodeBack_spec (s : Sch) (a b : Val) (more : Bs) (cut : Nat) (ha : okV a) (hb : okV b) (hsz : szM (encV a) + szM (encV b) ≤ 1048576) (hc : cut < 65536) (S : MS) : MCalls Tryz.prog 3 [encS s, encV a, encV b, .str (bs more), .int .u16 (cut : Int)] S fun v σ' => v = .bool true ∧ σ' = S := by
 obtain ⟨k, ins⟩ := s
 obtain ⟨n1, m1, s1, c1, w1⟩ := a
 obtain ⟨n2, m2, s2, c2, w2⟩ := b
 refine zN Tryz.func3 V Tryz.ntmps3 (zB V) ?_
 refine zA <| qR V <| qB V V V V V <| qB V V V V V <| qB V V V V V <| qA V V V <| qN <| zA <| zA <| qR V ?_
 refine qX V V V V co4 (known9_spec _) ?_
 refine qO V <| zL1 V V <| qN <| zJ V (V) <| zQ <| zA <| zA ?_
 rcases hia : (isF 16 (.mk k ins) && isVF (.mk k ins) (.mk n1 m1 s1 c1 w1)) with _ | _
 rotate_left
 rcases hib : (isF 16 (.mk k ins) && isVF (.mk k ins) (.mk n2 m2 s2 c2 w2)) with _ | _
 rotate_left
 rcases hm : decide (100 < more.length) with _ | _
 ·
  have hF : isF 16 (.mk k ins) = true := (Bool.and_eq_true_iff.1 hia).1
  have hVa : isOk (.mk k ins) (.mk n1 m1 s1 c1 w1) := ⟨(Bool.and_eq_true_iff.1 hia).2, ha⟩
  have hVb : isOk (.mk k ins) (.mk n2 m2 s2 c2 w2) := ⟨(Bool.and_eq_true_iff.1 hib).2, hb⟩
  have hlm : more.length ≤ 100 := by simp at hm; omega
  obtain ⟨hx1, hx2⟩ := valB_len 16 _ hF _ hVa
  obtain ⟨hy1, hy2⟩ := valB_len 16 _ hF _ hVb
  have hcod := cod_value 16 _ hF
  have hinj := valB_inj hF hVa hVb
  have hzl := schB_len 16 _ hF
  have hsb := sch_back 16 _ more hF
  have hss := sch_short 16 (.mk k ins)
  have hrt := hcod.rt _ more hVa
  obtain ⟨X, hX⟩ : ∃ X, X = valB (.mk k ins) (.mk n1 m1 s1 c1 w1) := ⟨_, rfl⟩
  obtain ⟨Y, hY⟩ : ∃ Y, Y = valB (.mk k ins) (.mk n2 m2 s2 c2 w2) := ⟨_, rfl⟩
  obtain ⟨Z, hZ⟩ : ∃ Z, Z = schB (.mk k ins) := ⟨_, rfl⟩
  have hBx := bytes_of (.mk k ins) (.mk n1 m1 s1 c1 w1) hF hVa (by omega)
  have hBy := bytes_of (.mk k ins) (.mk n2 m2 s2 c2 w2) hF hVb (by omega)
  have hSz := schema_spec (.mk k ins) hF
  have hsh := fun p q => hcod.sh (.mk n1 m1 s1 c1 w1) p q hVa
  rw [← hX] at hx1 hx2 hinj hrt hBx hsh
  rw [← hY] at hy1 hy2 hinj hBy
  rw [← hZ] at hzl hsb hSz
  have hxne : X ≠ [] := fun e => by rw [e] at hx1; simp at hx1
  have hzne : Z ≠ [] := fun e => by
   have h8 := zL4 0 [] (by decide)
   have := schB_ne (.mk k ins)
   rw [← hZ, e] at this
   exact this rfl
  have hzp : 0 < Z.length := List.length_pos_iff.2 hzne
  have hz16 : Z.length < 65536 := hzl
  have hq1 := Nat.mod_lt cut hzp
  have hq2 := Nat.mod_lt cut (show 0 < X.length by omega)
  have hrd : ∀ S, MCalls Tryz.prog 8 [encS (.mk k ins), .str (bs (X ++ more))] S fun v σ' => v = .tup [encV (.mk n1 m1 s1 c1 w1), .str (bs more), .iface0] ∧ σ' = S := fun S => read_good k ins hF (fun id => value_reads 16 _ hF id) (X ++ more) more (by rw [zF]; omega) n1 m1 s1 c1 w1 hrt ha hia S
  have hrs : ∀ S, MCalls Tryz.prog 9 [.str (bs (Z ++ more))] S fun v σ' => v = .tup [encS (.mk k ins), .str (bs more), .iface0] ∧ σ' = S := fun S => readS_ok (Z ++ more) more (.mk k ins) hsb (by rw [zF]; omega) S
  have hrz : ∀ S, MCalls Tryz.prog 9 [.str (bs (Z.take (cut % Z.length)))] S fun v σ' => v = .tup [encS (.mk 0 []), .str (bs (Z.take (cut % Z.length))), (.iface 45 (.int .i64 11))] ∧ σ' = S := fun S => readS_err _ 11 (hss _ (Z.drop (cut % Z.length)) hF (by rw [List.take_append_drop]; exact hZ.symm) (tkne (b := []) hzne cut)) (by rw [List.length_take]; omega) S
  obtain ⟨⟨n4, m4, s4, c4, w4⟩, l4, hv4⟩ : ∃ v l, valueM (.mk k ins) (X.take (cut % X.length), none) = (v, (l, some 11)) := by
   have := hsh (X.take (cut % X.length)) (X.drop (cut % X.length)) (by rw [List.take_append_drop]) (tkne (b := []) hxne cut)
   exact ⟨_, _, Prod.ext rfl (Prod.ext rfl this)⟩
  have hrx : ∀ S, MCalls Tryz.prog 8 [encS (.mk k ins), .str (bs (X.take (cut % X.length)))] S fun v σ' => v = .tup [encV noV, .str (bs (X.take (cut % X.length))), (.iface 45 (.int .i64 11))] ∧ σ' = S := fun S => read_err k ins hF (fun id => value_reads 16 _ hF id) _ l4 (by rw [List.length_take]; omega) n4 m4 s4 c4 w4 11 hv4 S
  clear hzl
  refine qR V <| qL V V V V ta24 V <| qL V V V V ta30 V ?_
  refine qX V V V V co5 (rIs_atB hia ha _) ?_
  refine qO V <| zL1 V V <| qM V V V <| qL V V V V ta24 V <| qL V V V V ta30 V ?_
  refine qX V V V V co5 (rIs_atB hib hb _) ?_
  refine qO V <| zL1 V V <| qP V V V V <| qM V V V <| qM V V V <| qO V <| zD2 V zJ0 V <| qC V V V V (show intCmp .gtr ((more.length : Nat) : Int) 100 = some false by simp at hm; simp [intCmp]; omega) ?_
  refine qP V V V V <| qN <| zJ V (V) <| zQ <| zA ?_
  refine zV0 [] [_] mo (by decide) V V V V ?_
  refine dO V V V (zL0 V V V ta24 V Vv) <| dO V V V (zL0 V V V ta30 V Vv) <| zV V V (.cons (zX0 V V V co6 (hBx _)) .nil) <| dO V V V (zL0 V V V ta24 V Vv) <| dO V V V (zL0 V V V ta30 V Vv) <| zV V V (.cons (zX0 V V V co6 (hBy _)) .nil) <| dO V V V (zC1 V V Vv) <| dO V V V (zC1 V V Vv) <| zO0 <| zA <| qR V <| qL V V V V ta24 V ?_
  refine qX V V V V co7 (hSz _) ?_
  refine qA V V V <| qN <| zA <| qR V <| qL V V V V ta24 V <| qM V V V <| qM V V V <| qO V <| zD5 V V V (by omega) ?_
  refine qX V V V V co8 (hrd _) ?_
  refine qM V V V <| qO V <| zN0 V V V <| qO V <| zN0 V V V <| qO V <| zN0 V V V <| qO V <| zH0 V zm30 V V <| qO V <| zT0 V V V V sz30 V V (zB V) V <| qA V V V <| qA V V V <| qN <| zA <| qR V <| qM V V V <| qM V V V <| qO V <| zD5 V V V (by omega) ?_
  refine qX V V V V co9 (hrs _) ?_
  refine qM V V V <| qO V <| zN0 V V V <| qO V <| zN0 V V V <| qO V <| zN0 V V V <| qO V <| zH0 V zm24 V V <| qO V <| zT0 V V V V sz24 V V (zB V) V <| qA V V V <| qA V V V <| qN <| zA <| zA <| qR V <| qM V V V <| qO V <| zC4 V zG0 V V (.inr Vv) <| qM V V V <| qM V V V <| qO V <| zC4 V zG0 V V (.inr Vv) ?_
  refine qP V V V V <| qM V V V <| qM V V V <| qM V V V <| qO V <| zZ2 V V V (strNe' V) <| qP V V V V <| qM V V V <| qM V V V <| qM V V V <| qO V <| zZ2 V V V (strNe' V) <| qP V V V V <| qM V V V <| qL V V V V ta30 V <| qL V V V V ta30 V ?_
  refine qX V V V V co10 (rSame_tB (.mk n1 m1 s1 c1 w1) _) ?_
  refine qO V <| zL1 V V <| qP V V V V <| qM V V V <| qL V V V V ta24 V <| qL V V V V ta24 V ?_
  refine qX V V V V co11 (same_self 16 (.mk k ins) hF _) ?_
  refine qO V <| zL1 V V <| qP V V V V <| qM V V V <| qM V V V <| qM V V V <| qO V <| zZ2 V V V (strEqD) <| qL V V V V ta30 V <| qL V V V V ta30 V ?_
  refine qX V V V V co10 (rSame_spec (.mk n1 m1 s1 c1 w1) (.mk n2 m2 s2 c2 w2) _) ?_
  refine qO V <| op_viewTo (y := .bool false) (op_boolne V Tryz.underlying4 V V Vv) (.of_eq (congrArg MV.bool (eq_same hinj))) <| qP V V V V <| qM V V V <| qM V V V <| qO V <| zD2 V zJ0 V <| qC V V V V (show intCmp .eql ((X.length : Nat) : Int) 0 = some false by simp [intCmp]; exact hxne) ?_
  refine qM V V V <| qS V <| qS V <| qS V <| qP V V V V <| qP V V V V <| qM V V V <| qM V V V <| qO V <| zD2 V zJ0 V <| qC V V V V (show intCmp .eql ((Z.length : Nat) : Int) 0 = some false by simp [intCmp]; exact hzne) ?_
  refine qP V V V V <| qN <| zJ V (V) <| zQ <| zA <| qR V <| qM V V V <| qM V V V <| qO V <| zR1 V zN3 zZ0 V (zF3 (by omega)) ?_
  refine qM V V V <| qO V <| zD2 V zJ0 V <| qO V <| op_rem V V V (by omega) (nat_tmod cut Z.length) ?_
  refine qO V <| zR2 V zJ0 V .none (.some V V) (by omega) (by omega) ?_
  rw [List.drop_zero, Nat.sub_zero]
  refine qX V V V V co9 (hrz _) ?_
  refine qM V V V <| qO V <| zN0 V V V <| qO V <| zN0 V V V <| qO V <| zN0 V V V <| qO V <| zH0 V zm24 V V <| qO V <| zT0 V V V V sz24 V V (zB V) V <| qA V V V <| qA V V V <| qN <| zA ?_
  rcases val_ends hF more with ⟨⟨n3, m3, s3, c3, w3⟩, l3, e3, hv3⟩ | ⟨⟨n3, m3, s3, c3, w3⟩, l3, hv3, ho3⟩
  rotate_left
  rcases hfit3 : (isF 16 (.mk k ins) && isVF (.mk k ins) (.mk n3 m3 s3 c3 w3)) with _ | _
  ·
   refine qR V <| qL V V V V ta24 V <| qM V V V ?_
   refine qX V V V V co8 (read_bad k ins hF (fun id => value_reads 16 _ hF id) more l3 (by omega) n3 m3 s3 c3 w3 hv3 ho3 hfit3 _) ?_
   refine qM V V V <| qO V <| zN0 V V V <| qO V <| zN0 V V V <| qO V <| zN0 V V V <| qO V <| zH0 V zm30 V V <| qO V <| zT0 V V V V sz30 V V (zB V) V <| qA V V V <| qA V V V <| qN <| zA <| zA <| qR V <| qM V V V <| qO V <| zD2 V zJ0 V <| qC V V V V V <| qN <| zX V (decide_eq_true (by omega)) ?_
   refine zA ?_
   refine zV0 [13, 14] [_, S ++ [.cells (encS (.mk k ins)).cells, .cells (encV (.mk n1 m1 s1 c1 w1)).cells, .cells (encV (.mk n2 m2 s2 c2 w2)).cells, .cells (encV (.mk n1 m1 s1 c1 w1)).cells, .cells (encS (.mk k ins)).cells, .cells (encS (.mk 0 [])).cells, .cells (encV noV).cells, .cells [.int .u64 0, .int .u64 0, .lst0, .lst0, .lst0]], S ++ [.cells (encS (.mk k ins)).cells, .cells (encV (.mk n1 m1 s1 c1 w1)).cells, .cells (encV (.mk n2 m2 s2 c2 w2)).cells, .cells (encV (.mk n1 m1 s1 c1 w1)).cells, .cells (encS (.mk k ins)).cells, .cells (encS (.mk 0 [])).cells, .cells (encV noV).cells, .cells (encV noV).cells]] mo (by decide) V V V V ?_
   refine zV V V (.cons (zL0 V V V ta24 V Vv) (.cons (zL0 V V V ta24 V Vv) (.nil))) <| zV V V (.cons (zY V V Vv) (.cons (zY V V Vv) (.nil))) <| zV V V (.cons (zY V V Vv) (.cons (zY V V Vv) (.nil))) <| zV V V (.cons (zR1 V zN3 zZ0 V (zF3 (by omega)) Vv) (.cons (zR1 V zN3 zZ0 V (zF3 (by omega)) Vv) (.nil))) ?_
   refine zV V V (.cons (zY V V Vv) (.cons (zY V V Vv) (.nil))) <| zV V V (.cons (zD2 V zJ0 V Vv) (.cons (zD2 V zJ0 V Vv) (.nil))) <| zV V V (.cons (op_rem V V V (by omega) (nat_tmod cut X.length) Vv) (.cons (op_rem V V V (by omega) (nat_tmod cut X.length) Vv) (.nil))) ?_
   refine zV V V (.cons (zR2 V zJ0 V .none (.some V V) (by omega) (by omega) Vv) (.cons (zR2 V zJ0 V .none (.some V V) (by omega) (by omega) Vv) (.nil))) ?_
   rw [List.drop_zero, Nat.sub_zero]
   refine zV V V (.cons (zX0 V V V co8 (hrx _)) (.cons (zX0 V V V co8 (hrx _)) (.nil))) <| zV V V (.cons (zY V V Vv) (.cons (zY V V Vv) (.nil))) <| zV V V (.cons (zN0 V V V Vv) (.cons (zN0 V V V Vv) (.nil))) <| zV V V (.cons (zN0 V V V Vv) (.cons (zN0 V V V Vv) (.cons (zN0 V V V Vv) (.nil)))) <| zV V V (.cons (zN0 V V V Vv) (.cons (zN0 V V V Vv) (.cons (zN0 V V V Vv) (.nil)))) <| zG1 V V V V (zH0 V zm30 V V Vv) <| zG1 V V V V (zT0 V V V V sz30 V V (zB V) V Vv) <| dO V V V (zC1 V V Vv) <| dO V V V (zC1 V V Vv) <| zO0 <| zA <| qR V <| qM V V V <| qO V <| zM2 V V zI2 (by simp) ?_
   refine qX V V V V co12 (zY4 11 _) ?_
   refine qO V <| zL1 V V <| qN <| zJ V (V) <| zQ <| zA <| qR V <| qM V V V <| qO V <| zM2 V V zI2 (by simp) ?_
   refine qX V V V V co12 (zY4 11 _) ?_
   refine qM V V V <| qM V V V <| qO V <| zY2 V zG0 V V (.inr Vv) <| qM V V V <| qT V V V V <| qS V <| qS V <| qS V <| qP V V V V <| qP V V V V <| qA V V V <| qN <| zG ?_
   exact zK (.inr V) Tryz.results3 V (.of_eq (V)) (.bool _) Vv
  ·
   have hok3 : isOk (.mk k ins) (.mk n3 m3 s3 c3 w3) := ⟨(Bool.and_eq_true_iff.1 hfit3).2, ho3⟩
   have hm3 := hcod.un more _ l3 hv3 hok3.1
   have hl3 := congrArg List.length hm3
   rw [zF] at hl3
   have hB3 := bytes_spec (.mk k ins) (.mk n3 m3 s3 c3 w3) _ ho3 hfit3 (fun e => by have := (valB_len 16 _ hF _ hok3).1; rw [e] at this; simp at this) (by omega) (fun id t => zB5 16 _ hF _ hok3 id t)
   refine qR V <| qL V V V V ta24 V <| qM V V V ?_
   refine qX V V V V co8 (read_good k ins hF (fun id => value_reads 16 _ hF id) more l3 (by omega) n3 m3 s3 c3 w3 hv3 ho3 hfit3 _) ?_
   refine qM V V V <| qO V <| zN0 V V V <| qO V <| zN0 V V V <| qO V <| zN0 V V V <| qO V <| zH0 V zm30 V V <| qO V <| zT0 V V V V sz30 V V (zB V) V <| qA V V V <| qA V V V <| qN <| zA <| zA <| qR V <| qM V V V <| qO V <| zD2 V zJ0 V <| qC V V V V V <| qN <| zX V (decide_eq_true (by omega)) ?_
   refine zA ?_
   refine zV0 [13, 14] [_, S ++ [.cells (encS (.mk k ins)).cells, .cells (encV (.mk n1 m1 s1 c1 w1)).cells, .cells (encV (.mk n2 m2 s2 c2 w2)).cells, .cells (encV (.mk n1 m1 s1 c1 w1)).cells, .cells (encS (.mk k ins)).cells, .cells (encS (.mk 0 [])).cells, .cells (encV (.mk n3 m3 s3 c3 w3)).cells, .cells [.int .u64 0, .int .u64 0, .lst0, .lst0, .lst0]], S ++ [.cells (encS (.mk k ins)).cells, .cells (encV (.mk n1 m1 s1 c1 w1)).cells, .cells (encV (.mk n2 m2 s2 c2 w2)).cells, .cells (encV (.mk n1 m1 s1 c1 w1)).cells, .cells (encS (.mk k ins)).cells, .cells (encS (.mk 0 [])).cells, .cells (encV (.mk n3 m3 s3 c3 w3)).cells, .cells (encV noV).cells]] mo (by decide) V V V V ?_
   refine zV V V (.cons (zL0 V V V ta24 V Vv) (.cons (zL0 V V V ta24 V Vv) (.nil))) <| zV V V (.cons (zY V V Vv) (.cons (zY V V Vv) (.nil))) <| zV V V (.cons (zY V V Vv) (.cons (zY V V Vv) (.nil))) <| zV V V (.cons (zR1 V zN3 zZ0 V (zF3 (by omega)) Vv) (.cons (zR1 V zN3 zZ0 V (zF3 (by omega)) Vv) (.nil))) ?_
   refine zV V V (.cons (zY V V Vv) (.cons (zY V V Vv) (.nil))) <| zV V V (.cons (zD2 V zJ0 V Vv) (.cons (zD2 V zJ0 V Vv) (.nil))) <| zV V V (.cons (op_rem V V V (by omega) (nat_tmod cut X.length) Vv) (.cons (op_rem V V V (by omega) (nat_tmod cut X.length) Vv) (.nil))) ?_
   refine zV V V (.cons (zR2 V zJ0 V .none (.some V V) (by omega) (by omega) Vv) (.cons (zR2 V zJ0 V .none (.some V V) (by omega) (by omega) Vv) (.nil))) ?_
   rw [List.drop_zero, Nat.sub_zero]
   refine zV V V (.cons (zX0 V V V co8 (hrx _)) (.cons (zX0 V V V co8 (hrx _)) (.nil))) <| zV V V (.cons (zY V V Vv) (.cons (zY V V Vv) (.nil))) <| zV V V (.cons (zN0 V V V Vv) (.cons (zN0 V V V Vv) (.nil))) <| zV V V (.cons (zN0 V V V Vv) (.cons (zN0 V V V Vv) (.cons (zN0 V V V Vv) (.nil)))) <| zV V V (.cons (zN0 V V V Vv) (.cons (zN0 V V V Vv) (.cons (zN0 V V V Vv) (.nil)))) <| zG1 V V V V (zH0 V zm30 V V Vv) <| zG1 V V V V (zT0 V V V V sz30 V V (zB V) V Vv) <| dO V V V (zC1 V V Vv) <| dO V V V (zC1 V V Vv) <| zO0 <| zA <| qR V <| qM V V V <| qO V <| zM2 V V zI2 (by simp) ?_
   refine qX V V V V co12 (zY4 11 _) ?_
   refine qO V <| zL1 V V <| qN <| zJ V (V) <| zQ <| zA <| qR V <| qM V V V <| qO V <| zM2 V V zI2 (by simp) ?_
   refine qX V V V V co12 (zY4 11 _) ?_
   refine qM V V V <| qM V V V <| qO V <| zC4 V zG0 V V (.inr Vv) <| qM V V V <| qL V V V V ta24 V <| qL V V V V ta30 V ?_
   refine qX V V V V co6 (hB3 _) ?_
   refine qM V V V <| qO V <| zD5 V V V (by omega) ?_
   refine qM V V V <| qO V <| zZ2 V V V (strEqT hm3) <| qP V V V V <| qP V V V V <| qA V V V <| qN <| zG ?_
   exact zK (.inr V) Tryz.results3 V (.of_eq (V)) (.bool _) Vv
  ·
   refine qR V <| qL V V V V ta24 V <| qM V V V ?_
   refine qX V V V V co8 (read_err k ins hF (fun id => value_reads 16 _ hF id) more l3 (by omega) n3 m3 s3 c3 w3 e3 hv3 _) ?_
   refine qM V V V <| qO V <| zN0 V V V <| qO V <| zN0 V V V <| qO V <| zN0 V V V <| qO V <| zH0 V zm30 V V <| qO V <| zT0 V V V V sz30 V V (zB V) V <| qA V V V <| qA V V V <| qN <| zA <| zA <| qR V <| qM V V V <| qO V <| zD2 V zJ0 V <| qC V V V V V <| qN <| zX V (decide_eq_true (by omega)) ?_
   refine zA ?_
   refine zV0 [13, 14] [_, S ++ [.cells (encS (.mk k ins)).cells, .cells (encV (.mk n1 m1 s1 c1 w1)).cells, .cells (encV (.mk n2 m2 s2 c2 w2)).cells, .cells (encV (.mk n1 m1 s1 c1 w1)).cells, .cells (encS (.mk k ins)).cells, .cells (encS (.mk 0 [])).cells, .cells (encV noV).cells, .cells [.int .u64 0, .int .u64 0, .lst0, .lst0, .lst0]], S ++ [.cells (encS (.mk k ins)).cells, .cells (encV (.mk n1 m1 s1 c1 w1)).cells, .cells (encV (.mk n2 m2 s2 c2 w2)).cells, .cells (encV (.mk n1 m1 s1 c1 w1)).cells, .cells (encS (.mk k ins)).cells, .cells (encS (.mk 0 [])).cells, .cells (encV noV).cells, .cells (encV noV).cells]] mo (by decide) V V V V ?_
   refine zV V V (.cons (zL0 V V V ta24 V Vv) (.cons (zL0 V V V ta24 V Vv) (.nil))) <| zV V V (.cons (zY V V Vv) (.cons (zY V V Vv) (.nil))) <| zV V V (.cons (zY V V Vv) (.cons (zY V V Vv) (.nil))) <| zV V V (.cons (zR1 V zN3 zZ0 V (zF3 (by omega)) Vv) (.cons (zR1 V zN3 zZ0 V (zF3 (by omega)) Vv) (.nil))) ?_
   refine zV V V (.cons (zY V V Vv) (.cons (zY V V Vv) (.nil))) <| zV V V (.cons (zD2 V zJ0 V Vv) (.cons (zD2 V zJ0 V Vv) (.nil))) <| zV V V (.cons (op_rem V V V (by omega) (nat_tmod cut X.length) Vv) (.cons (op_rem V V V (by omega) (nat_tmod cut X.length) Vv) (.nil))) ?_
   refine zV V V (.cons (zR2 V zJ0 V .none (.some V V) (by omega) (by omega) Vv) (.cons (zR2 V zJ0 V .none (.some V V) (by omega) (by omega) Vv) (.nil))) ?_
   rw [List.drop_zero, Nat.sub_zero]
   refine zV V V (.cons (zX0 V V V co8 (hrx _)) (.cons (zX0 V V V co8 (hrx _)) (.nil))) <| zV V V (.cons (zY V V Vv) (.cons (zY V V Vv) (.nil))) <| zV V V (.cons (zN0 V V V Vv) (.cons (zN0 V V V Vv) (.nil))) <| zV V V (.cons (zN0 V V V Vv) (.cons (zN0 V V V Vv) (.cons (zN0 V V V Vv) (.nil)))) <| zV V V (.cons (zN0 V V V Vv) (.cons (zN0 V V V Vv) (.cons (zN0 V V V Vv) (.nil)))) <| zG1 V V V V (zH0 V zm30 V V Vv) <| zG1 V V V V (zT0 V V V V sz30 V V (zB V) V Vv) <| dO V V V (zC1 V V Vv) <| dO V V V (zC1 V V Vv) <| zO0 <| zA <| qR V <| qM V V V <| qO V <| zM2 V V zI2 (by simp) ?_
   refine qX V V V V co12 (zY4 11 _) ?_
   refine qO V <| zL1 V V <| qN <| zJ V (V) <| zQ <| zA <| qR V <| qM V V V <| qO V <| zM2 V V zI2 (by simp) ?_
   refine qX V V V V co12 (zY4 11 _) ?_
   refine qM V V V <| qM V V V <| qO V <| zY2 V zG0 V V (.inr Vv) <| qM V V V <| qT V V V V <| qS V <| qS V <| qS V <| qP V V V V <| qP V V V V <| qA V V V <| qN <| zG ?_
   exact zK (.inr V) Tryz.results3 V (.of_eq (V)) (.bool _) Vv
 ·
  refine qR V <| qL V V V V ta24 V <| qL V V V V ta30 V ?_
  refine qX V V V V co5 (rIs_atB hia ha _) ?_
  refine qO V <| zL1 V V <| qM V V V <| qL V V V V ta24 V <| qL V V V V ta30 V ?_
  refine qX V V V V co5 (rIs_atB hib hb _) ?_
  refine qO V <| zL1 V V <| qP V V V V <| qM V V V <| qM V V V <| qO V <| zD2 V zJ0 V <| qC V V V V (show intCmp .gtr ((more.length : Nat) : Int) 100 = some true by simp at hm; simp [intCmp]; omega) ?_
  refine qP V V V V <| qN <| zX V (V) <| zA <| qR V <| qA V V V <| qN <| zG ?_
  exact zK (.inr V) Tryz.results3 V (.of_eq (V)) (.bool _) Vv
 ·
  refine qR V <| qL V V V V ta24 V <| qL V V V V ta30 V ?_
  refine qX V V V V co5 (rIs_atB hia ha _) ?_
  refine qO V <| zL1 V V <| qM V V V <| qT V V V V <| qP V V V V <| qM V V V <| qS V <| qS V <| qS V <| qP V V V V <| qN <| zX V (V) <| zA <| qR V <| qA V V V <| qN <| zG ?_
  exact zK (.inr V) Tryz.results3 V (.of_eq (V)) (.bool _) Vv
 ·
  refine qR V <| qL V V V V ta24 V <| qL V V V V ta30 V ?_
  refine qX V V V V co5 (rIs_atB hia ha _) ?_
  refine qO V <| zL1 V V <| qM V V V <| qL V V V V ta24 V <| qL V V V V ta30 V ?_
  refine qX V V V V co5 (rIs_atB hib hb _) ?_
  refine qO V <| zL1 V V <| qP V V V V <| qM V V V <| qS V <| qS V <| qS V <| qP V V V V <| qN <| zX V (V) <| zA <| qR V <| qA V V V <| qN <| zG ?_
  exact zK (.inr V) Tryz.results3 V (.of_eq (V)) (.bool _) Vv
end Go.Proofs.YtplclefbiimnbaaGreat
