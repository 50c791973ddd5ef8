/-
  Texts on which the proof of OrderTells leans: part 5.
-/
import Derived.Test.YtnfcnpdpfgcchaaGreatDoorOrderTellsD
import Derived.Laws.MakeOwn
import Derived.Laws.IdiomStrings
set_option linter.unusedVariables false
set_option linter.unusedSimpArgs false
set_option maxRecDepth 20000
set_option maxHeartbeats 8000000
namespace Go.Proofs.YtnfcnpdpfgcchaaGreatDoor
open Go Go.MV
theorem max_if (a b : Int) : (if b > a then b else a) = max a b := by split <;> omega
theorem isV3 {ins : List Sch} {n m : Int} {s : List Bs} {c : List (List Tk)} {w : List Val} (h : isVF (.mk 3 ins) (.mk n m s c w) = true) : s.length ≤ 40 := by
 rw [zO1 3] at h; simp [isRowF] at h; omega
theorem isV4 {t : Sch} {n m : Int} {s : List Bs} {c : List (List Tk)} {w : List Val} (h : isVF (.mk 4 [t]) (.mk n m s c w) = true) : s.length ≤ 40 ∧ s.length = w.length ∧ ∀ x ∈ w, isVF t x = true := by
 rw [zO1 4] at h
 simp only [Int.reduceEq, if_false, if_true, isVL, List.headD_cons, Bool.and_eq_true, decide_eq_true_eq, List.all_eq_true, isRowF] at h
 exact ⟨h.2.1.1.1.1, h.2.1.2, fun x hx => (h.2.2 x hx).1⟩
theorem isV5 {t u : Sch} {n m : Int} {s : List Bs} {c : List (List Tk)} {w : List Val} (h : isVF (.mk 5 [t, u]) (.mk n m s c w) = true) : ∃ x y, w = [x, y] ∧ isVF t x = true ∧ isVF u y = true := by
 rw [zO1 5] at h
 match w, h with
 | [], h => simp at h
 | [_], h => simp at h
 | [x, y], h => exact ⟨x, y, rfl, by simp [isVL] at h; exact h.2⟩
 | _ :: _ :: _ :: _, h => simp at h
theorem isV7 {ins : List Sch} {n m : Int} {s : List Bs} {c : List (List Tk)} {w : List Val} (h : isVF (.mk 7 ins) (.mk n m s c w) = true) : ∀ x ∈ c, x.length ≤ 40 := by
 rw [zO1 7] at h
 match c, h with
 | [], _ => simp
 | [x], h => simp [isClockF] at h; simp; omega
 | _ :: _ :: _, h => simp at h
theorem isV8 {t : Sch} {n m : Int} {s : List Bs} {c : List (List Tk)} {w : List Val} (h : isVF (.mk 8 [t]) (.mk n m s c w) = true) : c.length ≤ 40 ∧ c.length = w.length ∧ (∀ x ∈ c, x.length ≤ 40) ∧ ∀ x ∈ w, isVF t x = true := by
 rw [zO1 8] at h
 simp only [Int.reduceEq, if_false, isVL, List.headD_cons, Bool.and_eq_true, decide_eq_true_eq, List.all_eq_true, isCauseF, isClockF] at h
 refine ⟨h.1.2, h.2.1.1, fun x hx => ?_, fun x hx => h.2.2 x hx⟩
 have := h.2.1.2.1 x hx
 omega
theorem _root_.zM3 : type_of% @Tryz.ntmps31 := @Tryz.ntmps31
theorem _root_.zU1 : type_of% @Tryz.underlying62 := @Tryz.underlying62
theorem _root_.zD2 : type_of% @Tryz.results31 := @Tryz.results31
theorem both_spec (d : Nat) : ∀ (t : Sch), isF d t = true → ∀ (a b : Val), isVF t a = true → isVF t b = true → ∀ S : MS, MCalls Tryz.prog 31 [encS t, encV a, encV b] S fun v σ' => v = encO (bothF t a b) ∧ σ' = S := by
 induction d with
 | zero => intro s h; simp [isF] at h
 | succ d ih =>
 rintro ⟨k, ins⟩ hd ⟨n1, m1, s1, c1, w1⟩ ⟨n2, m2, s2, c2, w2⟩ ha hb S
 rw [isF] at hd
 simp only [Bool.and_eq_true, List.all_eq_true, beq_iff_eq] at hd
 rcases k8_of hd.1 with rfl | rfl | rfl | rfl | rfl | rfl | rfl | rfl
 ·
  have hB : bothB 1 (bothL ins) (.mk n1 m1 s1 c1 w1) (.mk n2 m2 s2 c2 w2) = some (.mk (max n1 n2) 0 [] [] []) := rfl
  refine zU zO3 rfl zM3 (zA rfl) ?_
  refine zB <| qR rfl <| qB rfl rfl rfl rfl rfl <| qB rfl rfl rfl rfl rfl <| qB rfl rfl rfl rfl rfl <| qO rfl <| zN0 rfl zm30 rfl rfl <| qA rfl rfl rfl <| qN <| zB <| zB <| qR rfl <| qF rfl rfl rfl zG2 <| qL rfl rfl rfl rfl ta3 rfl <| qN <| zB0 <| zB <| zB <| qR rfl <| qC rfl rfl rfl rfl rfl <| qA rfl rfl rfl <| qN ?_
  refine zW rfl (rfl) <| zA0 <| zW rfl (rfl) <| qR rfl <| qF rfl rfl rfl zB3 <| qL rfl rfl rfl rfl ta25 rfl <| qF rfl rfl rfl zB3 <| qL rfl rfl rfl rfl ta25 rfl <| qO rfl <| op_max2' rfl rfl rfl (max_if n1 n2) <| qF rfl rfl rfl zB3 <| qO rfl <| zH0 rfl rfl rfl rfl sz25 rfl rfl (zA rfl) rfl <| qN <| zB <| zB <| qR rfl <| qM rfl rfl rfl <| qO rfl <| zS3 rfl zI0 rfl rfl (.inl ⟨rfl, rfl⟩) <| qM rfl rfl rfl <| qO rfl <| zV2 (y := encV (.mk (max n1 n2) 0 [] [] [])) (zD0 rfl rfl rfl ta30 rfl ⟨rfl, rfl⟩) (.agg (.cons (.refl _) (.cons (.refl _) (.cons (.nil 1) (.cons (.nil 1) (.cons (.nil 5) .nil)))))) ?_
  refine qX rfl rfl rfl rfl co56 (zU4 (max n1 n2) 0 [] [] [] _) ?_
  refine qP rfl rfl rfl rfl <| qN ?_
  refine zJ rfl (fun h69 => ?_) (fun h69 => ?_)
  ·
   refine qR rfl <| qO rfl <| zA2 rfl rfl zU1 (by simp) ?_
   refine qA rfl rfl rfl <| qN <| zB <| zB <| qR rfl <| qM rfl rfl rfl <| qO rfl <| zY2 rfl zI0 rfl rfl (.inr ⟨rfl, rfl⟩) <| qN <| zW rfl (rfl) <| zB <| qR rfl <| qO rfl <| zW1 rfl zS0 zm30 .nil (by kernel_rfl) ?_
   refine qM rfl rfl rfl <| qO rfl <| zH0 rfl rfl rfl rfl sz30 rfl rfl (zA rfl) rfl <| qA rfl rfl rfl <| qN <| zK ?_
   exact zZ0 (.inr rfl) zD2 rfl rfl ta30 rfl (.agg (.cons (.refl _) (.cons (.refl _) (.cons (.nil 1) (.cons (.nil 1) (.cons (.nil 5) .nil)))))) (zJ1 _ (noV)) rfl (.refl _) (.iface _ _ (.int _ _)) ⟨by rw [zK2, hB, cap_t h69]; rfl, rfl⟩
  ·
   refine zA0 <| zB <| zB <| qR rfl <| qM rfl rfl rfl <| qO rfl <| zS3 rfl zI0 rfl rfl (.inr ⟨rfl, rfl⟩) <| qN <| zL rfl (rfl) <| zA0 <| zB <| qR rfl <| qO rfl <| zV2 (y := encV (.mk (max n1 n2) 0 [] [] [])) (zD0 rfl rfl rfl ta30 rfl ⟨rfl, rfl⟩) (.agg (.cons (.refl _) (.cons (.refl _) (.cons (.nil 1) (.cons (.nil 1) (.cons (.nil 5) .nil)))))) <| qO rfl <| zH0 rfl rfl rfl rfl sz30 rfl rfl (zA rfl) rfl <| qA rfl rfl rfl <| qN <| zK ?_
   exact zZ0 (.inr rfl) zD2 rfl rfl ta30 rfl (.refl _) (zJ1 _ (.mk (max n1 n2) 0 [] [] [])) rfl (.refl _) (.iface0) ⟨by rw [zK2, hB, cap_f h69]; rfl, rfl⟩
 ·
  have hB : bothB 2 (bothL ins) (.mk n1 m1 s1 c1 w1) (.mk n2 m2 s2 c2 w2) = some (.mk (max n1 n2) 0 [] [] []) := rfl
  refine zU zO3 rfl zM3 (zA rfl) ?_
  refine zB <| qR rfl <| qB rfl rfl rfl rfl rfl <| qB rfl rfl rfl rfl rfl <| qB rfl rfl rfl rfl rfl <| qO rfl <| zN0 rfl zm30 rfl rfl <| qA rfl rfl rfl <| qN <| zB <| zB <| qR rfl <| qF rfl rfl rfl zG2 <| qL rfl rfl rfl rfl ta3 rfl <| qN <| zB0 <| zB <| zB <| qR rfl <| qC rfl rfl rfl rfl rfl <| qA rfl rfl rfl <| qN ?_
  refine zL rfl (rfl) <| qR rfl <| qC rfl rfl rfl rfl rfl <| qA rfl rfl rfl <| qN <| zW rfl (rfl) <| qR rfl <| qF rfl rfl rfl zB3 <| qL rfl rfl rfl rfl ta25 rfl <| qF rfl rfl rfl zB3 <| qL rfl rfl rfl rfl ta25 rfl <| qO rfl <| op_max2' rfl rfl rfl (max_if n1 n2) <| qF rfl rfl rfl zB3 <| qO rfl <| zH0 rfl rfl rfl rfl sz25 rfl rfl (zA rfl) rfl <| qN <| zB <| zB <| qR rfl <| qM rfl rfl rfl <| qO rfl <| zS3 rfl zI0 rfl rfl (.inl ⟨rfl, rfl⟩) ?_
  refine qM rfl rfl rfl <| qO rfl <| zV2 (y := encV (.mk (max n1 n2) 0 [] [] [])) (zD0 rfl rfl rfl ta30 rfl ⟨rfl, rfl⟩) (.agg (.cons (.refl _) (.cons (.refl _) (.cons (.nil 1) (.cons (.nil 1) (.cons (.nil 5) .nil)))))) ?_
  refine qX rfl rfl rfl rfl co56 (zU4 (max n1 n2) 0 [] [] [] _) ?_
  refine qP rfl rfl rfl rfl <| qN ?_
  refine zJ rfl (fun h69 => ?_) (fun h69 => ?_)
  ·
   refine qR rfl <| qO rfl <| zA2 rfl rfl zU1 (by simp) ?_
   refine qA rfl rfl rfl <| qN <| zB <| zB <| qR rfl <| qM rfl rfl rfl <| qO rfl <| zY2 rfl zI0 rfl rfl (.inr ⟨rfl, rfl⟩) <| qN <| zW rfl (rfl) <| zB <| qR rfl <| qO rfl <| zW1 rfl zS0 zm30 .nil (by kernel_rfl) ?_
   refine qM rfl rfl rfl <| qO rfl <| zH0 rfl rfl rfl rfl sz30 rfl rfl (zA rfl) rfl <| qA rfl rfl rfl <| qN <| zK ?_
   exact zZ0 (.inr rfl) zD2 rfl rfl ta30 rfl (.agg (.cons (.refl _) (.cons (.refl _) (.cons (.nil 1) (.cons (.nil 1) (.cons (.nil 5) .nil)))))) (zJ1 _ (noV)) rfl (.refl _) (.iface _ _ (.int _ _)) ⟨by rw [zK2, hB, cap_t h69]; rfl, rfl⟩
  ·
   refine zA0 <| zB <| zB <| qR rfl <| qM rfl rfl rfl <| qO rfl <| zS3 rfl zI0 rfl rfl (.inr ⟨rfl, rfl⟩) <| qN <| zL rfl (rfl) <| zA0 <| zB <| qR rfl <| qO rfl <| zV2 (y := encV (.mk (max n1 n2) 0 [] [] [])) (zD0 rfl rfl rfl ta30 rfl ⟨rfl, rfl⟩) (.agg (.cons (.refl _) (.cons (.refl _) (.cons (.nil 1) (.cons (.nil 1) (.cons (.nil 5) .nil)))))) <| qO rfl <| zH0 rfl rfl rfl rfl sz30 rfl rfl (zA rfl) rfl <| qA rfl rfl rfl <| qN <| zK ?_
   exact zZ0 (.inr rfl) zD2 rfl rfl ta30 rfl (.refl _) (zJ1 _ (.mk (max n1 n2) 0 [] [] [])) rfl (.refl _) (.iface0) ⟨by rw [zK2, hB, cap_f h69]; rfl, rfl⟩
 ·
  have b1 := isV3 ha
  have b2 := isV3 hb
  have hB : bothB 3 (bothL ins) (.mk n1 m1 s1 c1 w1) (.mk n2 m2 s2 c2 w2) = some (.mk 0 0 (bothX s1 s2) [] []) := rfl
  refine zU zO3 rfl zM3 (zA rfl) ?_
  refine zB <| qR rfl <| qB rfl rfl rfl rfl rfl <| qB rfl rfl rfl rfl rfl <| qB rfl rfl rfl rfl rfl <| qO rfl <| zN0 rfl zm30 rfl rfl <| qA rfl rfl rfl <| qN <| zB <| zB <| qR rfl <| qF rfl rfl rfl zG2 <| qL rfl rfl rfl rfl ta3 rfl <| qN <| zB0 <| zB <| zB <| qR rfl <| qC rfl rfl rfl rfl rfl <| qA rfl rfl rfl <| qN ?_
  refine zL rfl (rfl) <| qR rfl <| qC rfl rfl rfl rfl rfl <| qA rfl rfl rfl <| qN <| zL rfl (rfl) <| zB <| qR rfl <| qC rfl rfl rfl rfl rfl <| qA rfl rfl rfl <| qN <| zW rfl (rfl) <| qR rfl <| qF rfl rfl rfl zR1 <| qL rfl rfl rfl rfl ta26 rfl <| qF rfl rfl rfl zR1 <| qL rfl rfl rfl rfl ta26 rfl ?_
  refine qX rfl rfl rfl rfl co50 (rowsBoth_spec s1 s2 (by omega) _) ?_
  refine qF rfl rfl rfl zR1 <| qO rfl <| zH0 rfl rfl rfl rfl sz26 rfl rfl (zA rfl) rfl <| qN <| zB <| zB <| qR rfl <| qM rfl rfl rfl <| qO rfl <| zS3 rfl zI0 rfl rfl (.inl ⟨rfl, rfl⟩) <| qM rfl rfl rfl <| qO rfl <| zV2 (y := encV (.mk 0 0 (bothX s1 s2) [] [])) (zD0 rfl rfl rfl ta30 rfl ⟨rfl, rfl⟩) (.agg (.cons (.refl _) (.cons (.refl _) (.cons (.refl _) (.cons (.nil 1) (.cons (.nil 5) .nil)))))) ?_
  refine qX rfl rfl rfl rfl co56 (zU4 0 0 (bothX s1 s2) [] [] _) ?_
  refine qP rfl rfl rfl rfl <| qN ?_
  refine zJ rfl (fun h69 => ?_) (fun h69 => ?_)
  ·
   refine qR rfl <| qO rfl <| zA2 rfl rfl zU1 (by simp) ?_
   refine qA rfl rfl rfl <| qN <| zB <| zB <| qR rfl <| qM rfl rfl rfl <| qO rfl <| zY2 rfl zI0 rfl rfl (.inr ⟨rfl, rfl⟩) <| qN <| zW rfl (rfl) <| zB <| qR rfl <| qO rfl <| zW1 rfl zS0 zm30 .nil (by kernel_rfl) ?_
   refine qM rfl rfl rfl <| qO rfl <| zH0 rfl rfl rfl rfl sz30 rfl rfl (zA rfl) rfl <| qA rfl rfl rfl <| qN <| zK ?_
   exact zZ0 (.inr rfl) zD2 rfl rfl ta30 rfl (.agg (.cons (.refl _) (.cons (.refl _) (.cons (.nil 1) (.cons (.nil 1) (.cons (.nil 5) .nil)))))) (zJ1 _ (noV)) rfl (.refl _) (.iface _ _ (.int _ _)) ⟨by rw [zK2, hB, cap_t h69]; rfl, rfl⟩
  ·
   refine zA0 <| zB <| zB <| qR rfl <| qM rfl rfl rfl <| qO rfl <| zS3 rfl zI0 rfl rfl (.inr ⟨rfl, rfl⟩) <| qN <| zL rfl (rfl) <| zA0 <| zB <| qR rfl <| qO rfl <| zV2 (y := encV (.mk 0 0 (bothX s1 s2) [] [])) (zD0 rfl rfl rfl ta30 rfl ⟨rfl, rfl⟩) (.agg (.cons (.refl _) (.cons (.refl _) (.cons (.refl _) (.cons (.nil 1) (.cons (.nil 5) .nil)))))) <| qO rfl <| zH0 rfl rfl rfl rfl sz30 rfl rfl (zA rfl) rfl <| qA rfl rfl rfl <| qN <| zK ?_
   exact zZ0 (.inr rfl) zD2 rfl rfl ta30 rfl (.refl _) (zJ1 _ (.mk 0 0 (bothX s1 s2) [] [])) rfl (.refl _) (.iface0) ⟨by rw [zK2, hB, cap_f h69]; rfl, rfl⟩
 ·
  obtain ⟨⟨k1, i1⟩, rfl⟩ := zT5 hd.1 (by decide)
  have ih1 := ih (.mk k1 i1) (hd.2 _ (by simp))
  obtain ⟨p1, p2, p3⟩ := isV4 ha
  obtain ⟨q1, q2, q3⟩ := isV4 hb
  have hof := maps_spec 4 k1 i1 [] (bothF (.mk k1 i1)) n1 m1 s1 c1 w1 n2 m2 s2 c2 w2 p2 q2 p1 q1 (fun x hx y hy => ih1 x y (p3 x hx) (q3 y hy))
  have hBq : bothB 4 (bothL [.mk k1 i1]) (.mk n1 m1 s1 c1 w1) (.mk n2 m2 s2 c2 w2) = mapsF (bothF (.mk k1 i1)) (.mk n1 m1 s1 c1 w1) (.mk n2 m2 s2 c2 w2) := rfl
  rcases hO : mapsF (bothF (.mk k1 i1)) (.mk n1 m1 s1 c1 w1) (.mk n2 m2 s2 c2 w2) with _ | ⟨⟨n3, m3, s3, c3, w3⟩⟩ <;> rw [hO] at hof hBq
  ·
   refine zU zO3 rfl zM3 (zA rfl) ?_
   refine zB <| qR rfl <| qB rfl rfl rfl rfl rfl <| qB rfl rfl rfl rfl rfl <| qB rfl rfl rfl rfl rfl <| qO rfl <| zN0 rfl zm30 rfl rfl <| qA rfl rfl rfl <| qN <| zB <| zB <| qR rfl <| qF rfl rfl rfl zG2 <| qL rfl rfl rfl rfl ta3 rfl <| qN <| zB0 <| zB <| zB <| qR rfl <| qC rfl rfl rfl rfl rfl <| qA rfl rfl rfl <| qN ?_
   refine zL rfl (rfl) <| qR rfl <| qC rfl rfl rfl rfl rfl <| qA rfl rfl rfl <| qN <| zL rfl (rfl) <| zB <| qR rfl <| qC rfl rfl rfl rfl rfl <| qA rfl rfl rfl <| qN <| zL rfl (rfl) <| zB <| qR rfl <| qC rfl rfl rfl rfl rfl <| qA rfl rfl rfl <| qN <| zW rfl (rfl) <| qR rfl <| qL rfl rfl rfl rfl ta24 rfl <| qL rfl rfl rfl rfl ta30 rfl <| qL rfl rfl rfl rfl ta30 rfl ?_
   refine qX rfl rfl rfl rfl co51 (hof _) ?_
   refine qM rfl rfl rfl <| qO rfl <| zE0 rfl rfl rfl <| qO rfl <| zE0 rfl rfl rfl <| qO rfl <| zH0 rfl rfl rfl rfl sz30 rfl rfl (zA rfl) rfl <| qA rfl rfl rfl <| qN <| zB <| zB <| qR rfl <| qM rfl rfl rfl <| qO rfl <| zY2 rfl zI0 rfl rfl (.inl ⟨rfl, rfl⟩) <| qM rfl rfl rfl <| qS rfl <| qS rfl <| qP rfl rfl rfl rfl <| qN <| zL rfl (rfl) <| zA0 <| zB <| zB <| qR rfl ?_
   refine qM rfl rfl rfl <| qO rfl <| zY2 rfl zI0 rfl rfl (.inr ⟨rfl, rfl⟩) <| qN <| zW rfl (rfl) <| zB <| qR rfl <| qO rfl <| zW1 rfl zS0 zm30 .nil (by kernel_rfl) ?_
   refine qM rfl rfl rfl <| qO rfl <| zH0 rfl rfl rfl rfl sz30 rfl rfl (zA rfl) rfl <| qA rfl rfl rfl <| qN <| zK ?_
   exact zZ0 (.inr rfl) zD2 rfl rfl ta30 rfl (.agg (.cons (.refl _) (.cons (.refl _) (.cons (.nil 1) (.cons (.nil 1) (.cons (.nil 5) .nil)))))) (zJ1 _ (noV)) rfl (.refl _) (.iface _ _ (.int _ _)) ⟨by rw [zK2, hBq]; rfl, rfl⟩
  ·
   refine zU zO3 rfl zM3 (zA rfl) ?_
   refine zB <| qR rfl <| qB rfl rfl rfl rfl rfl <| qB rfl rfl rfl rfl rfl <| qB rfl rfl rfl rfl rfl <| qO rfl <| zN0 rfl zm30 rfl rfl <| qA rfl rfl rfl <| qN <| zB <| zB <| qR rfl <| qF rfl rfl rfl zG2 <| qL rfl rfl rfl rfl ta3 rfl <| qN <| zB0 <| zB <| zB <| qR rfl <| qC rfl rfl rfl rfl rfl <| qA rfl rfl rfl <| qN ?_
   refine zL rfl (rfl) <| qR rfl <| qC rfl rfl rfl rfl rfl <| qA rfl rfl rfl <| qN <| zL rfl (rfl) <| zB <| qR rfl <| qC rfl rfl rfl rfl rfl <| qA rfl rfl rfl <| qN <| zL rfl (rfl) <| zB <| qR rfl <| qC rfl rfl rfl rfl rfl <| qA rfl rfl rfl <| qN <| zW rfl (rfl) <| qR rfl <| qL rfl rfl rfl rfl ta24 rfl <| qL rfl rfl rfl rfl ta30 rfl <| qL rfl rfl rfl rfl ta30 rfl ?_
   refine qX rfl rfl rfl rfl co51 (hof _) ?_
   refine qM rfl rfl rfl <| qO rfl <| zE0 rfl rfl rfl <| qO rfl <| zE0 rfl rfl rfl <| qO rfl <| zH0 rfl rfl rfl rfl sz30 rfl rfl (zA rfl) rfl <| qA rfl rfl rfl <| qN <| zB <| zB <| qR rfl <| qM rfl rfl rfl <| qO rfl <| zS3 rfl zI0 rfl rfl (.inl ⟨rfl, rfl⟩) <| qM rfl rfl rfl <| qL rfl rfl rfl rfl ta30 rfl ?_
   refine qX rfl rfl rfl rfl co56 (zU4 n3 m3 s3 c3 w3 _) ?_
   refine qP rfl rfl rfl rfl <| qN ?_
   refine zJ rfl (fun h69 => ?_) (fun h69 => ?_)
   ·
    refine qR rfl <| qO rfl <| zA2 rfl rfl zU1 (by simp) ?_
    refine qA rfl rfl rfl <| qN <| zB <| zB <| qR rfl <| qM rfl rfl rfl <| qO rfl <| zY2 rfl zI0 rfl rfl (.inr ⟨rfl, rfl⟩) <| qN <| zW rfl (rfl) <| zB <| qR rfl <| qO rfl <| zW1 rfl zS0 zm30 .nil (by kernel_rfl) ?_
    refine qM rfl rfl rfl <| qO rfl <| zH0 rfl rfl rfl rfl sz30 rfl rfl (zA rfl) rfl <| qA rfl rfl rfl <| qN <| zK ?_
    exact zZ0 (.inr rfl) zD2 rfl rfl ta30 rfl (.agg (.cons (.refl _) (.cons (.refl _) (.cons (.nil 1) (.cons (.nil 1) (.cons (.nil 5) .nil)))))) (zJ1 _ (noV)) rfl (.refl _) (.iface _ _ (.int _ _)) ⟨by rw [zK2, hBq, cap_t h69]; rfl, rfl⟩
   ·
    refine zA0 <| zB <| zB <| qR rfl <| qM rfl rfl rfl <| qO rfl <| zS3 rfl zI0 rfl rfl (.inr ⟨rfl, rfl⟩) <| qN <| zL rfl (rfl) <| zA0 <| zB <| qR rfl <| qL rfl rfl rfl rfl ta30 rfl <| qO rfl <| zH0 rfl rfl rfl rfl sz30 rfl rfl (zA rfl) rfl <| qA rfl rfl rfl <| qN <| zK ?_
    exact zZ0 (.inr rfl) zD2 rfl rfl ta30 rfl (.refl _) (zJ1 _ (.mk n3 m3 s3 c3 w3)) rfl (.refl _) (.iface0) ⟨by rw [zK2, hBq, cap_f h69]; rfl, rfl⟩
 ·
  obtain ⟨⟨k1, i1⟩, ⟨k2, i2⟩, rfl⟩ := two_of hd.1
  have ih1 := ih (.mk k1 i1) (hd.2 _ (by simp))
  have ih2 := ih (.mk k2 i2) (hd.2 _ (by simp))
  obtain ⟨x1, y1, rfl, p1, p2⟩ := isV5 ha
  obtain ⟨x2, y2, rfl, q1, q2⟩ := isV5 hb
  have hof := pairs_specJ 5 [.mk k1 i1, .mk k2 i2] (by simp) bothF n1 m1 s1 c1 [x1, y1] n2 m2 s2 c2 [x2, y2] rfl rfl (fun i s x y hs hx hy => by
   match i, hs, hx, hy with
   | 0, hs, hx, hy => simp at hs hx hy; subst hs hx hy; exact ih1 _ _ p1 q1
   | 1, hs, hx, hy => simp at hs hx hy; subst hs hx hy; exact ih2 _ _ p2 q2
   | i + 2, hs, _, _ => simp at hs)
  have hBq : bothB 5 (bothL [.mk k1 i1, .mk k2 i2]) (.mk n1 m1 s1 c1 [x1, y1]) (.mk n2 m2 s2 c2 [x2, y2]) = pairF2 ([.mk k1 i1, .mk k2 i2].map bothF) (.mk n1 m1 s1 c1 [x1, y1]) (.mk n2 m2 s2 c2 [x2, y2]) := by rw [bothL_eq]; rfl
  rcases hO : pairF2 ([.mk k1 i1, .mk k2 i2].map bothF) (.mk n1 m1 s1 c1 [x1, y1]) (.mk n2 m2 s2 c2 [x2, y2]) with _ | ⟨⟨n3, m3, s3, c3, w3⟩⟩ <;> rw [hO] at hof hBq
  ·
   refine zU zO3 rfl zM3 (zA rfl) ?_
   refine zB <| qR rfl <| qB rfl rfl rfl rfl rfl <| qB rfl rfl rfl rfl rfl <| qB rfl rfl rfl rfl rfl <| qO rfl <| zN0 rfl zm30 rfl rfl <| qA rfl rfl rfl <| qN <| zB <| zB <| qR rfl <| qF rfl rfl rfl zG2 <| qL rfl rfl rfl rfl ta3 rfl <| qN <| zB0 <| zB <| zB <| qR rfl <| qC rfl rfl rfl rfl rfl <| qA rfl rfl rfl <| qN ?_
   refine zL rfl (rfl) <| qR rfl <| qC rfl rfl rfl rfl rfl <| qA rfl rfl rfl <| qN <| zL rfl (rfl) <| zB <| qR rfl <| qC rfl rfl rfl rfl rfl <| qA rfl rfl rfl <| qN <| zL rfl (rfl) <| zB <| qR rfl <| qC rfl rfl rfl rfl rfl <| qA rfl rfl rfl <| qN <| zL rfl (rfl) <| zB <| qR rfl <| qC rfl rfl rfl rfl rfl <| qA rfl rfl rfl ?_
   refine qN <| zW rfl (rfl) <| qR rfl <| qL rfl rfl rfl rfl ta24 rfl <| qL rfl rfl rfl rfl ta30 rfl <| qL rfl rfl rfl rfl ta30 rfl ?_
   refine qX rfl rfl rfl rfl co52 (hof _) ?_
   refine qM rfl rfl rfl <| qO rfl <| zE0 rfl rfl rfl <| qO rfl <| zE0 rfl rfl rfl <| qO rfl <| zH0 rfl rfl rfl rfl sz30 rfl rfl (zA rfl) rfl <| qA rfl rfl rfl <| qN <| zB <| zB <| qR rfl <| qM rfl rfl rfl <| qO rfl <| zY2 rfl zI0 rfl rfl (.inl ⟨rfl, rfl⟩) <| qM rfl rfl rfl <| qS rfl <| qS rfl <| qP rfl rfl rfl rfl <| qN <| zL rfl (rfl) <| zA0 <| zB <| zB <| qR rfl ?_
   refine qM rfl rfl rfl <| qO rfl <| zY2 rfl zI0 rfl rfl (.inr ⟨rfl, rfl⟩) <| qN <| zW rfl (rfl) <| zB <| qR rfl <| qO rfl <| zW1 rfl zS0 zm30 .nil (by kernel_rfl) ?_
   refine qM rfl rfl rfl <| qO rfl <| zH0 rfl rfl rfl rfl sz30 rfl rfl (zA rfl) rfl <| qA rfl rfl rfl <| qN <| zK ?_
   exact zZ0 (.inr rfl) zD2 rfl rfl ta30 rfl (.agg (.cons (.refl _) (.cons (.refl _) (.cons (.nil 1) (.cons (.nil 1) (.cons (.nil 5) .nil)))))) (zJ1 _ (noV)) rfl (.refl _) (.iface _ _ (.int _ _)) ⟨by rw [zK2, hBq]; rfl, rfl⟩
  ·
   refine zU zO3 rfl zM3 (zA rfl) ?_
   refine zB <| qR rfl <| qB rfl rfl rfl rfl rfl <| qB rfl rfl rfl rfl rfl <| qB rfl rfl rfl rfl rfl <| qO rfl <| zN0 rfl zm30 rfl rfl <| qA rfl rfl rfl <| qN <| zB <| zB <| qR rfl <| qF rfl rfl rfl zG2 <| qL rfl rfl rfl rfl ta3 rfl <| qN <| zB0 <| zB <| zB <| qR rfl <| qC rfl rfl rfl rfl rfl <| qA rfl rfl rfl <| qN ?_
   refine zL rfl (rfl) <| qR rfl <| qC rfl rfl rfl rfl rfl <| qA rfl rfl rfl <| qN <| zL rfl (rfl) <| zB <| qR rfl <| qC rfl rfl rfl rfl rfl <| qA rfl rfl rfl <| qN <| zL rfl (rfl) <| zB <| qR rfl <| qC rfl rfl rfl rfl rfl <| qA rfl rfl rfl <| qN <| zL rfl (rfl) <| zB <| qR rfl <| qC rfl rfl rfl rfl rfl <| qA rfl rfl rfl ?_
   refine qN <| zW rfl (rfl) <| qR rfl <| qL rfl rfl rfl rfl ta24 rfl <| qL rfl rfl rfl rfl ta30 rfl <| qL rfl rfl rfl rfl ta30 rfl ?_
   refine qX rfl rfl rfl rfl co52 (hof _) ?_
   refine qM rfl rfl rfl <| qO rfl <| zE0 rfl rfl rfl <| qO rfl <| zE0 rfl rfl rfl <| qO rfl <| zH0 rfl rfl rfl rfl sz30 rfl rfl (zA rfl) rfl <| qA rfl rfl rfl <| qN <| zB <| zB <| qR rfl <| qM rfl rfl rfl <| qO rfl <| zS3 rfl zI0 rfl rfl (.inl ⟨rfl, rfl⟩) <| qM rfl rfl rfl <| qL rfl rfl rfl rfl ta30 rfl ?_
   refine qX rfl rfl rfl rfl co56 (zU4 n3 m3 s3 c3 w3 _) ?_
   refine qP rfl rfl rfl rfl <| qN ?_
   refine zJ rfl (fun h69 => ?_) (fun h69 => ?_)
   ·
    refine qR rfl <| qO rfl <| zA2 rfl rfl zU1 (by simp) ?_
    refine qA rfl rfl rfl <| qN <| zB <| zB <| qR rfl <| qM rfl rfl rfl <| qO rfl <| zY2 rfl zI0 rfl rfl (.inr ⟨rfl, rfl⟩) <| qN <| zW rfl (rfl) <| zB <| qR rfl <| qO rfl <| zW1 rfl zS0 zm30 .nil (by kernel_rfl) ?_
    refine qM rfl rfl rfl <| qO rfl <| zH0 rfl rfl rfl rfl sz30 rfl rfl (zA rfl) rfl <| qA rfl rfl rfl <| qN <| zK ?_
    exact zZ0 (.inr rfl) zD2 rfl rfl ta30 rfl (.agg (.cons (.refl _) (.cons (.refl _) (.cons (.nil 1) (.cons (.nil 1) (.cons (.nil 5) .nil)))))) (zJ1 _ (noV)) rfl (.refl _) (.iface _ _ (.int _ _)) ⟨by rw [zK2, hBq, cap_t h69]; rfl, rfl⟩
   ·
    refine zA0 <| zB <| zB <| qR rfl <| qM rfl rfl rfl <| qO rfl <| zS3 rfl zI0 rfl rfl (.inr ⟨rfl, rfl⟩) <| qN <| zL rfl (rfl) <| zA0 <| zB <| qR rfl <| qL rfl rfl rfl rfl ta30 rfl <| qO rfl <| zH0 rfl rfl rfl rfl sz30 rfl rfl (zA rfl) rfl <| qA rfl rfl rfl <| qN <| zK ?_
    exact zZ0 (.inr rfl) zD2 rfl rfl ta30 rfl (.refl _) (zJ1 _ (.mk n3 m3 s3 c3 w3)) rfl (.refl _) (.iface0) ⟨by rw [zK2, hBq, cap_f h69]; rfl, rfl⟩
 ·
  obtain ⟨n3, m3, s3, c3, w3, hlt⟩ : ∃ n m s c w, laterF (.mk n1 m1 s1 c1 w1) (.mk n2 m2 s2 c2 w2) = .mk n m s c w := by cases laterF (.mk n1 m1 s1 c1 w1) (.mk n2 m2 s2 c2 w2) with
   | mk n m s c w => exact ⟨n, m, s, c, w, rfl⟩
  have hlt2 := later_spec n1 m1 s1 c1 w1 n2 m2 s2 c2 w2
  rw [hlt] at hlt2
  have hB : bothB 6 (bothL ins) (.mk n1 m1 s1 c1 w1) (.mk n2 m2 s2 c2 w2) = some (.mk n3 m3 s3 c3 w3) := congrArg some hlt
  refine zU zO3 rfl zM3 (zA rfl) ?_
  refine zB <| qR rfl <| qB rfl rfl rfl rfl rfl <| qB rfl rfl rfl rfl rfl <| qB rfl rfl rfl rfl rfl <| qO rfl <| zN0 rfl zm30 rfl rfl <| qA rfl rfl rfl <| qN <| zB <| zB <| qR rfl <| qF rfl rfl rfl zG2 <| qL rfl rfl rfl rfl ta3 rfl <| qN <| zB0 <| zB <| zB <| qR rfl <| qC rfl rfl rfl rfl rfl <| qA rfl rfl rfl <| qN ?_
  refine zL rfl (rfl) <| qR rfl <| qC rfl rfl rfl rfl rfl <| qA rfl rfl rfl <| qN <| zL rfl (rfl) <| zB <| qR rfl <| qC rfl rfl rfl rfl rfl <| qA rfl rfl rfl <| qN <| zL rfl (rfl) <| zB <| qR rfl <| qC rfl rfl rfl rfl rfl <| qA rfl rfl rfl <| qN <| zL rfl (rfl) <| zB <| qR rfl <| qC rfl rfl rfl rfl rfl <| qA rfl rfl rfl ?_
  refine qN <| zL rfl (rfl) <| zB <| qR rfl <| qC rfl rfl rfl rfl rfl <| qA rfl rfl rfl <| qN <| zW rfl (rfl) <| qR rfl <| qL rfl rfl rfl rfl ta30 rfl <| qL rfl rfl rfl rfl ta30 rfl ?_
  refine qX rfl rfl rfl rfl co53 (hlt2 _) ?_
  refine qO rfl <| zH0 rfl rfl rfl rfl sz30 rfl rfl (zA rfl) rfl <| qN <| zB <| zB <| qR rfl <| qM rfl rfl rfl <| qO rfl <| zS3 rfl zI0 rfl rfl (.inl ⟨rfl, rfl⟩) <| qM rfl rfl rfl <| qL rfl rfl rfl rfl ta30 rfl ?_
  refine qX rfl rfl rfl rfl co56 (zU4 n3 m3 s3 c3 w3 _) ?_
  refine qP rfl rfl rfl rfl <| qN ?_
  refine zJ rfl (fun h69 => ?_) (fun h69 => ?_)
  ·
   refine qR rfl <| qO rfl <| zA2 rfl rfl zU1 (by simp) ?_
   refine qA rfl rfl rfl <| qN <| zB <| zB <| qR rfl <| qM rfl rfl rfl <| qO rfl <| zY2 rfl zI0 rfl rfl (.inr ⟨rfl, rfl⟩) <| qN <| zW rfl (rfl) <| zB <| qR rfl <| qO rfl <| zW1 rfl zS0 zm30 .nil (by kernel_rfl) ?_
   refine qM rfl rfl rfl <| qO rfl <| zH0 rfl rfl rfl rfl sz30 rfl rfl (zA rfl) rfl <| qA rfl rfl rfl <| qN <| zK ?_
   exact zZ0 (.inr rfl) zD2 rfl rfl ta30 rfl (.agg (.cons (.refl _) (.cons (.refl _) (.cons (.nil 1) (.cons (.nil 1) (.cons (.nil 5) .nil)))))) (zJ1 _ (noV)) rfl (.refl _) (.iface _ _ (.int _ _)) ⟨by rw [zK2, hB, cap_t h69]; rfl, rfl⟩
  ·
   refine zA0 <| zB <| zB <| qR rfl <| qM rfl rfl rfl <| qO rfl <| zS3 rfl zI0 rfl rfl (.inr ⟨rfl, rfl⟩) <| qN <| zL rfl (rfl) <| zA0 <| zB <| qR rfl <| qL rfl rfl rfl rfl ta30 rfl <| qO rfl <| zH0 rfl rfl rfl rfl sz30 rfl rfl (zA rfl) rfl <| qA rfl rfl rfl <| qN <| zK ?_
   exact zZ0 (.inr rfl) zD2 rfl rfl ta30 rfl (.refl _) (zJ1 _ (.mk n3 m3 s3 c3 w3)) rfl (.refl _) (.iface0) ⟨by rw [zK2, hB, cap_f h69]; rfl, rfl⟩
 ·
  have b1 := isV7 ha
  have b2 := isV7 hb
  obtain ⟨n3, m3, s3, c3, w3, hlt⟩ : ∃ n m s c w, clocksF (.mk n1 m1 s1 c1 w1) (.mk n2 m2 s2 c2 w2) = .mk n m s c w := by cases clocksF (.mk n1 m1 s1 c1 w1) (.mk n2 m2 s2 c2 w2) with
   | mk n m s c w => exact ⟨n, m, s, c, w, rfl⟩
  have hlt2 := clocks_spec n1 m1 s1 c1 w1 n2 m2 s2 c2 w2 (fun x hx y hy => by have := b1 x hx; have := b2 y hy; omega)
  rw [hlt] at hlt2
  have hB : bothB 7 (bothL ins) (.mk n1 m1 s1 c1 w1) (.mk n2 m2 s2 c2 w2) = some (.mk n3 m3 s3 c3 w3) := congrArg some hlt
  refine zU zO3 rfl zM3 (zA rfl) ?_
  refine zB <| qR rfl <| qB rfl rfl rfl rfl rfl <| qB rfl rfl rfl rfl rfl <| qB rfl rfl rfl rfl rfl <| qO rfl <| zN0 rfl zm30 rfl rfl <| qA rfl rfl rfl <| qN <| zB <| zB <| qR rfl <| qF rfl rfl rfl zG2 <| qL rfl rfl rfl rfl ta3 rfl <| qN <| zB0 <| zB <| zB <| qR rfl <| qC rfl rfl rfl rfl rfl <| qA rfl rfl rfl <| qN ?_
  refine zL rfl (rfl) <| qR rfl <| qC rfl rfl rfl rfl rfl <| qA rfl rfl rfl <| qN <| zL rfl (rfl) <| zB <| qR rfl <| qC rfl rfl rfl rfl rfl <| qA rfl rfl rfl <| qN <| zL rfl (rfl) <| zB <| qR rfl <| qC rfl rfl rfl rfl rfl <| qA rfl rfl rfl <| qN <| zL rfl (rfl) <| zB <| qR rfl <| qC rfl rfl rfl rfl rfl <| qA rfl rfl rfl ?_
  refine qN <| zL rfl (rfl) <| zB <| qR rfl <| qC rfl rfl rfl rfl rfl <| qA rfl rfl rfl <| qN <| zL rfl (rfl) <| zB <| qR rfl <| qC rfl rfl rfl rfl rfl <| qA rfl rfl rfl <| qN <| zW rfl (rfl) <| qR rfl <| qL rfl rfl rfl rfl ta30 rfl <| qL rfl rfl rfl rfl ta30 rfl ?_
  refine qX rfl rfl rfl rfl co54 (hlt2 _) ?_
  refine qO rfl <| zH0 rfl rfl rfl rfl sz30 rfl rfl (zA rfl) rfl <| qN <| zB <| zB <| qR rfl <| qM rfl rfl rfl <| qO rfl <| zS3 rfl zI0 rfl rfl (.inl ⟨rfl, rfl⟩) <| qM rfl rfl rfl <| qL rfl rfl rfl rfl ta30 rfl ?_
  refine qX rfl rfl rfl rfl co56 (zU4 n3 m3 s3 c3 w3 _) ?_
  refine qP rfl rfl rfl rfl <| qN ?_
  refine zJ rfl (fun h69 => ?_) (fun h69 => ?_)
  ·
   refine qR rfl <| qO rfl <| zA2 rfl rfl zU1 (by simp) ?_
   refine qA rfl rfl rfl <| qN <| zB <| zB <| qR rfl <| qM rfl rfl rfl <| qO rfl <| zY2 rfl zI0 rfl rfl (.inr ⟨rfl, rfl⟩) <| qN <| zW rfl (rfl) <| zB <| qR rfl <| qO rfl <| zW1 rfl zS0 zm30 .nil (by kernel_rfl) ?_
   refine qM rfl rfl rfl <| qO rfl <| zH0 rfl rfl rfl rfl sz30 rfl rfl (zA rfl) rfl <| qA rfl rfl rfl <| qN <| zK ?_
   exact zZ0 (.inr rfl) zD2 rfl rfl ta30 rfl (.agg (.cons (.refl _) (.cons (.refl _) (.cons (.nil 1) (.cons (.nil 1) (.cons (.nil 5) .nil)))))) (zJ1 _ (noV)) rfl (.refl _) (.iface _ _ (.int _ _)) ⟨by rw [zK2, hB, cap_t h69]; rfl, rfl⟩
  ·
   refine zA0 <| zB <| zB <| qR rfl <| qM rfl rfl rfl <| qO rfl <| zS3 rfl zI0 rfl rfl (.inr ⟨rfl, rfl⟩) <| qN <| zL rfl (rfl) <| zA0 <| zB <| qR rfl <| qL rfl rfl rfl rfl ta30 rfl <| qO rfl <| zH0 rfl rfl rfl rfl sz30 rfl rfl (zA rfl) rfl <| qA rfl rfl rfl <| qN <| zK ?_
   exact zZ0 (.inr rfl) zD2 rfl rfl ta30 rfl (.refl _) (zJ1 _ (.mk n3 m3 s3 c3 w3)) rfl (.refl _) (.iface0) ⟨by rw [zK2, hB, cap_f h69]; rfl, rfl⟩
 ·
  obtain ⟨⟨k1, i1⟩, rfl⟩ := zT5 hd.1 (by decide)
  have ih1 := ih (.mk k1 i1) (hd.2 _ (by simp))
  obtain ⟨p1, p2, p4, p3⟩ := isV8 ha
  obtain ⟨q1, q2, q4, q3⟩ := isV8 hb
  have hof := causes_spec 8 k1 i1 [] (bothF (.mk k1 i1)) n1 m1 s1 c1 w1 n2 m2 s2 c2 w2 p2 q2 p1 q1 (fun x hx => by have := p4 x hx; omega) (fun x hx => by have := q4 x hx; omega) (fun x hx y hy => ih1 x y (p3 x hx) (q3 y hy))
  have hBq : bothB 8 (bothL [.mk k1 i1]) (.mk n1 m1 s1 c1 w1) (.mk n2 m2 s2 c2 w2) = causesF (bothF (.mk k1 i1)) (.mk n1 m1 s1 c1 w1) (.mk n2 m2 s2 c2 w2) := rfl
  rcases hO : causesF (bothF (.mk k1 i1)) (.mk n1 m1 s1 c1 w1) (.mk n2 m2 s2 c2 w2) with _ | ⟨⟨n3, m3, s3, c3, w3⟩⟩ <;> rw [hO] at hof hBq
  ·
   refine zU zO3 rfl zM3 (zA rfl) ?_
   refine zB <| qR rfl <| qB rfl rfl rfl rfl rfl <| qB rfl rfl rfl rfl rfl <| qB rfl rfl rfl rfl rfl <| qO rfl <| zN0 rfl zm30 rfl rfl <| qA rfl rfl rfl <| qN <| zB <| zB <| qR rfl <| qF rfl rfl rfl zG2 <| qL rfl rfl rfl rfl ta3 rfl <| qN <| zB0 <| zB <| zB <| qR rfl <| qC rfl rfl rfl rfl rfl <| qA rfl rfl rfl <| qN ?_
   refine zL rfl (rfl) <| qR rfl <| qC rfl rfl rfl rfl rfl <| qA rfl rfl rfl <| qN <| zL rfl (rfl) <| zB <| qR rfl <| qC rfl rfl rfl rfl rfl <| qA rfl rfl rfl <| qN <| zL rfl (rfl) <| zB <| qR rfl <| qC rfl rfl rfl rfl rfl <| qA rfl rfl rfl <| qN <| zL rfl (rfl) <| zB <| qR rfl <| qC rfl rfl rfl rfl rfl <| qA rfl rfl rfl ?_
   refine qN <| zL rfl (rfl) <| zB <| qR rfl <| qC rfl rfl rfl rfl rfl <| qA rfl rfl rfl <| qN <| zL rfl (rfl) <| zB <| qR rfl <| qC rfl rfl rfl rfl rfl <| qA rfl rfl rfl <| qN <| zL rfl (rfl) <| zB <| qR rfl <| qC rfl rfl rfl rfl rfl <| qA rfl rfl rfl <| qN <| zW rfl (rfl) <| qR rfl <| qL rfl rfl rfl rfl ta24 rfl <| qL rfl rfl rfl rfl ta30 rfl ?_
   refine qL rfl rfl rfl rfl ta30 rfl ?_
   refine qX rfl rfl rfl rfl co55 (hof _) ?_
   refine qM rfl rfl rfl <| qO rfl <| zE0 rfl rfl rfl <| qO rfl <| zE0 rfl rfl rfl <| qO rfl <| zH0 rfl rfl rfl rfl sz30 rfl rfl (zA rfl) rfl <| qA rfl rfl rfl <| qN <| zB <| zB <| qR rfl <| qM rfl rfl rfl <| qO rfl <| zY2 rfl zI0 rfl rfl (.inl ⟨rfl, rfl⟩) <| qM rfl rfl rfl <| qS rfl <| qS rfl <| qP rfl rfl rfl rfl <| qN <| zL rfl (rfl) <| zA0 <| zB <| zB <| qR rfl ?_
   refine qM rfl rfl rfl <| qO rfl <| zY2 rfl zI0 rfl rfl (.inr ⟨rfl, rfl⟩) <| qN <| zW rfl (rfl) <| zB <| qR rfl <| qO rfl <| zW1 rfl zS0 zm30 .nil (by kernel_rfl) ?_
   refine qM rfl rfl rfl <| qO rfl <| zH0 rfl rfl rfl rfl sz30 rfl rfl (zA rfl) rfl <| qA rfl rfl rfl <| qN <| zK ?_
   exact zZ0 (.inr rfl) zD2 rfl rfl ta30 rfl (.agg (.cons (.refl _) (.cons (.refl _) (.cons (.nil 1) (.cons (.nil 1) (.cons (.nil 5) .nil)))))) (zJ1 _ (noV)) rfl (.refl _) (.iface _ _ (.int _ _)) ⟨by rw [zK2, hBq]; rfl, rfl⟩
  ·
   refine zU zO3 rfl zM3 (zA rfl) ?_
   refine zB <| qR rfl <| qB rfl rfl rfl rfl rfl <| qB rfl rfl rfl rfl rfl <| qB rfl rfl rfl rfl rfl <| qO rfl <| zN0 rfl zm30 rfl rfl <| qA rfl rfl rfl <| qN <| zB <| zB <| qR rfl <| qF rfl rfl rfl zG2 <| qL rfl rfl rfl rfl ta3 rfl <| qN <| zB0 <| zB <| zB <| qR rfl <| qC rfl rfl rfl rfl rfl <| qA rfl rfl rfl <| qN ?_
   refine zL rfl (rfl) <| qR rfl <| qC rfl rfl rfl rfl rfl <| qA rfl rfl rfl <| qN <| zL rfl (rfl) <| zB <| qR rfl <| qC rfl rfl rfl rfl rfl <| qA rfl rfl rfl <| qN <| zL rfl (rfl) <| zB <| qR rfl <| qC rfl rfl rfl rfl rfl <| qA rfl rfl rfl <| qN <| zL rfl (rfl) <| zB <| qR rfl <| qC rfl rfl rfl rfl rfl <| qA rfl rfl rfl ?_
   refine qN <| zL rfl (rfl) <| zB <| qR rfl <| qC rfl rfl rfl rfl rfl <| qA rfl rfl rfl <| qN <| zL rfl (rfl) <| zB <| qR rfl <| qC rfl rfl rfl rfl rfl <| qA rfl rfl rfl <| qN <| zL rfl (rfl) <| zB <| qR rfl <| qC rfl rfl rfl rfl rfl <| qA rfl rfl rfl <| qN <| zW rfl (rfl) <| qR rfl <| qL rfl rfl rfl rfl ta24 rfl <| qL rfl rfl rfl rfl ta30 rfl ?_
   refine qL rfl rfl rfl rfl ta30 rfl ?_
   refine qX rfl rfl rfl rfl co55 (hof _) ?_
   refine qM rfl rfl rfl <| qO rfl <| zE0 rfl rfl rfl <| qO rfl <| zE0 rfl rfl rfl <| qO rfl <| zH0 rfl rfl rfl rfl sz30 rfl rfl (zA rfl) rfl <| qA rfl rfl rfl <| qN <| zB <| zB <| qR rfl <| qM rfl rfl rfl <| qO rfl <| zS3 rfl zI0 rfl rfl (.inl ⟨rfl, rfl⟩) <| qM rfl rfl rfl <| qL rfl rfl rfl rfl ta30 rfl ?_
   refine qX rfl rfl rfl rfl co56 (zU4 n3 m3 s3 c3 w3 _) ?_
   refine qP rfl rfl rfl rfl <| qN ?_
   refine zJ rfl (fun h69 => ?_) (fun h69 => ?_)
   ·
    refine qR rfl <| qO rfl <| zA2 rfl rfl zU1 (by simp) ?_
    refine qA rfl rfl rfl <| qN <| zB <| zB <| qR rfl <| qM rfl rfl rfl <| qO rfl <| zY2 rfl zI0 rfl rfl (.inr ⟨rfl, rfl⟩) <| qN <| zW rfl (rfl) <| zB <| qR rfl <| qO rfl <| zW1 rfl zS0 zm30 .nil (by kernel_rfl) ?_
    refine qM rfl rfl rfl <| qO rfl <| zH0 rfl rfl rfl rfl sz30 rfl rfl (zA rfl) rfl <| qA rfl rfl rfl <| qN <| zK ?_
    exact zZ0 (.inr rfl) zD2 rfl rfl ta30 rfl (.agg (.cons (.refl _) (.cons (.refl _) (.cons (.nil 1) (.cons (.nil 1) (.cons (.nil 5) .nil)))))) (zJ1 _ (noV)) rfl (.refl _) (.iface _ _ (.int _ _)) ⟨by rw [zK2, hBq, cap_t h69]; rfl, rfl⟩
   ·
    refine zA0 <| zB <| zB <| qR rfl <| qM rfl rfl rfl <| qO rfl <| zS3 rfl zI0 rfl rfl (.inr ⟨rfl, rfl⟩) <| qN <| zL rfl (rfl) <| zA0 <| zB <| qR rfl <| qL rfl rfl rfl rfl ta30 rfl <| qO rfl <| zH0 rfl rfl rfl rfl sz30 rfl rfl (zA rfl) rfl <| qA rfl rfl rfl <| qN <| zK ?_
    exact zZ0 (.inr rfl) zD2 rfl rfl ta30 rfl (.refl _) (zJ1 _ (.mk n3 m3 s3 c3 w3)) rfl (.refl _) (.iface0) ⟨by rw [zK2, hBq, cap_f h69]; rfl, rfl⟩
theorem ahead_nil : ∀ b : List Tk, aheadF [] b = decide (0 < b.length)
 | [] => rfl
 | _ :: _ => rfl
theorem ahead_nil2 : ∀ a : List Tk, aheadF a [] = false
 | [] => rfl
 | _ :: _ => rfl
theorem fits_mk {n m : Int} {s : List Bs} {c : List (List Tk)} {w : List Val} (k : Int) : fitsF k (.mk n m s c w) =
 (if k = 1 then hasF (.mk n m s c w) true false false false false
 else if k = 2 then hasF (.mk n m s c w) true false false false false && decide (n ≤ 1)
 else if k = 3 then hasF (.mk n m s c w) false false true false false && shortF s
 else if k = 4 then hasF (.mk n m s c w) false false true false true && shortF s && decide (s.length = w.length)
 else if k = 5 then hasF (.mk n m s c w) false false false false true && decide (w.length = 2)
 else if k = 6 then (match s with | [] => hasF (.mk n m s c w) false false false false false | [t] => hasF (.mk n m s c w) true true true false false && decide (t.length ≤ 16) && (!(n == 0) || !(m == 0) || !(t == [])) | _ => false)
 else if k = 7 then hasF (.mk n m s c w) false false false true false && decide (c.length ≤ 1)
 else hasF (.mk n m s c w) false false false true true && decide (c.length = w.length)) := rfl
theorem _root_.zP4 : type_of% @fits_mk := @fits_mk
theorem fits6_one {n m : Int} {t : Bs} {c : List (List Tk)} {w : List Val} : fitsF 6 (.mk n m [t] c w) = (hasF (.mk n m [t] c w) true true true false false && decide (t.length ≤ 16) && (!(n == 0) || !(m == 0) || !(t == []))) := rfl
theorem _root_.zT3 : type_of% @fits6_one := @fits6_one
theorem fits6_nil {n m : Int} {c : List (List Tk)} {w : List Val} : fitsF 6 (.mk n m [] c w) = hasF (.mk n m [] c w) false false false false false := rfl
theorem fits6_no {n m : Int} {s : List Bs} {c : List (List Tk)} {w : List Val} (h : ¬ s = []) (h1 : ¬ s.length = 1) : fitsF 6 (.mk n m s c w) = false := by
 match s, h, h1 with
 | [], h, _ => exact absurd rfl h
 | [t], _, h => exact absurd rfl h
 | _ :: _ :: _, _, _ => rfl
theorem fits6_has {n m : Int} {s : List Bs} {c : List (List Tk)} {w : List Val} (h : ¬ s = []) (h1 : hasF (.mk n m s c w) true true true false false = false) : fitsF 6 (.mk n m s c w) = false := by
 match s, h, h1 with
 | [], h, _ => exact absurd rfl h
 | [t], _, h =>
  show (hasF (.mk n m [t] c w) true true true false false && _ && _) = false
  rw [h]; rfl
 | _ :: _ :: _, _, _ => rfl
theorem rBottomV_spec (d : Nat) : d ≤ 16 → ∀ (s : Sch), isF d s = true → ∀ S : MS, MCalls Tryz.prog 37 [encS s] S fun v σ' => v = encV (BottomF s) ∧ σ' = S := by
 induction d with
 | zero => intro _ s h; simp [isF] at h
 | succ d ih =>
 rintro h16 ⟨k, ins⟩ hd S
 have his := isF_le h16 hd
 rw [isF] at hd
 simp only [Bool.and_eq_true, List.all_eq_true, beq_iff_eq] at hd
 refine zU Tryz.func37 rfl Tryz.ntmps37 (zA rfl) ?_
 refine zB <| qR rfl <| qB rfl rfl rfl rfl rfl <| qO rfl <| zN0 rfl zm30 rfl rfl <| qN <| zB <| zB <| qR rfl <| qL rfl rfl rfl rfl ta24 rfl ?_
 refine qX rfl rfl rfl rfl co36 (rIsSchema_spec (.mk k ins) _) ?_
 rw [his]
 refine qO rfl <| zG1 rfl rfl <| qM rfl rfl rfl <| qF rfl rfl rfl zG2 <| qL rfl rfl rfl rfl ta3 rfl <| qC rfl rfl rfl rfl rfl <| qP rfl rfl rfl rfl <| qN ?_
 refine zJ rfl (fun h10 => ?_) (fun h10 => ?_)
 ·
  have hk : ¬ k = 5 := by simpa using h10
  have hbot : BottomF (.mk k ins) = noV := by unfold BottomF; rw [if_pos his, bottomF, if_neg hk]
  refine zB <| qR rfl <| qO rfl <| zW1 rfl zS0 zm30 .nil (by kernel_rfl) ?_
  refine qO rfl <| zH0 rfl rfl rfl rfl sz30 rfl rfl (zA rfl) rfl <| qN <| zK ?_
  rw [hbot]
  exact zI2 (y := encV (noV)) (.inr rfl) Tryz.results37 rfl rfl ta30 rfl (.agg (.cons (.refl _) (.cons (.refl _) (.cons (.nil _) (.cons (.nil _) (.cons (.nil _) .nil)))))) (zJ1 _ _) ⟨rfl, rfl⟩
 ·
  have hk : k = 5 := by simpa using h10
  subst hk
  obtain ⟨⟨k1, i1⟩, ⟨k2, i2⟩, rfl⟩ := two_of hd.1
  have his1 := isF_le (by omega : d ≤ 16) (hd.2 (.mk k1 i1) (by simp))
  have his2 := isF_le (by omega : d ≤ 16) (hd.2 (.mk k2 i2) (by simp))
  obtain ⟨⟨n1, m1, s1, c1, w1⟩, e1⟩ : ∃ v, BottomF (.mk k1 i1) = v := ⟨_, rfl⟩
  obtain ⟨⟨n2, m2, s2, c2, w2⟩, e2⟩ : ∃ v, BottomF (.mk k2 i2) = v := ⟨_, rfl⟩
  have ih1 := ih (by omega) (.mk k1 i1) (hd.2 _ (by simp))
  have ih2 := ih (by omega) (.mk k2 i2) (hd.2 _ (by simp))
  simp only [e1] at ih1
  simp only [e2] at ih2
  have hbot : BottomF (.mk 5 [.mk k1 i1, .mk k2 i2]) = .mk 0 0 [] [] [.mk n1 m1 s1 c1 w1, .mk n2 m2 s2 c2 w2] := by
   unfold BottomF at e1 e2 ⊢
   rw [if_pos his1] at e1
   rw [if_pos his2] at e2
   rw [if_pos his, bottomF, if_pos rfl, bottomL, bottomL, bottomL, e1, e2]
  refine zA0 <| zB ?_
  refine zU0 [12] [_, S ++ [.cells (encS (.mk 5 [.mk k1 i1, .mk k2 i2])).cells, .cells [.int .u64 0, .int .u64 0, .lst0, .lst0, .lst none 5 [encV (.mk n1 m1 s1 c1 w1), encV (.mk n2 m2 s2 c2 w2)]]]] mo (by decide) rfl rfl rfl rfl ?_
  refine dO rfl rfl rfl (zE rfl rfl zU2 ⟨rfl, rfl⟩) <| dO rfl rfl rfl (zD0 rfl rfl rfl ta22 rfl ⟨rfl, rfl⟩) <| dO rfl rfl rfl (zG rfl zR0 sz24 (by decide) rfl rfl rfl (show _ = some (encS (.mk k1 i1)) from rfl) ⟨rfl, rfl⟩) ?_
  refine dO rfl rfl rfl (zH rfl rfl ta24 rfl ⟨rfl, rfl⟩) <| zS rfl rfl (.cons (zH1 rfl rfl rfl co37 (ih1 _)) .nil) <| dO rfl rfl rfl (zE rfl rfl zU2 ⟨rfl, rfl⟩) <| dO rfl rfl rfl (zD0 rfl rfl rfl ta22 rfl ⟨rfl, rfl⟩) <| dO rfl rfl rfl (zG rfl zR0 sz24 (by decide) rfl rfl rfl (show _ = some (encS (.mk k2 i2)) from rfl) ⟨rfl, rfl⟩) ?_
  refine dO rfl rfl rfl (zH rfl rfl ta24 rfl ⟨rfl, rfl⟩) <| zS rfl rfl (.cons (zH1 rfl rfl rfl co37 (ih2 _)) .nil) <| dO rfl rfl rfl (zC1 rfl zO el30 rfl rfl (by decide) (by decide) rfl rfl ⟨rfl, rfl⟩) ?_
  refine dO rfl rfl rfl (zW1 rfl zS0 zm30 (.cons zF1 sz28 rfl rfl (zA rfl) .nil) (by kernel_rfl) ⟨rfl, rfl⟩) ?_
  refine zX0 rfl rfl rfl rfl (zH0 rfl rfl rfl rfl sz30 rfl rfl (zA rfl) rfl ⟨rfl, rfl⟩) <| zL0 <| zK ?_
  rw [hbot]
  exact zI2 (y := encV (.mk 0 0 [] [] [.mk n1 m1 s1 c1 w1, .mk n2 m2 s2 c2 w2])) (.inr rfl) Tryz.results37 rfl rfl ta30 rfl (.agg (.cons (.refl _) (.cons (.refl _) (.cons (.nil _) (.cons (.nil _) (.cons (.refl _) .nil)))))) (zJ1 _ _) ⟨rfl, rfl⟩
theorem rBottom_spec (s : Sch) (S : MS) : MCalls Tryz.prog 37 [encS s] S fun v σ' => v = encV (BottomF s) ∧ σ' = S := by
 by_cases h : isF 16 s = true
 ·exact rBottomV_spec 16 (by omega) s h S
 ·obtain ⟨k, ins⟩ := s
  replace h : isF 16 (.mk k ins) = false := by simpa using h
  have hbot : BottomF (.mk k ins) = noV := by unfold BottomF; rw [if_neg (by simp [h])]
  refine zU Tryz.func37 rfl Tryz.ntmps37 (zA rfl) ?_
  refine zB <| qR rfl <| qB rfl rfl rfl rfl rfl <| qO rfl <| zN0 rfl zm30 rfl rfl <| qN <| zB <| zB <| qR rfl <| qL rfl rfl rfl rfl ta24 rfl ?_
  refine qX rfl rfl rfl rfl co36 (rIsSchema_spec (.mk k ins) _) ?_
  rw [h]
  refine qO rfl <| zG1 rfl rfl <| qM rfl rfl rfl <| qS rfl <| qS rfl <| qS rfl <| qP rfl rfl rfl rfl <| qN <| zW rfl (rfl) <| zB <| qR rfl <| qO rfl <| zW1 rfl zS0 zm30 .nil (by kernel_rfl) ?_
  refine qO rfl <| zH0 rfl rfl rfl rfl sz30 rfl rfl (zA rfl) rfl <| qN <| zK ?_
  rw [hbot]
  exact zI2 (y := encV (noV)) (.inr rfl) Tryz.results37 rfl rfl ta30 rfl (.agg (.cons (.refl _) (.cons (.refl _) (.cons (.nil _) (.cons (.nil _) (.cons (.nil _) .nil)))))) (zJ1 _ _) ⟨rfl, rfl⟩
theorem rNone_spec (s : Sch) (x : Val) (S : MS) : MCalls Tryz.prog 29 [encS s, encV x] S fun v σ' => v = .bool (noneF s x) ∧ σ' = S := by
 obtain ⟨k, ins⟩ := s
 obtain ⟨n, m, s, c, w⟩ := x
 refine zU Tryz.func29 rfl Tryz.ntmps29 (zA rfl) ?_
 refine zB <| qR rfl <| qB rfl rfl rfl rfl rfl <| qB rfl rfl rfl rfl rfl <| qA rfl rfl rfl <| qN <| zB ?_
 refine zU0 [] [_] mo (by decide) rfl rfl rfl rfl ?_
 refine dO rfl rfl rfl (zD0 rfl rfl rfl ta30 rfl ⟨rfl, rfl⟩) <| dO rfl rfl rfl (zD0 rfl rfl rfl ta24 rfl ⟨rfl, rfl⟩) <| zS rfl rfl (.cons (zH1 rfl rfl rfl co37 (rBottom_spec (.mk k ins) _)) .nil) <| zS rfl rfl (.cons (zH1 rfl rfl rfl co12 (rSame_spec (.mk n m s c w) (BottomF (.mk k ins)) _)) .nil) <| dO rfl rfl rfl (zB1 rfl rfl ⟨rfl, rfl⟩) <| zL0 <| zK ?_
 exact zQ (.inr rfl) Tryz.results29 rfl (.of_eq (by unfold noneF; congr 1; rw [zF]; simp only [decide_eq_true_eq]; exact eq_comm)) (.bool _) ⟨rfl, rfl⟩
theorem rRises_spec (l : List Bs) (S : MS) : MCalls Tryz.prog 78 [.lst none 1 (l.map encX)] S fun v σ' => v = .bool (risesF l) ∧ σ' = S := by
 refine zU Tryz.func78 rfl Tryz.ntmps78 (zA rfl) ?_
 refine zN2 (t := 0) rfl fun hlen => ?_
 rw [zC] at hlen
 refine zB <| qR rfl <| qA rfl rfl rfl <| qN <| zB <| zB <| qR rfl <| qA rfl rfl rfl <| qN <| zB0 ?_
 refine zV1 (α := Nat) [(0, _)] (fun j => [(3, .int .i64 ((j + 1 : Nat) : Int))]) (fun j => []) (fun j => j ≤ l.length ∧ ∀ i, i < j → i + 1 < l.length → Op.bytesLess (l.getD i []) (l.getD (i + 1) []) = true) (fun j => l.length + 1 - j) (0) (.keep rfl (.nil)) (.keep rfl (.nil)) (⟨by omega, fun i hi => by omega⟩) (rfl) ?_
 rintro j ⟨hj, hall⟩
 refine zB <| zB <| qR rfl <| qM rfl rfl rfl <| qM rfl rfl rfl <| qE rfl rfl zX rfl <| qC rfl rfl rfl rfl rfl <| qN ?_
 refine zJ rfl (fun h7 => ?_) (fun h7 => ?_)
 ·
  have hlt : j + 1 < l.length := by rw [zC] at h7; simp at h7; omega
  obtain ⟨a, hs⟩ : ∃ a, l[j]? = some a := ⟨_, zD (by omega)⟩
  obtain ⟨b, hs2⟩ : ∃ a, l[j + 1]? = some a := ⟨_, zD hlt⟩
  have ha : l.getD j [] = a := by simp [hs]
  have hb : l.getD (j + 1) [] = b := by simp [hs2]
  refine zA0 <| zB <| zB0 <| zB ?_
  refine zU0 [] [_] mo (by decide) rfl rfl rfl rfl ?_
  refine dO rfl rfl rfl (zV rfl rfl ⟨rfl, rfl⟩) <| dO rfl rfl rfl (zV rfl rfl ⟨rfl, rfl⟩) <| dO rfl rfl rfl (zY0 rfl rfl rfl (wsub (a := j + 1) (b := 1) (c := j) (by omega) (by simp only [maxLen] at hlen; omega)) ⟨rfl, rfl⟩) ?_
  refine dO rfl rfl rfl (zG rfl zX sz9 (by decide) rfl rfl rfl (zV0 hs) ⟨rfl, rfl⟩) ?_
  refine dO rfl rfl rfl (zH rfl rfl ta9 rfl ⟨rfl, rfl⟩) <| dO rfl rfl rfl (zV rfl rfl ⟨rfl, rfl⟩) <| dO rfl rfl rfl (zV rfl rfl ⟨rfl, rfl⟩) <| dO rfl rfl rfl (zG rfl zX sz9 (by decide) rfl rfl rfl (zV0 hs2) ⟨rfl, rfl⟩) ?_
  refine dO rfl rfl rfl (zH rfl rfl ta9 rfl ⟨rfl, rfl⟩) <| dO rfl rfl rfl (zG3 rfl rfl rfl rfl ⟨rfl, rfl⟩) <| zL0 ?_
  refine zJ rfl (fun h19 => ?_) (fun h19 => ?_)
  ·
   refine zB <| qR rfl <| qA rfl rfl rfl <| qN <| zK ?_
   exact zQ (.inr rfl) Tryz.results78 rfl (.of_eq (by congr 1; symm; cases h : risesF l with | false => rfl | true => (have := (rises_iff l).1 h j hlt; rw [ha, hb] at this; simp [this] at h19))) (.bool _) ⟨rfl, rfl⟩
  ·
   refine zA0 <| qR rfl <| qM rfl rfl rfl <| qO rfl <| zY0 rfl rfl rfl rfl <| qA rfl rfl rfl <| qN ?_
   refine ⟨j + 1, by omega, ⟨by omega, fun i hi hi2 => ?_⟩, rfl, (.keep rfl (.nil)), (.eq rfl (zM1 hlt hlen) (.nil))⟩
   by_cases e : i = j
   ·subst e; rw [ha, hb]; simpa using h19
   ·exact hall i (by omega) hi2
 ·
  have hge : l.length ≤ j + 1 := by rw [zC] at h7; simp at h7; omega
  refine zN1 <| zB <| qR rfl <| qA rfl rfl rfl <| qN <| zK ?_
  exact zQ (.inr rfl) Tryz.results78 rfl (.of_eq (by congr 1; symm; exact (rises_iff l).2 fun i hi => hall i (by omega) hi)) (.bool _) ⟨rfl, rfl⟩
theorem _root_.zH5 : type_of% @rRises_spec := @rRises_spec
theorem rShort_spec (l : List Bs) (S : MS) : MCalls Tryz.prog 123 [.lst none 1 (l.map encX)] S fun v σ' => v = .bool (shortF l) ∧ σ' = S := by
 refine zU Tryz.func123 rfl Tryz.ntmps123 (zA rfl) ?_
 refine zN2 (t := 0) rfl fun hlen => ?_
 rw [zC] at hlen
 refine zB <| qR rfl <| qA rfl rfl rfl <| qN <| zB <| zB <| qR rfl <| qA rfl rfl rfl <| qN <| zB0 ?_
 refine zV1 (α := Nat) [(0, _)] (fun i => [(3, .int .i64 (i : Int))]) (fun i => []) (fun i => i ≤ l.length ∧ shortF (l.take i) = true) (fun i => l.length - i) (0) (.keep rfl (.nil)) (.keep rfl (.nil)) (⟨by omega, rfl⟩) (rfl) ?_
 rintro i ⟨hi, hall⟩
 refine zB <| zB <| qR rfl <| qM rfl rfl rfl <| qM rfl rfl rfl <| qE rfl rfl zX rfl <| qC rfl rfl rfl rfl rfl <| qN ?_
 refine zJ rfl (fun h7 => ?_) (fun h7 => ?_)
 ·
  have hlt : i < l.length := by simpa using h7
  obtain ⟨s, hs⟩ : ∃ q_, l[i]? = some q_ := ⟨_, zD hlt⟩
  refine zA0 <| zB <| zB0 <| zB <| qR rfl <| qM rfl rfl rfl <| qM rfl rfl rfl <| qO rfl <| zG rfl zX sz9 (by decide) rfl rfl rfl (zV0 hs) ?_
  refine qO rfl <| zH rfl rfl ta9 rfl <| qO rfl <| op_len_bs rfl Tryz.underlying9 rfl <| qC rfl rfl rfl rfl rfl <| qN ?_
  refine zJ rfl (fun h15 => ?_) (fun h15 => ?_)
  ·
   refine zB <| qR rfl <| qA rfl rfl rfl <| qN <| zK ?_
   exact zQ (.inr rfl) Tryz.results123 rfl (.of_eq (by congr 1; symm; unfold shortF; rw [List.all_eq_false]; exact ⟨s, zF0 hs, by simp at h15; simp; omega⟩)) (.bool _) ⟨rfl, rfl⟩
  ·
   refine zA0 <| qR rfl <| qM rfl rfl rfl <| qO rfl <| zY0 rfl rfl rfl rfl <| qA rfl rfl rfl <| qN ?_
   refine ⟨i + 1, by omega, ⟨by omega, ?_⟩, rfl, (.keep rfl (.nil)), (.eq rfl (zM1 hlt hlen) (.nil))⟩
   unfold shortF at hall ⊢
   rw [List.take_add_one, hs, List.all_append, hall]
   simp at h15
   simp
   omega
 ·
  have hge : i = l.length := by simp at h7; omega
  refine zN1 <| zB <| qR rfl <| qA rfl rfl rfl <| qN <| zK ?_
  exact zQ (.inr rfl) Tryz.results123 rfl (.of_eq (by rw [hge, List.take_length] at hall; rw [hall])) (.bool _) ⟨rfl, rfl⟩
theorem _root_.zO0 : type_of% @Tryz.results122 := @Tryz.results122
theorem has_spec (n m : Int) (s : List Bs) (c : List (List Tk)) (w : List Val) (f1 f2 f3 f4 f5 : Bool) (S : MS) : MCalls Tryz.prog 122 [encV (.mk n m s c w), .bool f1, .bool f2, .bool f3, .bool f4, .bool f5] S fun v σ' => v = .bool (hasF (.mk n m s c w) f1 f2 f3 f4 f5) ∧ σ' = S := by
 refine zU Tryz.func122 rfl Tryz.ntmps122 (zA rfl) ?_
 refine zB <| qR rfl <| qB rfl rfl rfl rfl rfl <| qA rfl rfl rfl <| qN <| zB <| qR rfl <| qM rfl rfl rfl <| qM rfl rfl rfl ?_
 refine zG0 (fun h14 => ?_) (fun h14 => ?_)
 ·
  refine qS rfl <| qS rfl <| qS rfl <| qP rfl rfl rfl rfl <| qM rfl rfl rfl <| qM rfl rfl rfl <| qM rfl rfl rfl ?_
  refine zG0 (fun h21 => ?_) (fun h21 => ?_)
  ·
   refine qS rfl <| qS rfl <| qS rfl <| qP rfl rfl rfl rfl <| qP rfl rfl rfl rfl <| qM rfl rfl rfl <| qM rfl rfl rfl <| qM rfl rfl rfl ?_
   refine zG0 (fun h29 => ?_) (fun h29 => ?_)
   ·
    refine qT rfl rfl rfl rfl <| qP rfl rfl rfl rfl <| qP rfl rfl rfl rfl <| qM rfl rfl rfl <| qM rfl rfl rfl <| qM rfl rfl rfl ?_
    refine zG0 (fun h38 => ?_) (fun h38 => ?_)
    ·
     refine qT rfl rfl rfl rfl <| qP rfl rfl rfl rfl <| qP rfl rfl rfl rfl <| qM rfl rfl rfl <| qM rfl rfl rfl <| qM rfl rfl rfl ?_
     refine zG0 (fun h47 => ?_) (fun h47 => ?_)
     ·
      refine qT rfl rfl rfl rfl <| qP rfl rfl rfl rfl <| qP rfl rfl rfl rfl <| qA rfl rfl rfl <| qN <| zK ?_
      exact zQ (.inr rfl) zO0 rfl (.of_eq (by congr 1; rw [zF]; simp_all [hasF, Val.nv, Val.mv, Val.sv, Val.cv, Val.vv])) (.bool _) ⟨rfl, rfl⟩
     ·
      refine qF rfl rfl rfl zF1 <| qL rfl rfl rfl rfl ta28 rfl <| qE rfl rfl zO rfl ?_
      try rw [zR]
      refine qC rfl rfl rfl rfl rfl <| qP rfl rfl rfl rfl <| qP rfl rfl rfl rfl <| qA rfl rfl rfl <| qN <| zK ?_
      exact zQ (.inr rfl) zO0 rfl (.of_eq (by congr 1; rw [zF]; simp_all [hasF, Val.nv, Val.mv, Val.sv, Val.cv, Val.vv])) (.bool _) ⟨rfl, rfl⟩
    ·
     refine qF rfl rfl rfl zI1 <| qL rfl rfl rfl rfl ta27 rfl <| qE rfl rfl zM rfl <| qC rfl rfl rfl rfl rfl <| qP rfl rfl rfl rfl <| qP rfl rfl rfl rfl <| qM rfl rfl rfl ?_
     refine zG0 (fun h45 => ?_) (fun h45 => ?_)
     ·
      refine qM rfl rfl rfl <| qM rfl rfl rfl ?_
      refine zG0 (fun h47 => ?_) (fun h47 => ?_)
      ·
       refine qT rfl rfl rfl rfl <| qP rfl rfl rfl rfl <| qP rfl rfl rfl rfl <| qA rfl rfl rfl <| qN <| zK ?_
       exact zQ (.inr rfl) zO0 rfl (.of_eq (by congr 1; rw [zF]; simp_all [hasF, Val.nv, Val.mv, Val.sv, Val.cv, Val.vv])) (.bool _) ⟨rfl, rfl⟩
      ·
       refine qF rfl rfl rfl zF1 <| qL rfl rfl rfl rfl ta28 rfl <| qE rfl rfl zO rfl ?_
       try rw [zR]
       refine qC rfl rfl rfl rfl rfl <| qP rfl rfl rfl rfl <| qP rfl rfl rfl rfl <| qA rfl rfl rfl <| qN <| zK ?_
       exact zQ (.inr rfl) zO0 rfl (.of_eq (by congr 1; rw [zF]; simp_all [hasF, Val.nv, Val.mv, Val.sv, Val.cv, Val.vv])) (.bool _) ⟨rfl, rfl⟩
     ·
      refine qT rfl rfl rfl rfl <| qS rfl <| qS rfl <| qS rfl <| qP rfl rfl rfl rfl <| qA rfl rfl rfl <| qN <| zK ?_
      exact zQ (.inr rfl) zO0 rfl (.of_eq (by congr 1; rw [zF]; simp_all [hasF, Val.nv, Val.mv, Val.sv, Val.cv, Val.vv])) (.bool _) ⟨rfl, rfl⟩
   ·
    refine qF rfl rfl rfl zR1 <| qL rfl rfl rfl rfl ta26 rfl <| qE rfl rfl zX rfl <| qC rfl rfl rfl rfl rfl <| qP rfl rfl rfl rfl <| qP rfl rfl rfl rfl <| qM rfl rfl rfl ?_
    refine zG0 (fun h36 => ?_) (fun h36 => ?_)
    ·
     refine qM rfl rfl rfl <| qM rfl rfl rfl ?_
     refine zG0 (fun h38 => ?_) (fun h38 => ?_)
     ·
      refine qT rfl rfl rfl rfl <| qP rfl rfl rfl rfl <| qP rfl rfl rfl rfl <| qM rfl rfl rfl <| qM rfl rfl rfl <| qM rfl rfl rfl ?_
      refine zG0 (fun h47 => ?_) (fun h47 => ?_)
      ·
       refine qT rfl rfl rfl rfl <| qP rfl rfl rfl rfl <| qP rfl rfl rfl rfl <| qA rfl rfl rfl <| qN <| zK ?_
       exact zQ (.inr rfl) zO0 rfl (.of_eq (by congr 1; rw [zF]; simp_all [hasF, Val.nv, Val.mv, Val.sv, Val.cv, Val.vv])) (.bool _) ⟨rfl, rfl⟩
      ·
       refine qF rfl rfl rfl zF1 <| qL rfl rfl rfl rfl ta28 rfl <| qE rfl rfl zO rfl ?_
       try rw [zR]
       refine qC rfl rfl rfl rfl rfl <| qP rfl rfl rfl rfl <| qP rfl rfl rfl rfl <| qA rfl rfl rfl <| qN <| zK ?_
       exact zQ (.inr rfl) zO0 rfl (.of_eq (by congr 1; rw [zF]; simp_all [hasF, Val.nv, Val.mv, Val.sv, Val.cv, Val.vv])) (.bool _) ⟨rfl, rfl⟩
     ·
      refine qF rfl rfl rfl zI1 <| qL rfl rfl rfl rfl ta27 rfl <| qE rfl rfl zM rfl <| qC rfl rfl rfl rfl rfl <| qP rfl rfl rfl rfl <| qP rfl rfl rfl rfl <| qM rfl rfl rfl ?_
      refine zG0 (fun h45 => ?_) (fun h45 => ?_)
      ·
       refine qM rfl rfl rfl <| qM rfl rfl rfl ?_
       refine zG0 (fun h47 => ?_) (fun h47 => ?_)
       ·
        refine qT rfl rfl rfl rfl <| qP rfl rfl rfl rfl <| qP rfl rfl rfl rfl <| qA rfl rfl rfl <| qN <| zK ?_
        exact zQ (.inr rfl) zO0 rfl (.of_eq (by congr 1; rw [zF]; simp_all [hasF, Val.nv, Val.mv, Val.sv, Val.cv, Val.vv])) (.bool _) ⟨rfl, rfl⟩
       ·
        refine qF rfl rfl rfl zF1 <| qL rfl rfl rfl rfl ta28 rfl <| qE rfl rfl zO rfl ?_
        try rw [zR]
        refine qC rfl rfl rfl rfl rfl <| qP rfl rfl rfl rfl <| qP rfl rfl rfl rfl <| qA rfl rfl rfl <| qN <| zK ?_
        exact zQ (.inr rfl) zO0 rfl (.of_eq (by congr 1; rw [zF]; simp_all [hasF, Val.nv, Val.mv, Val.sv, Val.cv, Val.vv])) (.bool _) ⟨rfl, rfl⟩
      ·
       refine qT rfl rfl rfl rfl <| qS rfl <| qS rfl <| qS rfl <| qP rfl rfl rfl rfl <| qA rfl rfl rfl <| qN <| zK ?_
       exact zQ (.inr rfl) zO0 rfl (.of_eq (by congr 1; rw [zF]; simp_all [hasF, Val.nv, Val.mv, Val.sv, Val.cv, Val.vv])) (.bool _) ⟨rfl, rfl⟩
    ·
     refine qT rfl rfl rfl rfl <| qS rfl <| qS rfl <| qS rfl <| qP rfl rfl rfl rfl <| qM rfl rfl rfl <| qT rfl rfl rfl rfl <| qS rfl <| qS rfl <| qS rfl <| qP rfl rfl rfl rfl <| qA rfl rfl rfl <| qN <| zK ?_
     exact zQ (.inr rfl) zO0 rfl (.of_eq (by congr 1; rw [zF]; simp_all [hasF, Val.nv, Val.mv, Val.sv, Val.cv, Val.vv])) (.bool _) ⟨rfl, rfl⟩
  ·
   refine qF rfl rfl rfl zQ4 <| qL rfl rfl rfl rfl ta25 rfl <| qC rfl rfl rfl rfl rfl <| qP rfl rfl rfl rfl <| qP rfl rfl rfl rfl <| qM rfl rfl rfl ?_
   refine zG0 (fun h27 => ?_) (fun h27 => ?_)
   ·
    refine qM rfl rfl rfl <| qM rfl rfl rfl ?_
    refine zG0 (fun h29 => ?_) (fun h29 => ?_)
    ·
     refine qT rfl rfl rfl rfl <| qP rfl rfl rfl rfl <| qP rfl rfl rfl rfl <| qM rfl rfl rfl <| qM rfl rfl rfl <| qM rfl rfl rfl ?_
     refine zG0 (fun h38 => ?_) (fun h38 => ?_)
     ·
      refine qT rfl rfl rfl rfl <| qP rfl rfl rfl rfl <| qP rfl rfl rfl rfl <| qM rfl rfl rfl <| qM rfl rfl rfl <| qM rfl rfl rfl ?_
      refine zG0 (fun h47 => ?_) (fun h47 => ?_)
      ·
       refine qT rfl rfl rfl rfl <| qP rfl rfl rfl rfl <| qP rfl rfl rfl rfl <| qA rfl rfl rfl <| qN <| zK ?_
       exact zQ (.inr rfl) zO0 rfl (.of_eq (by congr 1; rw [zF]; simp_all [hasF, Val.nv, Val.mv, Val.sv, Val.cv, Val.vv])) (.bool _) ⟨rfl, rfl⟩
      ·
       refine qF rfl rfl rfl zF1 <| qL rfl rfl rfl rfl ta28 rfl <| qE rfl rfl zO rfl ?_
       try rw [zR]
       refine qC rfl rfl rfl rfl rfl <| qP rfl rfl rfl rfl <| qP rfl rfl rfl rfl <| qA rfl rfl rfl <| qN <| zK ?_
       exact zQ (.inr rfl) zO0 rfl (.of_eq (by congr 1; rw [zF]; simp_all [hasF, Val.nv, Val.mv, Val.sv, Val.cv, Val.vv])) (.bool _) ⟨rfl, rfl⟩
     ·
      refine qF rfl rfl rfl zI1 <| qL rfl rfl rfl rfl ta27 rfl <| qE rfl rfl zM rfl <| qC rfl rfl rfl rfl rfl <| qP rfl rfl rfl rfl <| qP rfl rfl rfl rfl <| qM rfl rfl rfl ?_
      refine zG0 (fun h45 => ?_) (fun h45 => ?_)
      ·
       refine qM rfl rfl rfl <| qM rfl rfl rfl ?_
       refine zG0 (fun h47 => ?_) (fun h47 => ?_)
       ·
        refine qT rfl rfl rfl rfl <| qP rfl rfl rfl rfl <| qP rfl rfl rfl rfl <| qA rfl rfl rfl <| qN <| zK ?_
        exact zQ (.inr rfl) zO0 rfl (.of_eq (by congr 1; rw [zF]; simp_all [hasF, Val.nv, Val.mv, Val.sv, Val.cv, Val.vv])) (.bool _) ⟨rfl, rfl⟩
       ·
        refine qF rfl rfl rfl zF1 <| qL rfl rfl rfl rfl ta28 rfl <| qE rfl rfl zO rfl ?_
        try rw [zR]
        refine qC rfl rfl rfl rfl rfl <| qP rfl rfl rfl rfl <| qP rfl rfl rfl rfl <| qA rfl rfl rfl <| qN <| zK ?_
        exact zQ (.inr rfl) zO0 rfl (.of_eq (by congr 1; rw [zF]; simp_all [hasF, Val.nv, Val.mv, Val.sv, Val.cv, Val.vv])) (.bool _) ⟨rfl, rfl⟩
      ·
       refine qT rfl rfl rfl rfl <| qS rfl <| qS rfl <| qS rfl <| qP rfl rfl rfl rfl <| qA rfl rfl rfl <| qN <| zK ?_
       exact zQ (.inr rfl) zO0 rfl (.of_eq (by congr 1; rw [zF]; simp_all [hasF, Val.nv, Val.mv, Val.sv, Val.cv, Val.vv])) (.bool _) ⟨rfl, rfl⟩
    ·
     refine qF rfl rfl rfl zR1 <| qL rfl rfl rfl rfl ta26 rfl <| qE rfl rfl zX rfl <| qC rfl rfl rfl rfl rfl <| qP rfl rfl rfl rfl <| qP rfl rfl rfl rfl <| qM rfl rfl rfl ?_
     refine zG0 (fun h36 => ?_) (fun h36 => ?_)
     ·
      refine qM rfl rfl rfl <| qM rfl rfl rfl ?_
      refine zG0 (fun h38 => ?_) (fun h38 => ?_)
      ·
       refine qT rfl rfl rfl rfl <| qP rfl rfl rfl rfl <| qP rfl rfl rfl rfl <| qM rfl rfl rfl <| qM rfl rfl rfl <| qM rfl rfl rfl ?_
       refine zG0 (fun h47 => ?_) (fun h47 => ?_)
       ·
        refine qT rfl rfl rfl rfl <| qP rfl rfl rfl rfl <| qP rfl rfl rfl rfl <| qA rfl rfl rfl <| qN <| zK ?_
        exact zQ (.inr rfl) zO0 rfl (.of_eq (by congr 1; rw [zF]; simp_all [hasF, Val.nv, Val.mv, Val.sv, Val.cv, Val.vv])) (.bool _) ⟨rfl, rfl⟩
       ·
        refine qF rfl rfl rfl zF1 <| qL rfl rfl rfl rfl ta28 rfl <| qE rfl rfl zO rfl ?_
        try rw [zR]
        refine qC rfl rfl rfl rfl rfl <| qP rfl rfl rfl rfl <| qP rfl rfl rfl rfl <| qA rfl rfl rfl <| qN <| zK ?_
        exact zQ (.inr rfl) zO0 rfl (.of_eq (by congr 1; rw [zF]; simp_all [hasF, Val.nv, Val.mv, Val.sv, Val.cv, Val.vv])) (.bool _) ⟨rfl, rfl⟩
      ·
       refine qF rfl rfl rfl zI1 <| qL rfl rfl rfl rfl ta27 rfl <| qE rfl rfl zM rfl <| qC rfl rfl rfl rfl rfl <| qP rfl rfl rfl rfl <| qP rfl rfl rfl rfl <| qM rfl rfl rfl ?_
       refine zG0 (fun h45 => ?_) (fun h45 => ?_)
       ·
        refine qM rfl rfl rfl <| qM rfl rfl rfl ?_
        refine zG0 (fun h47 => ?_) (fun h47 => ?_)
        ·
         refine qT rfl rfl rfl rfl <| qP rfl rfl rfl rfl <| qP rfl rfl rfl rfl <| qA rfl rfl rfl <| qN <| zK ?_
         exact zQ (.inr rfl) zO0 rfl (.of_eq (by congr 1; rw [zF]; simp_all [hasF, Val.nv, Val.mv, Val.sv, Val.cv, Val.vv])) (.bool _) ⟨rfl, rfl⟩
        ·
         refine qF rfl rfl rfl zF1 <| qL rfl rfl rfl rfl ta28 rfl <| qE rfl rfl zO rfl ?_
         try rw [zR]
         refine qC rfl rfl rfl rfl rfl <| qP rfl rfl rfl rfl <| qP rfl rfl rfl rfl <| qA rfl rfl rfl <| qN <| zK ?_
         exact zQ (.inr rfl) zO0 rfl (.of_eq (by congr 1; rw [zF]; simp_all [hasF, Val.nv, Val.mv, Val.sv, Val.cv, Val.vv])) (.bool _) ⟨rfl, rfl⟩
       ·
        refine qT rfl rfl rfl rfl <| qS rfl <| qS rfl <| qS rfl <| qP rfl rfl rfl rfl <| qA rfl rfl rfl <| qN <| zK ?_
        exact zQ (.inr rfl) zO0 rfl (.of_eq (by congr 1; rw [zF]; simp_all [hasF, Val.nv, Val.mv, Val.sv, Val.cv, Val.vv])) (.bool _) ⟨rfl, rfl⟩
     ·
      refine qT rfl rfl rfl rfl <| qS rfl <| qS rfl <| qS rfl <| qP rfl rfl rfl rfl <| qM rfl rfl rfl <| qT rfl rfl rfl rfl <| qS rfl <| qS rfl <| qS rfl <| qP rfl rfl rfl rfl <| qA rfl rfl rfl <| qN <| zK ?_
      exact zQ (.inr rfl) zO0 rfl (.of_eq (by congr 1; rw [zF]; simp_all [hasF, Val.nv, Val.mv, Val.sv, Val.cv, Val.vv])) (.bool _) ⟨rfl, rfl⟩
   ·
    refine qT rfl rfl rfl rfl <| qS rfl <| qS rfl <| qS rfl <| qP rfl rfl rfl rfl <| qM rfl rfl rfl <| qT rfl rfl rfl rfl <| qS rfl <| qS rfl <| qS rfl <| qP rfl rfl rfl rfl <| qM rfl rfl rfl <| qT rfl rfl rfl rfl <| qS rfl <| qS rfl <| qS rfl <| qP rfl rfl rfl rfl ?_
    refine qA rfl rfl rfl <| qN <| zK ?_
    exact zQ (.inr rfl) zO0 rfl (.of_eq (by congr 1; rw [zF]; simp_all [hasF, Val.nv, Val.mv, Val.sv, Val.cv, Val.vv])) (.bool _) ⟨rfl, rfl⟩
 ·
  refine qF rfl rfl rfl zB3 <| qL rfl rfl rfl rfl ta25 rfl <| qC rfl rfl rfl rfl rfl <| qP rfl rfl rfl rfl <| qM rfl rfl rfl ?_
  refine zG0 (fun h19 => ?_) (fun h19 => ?_)
  ·
   refine qM rfl rfl rfl <| qM rfl rfl rfl ?_
   refine zG0 (fun h21 => ?_) (fun h21 => ?_)
   ·
    refine qS rfl <| qS rfl <| qS rfl <| qP rfl rfl rfl rfl <| qP rfl rfl rfl rfl <| qM rfl rfl rfl <| qM rfl rfl rfl <| qM rfl rfl rfl ?_
    refine zG0 (fun h29 => ?_) (fun h29 => ?_)
    ·
     refine qT rfl rfl rfl rfl <| qP rfl rfl rfl rfl <| qP rfl rfl rfl rfl <| qM rfl rfl rfl <| qM rfl rfl rfl <| qM rfl rfl rfl ?_
     refine zG0 (fun h38 => ?_) (fun h38 => ?_)
     ·
      refine qT rfl rfl rfl rfl <| qP rfl rfl rfl rfl <| qP rfl rfl rfl rfl <| qM rfl rfl rfl <| qM rfl rfl rfl <| qM rfl rfl rfl ?_
      refine zG0 (fun h47 => ?_) (fun h47 => ?_)
      ·
       refine qT rfl rfl rfl rfl <| qP rfl rfl rfl rfl <| qP rfl rfl rfl rfl <| qA rfl rfl rfl <| qN <| zK ?_
       exact zQ (.inr rfl) zO0 rfl (.of_eq (by congr 1; rw [zF]; simp_all [hasF, Val.nv, Val.mv, Val.sv, Val.cv, Val.vv])) (.bool _) ⟨rfl, rfl⟩
      ·
       refine qF rfl rfl rfl zF1 <| qL rfl rfl rfl rfl ta28 rfl <| qE rfl rfl zO rfl ?_
       try rw [zR]
       refine qC rfl rfl rfl rfl rfl <| qP rfl rfl rfl rfl <| qP rfl rfl rfl rfl <| qA rfl rfl rfl <| qN <| zK ?_
       exact zQ (.inr rfl) zO0 rfl (.of_eq (by congr 1; rw [zF]; simp_all [hasF, Val.nv, Val.mv, Val.sv, Val.cv, Val.vv])) (.bool _) ⟨rfl, rfl⟩
     ·
      refine qF rfl rfl rfl zI1 <| qL rfl rfl rfl rfl ta27 rfl <| qE rfl rfl zM rfl <| qC rfl rfl rfl rfl rfl <| qP rfl rfl rfl rfl <| qP rfl rfl rfl rfl <| qM rfl rfl rfl ?_
      refine zG0 (fun h45 => ?_) (fun h45 => ?_)
      ·
       refine qM rfl rfl rfl <| qM rfl rfl rfl ?_
       refine zG0 (fun h47 => ?_) (fun h47 => ?_)
       ·
        refine qT rfl rfl rfl rfl <| qP rfl rfl rfl rfl <| qP rfl rfl rfl rfl <| qA rfl rfl rfl <| qN <| zK ?_
        exact zQ (.inr rfl) zO0 rfl (.of_eq (by congr 1; rw [zF]; simp_all [hasF, Val.nv, Val.mv, Val.sv, Val.cv, Val.vv])) (.bool _) ⟨rfl, rfl⟩
       ·
        refine qF rfl rfl rfl zF1 <| qL rfl rfl rfl rfl ta28 rfl <| qE rfl rfl zO rfl ?_
        try rw [zR]
        refine qC rfl rfl rfl rfl rfl <| qP rfl rfl rfl rfl <| qP rfl rfl rfl rfl <| qA rfl rfl rfl <| qN <| zK ?_
        exact zQ (.inr rfl) zO0 rfl (.of_eq (by congr 1; rw [zF]; simp_all [hasF, Val.nv, Val.mv, Val.sv, Val.cv, Val.vv])) (.bool _) ⟨rfl, rfl⟩
      ·
       refine qT rfl rfl rfl rfl <| qS rfl <| qS rfl <| qS rfl <| qP rfl rfl rfl rfl <| qA rfl rfl rfl <| qN <| zK ?_
       exact zQ (.inr rfl) zO0 rfl (.of_eq (by congr 1; rw [zF]; simp_all [hasF, Val.nv, Val.mv, Val.sv, Val.cv, Val.vv])) (.bool _) ⟨rfl, rfl⟩
    ·
     refine qF rfl rfl rfl zR1 <| qL rfl rfl rfl rfl ta26 rfl <| qE rfl rfl zX rfl <| qC rfl rfl rfl rfl rfl <| qP rfl rfl rfl rfl <| qP rfl rfl rfl rfl <| qM rfl rfl rfl ?_
     refine zG0 (fun h36 => ?_) (fun h36 => ?_)
     ·
      refine qM rfl rfl rfl <| qM rfl rfl rfl ?_
      refine zG0 (fun h38 => ?_) (fun h38 => ?_)
      ·
       refine qT rfl rfl rfl rfl <| qP rfl rfl rfl rfl <| qP rfl rfl rfl rfl <| qM rfl rfl rfl <| qM rfl rfl rfl <| qM rfl rfl rfl ?_
       refine zG0 (fun h47 => ?_) (fun h47 => ?_)
       ·
        refine qT rfl rfl rfl rfl <| qP rfl rfl rfl rfl <| qP rfl rfl rfl rfl <| qA rfl rfl rfl <| qN <| zK ?_
        exact zQ (.inr rfl) zO0 rfl (.of_eq (by congr 1; rw [zF]; simp_all [hasF, Val.nv, Val.mv, Val.sv, Val.cv, Val.vv])) (.bool _) ⟨rfl, rfl⟩
       ·
        refine qF rfl rfl rfl zF1 <| qL rfl rfl rfl rfl ta28 rfl <| qE rfl rfl zO rfl ?_
        try rw [zR]
        refine qC rfl rfl rfl rfl rfl <| qP rfl rfl rfl rfl <| qP rfl rfl rfl rfl <| qA rfl rfl rfl <| qN <| zK ?_
        exact zQ (.inr rfl) zO0 rfl (.of_eq (by congr 1; rw [zF]; simp_all [hasF, Val.nv, Val.mv, Val.sv, Val.cv, Val.vv])) (.bool _) ⟨rfl, rfl⟩
      ·
       refine qF rfl rfl rfl zI1 <| qL rfl rfl rfl rfl ta27 rfl <| qE rfl rfl zM rfl <| qC rfl rfl rfl rfl rfl <| qP rfl rfl rfl rfl <| qP rfl rfl rfl rfl <| qM rfl rfl rfl ?_
       refine zG0 (fun h45 => ?_) (fun h45 => ?_)
       ·
        refine qM rfl rfl rfl <| qM rfl rfl rfl ?_
        refine zG0 (fun h47 => ?_) (fun h47 => ?_)
        ·
         refine qT rfl rfl rfl rfl <| qP rfl rfl rfl rfl <| qP rfl rfl rfl rfl <| qA rfl rfl rfl <| qN <| zK ?_
         exact zQ (.inr rfl) zO0 rfl (.of_eq (by congr 1; rw [zF]; simp_all [hasF, Val.nv, Val.mv, Val.sv, Val.cv, Val.vv])) (.bool _) ⟨rfl, rfl⟩
        ·
         refine qF rfl rfl rfl zF1 <| qL rfl rfl rfl rfl ta28 rfl <| qE rfl rfl zO rfl ?_
         try rw [zR]
         refine qC rfl rfl rfl rfl rfl <| qP rfl rfl rfl rfl <| qP rfl rfl rfl rfl <| qA rfl rfl rfl <| qN <| zK ?_
         exact zQ (.inr rfl) zO0 rfl (.of_eq (by congr 1; rw [zF]; simp_all [hasF, Val.nv, Val.mv, Val.sv, Val.cv, Val.vv])) (.bool _) ⟨rfl, rfl⟩
       ·
        refine qT rfl rfl rfl rfl <| qS rfl <| qS rfl <| qS rfl <| qP rfl rfl rfl rfl <| qA rfl rfl rfl <| qN <| zK ?_
        exact zQ (.inr rfl) zO0 rfl (.of_eq (by congr 1; rw [zF]; simp_all [hasF, Val.nv, Val.mv, Val.sv, Val.cv, Val.vv])) (.bool _) ⟨rfl, rfl⟩
     ·
      refine qT rfl rfl rfl rfl <| qS rfl <| qS rfl <| qS rfl <| qP rfl rfl rfl rfl <| qM rfl rfl rfl <| qT rfl rfl rfl rfl <| qS rfl <| qS rfl <| qS rfl <| qP rfl rfl rfl rfl <| qA rfl rfl rfl <| qN <| zK ?_
      exact zQ (.inr rfl) zO0 rfl (.of_eq (by congr 1; rw [zF]; simp_all [hasF, Val.nv, Val.mv, Val.sv, Val.cv, Val.vv])) (.bool _) ⟨rfl, rfl⟩
   ·
    refine qF rfl rfl rfl zQ4 <| qL rfl rfl rfl rfl ta25 rfl <| qC rfl rfl rfl rfl rfl <| qP rfl rfl rfl rfl <| qP rfl rfl rfl rfl <| qM rfl rfl rfl ?_
    refine zG0 (fun h27 => ?_) (fun h27 => ?_)
    ·
     refine qM rfl rfl rfl <| qM rfl rfl rfl ?_
     refine zG0 (fun h29 => ?_) (fun h29 => ?_)
     ·
      refine qT rfl rfl rfl rfl <| qP rfl rfl rfl rfl <| qP rfl rfl rfl rfl <| qM rfl rfl rfl <| qM rfl rfl rfl <| qM rfl rfl rfl ?_
      refine zG0 (fun h38 => ?_) (fun h38 => ?_)
      ·
       refine qT rfl rfl rfl rfl <| qP rfl rfl rfl rfl <| qP rfl rfl rfl rfl <| qM rfl rfl rfl <| qM rfl rfl rfl <| qM rfl rfl rfl ?_
       refine zG0 (fun h47 => ?_) (fun h47 => ?_)
       ·
        refine qT rfl rfl rfl rfl <| qP rfl rfl rfl rfl <| qP rfl rfl rfl rfl <| qA rfl rfl rfl <| qN <| zK ?_
        exact zQ (.inr rfl) zO0 rfl (.of_eq (by congr 1; rw [zF]; simp_all [hasF, Val.nv, Val.mv, Val.sv, Val.cv, Val.vv])) (.bool _) ⟨rfl, rfl⟩
       ·
        refine qF rfl rfl rfl zF1 <| qL rfl rfl rfl rfl ta28 rfl <| qE rfl rfl zO rfl ?_
        try rw [zR]
        refine qC rfl rfl rfl rfl rfl <| qP rfl rfl rfl rfl <| qP rfl rfl rfl rfl <| qA rfl rfl rfl <| qN <| zK ?_
        exact zQ (.inr rfl) zO0 rfl (.of_eq (by congr 1; rw [zF]; simp_all [hasF, Val.nv, Val.mv, Val.sv, Val.cv, Val.vv])) (.bool _) ⟨rfl, rfl⟩
      ·
       refine qF rfl rfl rfl zI1 <| qL rfl rfl rfl rfl ta27 rfl <| qE rfl rfl zM rfl <| qC rfl rfl rfl rfl rfl <| qP rfl rfl rfl rfl <| qP rfl rfl rfl rfl <| qM rfl rfl rfl ?_
       refine zG0 (fun h45 => ?_) (fun h45 => ?_)
       ·
        refine qM rfl rfl rfl <| qM rfl rfl rfl ?_
        refine zG0 (fun h47 => ?_) (fun h47 => ?_)
        ·
         refine qT rfl rfl rfl rfl <| qP rfl rfl rfl rfl <| qP rfl rfl rfl rfl <| qA rfl rfl rfl <| qN <| zK ?_
         exact zQ (.inr rfl) zO0 rfl (.of_eq (by congr 1; rw [zF]; simp_all [hasF, Val.nv, Val.mv, Val.sv, Val.cv, Val.vv])) (.bool _) ⟨rfl, rfl⟩
        ·
         refine qF rfl rfl rfl zF1 <| qL rfl rfl rfl rfl ta28 rfl <| qE rfl rfl zO rfl ?_
         try rw [zR]
         refine qC rfl rfl rfl rfl rfl <| qP rfl rfl rfl rfl <| qP rfl rfl rfl rfl <| qA rfl rfl rfl <| qN <| zK ?_
         exact zQ (.inr rfl) zO0 rfl (.of_eq (by congr 1; rw [zF]; simp_all [hasF, Val.nv, Val.mv, Val.sv, Val.cv, Val.vv])) (.bool _) ⟨rfl, rfl⟩
       ·
        refine qT rfl rfl rfl rfl <| qS rfl <| qS rfl <| qS rfl <| qP rfl rfl rfl rfl <| qA rfl rfl rfl <| qN <| zK ?_
        exact zQ (.inr rfl) zO0 rfl (.of_eq (by congr 1; rw [zF]; simp_all [hasF, Val.nv, Val.mv, Val.sv, Val.cv, Val.vv])) (.bool _) ⟨rfl, rfl⟩
     ·
      refine qF rfl rfl rfl zR1 <| qL rfl rfl rfl rfl ta26 rfl <| qE rfl rfl zX rfl <| qC rfl rfl rfl rfl rfl <| qP rfl rfl rfl rfl <| qP rfl rfl rfl rfl <| qM rfl rfl rfl ?_
      refine zG0 (fun h36 => ?_) (fun h36 => ?_)
      ·
       refine qM rfl rfl rfl <| qM rfl rfl rfl ?_
       refine zG0 (fun h38 => ?_) (fun h38 => ?_)
       ·
        refine qT rfl rfl rfl rfl <| qP rfl rfl rfl rfl <| qP rfl rfl rfl rfl <| qM rfl rfl rfl <| qM rfl rfl rfl <| qM rfl rfl rfl ?_
        refine zG0 (fun h47 => ?_) (fun h47 => ?_)
        ·
         refine qT rfl rfl rfl rfl <| qP rfl rfl rfl rfl <| qP rfl rfl rfl rfl <| qA rfl rfl rfl <| qN <| zK ?_
         exact zQ (.inr rfl) zO0 rfl (.of_eq (by congr 1; rw [zF]; simp_all [hasF, Val.nv, Val.mv, Val.sv, Val.cv, Val.vv])) (.bool _) ⟨rfl, rfl⟩
        ·
         refine qF rfl rfl rfl zF1 <| qL rfl rfl rfl rfl ta28 rfl <| qE rfl rfl zO rfl ?_
         try rw [zR]
         refine qC rfl rfl rfl rfl rfl <| qP rfl rfl rfl rfl <| qP rfl rfl rfl rfl <| qA rfl rfl rfl <| qN <| zK ?_
         exact zQ (.inr rfl) zO0 rfl (.of_eq (by congr 1; rw [zF]; simp_all [hasF, Val.nv, Val.mv, Val.sv, Val.cv, Val.vv])) (.bool _) ⟨rfl, rfl⟩
       ·
        refine qF rfl rfl rfl zI1 <| qL rfl rfl rfl rfl ta27 rfl <| qE rfl rfl zM rfl <| qC rfl rfl rfl rfl rfl <| qP rfl rfl rfl rfl <| qP rfl rfl rfl rfl <| qM rfl rfl rfl ?_
        refine zG0 (fun h45 => ?_) (fun h45 => ?_)
        ·
         refine qM rfl rfl rfl <| qM rfl rfl rfl ?_
         refine zG0 (fun h47 => ?_) (fun h47 => ?_)
         ·
          refine qT rfl rfl rfl rfl <| qP rfl rfl rfl rfl <| qP rfl rfl rfl rfl <| qA rfl rfl rfl <| qN <| zK ?_
          exact zQ (.inr rfl) zO0 rfl (.of_eq (by congr 1; rw [zF]; simp_all [hasF, Val.nv, Val.mv, Val.sv, Val.cv, Val.vv])) (.bool _) ⟨rfl, rfl⟩
         ·
          refine qF rfl rfl rfl zF1 <| qL rfl rfl rfl rfl ta28 rfl <| qE rfl rfl zO rfl ?_
          try rw [zR]
          refine qC rfl rfl rfl rfl rfl <| qP rfl rfl rfl rfl <| qP rfl rfl rfl rfl <| qA rfl rfl rfl <| qN <| zK ?_
          exact zQ (.inr rfl) zO0 rfl (.of_eq (by congr 1; rw [zF]; simp_all [hasF, Val.nv, Val.mv, Val.sv, Val.cv, Val.vv])) (.bool _) ⟨rfl, rfl⟩
        ·
         refine qT rfl rfl rfl rfl <| qS rfl <| qS rfl <| qS rfl <| qP rfl rfl rfl rfl <| qA rfl rfl rfl <| qN <| zK ?_
         exact zQ (.inr rfl) zO0 rfl (.of_eq (by congr 1; rw [zF]; simp_all [hasF, Val.nv, Val.mv, Val.sv, Val.cv, Val.vv])) (.bool _) ⟨rfl, rfl⟩
      ·
       refine qT rfl rfl rfl rfl <| qS rfl <| qS rfl <| qS rfl <| qP rfl rfl rfl rfl <| qM rfl rfl rfl <| qT rfl rfl rfl rfl <| qS rfl <| qS rfl <| qS rfl <| qP rfl rfl rfl rfl <| qA rfl rfl rfl <| qN <| zK ?_
       exact zQ (.inr rfl) zO0 rfl (.of_eq (by congr 1; rw [zF]; simp_all [hasF, Val.nv, Val.mv, Val.sv, Val.cv, Val.vv])) (.bool _) ⟨rfl, rfl⟩
    ·
     refine qT rfl rfl rfl rfl <| qS rfl <| qS rfl <| qS rfl <| qP rfl rfl rfl rfl <| qM rfl rfl rfl <| qT rfl rfl rfl rfl <| qS rfl <| qS rfl <| qS rfl <| qP rfl rfl rfl rfl <| qM rfl rfl rfl <| qT rfl rfl rfl rfl <| qS rfl <| qS rfl <| qS rfl <| qP rfl rfl rfl rfl ?_
     refine qA rfl rfl rfl <| qN <| zK ?_
     exact zQ (.inr rfl) zO0 rfl (.of_eq (by congr 1; rw [zF]; simp_all [hasF, Val.nv, Val.mv, Val.sv, Val.cv, Val.vv])) (.bool _) ⟨rfl, rfl⟩
  ·
   refine qT rfl rfl rfl rfl <| qS rfl <| qS rfl <| qP rfl rfl rfl rfl <| qM rfl rfl rfl <| qT rfl rfl rfl rfl <| qS rfl <| qS rfl <| qS rfl <| qP rfl rfl rfl rfl <| qM rfl rfl rfl <| qT rfl rfl rfl rfl <| qS rfl <| qS rfl <| qS rfl <| qP rfl rfl rfl rfl ?_
   refine qM rfl rfl rfl <| qT rfl rfl rfl rfl <| qS rfl <| qS rfl <| qS rfl <| qP rfl rfl rfl rfl <| qA rfl rfl rfl <| qN <| zK ?_
   exact zQ (.inr rfl) zO0 rfl (.of_eq (by congr 1; rw [zF]; simp_all [hasF, Val.nv, Val.mv, Val.sv, Val.cv, Val.vv])) (.bool _) ⟨rfl, rfl⟩
theorem rAhead_spec (a b : List Tk) (S : MS) : MCalls Tryz.prog 111 [.lst none 2 (a.map encT), .lst none 2 (b.map encT)] S fun v σ' => v = .bool (aheadF a b) ∧ σ' = S := by
 refine zU Tryz.func111 rfl Tryz.ntmps111 (zA rfl) ?_
 refine zN2 (t := 0) rfl fun hlen => ?_
 rw [zC] at hlen
 refine zB <| qR rfl <| qA rfl rfl rfl <| qN <| zB <| zB <| qR rfl <| qA rfl rfl rfl <| qN <| zB0 ?_
 refine zV1 (α := Nat) [(0, _), (1, _)] (fun i => [(5, .int .i64 (i : Int))]) (fun i => []) (fun i => i ≤ a.length ∧ i ≤ b.length ∧ aheadF (a.drop i) (b.drop i) = aheadF a b) (fun i => a.length - i) (0) (.keep rfl (.keep rfl (.nil))) (.keep rfl (.nil)) (⟨by omega, by omega, rfl⟩) (rfl) ?_
 rintro i ⟨hi, hib, he⟩
 refine zB <| zB <| qR rfl <| qM rfl rfl rfl <| qM rfl rfl rfl <| qE rfl rfl zP rfl <| qC rfl rfl rfl rfl rfl <| qM rfl rfl rfl ?_
 refine zG0 (fun h10 => ?_) (fun h10 => ?_)
 ·
  have hlt : i < a.length := by rw [zC] at h10; simpa using h10
  obtain ⟨x, hs⟩ : ∃ q, a[i]? = some q := ⟨_, zD hlt⟩
  refine qM rfl rfl rfl <| qM rfl rfl rfl <| qE rfl rfl zP rfl <| qC rfl rfl rfl rfl rfl <| qP rfl rfl rfl rfl <| qN ?_
  refine zJ rfl (fun h15 => ?_) (fun h15 => ?_)
  ·
   have hltb : i < b.length := by rw [zC] at h15; simpa using h15
   obtain ⟨y, hs2⟩ : ∃ q, b[i]? = some q := ⟨_, zD hltb⟩
   refine zA0 <| zB <| zB0 <| zB <| zB ?_
   refine zU0 [] [_] mo (by decide) rfl rfl rfl rfl ?_
   refine dO rfl rfl rfl (zV rfl rfl ⟨rfl, rfl⟩) <| dO rfl rfl rfl (zV rfl rfl ⟨rfl, rfl⟩) <| dO rfl rfl rfl (zG rfl zP sz59 (by decide) rfl rfl rfl (zV0 hs) ⟨rfl, rfl⟩) ?_
   refine dO rfl rfl rfl (zP0 rfl rfl zI3 ⟨rfl, rfl⟩) <| dO rfl rfl rfl (zH rfl rfl ta3 rfl ⟨rfl, rfl⟩) <| dO rfl rfl rfl (zV rfl rfl ⟨rfl, rfl⟩) <| dO rfl rfl rfl (zV rfl rfl ⟨rfl, rfl⟩) <| dO rfl rfl rfl (zG rfl zP sz59 (by decide) rfl rfl rfl (zV0 hs2) ⟨rfl, rfl⟩) ?_
   refine dO rfl rfl rfl (zP0 rfl rfl zI3 ⟨rfl, rfl⟩) <| dO rfl rfl rfl (zH rfl rfl ta3 rfl ⟨rfl, rfl⟩) <| dO rfl rfl rfl (zE2 rfl rfl rfl rfl ⟨rfl, rfl⟩) <| zL0 ?_
   refine zJ rfl (fun h28 => ?_) (fun h28 => ?_)
   ·
    refine zB ?_
    refine zU0 [] [_] mo (by decide) rfl rfl rfl rfl ?_
    refine dO rfl rfl rfl (zV rfl rfl ⟨rfl, rfl⟩) <| dO rfl rfl rfl (zV rfl rfl ⟨rfl, rfl⟩) <| dO rfl rfl rfl (zG rfl zP sz59 (by decide) rfl rfl rfl (zV0 hs) ⟨rfl, rfl⟩) ?_
    refine dO rfl rfl rfl (zP0 rfl rfl zI3 ⟨rfl, rfl⟩) <| dO rfl rfl rfl (zH rfl rfl ta3 rfl ⟨rfl, rfl⟩) <| dO rfl rfl rfl (zV rfl rfl ⟨rfl, rfl⟩) <| dO rfl rfl rfl (zV rfl rfl ⟨rfl, rfl⟩) <| dO rfl rfl rfl (zG rfl zP sz59 (by decide) rfl rfl rfl (zV0 hs2) ⟨rfl, rfl⟩) ?_
    refine dO rfl rfl rfl (zP0 rfl rfl zI3 ⟨rfl, rfl⟩) <| dO rfl rfl rfl (zH rfl rfl ta3 rfl ⟨rfl, rfl⟩) <| dO rfl rfl rfl (zE2 rfl rfl rfl rfl ⟨rfl, rfl⟩) <| dO rfl rfl rfl (zB1 rfl rfl ⟨rfl, rfl⟩) <| zL0 <| zK ?_
    exact zQ (.inr rfl) Tryz.results111 rfl (.of_eq (by rw [← he, zO4 hs, zO4 hs2, aheadF, if_pos (by simpa using h28)])) (.bool _) ⟨rfl, rfl⟩
   ·
    refine zA0 <| zB ?_
    refine zU0 [] [_] mo (by decide) rfl rfl rfl rfl ?_
    refine dO rfl rfl rfl (zV rfl rfl ⟨rfl, rfl⟩) <| dO rfl rfl rfl (zV rfl rfl ⟨rfl, rfl⟩) <| dO rfl rfl rfl (zG rfl zP sz59 (by decide) rfl rfl rfl (zV0 hs) ⟨rfl, rfl⟩) ?_
    refine dO rfl rfl rfl (zP0 rfl rfl zZ4 ⟨rfl, rfl⟩) <| dO rfl rfl rfl (zH rfl rfl ta25 rfl ⟨rfl, rfl⟩) <| dO rfl rfl rfl (zV rfl rfl ⟨rfl, rfl⟩) <| dO rfl rfl rfl (zV rfl rfl ⟨rfl, rfl⟩) <| dO rfl rfl rfl (zG rfl zP sz59 (by decide) rfl rfl rfl (zV0 hs2) ⟨rfl, rfl⟩) ?_
    refine dO rfl rfl rfl (zP0 rfl rfl zZ4 ⟨rfl, rfl⟩) <| dO rfl rfl rfl (zH rfl rfl ta25 rfl ⟨rfl, rfl⟩) <| dO rfl rfl rfl (zE2 rfl rfl rfl rfl ⟨rfl, rfl⟩) <| zL0 ?_
    refine zJ rfl (fun h50 => ?_) (fun h50 => ?_)
    ·
     refine zB ?_
     refine zU0 [] [_] mo (by decide) rfl rfl rfl rfl ?_
     refine dO rfl rfl rfl (zV rfl rfl ⟨rfl, rfl⟩) <| dO rfl rfl rfl (zV rfl rfl ⟨rfl, rfl⟩) <| dO rfl rfl rfl (zG rfl zP sz59 (by decide) rfl rfl rfl (zV0 hs) ⟨rfl, rfl⟩) ?_
     refine dO rfl rfl rfl (zP0 rfl rfl zZ4 ⟨rfl, rfl⟩) <| dO rfl rfl rfl (zH rfl rfl ta25 rfl ⟨rfl, rfl⟩) <| dO rfl rfl rfl (zV rfl rfl ⟨rfl, rfl⟩) <| dO rfl rfl rfl (zV rfl rfl ⟨rfl, rfl⟩) <| dO rfl rfl rfl (zG rfl zP sz59 (by decide) rfl rfl rfl (zV0 hs2) ⟨rfl, rfl⟩) ?_
     refine dO rfl rfl rfl (zP0 rfl rfl zZ4 ⟨rfl, rfl⟩) <| dO rfl rfl rfl (zH rfl rfl ta25 rfl ⟨rfl, rfl⟩) <| dO rfl rfl rfl (zE2 rfl rfl rfl rfl ⟨rfl, rfl⟩) <| dO rfl rfl rfl (zB1 rfl rfl ⟨rfl, rfl⟩) <| zL0 <| zK ?_
     exact zQ (.inr rfl) Tryz.results111 rfl (.of_eq (by rw [← he, zO4 hs, zO4 hs2, aheadF, if_neg (by simpa using h28), if_pos (by simpa using h50)])) (.bool _) ⟨rfl, rfl⟩
    ·
     refine zA0 <| qR rfl <| qM rfl rfl rfl <| qO rfl <| zY0 rfl rfl rfl rfl <| qA rfl rfl rfl <| qN ?_
     refine ⟨i + 1, by omega, ⟨by omega, by omega, by rw [← he, zO4 hs, zO4 hs2, aheadF, if_neg (by simpa using h28), if_neg (by simpa using h50)]⟩, rfl, (.keep rfl (.keep rfl (.nil))), (.eq rfl (zM1 hlt hlen) (.nil))⟩
  ·
   have hgb : i = b.length := by rw [zC] at h15; simp at h15; omega
   have hE : aheadF a b = decide ((a.map encT).length < (b.map encT).length) := by rw [← he, hgb, List.drop_length, ahead_nil2]; simp; try omega
   refine zN1 <| zB <| qR rfl <| qM rfl rfl rfl <| qE rfl rfl zP rfl <| qM rfl rfl rfl <| qE rfl rfl zP rfl <| qC rfl rfl rfl rfl rfl <| qA rfl rfl rfl <| qN <| zK ?_
   exact zQ (.inr rfl) Tryz.results111 rfl (.of_eq (by rw [hE]; congr 1; rw [zF]; simp only [decide_eq_true_eq]; omega)) (.bool _) ⟨rfl, rfl⟩
 ·
  have hge : i = a.length := by rw [zC] at h10; simp at h10; omega
  have hE : aheadF a b = decide ((a.map encT).length < (b.map encT).length) := by rw [← he, hge, List.drop_length, ahead_nil]; simp; try omega
  refine qT rfl rfl rfl rfl <| qP rfl rfl rfl rfl <| qN <| zL rfl (rfl) <| zN1 <| zB <| qR rfl <| qM rfl rfl rfl <| qE rfl rfl zP rfl <| qM rfl rfl rfl <| qE rfl rfl zP rfl <| qC rfl rfl rfl rfl rfl <| qA rfl rfl rfl <| qN <| zK ?_
  exact zQ (.inr rfl) Tryz.results111 rfl (.of_eq (by rw [hE]; congr 1; rw [zF]; simp only [decide_eq_true_eq]; omega)) (.bool _) ⟨rfl, rfl⟩
theorem _root_.zO5 : type_of% @Tryz.ntmps77 := @Tryz.ntmps77
theorem _root_.zX1 : type_of% @Tryz.results77 := @Tryz.results77
theorem fits_spec (k : Int) (ins : List Sch) (hk : k = 1 ∨ k = 2 ∨ k = 3 ∨ k = 4 ∨ k = 5 ∨ k = 6 ∨ k = 7 ∨ k = 8) (n m : Int) (s : List Bs) (c : List (List Tk)) (w : List Val) (S : MS) : MCalls Tryz.prog 77 [encS (.mk k ins), encV (.mk n m s c w)] S fun v σ' => v = .bool (fitsF k (.mk n m s c w)) ∧ σ' = S := by
 rcases hk with rfl | rfl | rfl | rfl | rfl | rfl | rfl | rfl
 ·
  refine zU zD5 rfl zO5 (zA rfl) ?_
  refine zB <| qR rfl <| qB rfl rfl rfl rfl rfl <| qB rfl rfl rfl rfl rfl <| qA rfl rfl rfl <| qN <| zB <| zB <| qR rfl <| qF rfl rfl rfl zG2 <| qL rfl rfl rfl rfl ta3 rfl <| qN <| zB0 <| zB <| qR rfl <| qC rfl rfl rfl rfl rfl <| qA rfl rfl rfl <| qN <| zW rfl (rfl) <| zB <| qR rfl <| qL rfl rfl rfl rfl ta30 rfl ?_
  refine qX rfl rfl rfl rfl co122 (has_spec n m _ c w true false false false false _) ?_
  refine qA rfl rfl rfl <| qN <| zK ?_
  exact zQ (.inr rfl) zX1 rfl (.of_eq (by rw [zP4 1]; first | rfl | (congr 1; rw [zF]; simp_all [zR]; done) | (congr 1; rw [zF]; simp_all [zR]; omega))) (.bool _) ⟨rfl, rfl⟩
 ·
  refine zU zD5 rfl zO5 (zA rfl) ?_
  refine zB <| qR rfl <| qB rfl rfl rfl rfl rfl <| qB rfl rfl rfl rfl rfl <| qA rfl rfl rfl <| qN <| zB <| zB <| qR rfl <| qF rfl rfl rfl zG2 <| qL rfl rfl rfl rfl ta3 rfl <| qN <| zB0 <| zB <| qR rfl <| qC rfl rfl rfl rfl rfl <| qA rfl rfl rfl <| qN <| zL rfl (rfl) <| zB <| qR rfl <| qC rfl rfl rfl rfl rfl ?_
  refine qA rfl rfl rfl <| qN <| zW rfl (rfl) <| zB <| qR rfl <| qL rfl rfl rfl rfl ta30 rfl ?_
  refine qX rfl rfl rfl rfl co122 (has_spec n m _ c w true false false false false _) ?_
  refine qM rfl rfl rfl ?_
  refine zG0 (fun h15 => ?_) (fun h15 => ?_)
  ·
   refine qF rfl rfl rfl zB3 <| qL rfl rfl rfl rfl ta25 rfl <| qC rfl rfl rfl rfl rfl <| qP rfl rfl rfl rfl <| qA rfl rfl rfl <| qN <| zK ?_
   exact zQ (.inr rfl) zX1 rfl (.of_eq (by rw [zP4 2]; first | rfl | (congr 1; rw [zF]; simp_all [zR]; done) | (congr 1; rw [zF]; simp_all [zR]; omega))) (.bool _) ⟨rfl, rfl⟩
  ·
   refine qS rfl <| qS rfl <| qS rfl <| qP rfl rfl rfl rfl <| qA rfl rfl rfl <| qN <| zK ?_
   exact zQ (.inr rfl) zX1 rfl (.of_eq (by rw [zP4 2]; first | rfl | (congr 1; rw [zF]; simp_all [zR]; done) | (congr 1; rw [zF]; simp_all [zR]; omega))) (.bool _) ⟨rfl, rfl⟩
 ·
  refine zU zD5 rfl zO5 (zA rfl) ?_
  refine zB <| qR rfl <| qB rfl rfl rfl rfl rfl <| qB rfl rfl rfl rfl rfl <| qA rfl rfl rfl <| qN <| zB <| zB <| qR rfl <| qF rfl rfl rfl zG2 <| qL rfl rfl rfl rfl ta3 rfl <| qN <| zB0 <| zB <| qR rfl <| qC rfl rfl rfl rfl rfl <| qA rfl rfl rfl <| qN <| zL rfl (rfl) <| zB <| qR rfl <| qC rfl rfl rfl rfl rfl ?_
  refine qA rfl rfl rfl <| qN <| zL rfl (rfl) <| zB <| qR rfl <| qC rfl rfl rfl rfl rfl <| qA rfl rfl rfl <| qN <| zW rfl (rfl) <| zB <| qR rfl <| qL rfl rfl rfl rfl ta30 rfl ?_
  refine qX rfl rfl rfl rfl co122 (has_spec n m _ c w false false true false false _) ?_
  refine qM rfl rfl rfl ?_
  refine zG0 (fun h24 => ?_) (fun h24 => ?_)
  ·
   refine qF rfl rfl rfl zR1 <| qL rfl rfl rfl rfl ta26 rfl ?_
   refine qX rfl rfl rfl rfl co123 (rShort_spec s _) ?_
   refine qP rfl rfl rfl rfl <| qA rfl rfl rfl <| qN <| zK ?_
   exact zQ (.inr rfl) zX1 rfl (.of_eq (by rw [zP4 3]; first | rfl | (congr 1; rw [zF]; simp_all [zR]; done) | (congr 1; rw [zF]; simp_all [zR]; omega))) (.bool _) ⟨rfl, rfl⟩
  ·
   refine qS rfl <| qS rfl <| qS rfl <| qP rfl rfl rfl rfl <| qA rfl rfl rfl <| qN <| zK ?_
   exact zQ (.inr rfl) zX1 rfl (.of_eq (by rw [zP4 3]; first | rfl | (congr 1; rw [zF]; simp_all [zR]; done) | (congr 1; rw [zF]; simp_all [zR]; omega))) (.bool _) ⟨rfl, rfl⟩
 ·
  refine zU zD5 rfl zO5 (zA rfl) ?_
  refine zB <| qR rfl <| qB rfl rfl rfl rfl rfl <| qB rfl rfl rfl rfl rfl <| qA rfl rfl rfl <| qN <| zB <| zB <| qR rfl <| qF rfl rfl rfl zG2 <| qL rfl rfl rfl rfl ta3 rfl <| qN <| zB0 <| zB <| qR rfl <| qC rfl rfl rfl rfl rfl <| qA rfl rfl rfl <| qN <| zL rfl (rfl) <| zB <| qR rfl <| qC rfl rfl rfl rfl rfl ?_
  refine qA rfl rfl rfl <| qN <| zL rfl (rfl) <| zB <| qR rfl <| qC rfl rfl rfl rfl rfl <| qA rfl rfl rfl <| qN <| zL rfl (rfl) <| zB <| qR rfl <| qC rfl rfl rfl rfl rfl <| qA rfl rfl rfl <| qN <| zW rfl (rfl) <| zB <| qR rfl <| qL rfl rfl rfl rfl ta30 rfl ?_
  refine qX rfl rfl rfl rfl co122 (has_spec n m _ c w false false true false true _) ?_
  refine qM rfl rfl rfl ?_
  refine zG0 (fun h33 => ?_) (fun h33 => ?_)
  ·
   refine qF rfl rfl rfl zR1 <| qL rfl rfl rfl rfl ta26 rfl ?_
   refine qX rfl rfl rfl rfl co123 (rShort_spec s _) ?_
   refine qP rfl rfl rfl rfl <| qM rfl rfl rfl ?_
   refine zG0 (fun h38 => ?_) (fun h38 => ?_)
   ·
    refine qF rfl rfl rfl zR1 <| qL rfl rfl rfl rfl ta26 rfl <| qE rfl rfl zX rfl <| qF rfl rfl rfl zF1 <| qL rfl rfl rfl rfl ta28 rfl <| qE rfl rfl zO rfl <| qC rfl rfl rfl rfl rfl <| qP rfl rfl rfl rfl <| qA rfl rfl rfl <| qN <| zK ?_
    exact zQ (.inr rfl) zX1 rfl (.of_eq (by rw [zP4 4]; first | rfl | (congr 1; rw [zF]; simp_all [zR]; done) | (congr 1; rw [zF]; simp_all [zR]; omega))) (.bool _) ⟨rfl, rfl⟩
   ·
    refine qT rfl rfl rfl rfl <| qS rfl <| qS rfl <| qS rfl <| qP rfl rfl rfl rfl <| qA rfl rfl rfl <| qN <| zK ?_
    exact zQ (.inr rfl) zX1 rfl (.of_eq (by rw [zP4 4]; first | rfl | (congr 1; rw [zF]; simp_all [zR]; done) | (congr 1; rw [zF]; simp_all [zR]; omega))) (.bool _) ⟨rfl, rfl⟩
  ·
   refine qS rfl <| qS rfl <| qS rfl <| qP rfl rfl rfl rfl <| qM rfl rfl rfl <| qT rfl rfl rfl rfl <| qS rfl <| qS rfl <| qS rfl <| qP rfl rfl rfl rfl <| qA rfl rfl rfl <| qN <| zK ?_
   exact zQ (.inr rfl) zX1 rfl (.of_eq (by rw [zP4 4]; first | rfl | (congr 1; rw [zF]; simp_all [zR]; done) | (congr 1; rw [zF]; simp_all [zR]; omega))) (.bool _) ⟨rfl, rfl⟩
 ·
  refine zU zD5 rfl zO5 (zA rfl) ?_
  refine zB <| qR rfl <| qB rfl rfl rfl rfl rfl <| qB rfl rfl rfl rfl rfl <| qA rfl rfl rfl <| qN <| zB <| zB <| qR rfl <| qF rfl rfl rfl zG2 <| qL rfl rfl rfl rfl ta3 rfl <| qN <| zB0 <| zB <| qR rfl <| qC rfl rfl rfl rfl rfl <| qA rfl rfl rfl <| qN <| zL rfl (rfl) <| zB <| qR rfl <| qC rfl rfl rfl rfl rfl ?_
  refine qA rfl rfl rfl <| qN <| zL rfl (rfl) <| zB <| qR rfl <| qC rfl rfl rfl rfl rfl <| qA rfl rfl rfl <| qN <| zL rfl (rfl) <| zB <| qR rfl <| qC rfl rfl rfl rfl rfl <| qA rfl rfl rfl <| qN <| zL rfl (rfl) <| zB <| qR rfl <| qC rfl rfl rfl rfl rfl <| qA rfl rfl rfl <| qN <| zW rfl (rfl) <| zB <| qR rfl ?_
  refine qL rfl rfl rfl rfl ta30 rfl ?_
  refine qX rfl rfl rfl rfl co122 (has_spec n m _ c w false false false false true _) ?_
  refine qM rfl rfl rfl ?_
  refine zG0 (fun h51 => ?_) (fun h51 => ?_)
  ·
   refine qF rfl rfl rfl zF1 <| qL rfl rfl rfl rfl ta28 rfl <| qE rfl rfl zO rfl <| qC rfl rfl rfl rfl rfl <| qP rfl rfl rfl rfl <| qA rfl rfl rfl <| qN <| zK ?_
   exact zQ (.inr rfl) zX1 rfl (.of_eq (by rw [zP4 5]; first | rfl | (congr 1; rw [zF]; simp_all [zR]; done) | (congr 1; rw [zF]; simp_all [zR]; omega))) (.bool _) ⟨rfl, rfl⟩
  ·
   refine qT rfl rfl rfl rfl <| qP rfl rfl rfl rfl <| qA rfl rfl rfl <| qN <| zK ?_
   exact zQ (.inr rfl) zX1 rfl (.of_eq (by rw [zP4 5]; first | rfl | (congr 1; rw [zF]; simp_all [zR]; done) | (congr 1; rw [zF]; simp_all [zR]; omega))) (.bool _) ⟨rfl, rfl⟩
 ·
  refine zU zD5 rfl zO5 (zA rfl) ?_
  refine zB <| qR rfl <| qB rfl rfl rfl rfl rfl <| qB rfl rfl rfl rfl rfl <| qA rfl rfl rfl <| qN <| zB <| zB <| qR rfl <| qF rfl rfl rfl zG2 <| qL rfl rfl rfl rfl ta3 rfl <| qN <| zB0 <| zB <| qR rfl <| qC rfl rfl rfl rfl rfl <| qA rfl rfl rfl <| qN <| zL rfl (rfl) <| zB <| qR rfl <| qC rfl rfl rfl rfl rfl ?_
  refine qA rfl rfl rfl <| qN <| zL rfl (rfl) <| zB <| qR rfl <| qC rfl rfl rfl rfl rfl <| qA rfl rfl rfl <| qN <| zL rfl (rfl) <| zB <| qR rfl <| qC rfl rfl rfl rfl rfl <| qA rfl rfl rfl <| qN <| zL rfl (rfl) <| zB <| qR rfl <| qC rfl rfl rfl rfl rfl <| qA rfl rfl rfl <| qN <| zL rfl (rfl) <| zB <| qR rfl ?_
  refine qC rfl rfl rfl rfl rfl <| qA rfl rfl rfl <| qN <| zW rfl (rfl) <| zB <| zB <| qR rfl <| qF rfl rfl rfl zR1 <| qL rfl rfl rfl rfl ta26 rfl <| qE rfl rfl zX rfl <| qC rfl rfl rfl rfl rfl <| qN ?_
  refine zJ rfl (fun h62 => ?_) (fun h62 => ?_)
  ·
   have hs0 : s = [] := by simpa using h62
   subst hs0
   refine zB <| qR rfl <| qL rfl rfl rfl rfl ta30 rfl ?_
   refine qX rfl rfl rfl rfl co122 (has_spec n m _ c w false false false false false _) ?_
   refine qA rfl rfl rfl <| qN <| zK ?_
   exact zQ (.inr rfl) zX1 rfl (.of_eq (by first | (rw [hF]; done) | (rw [fits6_nil]; done) | (rw [zT3]; congr 1; rw [zF]; simp_all [shortF]; done) | (rw [zT3]; congr 1; rw [zF]; simp_all [shortF]; intros; omega) | (congr 1; symm; exact fits6_has hs0 (by simpa using h67)))) (.bool _) ⟨rfl, rfl⟩
  ·
   have hs0 : ¬ s = [] := by simpa using h62
   refine zA0 <| zB <| qR rfl <| qL rfl rfl rfl rfl ta30 rfl ?_
   refine qX rfl rfl rfl rfl co122 (has_spec n m _ c w true true true false false _) ?_
   refine qM rfl rfl rfl ?_
   refine zG0 (fun h67 => ?_) (fun h67 => ?_)
   ·
    refine qF rfl rfl rfl zR1 <| qL rfl rfl rfl rfl ta26 rfl <| qE rfl rfl zX rfl <| qC rfl rfl rfl rfl rfl <| qP rfl rfl rfl rfl <| qM rfl rfl rfl ?_
    refine zG0 (fun h73 => ?_) (fun h73 => ?_)
    ·
     obtain ⟨t, rfl⟩ := one_of (by rw [zC] at h73; simp at h73; omega : s.length = 1)
     refine qF rfl rfl rfl zR1 <| qL rfl rfl rfl rfl ta26 rfl ?_
     refine qX rfl rfl rfl rfl co123 (rShort_spec [t] _) ?_
     refine qP rfl rfl rfl rfl <| qM rfl rfl rfl ?_
     refine zG0 (fun h78 => ?_) (fun h78 => ?_)
     ·
      refine qF rfl rfl rfl zB3 <| qL rfl rfl rfl rfl ta25 rfl <| qC rfl rfl rfl rfl rfl <| qM rfl rfl rfl ?_
      refine zG0 (fun h82 => ?_) (fun h82 => ?_)
      ·
       refine qS rfl <| qS rfl <| qS rfl <| qP rfl rfl rfl rfl <| qM rfl rfl rfl <| qT rfl rfl rfl rfl <| qS rfl <| qP rfl rfl rfl rfl <| qP rfl rfl rfl rfl <| qA rfl rfl rfl <| qN <| zK ?_
       exact zQ (.inr rfl) zX1 rfl (.of_eq (by first | (rw [hF]; done) | (rw [fits6_nil]; done) | (rw [zT3]; congr 1; rw [zF]; simp_all [shortF]; done) | (rw [zT3]; congr 1; rw [zF]; simp_all [shortF]; intros; omega) | (congr 1; symm; exact fits6_has hs0 (by simpa using h67)))) (.bool _) ⟨rfl, rfl⟩
      ·
       refine qF rfl rfl rfl zQ4 <| qL rfl rfl rfl rfl ta25 rfl <| qC rfl rfl rfl rfl rfl <| qP rfl rfl rfl rfl <| qM rfl rfl rfl ?_
       refine zG0 (fun h87 => ?_) (fun h87 => ?_)
       ·
        refine qT rfl rfl rfl rfl <| qS rfl <| qP rfl rfl rfl rfl <| qP rfl rfl rfl rfl <| qA rfl rfl rfl <| qN <| zK ?_
        exact zQ (.inr rfl) zX1 rfl (.of_eq (by first | (rw [hF]; done) | (rw [fits6_nil]; done) | (rw [zT3]; congr 1; rw [zF]; simp_all [shortF]; done) | (rw [zT3]; congr 1; rw [zF]; simp_all [shortF]; intros; omega) | (congr 1; symm; exact fits6_has hs0 (by simpa using h67)))) (.bool _) ⟨rfl, rfl⟩
       ·
        refine qF rfl rfl rfl zR1 <| qL rfl rfl rfl rfl ta26 rfl <| qO rfl <| zG rfl zX sz9 (by decide) rfl rfl rfl (show _ = some (encX t) from rfl) ?_
        refine qO rfl <| zH rfl rfl ta9 rfl <| qO rfl <| zG3 rfl rfl rfl rfl <| qP rfl rfl rfl rfl <| qP rfl rfl rfl rfl <| qA rfl rfl rfl <| qN <| zK ?_
        exact zQ (.inr rfl) zX1 rfl (.of_eq (by first | (rw [hF]; done) | (rw [fits6_nil]; done) | (rw [zT3]; congr 1; rw [zF]; simp_all [shortF]; done) | (rw [zT3]; congr 1; rw [zF]; simp_all [shortF]; intros; omega) | (congr 1; symm; exact fits6_has hs0 (by simpa using h67)))) (.bool _) ⟨rfl, rfl⟩
     ·
      refine qT rfl rfl rfl rfl <| qT rfl rfl rfl rfl <| qT rfl rfl rfl rfl <| qS rfl <| qS rfl <| qS rfl <| qP rfl rfl rfl rfl <| qA rfl rfl rfl <| qN <| zK ?_
      exact zQ (.inr rfl) zX1 rfl (.of_eq (by first | (rw [hF]; done) | (rw [fits6_nil]; done) | (rw [zT3]; congr 1; rw [zF]; simp_all [shortF]; done) | (rw [zT3]; congr 1; rw [zF]; simp_all [shortF]; intros; omega) | (congr 1; symm; exact fits6_has hs0 (by simpa using h67)))) (.bool _) ⟨rfl, rfl⟩
    ·
     have hF : fitsF 6 (.mk n m s c w) = false := fits6_no hs0 (fun e => by rw [zC, e] at h73; simp at h73)
     refine qS rfl <| qS rfl <| qS rfl <| qP rfl rfl rfl rfl <| qM rfl rfl rfl <| qT rfl rfl rfl rfl <| qT rfl rfl rfl rfl <| qT rfl rfl rfl rfl <| qS rfl <| qS rfl <| qS rfl <| qP rfl rfl rfl rfl <| qA rfl rfl rfl <| qN <| zK ?_
     exact zQ (.inr rfl) zX1 rfl (.of_eq (by first | (rw [hF]; done) | (rw [fits6_nil]; done) | (rw [zT3]; congr 1; rw [zF]; simp_all [shortF]; done) | (rw [zT3]; congr 1; rw [zF]; simp_all [shortF]; intros; omega) | (congr 1; symm; exact fits6_has hs0 (by simpa using h67)))) (.bool _) ⟨rfl, rfl⟩
   ·
    refine qT rfl rfl rfl rfl <| qP rfl rfl rfl rfl <| qM rfl rfl rfl <| qS rfl <| qS rfl <| qS rfl <| qP rfl rfl rfl rfl <| qM rfl rfl rfl <| qT rfl rfl rfl rfl <| qT rfl rfl rfl rfl <| qT rfl rfl rfl rfl <| qS rfl <| qS rfl <| qS rfl ?_
    refine qP rfl rfl rfl rfl <| qA rfl rfl rfl <| qN <| zK ?_
    exact zQ (.inr rfl) zX1 rfl (.of_eq (by first | (rw [hF]; done) | (rw [fits6_nil]; done) | (rw [zT3]; congr 1; rw [zF]; simp_all [shortF]; done) | (rw [zT3]; congr 1; rw [zF]; simp_all [shortF]; intros; omega) | (congr 1; symm; exact fits6_has hs0 (by simpa using h67)))) (.bool _) ⟨rfl, rfl⟩
 ·
  refine zU zD5 rfl zO5 (zA rfl) ?_
  refine zB <| qR rfl <| qB rfl rfl rfl rfl rfl <| qB rfl rfl rfl rfl rfl <| qA rfl rfl rfl <| qN <| zB <| zB <| qR rfl <| qF rfl rfl rfl zG2 <| qL rfl rfl rfl rfl ta3 rfl <| qN <| zB0 <| zB <| qR rfl <| qC rfl rfl rfl rfl rfl <| qA rfl rfl rfl <| qN <| zL rfl (rfl) <| zB <| qR rfl <| qC rfl rfl rfl rfl rfl ?_
  refine qA rfl rfl rfl <| qN <| zL rfl (rfl) <| zB <| qR rfl <| qC rfl rfl rfl rfl rfl <| qA rfl rfl rfl <| qN <| zL rfl (rfl) <| zB <| qR rfl <| qC rfl rfl rfl rfl rfl <| qA rfl rfl rfl <| qN <| zL rfl (rfl) <| zB <| qR rfl <| qC rfl rfl rfl rfl rfl <| qA rfl rfl rfl <| qN <| zL rfl (rfl) <| zB <| qR rfl ?_
  refine qC rfl rfl rfl rfl rfl <| qA rfl rfl rfl <| qN <| zL rfl (rfl) <| zB <| qR rfl <| qC rfl rfl rfl rfl rfl <| qA rfl rfl rfl <| qN <| zW rfl (rfl) <| zB <| qR rfl <| qL rfl rfl rfl rfl ta30 rfl ?_
  refine qX rfl rfl rfl rfl co122 (has_spec n m _ c w false false false true false _) ?_
  refine qM rfl rfl rfl ?_
  refine zG0 (fun h99 => ?_) (fun h99 => ?_)
  ·
   refine qF rfl rfl rfl zI1 <| qL rfl rfl rfl rfl ta27 rfl <| qE rfl rfl zM rfl <| qC rfl rfl rfl rfl rfl <| qP rfl rfl rfl rfl <| qA rfl rfl rfl <| qN <| zK ?_
   exact zQ (.inr rfl) zX1 rfl (.of_eq (by rw [zP4 7]; first | rfl | (congr 1; rw [zF]; simp_all [zR]; done) | (congr 1; rw [zF]; simp_all [zR]; omega))) (.bool _) ⟨rfl, rfl⟩
  ·
   refine qT rfl rfl rfl rfl <| qP rfl rfl rfl rfl <| qA rfl rfl rfl <| qN <| zK ?_
   exact zQ (.inr rfl) zX1 rfl (.of_eq (by rw [zP4 7]; first | rfl | (congr 1; rw [zF]; simp_all [zR]; done) | (congr 1; rw [zF]; simp_all [zR]; omega))) (.bool _) ⟨rfl, rfl⟩
 ·
  refine zU zD5 rfl zO5 (zA rfl) ?_
  refine zB <| qR rfl <| qB rfl rfl rfl rfl rfl <| qB rfl rfl rfl rfl rfl <| qA rfl rfl rfl <| qN <| zB <| zB <| qR rfl <| qF rfl rfl rfl zG2 <| qL rfl rfl rfl rfl ta3 rfl <| qN <| zB0 <| zB <| qR rfl <| qC rfl rfl rfl rfl rfl <| qA rfl rfl rfl <| qN <| zL rfl (rfl) <| zB <| qR rfl <| qC rfl rfl rfl rfl rfl ?_
  refine qA rfl rfl rfl <| qN <| zL rfl (rfl) <| zB <| qR rfl <| qC rfl rfl rfl rfl rfl <| qA rfl rfl rfl <| qN <| zL rfl (rfl) <| zB <| qR rfl <| qC rfl rfl rfl rfl rfl <| qA rfl rfl rfl <| qN <| zL rfl (rfl) <| zB <| qR rfl <| qC rfl rfl rfl rfl rfl <| qA rfl rfl rfl <| qN <| zL rfl (rfl) <| zB <| qR rfl ?_
  refine qC rfl rfl rfl rfl rfl <| qA rfl rfl rfl <| qN <| zL rfl (rfl) <| zB <| qR rfl <| qC rfl rfl rfl rfl rfl <| qA rfl rfl rfl <| qN <| zL rfl (rfl) <| zA0 <| zB <| qR rfl <| qL rfl rfl rfl rfl ta30 rfl ?_
  refine qX rfl rfl rfl rfl co122 (has_spec n m _ c w false false false true true _) ?_
  refine qM rfl rfl rfl ?_
  refine zG0 (fun h107 => ?_) (fun h107 => ?_)
  ·
   refine qF rfl rfl rfl zI1 <| qL rfl rfl rfl rfl ta27 rfl <| qE rfl rfl zM rfl <| qF rfl rfl rfl zF1 <| qL rfl rfl rfl rfl ta28 rfl <| qE rfl rfl zO rfl <| qC rfl rfl rfl rfl rfl <| qP rfl rfl rfl rfl <| qA rfl rfl rfl <| qN <| zK ?_
   exact zQ (.inr rfl) zX1 rfl (.of_eq (by rw [zP4 8]; first | rfl | (congr 1; rw [zF]; simp_all [zR]; done) | (congr 1; rw [zF]; simp_all [zR]; omega))) (.bool _) ⟨rfl, rfl⟩
  ·
   refine qT rfl rfl rfl rfl <| qS rfl <| qS rfl <| qS rfl <| qP rfl rfl rfl rfl <| qA rfl rfl rfl <| qN <| zK ?_
   exact zQ (.inr rfl) zX1 rfl (.of_eq (by rw [zP4 8]; first | rfl | (congr 1; rw [zF]; simp_all [zR]; done) | (congr 1; rw [zF]; simp_all [zR]; omega))) (.bool _) ⟨rfl, rfl⟩
theorem _root_.zO6 : type_of% @fits_spec := @fits_spec
theorem rcmp_eq {a b : List Tk} (ha : isClockF a = true) (hb : isClockF b = true) (ua : ∀ t ∈ a, okTk t) (ub : ∀ t ∈ b, okTk t) : rcmpF a b = cmpF a b := by
 obtain ⟨h1, h2, _⟩ := isClock_spec ha ua
 obtain ⟨h3, h4, _⟩ := isClock_spec hb ub
 exact (cmp_eq h1 h3 h2 h4).symm
theorem getD_of {α : Type} {l : List α} {i : Nat} {a d : α} (h : l[i]? = some a) : l.getD i d = a := by simp [h]
theorem sibAt_of {f : Val → Bool} {c : List (List Tk)} {w : List Val} {i : Nat} {x : List Tk} {y : Val} (hs : c[i]? = some x) (hs2 : w[i]? = some y) : sibAt f c w i = (isClockF x && f y && (i == 0 || aheadF (c.getD (i - 1) []) x) && decide (∀ j, j < i → cmpF (c.getD j []) x = 2)) := by
 unfold sibAt
 rw [getD_of hs, getD_of hs2]
theorem sibs_false {f : Val → Bool} {c : List (List Tk)} {w : List Val} {i : Nat} (hlt : i < c.length) (h : sibAt f c w i = false) : sibsF f c w = false := by
 unfold sibsF
 rw [decide_eq_false (p := ∀ i, i < c.length → sibAt f c w i = true) (fun hall => by rw [hall i hlt] at h; cases h), Bool.and_false]
theorem sibs_long {f : Val → Bool} {c : List (List Tk)} {w : List Val} (h : ¬ c.length ≤ 40) : sibsF f c w = false := by
 unfold sibsF
 rw [decide_eq_false h, Bool.false_and]
theorem sibs_true {f : Val → Bool} {c : List (List Tk)} {w : List Val} (h : c.length ≤ 40) (hall : ∀ i, i < c.length → sibAt f c w i = true) : sibsF f c w = true := by
 unfold sibsF
 rw [decide_eq_true h, decide_eq_true hall]; rfl
theorem sibAt_clock {f : Val → Bool} {c : List (List Tk)} {w : List Val} {i : Nat} {x : List Tk} (hs : c[i]? = some x) (h : sibAt f c w i = true) : isClockF x = true := by
 unfold sibAt at h
 rw [getD_of hs] at h
 simp only [Bool.and_eq_true] at h
 exact h.1.1.1
theorem isRF_mk {ins : List Sch} {n m : Int} {s : List Bs} {c : List (List Tk)} {w : List Val} (k : Int) : isRF (.mk k ins) (.mk n m s c w) = (fitsF k (.mk n m s c w) && risesF s && decide (s.length ≤ 40) &&
 (if k = 4 then w.all (fun x => (isRL ins).headD (fun _ => false) x && !noneF (ins.headD default) x)
  else if k = 5 then (match w with | [x, y] => (isRL ins).headD (fun _ => false) x && (isRL ins).tail.headD (fun _ => false) y | _ => false)
  else if k = 7 then (match c with | [] => true | [c] => isClockF c && decide (0 < c.length) | _ => false)
  else if k = 8 then sibsF ((isRL ins).headD (fun _ => false)) c w else true)) := by rw [isRF]; rfl
theorem _root_.zL2 : type_of% @isRF_mk := @isRF_mk
theorem fits5 {n m : Int} {s : List Bs} {c : List (List Tk)} {w : List Val} (h : fitsF 5 (.mk n m s c w) = true) : w.length = 2 := by
 rw [zP4 5] at h; simp at h; exact h.2
theorem fits7 {n m : Int} {s : List Bs} {c : List (List Tk)} {w : List Val} (h : fitsF 7 (.mk n m s c w) = true) : c.length ≤ 1 := by
 rw [zP4 7] at h; simp at h; exact h.2
theorem fits8 {n m : Int} {s : List Bs} {c : List (List Tk)} {w : List Val} (h : fitsF 8 (.mk n m s c w) = true) : c.length = w.length := by
 rw [zP4 8] at h; simp at h; exact h.2
theorem _root_.zK5 : type_of% @Tryz.results80 := @Tryz.results80
theorem sibs_spec (k k1 : Int) (i1 rest : List Sch) (f : Val → Bool) (ih : ∀ x, okV x → ∀ S : MS, MCalls Tryz.prog 46 [encS (.mk k1 i1), encV x] S fun v σ' => v = .bool (f x) ∧ σ' = S) (n m : Int) (s : List Bs) (c : List (List Tk)) (w : List Val) (hl : c.length = w.length) (hc : ∀ x ∈ c, ∀ t ∈ x, okTk t) (hw : ∀ x ∈ w, okV x) (S : MS) : MCalls Tryz.prog 80 [encS (.mk k (.mk k1 i1 :: rest)), encV (.mk n m s c w)] S fun v σ' => v = .bool (sibsF f c w) ∧ σ' = S := by
 refine zU Tryz.func80 rfl Tryz.ntmps80 (zA rfl) ?_
 refine zB <| qR rfl <| qB rfl rfl rfl rfl rfl <| qB rfl rfl rfl rfl rfl <| qA rfl rfl rfl <| qN <| zB <| zB <| qR rfl <| qF rfl rfl rfl zI1 <| qL rfl rfl rfl rfl ta27 rfl <| qE rfl rfl zM rfl <| qC rfl rfl rfl rfl rfl <| qN ?_
 refine zJ rfl (fun h10 => ?_) (fun h10 => ?_)
 ·
  have c40 : ¬ c.length ≤ 40 := by rw [zC] at h10; simp at h10; omega
  refine zB <| qR rfl <| qA rfl rfl rfl <| qN <| zK ?_
  exact zQ (.inr rfl) zK5 rfl (.of_eq (by rw [sibs_long c40])) (.bool _) ⟨rfl, rfl⟩
 ·
  have c40 : c.length ≤ 40 := by rw [zC] at h10; simp at h10; omega
  refine zN2 (t := 8) rfl fun hlen => ?_
  rw [zC] at hlen
  refine zA0 <| zB <| zB <| qR rfl <| qA rfl rfl rfl <| qN <| zB0 ?_
  refine zV1 (α := Nat) [(2, _), (3, _)] (fun i => [(5, .int .i64 (i : Int))]) (fun i => [.cells (encS (.mk k (.mk k1 i1 :: rest))).cells, .cells (encV (.mk n m s c w)).cells]) (fun i => i ≤ c.length ∧ ∀ j, j < i → sibAt f c w j = true) (fun i => c.length - i) (0) (.keep rfl (.keep rfl (.nil))) (.keep rfl (.nil)) (⟨by omega, fun j hj => by omega⟩) (rfl) ?_
  rintro i ⟨hi, hall⟩
  refine zB <| zB <| qR rfl <| qM rfl rfl rfl <| qF rfl rfl rfl zI1 <| qL rfl rfl rfl rfl ta27 rfl <| qE rfl rfl zM rfl <| qC rfl rfl rfl rfl rfl <| qN ?_
  refine zJ rfl (fun h15 => ?_) (fun h15 => ?_)
  ·
   have hlt : i < c.length := by simpa using h15
   obtain ⟨x, hs⟩ : ∃ q_, c[i]? = some q_ := ⟨_, zD hlt⟩
   refine zA0 <| zB <| zB0 <| zB <| zB ?_
   obtain ⟨⟨n1, m1, s1, c1, w1⟩, hs2⟩ : ∃ q, w[i]? = some q := ⟨_, zD (by omega)⟩
   refine zU0 [] [_] mo (by decide) rfl rfl rfl rfl ?_
   refine dO rfl rfl rfl (zE rfl rfl zI1 ⟨rfl, rfl⟩) <| dO rfl rfl rfl (zD0 rfl rfl rfl ta27 rfl ⟨rfl, rfl⟩) <| dO rfl rfl rfl (zV rfl rfl ⟨rfl, rfl⟩) <| dO rfl rfl rfl (zG rfl zM sz60 (by decide) rfl rfl rfl (zV0 hs) ⟨rfl, rfl⟩) ?_
   refine dO rfl rfl rfl (zH rfl rfl ta60 rfl ⟨rfl, rfl⟩) <| zS rfl rfl (.cons (zH1 rfl rfl rfl co79 (rIsClock_spec x _)) .nil) <| dO rfl rfl rfl (zG1 rfl rfl ⟨rfl, rfl⟩) <| dO rfl rfl rfl (zV rfl rfl ⟨rfl, rfl⟩) ?_
   refine zH2 (fun h25 => ?_) (fun h25 => ?_)
   ·
    refine dS rfl rfl <| dS rfl rfl <| dS rfl rfl <| dS rfl rfl <| dS rfl rfl <| dS rfl rfl <| dS rfl rfl <| dS rfl rfl <| dS rfl rfl <| dS rfl rfl <| dS rfl rfl <| dO rfl rfl rfl (zE1 rfl rfl rfl ⟨rfl, rfl⟩) <| dO rfl rfl rfl (zV rfl rfl ⟨rfl, rfl⟩) <| dS rfl rfl <| dS rfl rfl <| dS rfl rfl <| dS rfl rfl <| dS rfl rfl <| dS rfl rfl <| dS rfl rfl <| dS rfl rfl <| dS rfl rfl <| dS rfl rfl <| dS rfl rfl <| dS rfl rfl <| dS rfl rfl <| dS rfl rfl <| dS rfl rfl <| dS rfl rfl <| dS rfl rfl ?_
    refine dO rfl rfl rfl (zE1 rfl rfl rfl ⟨rfl, rfl⟩) <| zL0 <| zW rfl (rfl) <| zB <| qR rfl <| qA rfl rfl rfl <| qN <| zK ?_
    exact zQ (.inr rfl) zK5 rfl (.of_eq (by rw [sibs_false hlt (by rw [sibAt_of hs hs2]; simp_all <;> omega)])) (.bool _) ⟨rfl, rfl⟩
   ·
    refine dO rfl rfl rfl (zE rfl rfl zU2 ⟨rfl, rfl⟩) <| dO rfl rfl rfl (zD0 rfl rfl rfl ta22 rfl ⟨rfl, rfl⟩) <| dO rfl rfl rfl (zG rfl zR0 sz24 (by decide) rfl rfl rfl (show _ = some (encS (.mk k1 i1)) from rfl) ⟨rfl, rfl⟩) ?_
    refine dO rfl rfl rfl (zH rfl rfl ta24 rfl ⟨rfl, rfl⟩) <| dO rfl rfl rfl (zE rfl rfl zF1 ⟨rfl, rfl⟩) <| dO rfl rfl rfl (zD0 rfl rfl rfl ta28 rfl ⟨rfl, rfl⟩) <| dO rfl rfl rfl (zV rfl rfl ⟨rfl, rfl⟩) <| dO rfl rfl rfl (zG rfl zO sz30 (by decide) rfl rfl rfl (zZ1 hs2) ⟨rfl, rfl⟩) ?_
    refine dO rfl rfl rfl (zH rfl rfl ta30 rfl ⟨rfl, rfl⟩) <| zS rfl rfl (.cons (zH1 rfl rfl rfl co46 (ih (.mk n1 m1 s1 c1 w1) (hw _ (zF0 hs2)) _)) .nil) <| dO rfl rfl rfl (zG1 rfl rfl ⟨rfl, rfl⟩) <| dO rfl rfl rfl (zE1 rfl rfl rfl ⟨rfl, rfl⟩) <| dO rfl rfl rfl (zV rfl rfl ⟨rfl, rfl⟩) ?_
    refine zH2 (fun h38 => ?_) (fun h38 => ?_)
    ·
     refine dS rfl rfl <| dS rfl rfl <| dS rfl rfl <| dS rfl rfl <| dS rfl rfl <| dS rfl rfl <| dS rfl rfl <| dS rfl rfl <| dS rfl rfl <| dS rfl rfl <| dS rfl rfl <| dS rfl rfl <| dS rfl rfl <| dS rfl rfl <| dS rfl rfl <| dS rfl rfl <| dS rfl rfl <| dO rfl rfl rfl (zE1 rfl rfl rfl ⟨rfl, rfl⟩) <| zL0 <| zW rfl (rfl) <| zB <| qR rfl <| qA rfl rfl rfl <| qN <| zK ?_
     exact zQ (.inr rfl) zK5 rfl (.of_eq (by rw [sibs_false hlt (by rw [sibAt_of hs hs2]; simp_all <;> omega)])) (.bool _) ⟨rfl, rfl⟩
    ·
     refine dO rfl rfl rfl (zV rfl rfl ⟨rfl, rfl⟩) <| dO rfl rfl rfl (zE2 rfl rfl rfl rfl ⟨rfl, rfl⟩) <| dO rfl rfl rfl (zV rfl rfl ⟨rfl, rfl⟩) ?_
     refine zH2 (fun h41 => ?_) (fun h41 => ?_)
     ·
      have hi0 : 0 < i := by simpa using h41
      obtain ⟨p, hp⟩ : ∃ q, c[i - 1]? = some q := ⟨_, zD (by omega)⟩
      have hgp := getD_of (d := []) hp
      refine dO rfl rfl rfl (zE rfl rfl zI1 ⟨rfl, rfl⟩) <| dO rfl rfl rfl (zD0 rfl rfl rfl ta27 rfl ⟨rfl, rfl⟩) <| dO rfl rfl rfl (zV rfl rfl ⟨rfl, rfl⟩) <| dO rfl rfl rfl (zY0 rfl rfl rfl (wsub (a := i) (b := 1) (c := i - 1) (by omega) (by simp only [maxLen] at hlen; omega)) ⟨rfl, rfl⟩) ?_
      refine dO rfl rfl rfl (zG rfl zM sz60 (by decide) rfl rfl rfl (zV0 hp) ⟨rfl, rfl⟩) ?_
      refine dO rfl rfl rfl (zH rfl rfl ta60 rfl ⟨rfl, rfl⟩) <| dO rfl rfl rfl (zE rfl rfl zI1 ⟨rfl, rfl⟩) <| dO rfl rfl rfl (zD0 rfl rfl rfl ta27 rfl ⟨rfl, rfl⟩) <| dO rfl rfl rfl (zV rfl rfl ⟨rfl, rfl⟩) <| dO rfl rfl rfl (zG rfl zM sz60 (by decide) rfl rfl rfl (zV0 hs) ⟨rfl, rfl⟩) ?_
      refine dO rfl rfl rfl (zH rfl rfl ta60 rfl ⟨rfl, rfl⟩) <| zS rfl rfl (.cons (zH1 rfl rfl rfl co111 (rAhead_spec p x _)) .nil) <| dO rfl rfl rfl (zG1 rfl rfl ⟨rfl, rfl⟩) <| dO rfl rfl rfl (zE1 rfl rfl rfl ⟨rfl, rfl⟩) <| dO rfl rfl rfl (zE1 rfl rfl rfl ⟨rfl, rfl⟩) <| zL0 ?_
      refine zJ rfl (fun h56 => ?_) (fun h56 => ?_)
      ·
       refine zB <| qR rfl <| qA rfl rfl rfl <| qN <| zK ?_
       exact zQ (.inr rfl) zK5 rfl (.of_eq (by rw [sibs_false hlt (by rw [sibAt_of hs hs2]; simp_all <;> omega)])) (.bool _) ⟨rfl, rfl⟩
      ·
       refine zA0 <| zB <| qR rfl <| qA rfl rfl rfl <| qN <| zB0 ?_
       refine zV1 (α := Nat) [(2, _), (3, _), (5, _), (26, _), (27, _), (28, _), (29, _), (30, _), (31, _), (32, _), (33, _), (34, _), (35, _), (36, _), (39, _), (40, _), (41, _), (42, _), (43, _), (44, _), (45, _), (46, _), (47, _), (48, _), (49, _), (50, _), (51, _), (52, _), (53, _), (54, _), (55, _)] (fun q => [(6, .int .i64 (q : Int))]) (fun q => [.cells (encS (.mk k (.mk k1 i1 :: rest))).cells, .cells (encV (.mk n m s c w)).cells]) (fun q => q ≤ i ∧ ∀ j, j < q → cmpF (c.getD j []) x = 2) (fun q => i - q) (0) (.keep rfl (.keep rfl (.keep rfl (.keep rfl (.keep rfl (.keep rfl (.keep rfl (.keep rfl (.keep rfl (.keep rfl (.keep rfl (.keep rfl (.keep rfl (.keep rfl (.keep rfl (.keep rfl (.keep rfl (.keep rfl (.keep rfl (.keep rfl (.keep rfl (.keep rfl (.keep rfl (.keep rfl (.keep rfl (.keep rfl (.keep rfl (.keep rfl (.keep rfl (.keep rfl (.keep rfl (.nil)))))))))))))))))))))))))))))))) (.keep rfl (.nil)) (⟨by omega, fun j hj => by omega⟩) (rfl) ?_
       rintro q ⟨hq, hin⟩
       refine zB <| zB <| qR rfl <| qM rfl rfl rfl <| qM rfl rfl rfl <| qC rfl rfl rfl rfl rfl <| qN ?_
       refine zJ rfl (fun h59 => ?_) (fun h59 => ?_)
       ·
        have hlt2 : q < i := by simpa using h59
        obtain ⟨z, hz⟩ : ∃ z, c[q]? = some z := ⟨_, zD (by omega)⟩
        have hzc := sibAt_clock hz (hall q hlt2)
        have hre := rcmp_eq hzc (show isClockF x = true by simpa using h25) (hc z (zF0 hz)) (hc x (zF0 hs))
        refine zA0 <| zB <| zB0 <| zB ?_
        refine zU0 [] [_] mo (by decide) rfl rfl rfl rfl ?_
        refine dO rfl rfl rfl (zE rfl rfl zI1 ⟨rfl, rfl⟩) <| dO rfl rfl rfl (zD0 rfl rfl rfl ta27 rfl ⟨rfl, rfl⟩) <| dO rfl rfl rfl (zV rfl rfl ⟨rfl, rfl⟩) <| dO rfl rfl rfl (zG rfl zM sz60 (by decide) rfl rfl rfl (zV0 hz) ⟨rfl, rfl⟩) ?_
        refine dO rfl rfl rfl (zH rfl rfl ta60 rfl ⟨rfl, rfl⟩) <| dO rfl rfl rfl (zE rfl rfl zI1 ⟨rfl, rfl⟩) <| dO rfl rfl rfl (zD0 rfl rfl rfl ta27 rfl ⟨rfl, rfl⟩) <| dO rfl rfl rfl (zV rfl rfl ⟨rfl, rfl⟩) <| dO rfl rfl rfl (zG rfl zM sz60 (by decide) rfl rfl rfl (zV0 hs) ⟨rfl, rfl⟩) ?_
        refine dO rfl rfl rfl (zH rfl rfl ta60 rfl ⟨rfl, rfl⟩) <| zS rfl rfl (.cons (zH1 rfl rfl rfl co110 (rCmpC_spec z x _)) .nil) <| dO rfl rfl rfl (zE2 rfl rfl rfl rfl ⟨rfl, rfl⟩) <| zL0 ?_
        refine zJ rfl (fun h73 => ?_) (fun h73 => ?_)
        ·
         have hcmp : ¬ cmpF z x = 2 := by rw [hre] at h73; simpa using h73
         refine zB <| qR rfl <| qA rfl rfl rfl <| qN <| zK ?_
         exact zQ (.inr rfl) zK5 rfl (.of_eq (by rw [sibs_false hlt (by rw [sibAt_of hs hs2, decide_eq_false (fun hn => hcmp (by have := hn q hlt2; rwa [getD_of hz] at this)), Bool.and_false])])) (.bool _) ⟨rfl, rfl⟩
        ·
         have hcmp : cmpF z x = 2 := by rw [hre] at h73; simpa using h73
         refine zA0 <| qR rfl <| qM rfl rfl rfl <| qO rfl <| zY0 rfl rfl rfl rfl <| qA rfl rfl rfl <| qN ?_
         refine ⟨q + 1, by omega, ⟨by omega, fun j hj => ?_⟩, rfl, (.keep rfl (.keep rfl (.keep rfl (.keep rfl (.keep rfl (.keep rfl (.keep rfl (.keep rfl (.keep rfl (.keep rfl (.keep rfl (.keep rfl (.keep rfl (.keep rfl (.keep rfl (.keep rfl (.keep rfl (.keep rfl (.keep rfl (.keep rfl (.keep rfl (.keep rfl (.keep rfl (.keep rfl (.keep rfl (.keep rfl (.keep rfl (.keep rfl (.keep rfl (.keep rfl (.keep rfl (.nil)))))))))))))))))))))))))))))))), (.eq rfl (zM1 (show q < c.length by omega) hlen) (.nil))⟩
         by_cases e : j = q
         ·subst e; rw [getD_of hz]; exact hcmp
         ·exact hin j (by omega)
       ·
        have hge2 : q = i := by simp at h59; omega
        refine zN1 <| qR rfl <| qM rfl rfl rfl <| qO rfl <| zY0 rfl rfl rfl rfl <| qA rfl rfl rfl <| qN ?_
        refine ⟨i + 1, by omega, ⟨by omega, fun j hj => ?_⟩, rfl, (.keep rfl (.keep rfl (.nil))), (.eq rfl (zM1 hlt hlen) (.nil))⟩
        by_cases e : j = i
        ·subst e
         rw [sibAt_of hs hs2, show isClockF x = true by simpa using h25, show f _ = true by simpa using h38, decide_eq_true (fun q hq => hin q (by omega))]
         simp_all
        ·exact hall j (by omega)
     ·
      have hi0 : i = 0 := by simp at h41; omega
      refine dS rfl rfl <| dS rfl rfl <| dS rfl rfl <| dS rfl rfl <| dS rfl rfl <| dS rfl rfl <| dS rfl rfl <| dS rfl rfl <| dS rfl rfl <| dS rfl rfl <| dS rfl rfl <| dS rfl rfl <| dS rfl rfl <| dO rfl rfl rfl (zE1 rfl rfl rfl ⟨rfl, rfl⟩) <| dO rfl rfl rfl (zE1 rfl rfl rfl ⟨rfl, rfl⟩) <| zL0 <| zL rfl (rfl) <| zA0 <| zB <| qR rfl <| qA rfl rfl rfl <| qN <| zB0 ?_
      refine zV1 (α := Nat) [(2, _), (3, _), (5, _), (26, _), (27, _), (28, _), (29, _), (30, _), (31, _), (32, _), (33, _), (34, _), (35, _), (36, _), (39, _), (40, _), (41, _), (42, _), (43, _), (44, _), (45, _), (46, _), (47, _), (48, _), (49, _), (50, _), (51, _), (52, _), (53, _), (54, _), (55, _)] (fun q => [(6, .int .i64 (q : Int))]) (fun q => [.cells (encS (.mk k (.mk k1 i1 :: rest))).cells, .cells (encV (.mk n m s c w)).cells]) (fun q => q ≤ i ∧ ∀ j, j < q → cmpF (c.getD j []) x = 2) (fun q => i - q) (0) (.keep rfl (.keep rfl (.keep rfl (.keep rfl (.keep rfl (.keep rfl (.keep rfl (.keep rfl (.keep rfl (.keep rfl (.keep rfl (.keep rfl (.keep rfl (.keep rfl (.keep rfl (.keep rfl (.keep rfl (.keep rfl (.keep rfl (.keep rfl (.keep rfl (.keep rfl (.keep rfl (.keep rfl (.keep rfl (.keep rfl (.keep rfl (.keep rfl (.keep rfl (.keep rfl (.keep rfl (.nil)))))))))))))))))))))))))))))))) (.keep rfl (.nil)) (⟨by omega, fun j hj => by omega⟩) (rfl) ?_
      rintro q ⟨hq, hin⟩
      refine zB <| zB <| qR rfl <| qM rfl rfl rfl <| qM rfl rfl rfl <| qC rfl rfl rfl rfl rfl <| qN ?_
      refine zJ rfl (fun h59 => ?_) (fun h59 => ?_)
      ·
       have hlt2 : q < i := by simpa using h59
       obtain ⟨z, hz⟩ : ∃ z, c[q]? = some z := ⟨_, zD (by omega)⟩
       have hzc := sibAt_clock hz (hall q hlt2)
       have hre := rcmp_eq hzc (show isClockF x = true by simpa using h25) (hc z (zF0 hz)) (hc x (zF0 hs))
       refine zA0 <| zB <| zB0 <| zB ?_
       refine zU0 [] [_] mo (by decide) rfl rfl rfl rfl ?_
       refine dO rfl rfl rfl (zE rfl rfl zI1 ⟨rfl, rfl⟩) <| dO rfl rfl rfl (zD0 rfl rfl rfl ta27 rfl ⟨rfl, rfl⟩) <| dO rfl rfl rfl (zV rfl rfl ⟨rfl, rfl⟩) <| dO rfl rfl rfl (zG rfl zM sz60 (by decide) rfl rfl rfl (zV0 hz) ⟨rfl, rfl⟩) ?_
       refine dO rfl rfl rfl (zH rfl rfl ta60 rfl ⟨rfl, rfl⟩) <| dO rfl rfl rfl (zE rfl rfl zI1 ⟨rfl, rfl⟩) <| dO rfl rfl rfl (zD0 rfl rfl rfl ta27 rfl ⟨rfl, rfl⟩) <| dO rfl rfl rfl (zV rfl rfl ⟨rfl, rfl⟩) <| dO rfl rfl rfl (zG rfl zM sz60 (by decide) rfl rfl rfl (zV0 hs) ⟨rfl, rfl⟩) ?_
       refine dO rfl rfl rfl (zH rfl rfl ta60 rfl ⟨rfl, rfl⟩) <| zS rfl rfl (.cons (zH1 rfl rfl rfl co110 (rCmpC_spec z x _)) .nil) <| dO rfl rfl rfl (zE2 rfl rfl rfl rfl ⟨rfl, rfl⟩) <| zL0 ?_
       refine zJ rfl (fun h73 => ?_) (fun h73 => ?_)
       ·
        have hcmp : ¬ cmpF z x = 2 := by rw [hre] at h73; simpa using h73
        refine zB <| qR rfl <| qA rfl rfl rfl <| qN <| zK ?_
        exact zQ (.inr rfl) zK5 rfl (.of_eq (by rw [sibs_false hlt (by rw [sibAt_of hs hs2, decide_eq_false (fun hn => hcmp (by have := hn q hlt2; rwa [getD_of hz] at this)), Bool.and_false])])) (.bool _) ⟨rfl, rfl⟩
       ·
        have hcmp : cmpF z x = 2 := by rw [hre] at h73; simpa using h73
        refine zA0 <| qR rfl <| qM rfl rfl rfl <| qO rfl <| zY0 rfl rfl rfl rfl <| qA rfl rfl rfl <| qN ?_
        refine ⟨q + 1, by omega, ⟨by omega, fun j hj => ?_⟩, rfl, (.keep rfl (.keep rfl (.keep rfl (.keep rfl (.keep rfl (.keep rfl (.keep rfl (.keep rfl (.keep rfl (.keep rfl (.keep rfl (.keep rfl (.keep rfl (.keep rfl (.keep rfl (.keep rfl (.keep rfl (.keep rfl (.keep rfl (.keep rfl (.keep rfl (.keep rfl (.keep rfl (.keep rfl (.keep rfl (.keep rfl (.keep rfl (.keep rfl (.keep rfl (.keep rfl (.keep rfl (.nil)))))))))))))))))))))))))))))))), (.eq rfl (zM1 (show q < c.length by omega) hlen) (.nil))⟩
        by_cases e : j = q
        ·subst e; rw [getD_of hz]; exact hcmp
        ·exact hin j (by omega)
      ·
       have hge2 : q = i := by simp at h59; omega
       refine zN1 <| qR rfl <| qM rfl rfl rfl <| qO rfl <| zY0 rfl rfl rfl rfl <| qA rfl rfl rfl <| qN ?_
       refine ⟨i + 1, by omega, ⟨by omega, fun j hj => ?_⟩, rfl, (.keep rfl (.keep rfl (.nil))), (.eq rfl (zM1 hlt hlen) (.nil))⟩
       by_cases e : j = i
       ·subst e
        rw [sibAt_of hs hs2, show isClockF x = true by simpa using h25, show f _ = true by simpa using h38, decide_eq_true (fun q hq => hin q (by omega))]
        simp_all
       ·exact hall j (by omega)
  ·
   have hge : i = c.length := by simp at h15; omega
   refine zN1 <| zB <| qR rfl <| qA rfl rfl rfl <| qN <| zK ?_
   exact zQ (.inr rfl) zK5 rfl (.of_eq (by rw [sibs_true c40 (fun j hj => hall j (by omega))])) (.bool _) ⟨rfl, rfl⟩
theorem _root_.zP5 : type_of% @Tryz.ntmps46 := @Tryz.ntmps46
theorem _root_.zD1 : type_of% @Tryz.results46 := @Tryz.results46
theorem isR_spec (d : Nat) : ∀ (s : Sch), isF d s = true → ∀ x : Val, okV x → ∀ S : MS, MCalls Tryz.prog 46 [encS s, encV x] S fun v σ' => v = .bool (isRF s x) ∧ σ' = S := by
 induction d with
 | zero => intro s h; simp [isF] at h
 | succ d ih =>
 rintro ⟨k, ins⟩ hd ⟨n, m, s, c, w⟩ hv S
 rw [isF] at hd
 simp only [Bool.and_eq_true, List.all_eq_true, beq_iff_eq] at hd
 simp only [okV] at hv
 have hvs := okVs_iff.1 hv.2.2.2
 rcases k8_of hd.1 with rfl | rfl | rfl | rfl | rfl | rfl | rfl | rfl
 ·
  refine zU zB5 rfl zP5 (zA rfl) ?_
  refine zB <| qR rfl <| qB rfl rfl rfl rfl rfl <| qB rfl rfl rfl rfl rfl <| qA rfl rfl rfl <| qN <| zB <| zB <| qR rfl <| qL rfl rfl rfl rfl ta24 rfl <| qL rfl rfl rfl rfl ta30 rfl ?_
  refine qX rfl rfl rfl rfl co77 (zO6 1 _ (by omega) n m s c w _) ?_
  refine qO rfl <| zG1 rfl rfl <| qM rfl rfl rfl ?_
  refine zG0 (fun h10 => ?_) (fun h10 => ?_)
  ·
   refine qT rfl rfl rfl rfl <| qP rfl rfl rfl rfl <| qM rfl rfl rfl <| qT rfl rfl rfl rfl <| qP rfl rfl rfl rfl <| qN <| zW rfl (rfl) <| zB <| qR rfl <| qA rfl rfl rfl <| qN <| zK ?_
   exact zQ (.inr rfl) zD1 rfl (.of_eq (by rw [zL2 1]; congr 1; symm; first | (rw [show fitsF 1 _ = false by simpa using h10]; rfl) | (rw [show risesF s = false by simpa using h16]; simp; done) | (rw [s40f]; simp; done))) (.bool _) ⟨rfl, rfl⟩
  ·
   refine qF rfl rfl rfl zR1 <| qL rfl rfl rfl rfl ta26 rfl ?_
   refine qX rfl rfl rfl rfl co78 (zH5 s _) ?_
   refine qO rfl <| zG1 rfl rfl <| qP rfl rfl rfl rfl <| qM rfl rfl rfl ?_
   refine zG0 (fun h16 => ?_) (fun h16 => ?_)
   ·
    refine qT rfl rfl rfl rfl <| qP rfl rfl rfl rfl <| qN <| zW rfl (rfl) <| zB <| qR rfl <| qA rfl rfl rfl <| qN <| zK ?_
    exact zQ (.inr rfl) zD1 rfl (.of_eq (by rw [zL2 1]; congr 1; symm; first | (rw [show fitsF 1 _ = false by simpa using h10]; rfl) | (rw [show risesF s = false by simpa using h16]; simp; done) | (rw [s40f]; simp; done))) (.bool _) ⟨rfl, rfl⟩
   ·
    refine qF rfl rfl rfl zR1 <| qL rfl rfl rfl rfl ta26 rfl <| qE rfl rfl zX rfl <| qC rfl rfl rfl rfl rfl <| qP rfl rfl rfl rfl <| qN ?_
    refine zJ rfl (fun h21 => ?_) (fun h21 => ?_)
    ·
     have s40f := decide_eq_false (by rw [zC] at h21; simp at h21; omega : ¬ s.length ≤ 40)
     refine zB <| qR rfl <| qA rfl rfl rfl <| qN <| zK ?_
     exact zQ (.inr rfl) zD1 rfl (.of_eq (by rw [zL2 1]; congr 1; symm; first | (rw [show fitsF 1 _ = false by simpa using h10]; rfl) | (rw [show risesF s = false by simpa using h16]; simp; done) | (rw [s40f]; simp; done))) (.bool _) ⟨rfl, rfl⟩
    ·
     have s40t := decide_eq_true (by rw [zC] at h21; simp at h21; omega : s.length ≤ 40)
     have hfit : fitsF 1 (.mk n m s c w) = true := by simpa using h10
     have hris : risesF s = true := by simpa using h16
     refine zA0 <| zB <| zB <| qR rfl <| qF rfl rfl rfl zG2 <| qL rfl rfl rfl rfl ta3 rfl <| qN <| zB0 <| zB <| qR rfl <| qC rfl rfl rfl rfl rfl <| qA rfl rfl rfl <| qN <| zL rfl (rfl) <| zB <| qR rfl <| qC rfl rfl rfl rfl rfl <| qA rfl rfl rfl <| qN <| zL rfl (rfl) <| zB <| qR rfl <| qC rfl rfl rfl rfl rfl ?_
     refine qA rfl rfl rfl <| qN <| zL rfl (rfl) <| zB <| qR rfl <| qC rfl rfl rfl rfl rfl <| qA rfl rfl rfl <| qN <| zL rfl (rfl) <| zA0 <| zB <| qR rfl <| qA rfl rfl rfl <| qN <| zK ?_
     exact zQ (.inr rfl) zD1 rfl (.of_eq (by rw [zL2 1]; rw [hfit, hris, s40t]; simp only [Bool.true_and, isRL, List.headD_cons, List.tail_cons]; rfl)) (.bool _) ⟨rfl, rfl⟩
 ·
  refine zU zB5 rfl zP5 (zA rfl) ?_
  refine zB <| qR rfl <| qB rfl rfl rfl rfl rfl <| qB rfl rfl rfl rfl rfl <| qA rfl rfl rfl <| qN <| zB <| zB <| qR rfl <| qL rfl rfl rfl rfl ta24 rfl <| qL rfl rfl rfl rfl ta30 rfl ?_
  refine qX rfl rfl rfl rfl co77 (zO6 2 _ (by omega) n m s c w _) ?_
  refine qO rfl <| zG1 rfl rfl <| qM rfl rfl rfl ?_
  refine zG0 (fun h10 => ?_) (fun h10 => ?_)
  ·
   refine qT rfl rfl rfl rfl <| qP rfl rfl rfl rfl <| qM rfl rfl rfl <| qT rfl rfl rfl rfl <| qP rfl rfl rfl rfl <| qN <| zW rfl (rfl) <| zB <| qR rfl <| qA rfl rfl rfl <| qN <| zK ?_
   exact zQ (.inr rfl) zD1 rfl (.of_eq (by rw [zL2 2]; congr 1; symm; first | (rw [show fitsF 2 _ = false by simpa using h10]; rfl) | (rw [show risesF s = false by simpa using h16]; simp; done) | (rw [s40f]; simp; done))) (.bool _) ⟨rfl, rfl⟩
  ·
   refine qF rfl rfl rfl zR1 <| qL rfl rfl rfl rfl ta26 rfl ?_
   refine qX rfl rfl rfl rfl co78 (zH5 s _) ?_
   refine qO rfl <| zG1 rfl rfl <| qP rfl rfl rfl rfl <| qM rfl rfl rfl ?_
   refine zG0 (fun h16 => ?_) (fun h16 => ?_)
   ·
    refine qT rfl rfl rfl rfl <| qP rfl rfl rfl rfl <| qN <| zW rfl (rfl) <| zB <| qR rfl <| qA rfl rfl rfl <| qN <| zK ?_
    exact zQ (.inr rfl) zD1 rfl (.of_eq (by rw [zL2 2]; congr 1; symm; first | (rw [show fitsF 2 _ = false by simpa using h10]; rfl) | (rw [show risesF s = false by simpa using h16]; simp; done) | (rw [s40f]; simp; done))) (.bool _) ⟨rfl, rfl⟩
   ·
    refine qF rfl rfl rfl zR1 <| qL rfl rfl rfl rfl ta26 rfl <| qE rfl rfl zX rfl <| qC rfl rfl rfl rfl rfl <| qP rfl rfl rfl rfl <| qN ?_
    refine zJ rfl (fun h21 => ?_) (fun h21 => ?_)
    ·
     have s40f := decide_eq_false (by rw [zC] at h21; simp at h21; omega : ¬ s.length ≤ 40)
     refine zB <| qR rfl <| qA rfl rfl rfl <| qN <| zK ?_
     exact zQ (.inr rfl) zD1 rfl (.of_eq (by rw [zL2 2]; congr 1; symm; first | (rw [show fitsF 2 _ = false by simpa using h10]; rfl) | (rw [show risesF s = false by simpa using h16]; simp; done) | (rw [s40f]; simp; done))) (.bool _) ⟨rfl, rfl⟩
    ·
     have s40t := decide_eq_true (by rw [zC] at h21; simp at h21; omega : s.length ≤ 40)
     have hfit : fitsF 2 (.mk n m s c w) = true := by simpa using h10
     have hris : risesF s = true := by simpa using h16
     refine zA0 <| zB <| zB <| qR rfl <| qF rfl rfl rfl zG2 <| qL rfl rfl rfl rfl ta3 rfl <| qN <| zB0 <| zB <| qR rfl <| qC rfl rfl rfl rfl rfl <| qA rfl rfl rfl <| qN <| zL rfl (rfl) <| zB <| qR rfl <| qC rfl rfl rfl rfl rfl <| qA rfl rfl rfl <| qN <| zL rfl (rfl) <| zB <| qR rfl <| qC rfl rfl rfl rfl rfl ?_
     refine qA rfl rfl rfl <| qN <| zL rfl (rfl) <| zB <| qR rfl <| qC rfl rfl rfl rfl rfl <| qA rfl rfl rfl <| qN <| zL rfl (rfl) <| zA0 <| zB <| qR rfl <| qA rfl rfl rfl <| qN <| zK ?_
     exact zQ (.inr rfl) zD1 rfl (.of_eq (by rw [zL2 2]; rw [hfit, hris, s40t]; simp only [Bool.true_and, isRL, List.headD_cons, List.tail_cons]; rfl)) (.bool _) ⟨rfl, rfl⟩
 ·
  refine zU zB5 rfl zP5 (zA rfl) ?_
  refine zB <| qR rfl <| qB rfl rfl rfl rfl rfl <| qB rfl rfl rfl rfl rfl <| qA rfl rfl rfl <| qN <| zB <| zB <| qR rfl <| qL rfl rfl rfl rfl ta24 rfl <| qL rfl rfl rfl rfl ta30 rfl ?_
  refine qX rfl rfl rfl rfl co77 (zO6 3 _ (by omega) n m s c w _) ?_
  refine qO rfl <| zG1 rfl rfl <| qM rfl rfl rfl ?_
  refine zG0 (fun h10 => ?_) (fun h10 => ?_)
  ·
   refine qT rfl rfl rfl rfl <| qP rfl rfl rfl rfl <| qM rfl rfl rfl <| qT rfl rfl rfl rfl <| qP rfl rfl rfl rfl <| qN <| zW rfl (rfl) <| zB <| qR rfl <| qA rfl rfl rfl <| qN <| zK ?_
   exact zQ (.inr rfl) zD1 rfl (.of_eq (by rw [zL2 3]; congr 1; symm; first | (rw [show fitsF 3 _ = false by simpa using h10]; rfl) | (rw [show risesF s = false by simpa using h16]; simp; done) | (rw [s40f]; simp; done))) (.bool _) ⟨rfl, rfl⟩
  ·
   refine qF rfl rfl rfl zR1 <| qL rfl rfl rfl rfl ta26 rfl ?_
   refine qX rfl rfl rfl rfl co78 (zH5 s _) ?_
   refine qO rfl <| zG1 rfl rfl <| qP rfl rfl rfl rfl <| qM rfl rfl rfl ?_
   refine zG0 (fun h16 => ?_) (fun h16 => ?_)
   ·
    refine qT rfl rfl rfl rfl <| qP rfl rfl rfl rfl <| qN <| zW rfl (rfl) <| zB <| qR rfl <| qA rfl rfl rfl <| qN <| zK ?_
    exact zQ (.inr rfl) zD1 rfl (.of_eq (by rw [zL2 3]; congr 1; symm; first | (rw [show fitsF 3 _ = false by simpa using h10]; rfl) | (rw [show risesF s = false by simpa using h16]; simp; done) | (rw [s40f]; simp; done))) (.bool _) ⟨rfl, rfl⟩
   ·
    refine qF rfl rfl rfl zR1 <| qL rfl rfl rfl rfl ta26 rfl <| qE rfl rfl zX rfl <| qC rfl rfl rfl rfl rfl <| qP rfl rfl rfl rfl <| qN ?_
    refine zJ rfl (fun h21 => ?_) (fun h21 => ?_)
    ·
     have s40f := decide_eq_false (by rw [zC] at h21; simp at h21; omega : ¬ s.length ≤ 40)
     refine zB <| qR rfl <| qA rfl rfl rfl <| qN <| zK ?_
     exact zQ (.inr rfl) zD1 rfl (.of_eq (by rw [zL2 3]; congr 1; symm; first | (rw [show fitsF 3 _ = false by simpa using h10]; rfl) | (rw [show risesF s = false by simpa using h16]; simp; done) | (rw [s40f]; simp; done))) (.bool _) ⟨rfl, rfl⟩
    ·
     have s40t := decide_eq_true (by rw [zC] at h21; simp at h21; omega : s.length ≤ 40)
     have hfit : fitsF 3 (.mk n m s c w) = true := by simpa using h10
     have hris : risesF s = true := by simpa using h16
     refine zA0 <| zB <| zB <| qR rfl <| qF rfl rfl rfl zG2 <| qL rfl rfl rfl rfl ta3 rfl <| qN <| zB0 <| zB <| qR rfl <| qC rfl rfl rfl rfl rfl <| qA rfl rfl rfl <| qN <| zL rfl (rfl) <| zB <| qR rfl <| qC rfl rfl rfl rfl rfl <| qA rfl rfl rfl <| qN <| zL rfl (rfl) <| zB <| qR rfl <| qC rfl rfl rfl rfl rfl ?_
     refine qA rfl rfl rfl <| qN <| zL rfl (rfl) <| zB <| qR rfl <| qC rfl rfl rfl rfl rfl <| qA rfl rfl rfl <| qN <| zL rfl (rfl) <| zA0 <| zB <| qR rfl <| qA rfl rfl rfl <| qN <| zK ?_
     exact zQ (.inr rfl) zD1 rfl (.of_eq (by rw [zL2 3]; rw [hfit, hris, s40t]; simp only [Bool.true_and, isRL, List.headD_cons, List.tail_cons]; rfl)) (.bool _) ⟨rfl, rfl⟩
 ·
  obtain ⟨⟨k1, i1⟩, rfl⟩ := zT5 hd.1 (by decide)
  have ih1 := ih (.mk k1 i1) (hd.2 _ (by simp))
  refine zU zB5 rfl zP5 (zA rfl) ?_
  refine zB <| qR rfl <| qB rfl rfl rfl rfl rfl <| qB rfl rfl rfl rfl rfl <| qA rfl rfl rfl <| qN <| zB <| zB <| qR rfl <| qL rfl rfl rfl rfl ta24 rfl <| qL rfl rfl rfl rfl ta30 rfl ?_
  refine qX rfl rfl rfl rfl co77 (zO6 4 _ (by omega) n m s c w _) ?_
  refine qO rfl <| zG1 rfl rfl <| qM rfl rfl rfl ?_
  refine zG0 (fun h10 => ?_) (fun h10 => ?_)
  ·
   refine qT rfl rfl rfl rfl <| qP rfl rfl rfl rfl <| qM rfl rfl rfl <| qT rfl rfl rfl rfl <| qP rfl rfl rfl rfl <| qN <| zW rfl (rfl) <| zB <| qR rfl <| qA rfl rfl rfl <| qN <| zK ?_
   exact zQ (.inr rfl) zD1 rfl (.of_eq (by rw [zL2 4]; congr 1; symm; first | (rw [show fitsF 4 _ = false by simpa using h10]; rfl) | (rw [show risesF s = false by simpa using h16]; simp; done) | (rw [s40f]; simp; done))) (.bool _) ⟨rfl, rfl⟩
  ·
   refine qF rfl rfl rfl zR1 <| qL rfl rfl rfl rfl ta26 rfl ?_
   refine qX rfl rfl rfl rfl co78 (zH5 s _) ?_
   refine qO rfl <| zG1 rfl rfl <| qP rfl rfl rfl rfl <| qM rfl rfl rfl ?_
   refine zG0 (fun h16 => ?_) (fun h16 => ?_)
   ·
    refine qT rfl rfl rfl rfl <| qP rfl rfl rfl rfl <| qN <| zW rfl (rfl) <| zB <| qR rfl <| qA rfl rfl rfl <| qN <| zK ?_
    exact zQ (.inr rfl) zD1 rfl (.of_eq (by rw [zL2 4]; congr 1; symm; first | (rw [show fitsF 4 _ = false by simpa using h10]; rfl) | (rw [show risesF s = false by simpa using h16]; simp; done) | (rw [s40f]; simp; done))) (.bool _) ⟨rfl, rfl⟩
   ·
    refine qF rfl rfl rfl zR1 <| qL rfl rfl rfl rfl ta26 rfl <| qE rfl rfl zX rfl <| qC rfl rfl rfl rfl rfl <| qP rfl rfl rfl rfl <| qN ?_
    refine zJ rfl (fun h21 => ?_) (fun h21 => ?_)
    ·
     have s40f := decide_eq_false (by rw [zC] at h21; simp at h21; omega : ¬ s.length ≤ 40)
     refine zB <| qR rfl <| qA rfl rfl rfl <| qN <| zK ?_
     exact zQ (.inr rfl) zD1 rfl (.of_eq (by rw [zL2 4]; congr 1; symm; first | (rw [show fitsF 4 _ = false by simpa using h10]; rfl) | (rw [show risesF s = false by simpa using h16]; simp; done) | (rw [s40f]; simp; done))) (.bool _) ⟨rfl, rfl⟩
    ·
     have s40t := decide_eq_true (by rw [zC] at h21; simp at h21; omega : s.length ≤ 40)
     have hfit : fitsF 4 (.mk n m s c w) = true := by simpa using h10
     have hris : risesF s = true := by simpa using h16
     refine zA0 <| zB <| zB <| qR rfl <| qF rfl rfl rfl zG2 <| qL rfl rfl rfl rfl ta3 rfl <| qN <| zB0 <| zB <| qR rfl <| qC rfl rfl rfl rfl rfl <| qA rfl rfl rfl <| qN <| zW rfl (rfl) <| zB <| qR rfl <| qA rfl rfl rfl <| qN <| zB0 ?_
     refine zV1 (α := Nat) [(2, _), (3, _)] (fun i => [(5, .int .i64 (i : Int))]) (fun i => [.cells (encS (.mk 4 [.mk k1 i1])).cells, .cells (encV (.mk n m s c w)).cells]) (fun i => i ≤ w.length ∧ (w.take i).all (fun x => isRF (.mk k1 i1) x && !noneF (.mk k1 i1) x) = true) (fun i => w.length - i) (0) (.keep rfl (.keep rfl (.nil))) (.keep rfl (.nil)) (⟨by omega, rfl⟩) (rfl) ?_
     rintro i ⟨hi, hall⟩
     refine zB <| zB <| qR rfl <| qM rfl rfl rfl <| qF rfl rfl rfl zF1 <| qL rfl rfl rfl rfl ta28 rfl <| qE rfl rfl zO rfl <| qC rfl rfl rfl rfl rfl <| qN ?_
     refine zJ rfl (fun h30 => ?_) (fun h30 => ?_)
     ·
      rw [zR] at h30
      have hlt : i < w.length := by simpa using h30
      obtain ⟨⟨n1, m1, s1, c1, w1⟩, hs⟩ : ∃ q, w[i]? = some q := ⟨_, zD hlt⟩
      refine zN2 (t := 28) rfl fun hlen => ?_
      rw [zR] at hlen
      refine zA0 <| zB <| zB0 <| zB ?_
      refine zU0 [] [_] mo (by decide) rfl rfl rfl rfl ?_
      refine dO rfl rfl rfl (zE rfl rfl zU2 ⟨rfl, rfl⟩) <| dO rfl rfl rfl (zD0 rfl rfl rfl ta22 rfl ⟨rfl, rfl⟩) <| dO rfl rfl rfl (zG rfl zR0 sz24 (by decide) rfl rfl rfl (show _ = some (encS (.mk k1 i1)) from rfl) ⟨rfl, rfl⟩) ?_
      refine dO rfl rfl rfl (zH rfl rfl ta24 rfl ⟨rfl, rfl⟩) <| dO rfl rfl rfl (zE rfl rfl zF1 ⟨rfl, rfl⟩) <| dO rfl rfl rfl (zD0 rfl rfl rfl ta28 rfl ⟨rfl, rfl⟩) <| dO rfl rfl rfl (zV rfl rfl ⟨rfl, rfl⟩) <| dO rfl rfl rfl (zG rfl zO sz30 (by decide) rfl rfl rfl (zZ1 hs) ⟨rfl, rfl⟩) ?_
      refine dO rfl rfl rfl (zH rfl rfl ta30 rfl ⟨rfl, rfl⟩) <| zS rfl rfl (.cons (zH1 rfl rfl rfl co46 (ih1 (.mk n1 m1 s1 c1 w1) (hvs _ (zF0 hs)) _)) .nil) <| dO rfl rfl rfl (zG1 rfl rfl ⟨rfl, rfl⟩) <| dO rfl rfl rfl (zV rfl rfl ⟨rfl, rfl⟩) ?_
      refine zH2 (fun h44 => ?_) (fun h44 => ?_)
      ·
       refine dS rfl rfl <| dS rfl rfl <| dS rfl rfl <| dS rfl rfl <| dS rfl rfl <| dS rfl rfl <| dS rfl rfl <| dS rfl rfl <| dS rfl rfl <| dS rfl rfl <| dO rfl rfl rfl (zE1 rfl rfl rfl ⟨rfl, rfl⟩) <| zL0 <| zW rfl (rfl) <| zB <| qR rfl <| qA rfl rfl rfl <| qN <| zK ?_
       exact zQ (.inr rfl) zD1 rfl (.of_eq (by rw [zL2 4]; rw [hfit, hris, s40t]; simp only [Bool.true_and, isRL, List.headD_cons, List.tail_cons]; congr 1; symm; show w.all (fun x => isRF (.mk k1 i1) x && !noneF (.mk k1 i1) x) = false; rw [List.all_eq_false]; exact ⟨_, zF0 hs, by simp_all⟩)) (.bool _) ⟨rfl, rfl⟩
      ·
       refine dO rfl rfl rfl (zE rfl rfl zU2 ⟨rfl, rfl⟩) <| dO rfl rfl rfl (zD0 rfl rfl rfl ta22 rfl ⟨rfl, rfl⟩) <| dO rfl rfl rfl (zG rfl zR0 sz24 (by decide) rfl rfl rfl (show _ = some (encS (.mk k1 i1)) from rfl) ⟨rfl, rfl⟩) ?_
       refine dO rfl rfl rfl (zH rfl rfl ta24 rfl ⟨rfl, rfl⟩) <| dO rfl rfl rfl (zE rfl rfl zF1 ⟨rfl, rfl⟩) <| dO rfl rfl rfl (zD0 rfl rfl rfl ta28 rfl ⟨rfl, rfl⟩) <| dO rfl rfl rfl (zV rfl rfl ⟨rfl, rfl⟩) <| dO rfl rfl rfl (zG rfl zO sz30 (by decide) rfl rfl rfl (zZ1 hs) ⟨rfl, rfl⟩) ?_
       refine dO rfl rfl rfl (zH rfl rfl ta30 rfl ⟨rfl, rfl⟩) <| zS rfl rfl (.cons (zH1 rfl rfl rfl co29 (rNone_spec (.mk k1 i1) (.mk n1 m1 s1 c1 w1) _)) .nil) <| dO rfl rfl rfl (zE1 rfl rfl rfl ⟨rfl, rfl⟩) <| zL0 ?_
       refine zJ rfl (fun h55 => ?_) (fun h55 => ?_)
       ·
        refine zB <| qR rfl <| qA rfl rfl rfl <| qN <| zK ?_
        exact zQ (.inr rfl) zD1 rfl (.of_eq (by rw [zL2 4]; rw [hfit, hris, s40t]; simp only [Bool.true_and, isRL, List.headD_cons, List.tail_cons]; congr 1; symm; show w.all (fun x => isRF (.mk k1 i1) x && !noneF (.mk k1 i1) x) = false; rw [List.all_eq_false]; exact ⟨_, zF0 hs, by simp_all⟩)) (.bool _) ⟨rfl, rfl⟩
       ·
        refine zA0 <| qR rfl <| qM rfl rfl rfl <| qO rfl <| zY0 rfl rfl rfl rfl <| qA rfl rfl rfl <| qN ?_
        refine ⟨i + 1, by omega, ⟨by omega, ?_⟩, rfl, (.keep rfl (.keep rfl (.nil))), (.eq rfl (zM1 hlt hlen) (.nil))⟩
        rw [List.take_add_one, hs, List.all_append, hall]
        simp_all
     ·
      rw [zR] at h30
      have hge : i = w.length := by simp at h30; omega
      refine zN1 <| zB <| qR rfl <| qA rfl rfl rfl <| qN <| zK ?_
      exact zQ (.inr rfl) zD1 rfl (.of_eq (by rw [zL2 4]; rw [hfit, hris, s40t]; simp only [Bool.true_and, isRL, List.headD_cons, List.tail_cons]; congr 1; symm; show w.all (fun x => isRF (.mk k1 i1) x && !noneF (.mk k1 i1) x) = true; rw [hge, List.take_length] at hall; exact hall)) (.bool _) ⟨rfl, rfl⟩
 ·
  obtain ⟨⟨k1, i1⟩, ⟨k2, i2⟩, rfl⟩ := two_of hd.1
  have ih1 := ih (.mk k1 i1) (hd.2 _ (by simp))
  have ih2 := ih (.mk k2 i2) (hd.2 _ (by simp))
  refine zU zB5 rfl zP5 (zA rfl) ?_
  refine zB <| qR rfl <| qB rfl rfl rfl rfl rfl <| qB rfl rfl rfl rfl rfl <| qA rfl rfl rfl <| qN <| zB <| zB <| qR rfl <| qL rfl rfl rfl rfl ta24 rfl <| qL rfl rfl rfl rfl ta30 rfl ?_
  refine qX rfl rfl rfl rfl co77 (zO6 5 _ (by omega) n m s c w _) ?_
  refine qO rfl <| zG1 rfl rfl <| qM rfl rfl rfl ?_
  refine zG0 (fun h10 => ?_) (fun h10 => ?_)
  ·
   refine qT rfl rfl rfl rfl <| qP rfl rfl rfl rfl <| qM rfl rfl rfl <| qT rfl rfl rfl rfl <| qP rfl rfl rfl rfl <| qN <| zW rfl (rfl) <| zB <| qR rfl <| qA rfl rfl rfl <| qN <| zK ?_
   exact zQ (.inr rfl) zD1 rfl (.of_eq (by rw [zL2 5]; congr 1; symm; first | (rw [show fitsF 5 _ = false by simpa using h10]; rfl) | (rw [show risesF s = false by simpa using h16]; simp; done) | (rw [s40f]; simp; done))) (.bool _) ⟨rfl, rfl⟩
  ·
   refine qF rfl rfl rfl zR1 <| qL rfl rfl rfl rfl ta26 rfl ?_
   refine qX rfl rfl rfl rfl co78 (zH5 s _) ?_
   refine qO rfl <| zG1 rfl rfl <| qP rfl rfl rfl rfl <| qM rfl rfl rfl ?_
   refine zG0 (fun h16 => ?_) (fun h16 => ?_)
   ·
    refine qT rfl rfl rfl rfl <| qP rfl rfl rfl rfl <| qN <| zW rfl (rfl) <| zB <| qR rfl <| qA rfl rfl rfl <| qN <| zK ?_
    exact zQ (.inr rfl) zD1 rfl (.of_eq (by rw [zL2 5]; congr 1; symm; first | (rw [show fitsF 5 _ = false by simpa using h10]; rfl) | (rw [show risesF s = false by simpa using h16]; simp; done) | (rw [s40f]; simp; done))) (.bool _) ⟨rfl, rfl⟩
   ·
    refine qF rfl rfl rfl zR1 <| qL rfl rfl rfl rfl ta26 rfl <| qE rfl rfl zX rfl <| qC rfl rfl rfl rfl rfl <| qP rfl rfl rfl rfl <| qN ?_
    refine zJ rfl (fun h21 => ?_) (fun h21 => ?_)
    ·
     have s40f := decide_eq_false (by rw [zC] at h21; simp at h21; omega : ¬ s.length ≤ 40)
     refine zB <| qR rfl <| qA rfl rfl rfl <| qN <| zK ?_
     exact zQ (.inr rfl) zD1 rfl (.of_eq (by rw [zL2 5]; congr 1; symm; first | (rw [show fitsF 5 _ = false by simpa using h10]; rfl) | (rw [show risesF s = false by simpa using h16]; simp; done) | (rw [s40f]; simp; done))) (.bool _) ⟨rfl, rfl⟩
    ·
     have s40t := decide_eq_true (by rw [zC] at h21; simp at h21; omega : s.length ≤ 40)
     have hfit : fitsF 5 (.mk n m s c w) = true := by simpa using h10
     have hris : risesF s = true := by simpa using h16
     refine zA0 <| zB <| zB <| qR rfl <| qF rfl rfl rfl zG2 <| qL rfl rfl rfl rfl ta3 rfl <| qN <| zB0 <| zB <| qR rfl <| qC rfl rfl rfl rfl rfl <| qA rfl rfl rfl <| qN <| zL rfl (rfl) <| zB <| qR rfl <| qC rfl rfl rfl rfl rfl <| qA rfl rfl rfl <| qN <| zW rfl (rfl) <| zB ?_
     obtain ⟨⟨n1, m1, s1, c1, w1⟩, ⟨n2, m2, s2, c2, w2⟩, rfl⟩ := two_of' (fits5 hfit)
     refine zU0 [] [_] mo (by decide) rfl rfl rfl rfl ?_
     refine dO rfl rfl rfl (zE rfl rfl zU2 ⟨rfl, rfl⟩) <| dO rfl rfl rfl (zD0 rfl rfl rfl ta22 rfl ⟨rfl, rfl⟩) <| dO rfl rfl rfl (zG rfl zR0 sz24 (by decide) rfl rfl rfl (show _ = some (encS (.mk k1 i1)) from rfl) ⟨rfl, rfl⟩) ?_
     refine dO rfl rfl rfl (zH rfl rfl ta24 rfl ⟨rfl, rfl⟩) <| dO rfl rfl rfl (zE rfl rfl zF1 ⟨rfl, rfl⟩) <| dO rfl rfl rfl (zD0 rfl rfl rfl ta28 rfl ⟨rfl, rfl⟩) <| dO rfl rfl rfl (zG rfl zO sz30 (by decide) rfl rfl rfl (show _ = some (encV (.mk n1 m1 s1 c1 w1)) from rfl) ⟨rfl, rfl⟩) ?_
     refine dO rfl rfl rfl (zH rfl rfl ta30 rfl ⟨rfl, rfl⟩) <| zS rfl rfl (.cons (zH1 rfl rfl rfl co46 (ih1 (.mk n1 m1 s1 c1 w1) (hvs _ (by simp)) _)) .nil) ?_
     refine dO rfl rfl rfl (zV rfl rfl ⟨rfl, rfl⟩) ?_
     refine zH2 (fun h67 => ?_) (fun h67 => ?_)
     ·
      refine dO rfl rfl rfl (zE rfl rfl zU2 ⟨rfl, rfl⟩) <| dO rfl rfl rfl (zD0 rfl rfl rfl ta22 rfl ⟨rfl, rfl⟩) <| dO rfl rfl rfl (zG rfl zR0 sz24 (by decide) rfl rfl rfl (show _ = some (encS (.mk k2 i2)) from rfl) ⟨rfl, rfl⟩) ?_
      refine dO rfl rfl rfl (zH rfl rfl ta24 rfl ⟨rfl, rfl⟩) <| dO rfl rfl rfl (zE rfl rfl zF1 ⟨rfl, rfl⟩) <| dO rfl rfl rfl (zD0 rfl rfl rfl ta28 rfl ⟨rfl, rfl⟩) <| dO rfl rfl rfl (zG rfl zO sz30 (by decide) rfl rfl rfl (show _ = some (encV (.mk n2 m2 s2 c2 w2)) from rfl) ⟨rfl, rfl⟩) ?_
      refine dO rfl rfl rfl (zH rfl rfl ta30 rfl ⟨rfl, rfl⟩) <| zS rfl rfl (.cons (zH1 rfl rfl rfl co46 (ih2 (.mk n2 m2 s2 c2 w2) (hvs _ (by simp)) _)) .nil) ?_
      refine dO rfl rfl rfl (zE1 rfl rfl rfl ⟨rfl, rfl⟩) <| dO rfl rfl rfl (zB1 rfl rfl ⟨rfl, rfl⟩) <| zL0 <| zK ?_
      exact zQ (.inr rfl) zD1 rfl (.of_eq (by rw [zL2 5]; rw [hfit, hris, s40t]; simp only [Bool.true_and, isRL, List.headD_cons, List.tail_cons]; congr 1; rw [zF]; simp_all)) (.bool _) ⟨rfl, rfl⟩
     ·
      refine dS rfl rfl <| dS rfl rfl <| dS rfl rfl <| dS rfl rfl <| dS rfl rfl <| dS rfl rfl <| dS rfl rfl <| dS rfl rfl <| dS rfl rfl <| dO rfl rfl rfl (zE1 rfl rfl rfl ⟨rfl, rfl⟩) <| dO rfl rfl rfl (zB1 rfl rfl ⟨rfl, rfl⟩) <| zL0 <| zK ?_
      exact zQ (.inr rfl) zD1 rfl (.of_eq (by rw [zL2 5]; rw [hfit, hris, s40t]; simp only [Bool.true_and, isRL, List.headD_cons, List.tail_cons]; congr 1; rw [zF]; simp_all)) (.bool _) ⟨rfl, rfl⟩
 ·
  refine zU zB5 rfl zP5 (zA rfl) ?_
  refine zB <| qR rfl <| qB rfl rfl rfl rfl rfl <| qB rfl rfl rfl rfl rfl <| qA rfl rfl rfl <| qN <| zB <| zB <| qR rfl <| qL rfl rfl rfl rfl ta24 rfl <| qL rfl rfl rfl rfl ta30 rfl ?_
  refine qX rfl rfl rfl rfl co77 (zO6 6 _ (by omega) n m s c w _) ?_
  refine qO rfl <| zG1 rfl rfl <| qM rfl rfl rfl ?_
  refine zG0 (fun h10 => ?_) (fun h10 => ?_)
  ·
   refine qT rfl rfl rfl rfl <| qP rfl rfl rfl rfl <| qM rfl rfl rfl <| qT rfl rfl rfl rfl <| qP rfl rfl rfl rfl <| qN <| zW rfl (rfl) <| zB <| qR rfl <| qA rfl rfl rfl <| qN <| zK ?_
   exact zQ (.inr rfl) zD1 rfl (.of_eq (by rw [zL2 6]; congr 1; symm; first | (rw [show fitsF 6 _ = false by simpa using h10]; rfl) | (rw [show risesF s = false by simpa using h16]; simp; done) | (rw [s40f]; simp; done))) (.bool _) ⟨rfl, rfl⟩
  ·
   refine qF rfl rfl rfl zR1 <| qL rfl rfl rfl rfl ta26 rfl ?_
   refine qX rfl rfl rfl rfl co78 (zH5 s _) ?_
   refine qO rfl <| zG1 rfl rfl <| qP rfl rfl rfl rfl <| qM rfl rfl rfl ?_
   refine zG0 (fun h16 => ?_) (fun h16 => ?_)
   ·
    refine qT rfl rfl rfl rfl <| qP rfl rfl rfl rfl <| qN <| zW rfl (rfl) <| zB <| qR rfl <| qA rfl rfl rfl <| qN <| zK ?_
    exact zQ (.inr rfl) zD1 rfl (.of_eq (by rw [zL2 6]; congr 1; symm; first | (rw [show fitsF 6 _ = false by simpa using h10]; rfl) | (rw [show risesF s = false by simpa using h16]; simp; done) | (rw [s40f]; simp; done))) (.bool _) ⟨rfl, rfl⟩
   ·
    refine qF rfl rfl rfl zR1 <| qL rfl rfl rfl rfl ta26 rfl <| qE rfl rfl zX rfl <| qC rfl rfl rfl rfl rfl <| qP rfl rfl rfl rfl <| qN ?_
    refine zJ rfl (fun h21 => ?_) (fun h21 => ?_)
    ·
     have s40f := decide_eq_false (by rw [zC] at h21; simp at h21; omega : ¬ s.length ≤ 40)
     refine zB <| qR rfl <| qA rfl rfl rfl <| qN <| zK ?_
     exact zQ (.inr rfl) zD1 rfl (.of_eq (by rw [zL2 6]; congr 1; symm; first | (rw [show fitsF 6 _ = false by simpa using h10]; rfl) | (rw [show risesF s = false by simpa using h16]; simp; done) | (rw [s40f]; simp; done))) (.bool _) ⟨rfl, rfl⟩
    ·
     have s40t := decide_eq_true (by rw [zC] at h21; simp at h21; omega : s.length ≤ 40)
     have hfit : fitsF 6 (.mk n m s c w) = true := by simpa using h10
     have hris : risesF s = true := by simpa using h16
     refine zA0 <| zB <| zB <| qR rfl <| qF rfl rfl rfl zG2 <| qL rfl rfl rfl rfl ta3 rfl <| qN <| zB0 <| zB <| qR rfl <| qC rfl rfl rfl rfl rfl <| qA rfl rfl rfl <| qN <| zL rfl (rfl) <| zB <| qR rfl <| qC rfl rfl rfl rfl rfl <| qA rfl rfl rfl <| qN <| zL rfl (rfl) <| zB <| qR rfl <| qC rfl rfl rfl rfl rfl ?_
     refine qA rfl rfl rfl <| qN <| zL rfl (rfl) <| zB <| qR rfl <| qC rfl rfl rfl rfl rfl <| qA rfl rfl rfl <| qN <| zL rfl (rfl) <| zA0 <| zB <| qR rfl <| qA rfl rfl rfl <| qN <| zK ?_
     exact zQ (.inr rfl) zD1 rfl (.of_eq (by rw [zL2 6]; rw [hfit, hris, s40t]; simp only [Bool.true_and, isRL, List.headD_cons, List.tail_cons]; rfl)) (.bool _) ⟨rfl, rfl⟩
 ·
  refine zU zB5 rfl zP5 (zA rfl) ?_
  refine zB <| qR rfl <| qB rfl rfl rfl rfl rfl <| qB rfl rfl rfl rfl rfl <| qA rfl rfl rfl <| qN <| zB <| zB <| qR rfl <| qL rfl rfl rfl rfl ta24 rfl <| qL rfl rfl rfl rfl ta30 rfl ?_
  refine qX rfl rfl rfl rfl co77 (zO6 7 _ (by omega) n m s c w _) ?_
  refine qO rfl <| zG1 rfl rfl <| qM rfl rfl rfl ?_
  refine zG0 (fun h10 => ?_) (fun h10 => ?_)
  ·
   refine qT rfl rfl rfl rfl <| qP rfl rfl rfl rfl <| qM rfl rfl rfl <| qT rfl rfl rfl rfl <| qP rfl rfl rfl rfl <| qN <| zW rfl (rfl) <| zB <| qR rfl <| qA rfl rfl rfl <| qN <| zK ?_
   exact zQ (.inr rfl) zD1 rfl (.of_eq (by rw [zL2 7]; congr 1; symm; first | (rw [show fitsF 7 _ = false by simpa using h10]; rfl) | (rw [show risesF s = false by simpa using h16]; simp; done) | (rw [s40f]; simp; done))) (.bool _) ⟨rfl, rfl⟩
  ·
   refine qF rfl rfl rfl zR1 <| qL rfl rfl rfl rfl ta26 rfl ?_
   refine qX rfl rfl rfl rfl co78 (zH5 s _) ?_
   refine qO rfl <| zG1 rfl rfl <| qP rfl rfl rfl rfl <| qM rfl rfl rfl ?_
   refine zG0 (fun h16 => ?_) (fun h16 => ?_)
   ·
    refine qT rfl rfl rfl rfl <| qP rfl rfl rfl rfl <| qN <| zW rfl (rfl) <| zB <| qR rfl <| qA rfl rfl rfl <| qN <| zK ?_
    exact zQ (.inr rfl) zD1 rfl (.of_eq (by rw [zL2 7]; congr 1; symm; first | (rw [show fitsF 7 _ = false by simpa using h10]; rfl) | (rw [show risesF s = false by simpa using h16]; simp; done) | (rw [s40f]; simp; done))) (.bool _) ⟨rfl, rfl⟩
   ·
    refine qF rfl rfl rfl zR1 <| qL rfl rfl rfl rfl ta26 rfl <| qE rfl rfl zX rfl <| qC rfl rfl rfl rfl rfl <| qP rfl rfl rfl rfl <| qN ?_
    refine zJ rfl (fun h21 => ?_) (fun h21 => ?_)
    ·
     have s40f := decide_eq_false (by rw [zC] at h21; simp at h21; omega : ¬ s.length ≤ 40)
     refine zB <| qR rfl <| qA rfl rfl rfl <| qN <| zK ?_
     exact zQ (.inr rfl) zD1 rfl (.of_eq (by rw [zL2 7]; congr 1; symm; first | (rw [show fitsF 7 _ = false by simpa using h10]; rfl) | (rw [show risesF s = false by simpa using h16]; simp; done) | (rw [s40f]; simp; done))) (.bool _) ⟨rfl, rfl⟩
    ·
     have s40t := decide_eq_true (by rw [zC] at h21; simp at h21; omega : s.length ≤ 40)
     have hfit : fitsF 7 (.mk n m s c w) = true := by simpa using h10
     have hris : risesF s = true := by simpa using h16
     refine zA0 <| zB <| zB <| qR rfl <| qF rfl rfl rfl zG2 <| qL rfl rfl rfl rfl ta3 rfl <| qN <| zB0 <| zB <| qR rfl <| qC rfl rfl rfl rfl rfl <| qA rfl rfl rfl <| qN <| zL rfl (rfl) <| zB <| qR rfl <| qC rfl rfl rfl rfl rfl <| qA rfl rfl rfl <| qN <| zL rfl (rfl) <| zB <| qR rfl <| qC rfl rfl rfl rfl rfl ?_
     refine qA rfl rfl rfl <| qN <| zW rfl (rfl) <| zB <| qR rfl <| qF rfl rfl rfl zI1 <| qL rfl rfl rfl rfl ta27 rfl <| qE rfl rfl zM rfl <| qC rfl rfl rfl rfl rfl <| qM rfl rfl rfl ?_
     refine zG0 (fun h84 => ?_) (fun h84 => ?_)
     ·
      have hc0 : c = [] := by simpa using h84
      subst hc0
      refine qT rfl rfl rfl rfl <| qT rfl rfl rfl rfl <| qT rfl rfl rfl rfl <| qS rfl <| qP rfl rfl rfl rfl <| qA rfl rfl rfl <| qN <| zK ?_
      exact zQ (.inr rfl) zD1 rfl (.of_eq (by rw [zL2 7]; rw [hfit, hris, s40t]; simp only [Bool.true_and, isRL, List.headD_cons, List.tail_cons]; first | rfl | (congr 1; rw [zF]; simp_all))) (.bool _) ⟨rfl, rfl⟩
     ·
      obtain ⟨c0, rfl⟩ := one_of (by have := fits7 hfit; rw [zC] at h84; simp at h84; have : c.length ≠ 0 := fun e => h84 (List.length_eq_zero_iff.1 e); omega : c.length = 1)
      refine qF rfl rfl rfl zI1 <| qL rfl rfl rfl rfl ta27 rfl <| qO rfl <| zG rfl zM sz60 (by decide) rfl rfl rfl (show _ = some (encC c0) from rfl) ?_
      refine qO rfl <| zH rfl rfl ta60 rfl ?_
      refine qX rfl rfl rfl rfl co79 (rIsClock_spec c0 _) ?_
      refine qM rfl rfl rfl ?_
      refine zG0 (fun h90 => ?_) (fun h90 => ?_)
      ·
       refine qF rfl rfl rfl zI1 <| qL rfl rfl rfl rfl ta27 rfl <| qO rfl <| zG rfl zM sz60 (by decide) rfl rfl rfl (show _ = some (encC c0) from rfl) ?_
       refine qO rfl <| zH rfl rfl ta60 rfl <| qE rfl rfl zP rfl <| qC rfl rfl rfl rfl rfl <| qP rfl rfl rfl rfl <| qP rfl rfl rfl rfl <| qA rfl rfl rfl <| qN <| zK ?_
       exact zQ (.inr rfl) zD1 rfl (.of_eq (by rw [zL2 7]; rw [hfit, hris, s40t]; simp only [Bool.true_and, isRL, List.headD_cons, List.tail_cons]; first | rfl | (congr 1; rw [zF]; simp_all))) (.bool _) ⟨rfl, rfl⟩
      ·
       refine qT rfl rfl rfl rfl <| qS rfl <| qS rfl <| qP rfl rfl rfl rfl <| qP rfl rfl rfl rfl <| qA rfl rfl rfl <| qN <| zK ?_
       exact zQ (.inr rfl) zD1 rfl (.of_eq (by rw [zL2 7]; rw [hfit, hris, s40t]; simp only [Bool.true_and, isRL, List.headD_cons, List.tail_cons]; first | rfl | (congr 1; rw [zF]; simp_all))) (.bool _) ⟨rfl, rfl⟩
 ·
  obtain ⟨⟨k1, i1⟩, rfl⟩ := zT5 hd.1 (by decide)
  have ih1 := ih (.mk k1 i1) (hd.2 _ (by simp))
  refine zU zB5 rfl zP5 (zA rfl) ?_
  refine zB <| qR rfl <| qB rfl rfl rfl rfl rfl <| qB rfl rfl rfl rfl rfl <| qA rfl rfl rfl <| qN <| zB <| zB <| qR rfl <| qL rfl rfl rfl rfl ta24 rfl <| qL rfl rfl rfl rfl ta30 rfl ?_
  refine qX rfl rfl rfl rfl co77 (zO6 8 _ (by omega) n m s c w _) ?_
  refine qO rfl <| zG1 rfl rfl <| qM rfl rfl rfl ?_
  refine zG0 (fun h10 => ?_) (fun h10 => ?_)
  ·
   refine qT rfl rfl rfl rfl <| qP rfl rfl rfl rfl <| qM rfl rfl rfl <| qT rfl rfl rfl rfl <| qP rfl rfl rfl rfl <| qN <| zW rfl (rfl) <| zB <| qR rfl <| qA rfl rfl rfl <| qN <| zK ?_
   exact zQ (.inr rfl) zD1 rfl (.of_eq (by rw [zL2 8]; congr 1; symm; first | (rw [show fitsF 8 _ = false by simpa using h10]; rfl) | (rw [show risesF s = false by simpa using h16]; simp; done) | (rw [s40f]; simp; done))) (.bool _) ⟨rfl, rfl⟩
  ·
   refine qF rfl rfl rfl zR1 <| qL rfl rfl rfl rfl ta26 rfl ?_
   refine qX rfl rfl rfl rfl co78 (zH5 s _) ?_
   refine qO rfl <| zG1 rfl rfl <| qP rfl rfl rfl rfl <| qM rfl rfl rfl ?_
   refine zG0 (fun h16 => ?_) (fun h16 => ?_)
   ·
    refine qT rfl rfl rfl rfl <| qP rfl rfl rfl rfl <| qN <| zW rfl (rfl) <| zB <| qR rfl <| qA rfl rfl rfl <| qN <| zK ?_
    exact zQ (.inr rfl) zD1 rfl (.of_eq (by rw [zL2 8]; congr 1; symm; first | (rw [show fitsF 8 _ = false by simpa using h10]; rfl) | (rw [show risesF s = false by simpa using h16]; simp; done) | (rw [s40f]; simp; done))) (.bool _) ⟨rfl, rfl⟩
   ·
    refine qF rfl rfl rfl zR1 <| qL rfl rfl rfl rfl ta26 rfl <| qE rfl rfl zX rfl <| qC rfl rfl rfl rfl rfl <| qP rfl rfl rfl rfl <| qN ?_
    refine zJ rfl (fun h21 => ?_) (fun h21 => ?_)
    ·
     have s40f := decide_eq_false (by rw [zC] at h21; simp at h21; omega : ¬ s.length ≤ 40)
     refine zB <| qR rfl <| qA rfl rfl rfl <| qN <| zK ?_
     exact zQ (.inr rfl) zD1 rfl (.of_eq (by rw [zL2 8]; congr 1; symm; first | (rw [show fitsF 8 _ = false by simpa using h10]; rfl) | (rw [show risesF s = false by simpa using h16]; simp; done) | (rw [s40f]; simp; done))) (.bool _) ⟨rfl, rfl⟩
    ·
     have s40t := decide_eq_true (by rw [zC] at h21; simp at h21; omega : s.length ≤ 40)
     have hfit : fitsF 8 (.mk n m s c w) = true := by simpa using h10
     have hris : risesF s = true := by simpa using h16
     refine zA0 <| zB <| zB <| qR rfl <| qF rfl rfl rfl zG2 <| qL rfl rfl rfl rfl ta3 rfl <| qN <| zB0 <| zB <| qR rfl <| qC rfl rfl rfl rfl rfl <| qA rfl rfl rfl <| qN <| zL rfl (rfl) <| zB <| qR rfl <| qC rfl rfl rfl rfl rfl <| qA rfl rfl rfl <| qN <| zL rfl (rfl) <| zB <| qR rfl <| qC rfl rfl rfl rfl rfl ?_
     refine qA rfl rfl rfl <| qN <| zL rfl (rfl) <| zB <| qR rfl <| qC rfl rfl rfl rfl rfl <| qA rfl rfl rfl <| qN <| zW rfl (rfl) <| zB <| qR rfl <| qL rfl rfl rfl rfl ta24 rfl <| qL rfl rfl rfl rfl ta30 rfl ?_
     refine qX rfl rfl rfl rfl co80 (sibs_spec 8 k1 i1 [] (isRF (.mk k1 i1)) ih1 n m s c w (fits8 hfit) hv.2.2.1 hvs _) ?_
     refine qA rfl rfl rfl <| qN <| zK ?_
     exact zQ (.inr rfl) zD1 rfl (.of_eq (by rw [zL2 8]; rw [hfit, hris, s40t]; simp only [Bool.true_and, isRL, List.headD_cons, List.tail_cons]; rfl)) (.bool _) ⟨rfl, rfl⟩
theorem rValIs_spec (s : Sch) (x : Val) (hx : okV x) (S : MS) : MCalls Tryz.prog 23 [encS s, encV x] S fun v σ' => v = .bool (isF 16 s && isVF s x) ∧ σ' = S := by
 obtain ⟨k, ins⟩ := s
 obtain ⟨n, m, s, c, w⟩ := x
 refine zU Tryz.func23 rfl Tryz.ntmps23 (zA rfl) ?_
 refine zB <| qR rfl <| qB rfl rfl rfl rfl rfl <| qB rfl rfl rfl rfl rfl <| qA rfl rfl rfl <| qN <| zB <| qR rfl <| qL rfl rfl rfl rfl ta24 rfl ?_
 refine qX rfl rfl rfl rfl co36 (rIsSchema_spec (.mk k ins) _) ?_
 refine qM rfl rfl rfl ?_
 refine zG0 (fun h7 => ?_) (fun h7 => ?_)
 ·
  refine qL rfl rfl rfl rfl ta24 rfl <| qL rfl rfl rfl rfl ta30 rfl ?_
  refine qX rfl rfl rfl rfl co46 (isR_spec 16 (.mk k ins) h7 (.mk n m s c w) hx _) ?_
  refine qP rfl rfl rfl rfl <| qA rfl rfl rfl <| qN <| zK ?_
  exact zQ (.inr rfl) Tryz.results23 rfl (.of_eq (by simp_all [isVF_eq 16 (.mk k ins)])) (.bool _) ⟨rfl, rfl⟩
 ·
  refine qS rfl <| qS rfl <| qS rfl <| qP rfl rfl rfl rfl <| qA rfl rfl rfl <| qN <| zK ?_
  exact zQ (.inr rfl) Tryz.results23 rfl (.of_eq (by simp_all [isVF_eq 16 (.mk k ins)])) (.bool _) ⟨rfl, rfl⟩
def vA : Val := .mk 0 0 [[97]] [] []
theorem bottom_is : ∀ (d : Nat) (s : Sch), isF d s = true → isVF s (bottomF s) = true ∧ okV (bottomF s)
 | 0, s, h => by simp [isF] at h
 | d + 1, .mk k ins, h => by
  rw [isF] at h
  simp only [Bool.and_eq_true, List.all_eq_true, beq_iff_eq] at h
  by_cases h5 : k = 5
  ·subst h5
   obtain ⟨a, b, rfl⟩ := two_of h.1
   obtain ⟨h1, h2⟩ := bottom_is d a (h.2 a (by simp))
   obtain ⟨h3, h4⟩ := bottom_is d b (h.2 b (by simp))
   rw [bottomF, if_pos rfl, bottomL, bottomL, bottomL]
   refine ⟨?_, ?_⟩
   ·rw [zO1 5]
    simp [isVL, h1, h3, bareF, numsK, textsK, clocksK, valuesK, Val.nv, Val.mv, Val.sv, Val.cv, Val.vv]
   ·simp [okV, okVs, h2, h4]
  ·rw [bottomF, if_neg h5]
   refine ⟨?_, by simp [noV, okV, okVs]⟩
   have hk := k8_of h.1
   unfold noV
   rw [zO1 k]
   rcases hk with rfl | rfl | rfl | rfl | rfl | rfl | rfl | rfl
   ·rfl
   ·rfl
   ·rfl
   ·simp [bareF, numsK, textsK, clocksK, valuesK, Val.nv, Val.mv, Val.sv, Val.cv, Val.vv, isRowF, risesF, shortF]
   ·exact absurd rfl h5
   ·rfl
   ·rfl
   ·simp [bareF, numsK, textsK, clocksK, valuesK, Val.nv, Val.mv, Val.sv, Val.cv, Val.vv, isCauseF, pairsF]
theorem join_err {s : Sch} {a b : Val} (h : ¬ ((isF 16 s && isVF s a) = true ∧ (isF 16 s && isVF s b) = true)) : joinVF s a b = .error 14 := by unfold joinVF; rw [if_neg h]
theorem join_both {s : Sch} {a b : Val} (ha : (isF 16 s && isVF s a) = true) (hb : (isF 16 s && isVF s b) = true) : encJ (joinVF s a b) = encO (bothF s a b) := by
 unfold joinVF
 rw [if_pos ⟨ha, hb⟩]
 cases bothF s a b <;> rfl
theorem okV_no : okV noV := by simp [okV, okVs, noV]
theorem join_spec (s : Sch) (a b : Val) (ha : okV a) (hb : okV b) (S : MS) : MCalls Tryz.prog 7 [encS s, encV a, encV b] S fun v σ' => v = encJ (joinVF s a b) ∧ σ' = S := by
 obtain ⟨k, ins⟩ := s
 obtain ⟨n1, m1, s1, c1, w1⟩ := a
 obtain ⟨n2, m2, s2, c2, w2⟩ := b
 refine zU Tryz.func7 rfl Tryz.ntmps7 (zA rfl) ?_
 refine zB <| qR rfl <| qB rfl rfl rfl rfl rfl <| qB rfl rfl rfl rfl rfl <| qB rfl rfl rfl rfl rfl <| qO rfl <| zN0 rfl zm30 rfl rfl <| qA rfl rfl rfl <| qN <| zB <| zB <| qR rfl <| qL rfl rfl rfl rfl ta24 rfl <| qL rfl rfl rfl rfl ta30 rfl ?_
 refine qX rfl rfl rfl rfl co30 (valIs_spec (.mk k ins) (.mk n1 m1 s1 c1 w1) ha _) ?_
 refine qO rfl <| zG1 rfl rfl <| qM rfl rfl rfl ?_
 refine zG0 (fun h12 => ?_) (fun h12 => ?_)
 ·
  refine qT rfl rfl rfl rfl <| qP rfl rfl rfl rfl <| qN <| zW rfl (rfl) <| zB <| qR rfl <| qO rfl <| zW1 rfl zS0 zm30 .nil (by kernel_rfl) ?_
  refine qO rfl <| zA2 rfl rfl zU1 (by simp) ?_
  refine qO rfl <| zH0 rfl rfl rfl rfl sz30 rfl rfl (zA rfl) rfl <| qA rfl rfl rfl <| qN <| zK ?_
  exact zZ0 (.inr rfl) Tryz.results7 rfl rfl ta30 rfl (.agg (.cons (.refl _) (.cons (.refl _) (.cons (.nil 1) (.cons (.nil 1) (.cons (.nil 5) .nil)))))) (zJ1 _ (noV)) rfl (.refl _) (.iface _ _ (.int _ _)) ⟨by rw [join_err (fun hq => by first | (rw [hq.1] at h12; exact absurd h12 (by decide)) | (rw [hq.2] at h17; exact absurd h17 (by decide)))]; rfl, rfl⟩
 ·
  refine qL rfl rfl rfl rfl ta24 rfl <| qL rfl rfl rfl rfl ta30 rfl ?_
  refine qX rfl rfl rfl rfl co30 (valIs_spec (.mk k ins) (.mk n2 m2 s2 c2 w2) hb _) ?_
  refine qO rfl <| zG1 rfl rfl <| qP rfl rfl rfl rfl <| qN ?_
  refine zJ rfl (fun h17 => ?_) (fun h17 => ?_)
  ·
   refine zB <| qR rfl <| qO rfl <| zW1 rfl zS0 zm30 .nil (by kernel_rfl) ?_
   refine qO rfl <| zA2 rfl rfl zU1 (by simp) ?_
   refine qO rfl <| zH0 rfl rfl rfl rfl sz30 rfl rfl (zA rfl) rfl <| qA rfl rfl rfl <| qN <| zK ?_
   exact zZ0 (.inr rfl) Tryz.results7 rfl rfl ta30 rfl (.agg (.cons (.refl _) (.cons (.refl _) (.cons (.nil 1) (.cons (.nil 1) (.cons (.nil 5) .nil)))))) (zJ1 _ (noV)) rfl (.refl _) (.iface _ _ (.int _ _)) ⟨by rw [join_err (fun hq => by first | (rw [hq.1] at h12; exact absurd h12 (by decide)) | (rw [hq.2] at h17; exact absurd h17 (by decide)))]; rfl, rfl⟩
  ·
   refine zA0 <| zB ?_
   have ha2 : (isF 16 (.mk k ins) && isVF (.mk k ins) (.mk n1 m1 s1 c1 w1)) = true := by simpa using h12
   have hb2 : (isF 16 (.mk k ins) && isVF (.mk k ins) (.mk n2 m2 s2 c2 w2)) = true := by simpa using h17
   have hof := both_spec 16 (.mk k ins) (by rw [Bool.and_eq_true] at ha2; exact ha2.1) (.mk n1 m1 s1 c1 w1) (.mk n2 m2 s2 c2 w2) (by rw [Bool.and_eq_true] at ha2; exact ha2.2) (by rw [Bool.and_eq_true] at hb2; exact hb2.2)
   obtain ⟨n3, m3, s3, c3, w3, h3⟩ := encO_of (bothF (.mk k ins) (.mk n1 m1 s1 c1 w1) (.mk n2 m2 s2 c2 w2))
   have hO : encO (bothF (.mk k ins) (.mk n1 m1 s1 c1 w1) (.mk n2 m2 s2 c2 w2)) = .tup [encV (.mk n3 m3 s3 c3 w3), errO (bothF (.mk k ins) (.mk n1 m1 s1 c1 w1) (.mk n2 m2 s2 c2 w2))] := by rw [encO, h3]
   rw [hO] at hof
   refine qR rfl <| qL rfl rfl rfl rfl ta24 rfl <| qL rfl rfl rfl rfl ta30 rfl <| qL rfl rfl rfl rfl ta30 rfl ?_
   refine qX rfl rfl rfl rfl co31 (hof _) ?_
   refine qO rfl <| zE0 rfl rfl rfl <| qO rfl <| zE0 rfl rfl rfl <| qO rfl <| zH0 rfl rfl rfl rfl sz30 rfl rfl (zA rfl) rfl <| qA rfl rfl rfl <| qN <| zK ?_
   exact zZ0 (.inr rfl) Tryz.results7 rfl rfl ta30 rfl (.refl _) (zJ1 _ (.mk n3 m3 s3 c3 w3)) rfl (.refl _) ((cl_errO _ _)) ⟨by rw [join_both ha2 hb2, hO]; rfl, rfl⟩
section
def mapL (l : List (Bs × Val)) : Val := .mk 0 0 (l.map (·.1)) [] (l.map (·.2))
def cauL (l : List (List Tk × Val)) : Val := .mk 0 0 [] (l.map (·.1)) (l.map (·.2))
theorem zip_map {κ : Type} (l : List (κ × Val)) : (l.map (·.1)).zip (l.map (·.2)) = l := by
  induction l with
  | nil => rfl
  | cons e l ih => simp [ih]
theorem map_zip {κ : Type} : ∀ {a : List κ} {b : List Val}, a.length = b.length → (a.zip b).map (·.1) = a ∧ (a.zip b).map (·.2) = b
  | [], [], _ => ⟨rfl, rfl⟩
  | x :: a, y :: b, h => by
    have := map_zip (a := a) (b := b) (by simpa using h)
    simp [this.1, this.2]
theorem entX_map_ (l : List (Bs × Val)) : entX (mapL l) = l := zip_map l
theorem _root_.zL3 : type_of% @entX_map_ := @entX_map_
theorem entC_cau (l : List (List Tk × Val)) : entC (cauL l) = l := zip_map l
theorem _root_.zD4 : type_of% @entC_cau := @entC_cau
theorem mapL_ent {s : List Bs} {w : List Val} (h : s.length = w.length) : mapL (s.zip w) = .mk 0 0 s [] w := by unfold mapL; rw [(map_zip h).1, (map_zip h).2]
theorem cauL_ent {c : List (List Tk)} {w : List Val} (h : c.length = w.length) : cauL (c.zip w) = .mk 0 0 [] c w := by unfold cauL; rw [(map_zip h).1, (map_zip h).2]
def ClkOk (c : List Tk) : Prop := Go.MV.Up c ∧ Go.MV.Pos c ∧ ∀ t ∈ c, 0 ≤ t.1 ∧ t.1 ≤ 1000000
theorem up_at {c : List Tk} (h : Go.MV.Up c) {j : Nat} {p t : Tk} (hp : c[j]? = some p) (ht : c[j + 1]? = some t) : p.1 < t.1 := by
  obtain ⟨h1, e1⟩ := zI.1 hp
  obtain ⟨h2, e2⟩ := zI.1 ht
  have := List.pairwise_iff_getElem.1 h j (j + 1) h1 h2 (by omega)
  rw [e1, e2] at this
  exact this
theorem isClock_iff {c : List Tk} (hu : ∀ t ∈ c, okTk t) : isClockF c = true ↔ ClkOk c ∧ c.length ≤ 40 := by
  constructor
  · intro h
    obtain ⟨h1, h2, h3⟩ := isClock_spec h hu
    refine ⟨⟨h1, h2, fun t ht => ?_⟩, h3⟩
    unfold isClockF at h
    rw [Bool.and_eq_true, decide_eq_true_eq] at h
    obtain ⟨j, hj, rfl⟩ := List.mem_iff_getElem.1 ht
    have := h.1 j hj
    unfold okAt at this
    rw [zD hj] at this
    simp only [Bool.and_eq_true, Bool.not_eq_true', decide_eq_false_iff_not] at this
    omega
  · rintro ⟨⟨h1, h2, h3⟩, h4⟩
    unfold isClockF
    rw [Bool.and_eq_true, decide_eq_true_eq, decide_eq_true_eq]
    refine ⟨fun j hj => ?_, h4⟩
    unfold okAt
    rw [zD hj]
    have hm := List.getElem_mem hj
    have a1 := h3 _ hm
    have a2 := h2 _ hm
    simp only [Bool.and_eq_true, Bool.not_eq_true', decide_eq_false_iff_not, Bool.or_eq_true, beq_eq_false_iff_ne, ne_eq]
    refine ⟨⟨⟨by omega, by omega⟩, by omega⟩, ?_⟩
    cases j with
    | zero => exact .inl rfl
    | succ j =>
      refine .inr ?_
      rw [Nat.add_sub_cancel, zD (by omega : j < c.length)]
      have := up_at h1 (zD (by omega : j < c.length)) (zD hj)
      simp only [Bool.not_eq_true', decide_eq_false_iff_not]
      omega
theorem clkOk_join {a b : List Tk} (ha : ClkOk a) (hb : ClkOk b) : ClkOk (joinF a b) := by
  obtain ⟨h1, h2, _⟩ := join_laws _ (Nat.le_refl _) ha.1 hb.1 ha.2.1 hb.2.1
  refine ⟨h1, h2, fun t ht => ?_⟩
  rcases join_mem _ (Nat.le_refl _) t ht with ⟨s, hs, e⟩ | ⟨s, hs, e⟩
  · rw [← e]; exact ha.2.2 s hs
  · rw [← e]; exact hb.2.2 s hs
theorem _root_.zE4 : type_of% @clkOk_join := @clkOk_join
theorem clk_ext {a b : List Tk} (ha : ClkOk a) (hb : ClkOk b) (h : ∀ w, ofF a w = ofF b w) : a = b := clock_ext ha.1 hb.1 ha.2.1 hb.2.1 h
theorem of_join {a b : List Tk} (ha : ClkOk a) (hb : ClkOk b) (w : Int) : ofF (joinF a b) w = max (ofF a w) (ofF b w) := (join_laws _ (Nat.le_refl _) ha.1 hb.1 ha.2.1 hb.2.1).2.2 w
theorem clk_comm {a b : List Tk} (ha : ClkOk a) (hb : ClkOk b) : joinF a b = joinF b a := clk_ext (zE4 ha hb) (zE4 hb ha) fun w => by rw [of_join ha hb, of_join hb ha]; omega
theorem clk_assoc {a b c : List Tk} (ha : ClkOk a) (hb : ClkOk b) (hc : ClkOk c) : joinF (joinF a b) c = joinF a (joinF b c) := clk_ext (zE4 (zE4 ha hb) hc) (zE4 ha (zE4 hb hc)) fun w => by
  rw [of_join (zE4 ha hb) hc, of_join ha hb, of_join ha (zE4 hb hc), of_join hb hc]; omega
theorem clk_idem {a : List Tk} (ha : ClkOk a) : joinF a a = a := clk_ext (zE4 ha ha) ha fun w => by rw [of_join ha ha]; omega
def blwC (a b : List Tk) : Prop := cmpF a b = -1
theorem blw_iff {a b : List Tk} (ha : ClkOk a) (hb : ClkOk b) : blwC a b ↔ a ≠ b ∧ ∀ w, ofF a w ≤ ofF b w := by
  unfold blwC cmpF
  have hj : joinF a b = b ↔ ∀ w, ofF a w ≤ ofF b w := by
    constructor
    · intro h w
      have := of_join ha hb w
      rw [h] at this
      omega
    · intro h
      exact clk_ext (zE4 ha hb) hb fun w => by rw [of_join ha hb]; have := h w; omega
  by_cases he : a = b
  · simp [he]
  · rw [if_neg he]
    by_cases h : joinF a b = b
    · rw [if_pos h]; simp [he, hj.1 h]
    · rw [if_neg h]
      have h' : ¬ ∀ w, ofF a w ≤ ofF b w := fun h2 => h (hj.2 h2)
      split <;> simp [h']
theorem poC : PoK blwC ClkOk where
  irr a ha h := ((blw_iff ha ha).1 h).1 rfl
  tr a b c ha hb hc h1 h2 := by
    have k1 := (blw_iff ha hb).1 h1
    have k2 := (blw_iff hb hc).1 h2
    refine (blw_iff ha hc).2 ⟨fun e => ?_, fun w => Int.le_trans (k1.2 w) (k2.2 w)⟩
    subst e
    exact k1.1 (clk_ext ha hb fun w => Int.le_antisymm (k1.2 w) (k2.2 w))
theorem cmp_two {a b : List Tk} (ha : ClkOk a) (hb : ClkOk b) : cmpF a b = 2 ↔ a ≠ b ∧ ¬ blwC a b ∧ ¬ blwC b a := by
  have hc := clk_comm ha hb
  unfold blwC cmpF
  rw [← hc]
  by_cases he : a = b
  · simp [he]
  · have he' : ¬ b = a := fun e => he e.symm
    rw [if_neg he, if_neg he']
    by_cases h1 : joinF a b = b <;> by_cases h2 : joinF a b = a
    · exact absurd (h2.symm.trans h1) he
    · simp [h1, he, he']
    · simp [h2, he, he']
    · simp [h1, h2, he, he']
def clkW (c : List Tk) : Val := if c.length = 0 then noV else .mk 0 0 [] [c] []
theorem clkW_nil : clkW [] = noV := rfl
theorem clkW_cons {c : List Tk} (h : c ≠ []) : clkW c = .mk 0 0 [] [c] [] := by
  cases c with
  | nil => exact absurd rfl h
  | cons x c => rfl
theorem _root_.zY4 : type_of% @clkW_cons := @clkW_cons
theorem joinF_ne {a b : List Tk} (h : a ≠ []) : joinF a b ≠ [] := by
  cases a with
  | nil => exact absurd rfl h
  | cons x a =>
    cases b with
    | nil => rw [join_nil]; simp
    | cons y b =>
      rw [join_cons]
      split
      · simp
      · split <;> simp
theorem clocksF_clk (a b : List Tk) : clocksF (clkW a) (clkW b) = clkW (joinF a b) := by
  cases a with
  | nil => rw [nil_join]; rfl
  | cons x a =>
    cases b with
    | nil => rw [join_nil]; rfl
    | cons y b => rw [zY4 (joinF_ne (by simp))]; rfl
theorem _root_.zF3 : type_of% @clocksF_clk := @clocksF_clk
structure SemiB (P : Val → Prop) (f : Val → Val → Val) (b : Val) : Prop extends SemiL P f where
  bot : P b
  neut : ∀ x, P x → f x b = x
def U64 (n : Int) : Prop := 0 ≤ n ∧ n < 18446744073709551616
def N1 (v : Val) : Prop := ∃ n, v = .mk n 0 [] [] [] ∧ U64 n
def N2 (v : Val) : Prop := ∃ n, v = .mk n 0 [] [] [] ∧ 0 ≤ n ∧ n ≤ 1
def N6 (v : Val) : Prop := isLV v = true ∧ okV v
def N3 (v : Val) : Prop := ∃ s, v = .mk 0 0 s [] [] ∧ Up s ∧ ∀ x ∈ s, x.length ≤ 16
structure R4 (p : Val → Prop) (b : Val) (l : List (Bs × Val)) : Prop where
  srt : SrtK cmpX l
  sh : ∀ e ∈ l, e.1.length ≤ 16
  all : AllV p l
  non : ∀ e ∈ l, e.2 ≠ b
def N4 (p : Val → Prop) (b : Val) (v : Val) : Prop := ∃ l, v = mapL l ∧ R4 p b l
def N5 (p q : Val → Prop) (v : Val) : Prop := ∃ x y, v = .mk 0 0 [] [] [x, y] ∧ p x ∧ q y
def N7 (v : Val) : Prop := ∃ c, v = clkW c ∧ ClkOk c
structure R8 (p : Val → Prop) (l : List (List Tk × Val)) : Prop where
  srt : SrtK byTicksF l
  key : AllK ClkOk l
  len : ∀ e ∈ l, e.1.length ≤ 40
  all : AllV p l
  anti : AntiK blwC l
def N8 (p : Val → Prop) (v : Val) : Prop := ∃ l, v = cauL l ∧ R8 p l
def LVB (k : Int) (bs : List Val) (ps : List (Val → Prop)) (v : Val) : Prop :=
  if k = 1 then N1 v else if k = 2 then N2 v else if k = 3 then N3 v
  else if k = 4 then N4 (ps.headD fun _ => False) (bs.headD noV) v
  else if k = 5 then N5 (ps.headD fun _ => False) (ps.tail.headD fun _ => False) v
  else if k = 6 then N6 v else if k = 7 then N7 v else N8 (ps.headD fun _ => False) v
mutual
def LV : Sch → Val → Prop
  | .mk k ins, v => LVB k (bottomL ins) (LVL ins) v
def LVL : List Sch → List (Val → Prop)
  | [] => []
  | s :: l => LV s :: LVL l
end
noncomputable def jnB (k : Int) (fs : List (Val → Val → Val)) (a b : Val) : Val :=
  if k = 1 ∨ k = 2 then .mk (max a.nv b.nv) 0 [] [] []
  else if k = 3 then .mk 0 0 (bothX a.sv b.sv) [] []
  else if k = 4 then mapL (mergeG cmpX (fs.headD fun x _ => x) (entX a) (entX b))
  else if k = 5 then (match a.vv, b.vv with | [x, y], [x2, y2] => .mk 0 0 [] [] [fs.headD (fun x _ => x) x x2, fs.tail.headD (fun x _ => x) y y2] | _, _ => noV)
  else if k = 6 then laterF a b
  else if k = 7 then clocksF a b
  else cauL (topG byTicksF blwC (fs.headD fun x _ => x) (entC a) (entC b))
mutual
noncomputable def jn : Sch → Val → Val → Val
  | .mk k ins, a, b => jnB k (jnL ins) a b
noncomputable def jnL : List Sch → List (Val → Val → Val)
  | [] => []
  | s :: l => jn s :: jnL l
end
theorem jn_mk (k : Int) (ins : List Sch) (a b : Val) : jn (.mk k ins) a b = jnB k (jnL ins) a b := by rw [jn]
theorem LV_mk (k : Int) (ins : List Sch) (v : Val) : LV (.mk k ins) v = LVB k (bottomL ins) (LVL ins) v := by rw [LV]
theorem bot_mk (k : Int) (ins : List Sch) : bottomF (.mk k ins) = if k = 5 then .mk 0 0 [] [] (bottomL ins) else noV := by rw [bottomF]
theorem sem1 (fs : List (Val → Val → Val)) : SemiB N1 (jnB 1 fs) noV where
  cl := by rintro _ _ ⟨n, rfl, hn⟩ ⟨m, rfl, hm⟩; exact ⟨max n m, rfl, by unfold U64 at *; omega⟩
  comm := by
    rintro _ _ ⟨n, rfl, hn⟩ ⟨m, rfl, hm⟩
    show Val.mk (max n m) 0 [] [] [] = .mk (max m n) 0 [] [] []
    rw [show max n m = max m n by omega]
  assoc := by
    rintro _ _ _ ⟨n, rfl, hn⟩ ⟨m, rfl, hm⟩ ⟨r, rfl, hr⟩
    show Val.mk (max (max n m) r) 0 [] [] [] = .mk (max n (max m r)) 0 [] [] []
    rw [show max (max n m) r = max n (max m r) by omega]
  idem := by
    rintro _ ⟨n, rfl, hn⟩
    show Val.mk (max n n) 0 [] [] [] = _
    rw [show max n n = n by omega]
  bot := ⟨0, rfl, by unfold U64; omega⟩
  neut := by
    rintro _ ⟨n, rfl, hn⟩
    show Val.mk (max n 0) 0 [] [] [] = _
    rw [show max n 0 = n by unfold U64 at hn; omega]
theorem sem2 (fs : List (Val → Val → Val)) : SemiB N2 (jnB 2 fs) noV where
  cl := by rintro _ _ ⟨n, rfl, hn⟩ ⟨m, rfl, hm⟩; exact ⟨max n m, rfl, by omega, by omega⟩
  comm := by
    rintro _ _ ⟨n, rfl, hn⟩ ⟨m, rfl, hm⟩
    show Val.mk (max n m) 0 [] [] [] = .mk (max m n) 0 [] [] []
    rw [show max n m = max m n by omega]
  assoc := by
    rintro _ _ _ ⟨n, rfl, hn⟩ ⟨m, rfl, hm⟩ ⟨r, rfl, hr⟩
    show Val.mk (max (max n m) r) 0 [] [] [] = .mk (max n (max m r)) 0 [] [] []
    rw [show max (max n m) r = max n (max m r) by omega]
  idem := by
    rintro _ ⟨n, rfl, hn⟩
    show Val.mk (max n n) 0 [] [] [] = _
    rw [show max n n = n by omega]
  bot := ⟨0, rfl, by omega, by omega⟩
  neut := by
    rintro _ ⟨n, rfl, hn⟩
    show Val.mk (max n 0) 0 [] [] [] = _
    rw [show max n 0 = n by omega]
theorem bothX_nil : ∀ a : List Bs, bothX a [] = a
  | [] => by rw [bothX]
  | x :: a => by rw [bothX, bothX_nil a]
theorem sem3 (fs : List (Val → Val → Val)) : SemiB N3 (jnB 3 fs) noV where
  cl := by
    rintro _ _ ⟨s, rfl, hs, ls⟩ ⟨u, rfl, hu, lu⟩
    refine ⟨bothX s u, rfl, up_both s u hs hu, fun x hx => ?_⟩
    rcases (zH3 s u x).1 hx with h | h
    · exact ls x h
    · exact lu x h
  comm := by
    rintro _ _ ⟨s, rfl, hs, ls⟩ ⟨u, rfl, hu, lu⟩
    show Val.mk 0 0 (bothX s u) [] [] = .mk 0 0 (bothX u s) [] []
    rw [up_ext (up_both s u hs hu) (up_both u s hu hs) fun x => by rw [zH3, zH3, or_comm]]
  assoc := by
    rintro _ _ _ ⟨s, rfl, hs, ls⟩ ⟨u, rfl, hu, lu⟩ ⟨w, rfl, hw, lw⟩
    show Val.mk 0 0 (bothX (bothX s u) w) [] [] = .mk 0 0 (bothX s (bothX u w)) [] []
    rw [up_ext (up_both _ _ (up_both s u hs hu) hw) (up_both _ _ hs (up_both u w hu hw)) fun x => by rw [zH3, zH3, zH3, zH3, or_assoc]]
  idem := by
    rintro _ ⟨s, rfl, hs, ls⟩
    show Val.mk 0 0 (bothX s s) [] [] = _
    rw [up_ext (up_both s s hs hs) hs fun x => by rw [zH3, or_self]]
  bot := ⟨[], rfl, .nil, by simp⟩
  neut := by
    rintro _ ⟨s, rfl, hs, ls⟩
    show Val.mk 0 0 (bothX s []) [] [] = _
    rw [bothX_nil]
section
variable {p : Val → Prop} {f : Val → Val → Val} {b : Val} (h : SemiB p f b)
include h
theorem ne_bot {x y : Val} (hx : p x) (hy : p y) (hn : x ≠ b) : f x y ≠ b := by
  intro e
  apply hn
  have h1 := h.neut x hx
  rw [← e, ← h.assoc x x y hx hx hy, h.idem x hx, e] at h1
  exact h1.symm
theorem r4_merge {l m : List (Bs × Val)} (hl : R4 p b l) (hm : R4 p b m) : R4 p b (mergeG cmpX f l m) where
  srt := zX3 ordX f l m hl.srt hm.srt
  sh e he := by
    rcases (merge_has (f := f) ordX l m e.1).1 ⟨e, he, rfl⟩ with ⟨x, hx, e2⟩ | ⟨x, hx, e2⟩
    · rw [← e2]; exact hl.sh x hx
    · rw [← e2]; exact hm.sh x hx
  all := merge_allV h.toSemiL ordX hl.srt hm.srt hl.all hm.all
  non e he := by
    have hk := zW4 ordX (zX3 ordX f l m hl.srt hm.srt) he
    rw [zA4 ordX f l m hl.srt hm.srt] at hk
    cases h1 : look l e.1 with
    | none =>
      rw [h1] at hk
      exact hm.non _ (zG6 hk)
    | some x =>
      cases h2 : look m e.1 with
      | none =>
        rw [h1, h2] at hk
        injection hk with hk
        rw [← hk]
        exact hl.non _ (zG6 h1)
      | some y =>
        rw [h1, h2] at hk
        injection hk with hk
        rw [← hk]
        exact ne_bot h (zX2 hl.all h1) (zX2 hm.all h2) (hl.non _ (zG6 h1))
theorem sem4 : SemiB (N4 p b) (jnB 4 [f]) noV where
  cl := by
    rintro _ _ ⟨l, rfl, hl⟩ ⟨m, rfl, hm⟩
    show N4 p b (mapL (mergeG cmpX f (entX (mapL l)) (entX (mapL m))))
    rw [zL3, zL3]
    exact ⟨_, rfl, r4_merge h hl hm⟩
  comm := by
    rintro _ _ ⟨l, rfl, hl⟩ ⟨m, rfl, hm⟩
    show mapL (mergeG cmpX f (entX (mapL l)) (entX (mapL m))) = mapL (mergeG cmpX f (entX (mapL m)) (entX (mapL l)))
    rw [zL3, zL3, mergeG_comm h.toSemiL ordX hl.srt hm.srt hl.all hm.all]
  assoc := by
    rintro _ _ _ ⟨l, rfl, hl⟩ ⟨m, rfl, hm⟩ ⟨r, rfl, hr⟩
    show mapL (mergeG cmpX f (entX (mapL (mergeG cmpX f (entX (mapL l)) (entX (mapL m))))) (entX (mapL r))) = mapL (mergeG cmpX f (entX (mapL l)) (entX (mapL (mergeG cmpX f (entX (mapL m)) (entX (mapL r))))))
    simp only [zL3]
    rw [mergeG_assoc h.toSemiL ordX hl.srt hm.srt hr.srt hl.all hm.all hr.all]
  idem := by
    rintro _ ⟨l, rfl, hl⟩
    show mapL (mergeG cmpX f (entX (mapL l)) (entX (mapL l))) = _
    rw [zL3, mergeG_idem h.toSemiL ordX hl.srt hl.all]
  bot := ⟨[], rfl, .nil, by simp, by simp [AllV], by simp⟩
  neut := by
    rintro _ ⟨l, rfl, hl⟩
    show mapL (mergeG cmpX f (entX (mapL l)) []) = _
    rw [zL3, mergeG_nil]
theorem r8_top {l m : List (List Tk × Val)} (hl : R8 p l) (hm : R8 p m) : R8 p (topG byTicksF blwC f l m) where
  srt := top_srt ordT hl.srt hm.srt
  key := top_allK ordT hl.key hm.key
  len := top_allK (Q := fun c : List Tk => c.length ≤ 40) ordT hl.len hm.len
  all := top_allV h.toSemiL ordT hl.srt hm.srt hl.all hm.all
  anti := top_anti ordT l m
theorem sem8 : SemiB (N8 p) (jnB 8 [f]) noV where
  cl := by
    rintro _ _ ⟨l, rfl, hl⟩ ⟨m, rfl, hm⟩
    show N8 p (cauL (topG byTicksF blwC f (entC (cauL l)) (entC (cauL m))))
    rw [zD4, zD4]
    exact ⟨_, rfl, r8_top h hl hm⟩
  comm := by
    rintro _ _ ⟨l, rfl, hl⟩ ⟨m, rfl, hm⟩
    show cauL (topG byTicksF blwC f (entC (cauL l)) (entC (cauL m))) = cauL (topG byTicksF blwC f (entC (cauL m)) (entC (cauL l)))
    rw [zD4, zD4, topG_comm h.toSemiL ordT hl.srt hm.srt hl.all hm.all]
  assoc := by
    rintro _ _ _ ⟨l, rfl, hl⟩ ⟨m, rfl, hm⟩ ⟨r, rfl, hr⟩
    show cauL (topG byTicksF blwC f (entC (cauL (topG byTicksF blwC f (entC (cauL l)) (entC (cauL m))))) (entC (cauL r))) = cauL (topG byTicksF blwC f (entC (cauL l)) (entC (cauL (topG byTicksF blwC f (entC (cauL m)) (entC (cauL r))))))
    simp only [zD4]
    rw [topG_assoc h.toSemiL poC ordT hl.srt hm.srt hr.srt hl.all hm.all hr.all hl.key hm.key hr.key]
  idem := by
    rintro _ ⟨l, rfl, hl⟩
    show cauL (topG byTicksF blwC f (entC (cauL l)) (entC (cauL l))) = _
    rw [zD4, topG_idem h.toSemiL ordT hl.srt hl.all hl.anti]
  bot := ⟨[], rfl, .nil, by simp [AllK], by simp, by simp [AllV], by simp [AntiK]⟩
  neut := by
    rintro _ ⟨l, rfl, hl⟩
    show cauL (topG byTicksF blwC f (entC (cauL l)) []) = _
    rw [zD4, topG_nil hl.anti]
end
theorem sem5 {p q : Val → Prop} {f g : Val → Val → Val} {b c : Val} (h : SemiB p f b) (k : SemiB q g c) : SemiB (N5 p q) (jnB 5 [f, g]) (.mk 0 0 [] [] [b, c]) where
  cl := by
    rintro _ _ ⟨x, y, rfl, hx, hy⟩ ⟨x2, y2, rfl, hx2, hy2⟩
    exact ⟨f x x2, g y y2, rfl, h.cl _ _ hx hx2, k.cl _ _ hy hy2⟩
  comm := by
    rintro _ _ ⟨x, y, rfl, hx, hy⟩ ⟨x2, y2, rfl, hx2, hy2⟩
    show Val.mk 0 0 [] [] [f x x2, g y y2] = .mk 0 0 [] [] [f x2 x, g y2 y]
    rw [h.comm _ _ hx hx2, k.comm _ _ hy hy2]
  assoc := by
    rintro _ _ _ ⟨x, y, rfl, hx, hy⟩ ⟨x2, y2, rfl, hx2, hy2⟩ ⟨x3, y3, rfl, hx3, hy3⟩
    show Val.mk 0 0 [] [] [f (f x x2) x3, g (g y y2) y3] = .mk 0 0 [] [] [f x (f x2 x3), g y (g y2 y3)]
    rw [h.assoc _ _ _ hx hx2 hx3, k.assoc _ _ _ hy hy2 hy3]
  idem := by
    rintro _ ⟨x, y, rfl, hx, hy⟩
    show Val.mk 0 0 [] [] [f x x, g y y] = _
    rw [h.idem _ hx, k.idem _ hy]
  bot := ⟨b, c, rfl, h.bot, k.bot⟩
  neut := by
    rintro _ ⟨x, y, rfl, hx, hy⟩
    show Val.mk 0 0 [] [] [f x b, g y c] = _
    rw [h.neut _ hx, k.neut _ hy]
theorem isLV_no : isLV noV = true := by unfold isLV noV; rw [zO1 6]; rfl
theorem sem6 (fs : List (Val → Val → Val)) : SemiB N6 (jnB 6 fs) noV where
  cl := by
    rintro a b ⟨ha, oa⟩ ⟨hb, ob⟩
    show N6 (laterF a b)
    rcases laterF_or a b with e | e <;> rw [e]
    · exact ⟨ha, oa⟩
    · exact ⟨hb, ob⟩
  comm := by rintro a b ⟨ha, oa⟩ ⟨hb, ob⟩; exact laterF_comm ha hb
  assoc := by rintro a b c ⟨ha, oa⟩ ⟨hb, ob⟩ ⟨hc, oc⟩; exact laterF_assoc ha hb hc
  idem := by
    rintro a ⟨ha, oa⟩
    show laterF a a = a
    rcases laterF_or a a with e | e <;> exact e
  bot := ⟨isLV_no, okV_no⟩
  neut := by rintro a ⟨ha, oa⟩; exact later_no_r ha
theorem sem7 (fs : List (Val → Val → Val)) : SemiB N7 (jnB 7 fs) noV where
  cl := by
    rintro _ _ ⟨a, rfl, ha⟩ ⟨b, rfl, hb⟩
    show N7 (clocksF (clkW a) (clkW b))
    rw [zF3]
    exact ⟨_, rfl, zE4 ha hb⟩
  comm := by
    rintro _ _ ⟨a, rfl, ha⟩ ⟨b, rfl, hb⟩
    show clocksF (clkW a) (clkW b) = clocksF (clkW b) (clkW a)
    rw [zF3, zF3, clk_comm ha hb]
  assoc := by
    rintro _ _ _ ⟨a, rfl, ha⟩ ⟨b, rfl, hb⟩ ⟨c, rfl, hc⟩
    show clocksF (clocksF (clkW a) (clkW b)) (clkW c) = clocksF (clkW a) (clocksF (clkW b) (clkW c))
    rw [zF3, zF3, zF3, zF3, clk_assoc ha hb hc]
  idem := by
    rintro _ ⟨a, rfl, ha⟩
    show clocksF (clkW a) (clkW a) = _
    rw [zF3, clk_idem ha]
  bot := ⟨[], rfl, .nil, by simp [Go.MV.Pos], by simp⟩
  neut := by
    rintro _ ⟨a, rfl, ha⟩
    show clocksF (clkW a) (clkW []) = _
    rw [zF3, join_nil]
theorem LVL_one (t : Sch) : LVL [t] = [LV t] := by simp [LVL]
theorem jnL_one (t : Sch) : jnL [t] = [jn t] := by simp [jnL]
theorem sem : ∀ (d : Nat) (s : Sch), isF d s = true → SemiB (LV s) (jn s) (bottomF s)
  | 0, s, h => by simp [isF] at h
  | d + 1, .mk k ins, h => by
    rw [isF] at h
    simp only [Bool.and_eq_true, List.all_eq_true, beq_iff_eq] at h
    have e1 : LV (.mk k ins) = LVB k (bottomL ins) (LVL ins) := funext fun v => LV_mk k ins v
    have e2 : jn (.mk k ins) = jnB k (jnL ins) := funext fun a => funext fun b => jn_mk k ins a b
    rw [e1, e2, bot_mk]
    rcases k8_of h.1 with rfl | rfl | rfl | rfl | rfl | rfl | rfl | rfl
    · exact sem1 _
    · exact sem2 _
    · exact sem3 _
    · obtain ⟨t1, rfl⟩ := zT5 h.1 (by decide)
      have ih := sem d t1 (h.2 _ (by simp))
      rw [LVL_one, jnL_one, zT4]
      exact sem4 ih
    · obtain ⟨t1, t2, rfl⟩ := two_of h.1
      have ih1 := sem d t1 (h.2 _ (by simp))
      have ih2 := sem d t2 (h.2 _ (by simp))
      rw [zT4, show LVL [t1, t2] = [LV t1, LV t2] by simp [LVL], show jnL [t1, t2] = [jn t1, jn t2] by simp [jnL]]
      exact sem5 ih1 ih2
    · exact sem6 _
    · exact sem7 _
    · obtain ⟨t1, rfl⟩ := zT5 h.1 (by decide)
      have ih := sem d t1 (h.2 _ (by simp))
      rw [LVL_one, jnL_one, zT4]
      exact sem8 ih
theorem map_filter_ {κ : Type} (g : Ent κ → κ × Val) (p : κ → Bool) (hg : ∀ e, (g e).1 = e.1) : ∀ l : List (Ent κ), (l.filter fun e => p e.1).map g = (l.map g).filter fun e => p e.1
  | [] => rfl
  | e :: l => by
    rw [List.map_cons]
    by_cases h : p e.1 = true
    · rw [List.filter_cons_of_pos (p := fun e : Ent κ => p e.1) h, List.filter_cons_of_pos (p := fun e : κ × Val => p e.1) (by rw [hg]; exact h), List.map_cons, map_filter_ g p hg l]
    · rw [List.filter_cons_of_neg (p := fun e : Ent κ => p e.1) h, List.filter_cons_of_neg (p := fun e : κ × Val => p e.1) (by rw [hg]; exact h), map_filter_ g p hg l]
theorem top_eq (g : Val → Val → Val) (a b : List (List Tk × Val)) : ((mergeE byTicksF a b).filter fun e => !seenE (mergeE byTicksF a b) e).map (fun e => (e.1, fillE g e)) = topG byTicksF blwC g a b := by
  classical
  unfold topG
  have h : ∀ k, (!(mergeE byTicksF a b).any fun o => decide (cmpF k o.1 = -1)) = decide (¬ Dead blwC (HasK (mergeG byTicksF g a b)) k) := by
    intro k
    have : (mergeE byTicksF a b).any (fun o => decide (cmpF k o.1 = -1)) = true ↔ Dead blwC (HasK (mergeG byTicksF g a b)) k := by
      rw [List.any_eq_true]
      unfold Dead HasK mergeG blwC
      constructor
      · rintro ⟨o, ho, hc⟩
        exact ⟨o.1, ⟨_, List.mem_map.2 ⟨o, ho, rfl⟩, rfl⟩, by simpa using hc⟩
      · rintro ⟨_, ⟨e, he, rfl⟩, hc⟩
        obtain ⟨o, ho, rfl⟩ := List.mem_map.1 he
        exact ⟨o, ho, by simpa using hc⟩
    cases hb : (mergeE byTicksF a b).any (fun o => decide (cmpF k o.1 = -1)) with
    | true =>
      have hd := this.1 hb
      simp [hd]
    | false =>
      have hd : ¬ Dead blwC (HasK (mergeG byTicksF g a b)) k := fun hd => by rw [this.2 hd] at hb; cases hb
      simp [hd]
  have h2 := map_filter_ (fun e : Ent (List Tk) => (e.1, fillE g e)) (fun k => !(mergeE byTicksF a b).any fun o => decide (cmpF k o.1 = -1)) (fun _ => rfl) (mergeE byTicksF a b)
  refine Eq.trans h2 ?_
  unfold mergeG at h ⊢
  exact List.filter_congr fun e _ => h e.1
theorem goE_fill {κ : Type} {f : Val → Val → Option Val} {g : Val → Val → Val} : ∀ {l : List (Ent κ)} {x : List (κ × Val)}, (∀ e ∈ l, ∀ y, e.2.2 = some y → ∀ v, f e.2.1 y = some v → v = g e.2.1 y) → goE f l = some x → x = l.map fun e => (e.1, fillE g e)
  | [], x, _, h => by simp [goE] at h; simp [h]
  | e :: l, x, hl, h => by
    rw [goE] at h
    cases ho : ofE f e with
    | none => rw [ho] at h; cases h
    | some v =>
      rw [ho] at h
      cases hg : goE f l with
      | none => rw [hg] at h; cases h
      | some y =>
        rw [hg] at h
        injection h with h
        rw [← h, List.map_cons, ← goE_fill (fun e he => hl e (.tail _ he)) hg]
        show (e.1, v) :: y = (e.1, fillE g e) :: y
        congr 2
        unfold ofE at ho
        unfold fillE
        cases he : e.2.2 with
        | none => rw [he] at ho; injection ho with ho; exact ho.symm
        | some w => rw [he] at ho; exact hl e (.head _) w he v ho
theorem both_jn : ∀ (d : Nat) (s : Sch), isF d s = true → ∀ a b v : Val, LV s a → LV s b → bothF s a b = some v → v = jn s a b
  | 0, s, h => by simp [isF] at h
  | d + 1, .mk k ins, h => by
    rw [isF] at h
    simp only [Bool.and_eq_true, List.all_eq_true, beq_iff_eq] at h
    intro a b v ha hb hv
    rw [zK2] at hv
    replace hv := cap_some hv
    rw [LV_mk] at ha hb
    rw [jn_mk]
    rcases k8_of h.1 with rfl | rfl | rfl | rfl | rfl | rfl | rfl | rfl
    · injection hv with hv; exact hv.symm
    · injection hv with hv; exact hv.symm
    · injection hv with hv; exact hv.symm
    · obtain ⟨t1, rfl⟩ := zT5 h.1 (by decide)
      have ih := both_jn d t1 (h.2 _ (by simp))
      replace hv : mapsF (bothF t1) a b = some v := by rw [← hv]; simp [bothB, bothL]
      rw [LVL_one, zT4] at ha hb
      obtain ⟨l, rfl, hl⟩ : N4 (LV t1) (bottomF t1) a := ha
      obtain ⟨m, rfl, hm⟩ : N4 (LV t1) (bottomF t1) b := hb
      unfold mapsF mergedX at hv
      obtain ⟨x, hx, rfl⟩ := Option.map_eq_some_iff.1 hv
      rw [jnL_one]
      show mapL x = mapL (mergeG cmpX (jn t1) (entX (mapL l)) (entX (mapL m)))
      rw [zL3, zL3] at hx ⊢
      congr 1
      refine goE_fill (fun e he y hy v hv => ?_) hx
      obtain ⟨p, q⟩ := mergeE_mem _ _ _ e he
      obtain ⟨q1, k, q2⟩ := q y hy
      exact ih _ _ _ (hl.all _ q1) (hm.all _ q2) hv
    · obtain ⟨t1, t2, rfl⟩ := two_of h.1
      have ih1 := both_jn d t1 (h.2 _ (by simp))
      have ih2 := both_jn d t2 (h.2 _ (by simp))
      replace hv : pairF2 [bothF t1, bothF t2] a b = some v := by rw [← hv]; simp [bothB, bothL]
      rw [show LVL [t1, t2] = [LV t1, LV t2] by simp [LVL]] at ha hb
      obtain ⟨x, y, rfl, hx, hy⟩ : N5 (LV t1) (LV t2) a := ha
      obtain ⟨x2, y2, rfl, hx2, hy2⟩ : N5 (LV t1) (LV t2) b := hb
      rw [show jnL [t1, t2] = [jn t1, jn t2] by simp [jnL]]
      show v = .mk 0 0 [] [] [jn t1 x x2, jn t2 y y2]
      unfold pairF2 at hv
      obtain ⟨z, hz, rfl⟩ := Option.map_eq_some_iff.1 hv
      simp only [Val.vv, goP] at hz
      cases h1 : bothF t1 x x2 with
      | none => rw [h1] at hz; cases hz
      | some u =>
        rw [h1] at hz
        cases h2 : bothF t2 y y2 with
        | none => rw [h2] at hz; cases hz
        | some u2 =>
          rw [h2] at hz
          simp at hz
          rw [← hz, ih1 _ _ _ hx hx2 h1, ih2 _ _ _ hy hy2 h2]
    · injection hv with hv; exact hv.symm
    · injection hv with hv; exact hv.symm
    · obtain ⟨t1, rfl⟩ := zT5 h.1 (by decide)
      have ih := both_jn d t1 (h.2 _ (by simp))
      replace hv : causesF (bothF t1) a b = some v := by rw [← hv]; simp [bothB, bothL]
      rw [LVL_one, zT4] at ha hb
      obtain ⟨l, rfl, hl⟩ : N8 (LV t1) a := ha
      obtain ⟨m, rfl, hm⟩ : N8 (LV t1) b := hb
      unfold causesF mergedC at hv
      obtain ⟨x, hx, rfl⟩ := Option.map_eq_some_iff.1 hv
      rw [jnL_one]
      show cauL x = cauL (topG byTicksF blwC (jn t1) (entC (cauL l)) (entC (cauL m)))
      rw [zD4, zD4] at hx ⊢
      rw [← top_eq]
      congr 1
      refine goE_fill (fun e he y hy v hv => ?_) hx
      obtain ⟨p, q⟩ := mergeE_mem _ _ _ e (List.mem_filter.1 he).1
      obtain ⟨q1, k, q2⟩ := q y hy
      exact ih _ _ _ (hl.all _ q1) (hm.all _ q2) hv
end
section
theorem row_iff {s : List Bs} : isRowF s = true ↔ s.length ≤ 40 ∧ Up s ∧ ∀ x ∈ s, x.length ≤ 16 := by
  unfold isRowF shortF
  rw [Bool.and_eq_true, Bool.and_eq_true, decide_eq_true_eq, rises_up, List.all_eq_true]
  simp only [decide_eq_true_eq, and_assoc]
theorem srt_zip {s : List Bs} {w : List Val} (hl : s.length = w.length) (h : Up s) : SrtK cmpX (s.zip w) := by
  unfold SrtK
  have : Up ((s.zip w).map (·.1)) := by rw [(map_zip hl).1]; exact h
  unfold Up at this
  rw [List.pairwise_map] at this
  exact this.imp fun h => cmpX_lt.2 h
theorem srt_up {l : List (Bs × Val)} (h : SrtK cmpX l) : Up (l.map (·.1)) := by
  unfold Up
  rw [List.pairwise_map]
  exact List.Pairwise.imp (fun h => cmpX_lt.1 h) h
theorem isCause_iff {c : List (List Tk)} {w : List Val} (hl : c.length = w.length) (hu : ∀ x ∈ c, ∀ t ∈ x, okTk t) : isCauseF c = true ↔ SrtK byTicksF (c.zip w) ∧ AllK ClkOk (c.zip w) ∧ (∀ e ∈ c.zip w, e.1.length ≤ 40) ∧ AntiK blwC (c.zip w) := by
  have hm := (map_zip hl).1
  have hmem : ∀ x, x ∈ c ↔ ∃ e ∈ c.zip w, e.1 = x := fun x => by
    conv => lhs; rw [← hm]
    simp only [List.mem_map]
  unfold isCauseF
  rw [Bool.and_eq_true, List.all_eq_true, pairsF_iff]
  have hp : ∀ R : List Tk → List Tk → Prop, c.Pairwise R ↔ (c.zip w).Pairwise fun x y => R x.1 y.1 := fun R => by
    conv => lhs; rw [← hm]
    rw [List.pairwise_map]
  constructor
  · rintro ⟨h1, h2⟩
    have hk : ∀ e ∈ c.zip w, ClkOk e.1 ∧ e.1.length ≤ 40 := fun e he => by
      have hc := (hmem e.1).2 ⟨e, he, rfl⟩
      exact (isClock_iff (hu _ hc)).1 (h1 _ hc)
    have hpw := (hp _).1 h2
    have hS : SrtK byTicksF (c.zip w) := hpw.imp fun h => h.1
    refine ⟨hS, fun e he => (hk e he).1, fun e he => (hk e he).2, fun x hx y hy hb => ?_⟩
    obtain ⟨i, hi, rfl⟩ := List.mem_iff_getElem.1 hx
    obtain ⟨j, hj, rfl⟩ := List.mem_iff_getElem.1 hy
    have kx := (hk _ hx).1
    have ky := (hk _ hy).1
    rcases Nat.lt_trichotomy i j with h | h | h
    · have := (List.pairwise_iff_getElem.1 hpw i j hi hj h).2
      exact ((cmp_two kx ky).1 this).2.1 hb
    · subst h
      exact poC.irr _ kx hb
    · have := (List.pairwise_iff_getElem.1 hpw j i hj hi h).2
      exact ((cmp_two ky kx).1 this).2.2 hb
  · rintro ⟨hS, hK, hL, hA⟩
    refine ⟨fun x hx => ?_, (hp _).2 ?_⟩
    · obtain ⟨e, he, rfl⟩ := (hmem x).1 hx
      exact (isClock_iff (hu _ hx)).2 ⟨hK e he, hL e he⟩
    · refine List.Pairwise.imp_of_mem (fun {a b} ha hb h => ?_) hS
      refine ⟨h, (cmp_two (hK a ha) (hK b hb)).2 ⟨fun e => ?_, hA a ha b hb, hA b hb a ha⟩⟩
      rw [e] at h
      exact ordT.irr _ h
theorem bot_eq {d : Nat} {t : Sch} (h : isF d t = true) (hd : d ≤ 16) : BottomF t = bottomF t := by
  unfold BottomF
  rw [if_pos (isF_le hd h)]
theorem lv_of : ∀ (d : Nat) (s : Sch), isF d s = true → d ≤ 16 → ∀ v : Val, okV v → isVF s v = true → LV s v
  | 0, s, h => by simp [isF] at h
  | d + 1, .mk k ins, h => by
    have h0 := h
    rw [isF] at h
    simp only [Bool.and_eq_true, List.all_eq_true, beq_iff_eq] at h
    rintro hd ⟨n, m, s, c, w⟩ ho hv
    have o := okV_mk.1 ho
    rw [LV_mk]
    rcases k8_of h.1 with rfl | rfl | rfl | rfl | rfl | rfl | rfl | rfl
    · rw [zO1 1] at hv
      simp [bareF, numsK, textsK, clocksK, valuesK, Val.nv, Val.mv, Val.sv, Val.cv, Val.vv] at hv
      obtain ⟨⟨⟨⟨⟨h1, h2⟩, h3⟩, h4⟩, _⟩, _⟩ := hv
      subst h1 h2 h3 h4
      exact ⟨n, rfl, o.1⟩
    · rw [zO1 2] at hv
      simp [bareF, numsK, textsK, clocksK, valuesK, Val.nv, Val.mv, Val.sv, Val.cv, Val.vv] at hv
      obtain ⟨⟨⟨⟨⟨⟨h1, h2⟩, h3⟩, h4⟩, _⟩, _⟩, h5⟩ := hv
      subst h1 h2 h3 h4
      exact ⟨n, rfl, o.1.1, h5⟩
    · rw [zO1 3] at hv
      simp [bareF, numsK, textsK, clocksK, valuesK, Val.nv, Val.mv, Val.sv, Val.cv, Val.vv] at hv
      obtain ⟨⟨⟨⟨⟨⟨h1, h2⟩, h3⟩, h4⟩, _⟩, _⟩, h5⟩ := hv
      subst h1 h2 h3 h4
      exact ⟨s, rfl, (row_iff.1 h5).2⟩
    · obtain ⟨t1, rfl⟩ := zT5 h.1 (by decide)
      have ih := lv_of d t1 (h.2 _ (by simp)) (by omega)
      rw [LVL_one, zT4]
      rw [zO1 4] at hv
      simp [bareF, numsK, textsK, clocksK, valuesK, Val.nv, Val.mv, Val.sv, Val.cv, Val.vv, isVL] at hv
      obtain ⟨⟨⟨⟨⟨⟨h1, h2⟩, h3⟩, _⟩, _⟩, h4, h5⟩, h6⟩ := (show (((((n = 0 ∧ m = 0) ∧ c = []) ∧ w.length ≤ 40) ∧ c.length ≤ 40) ∧ (isRowF s = true ∧ s.length = w.length)) ∧ ∀ (x : Val), x ∈ w → isVF t1 x = true ∧ noneF t1 x = false from ⟨⟨hv.1, hv.2.1⟩, hv.2.2⟩)
      subst h1 h2 h3
      have hr := row_iff.1 h4
      refine ⟨s.zip w, (mapL_ent h5).symm, srt_zip h5 hr.2.1, fun e he => hr.2.2 _ (zip_m1 he), fun e he => ?_, fun e he => ?_⟩
      · exact ih _ (o.2.2.2 _ (zip_m2 he)) (h6 _ (zip_m2 he)).1
      · have := (h6 _ (zip_m2 he)).2
        unfold noneF at this
        rw [decide_eq_false_iff_not, bot_eq (h.2 _ (by simp)) (by omega)] at this
        exact fun e => this e.symm
    · obtain ⟨t1, t2, rfl⟩ := two_of h.1
      have ih1 := lv_of d t1 (h.2 _ (by simp)) (by omega)
      have ih2 := lv_of d t2 (h.2 _ (by simp)) (by omega)
      rw [zO1 5] at hv
      simp [bareF, numsK, textsK, clocksK, valuesK, Val.nv, Val.mv, Val.sv, Val.cv, Val.vv, isVL] at hv
      obtain ⟨⟨⟨⟨⟨⟨h1, h2⟩, h3⟩, h4⟩, _⟩, _⟩, h5⟩ := hv
      subst h1 h2 h3 h4
      rw [show LVL [t1, t2] = [LV t1, LV t2] by simp [LVL]]
      match w, o, h5 with
      | [x, y], o, h5 =>
        simp at h5
        exact ⟨x, y, rfl, ih1 _ (o.2.2.2 _ (by simp)) h5.1, ih2 _ (o.2.2.2 _ (by simp)) h5.2⟩
      | [], _, h5 => simp at h5
      | [x], _, h5 => simp at h5
      | _ :: _ :: _ :: _, _, h5 => simp at h5
    · exact ⟨hv, ho⟩
    · rw [zO1 7] at hv
      simp [bareF, numsK, textsK, clocksK, valuesK, Val.nv, Val.mv, Val.sv, Val.cv, Val.vv, isVL] at hv
      obtain ⟨⟨⟨⟨⟨⟨h1, h2⟩, h3⟩, h4⟩, _⟩, _⟩, h5⟩ := hv
      subst h1 h2 h3 h4
      match c, o, h5 with
      | [], _, _ => exact ⟨[], rfl, .nil, by simp [Go.MV.Pos], by simp⟩
      | [c], o, h5 =>
        simp at h5
        exact ⟨c, (zY4 (by intro e; subst e; simp at h5)).symm, ((isClock_iff (o.2.2.1 _ (by simp))).1 h5.2).1⟩
      | _ :: _ :: _, _, h5 => simp at h5
    · obtain ⟨t1, rfl⟩ := zT5 h.1 (by decide)
      have ih := lv_of d t1 (h.2 _ (by simp)) (by omega)
      rw [LVL_one, zT4]
      rw [zO1 8] at hv
      simp [bareF, numsK, textsK, clocksK, valuesK, Val.nv, Val.mv, Val.sv, Val.cv, Val.vv, isVL] at hv
      obtain ⟨⟨⟨⟨⟨h1, h2⟩, h3⟩, _⟩, _⟩, ⟨h4, h5⟩, h6⟩ := hv
      subst h1 h2 h3
      obtain ⟨k1, k2, k3, k4⟩ := (isCause_iff h4 o.2.2.1).1 h5
      exact ⟨c.zip w, (cauL_ent h4).symm, k1, k2, k3, fun e he => ih _ (o.2.2.2 _ (zip_m2 he)) (h6 _ (zip_m2 he)), k4⟩
theorem okV_bot {d : Nat} {s : Sch} (h : isF d s = true) : okV (bottomF s) := (bottom_is d s h).2
theorem is_bot {d : Nat} {s : Sch} (h : isF d s = true) : isVF s (bottomF s) = true := (bottom_is d s h).1
section
variable {P : Val → Prop} {f : Val → Val → Val} {b : Val} (h : SemiB P f b)
include h
end
end
section
def okJ (s : Sch) (a b : Val) : Bool := (bothF s a b).isSome
section
variable {κ : Type} {cmp : κ → κ → Int}
theorem goE_some (f : Val → Val → Option Val) : ∀ l : List (Ent κ), (goE f l).isSome = l.all fun e => (ofE f e).isSome
  | [] => rfl
  | e :: l => by
    rw [goE, List.all_cons, ← goE_some f l]
    cases ofE f e with
    | none => rfl
    | some v => simp
noncomputable def entK (A B : List (κ × Val)) (k : κ) : Option (Ent κ) := match look A k, look B k with
  | some v, y => some (k, v, y)
  | none, some w => some (k, w, none)
  | none, none => none
theorem look_self (x : κ × Val) (a : List (κ × Val)) : look (x :: a) x.1 = some x.2 := by rw [zO2, if_pos rfl]
theorem look_tail {x : κ × Val} {a : List (κ × Val)} {k : κ} (h : ¬ x.1 = k) : look (x :: a) k = look a k := by rw [zO2, if_neg h]
theorem look_head_no (ho : OrdK cmp) {x : κ × Val} {a : List (κ × Val)} (h : SrtK cmp (x :: a)) : look a x.1 = none := zE3 (not_has ho (zB2.1 h).1)
theorem _root_.zQ5 : type_of% @look_head_no := @look_head_no
theorem look_lt (ho : OrdK cmp) {k : κ} {y : κ × Val} {b : List (κ × Val)} (h : SrtK cmp (y :: b)) (hk : cmp k y.1 < 0) : look (y :: b) k = none := zE3 (not_has ho fun z hz => by
  rcases List.mem_cons.1 hz with rfl | hz
  · exact hk
  · exact ho.tr _ _ _ hk ((zB2.1 h).1 z hz))
theorem entK_key {A B : List (κ × Val)} {k : κ} {e : Ent κ} (h : entK A B k = some e) : e.1 = k := by
  unfold entK at h
  split at h
  · injection h with h; subst h; rfl
  · injection h with h; subst h; rfl
  · cases h
theorem mem_merge (ho : OrdK cmp) : ∀ (A B : List (κ × Val)), SrtK cmp A → SrtK cmp B → ∀ e : Ent κ, e ∈ mergeE cmp A B ↔ entK A B e.1 = some e := by
  intro A B
  induction A, B using mergeE.induct cmp with
  | case1 => intro _ _ e; rw [mergeE]; simp [entK, look]
  | case2 x a ih =>
    intro ha hb e
    rw [mergeE, List.mem_cons, ih (zB2.1 ha).2 hb e]
    by_cases h : x.1 = e.1
    · have h1 := zQ5 ho ha
      unfold entK
      rw [← h, look_self, h1]
      simp [look]
      exact eq_comm
    · unfold entK
      rw [look_tail h]
      constructor
      · rintro (rfl | h2)
        · exact absurd rfl h
        · exact h2
      · exact .inr
  | case3 y b ih =>
    intro ha hb e
    rw [mergeE, List.mem_cons, ih ha (zB2.1 hb).2 e]
    by_cases h : y.1 = e.1
    · have h1 := zQ5 ho hb
      unfold entK
      rw [← h, look_self, h1]
      simp [look]
      exact eq_comm
    · unfold entK
      rw [look_tail h]
      constructor
      · rintro (rfl | h2)
        · exact absurd rfl h
        · exact h2
      · exact .inr
  | case4 x a y b hlt ih =>
    intro ha hb e
    rw [mergeE, if_pos hlt, List.mem_cons, ih (zB2.1 ha).2 hb e]
    by_cases h : x.1 = e.1
    · have h1 := zQ5 ho ha
      have h2 := look_lt ho hb hlt
      unfold entK
      rw [← h, look_self, h1, h2]
      simp
      exact eq_comm
    · unfold entK
      rw [look_tail h]
      constructor
      · rintro (rfl | h2)
        · exact absurd rfl h
        · exact h2
      · exact .inr
  | case5 x a y b hlt hgt ih =>
    intro ha hb e
    rw [mergeE, if_neg hlt, if_pos hgt, List.mem_cons, ih ha (zB2.1 hb).2 e]
    by_cases h : y.1 = e.1
    · have h1 := zQ5 ho hb
      have h2 := look_lt ho ha hgt
      unfold entK
      rw [← h, look_self, h1, h2]
      simp
      exact eq_comm
    · unfold entK
      rw [look_tail (x := y) h]
      constructor
      · rintro (rfl | h2)
        · exact absurd rfl h
        · exact h2
      · exact .inr
  | case6 x a y b hlt hgt ih =>
    intro ha hb e
    have hxy : x.1 = y.1 := ho.tot _ _ hlt hgt
    rw [mergeE, if_neg hlt, if_neg hgt, List.mem_cons, ih (zB2.1 ha).2 (zB2.1 hb).2 e]
    by_cases h : x.1 = e.1
    · have h1 := zQ5 ho ha
      have h2 := zQ5 ho hb
      unfold entK
      rw [← h, look_self, h1, hxy, look_self, h2]
      simp
      exact eq_comm
    · unfold entK
      rw [look_tail h, look_tail (x := y) (by rw [← hxy]; exact h)]
      constructor
      · rintro (rfl | h2)
        · exact absurd rfl h
        · exact h2
      · exact .inr
noncomputable def lkB (bot : Val) (A : List (κ × Val)) (k : κ) : Val := (look A k).getD bot
theorem ent_has {A B : List (κ × Val)} {k : κ} : (∃ e, entK A B k = some e) ↔ HasK A k ∨ HasK B k := by
  rw [look_has, look_has]
  unfold entK
  cases look A k with
  | some v => simp
  | none => cases look B k <;> simp
end
theorem merge_nil_r {κ : Type} {cmp : κ → κ → Int} : ∀ A : List (κ × Val), mergeE cmp A [] = A.map fun x => (x.1, x.2, none)
  | [] => by rw [mergeE]; rfl
  | x :: a => by rw [mergeE, merge_nil_r a]; rfl
theorem merge_nil_l {κ : Type} {cmp : κ → κ → Int} : ∀ A : List (κ × Val), mergeE cmp [] A = A.map fun x => (x.1, x.2, none)
  | [] => by rw [mergeE]; rfl
  | x :: a => by rw [mergeE, merge_nil_l a]; rfl
theorem goE_none {κ : Type} (f : Val → Val → Option Val) : ∀ A : List (κ × Val), goE f (A.map fun x => (x.1, x.2, none)) = some A
  | [] => rfl
  | x :: a => by rw [List.map_cons, goE, goE_none f a]; rfl
theorem nilX_both : ∀ a : List Bs, bothX [] a = a
  | [] => by rw [bothX]
  | x :: a => by rw [bothX, nilX_both a]
theorem nilX_right : ∀ a : List Bs, bothX a [] = a
  | [] => by rw [bothX]
  | x :: a => by rw [bothX, nilX_right a]
theorem seen_none {l : List (List Tk × Val)} (h : AntiK blwC l) : ((l.map fun x => ((x.1, x.2, none) : Ent (List Tk))).filter fun e => !seenE (l.map fun x => (x.1, x.2, none)) e) = l.map fun x => (x.1, x.2, none) := by
  refine List.filter_eq_self.2 fun e he => ?_
  obtain ⟨x, hx, rfl⟩ := List.mem_map.1 he
  unfold seenE
  rw [Bool.not_eq_true', List.any_eq_false]
  intro o ho hb
  obtain ⟨y, hy, rfl⟩ := List.mem_map.1 ho
  exact h x hx y hy (by simpa [blwC] using hb)
theorem large_of {s : Sch} {v : Val} (h : isVF s v = true) (h1 : v.sv.length ≤ 40) (h2 : ∀ c, v.cv = [c] → c.length ≤ 40) : largeF v = false := by
  obtain ⟨k, ins⟩ := s
  obtain ⟨n, m, s, c, w⟩ := v
  rw [zO1] at h
  simp only [Bool.and_eq_true, decide_eq_true_eq] at h
  obtain ⟨⟨⟨_, hw⟩, hc⟩, _⟩ := h
  rw [zJ5]
  have h1 : s.length ≤ 40 := h1
  have h2 : c.length = 1 → (c.headD []).length ≤ 40 := fun hl => by
    match c, hl, h2 with
    | [x], _, h2 => exact h2 x rfl
  rw [Bool.or_eq_false_iff, decide_eq_false_iff_not, Bool.and_eq_false_iff, decide_eq_false_iff_not, decide_eq_false_iff_not]
  refine ⟨by omega, ?_⟩
  by_cases hl : c.length = 1
  · right; have := h2 hl; omega
  · exact .inl hl
theorem _root_.zH6 : type_of% @large_of := @large_of
theorem cap_of {o : Option Val} {v : Val} (h : o = some v) (hl : largeF v = false) : capF o = some v := by subst h; exact capF_f hl
theorem _root_.zI6 : type_of% @cap_of := @cap_of
theorem both_bot : ∀ (d : Nat) (s : Sch), isF d s = true → d ≤ 16 → ∀ x : Val, okV x → isVF s x = true → bothF s x (bottomF s) = some x ∧ bothF s (bottomF s) x = some x
  | 0, s, h => by simp [isF] at h
  | d + 1, .mk k ins, h => by
    have h0 := h
    rw [isF] at h
    simp only [Bool.and_eq_true, List.all_eq_true, beq_iff_eq] at h
    rintro hd x ho hv
    have hlv := lv_of (d + 1) (.mk k ins) h0 hd x ho hv
    have hv0 := hv
    rw [LV_mk] at hlv
    rw [zK2, zK2, bot_mk]
    rcases k8_of h.1 with rfl | rfl | rfl | rfl | rfl | rfl | rfl | rfl
    · obtain ⟨n, rfl, hn⟩ := hlv
      have hl : largeF (.mk n 0 [] [] []) = false := zH6 hv (by simp [Val.sv]) (by simp [Val.cv])
      have e1 : max n 0 = n := by have := hn.1; omega
      have e2 : max 0 n = n := by have := hn.1; omega
      exact ⟨zI6 (by show some (Val.mk (max n 0) 0 [] [] []) = _; rw [e1]) hl, zI6 (by show some (Val.mk (max 0 n) 0 [] [] []) = _; rw [e2]) hl⟩
    · obtain ⟨n, rfl, hn⟩ := hlv
      have hl : largeF (.mk n 0 [] [] []) = false := zH6 hv (by simp [Val.sv]) (by simp [Val.cv])
      have e1 : max n 0 = n := by have := hn.1; omega
      have e2 : max 0 n = n := by have := hn.1; omega
      exact ⟨zI6 (by show some (Val.mk (max n 0) 0 [] [] []) = _; rw [e1]) hl, zI6 (by show some (Val.mk (max 0 n) 0 [] [] []) = _; rw [e2]) hl⟩
    · obtain ⟨s, rfl, hs⟩ := hlv
      rw [zO1 3] at hv
      simp only [Bool.and_eq_true] at hv
      have hl : largeF (.mk 0 0 s [] []) = false := zH6 hv0 (show s.length ≤ 40 from (row_iff.1 (by simpa using hv.2)).1) (by simp [Val.cv])
      exact ⟨zI6 (by show some (Val.mk 0 0 (bothX s []) [] []) = _; rw [nilX_right]) hl, zI6 (by show some (Val.mk 0 0 (bothX [] s) [] []) = _; rw [nilX_both]) hl⟩
    · obtain ⟨l, rfl, hr⟩ := hlv
      have hv : isVF (.mk 4 ins) (.mk 0 0 (l.map (·.1)) [] (l.map (·.2))) = true := hv
      rw [zO1 4] at hv
      simp only [Bool.and_eq_true] at hv
      have hl : largeF (mapL l) = false := zH6 hv0 (show (l.map (·.1)).length ≤ 40 from (row_iff.1 (by have := hv.2; simp at this; exact this.1)).1) (by simp [mapL, Val.cv])
      refine ⟨zI6 ?_ hl, zI6 ?_ hl⟩
      · show mapsF _ _ _ = _
        unfold mapsF mergedX
        rw [if_neg (by decide), zL3, show entX noV = [] from rfl, merge_nil_r, goE_none]
        rfl
      · show mapsF _ _ _ = _
        unfold mapsF mergedX
        rw [if_neg (by decide), zL3, show entX noV = [] from rfl, merge_nil_l, goE_none]
        rfl
    · obtain ⟨t1, t2, rfl⟩ := two_of h.1
      rw [show LVL [t1, t2] = [LV t1, LV t2] by simp [LVL]] at hlv
      obtain ⟨x, y, rfl, hx, hy⟩ := hlv
      have o := okV_mk.1 ho
      rw [zO1 5] at hv
      simp only [Bool.and_eq_true] at hv
      have hxy : isVF t1 x = true ∧ isVF t2 y = true := by simpa [isVL] using hv.2
      obtain ⟨a1, a2⟩ := both_bot d t1 (h.2 _ (by simp)) (by omega) x (o.2.2.2 _ (by simp)) hxy.1
      obtain ⟨b1, b2⟩ := both_bot d t2 (h.2 _ (by simp)) (by omega) y (o.2.2.2 _ (by simp)) hxy.2
      have hl : largeF (.mk 0 0 [] [] [x, y]) = false := zH6 hv0 (by simp [Val.sv]) (by simp [Val.cv])
      rw [if_pos rfl, zT4, bothL_eq]
      refine ⟨zI6 ?_ hl, zI6 ?_ hl⟩
      · show pairF2 _ _ _ = _
        simp [pairF2, Val.vv, goP, a1, b1]
      · show pairF2 _ _ _ = _
        simp [pairF2, Val.vv, goP, a2, b2]
    · have hlv : isLV x = true := hlv.1
      have hl : largeF x = false := by
        rcases lv_form hlv with rfl | ⟨n, m, t, rfl, _⟩
        · exact zH6 hv (by simp [noV, Val.sv]) (by simp [noV, Val.cv])
        · exact zH6 hv (by simp [Val.sv]) (by simp [Val.cv])
      exact ⟨zI6 (by show some (laterF x noV) = _; rw [later_no_r hlv]) hl, zI6 (by show some (laterF noV x) = _; rw [later_no]) hl⟩
    · obtain ⟨c, rfl, hc⟩ := hlv
      have hl : largeF (clkW c) = false := by
        by_cases he : c = []
        · subst he; exact zH6 hv0 (by simp [clkW, noV, Val.sv]) (by simp [clkW, noV, Val.cv])
        · rw [zY4 he] at hv0 ⊢
          refine zH6 hv0 (by simp [Val.sv]) fun c' e => ?_
          simp [Val.cv] at e
          subst e
          rw [zO1 7] at hv0
          simp only [Bool.and_eq_true] at hv0
          have o := okV_mk.1 (by rw [zY4 he] at ho; exact ho)
          have hq : 0 < c.length ∧ isClockF c = true := by simpa using hv0.2
          exact ((isClock_iff (o.2.2.1 c (by simp))).1 hq.2).2
      refine ⟨zI6 ?_ hl, zI6 ?_ hl⟩
      · show some (clocksF (clkW c) noV) = _
        rw [← clkW_nil, zF3, join_nil]
      · show some (clocksF noV (clkW c)) = _
        rw [← clkW_nil, zF3, nil_join]
    · obtain ⟨l, rfl, hr⟩ := hlv
      have hl : largeF (cauL l) = false := zH6 hv0 (by simp [cauL, Val.sv]) fun c e => by
        have : c ∈ (cauL l).cv := by rw [e]; simp
        obtain ⟨x, hx, rfl⟩ := List.mem_map.1 this
        exact hr.len x hx
      refine ⟨zI6 ?_ hl, zI6 ?_ hl⟩
      · show causesF _ _ _ = _
        unfold causesF mergedC
        rw [if_neg (by decide), zD4, show entC noV = [] from rfl, merge_nil_r, seen_none hr.anti, goE_none]
        rfl
      · show causesF _ _ _ = _
        unfold causesF mergedC
        rw [if_neg (by decide), zD4, show entC noV = [] from rfl, merge_nil_l, seen_none hr.anti, goE_none]
        rfl
theorem has_keys {κ : Type} {l : List (κ × Val)} {k : κ} : HasK l k ↔ k ∈ l.map (·.1) := by
  unfold HasK
  rw [List.mem_map]
theorem _root_.zQ3 : type_of% @has_keys := @has_keys
theorem keys_merge {f : Val → Val → Val} {A B : List (Bs × Val)} (ha : SrtK cmpX A) (hb : SrtK cmpX B) : (mergeG cmpX f A B).map (·.1) = bothX (A.map (·.1)) (B.map (·.1)) :=
  up_ext (srt_up (zX3 ordX f A B ha hb)) (up_both _ _ (srt_up ha) (srt_up hb)) fun z => by
    rw [← zQ3, merge_has ordX, zH3, zQ3, zQ3]
theorem list_look {κ : Type} {cmp : κ → κ → Int} (ho : OrdK cmp) {l : List (κ × Val)} (h : SrtK cmp l) (g : κ → Val) (hg : ∀ k v, look l k = some v → v = g k) : l = (l.map (·.1)).map fun k => (k, g k) := by
  rw [List.map_map]
  refine (List.map_id l).symm.trans (List.map_congr_left fun e he => ?_)
  have := hg e.1 e.2 (zW4 ho h he)
  show e = (e.1, g e.1)
  rw [← this]
section
variable {P : Val → Prop} {f : Val → Val → Val} {b : Val}
theorem comb_lk (hf : SemiB P f b) {A B : List (Bs × Val)} (pa : AllV P A) (pb : AllV P B) {k : Bs} {v : Val} (h : comb f (look A k) (look B k) = some v) : v = f (lkB b A k) (lkB b B k) := by
  unfold lkB
  cases ha : look A k with
  | none =>
    cases hb : look B k with
    | none => rw [ha, hb] at h; cases h
    | some w =>
      rw [ha, hb] at h
      have e : w = v := Option.some.inj h
      subst e
      have hw := zX2 pb hb
      show w = f b w
      rw [hf.comm b w hf.bot hw, hf.neut w hw]
  | some u =>
    cases hb : look B k with
    | none =>
      rw [ha, hb] at h
      have e : u = v := Option.some.inj h
      subst e
      exact (hf.neut u (zX2 pa ha)).symm
    | some w =>
      rw [ha, hb] at h
      exact (Option.some.inj h).symm
theorem map_doc (hf : SemiB P f b) {A B : List (Bs × Val)} (ha : SrtK cmpX A) (hb : SrtK cmpX B) (pa : AllV P A) (pb : AllV P B) : mergeG cmpX f A B = (bothX (A.map (·.1)) (B.map (·.1))).map fun k => (k, f (lkB b A k) (lkB b B k)) := by
  rw [← keys_merge (f := f) ha hb]
  refine list_look ordX (zX3 ordX f A B ha hb) _ fun k v h => ?_
  rw [zA4 ordX f A B ha hb] at h
  exact comb_lk hf pa pb h
end
theorem map_ok {t : Sch} {A B : List (Bs × Val)} (ha : SrtK cmpX A) (hb : SrtK cmpX B) (na : ∀ e ∈ A, bothF t e.2 (bottomF t) = some e.2) (nb : ∀ e ∈ B, bothF t (bottomF t) e.2 = some e.2) :
    okJ (.mk 4 [t]) (mapL A) (mapL B) = (decide ((bothX (A.map (·.1)) (B.map (·.1))).length ≤ 40) && (bothX (A.map (·.1)) (B.map (·.1))).all fun k => okJ t (lkB (bottomF t) A k) (lkB (bottomF t) B k)) := by
  have hg : (goE (bothF t) (mergeE cmpX A B)).isSome = (bothX (A.map (·.1)) (B.map (·.1))).all fun k => okJ t (lkB (bottomF t) A k) (lkB (bottomF t) B k) := by
    rw [goE_some, zF, List.all_eq_true, List.all_eq_true]
    have hok : ∀ e, entK A B e.1 = some e → (ofE (bothF t) e).isSome = okJ t (lkB (bottomF t) A e.1) (lkB (bottomF t) B e.1) := by
      rintro ⟨k, v, y⟩ h
      unfold entK at h
      unfold okJ lkB ofE
      cases hA : look A k with
      | some u =>
        rw [hA] at h
        injection h with h
        injection h with _ h
        injection h with h1 h2
        subst h1
        rw [← h2]
        cases hB : look B k with
        | some w => rfl
        | none =>
          show true = (bothF t u (bottomF t)).isSome
          rw [na _ (zG6 hA)]
          rfl
      | none =>
        rw [hA] at h
        cases hB : look B k with
        | some w =>
          rw [hB] at h
          injection h with h
          injection h with _ h
          injection h with h1 h2
          subst h1 h2
          show true = (bothF t (bottomF t) w).isSome
          rw [nb _ (zG6 hB)]
          rfl
        | none => rw [hB] at h; cases h
    constructor
    · intro h k hk
      rw [zH3, ← zQ3, ← zQ3] at hk
      obtain ⟨e, he⟩ := ent_has.2 hk
      have hek := entK_key he
      subst hek
      rw [← hok e he]
      exact h e ((mem_merge ordX A B ha hb e).2 he)
    · intro h e he
      have he2 := (mem_merge ordX A B ha hb e).1 he
      rw [hok e he2]
      refine h e.1 ?_
      rw [zH3, ← zQ3, ← zQ3]
      exact ent_has.1 ⟨e, he2⟩
  rw [← hg]
  unfold okJ
  rw [zK2, show bothB 4 (bothL [t]) (mapL A) (mapL B) = mapsF (bothF t) (mapL A) (mapL B) by rw [bothL_eq]; rfl]
  unfold mapsF mergedX
  rw [zL3, zL3]
  cases hx : goE (bothF t) (mergeE cmpX A B) with
  | none => simp [capF]
  | some x =>
    have hl := goE_len hx
    have hml : (mergeE cmpX A B).length = (bothX (A.map (·.1)) (B.map (·.1))).length := by
      rw [← keys_merge (f := fun x _ => x) ha hb]
      simp [mergeG]
    simp only [Option.map_some, capF, Option.bind_some, Option.isSome_some, Bool.and_true]
    rw [zJ5]
    simp only [zC, List.length_nil, Nat.max_zero, hl, hml]
    by_cases hq : (bothX (A.map (·.1)) (B.map (·.1))).length ≤ 40
    · rw [if_neg (by simp; omega), decide_eq_true hq]; rfl
    · rw [if_pos (by simp; omega), decide_eq_false hq]; rfl
end
abbrev CE := List Tk × Val
def below (cs : List (List Tk)) (c : List Tk) : Bool := cs.any fun o => decide (cmpF c o = -1)
def insC (E : List CE) (e : CE) : List CE := E.takeWhile (fun x => aheadF x.1 e.1) ++ e :: E.dropWhile fun x => aheadF x.1 e.1
def stepC (f : Val → Val → Val) (cs : List (List Tk)) (E : List CE) (e : CE) : List CE :=
  if below cs e.1 = true then E else if e.1 ∈ E.map (·.1) then E.map fun x => if x.1 = e.1 then (x.1, f x.2 e.2) else x else insC E e
noncomputable def okC1 (g : Val → Val → Bool) (cs : List (List Tk)) (E : List CE) (e : CE) : Bool := below cs e.1 || match look E e.1 with | some v => g v e.2 | none => true
noncomputable def okC (f : Val → Val → Val) (g : Val → Val → Bool) (cs : List (List Tk)) : List CE → List CE → Bool
  | _, [] => true
  | E, e :: l => okC1 g cs E e && okC f g cs (stepC f cs E e) l
theorem ahead_lt {a b : List Tk} : aheadF a b = true ↔ byTicksF a b < 0 := by rw [ticks_ahead, decide_eq_true_eq]
theorem look_app {κ : Type} : ∀ (a b : List (κ × Val)) (k : κ), look (a ++ b) k = match look a k with | some v => some v | none => look b k
  | [], b, k => rfl
  | x :: a, b, k => by
    rw [List.cons_append, zO2, zO2]
    by_cases h : x.1 = k
    · rw [if_pos h, if_pos h]
    · rw [if_neg h, if_neg h, look_app a b k]
theorem ins_srt {E : List CE} (hs : SrtK byTicksF E) (e : CE) (hn : e.1 ∉ E.map (·.1)) : SrtK byTicksF (insC E e) := by
  unfold insC
  have hd : ∀ (l : List CE), SrtK byTicksF l → ∀ y ∈ l.dropWhile (fun x => aheadF x.1 e.1), ¬ byTicksF y.1 e.1 < 0 := by
    intro l
    induction l with
    | nil => intro _ y hy; cases hy
    | cons x l ih =>
      intro hl y hy
      rw [List.dropWhile_cons] at hy
      by_cases h : aheadF x.1 e.1 = true
      · rw [if_pos h] at hy
        exact ih (zB2.1 hl).2 y hy
      · rw [if_neg h] at hy
        rcases List.mem_cons.1 hy with rfl | hy
        · rwa [ahead_lt] at h
        · intro h2
          exact h (ahead_lt.2 (ordT.tr _ _ _ ((zB2.1 hl).1 y hy) h2))
  have ht : ∀ y ∈ E.takeWhile (fun x => aheadF x.1 e.1), byTicksF y.1 e.1 < 0 := fun y hy => ahead_lt.1 (List.all_eq_true.1 List.all_takeWhile y hy)
  have hdl : ∀ y ∈ E.dropWhile (fun x => aheadF x.1 e.1), byTicksF e.1 y.1 < 0 := fun y hy => by
    rcases ticks_tot e.1 y.1 with q | q | q
    · exact q
    · have hm : y ∈ E := (List.dropWhile_sublist _).mem hy
      exact absurd (List.mem_map.2 ⟨y, hm, q.symm⟩) hn
    · exact absurd q (hd E hs y hy)
  have hE : E = E.takeWhile (fun x => aheadF x.1 e.1) ++ E.dropWhile (fun x => aheadF x.1 e.1) := List.takeWhile_append_dropWhile.symm
  have h1 : SrtK byTicksF (E.takeWhile (fun x => aheadF x.1 e.1)) := hs.sublist (List.takeWhile_sublist _)
  have h2 : SrtK byTicksF (E.dropWhile (fun x => aheadF x.1 e.1)) := hs.sublist (List.dropWhile_sublist _)
  refine List.pairwise_append.2 ⟨h1, zL1.2 ⟨hdl, h2⟩, fun a ha b hb => ?_⟩
  rcases List.mem_cons.1 hb with rfl | hb
  · exact ht a ha
  · exact ordT.tr _ _ _ (ht a ha) (hdl b hb)
theorem ins_look {E : List CE} (e : CE) (hn : e.1 ∉ E.map (·.1)) (k : List Tk) : look (insC E e) k = if k = e.1 then some e.2 else look E k := by
  unfold insC
  have hE : look E k = look (E.takeWhile (fun x => aheadF x.1 e.1) ++ E.dropWhile (fun x => aheadF x.1 e.1)) k := by rw [List.takeWhile_append_dropWhile]
  rw [look_app] at hE
  rw [look_app, zO2]
  by_cases h : k = e.1
  · subst h
    have : look (E.takeWhile (fun x => aheadF x.1 e.1)) e.1 = none := zE3 fun ⟨y, hy, hy2⟩ => hn (List.mem_map.2 ⟨y, (List.takeWhile_sublist _).mem hy, hy2⟩)
    rw [this, if_pos rfl, if_pos rfl]
  · rw [if_neg h, if_neg (fun h2 => h h2.symm), hE]
theorem tw_look {f : Val → Val → Val} (e : CE) : ∀ (E : List CE) (k : List Tk), look (E.map fun x => if x.1 = e.1 then (x.1, f x.2 e.2) else x) k = if k = e.1 then (look E k).map (fun v => f v e.2) else look E k
  | [], k => by simp [look]
  | x :: E, k => by
    rw [List.map_cons, zO2, zO2, tw_look e E k]
    by_cases h1 : x.1 = e.1
    · rw [if_pos h1]
      by_cases h2 : x.1 = k
      · have h3 : k = e.1 := h2.symm.trans h1
        simp [h2, h3]
      · simp [h2]
    · rw [if_neg h1]
      by_cases h2 : x.1 = k
      · have h3 : ¬ k = e.1 := fun q => h1 (h2.trans q)
        simp [h2, h3]
      · simp [h2]
theorem tw_keys {f : Val → Val → Val} (e : CE) (E : List CE) : (E.map fun x => if x.1 = e.1 then (x.1, f x.2 e.2) else x).map (·.1) = E.map (·.1) := by
  rw [List.map_map]
  refine List.map_congr_left fun x _ => ?_
  show (if x.1 = e.1 then (x.1, f x.2 e.2) else x).1 = x.1
  split <;> rfl
theorem srt_iff_keys {κ : Type} {cmp : κ → κ → Int} {E E2 : List (κ × Val)} (h : E.map (·.1) = E2.map (·.1)) (hs : SrtK cmp E) : SrtK cmp E2 := by
  have h1 : (E.map (·.1)).Pairwise fun x y => cmp x y < 0 := List.pairwise_map.2 hs
  rw [h] at h1
  exact List.pairwise_map.1 h1
theorem step_srt {f : Val → Val → Val} {cs : List (List Tk)} {E : List CE} (hs : SrtK byTicksF E) (e : CE) : SrtK byTicksF (stepC f cs E e) := by
  unfold stepC
  split
  · exact hs
  · split
    · exact srt_iff_keys (tw_keys e E).symm hs
    · rename_i hn; exact ins_srt hs e hn
theorem step_look {f : Val → Val → Val} {cs : List (List Tk)} {E : List CE} (e : CE) (k : List Tk) : look (stepC f cs E e) k = if k = e.1 ∧ ¬ below cs e.1 = true then comb f (look E e.1) (some e.2) else look E k := by
  unfold stepC
  by_cases hb : below cs e.1 = true
  · rw [if_pos hb, if_neg (fun h => h.2 hb)]
  · rw [if_neg hb]
    by_cases hn : e.1 ∈ E.map (·.1)
    · rw [if_pos hn, tw_look]
      by_cases hk : k = e.1
      · subst hk
        rw [if_pos rfl, if_pos ⟨rfl, hb⟩]
        obtain ⟨v, hv⟩ := look_has.1 (zQ3.2 hn)
        rw [hv]; rfl
      · rw [if_neg hk, if_neg (fun h => hk h.1)]
    · rw [if_neg hn, ins_look e hn]
      by_cases hk : k = e.1
      · subst hk
        rw [if_pos rfl, if_pos ⟨rfl, hb⟩, zE3 (fun h => hn (zQ3.1 h))]; rfl
      · rw [if_neg hk, if_neg (fun h => hk h.1)]
theorem fold_srt {f : Val → Val → Val} {cs : List (List Tk)} : ∀ (L E : List CE), SrtK byTicksF E → SrtK byTicksF (L.foldl (stepC f cs) E)
  | [], E, h => h
  | e :: L, E, h => fold_srt L _ (step_srt h e)
theorem fold_look {f : Val → Val → Val} {cs : List (List Tk)} : ∀ (L E : List CE), SrtK byTicksF L → ∀ k, look (L.foldl (stepC f cs) E) k = if below cs k = true then look E k else comb f (look E k) (look L k)
  | [], E, _, k => by
    show look E k = _
    rw [show look ([] : List CE) k = none from rfl, comb_none]
    split <;> rfl
  | e :: L, E, h, k => by
    have ih := fold_look (f := f) (cs := cs) L (stepC f cs E e) (zB2.1 h).2 k
    rw [List.foldl_cons, ih, step_look, zO2]
    by_cases hb : below cs k = true
    · rw [if_pos hb, if_pos hb, if_neg]
      rintro ⟨rfl, h2⟩
      exact h2 hb
    · rw [if_neg hb, if_neg hb]
      by_cases hk : k = e.1
      · subst hk
        rw [if_pos ⟨rfl, hb⟩, if_pos rfl, zQ5 ordT h, comb_none]
      · rw [if_neg (fun h => hk h.1), if_neg (fun h => hk h.symm)]
theorem okC_all {f : Val → Val → Val} {g : Val → Val → Bool} {cs : List (List Tk)} : ∀ (L E : List CE), SrtK byTicksF L → okC f g cs E L = L.all (okC1 g cs E)
  | [], E, _ => rfl
  | e :: L, E, h => by
    rw [okC, List.all_cons, okC_all L _ (zB2.1 h).2]
    congr 1
    rw [zF, List.all_eq_true, List.all_eq_true]
    refine forall_congr' fun x => forall_congr' fun hx => ?_
    have hne : ¬ x.1 = e.1 := fun hh => ordT.irr e.1 (by have := (zB2.1 h).1 x hx; rwa [hh] at this)
    unfold okC1
    rw [step_look, if_neg (fun h => hne h.1)]
theorem below_dead {A B : List CE} {k : List Tk} : below (A.map (·.1) ++ B.map (·.1)) k = true ↔ Dead blwC (Or2 A B) k := by
  unfold below Dead Or2 blwC
  rw [List.any_eq_true]
  constructor
  · rintro ⟨o, ho, hc⟩
    refine ⟨o, ?_, by simpa using hc⟩
    rcases zS1.1 ho with h | h
    · exact .inl (zQ3.2 h)
    · exact .inr (zQ3.2 h)
  · rintro ⟨o, h | h, hc⟩
    · exact ⟨o, zS1.2 (.inl (zQ3.1 h)), by simpa using hc⟩
    · exact ⟨o, zS1.2 (.inr (zQ3.1 h)), by simpa using hc⟩
theorem cause_doc {f : Val → Val → Val} {A B : List CE} (ha : SrtK byTicksF A) (hb : SrtK byTicksF B) : (A ++ B).foldl (stepC f (A.map (·.1) ++ B.map (·.1))) [] = topG byTicksF blwC f A B := by
  rw [List.foldl_append]
  refine look_ext ordT (fold_srt _ _ (fold_srt _ _ List.Pairwise.nil)) (top_srt ordT ha hb) fun k => ?_
  rw [fold_look B _ hb, fold_look A _ ha, look_top ordT ha hb]
  have hd := below_dead (A := A) (B := B) (k := k)
  by_cases h : below (A.map (·.1) ++ B.map (·.1)) k = true
  · rw [if_pos h, if_pos h, if_pos (hd.1 h)]; rfl
  · rw [if_neg h, if_neg h, if_neg (fun q => h (hd.2 q))]
    congr 1
theorem okC_append {f : Val → Val → Val} {g : Val → Val → Bool} {cs : List (List Tk)} : ∀ (A B E : List CE), okC f g cs E (A ++ B) = (okC f g cs E A && okC f g cs (A.foldl (stepC f cs) E) B)
  | [], B, E => by simp [okC]
  | e :: A, B, E => by rw [List.cons_append, okC, okC, okC_append A B, Bool.and_assoc]; rfl
theorem okC_doc {f : Val → Val → Val} {g : Val → Val → Bool} {A B : List CE} (ha : SrtK byTicksF A) (hb : SrtK byTicksF B) :
    okC f g (A.map (·.1) ++ B.map (·.1)) [] (A ++ B) = B.all fun e => below (A.map (·.1) ++ B.map (·.1)) e.1 || match look A e.1 with | some v => g v e.2 | none => true := by
  rw [okC_append, okC_all A _ ha, okC_all B _ hb]
  have h1 : A.all (okC1 g (A.map (·.1) ++ B.map (·.1)) []) = true := List.all_eq_true.2 fun e _ => by unfold okC1; simp [look]
  rw [h1, Bool.true_and]
  rw [zF, List.all_eq_true, List.all_eq_true]
  refine forall_congr' fun x => forall_congr' fun hx => ?_
  unfold okC1
  rw [fold_look A _ ha]
  by_cases h : below (A.map (·.1) ++ B.map (·.1)) x.1 = true
  · rw [h]; simp
  · rw [if_neg h]
    have : comb f (look ([] : List CE) x.1) (look A x.1) = look A x.1 := by cases look A x.1 <;> rfl
    rw [this]
theorem goE_keys {κ : Type} {f : Val → Val → Option Val} : ∀ {l : List (Ent κ)} {x : List (κ × Val)}, goE f l = some x → x.map (·.1) = l.map (·.1)
  | [], x, h => by simp [goE] at h; simp [h]
  | e :: l, x, h => by
    rw [goE] at h
    cases ho : ofE f e with
    | none => rw [ho] at h; cases h
    | some v =>
      rw [ho] at h
      cases hg : goE f l with
      | none => rw [hg] at h; cases h
      | some y =>
        rw [hg] at h
        injection h with h
        rw [← h, List.map_cons, List.map_cons, goE_keys hg]
theorem cause_ok {t : Sch} {A B : List CE} (ha : SrtK byTicksF A) (hb : SrtK byTicksF B) (la : ∀ e ∈ A, e.1.length ≤ 40) (lb : ∀ e ∈ B, e.1.length ≤ 40) :
    okJ (.mk 8 [t]) (cauL A) (cauL B) = ((B.all fun e => below (A.map (·.1) ++ B.map (·.1)) e.1 || match look A e.1 with | some v => okJ t v e.2 | none => true) && decide ((topG byTicksF blwC (jn t) A B).length ≤ 40)) := by
  have hseen : ∀ e ∈ mergeE byTicksF A B, seenE (mergeE byTicksF A B) e = below (A.map (·.1) ++ B.map (·.1)) e.1 := fun e _ => by
    unfold seenE below
    rw [zF, List.any_eq_true, List.any_eq_true]
    have hk : ∀ k, (∃ o ∈ mergeE byTicksF A B, o.1 = k) ↔ k ∈ A.map (·.1) ++ B.map (·.1) := fun k => by
      rw [zS1, ← zQ3, ← zQ3, ← merge_has (f := fun x _ => x) ordT]
      unfold HasK mergeG
      constructor
      · rintro ⟨o, ho, rfl⟩; exact ⟨_, List.mem_map.2 ⟨o, ho, rfl⟩, rfl⟩
      · rintro ⟨o, ho, rfl⟩
        obtain ⟨q, hq, rfl⟩ := List.mem_map.1 ho
        exact ⟨q, hq, rfl⟩
    constructor
    · rintro ⟨o, ho, hc⟩; exact ⟨o.1, (hk _).1 ⟨o, ho, rfl⟩, hc⟩
    · rintro ⟨k, hkm, hc⟩
      obtain ⟨o, ho, rfl⟩ := (hk _).2 hkm
      exact ⟨o, ho, hc⟩
  have hfil : ((mergeE byTicksF A B).filter fun e => !seenE (mergeE byTicksF A B) e) = (mergeE byTicksF A B).filter fun e => !below (A.map (·.1) ++ B.map (·.1)) e.1 := List.filter_congr fun e he => by rw [hseen e he]
  have hlen : ((mergeE byTicksF A B).filter fun e => !below (A.map (·.1) ++ B.map (·.1)) e.1).length = (topG byTicksF blwC (jn t) A B).length := by
    rw [← top_eq, zC, hfil]
  have hg : (goE (bothF t) ((mergeE byTicksF A B).filter fun e => !below (A.map (·.1) ++ B.map (·.1)) e.1)).isSome = (B.all fun e => below (A.map (·.1) ++ B.map (·.1)) e.1 || match look A e.1 with | some v => okJ t v e.2 | none => true) := by
    rw [goE_some, zF, List.all_eq_true, List.all_eq_true]
    constructor
    · intro h e he
      by_cases hbl : below (A.map (·.1) ++ B.map (·.1)) e.1 = true
      · rw [hbl]; rfl
      · cases hA : look A e.1 with
        | none => simp
        | some v =>
          have hB := zW4 ordT hb he
          have hm : ((e.1, v, some e.2) : Ent (List Tk)) ∈ mergeE byTicksF A B := (mem_merge ordT A B ha hb _).2 (by unfold entK; rw [hA, hB])
          have := h _ (List.mem_filter.2 ⟨hm, by simpa using hbl⟩)
          simp only [Bool.or_eq_true]
          exact .inr this
    · intro h e he
      obtain ⟨hm, hbl⟩ := List.mem_filter.1 he
      have he2 := (mem_merge ordT A B ha hb e).1 hm
      obtain ⟨k, v, y⟩ := e
      cases y with
      | none => rfl
      | some w =>
        unfold entK at he2
        cases hA : look A k with
        | none =>
          rw [hA] at he2
          cases hB : look B k with
          | none => rw [hB] at he2; cases he2
          | some q => rw [hB] at he2; injection he2 with he2; injection he2 with _ he2; injection he2 with _ he2; cases he2
        | some q =>
          rw [hA] at he2
          injection he2 with he2
          injection he2 with _ he2
          injection he2 with e1 e2
          subst e1
          have := h (k, w) (zG6 e2)
          simp only [hA] at this
          have hbl : below (A.map (·.1) ++ B.map (·.1)) k = false := by simpa using hbl
          rw [hbl, Bool.false_or] at this
          exact this
  rw [← hg, ← hlen]
  unfold okJ
  rw [zK2, show bothB 8 (bothL [t]) (cauL A) (cauL B) = causesF (bothF t) (cauL A) (cauL B) by rw [bothL_eq]; rfl]
  unfold causesF mergedC
  rw [zD4, zD4, hfil]
  cases hx : goE (bothF t) ((mergeE byTicksF A B).filter fun e => !below (A.map (·.1) ++ B.map (·.1)) e.1) with
  | none => simp [capF]
  | some x =>
    have hl := goE_len hx
    simp only [Option.map_some, capF, Option.bind_some, Option.isSome_some, Bool.true_and]
    rw [zJ5]
    simp only [zC, List.length_nil, Nat.zero_max, hl, Nat.max_self]
    have hc : (decide (((mergeE byTicksF A B).filter fun e => !below (A.map (·.1) ++ B.map (·.1)) e.1).length = 1) && decide (40 < ((x.map (·.1)).headD []).length)) = false := by
      rw [Bool.and_eq_false_iff, decide_eq_false_iff_not, decide_eq_false_iff_not]
      by_cases h1 : ((mergeE byTicksF A B).filter fun e => !below (A.map (·.1) ++ B.map (·.1)) e.1).length = 1
      · right
        have hxk : x.map (·.1) = ((mergeE byTicksF A B).filter fun e => !below (A.map (·.1) ++ B.map (·.1)) e.1).map (·.1) := goE_keys hx
        rw [hxk]
        obtain ⟨e, he1⟩ := List.length_eq_one_iff.1 h1
        have he : e ∈ mergeE byTicksF A B := (List.mem_filter.1 (by rw [he1]; simp)).1
        rw [he1]
        show ¬ 40 < e.1.length
        rcases (mergeE_mem byTicksF A B e he).1 with h | h
        · have := la _ h
          show ¬ 40 < e.1.length
          simp at this
          omega
        · have := lb _ h
          simp at this
          omega
      · exact .inl h1
    rw [hc, Bool.or_false]
    by_cases hq : ((mergeE byTicksF A B).filter fun e => !below (A.map (·.1) ++ B.map (·.1)) e.1).length ≤ 40
    · rw [if_neg (by simp; omega), decide_eq_true hq]; rfl
    · rw [if_pos (by simp; omega), decide_eq_false hq]; rfl
end Go.Proofs.YtnfcnpdpfgcchaaGreatDoor
namespace Go.MV
open Go Go.RowKit
section
section
variable {P : Program} {rd : Option Nat} {o : Oper} {env : Env} {σ : MS} {K : MV → MS → Prop}
end
def Sees (F : List (Nat × MObj)) (σ : MS) : Prop := ∀ p ∈ F, σ[p.1]? = some p.2
theorem Sees.app {F : List (Nat × MObj)} {A B : MS} (h : Sees F A) : Sees F (A ++ B) := fun p hp => zZ (h p hp)
theorem Sees.cons {F : List (Nat × MObj)} {A : MS} {i : Nat} {o : MObj} (h1 : A[i]? = some o) (h : Sees F A) : Sees ((i, o) :: F) A := fun p hp => by
  rcases List.mem_cons.1 hp with rfl | hp
  · exact h1
  · exact h p hp
theorem Sees.nil {A : MS} : Sees [] A := fun p hp => by cases hp
theorem ClS.app {A B : MS} (h : ClS A) (hB : ∀ o ∈ B, o.cl (A ++ B).length) : ClS (A ++ B) := by
  intro id o hid
  by_cases c : id < A.length
  · rw [List.getElem?_append_left c] at hid
    have := h id o hid
    cases o with
    | cells l => exact fun x hx => (this x hx).mono (by simp)
    | loop s p ls => exact fun t x hx => (this t x hx).mono (by simp)
    | row _ _ _ => exact trivial
    | mp _ es => exact fun e he => (this e he).mono (by simp)
    | mit m _ _ _ => exact Nat.lt_of_lt_of_le this (by simp)
    | pin _ _ => exact trivial
    | tcells _ l => exact fun x hx => (this x hx).mono (by simp)
    | orow _ _ _ l => exact fun x hx => (this x hx).mono (by simp)
    | fixed _ _ => exact trivial
    | gone => exact trivial
  · rw [List.getElem?_append_right (by omega)] at hid
    exact hB o (zF0 hid)
theorem YStep.frame {P : Program} {id : Nat} {xs : List MV} {S S' : MS} {b : Bool} (h : YStep P id xs S b S') (J : MS) : YStep P id xs (S ++ J) b (S' ++ J) := by
  intro L rd o env f args ts ho hf hx
  have := h (J ++ L) rd o env f args ts ho hf hx
  rwa [← zC0, ← zC0] at this
end
section
section
variable {P : Program} {rd : Option Nat} {o : Oper} {env : Env} {σ : MS} {K : MV → MS → Prop}
end
end
section
section
variable {P : Program} {rd : Option Nat} {o : Oper} {env : Env} {σ : MS} {K : MV → MS → Prop}
end
section
variable {P : Program} {rd : Option Nat} {N n : Nat} {c : Code} {Q : Exit → Env → MS → Prop} {env : Env} {S L : MS}
end
end
end Go.MV
