/-
  Texts on which the proof of PartsJoin leans: part 4.
-/
import Derived.Test.YtnfcnpdpfgcchaaGreatPartsJoinC
import Derived.WalkKit
import Derived.LaidEql
import Derived.RowKitTokens
set_option linter.unusedVariables false
set_option linter.unusedSimpArgs false
set_option maxRecDepth 20000
set_option maxHeartbeats 8000000
namespace Go.Proofs.YtnfcnpdpfgcchaaGreat
open Go Go.MV Go.RowKit
theorem mergeF_mem {α : Type} {cmp : α → α → Int} {bo : α → α → α} {P : α → Prop} (hbo : ∀ x y, P x → P y → P (bo x y)) : ∀ a b : List α, (∀ x ∈ a, P x) → (∀ x ∈ b, P x) → ∀ x ∈ mergeF cmp bo a b, P x := by
 intro a b
 induction a, b using mergeF.induct cmp with
 | case1 b => intro _ h; rwa [mergeF]
 | case2 a h0 => intro h _; rw [merge_nil]; exact h
 | case3 x a y b hlt ih =>
  intro h1 h2 z hz
  rw [mergeF, if_pos hlt] at hz
  rcases List.mem_cons.1 hz with rfl | hz
  ·exact h1 _ (.head _)
  ·exact ih (fun x hx => h1 x (.tail _ hx)) h2 z hz
 | case4 x a y b hlt hgt ih =>
  intro h1 h2 z hz
  rw [mergeF, if_neg hlt, if_pos hgt] at hz
  rcases List.mem_cons.1 hz with rfl | hz
  ·exact h2 _ (.head _)
  ·exact ih h1 (fun x hx => h2 x (.tail _ hx)) z hz
 | case5 x a y b hlt hgt ih =>
  intro h1 h2 z hz
  rw [mergeF, if_neg hlt, if_neg hgt] at hz
  rcases List.mem_cons.1 hz with rfl | hz
  ·exact hbo _ _ (h1 _ (.head _)) (h2 _ (.head _))
  ·exact ih (fun x hx => h1 x (.tail _ hx)) (fun x hx => h2 x (.tail _ hx)) z hz
theorem join_ok {a b : List Tk} (ha : ∀ t ∈ a, okTk t) (hb : ∀ t ∈ b, okTk t) : ∀ t ∈ joinF a b, okTk t := mergeF_mem (P := okTk) (fun x y hx hy => by unfold okTk Go.MV.bothT at *; dsimp only; split <;> assumption) a b ha hb
theorem goE_ok {κ : Type} {f : Val → Val → Option Val} {P : κ → Prop} {Q : Val → Prop} : ∀ {l : List (Ent κ)} {x : List (κ × Val)}, (∀ e ∈ l, P e.1 ∧ Q e.2.1 ∧ ∀ y, e.2.2 = some y → Q y ∧ ∀ v, f e.2.1 y = some v → Q v) → goE f l = some x → ∀ p ∈ x, P p.1 ∧ Q p.2
 | [], x, _, h => by simp [goE] at h; subst h; simp
 | e :: l, x, hl, h => by
  rw [goE] at h
  cases ho : ofE f e with
  | none => rw [ho] at h; cases h
  | some v =>
   rw [ho] at h
   cases hg : goE f l with
   | none => rw [hg] at h; cases h
   | some y =>
    rw [hg] at h
    simp at h
    subst h
    obtain ⟨h1, h2, h3⟩ := hl e (.head _)
    intro p hp
    rcases List.mem_cons.1 hp with rfl | hp
    ·refine ⟨h1, ?_⟩
     unfold ofE at ho
     cases he : e.2.2 with
     | none => rw [he] at ho; injection ho with ho; subst ho; exact h2
     | some y => rw [he] at ho; exact (h3 y he).2 v ho
    ·exact goE_ok (fun e he => hl e (.tail _ he)) hg p hp
theorem zip_m1 {α β : Type} {a : List α} {b : List β} {x : α} {y : β} (h : (x, y) ∈ a.zip b) : x ∈ a := (List.of_mem_zip h).1
theorem zip_m2 {α β : Type} {a : List α} {b : List β} {x : α} {y : β} (h : (x, y) ∈ a.zip b) : y ∈ b := (List.of_mem_zip h).2
theorem _root_.zI4 : type_of% @zip_m2 := @zip_m2
theorem okV_mk {n m : Int} {s : List Bs} {c : List (List Tk)} {w : List Val} : okV (.mk n m s c w) ↔ (0 ≤ n ∧ n < 18446744073709551616) ∧ (0 ≤ m ∧ m < 18446744073709551616) ∧ (∀ x ∈ c, ∀ t ∈ x, okTk t) ∧ ∀ x ∈ w, okV x := by rw [okV, okVs_iff]
theorem _root_.zW2 : type_of% @okV_mk := @okV_mk
theorem cap_some {o : Option Val} {v : Val} (h : capF o = some v) : o = some v := by
 cases o with
 | none => cases h
 | some u =>
  unfold capF at h
  simp only [Option.bind_some] at h
  split at h
  ·cases h
  ·exact h
theorem okV_both : ∀ (d : Nat) (t : Sch), isF d t = true → ∀ a b v : Val, okV a → okV b → bothF t a b = some v → okV v
 | 0, t, h => by simp [isF] at h
 | d + 1, .mk k ins, h => by
  rw [isF] at h
  simp only [Bool.and_eq_true, List.all_eq_true, beq_iff_eq] at h
  rintro ⟨n1, m1, s1, c1, w1⟩ ⟨n2, m2, s2, c2, w2⟩ v ha hb hv
  rw [zH3] at hv
  replace hv := cap_some hv
  have a0 := zW2.1 ha
  have b0 := zW2.1 hb
  rcases k8_of h.1 with rfl | rfl | rfl | rfl | rfl | rfl | rfl | rfl
  ·injection hv with hv; subst hv
   exact zW2.2 ⟨by simp only [Val.nv]; omega, by omega, by simp, by simp⟩
  ·injection hv with hv; subst hv
   exact zW2.2 ⟨by simp only [Val.nv]; omega, by omega, by simp, by simp⟩
  ·injection hv with hv; subst hv
   exact zW2.2 ⟨by omega, by omega, by simp, by simp⟩
  ·obtain ⟨t1, rfl⟩ := zX2 h.1 (by decide)
   have ih := okV_both d t1 (h.2 _ (by simp))
   replace hv : mapsF (bothF t1) (.mk n1 m1 s1 c1 w1) (.mk n2 m2 s2 c2 w2) = some v := by rw [← hv]; simp [bothB, bothL]
   unfold mapsF at hv
   obtain ⟨x, hx, rfl⟩ := Option.map_eq_some_iff.1 hv
   have := goE_ok (P := fun _ => True) (Q := okV) (fun e he => by
    obtain ⟨p, q⟩ := zZ5 _ _ _ e he
    have h1 : okV e.2.1 := p.elim (fun h => a0.2.2.2 _ (zI4 h)) (fun h => b0.2.2.2 _ (zI4 h))
    refine ⟨trivial, h1, fun y hy => ?_⟩
    obtain ⟨q1, k, q2⟩ := q y hy
    exact ⟨b0.2.2.2 _ (zI4 q2), fun v hv => ih _ _ v h1 (b0.2.2.2 _ (zI4 q2)) hv⟩) hx
   refine zW2.2 ⟨by omega, by omega, by simp, fun y hy => ?_⟩
   obtain ⟨p, hp, rfl⟩ := List.mem_map.1 hy
   exact (this p hp).2
  ·obtain ⟨t1, t2, rfl⟩ := zQ5 h.1
   have ih1 := okV_both d t1 (h.2 _ (by simp))
   have ih2 := okV_both d t2 (h.2 _ (by simp))
   replace hv : pairF2 [bothF t1, bothF t2] (.mk n1 m1 s1 c1 w1) (.mk n2 m2 s2 c2 w2) = some v := by rw [← hv]; simp [bothB, bothL]
   unfold pairF2 at hv
   obtain ⟨x, hx, rfl⟩ := Option.map_eq_some_iff.1 hv
   refine zW2.2 ⟨by omega, by omega, by simp, ?_⟩
   simp only [Val.vv] at hx
   match w1, w2, a0, b0, hx with
   | [], _, _, _, hx => simp [goP] at hx; subst hx; simp
   | _ :: _, [], _, _, hx => simp [goP] at hx; subst hx; simp
   | [x1], y1 :: w2, a0, b0, hx =>
    simp only [goP] at hx
    cases hf : bothF t1 x1 y1 with
    | none => rw [hf] at hx; cases hx
    | some u => rw [hf] at hx; simp at hx; subst hx; simp; exact ih1 _ _ _ (a0.2.2.2 _ (by simp)) (b0.2.2.2 _ (by simp)) hf
   | x1 :: x2 :: w1, [y1], a0, b0, hx =>
    simp only [goP] at hx
    cases hf : bothF t1 x1 y1 with
    | none => rw [hf] at hx; cases hx
    | some u => rw [hf] at hx; simp at hx; subst hx; simp; exact ih1 _ _ _ (a0.2.2.2 _ (by simp)) (b0.2.2.2 _ (by simp)) hf
   | x1 :: x2 :: w1, y1 :: y2 :: w2, a0, b0, hx =>
    simp only [goP] at hx
    cases hf : bothF t1 x1 y1 with
    | none => rw [hf] at hx; cases hx
    | some u =>
     rw [hf] at hx
     cases hg : bothF t2 x2 y2 with
     | none => rw [hg] at hx; cases hx
     | some u2 =>
      rw [hg] at hx
      simp at hx
      subst hx
      simp
      exact ⟨ih1 _ _ _ (a0.2.2.2 _ (by simp)) (b0.2.2.2 _ (by simp)) hf, ih2 _ _ _ (a0.2.2.2 _ (by simp)) (b0.2.2.2 _ (by simp)) hg⟩
  ·injection hv with hv; subst hv
   unfold laterF
   split
   ·exact hb
   ·exact ha
  ·injection hv with hv; subst hv
   unfold clocksF
   split
   ·exact hb
   ·split
    ·exact ha
    ·rename_i h1 h2
     refine zW2.2 ⟨by omega, by omega, ?_, by simp⟩
     intro x hx
     rw [List.mem_singleton] at hx
     subst hx
     simp only [Val.cv] at h1 h2 ⊢
     cases c1 with
     | nil => simp at h1
     | cons x c1 =>
      cases c2 with
      | nil => simp at h2
      | cons y c2 => exact join_ok (a0.2.2.1 _ (by simp)) (b0.2.2.1 _ (by simp))
  ·obtain ⟨t1, rfl⟩ := zX2 h.1 (by decide)
   have ih := okV_both d t1 (h.2 _ (by simp))
   replace hv : causesF (bothF t1) (.mk n1 m1 s1 c1 w1) (.mk n2 m2 s2 c2 w2) = some v := by rw [← hv]; simp [bothB, bothL]
   unfold causesF at hv
   obtain ⟨x, hx, rfl⟩ := Option.map_eq_some_iff.1 hv
   have := goE_ok (P := fun k => ∀ t ∈ k, okTk t) (Q := okV) (fun e he => by
    obtain ⟨p, q⟩ := zZ5 _ _ _ e (List.mem_filter.1 he).1
    have h1 : okV e.2.1 := p.elim (fun h => a0.2.2.2 _ (zI4 h)) (fun h => b0.2.2.2 _ (zI4 h))
    refine ⟨p.elim (fun h => a0.2.2.1 _ (zip_m1 h)) (fun h => b0.2.2.1 _ (zip_m1 h)), h1, fun y hy => ?_⟩
    obtain ⟨q1, k, q2⟩ := q y hy
    exact ⟨b0.2.2.2 _ (zI4 q2), fun v hv => ih _ _ v h1 (b0.2.2.2 _ (zI4 q2)) hv⟩) hx
   refine zW2.2 ⟨by omega, by omega, fun y hy => ?_, fun y hy => ?_⟩
   ·obtain ⟨p, hp, rfl⟩ := List.mem_map.1 hy
    exact (this p hp).1
   ·obtain ⟨p, hp, rfl⟩ := List.mem_map.1 hy
    exact (this p hp).2
end Go.Proofs.YtnfcnpdpfgcchaaGreat
namespace Go.Proofs.YtnfcnpdpfgcchaaGreat
open Go Go.MV
theorem ahead_nil : ∀ b : List Tk, aheadF [] b = decide (0 < b.length)
 | [] => rfl
 | _ :: _ => rfl
theorem ahead_nil2 : ∀ a : List Tk, aheadF a [] = false
 | [] => rfl
 | _ :: _ => rfl
theorem fits_mk {n m : Int} {s : List Bs} {c : List (List Tk)} {w : List Val} (k : Int) : fitsF k (.mk n m s c w) =
 (if k = 1 then hasF (.mk n m s c w) true false false false false
 else if k = 2 then hasF (.mk n m s c w) true false false false false && decide (n ≤ 1)
 else if k = 3 then hasF (.mk n m s c w) false false true false false && shortF s
 else if k = 4 then hasF (.mk n m s c w) false false true false true && shortF s && decide (s.length = w.length)
 else if k = 5 then hasF (.mk n m s c w) false false false false true && decide (w.length = 2)
 else if k = 6 then (match s with | [] => hasF (.mk n m s c w) false false false false false | [t] => hasF (.mk n m s c w) true true true false false && decide (t.length ≤ 16) && (!(n == 0) || !(m == 0) || !(t == [])) | _ => false)
 else if k = 7 then hasF (.mk n m s c w) false false false true false && decide (c.length ≤ 1)
 else hasF (.mk n m s c w) false false false true true && decide (c.length = w.length)) := rfl
theorem _root_.zU4 : type_of% @fits_mk := @fits_mk
theorem fits6_one {n m : Int} {t : Bs} {c : List (List Tk)} {w : List Val} : fitsF 6 (.mk n m [t] c w) = (hasF (.mk n m [t] c w) true true true false false && decide (t.length ≤ 16) && (!(n == 0) || !(m == 0) || !(t == []))) := rfl
theorem _root_.zC4 : type_of% @fits6_one := @fits6_one
theorem fits6_nil {n m : Int} {c : List (List Tk)} {w : List Val} : fitsF 6 (.mk n m [] c w) = hasF (.mk n m [] c w) false false false false false := rfl
theorem fits6_no {n m : Int} {s : List Bs} {c : List (List Tk)} {w : List Val} (h : ¬ s = []) (h1 : ¬ s.length = 1) : fitsF 6 (.mk n m s c w) = false := by
 match s, h, h1 with
 | [], h, _ => exact absurd rfl h
 | [t], _, h => exact absurd rfl h
 | _ :: _ :: _, _, _ => rfl
theorem fits6_has {n m : Int} {s : List Bs} {c : List (List Tk)} {w : List Val} (h : ¬ s = []) (h1 : hasF (.mk n m s c w) true true true false false = false) : fitsF 6 (.mk n m s c w) = false := by
 match s, h, h1 with
 | [], h, _ => exact absurd rfl h
 | [t], _, h =>
  show (hasF (.mk n m [t] c w) true true true false false && _ && _) = false
  rw [h]; rfl
 | _ :: _ :: _, _, _ => rfl
theorem rBottomV_spec (d : Nat) : d ≤ 16 → ∀ (s : Sch), isF d s = true → ∀ S : MS, MCalls Tryz.prog 26 [encS s] S fun v σ' => v = encV (BottomF s) ∧ σ' = S := by
 induction d with
 | zero => intro _ s h; simp [isF] at h
 | succ d ih =>
 rintro h16 ⟨k, ins⟩ hd S
 have his := isF_le h16 hd
 rw [isF] at hd
 simp only [Bool.and_eq_true, List.all_eq_true, beq_iff_eq] at hd
 refine zU Tryz.func26 V Tryz.ntmps26 (zA V) ?_
 refine zB <| qR V <| qB V V V V V <| qO V <| zL0 V zm30 V V <| qN <| zB <| zB <| qR V <| qL V V V V ta24 V ?_
 refine qX V V V V co21 (rIsSchema_spec (.mk k ins) _) ?_
 rw [his]
 refine qO V <| zY0 V V <| qM V V V <| qF V V V zC2 <| qL V V V V ta3 V <| qC V V V V V <| qP V V V V <| qN ?_
 refine zK V (fun h10 => ?_) (fun h10 => ?_)
 ·
  have hk : ¬ k = 5 := by simpa using h10
  have hbot : BottomF (.mk k ins) = noV := by unfold BottomF; rw [if_pos his, bottomF, if_neg hk]
  refine zB <| qR V <| qO V <| zZ1 V zQ0 zm30 .nil (by kernel_rfl) ?_
  refine qO V <| zG0 V V V V sz30 V V (zA V) V <| qN <| zL ?_
  rw [hbot]
  exact zO2 (y := encV (noV)) (.inr V) Tryz.results26 V V ta30 V (.agg (.cons (.refl _) (.cons (.refl _) (.cons (.nil _) (.cons (.nil _) (.cons (.nil _) .nil)))))) (zT1 _ _) Vv
 ·
  have hk : k = 5 := by simpa using h10
  subst hk
  obtain ⟨⟨k1, i1⟩, ⟨k2, i2⟩, rfl⟩ := zQ5 hd.1
  have his1 := isF_le (by omega : d ≤ 16) (hd.2 (.mk k1 i1) (by simp))
  have his2 := isF_le (by omega : d ≤ 16) (hd.2 (.mk k2 i2) (by simp))
  obtain ⟨⟨n1, m1, s1, c1, w1⟩, e1⟩ : ∃ v, BottomF (.mk k1 i1) = v := ⟨_, rfl⟩
  obtain ⟨⟨n2, m2, s2, c2, w2⟩, e2⟩ : ∃ v, BottomF (.mk k2 i2) = v := ⟨_, rfl⟩
  have ih1 := ih (by omega) (.mk k1 i1) (hd.2 _ (by simp))
  have ih2 := ih (by omega) (.mk k2 i2) (hd.2 _ (by simp))
  simp only [e1] at ih1
  simp only [e2] at ih2
  have hbot : BottomF (.mk 5 [.mk k1 i1, .mk k2 i2]) = .mk 0 0 [] [] [.mk n1 m1 s1 c1 w1, .mk n2 m2 s2 c2 w2] := by
   unfold BottomF at e1 e2 ⊢
   rw [if_pos his1] at e1
   rw [if_pos his2] at e2
   rw [if_pos his, bottomF, if_pos rfl, bottomL, bottomL, bottomL, e1, e2]
  refine zY <| zB ?_
  refine zV0 [12] [_, S ++ [.cells (encS (.mk 5 [.mk k1 i1, .mk k2 i2])).cells, .cells [.int .u64 0, .int .u64 0, .lst0, .lst0, .lst none 5 [encV (.mk n1 m1 s1 c1 w1), encV (.mk n2 m2 s2 c2 w2)]]]] mo (by decide) V V V V ?_
  refine dO V V V (zJ V V zR2 Vv) <| dO V V V (zE0 V V V ta22 V Vv) <| dO V V V (zG V zJ0 sz24 (by decide) V V V (show _ = some (encS (.mk k1 i1)) from V) Vv) ?_
  refine dO V V V (zI V V ta24 V Vv) <| zV V V (.cons (zC1 V V V co26 (ih1 _)) .nil) <| dO V V V (zJ V V zR2 Vv) <| dO V V V (zE0 V V V ta22 V Vv) <| dO V V V (zG V zJ0 sz24 (by decide) V V V (show _ = some (encS (.mk k2 i2)) from V) Vv) ?_
  refine dO V V V (zI V V ta24 V Vv) <| zV V V (.cons (zC1 V V V co26 (ih2 _)) .nil) <| dO V V V (zA1 V zE el30 V V (by decide) (by decide) V V Vv) ?_
  refine dO V V V (zZ1 V zQ0 zm30 (.cons zZ0 sz28 V V (zA V) .nil) (by kernel_rfl) Vv) ?_
  refine zL1 V V V V (zG0 V V V V sz30 V V (zA V) V Vv) <| zK0 <| zL ?_
  rw [hbot]
  exact zO2 (y := encV (.mk 0 0 [] [] [.mk n1 m1 s1 c1 w1, .mk n2 m2 s2 c2 w2])) (.inr V) Tryz.results26 V V ta30 V (.agg (.cons (.refl _) (.cons (.refl _) (.cons (.nil _) (.cons (.nil _) (.cons (.refl _) .nil)))))) (zT1 _ _) Vv
theorem rBottom_spec (s : Sch) (S : MS) : MCalls Tryz.prog 26 [encS s] S fun v σ' => v = encV (BottomF s) ∧ σ' = S := by
 by_cases h : isF 16 s = true
 ·exact rBottomV_spec 16 (by omega) s h S
 ·obtain ⟨k, ins⟩ := s
  replace h : isF 16 (.mk k ins) = false := by simpa using h
  have hbot : BottomF (.mk k ins) = noV := by unfold BottomF; rw [if_neg (by simp [h])]
  refine zU Tryz.func26 V Tryz.ntmps26 (zA V) ?_
  refine zB <| qR V <| qB V V V V V <| qO V <| zL0 V zm30 V V <| qN <| zB <| zB <| qR V <| qL V V V V ta24 V ?_
  refine qX V V V V co21 (rIsSchema_spec (.mk k ins) _) ?_
  rw [h]
  refine qO V <| zY0 V V <| qM V V V <| qS V <| qS V <| qS V <| qP V V V V <| qN <| zA0 V (V) <| zB <| qR V <| qO V <| zZ1 V zQ0 zm30 .nil (by kernel_rfl) ?_
  refine qO V <| zG0 V V V V sz30 V V (zA V) V <| qN <| zL ?_
  rw [hbot]
  exact zO2 (y := encV (noV)) (.inr V) Tryz.results26 V V ta30 V (.agg (.cons (.refl _) (.cons (.refl _) (.cons (.nil _) (.cons (.nil _) (.cons (.nil _) .nil)))))) (zT1 _ _) Vv
theorem rNone_spec (s : Sch) (x : Val) (S : MS) : MCalls Tryz.prog 40 [encS s, encV x] S fun v σ' => v = .bool (noneF s x) ∧ σ' = S := by
 obtain ⟨k, ins⟩ := s
 obtain ⟨n, m, s, c, w⟩ := x
 refine zU Tryz.func40 V Tryz.ntmps40 (zA V) ?_
 refine zB <| qR V <| qB V V V V V <| qB V V V V V <| qA V V V <| qN <| zB ?_
 refine zV0 [] [_] mo (by decide) V V V V ?_
 refine dO V V V (zE0 V V V ta30 V Vv) <| dO V V V (zE0 V V V ta24 V Vv) <| zV V V (.cons (zC1 V V V co26 (rBottom_spec (.mk k ins) _)) .nil) <| zV V V (.cons (zC1 V V V co12 (rSame_spec (.mk n m s c w) (BottomF (.mk k ins)) _)) .nil) <| dO V V V (zB1 V V Vv) <| zK0 <| zL ?_
 exact zT (.inr V) Tryz.results40 V (.of_eq (by unfold noneF; congr 1; rw [zF]; simp only [decide_eq_true_eq]; exact eq_comm)) (.bool _) Vv
theorem rRises_spec (l : List Bs) (S : MS) : MCalls Tryz.prog 39 [.lst none 1 (l.map encX)] S fun v σ' => v = .bool (risesF l) ∧ σ' = S := by
 refine zU Tryz.func39 V Tryz.ntmps39 (zA V) ?_
 refine zI2 (t := 0) V fun hlen => ?_
 rw [zC] at hlen
 refine zB <| qR V <| qA V V V <| qN <| zB <| zB <| qR V <| qA V V V <| qN <| zB0 ?_
 refine zQ1 (α := Nat) [(0, _)] (fun j => [(3, .int .i64 ((j + 1 : Nat) : Int))]) (fun j => []) (fun j => j ≤ l.length ∧ ∀ i, i < j → i + 1 < l.length → Op.bytesLess (l.getD i []) (l.getD (i + 1) []) = true) (fun j => l.length + 1 - j) (0) (.keep V (.nil)) (.keep V (.nil)) (⟨by omega, fun i hi => by omega⟩) (V) ?_
 rintro j ⟨hj, hall⟩
 refine zB <| zB <| qR V <| qM V V V <| qM V V V <| qE V V zX V <| qC V V V V V <| qN ?_
 refine zK V (fun h7 => ?_) (fun h7 => ?_)
 ·
  have hlt : j + 1 < l.length := by rw [zC] at h7; simp at h7; omega
  obtain ⟨a, hs⟩ : ∃ a, l[j]? = some a := ⟨_, zD (by omega)⟩
  obtain ⟨b, hs2⟩ : ∃ a, l[j + 1]? = some a := ⟨_, zD hlt⟩
  have ha : l.getD j [] = a := by simp [hs]
  have hb : l.getD (j + 1) [] = b := by simp [hs2]
  refine zY <| zB <| zB0 <| zB ?_
  refine zV0 [] [_] mo (by decide) V V V V ?_
  refine dO V V V (zS V V Vv) <| dO V V V (zS V V Vv) <| dO V V V (zO0 V V V (wsub (a := j + 1) (b := 1) (c := j) (by omega) (by simp only [maxLen] at hlen; omega)) Vv) ?_
  refine dO V V V (zG V zX sz9 (by decide) V V V (zR0 hs) Vv) ?_
  refine dO V V V (zI V V ta9 V Vv) <| dO V V V (zS V V Vv) <| dO V V V (zS V V Vv) <| dO V V V (zG V zX sz9 (by decide) V V V (zR0 hs2) Vv) ?_
  refine dO V V V (zI V V ta9 V Vv) <| dO V V V (zM3 V V V V Vv) <| zK0 ?_
  refine zK V (fun h19 => ?_) (fun h19 => ?_)
  ·
   refine zB <| qR V <| qA V V V <| qN <| zL ?_
   exact zT (.inr V) Tryz.results39 V (.of_eq (by congr 1; symm; cases h : risesF l with | false => rfl | true => (have := (rises_iff l).1 h j hlt; rw [ha, hb] at this; simp [this] at h19))) (.bool _) Vv
  ·
   refine zY <| qR V <| qM V V V <| qO V <| zO0 V V V V <| qA V V V <| qN ?_
   refine ⟨j + 1, by omega, ⟨by omega, fun i hi hi2 => ?_⟩, rfl, (.keep V (.nil)), (.eq V (zK1 hlt hlen) (.nil))⟩
   by_cases e : i = j
   ·subst e; rw [ha, hb]; simpa using h19
   ·exact hall i (by omega) hi2
 ·
  have hge : l.length ≤ j + 1 := by rw [zC] at h7; simp at h7; omega
  refine zF1 <| zB <| qR V <| qA V V V <| qN <| zL ?_
  exact zT (.inr V) Tryz.results39 V (.of_eq (by congr 1; symm; exact (rises_iff l).2 fun i hi => hall i (by omega) hi)) (.bool _) Vv
theorem _root_.zH5 : type_of% @rRises_spec := @rRises_spec
theorem rShort_spec (l : List Bs) (S : MS) : MCalls Tryz.prog 65 [.lst none 1 (l.map encX)] S fun v σ' => v = .bool (shortF l) ∧ σ' = S := by
 refine zU Tryz.func65 V Tryz.ntmps65 (zA V) ?_
 refine zI2 (t := 0) V fun hlen => ?_
 rw [zC] at hlen
 refine zB <| qR V <| qA V V V <| qN <| zB <| zB <| qR V <| qA V V V <| qN <| zB0 ?_
 refine zQ1 (α := Nat) [(0, _)] (fun i => [(3, .int .i64 (i : Int))]) (fun i => []) (fun i => i ≤ l.length ∧ shortF (l.take i) = true) (fun i => l.length - i) (0) (.keep V (.nil)) (.keep V (.nil)) (⟨by omega, rfl⟩) (V) ?_
 rintro i ⟨hi, hall⟩
 refine zB <| zB <| qR V <| qM V V V <| qM V V V <| qE V V zX V <| qC V V V V V <| qN ?_
 refine zK V (fun h7 => ?_) (fun h7 => ?_)
 ·
  have hlt : i < l.length := by simpa using h7
  obtain ⟨s, hs⟩ : ∃ q_, l[i]? = some q_ := ⟨_, zD hlt⟩
  refine zY <| zB <| zB0 <| zB <| qR V <| qM V V V <| qM V V V <| qO V <| zG V zX sz9 (by decide) V V V (zR0 hs) ?_
  refine qO V <| zI V V ta9 V <| qO V <| op_len_bs V Tryz.underlying9 V <| qC V V V V V <| qN ?_
  refine zK V (fun h15 => ?_) (fun h15 => ?_)
  ·
   refine zB <| qR V <| qA V V V <| qN <| zL ?_
   exact zT (.inr V) Tryz.results65 V (.of_eq (by congr 1; symm; unfold shortF; rw [List.all_eq_false]; exact ⟨s, zC0 hs, by simp at h15; simp; omega⟩)) (.bool _) Vv
  ·
   refine zY <| qR V <| qM V V V <| qO V <| zO0 V V V V <| qA V V V <| qN ?_
   refine ⟨i + 1, by omega, ⟨by omega, ?_⟩, rfl, (.keep V (.nil)), (.eq V (zK1 hlt hlen) (.nil))⟩
   unfold shortF at hall ⊢
   rw [List.take_add_one, hs, List.all_append, hall]
   simp at h15
   simp
   omega
 ·
  have hge : i = l.length := by simp at h7; omega
  refine zF1 <| zB <| qR V <| qA V V V <| qN <| zL ?_
  exact zT (.inr V) Tryz.results65 V (.of_eq (by rw [hge, List.take_length] at hall; rw [hall])) (.bool _) Vv
theorem _root_.zP0 : type_of% @Tryz.results64 := @Tryz.results64
theorem has_spec (n m : Int) (s : List Bs) (c : List (List Tk)) (w : List Val) (f1 f2 f3 f4 f5 : Bool) (S : MS) : MCalls Tryz.prog 64 [encV (.mk n m s c w), .bool f1, .bool f2, .bool f3, .bool f4, .bool f5] S fun v σ' => v = .bool (hasF (.mk n m s c w) f1 f2 f3 f4 f5) ∧ σ' = S := by
 refine zU Tryz.func64 V Tryz.ntmps64 (zA V) ?_
 refine zB <| qR V <| qB V V V V V <| qA V V V <| qN <| zB <| qR V <| qM V V V <| qM V V V ?_
 refine zD0 (fun h14 => ?_) (fun h14 => ?_)
 ·
  refine qS V <| qS V <| qS V <| qP V V V V <| qM V V V <| qM V V V <| qM V V V ?_
  refine zD0 (fun h21 => ?_) (fun h21 => ?_)
  ·
   refine qS V <| qS V <| qS V <| qP V V V V <| qP V V V V <| qM V V V <| qM V V V <| qM V V V ?_
   refine zD0 (fun h29 => ?_) (fun h29 => ?_)
   ·
    refine qT V V V V <| qP V V V V <| qP V V V V <| qM V V V <| qM V V V <| qM V V V ?_
    refine zD0 (fun h38 => ?_) (fun h38 => ?_)
    ·
     refine qT V V V V <| qP V V V V <| qP V V V V <| qM V V V <| qM V V V <| qM V V V ?_
     refine zD0 (fun h47 => ?_) (fun h47 => ?_)
     ·
      refine qT V V V V <| qP V V V V <| qP V V V V <| qA V V V <| qN <| zL ?_
      exact zT (.inr V) zP0 V (.of_eq (by congr 1; rw [zF]; simp_all [hasF, Val.nv, Val.mv, Val.sv, Val.cv, Val.vv])) (.bool _) Vv
     ·
      refine qF V V V zZ0 <| qL V V V V ta28 V <| qE V V zE V ?_
      try rw [zO]
      refine qC V V V V V <| qP V V V V <| qP V V V V <| qA V V V <| qN <| zL ?_
      exact zT (.inr V) zP0 V (.of_eq (by congr 1; rw [zF]; simp_all [hasF, Val.nv, Val.mv, Val.sv, Val.cv, Val.vv])) (.bool _) Vv
    ·
     refine qF V V V zM1 <| qL V V V V ta27 V <| qE V V zN V <| qC V V V V V <| qP V V V V <| qP V V V V <| qM V V V ?_
     refine zD0 (fun h45 => ?_) (fun h45 => ?_)
     ·
      refine qM V V V <| qM V V V ?_
      refine zD0 (fun h47 => ?_) (fun h47 => ?_)
      ·
       refine qT V V V V <| qP V V V V <| qP V V V V <| qA V V V <| qN <| zL ?_
       exact zT (.inr V) zP0 V (.of_eq (by congr 1; rw [zF]; simp_all [hasF, Val.nv, Val.mv, Val.sv, Val.cv, Val.vv])) (.bool _) Vv
      ·
       refine qF V V V zZ0 <| qL V V V V ta28 V <| qE V V zE V ?_
       try rw [zO]
       refine qC V V V V V <| qP V V V V <| qP V V V V <| qA V V V <| qN <| zL ?_
       exact zT (.inr V) zP0 V (.of_eq (by congr 1; rw [zF]; simp_all [hasF, Val.nv, Val.mv, Val.sv, Val.cv, Val.vv])) (.bool _) Vv
     ·
      refine qT V V V V <| qS V <| qS V <| qS V <| qP V V V V <| qA V V V <| qN <| zL ?_
      exact zT (.inr V) zP0 V (.of_eq (by congr 1; rw [zF]; simp_all [hasF, Val.nv, Val.mv, Val.sv, Val.cv, Val.vv])) (.bool _) Vv
   ·
    refine qF V V V zU1 <| qL V V V V ta26 V <| qE V V zX V <| qC V V V V V <| qP V V V V <| qP V V V V <| qM V V V ?_
    refine zD0 (fun h36 => ?_) (fun h36 => ?_)
    ·
     refine qM V V V <| qM V V V ?_
     refine zD0 (fun h38 => ?_) (fun h38 => ?_)
     ·
      refine qT V V V V <| qP V V V V <| qP V V V V <| qM V V V <| qM V V V <| qM V V V ?_
      refine zD0 (fun h47 => ?_) (fun h47 => ?_)
      ·
       refine qT V V V V <| qP V V V V <| qP V V V V <| qA V V V <| qN <| zL ?_
       exact zT (.inr V) zP0 V (.of_eq (by congr 1; rw [zF]; simp_all [hasF, Val.nv, Val.mv, Val.sv, Val.cv, Val.vv])) (.bool _) Vv
      ·
       refine qF V V V zZ0 <| qL V V V V ta28 V <| qE V V zE V ?_
       try rw [zO]
       refine qC V V V V V <| qP V V V V <| qP V V V V <| qA V V V <| qN <| zL ?_
       exact zT (.inr V) zP0 V (.of_eq (by congr 1; rw [zF]; simp_all [hasF, Val.nv, Val.mv, Val.sv, Val.cv, Val.vv])) (.bool _) Vv
     ·
      refine qF V V V zM1 <| qL V V V V ta27 V <| qE V V zN V <| qC V V V V V <| qP V V V V <| qP V V V V <| qM V V V ?_
      refine zD0 (fun h45 => ?_) (fun h45 => ?_)
      ·
       refine qM V V V <| qM V V V ?_
       refine zD0 (fun h47 => ?_) (fun h47 => ?_)
       ·
        refine qT V V V V <| qP V V V V <| qP V V V V <| qA V V V <| qN <| zL ?_
        exact zT (.inr V) zP0 V (.of_eq (by congr 1; rw [zF]; simp_all [hasF, Val.nv, Val.mv, Val.sv, Val.cv, Val.vv])) (.bool _) Vv
       ·
        refine qF V V V zZ0 <| qL V V V V ta28 V <| qE V V zE V ?_
        try rw [zO]
        refine qC V V V V V <| qP V V V V <| qP V V V V <| qA V V V <| qN <| zL ?_
        exact zT (.inr V) zP0 V (.of_eq (by congr 1; rw [zF]; simp_all [hasF, Val.nv, Val.mv, Val.sv, Val.cv, Val.vv])) (.bool _) Vv
      ·
       refine qT V V V V <| qS V <| qS V <| qS V <| qP V V V V <| qA V V V <| qN <| zL ?_
       exact zT (.inr V) zP0 V (.of_eq (by congr 1; rw [zF]; simp_all [hasF, Val.nv, Val.mv, Val.sv, Val.cv, Val.vv])) (.bool _) Vv
    ·
     refine qT V V V V <| qS V <| qS V <| qS V <| qP V V V V <| qM V V V <| qT V V V V <| qS V <| qS V <| qS V <| qP V V V V <| qA V V V <| qN <| zL ?_
     exact zT (.inr V) zP0 V (.of_eq (by congr 1; rw [zF]; simp_all [hasF, Val.nv, Val.mv, Val.sv, Val.cv, Val.vv])) (.bool _) Vv
  ·
   refine qF V V V zY4 <| qL V V V V ta25 V <| qC V V V V V <| qP V V V V <| qP V V V V <| qM V V V ?_
   refine zD0 (fun h27 => ?_) (fun h27 => ?_)
   ·
    refine qM V V V <| qM V V V ?_
    refine zD0 (fun h29 => ?_) (fun h29 => ?_)
    ·
     refine qT V V V V <| qP V V V V <| qP V V V V <| qM V V V <| qM V V V <| qM V V V ?_
     refine zD0 (fun h38 => ?_) (fun h38 => ?_)
     ·
      refine qT V V V V <| qP V V V V <| qP V V V V <| qM V V V <| qM V V V <| qM V V V ?_
      refine zD0 (fun h47 => ?_) (fun h47 => ?_)
      ·
       refine qT V V V V <| qP V V V V <| qP V V V V <| qA V V V <| qN <| zL ?_
       exact zT (.inr V) zP0 V (.of_eq (by congr 1; rw [zF]; simp_all [hasF, Val.nv, Val.mv, Val.sv, Val.cv, Val.vv])) (.bool _) Vv
      ·
       refine qF V V V zZ0 <| qL V V V V ta28 V <| qE V V zE V ?_
       try rw [zO]
       refine qC V V V V V <| qP V V V V <| qP V V V V <| qA V V V <| qN <| zL ?_
       exact zT (.inr V) zP0 V (.of_eq (by congr 1; rw [zF]; simp_all [hasF, Val.nv, Val.mv, Val.sv, Val.cv, Val.vv])) (.bool _) Vv
     ·
      refine qF V V V zM1 <| qL V V V V ta27 V <| qE V V zN V <| qC V V V V V <| qP V V V V <| qP V V V V <| qM V V V ?_
      refine zD0 (fun h45 => ?_) (fun h45 => ?_)
      ·
       refine qM V V V <| qM V V V ?_
       refine zD0 (fun h47 => ?_) (fun h47 => ?_)
       ·
        refine qT V V V V <| qP V V V V <| qP V V V V <| qA V V V <| qN <| zL ?_
        exact zT (.inr V) zP0 V (.of_eq (by congr 1; rw [zF]; simp_all [hasF, Val.nv, Val.mv, Val.sv, Val.cv, Val.vv])) (.bool _) Vv
       ·
        refine qF V V V zZ0 <| qL V V V V ta28 V <| qE V V zE V ?_
        try rw [zO]
        refine qC V V V V V <| qP V V V V <| qP V V V V <| qA V V V <| qN <| zL ?_
        exact zT (.inr V) zP0 V (.of_eq (by congr 1; rw [zF]; simp_all [hasF, Val.nv, Val.mv, Val.sv, Val.cv, Val.vv])) (.bool _) Vv
      ·
       refine qT V V V V <| qS V <| qS V <| qS V <| qP V V V V <| qA V V V <| qN <| zL ?_
       exact zT (.inr V) zP0 V (.of_eq (by congr 1; rw [zF]; simp_all [hasF, Val.nv, Val.mv, Val.sv, Val.cv, Val.vv])) (.bool _) Vv
    ·
     refine qF V V V zU1 <| qL V V V V ta26 V <| qE V V zX V <| qC V V V V V <| qP V V V V <| qP V V V V <| qM V V V ?_
     refine zD0 (fun h36 => ?_) (fun h36 => ?_)
     ·
      refine qM V V V <| qM V V V ?_
      refine zD0 (fun h38 => ?_) (fun h38 => ?_)
      ·
       refine qT V V V V <| qP V V V V <| qP V V V V <| qM V V V <| qM V V V <| qM V V V ?_
       refine zD0 (fun h47 => ?_) (fun h47 => ?_)
       ·
        refine qT V V V V <| qP V V V V <| qP V V V V <| qA V V V <| qN <| zL ?_
        exact zT (.inr V) zP0 V (.of_eq (by congr 1; rw [zF]; simp_all [hasF, Val.nv, Val.mv, Val.sv, Val.cv, Val.vv])) (.bool _) Vv
       ·
        refine qF V V V zZ0 <| qL V V V V ta28 V <| qE V V zE V ?_
        try rw [zO]
        refine qC V V V V V <| qP V V V V <| qP V V V V <| qA V V V <| qN <| zL ?_
        exact zT (.inr V) zP0 V (.of_eq (by congr 1; rw [zF]; simp_all [hasF, Val.nv, Val.mv, Val.sv, Val.cv, Val.vv])) (.bool _) Vv
      ·
       refine qF V V V zM1 <| qL V V V V ta27 V <| qE V V zN V <| qC V V V V V <| qP V V V V <| qP V V V V <| qM V V V ?_
       refine zD0 (fun h45 => ?_) (fun h45 => ?_)
       ·
        refine qM V V V <| qM V V V ?_
        refine zD0 (fun h47 => ?_) (fun h47 => ?_)
        ·
         refine qT V V V V <| qP V V V V <| qP V V V V <| qA V V V <| qN <| zL ?_
         exact zT (.inr V) zP0 V (.of_eq (by congr 1; rw [zF]; simp_all [hasF, Val.nv, Val.mv, Val.sv, Val.cv, Val.vv])) (.bool _) Vv
        ·
         refine qF V V V zZ0 <| qL V V V V ta28 V <| qE V V zE V ?_
         try rw [zO]
         refine qC V V V V V <| qP V V V V <| qP V V V V <| qA V V V <| qN <| zL ?_
         exact zT (.inr V) zP0 V (.of_eq (by congr 1; rw [zF]; simp_all [hasF, Val.nv, Val.mv, Val.sv, Val.cv, Val.vv])) (.bool _) Vv
       ·
        refine qT V V V V <| qS V <| qS V <| qS V <| qP V V V V <| qA V V V <| qN <| zL ?_
        exact zT (.inr V) zP0 V (.of_eq (by congr 1; rw [zF]; simp_all [hasF, Val.nv, Val.mv, Val.sv, Val.cv, Val.vv])) (.bool _) Vv
     ·
      refine qT V V V V <| qS V <| qS V <| qS V <| qP V V V V <| qM V V V <| qT V V V V <| qS V <| qS V <| qS V <| qP V V V V <| qA V V V <| qN <| zL ?_
      exact zT (.inr V) zP0 V (.of_eq (by congr 1; rw [zF]; simp_all [hasF, Val.nv, Val.mv, Val.sv, Val.cv, Val.vv])) (.bool _) Vv
   ·
    refine qT V V V V <| qS V <| qS V <| qS V <| qP V V V V <| qM V V V <| qT V V V V <| qS V <| qS V <| qS V <| qP V V V V <| qM V V V <| qT V V V V <| qS V <| qS V <| qS V <| qP V V V V ?_
    refine qA V V V <| qN <| zL ?_
    exact zT (.inr V) zP0 V (.of_eq (by congr 1; rw [zF]; simp_all [hasF, Val.nv, Val.mv, Val.sv, Val.cv, Val.vv])) (.bool _) Vv
 ·
  refine qF V V V zG4 <| qL V V V V ta25 V <| qC V V V V V <| qP V V V V <| qM V V V ?_
  refine zD0 (fun h19 => ?_) (fun h19 => ?_)
  ·
   refine qM V V V <| qM V V V ?_
   refine zD0 (fun h21 => ?_) (fun h21 => ?_)
   ·
    refine qS V <| qS V <| qS V <| qP V V V V <| qP V V V V <| qM V V V <| qM V V V <| qM V V V ?_
    refine zD0 (fun h29 => ?_) (fun h29 => ?_)
    ·
     refine qT V V V V <| qP V V V V <| qP V V V V <| qM V V V <| qM V V V <| qM V V V ?_
     refine zD0 (fun h38 => ?_) (fun h38 => ?_)
     ·
      refine qT V V V V <| qP V V V V <| qP V V V V <| qM V V V <| qM V V V <| qM V V V ?_
      refine zD0 (fun h47 => ?_) (fun h47 => ?_)
      ·
       refine qT V V V V <| qP V V V V <| qP V V V V <| qA V V V <| qN <| zL ?_
       exact zT (.inr V) zP0 V (.of_eq (by congr 1; rw [zF]; simp_all [hasF, Val.nv, Val.mv, Val.sv, Val.cv, Val.vv])) (.bool _) Vv
      ·
       refine qF V V V zZ0 <| qL V V V V ta28 V <| qE V V zE V ?_
       try rw [zO]
       refine qC V V V V V <| qP V V V V <| qP V V V V <| qA V V V <| qN <| zL ?_
       exact zT (.inr V) zP0 V (.of_eq (by congr 1; rw [zF]; simp_all [hasF, Val.nv, Val.mv, Val.sv, Val.cv, Val.vv])) (.bool _) Vv
     ·
      refine qF V V V zM1 <| qL V V V V ta27 V <| qE V V zN V <| qC V V V V V <| qP V V V V <| qP V V V V <| qM V V V ?_
      refine zD0 (fun h45 => ?_) (fun h45 => ?_)
      ·
       refine qM V V V <| qM V V V ?_
       refine zD0 (fun h47 => ?_) (fun h47 => ?_)
       ·
        refine qT V V V V <| qP V V V V <| qP V V V V <| qA V V V <| qN <| zL ?_
        exact zT (.inr V) zP0 V (.of_eq (by congr 1; rw [zF]; simp_all [hasF, Val.nv, Val.mv, Val.sv, Val.cv, Val.vv])) (.bool _) Vv
       ·
        refine qF V V V zZ0 <| qL V V V V ta28 V <| qE V V zE V ?_
        try rw [zO]
        refine qC V V V V V <| qP V V V V <| qP V V V V <| qA V V V <| qN <| zL ?_
        exact zT (.inr V) zP0 V (.of_eq (by congr 1; rw [zF]; simp_all [hasF, Val.nv, Val.mv, Val.sv, Val.cv, Val.vv])) (.bool _) Vv
      ·
       refine qT V V V V <| qS V <| qS V <| qS V <| qP V V V V <| qA V V V <| qN <| zL ?_
       exact zT (.inr V) zP0 V (.of_eq (by congr 1; rw [zF]; simp_all [hasF, Val.nv, Val.mv, Val.sv, Val.cv, Val.vv])) (.bool _) Vv
    ·
     refine qF V V V zU1 <| qL V V V V ta26 V <| qE V V zX V <| qC V V V V V <| qP V V V V <| qP V V V V <| qM V V V ?_
     refine zD0 (fun h36 => ?_) (fun h36 => ?_)
     ·
      refine qM V V V <| qM V V V ?_
      refine zD0 (fun h38 => ?_) (fun h38 => ?_)
      ·
       refine qT V V V V <| qP V V V V <| qP V V V V <| qM V V V <| qM V V V <| qM V V V ?_
       refine zD0 (fun h47 => ?_) (fun h47 => ?_)
       ·
        refine qT V V V V <| qP V V V V <| qP V V V V <| qA V V V <| qN <| zL ?_
        exact zT (.inr V) zP0 V (.of_eq (by congr 1; rw [zF]; simp_all [hasF, Val.nv, Val.mv, Val.sv, Val.cv, Val.vv])) (.bool _) Vv
       ·
        refine qF V V V zZ0 <| qL V V V V ta28 V <| qE V V zE V ?_
        try rw [zO]
        refine qC V V V V V <| qP V V V V <| qP V V V V <| qA V V V <| qN <| zL ?_
        exact zT (.inr V) zP0 V (.of_eq (by congr 1; rw [zF]; simp_all [hasF, Val.nv, Val.mv, Val.sv, Val.cv, Val.vv])) (.bool _) Vv
      ·
       refine qF V V V zM1 <| qL V V V V ta27 V <| qE V V zN V <| qC V V V V V <| qP V V V V <| qP V V V V <| qM V V V ?_
       refine zD0 (fun h45 => ?_) (fun h45 => ?_)
       ·
        refine qM V V V <| qM V V V ?_
        refine zD0 (fun h47 => ?_) (fun h47 => ?_)
        ·
         refine qT V V V V <| qP V V V V <| qP V V V V <| qA V V V <| qN <| zL ?_
         exact zT (.inr V) zP0 V (.of_eq (by congr 1; rw [zF]; simp_all [hasF, Val.nv, Val.mv, Val.sv, Val.cv, Val.vv])) (.bool _) Vv
        ·
         refine qF V V V zZ0 <| qL V V V V ta28 V <| qE V V zE V ?_
         try rw [zO]
         refine qC V V V V V <| qP V V V V <| qP V V V V <| qA V V V <| qN <| zL ?_
         exact zT (.inr V) zP0 V (.of_eq (by congr 1; rw [zF]; simp_all [hasF, Val.nv, Val.mv, Val.sv, Val.cv, Val.vv])) (.bool _) Vv
       ·
        refine qT V V V V <| qS V <| qS V <| qS V <| qP V V V V <| qA V V V <| qN <| zL ?_
        exact zT (.inr V) zP0 V (.of_eq (by congr 1; rw [zF]; simp_all [hasF, Val.nv, Val.mv, Val.sv, Val.cv, Val.vv])) (.bool _) Vv
     ·
      refine qT V V V V <| qS V <| qS V <| qS V <| qP V V V V <| qM V V V <| qT V V V V <| qS V <| qS V <| qS V <| qP V V V V <| qA V V V <| qN <| zL ?_
      exact zT (.inr V) zP0 V (.of_eq (by congr 1; rw [zF]; simp_all [hasF, Val.nv, Val.mv, Val.sv, Val.cv, Val.vv])) (.bool _) Vv
   ·
    refine qF V V V zY4 <| qL V V V V ta25 V <| qC V V V V V <| qP V V V V <| qP V V V V <| qM V V V ?_
    refine zD0 (fun h27 => ?_) (fun h27 => ?_)
    ·
     refine qM V V V <| qM V V V ?_
     refine zD0 (fun h29 => ?_) (fun h29 => ?_)
     ·
      refine qT V V V V <| qP V V V V <| qP V V V V <| qM V V V <| qM V V V <| qM V V V ?_
      refine zD0 (fun h38 => ?_) (fun h38 => ?_)
      ·
       refine qT V V V V <| qP V V V V <| qP V V V V <| qM V V V <| qM V V V <| qM V V V ?_
       refine zD0 (fun h47 => ?_) (fun h47 => ?_)
       ·
        refine qT V V V V <| qP V V V V <| qP V V V V <| qA V V V <| qN <| zL ?_
        exact zT (.inr V) zP0 V (.of_eq (by congr 1; rw [zF]; simp_all [hasF, Val.nv, Val.mv, Val.sv, Val.cv, Val.vv])) (.bool _) Vv
       ·
        refine qF V V V zZ0 <| qL V V V V ta28 V <| qE V V zE V ?_
        try rw [zO]
        refine qC V V V V V <| qP V V V V <| qP V V V V <| qA V V V <| qN <| zL ?_
        exact zT (.inr V) zP0 V (.of_eq (by congr 1; rw [zF]; simp_all [hasF, Val.nv, Val.mv, Val.sv, Val.cv, Val.vv])) (.bool _) Vv
      ·
       refine qF V V V zM1 <| qL V V V V ta27 V <| qE V V zN V <| qC V V V V V <| qP V V V V <| qP V V V V <| qM V V V ?_
       refine zD0 (fun h45 => ?_) (fun h45 => ?_)
       ·
        refine qM V V V <| qM V V V ?_
        refine zD0 (fun h47 => ?_) (fun h47 => ?_)
        ·
         refine qT V V V V <| qP V V V V <| qP V V V V <| qA V V V <| qN <| zL ?_
         exact zT (.inr V) zP0 V (.of_eq (by congr 1; rw [zF]; simp_all [hasF, Val.nv, Val.mv, Val.sv, Val.cv, Val.vv])) (.bool _) Vv
        ·
         refine qF V V V zZ0 <| qL V V V V ta28 V <| qE V V zE V ?_
         try rw [zO]
         refine qC V V V V V <| qP V V V V <| qP V V V V <| qA V V V <| qN <| zL ?_
         exact zT (.inr V) zP0 V (.of_eq (by congr 1; rw [zF]; simp_all [hasF, Val.nv, Val.mv, Val.sv, Val.cv, Val.vv])) (.bool _) Vv
       ·
        refine qT V V V V <| qS V <| qS V <| qS V <| qP V V V V <| qA V V V <| qN <| zL ?_
        exact zT (.inr V) zP0 V (.of_eq (by congr 1; rw [zF]; simp_all [hasF, Val.nv, Val.mv, Val.sv, Val.cv, Val.vv])) (.bool _) Vv
     ·
      refine qF V V V zU1 <| qL V V V V ta26 V <| qE V V zX V <| qC V V V V V <| qP V V V V <| qP V V V V <| qM V V V ?_
      refine zD0 (fun h36 => ?_) (fun h36 => ?_)
      ·
       refine qM V V V <| qM V V V ?_
       refine zD0 (fun h38 => ?_) (fun h38 => ?_)
       ·
        refine qT V V V V <| qP V V V V <| qP V V V V <| qM V V V <| qM V V V <| qM V V V ?_
        refine zD0 (fun h47 => ?_) (fun h47 => ?_)
        ·
         refine qT V V V V <| qP V V V V <| qP V V V V <| qA V V V <| qN <| zL ?_
         exact zT (.inr V) zP0 V (.of_eq (by congr 1; rw [zF]; simp_all [hasF, Val.nv, Val.mv, Val.sv, Val.cv, Val.vv])) (.bool _) Vv
        ·
         refine qF V V V zZ0 <| qL V V V V ta28 V <| qE V V zE V ?_
         try rw [zO]
         refine qC V V V V V <| qP V V V V <| qP V V V V <| qA V V V <| qN <| zL ?_
         exact zT (.inr V) zP0 V (.of_eq (by congr 1; rw [zF]; simp_all [hasF, Val.nv, Val.mv, Val.sv, Val.cv, Val.vv])) (.bool _) Vv
       ·
        refine qF V V V zM1 <| qL V V V V ta27 V <| qE V V zN V <| qC V V V V V <| qP V V V V <| qP V V V V <| qM V V V ?_
        refine zD0 (fun h45 => ?_) (fun h45 => ?_)
        ·
         refine qM V V V <| qM V V V ?_
         refine zD0 (fun h47 => ?_) (fun h47 => ?_)
         ·
          refine qT V V V V <| qP V V V V <| qP V V V V <| qA V V V <| qN <| zL ?_
          exact zT (.inr V) zP0 V (.of_eq (by congr 1; rw [zF]; simp_all [hasF, Val.nv, Val.mv, Val.sv, Val.cv, Val.vv])) (.bool _) Vv
         ·
          refine qF V V V zZ0 <| qL V V V V ta28 V <| qE V V zE V ?_
          try rw [zO]
          refine qC V V V V V <| qP V V V V <| qP V V V V <| qA V V V <| qN <| zL ?_
          exact zT (.inr V) zP0 V (.of_eq (by congr 1; rw [zF]; simp_all [hasF, Val.nv, Val.mv, Val.sv, Val.cv, Val.vv])) (.bool _) Vv
        ·
         refine qT V V V V <| qS V <| qS V <| qS V <| qP V V V V <| qA V V V <| qN <| zL ?_
         exact zT (.inr V) zP0 V (.of_eq (by congr 1; rw [zF]; simp_all [hasF, Val.nv, Val.mv, Val.sv, Val.cv, Val.vv])) (.bool _) Vv
      ·
       refine qT V V V V <| qS V <| qS V <| qS V <| qP V V V V <| qM V V V <| qT V V V V <| qS V <| qS V <| qS V <| qP V V V V <| qA V V V <| qN <| zL ?_
       exact zT (.inr V) zP0 V (.of_eq (by congr 1; rw [zF]; simp_all [hasF, Val.nv, Val.mv, Val.sv, Val.cv, Val.vv])) (.bool _) Vv
    ·
     refine qT V V V V <| qS V <| qS V <| qS V <| qP V V V V <| qM V V V <| qT V V V V <| qS V <| qS V <| qS V <| qP V V V V <| qM V V V <| qT V V V V <| qS V <| qS V <| qS V <| qP V V V V ?_
     refine qA V V V <| qN <| zL ?_
     exact zT (.inr V) zP0 V (.of_eq (by congr 1; rw [zF]; simp_all [hasF, Val.nv, Val.mv, Val.sv, Val.cv, Val.vv])) (.bool _) Vv
  ·
   refine qT V V V V <| qS V <| qS V <| qP V V V V <| qM V V V <| qT V V V V <| qS V <| qS V <| qS V <| qP V V V V <| qM V V V <| qT V V V V <| qS V <| qS V <| qS V <| qP V V V V ?_
   refine qM V V V <| qT V V V V <| qS V <| qS V <| qS V <| qP V V V V <| qA V V V <| qN <| zL ?_
   exact zT (.inr V) zP0 V (.of_eq (by congr 1; rw [zF]; simp_all [hasF, Val.nv, Val.mv, Val.sv, Val.cv, Val.vv])) (.bool _) Vv
theorem rAhead_spec (a b : List Tk) (S : MS) : MCalls Tryz.prog 66 [.lst none 2 (a.map encT), .lst none 2 (b.map encT)] S fun v σ' => v = .bool (aheadF a b) ∧ σ' = S := by
 refine zU Tryz.func66 V Tryz.ntmps66 (zA V) ?_
 refine zI2 (t := 0) V fun hlen => ?_
 rw [zC] at hlen
 refine zB <| qR V <| qA V V V <| qN <| zB <| zB <| qR V <| qA V V V <| qN <| zB0 ?_
 refine zQ1 (α := Nat) [(0, _), (1, _)] (fun i => [(5, .int .i64 (i : Int))]) (fun i => []) (fun i => i ≤ a.length ∧ i ≤ b.length ∧ aheadF (a.drop i) (b.drop i) = aheadF a b) (fun i => a.length - i) (0) (.keep V (.keep V (.nil))) (.keep V (.nil)) (⟨by omega, by omega, rfl⟩) (V) ?_
 rintro i ⟨hi, hib, he⟩
 refine zB <| zB <| qR V <| qM V V V <| qM V V V <| qE V V zP V <| qC V V V V V <| qM V V V ?_
 refine zD0 (fun h10 => ?_) (fun h10 => ?_)
 ·
  have hlt : i < a.length := by rw [zC] at h10; simpa using h10
  obtain ⟨x, hs⟩ : ∃ q, a[i]? = some q := ⟨_, zD hlt⟩
  refine qM V V V <| qM V V V <| qE V V zP V <| qC V V V V V <| qP V V V V <| qN ?_
  refine zK V (fun h15 => ?_) (fun h15 => ?_)
  ·
   have hltb : i < b.length := by rw [zC] at h15; simpa using h15
   obtain ⟨y, hs2⟩ : ∃ q, b[i]? = some q := ⟨_, zD hltb⟩
   refine zY <| zB <| zB0 <| zB <| zB ?_
   refine zV0 [] [_] mo (by decide) V V V V ?_
   refine dO V V V (zS V V Vv) <| dO V V V (zS V V Vv) <| dO V V V (zG V zP sz54 (by decide) V V V (zR0 hs) Vv) ?_
   refine dO V V V (zE1 V V zB4 Vv) <| dO V V V (zI V V ta3 V Vv) <| dO V V V (zS V V Vv) <| dO V V V (zS V V Vv) <| dO V V V (zG V zP sz54 (by decide) V V V (zR0 hs2) Vv) ?_
   refine dO V V V (zE1 V V zB4 Vv) <| dO V V V (zI V V ta3 V Vv) <| dO V V V (zQ2 V V V V Vv) <| zK0 ?_
   refine zK V (fun h28 => ?_) (fun h28 => ?_)
   ·
    refine zB ?_
    refine zV0 [] [_] mo (by decide) V V V V ?_
    refine dO V V V (zS V V Vv) <| dO V V V (zS V V Vv) <| dO V V V (zG V zP sz54 (by decide) V V V (zR0 hs) Vv) ?_
    refine dO V V V (zE1 V V zB4 Vv) <| dO V V V (zI V V ta3 V Vv) <| dO V V V (zS V V Vv) <| dO V V V (zS V V Vv) <| dO V V V (zG V zP sz54 (by decide) V V V (zR0 hs2) Vv) ?_
    refine dO V V V (zE1 V V zB4 Vv) <| dO V V V (zI V V ta3 V Vv) <| dO V V V (zQ2 V V V V Vv) <| dO V V V (zB1 V V Vv) <| zK0 <| zL ?_
    exact zT (.inr V) Tryz.results66 V (.of_eq (by rw [← he, zT4 hs, zT4 hs2, aheadF, if_pos (by simpa using h28)])) (.bool _) Vv
   ·
    refine zY <| zB ?_
    refine zV0 [] [_] mo (by decide) V V V V ?_
    refine dO V V V (zS V V Vv) <| dO V V V (zS V V Vv) <| dO V V V (zG V zP sz54 (by decide) V V V (zR0 hs) Vv) ?_
    refine dO V V V (zE1 V V zX5 Vv) <| dO V V V (zI V V ta25 V Vv) <| dO V V V (zS V V Vv) <| dO V V V (zS V V Vv) <| dO V V V (zG V zP sz54 (by decide) V V V (zR0 hs2) Vv) ?_
    refine dO V V V (zE1 V V zX5 Vv) <| dO V V V (zI V V ta25 V Vv) <| dO V V V (zQ2 V V V V Vv) <| zK0 ?_
    refine zK V (fun h50 => ?_) (fun h50 => ?_)
    ·
     refine zB ?_
     refine zV0 [] [_] mo (by decide) V V V V ?_
     refine dO V V V (zS V V Vv) <| dO V V V (zS V V Vv) <| dO V V V (zG V zP sz54 (by decide) V V V (zR0 hs) Vv) ?_
     refine dO V V V (zE1 V V zX5 Vv) <| dO V V V (zI V V ta25 V Vv) <| dO V V V (zS V V Vv) <| dO V V V (zS V V Vv) <| dO V V V (zG V zP sz54 (by decide) V V V (zR0 hs2) Vv) ?_
     refine dO V V V (zE1 V V zX5 Vv) <| dO V V V (zI V V ta25 V Vv) <| dO V V V (zQ2 V V V V Vv) <| dO V V V (zB1 V V Vv) <| zK0 <| zL ?_
     exact zT (.inr V) Tryz.results66 V (.of_eq (by rw [← he, zT4 hs, zT4 hs2, aheadF, if_neg (by simpa using h28), if_pos (by simpa using h50)])) (.bool _) Vv
    ·
     refine zY <| qR V <| qM V V V <| qO V <| zO0 V V V V <| qA V V V <| qN ?_
     refine ⟨i + 1, by omega, ⟨by omega, by omega, by rw [← he, zT4 hs, zT4 hs2, aheadF, if_neg (by simpa using h28), if_neg (by simpa using h50)]⟩, rfl, (.keep V (.keep V (.nil))), (.eq V (zK1 hlt hlen) (.nil))⟩
  ·
   have hgb : i = b.length := by rw [zC] at h15; simp at h15; omega
   have hE : aheadF a b = decide ((a.map encT).length < (b.map encT).length) := by rw [← he, hgb, List.drop_length, ahead_nil2]; simp; try omega
   refine zF1 <| zB <| qR V <| qM V V V <| qE V V zP V <| qM V V V <| qE V V zP V <| qC V V V V V <| qA V V V <| qN <| zL ?_
   exact zT (.inr V) Tryz.results66 V (.of_eq (by rw [hE]; congr 1; rw [zF]; simp only [decide_eq_true_eq]; omega)) (.bool _) Vv
 ·
  have hge : i = a.length := by rw [zC] at h10; simp at h10; omega
  have hE : aheadF a b = decide ((a.map encT).length < (b.map encT).length) := by rw [← he, hge, List.drop_length, ahead_nil]; simp; try omega
  refine qT V V V V <| qP V V V V <| qN <| zQ V (V) <| zF1 <| zB <| qR V <| qM V V V <| qE V V zP V <| qM V V V <| qE V V zP V <| qC V V V V V <| qA V V V <| qN <| zL ?_
  exact zT (.inr V) Tryz.results66 V (.of_eq (by rw [hE]; congr 1; rw [zF]; simp only [decide_eq_true_eq]; omega)) (.bool _) Vv
theorem _root_.zU5 : type_of% @Tryz.ntmps38 := @Tryz.ntmps38
theorem _root_.zW1 : type_of% @Tryz.results38 := @Tryz.results38
theorem fits_spec (k : Int) (ins : List Sch) (hk : k = 1 ∨ k = 2 ∨ k = 3 ∨ k = 4 ∨ k = 5 ∨ k = 6 ∨ k = 7 ∨ k = 8) (n m : Int) (s : List Bs) (c : List (List Tk)) (w : List Val) (S : MS) : MCalls Tryz.prog 38 [encS (.mk k ins), encV (.mk n m s c w)] S fun v σ' => v = .bool (fitsF k (.mk n m s c w)) ∧ σ' = S := by
 rcases hk with rfl | rfl | rfl | rfl | rfl | rfl | rfl | rfl
 ·
  refine zU zD5 V zU5 (zA V) ?_
  refine zB <| qR V <| qB V V V V V <| qB V V V V V <| qA V V V <| qN <| zB <| zB <| qR V <| qF V V V zC2 <| qL V V V V ta3 V <| qN <| zB0 <| zB <| qR V <| qC V V V V V <| qA V V V <| qN <| zA0 V (V) <| zB <| qR V <| qL V V V V ta30 V ?_
  refine qX V V V V co64 (has_spec n m _ c w true false false false false _) ?_
  refine qA V V V <| qN <| zL ?_
  exact zT (.inr V) zW1 V (.of_eq (by rw [zU4 1]; first | rfl | (congr 1; rw [zF]; simp_all [zO]; done) | (congr 1; rw [zF]; simp_all [zO]; omega))) (.bool _) Vv
 ·
  refine zU zD5 V zU5 (zA V) ?_
  refine zB <| qR V <| qB V V V V V <| qB V V V V V <| qA V V V <| qN <| zB <| zB <| qR V <| qF V V V zC2 <| qL V V V V ta3 V <| qN <| zB0 <| zB <| qR V <| qC V V V V V <| qA V V V <| qN <| zQ V (V) <| zB <| qR V <| qC V V V V V ?_
  refine qA V V V <| qN <| zA0 V (V) <| zB <| qR V <| qL V V V V ta30 V ?_
  refine qX V V V V co64 (has_spec n m _ c w true false false false false _) ?_
  refine qM V V V ?_
  refine zD0 (fun h15 => ?_) (fun h15 => ?_)
  ·
   refine qF V V V zG4 <| qL V V V V ta25 V <| qC V V V V V <| qP V V V V <| qA V V V <| qN <| zL ?_
   exact zT (.inr V) zW1 V (.of_eq (by rw [zU4 2]; first | rfl | (congr 1; rw [zF]; simp_all [zO]; done) | (congr 1; rw [zF]; simp_all [zO]; omega))) (.bool _) Vv
  ·
   refine qS V <| qS V <| qS V <| qP V V V V <| qA V V V <| qN <| zL ?_
   exact zT (.inr V) zW1 V (.of_eq (by rw [zU4 2]; first | rfl | (congr 1; rw [zF]; simp_all [zO]; done) | (congr 1; rw [zF]; simp_all [zO]; omega))) (.bool _) Vv
 ·
  refine zU zD5 V zU5 (zA V) ?_
  refine zB <| qR V <| qB V V V V V <| qB V V V V V <| qA V V V <| qN <| zB <| zB <| qR V <| qF V V V zC2 <| qL V V V V ta3 V <| qN <| zB0 <| zB <| qR V <| qC V V V V V <| qA V V V <| qN <| zQ V (V) <| zB <| qR V <| qC V V V V V ?_
  refine qA V V V <| qN <| zQ V (V) <| zB <| qR V <| qC V V V V V <| qA V V V <| qN <| zA0 V (V) <| zB <| qR V <| qL V V V V ta30 V ?_
  refine qX V V V V co64 (has_spec n m _ c w false false true false false _) ?_
  refine qM V V V ?_
  refine zD0 (fun h24 => ?_) (fun h24 => ?_)
  ·
   refine qF V V V zU1 <| qL V V V V ta26 V ?_
   refine qX V V V V co65 (rShort_spec s _) ?_
   refine qP V V V V <| qA V V V <| qN <| zL ?_
   exact zT (.inr V) zW1 V (.of_eq (by rw [zU4 3]; first | rfl | (congr 1; rw [zF]; simp_all [zO]; done) | (congr 1; rw [zF]; simp_all [zO]; omega))) (.bool _) Vv
  ·
   refine qS V <| qS V <| qS V <| qP V V V V <| qA V V V <| qN <| zL ?_
   exact zT (.inr V) zW1 V (.of_eq (by rw [zU4 3]; first | rfl | (congr 1; rw [zF]; simp_all [zO]; done) | (congr 1; rw [zF]; simp_all [zO]; omega))) (.bool _) Vv
 ·
  refine zU zD5 V zU5 (zA V) ?_
  refine zB <| qR V <| qB V V V V V <| qB V V V V V <| qA V V V <| qN <| zB <| zB <| qR V <| qF V V V zC2 <| qL V V V V ta3 V <| qN <| zB0 <| zB <| qR V <| qC V V V V V <| qA V V V <| qN <| zQ V (V) <| zB <| qR V <| qC V V V V V ?_
  refine qA V V V <| qN <| zQ V (V) <| zB <| qR V <| qC V V V V V <| qA V V V <| qN <| zQ V (V) <| zB <| qR V <| qC V V V V V <| qA V V V <| qN <| zA0 V (V) <| zB <| qR V <| qL V V V V ta30 V ?_
  refine qX V V V V co64 (has_spec n m _ c w false false true false true _) ?_
  refine qM V V V ?_
  refine zD0 (fun h33 => ?_) (fun h33 => ?_)
  ·
   refine qF V V V zU1 <| qL V V V V ta26 V ?_
   refine qX V V V V co65 (rShort_spec s _) ?_
   refine qP V V V V <| qM V V V ?_
   refine zD0 (fun h38 => ?_) (fun h38 => ?_)
   ·
    refine qF V V V zU1 <| qL V V V V ta26 V <| qE V V zX V <| qF V V V zZ0 <| qL V V V V ta28 V <| qE V V zE V <| qC V V V V V <| qP V V V V <| qA V V V <| qN <| zL ?_
    exact zT (.inr V) zW1 V (.of_eq (by rw [zU4 4]; first | rfl | (congr 1; rw [zF]; simp_all [zO]; done) | (congr 1; rw [zF]; simp_all [zO]; omega))) (.bool _) Vv
   ·
    refine qT V V V V <| qS V <| qS V <| qS V <| qP V V V V <| qA V V V <| qN <| zL ?_
    exact zT (.inr V) zW1 V (.of_eq (by rw [zU4 4]; first | rfl | (congr 1; rw [zF]; simp_all [zO]; done) | (congr 1; rw [zF]; simp_all [zO]; omega))) (.bool _) Vv
  ·
   refine qS V <| qS V <| qS V <| qP V V V V <| qM V V V <| qT V V V V <| qS V <| qS V <| qS V <| qP V V V V <| qA V V V <| qN <| zL ?_
   exact zT (.inr V) zW1 V (.of_eq (by rw [zU4 4]; first | rfl | (congr 1; rw [zF]; simp_all [zO]; done) | (congr 1; rw [zF]; simp_all [zO]; omega))) (.bool _) Vv
 ·
  refine zU zD5 V zU5 (zA V) ?_
  refine zB <| qR V <| qB V V V V V <| qB V V V V V <| qA V V V <| qN <| zB <| zB <| qR V <| qF V V V zC2 <| qL V V V V ta3 V <| qN <| zB0 <| zB <| qR V <| qC V V V V V <| qA V V V <| qN <| zQ V (V) <| zB <| qR V <| qC V V V V V ?_
  refine qA V V V <| qN <| zQ V (V) <| zB <| qR V <| qC V V V V V <| qA V V V <| qN <| zQ V (V) <| zB <| qR V <| qC V V V V V <| qA V V V <| qN <| zQ V (V) <| zB <| qR V <| qC V V V V V <| qA V V V <| qN <| zA0 V (V) <| zB <| qR V ?_
  refine qL V V V V ta30 V ?_
  refine qX V V V V co64 (has_spec n m _ c w false false false false true _) ?_
  refine qM V V V ?_
  refine zD0 (fun h51 => ?_) (fun h51 => ?_)
  ·
   refine qF V V V zZ0 <| qL V V V V ta28 V <| qE V V zE V <| qC V V V V V <| qP V V V V <| qA V V V <| qN <| zL ?_
   exact zT (.inr V) zW1 V (.of_eq (by rw [zU4 5]; first | rfl | (congr 1; rw [zF]; simp_all [zO]; done) | (congr 1; rw [zF]; simp_all [zO]; omega))) (.bool _) Vv
  ·
   refine qT V V V V <| qP V V V V <| qA V V V <| qN <| zL ?_
   exact zT (.inr V) zW1 V (.of_eq (by rw [zU4 5]; first | rfl | (congr 1; rw [zF]; simp_all [zO]; done) | (congr 1; rw [zF]; simp_all [zO]; omega))) (.bool _) Vv
 ·
  refine zU zD5 V zU5 (zA V) ?_
  refine zB <| qR V <| qB V V V V V <| qB V V V V V <| qA V V V <| qN <| zB <| zB <| qR V <| qF V V V zC2 <| qL V V V V ta3 V <| qN <| zB0 <| zB <| qR V <| qC V V V V V <| qA V V V <| qN <| zQ V (V) <| zB <| qR V <| qC V V V V V ?_
  refine qA V V V <| qN <| zQ V (V) <| zB <| qR V <| qC V V V V V <| qA V V V <| qN <| zQ V (V) <| zB <| qR V <| qC V V V V V <| qA V V V <| qN <| zQ V (V) <| zB <| qR V <| qC V V V V V <| qA V V V <| qN <| zQ V (V) <| zB <| qR V ?_
  refine qC V V V V V <| qA V V V <| qN <| zA0 V (V) <| zB <| zB <| qR V <| qF V V V zU1 <| qL V V V V ta26 V <| qE V V zX V <| qC V V V V V <| qN ?_
  refine zK V (fun h62 => ?_) (fun h62 => ?_)
  ·
   have hs0 : s = [] := by simpa using h62
   subst hs0
   refine zB <| qR V <| qL V V V V ta30 V ?_
   refine qX V V V V co64 (has_spec n m _ c w false false false false false _) ?_
   refine qA V V V <| qN <| zL ?_
   exact zT (.inr V) zW1 V (.of_eq (by first | (rw [hF]; done) | (rw [fits6_nil]; done) | (rw [zC4]; congr 1; rw [zF]; simp_all [shortF]; done) | (rw [zC4]; congr 1; rw [zF]; simp_all [shortF]; intros; omega) | (congr 1; symm; exact fits6_has hs0 (by simpa using h67)))) (.bool _) Vv
  ·
   have hs0 : ¬ s = [] := by simpa using h62
   refine zY <| zB <| qR V <| qL V V V V ta30 V ?_
   refine qX V V V V co64 (has_spec n m _ c w true true true false false _) ?_
   refine qM V V V ?_
   refine zD0 (fun h67 => ?_) (fun h67 => ?_)
   ·
    refine qF V V V zU1 <| qL V V V V ta26 V <| qE V V zX V <| qC V V V V V <| qP V V V V <| qM V V V ?_
    refine zD0 (fun h73 => ?_) (fun h73 => ?_)
    ·
     obtain ⟨t, rfl⟩ := one_of (by rw [zC] at h73; simp at h73; omega : s.length = 1)
     refine qF V V V zU1 <| qL V V V V ta26 V ?_
     refine qX V V V V co65 (rShort_spec [t] _) ?_
     refine qP V V V V <| qM V V V ?_
     refine zD0 (fun h78 => ?_) (fun h78 => ?_)
     ·
      refine qF V V V zG4 <| qL V V V V ta25 V <| qC V V V V V <| qM V V V ?_
      refine zD0 (fun h82 => ?_) (fun h82 => ?_)
      ·
       refine qS V <| qS V <| qS V <| qP V V V V <| qM V V V <| qT V V V V <| qS V <| qP V V V V <| qP V V V V <| qA V V V <| qN <| zL ?_
       exact zT (.inr V) zW1 V (.of_eq (by first | (rw [hF]; done) | (rw [fits6_nil]; done) | (rw [zC4]; congr 1; rw [zF]; simp_all [shortF]; done) | (rw [zC4]; congr 1; rw [zF]; simp_all [shortF]; intros; omega) | (congr 1; symm; exact fits6_has hs0 (by simpa using h67)))) (.bool _) Vv
      ·
       refine qF V V V zY4 <| qL V V V V ta25 V <| qC V V V V V <| qP V V V V <| qM V V V ?_
       refine zD0 (fun h87 => ?_) (fun h87 => ?_)
       ·
        refine qT V V V V <| qS V <| qP V V V V <| qP V V V V <| qA V V V <| qN <| zL ?_
        exact zT (.inr V) zW1 V (.of_eq (by first | (rw [hF]; done) | (rw [fits6_nil]; done) | (rw [zC4]; congr 1; rw [zF]; simp_all [shortF]; done) | (rw [zC4]; congr 1; rw [zF]; simp_all [shortF]; intros; omega) | (congr 1; symm; exact fits6_has hs0 (by simpa using h67)))) (.bool _) Vv
       ·
        refine qF V V V zU1 <| qL V V V V ta26 V <| qO V <| zG V zX sz9 (by decide) V V V (show _ = some (encX t) from V) ?_
        refine qO V <| zI V V ta9 V <| qO V <| zM3 V V V V <| qP V V V V <| qP V V V V <| qA V V V <| qN <| zL ?_
        exact zT (.inr V) zW1 V (.of_eq (by first | (rw [hF]; done) | (rw [fits6_nil]; done) | (rw [zC4]; congr 1; rw [zF]; simp_all [shortF]; done) | (rw [zC4]; congr 1; rw [zF]; simp_all [shortF]; intros; omega) | (congr 1; symm; exact fits6_has hs0 (by simpa using h67)))) (.bool _) Vv
     ·
      refine qT V V V V <| qT V V V V <| qT V V V V <| qS V <| qS V <| qS V <| qP V V V V <| qA V V V <| qN <| zL ?_
      exact zT (.inr V) zW1 V (.of_eq (by first | (rw [hF]; done) | (rw [fits6_nil]; done) | (rw [zC4]; congr 1; rw [zF]; simp_all [shortF]; done) | (rw [zC4]; congr 1; rw [zF]; simp_all [shortF]; intros; omega) | (congr 1; symm; exact fits6_has hs0 (by simpa using h67)))) (.bool _) Vv
    ·
     have hF : fitsF 6 (.mk n m s c w) = false := fits6_no hs0 (fun e => by rw [zC, e] at h73; simp at h73)
     refine qS V <| qS V <| qS V <| qP V V V V <| qM V V V <| qT V V V V <| qT V V V V <| qT V V V V <| qS V <| qS V <| qS V <| qP V V V V <| qA V V V <| qN <| zL ?_
     exact zT (.inr V) zW1 V (.of_eq (by first | (rw [hF]; done) | (rw [fits6_nil]; done) | (rw [zC4]; congr 1; rw [zF]; simp_all [shortF]; done) | (rw [zC4]; congr 1; rw [zF]; simp_all [shortF]; intros; omega) | (congr 1; symm; exact fits6_has hs0 (by simpa using h67)))) (.bool _) Vv
   ·
    refine qT V V V V <| qP V V V V <| qM V V V <| qS V <| qS V <| qS V <| qP V V V V <| qM V V V <| qT V V V V <| qT V V V V <| qT V V V V <| qS V <| qS V <| qS V ?_
    refine qP V V V V <| qA V V V <| qN <| zL ?_
    exact zT (.inr V) zW1 V (.of_eq (by first | (rw [hF]; done) | (rw [fits6_nil]; done) | (rw [zC4]; congr 1; rw [zF]; simp_all [shortF]; done) | (rw [zC4]; congr 1; rw [zF]; simp_all [shortF]; intros; omega) | (congr 1; symm; exact fits6_has hs0 (by simpa using h67)))) (.bool _) Vv
 ·
  refine zU zD5 V zU5 (zA V) ?_
  refine zB <| qR V <| qB V V V V V <| qB V V V V V <| qA V V V <| qN <| zB <| zB <| qR V <| qF V V V zC2 <| qL V V V V ta3 V <| qN <| zB0 <| zB <| qR V <| qC V V V V V <| qA V V V <| qN <| zQ V (V) <| zB <| qR V <| qC V V V V V ?_
  refine qA V V V <| qN <| zQ V (V) <| zB <| qR V <| qC V V V V V <| qA V V V <| qN <| zQ V (V) <| zB <| qR V <| qC V V V V V <| qA V V V <| qN <| zQ V (V) <| zB <| qR V <| qC V V V V V <| qA V V V <| qN <| zQ V (V) <| zB <| qR V ?_
  refine qC V V V V V <| qA V V V <| qN <| zQ V (V) <| zB <| qR V <| qC V V V V V <| qA V V V <| qN <| zA0 V (V) <| zB <| qR V <| qL V V V V ta30 V ?_
  refine qX V V V V co64 (has_spec n m _ c w false false false true false _) ?_
  refine qM V V V ?_
  refine zD0 (fun h99 => ?_) (fun h99 => ?_)
  ·
   refine qF V V V zM1 <| qL V V V V ta27 V <| qE V V zN V <| qC V V V V V <| qP V V V V <| qA V V V <| qN <| zL ?_
   exact zT (.inr V) zW1 V (.of_eq (by rw [zU4 7]; first | rfl | (congr 1; rw [zF]; simp_all [zO]; done) | (congr 1; rw [zF]; simp_all [zO]; omega))) (.bool _) Vv
  ·
   refine qT V V V V <| qP V V V V <| qA V V V <| qN <| zL ?_
   exact zT (.inr V) zW1 V (.of_eq (by rw [zU4 7]; first | rfl | (congr 1; rw [zF]; simp_all [zO]; done) | (congr 1; rw [zF]; simp_all [zO]; omega))) (.bool _) Vv
 ·
  refine zU zD5 V zU5 (zA V) ?_
  refine zB <| qR V <| qB V V V V V <| qB V V V V V <| qA V V V <| qN <| zB <| zB <| qR V <| qF V V V zC2 <| qL V V V V ta3 V <| qN <| zB0 <| zB <| qR V <| qC V V V V V <| qA V V V <| qN <| zQ V (V) <| zB <| qR V <| qC V V V V V ?_
  refine qA V V V <| qN <| zQ V (V) <| zB <| qR V <| qC V V V V V <| qA V V V <| qN <| zQ V (V) <| zB <| qR V <| qC V V V V V <| qA V V V <| qN <| zQ V (V) <| zB <| qR V <| qC V V V V V <| qA V V V <| qN <| zQ V (V) <| zB <| qR V ?_
  refine qC V V V V V <| qA V V V <| qN <| zQ V (V) <| zB <| qR V <| qC V V V V V <| qA V V V <| qN <| zQ V (V) <| zY <| zB <| qR V <| qL V V V V ta30 V ?_
  refine qX V V V V co64 (has_spec n m _ c w false false false true true _) ?_
  refine qM V V V ?_
  refine zD0 (fun h107 => ?_) (fun h107 => ?_)
  ·
   refine qF V V V zM1 <| qL V V V V ta27 V <| qE V V zN V <| qF V V V zZ0 <| qL V V V V ta28 V <| qE V V zE V <| qC V V V V V <| qP V V V V <| qA V V V <| qN <| zL ?_
   exact zT (.inr V) zW1 V (.of_eq (by rw [zU4 8]; first | rfl | (congr 1; rw [zF]; simp_all [zO]; done) | (congr 1; rw [zF]; simp_all [zO]; omega))) (.bool _) Vv
  ·
   refine qT V V V V <| qS V <| qS V <| qS V <| qP V V V V <| qA V V V <| qN <| zL ?_
   exact zT (.inr V) zW1 V (.of_eq (by rw [zU4 8]; first | rfl | (congr 1; rw [zF]; simp_all [zO]; done) | (congr 1; rw [zF]; simp_all [zO]; omega))) (.bool _) Vv
theorem _root_.zQ6 : type_of% @fits_spec := @fits_spec
theorem rcmp_eq {a b : List Tk} (ha : isClockF a = true) (hb : isClockF b = true) (ua : ∀ t ∈ a, okTk t) (ub : ∀ t ∈ b, okTk t) : rcmpF a b = cmpF a b := by
 obtain ⟨h1, h2, _⟩ := isClock_spec ha ua
 obtain ⟨h3, h4, _⟩ := isClock_spec hb ub
 exact (cmp_eq h1 h3 h2 h4).symm
theorem getD_of {α : Type} {l : List α} {i : Nat} {a d : α} (h : l[i]? = some a) : l.getD i d = a := by simp [h]
theorem sibAt_of {f : Val → Bool} {c : List (List Tk)} {w : List Val} {i : Nat} {x : List Tk} {y : Val} (hs : c[i]? = some x) (hs2 : w[i]? = some y) : sibAt f c w i = (isClockF x && f y && (i == 0 || aheadF (c.getD (i - 1) []) x) && decide (∀ j, j < i → cmpF (c.getD j []) x = 2)) := by
 unfold sibAt
 rw [getD_of hs, getD_of hs2]
theorem sibs_false {f : Val → Bool} {c : List (List Tk)} {w : List Val} {i : Nat} (hlt : i < c.length) (h : sibAt f c w i = false) : sibsF f c w = false := by
 unfold sibsF
 rw [decide_eq_false (p := ∀ i, i < c.length → sibAt f c w i = true) (fun hall => by rw [hall i hlt] at h; cases h), Bool.and_false]
theorem sibs_long {f : Val → Bool} {c : List (List Tk)} {w : List Val} (h : ¬ c.length ≤ 40) : sibsF f c w = false := by
 unfold sibsF
 rw [decide_eq_false h, Bool.false_and]
theorem sibs_true {f : Val → Bool} {c : List (List Tk)} {w : List Val} (h : c.length ≤ 40) (hall : ∀ i, i < c.length → sibAt f c w i = true) : sibsF f c w = true := by
 unfold sibsF
 rw [decide_eq_true h, decide_eq_true hall]; rfl
theorem sibAt_clock {f : Val → Bool} {c : List (List Tk)} {w : List Val} {i : Nat} {x : List Tk} (hs : c[i]? = some x) (h : sibAt f c w i = true) : isClockF x = true := by
 unfold sibAt at h
 rw [getD_of hs] at h
 simp only [Bool.and_eq_true] at h
 exact h.1.1.1
theorem isRF_mk {ins : List Sch} {n m : Int} {s : List Bs} {c : List (List Tk)} {w : List Val} (k : Int) : isRF (.mk k ins) (.mk n m s c w) = (fitsF k (.mk n m s c w) && risesF s && decide (s.length ≤ 40) &&
 (if k = 4 then w.all (fun x => (isRL ins).headD (fun _ => false) x && !noneF (ins.headD default) x)
  else if k = 5 then (match w with | [x, y] => (isRL ins).headD (fun _ => false) x && (isRL ins).tail.headD (fun _ => false) y | _ => false)
  else if k = 7 then (match c with | [] => true | [c] => isClockF c && decide (0 < c.length) | _ => false)
  else if k = 8 then sibsF ((isRL ins).headD (fun _ => false)) c w else true)) := by rw [isRF]; rfl
theorem _root_.zJ2 : type_of% @isRF_mk := @isRF_mk
theorem fits5 {n m : Int} {s : List Bs} {c : List (List Tk)} {w : List Val} (h : fitsF 5 (.mk n m s c w) = true) : w.length = 2 := by
 rw [zU4 5] at h; simp at h; exact h.2
theorem fits7 {n m : Int} {s : List Bs} {c : List (List Tk)} {w : List Val} (h : fitsF 7 (.mk n m s c w) = true) : c.length ≤ 1 := by
 rw [zU4 7] at h; simp at h; exact h.2
theorem fits8 {n m : Int} {s : List Bs} {c : List (List Tk)} {w : List Val} (h : fitsF 8 (.mk n m s c w) = true) : c.length = w.length := by
 rw [zU4 8] at h; simp at h; exact h.2
theorem _root_.zN5 : type_of% @Tryz.results42 := @Tryz.results42
theorem sibs_spec (k k1 : Int) (i1 rest : List Sch) (f : Val → Bool) (ih : ∀ x, okV x → ∀ S : MS, MCalls Tryz.prog 22 [encS (.mk k1 i1), encV x] S fun v σ' => v = .bool (f x) ∧ σ' = S) (n m : Int) (s : List Bs) (c : List (List Tk)) (w : List Val) (hl : c.length = w.length) (hc : ∀ x ∈ c, ∀ t ∈ x, okTk t) (hw : ∀ x ∈ w, okV x) (S : MS) : MCalls Tryz.prog 42 [encS (.mk k (.mk k1 i1 :: rest)), encV (.mk n m s c w)] S fun v σ' => v = .bool (sibsF f c w) ∧ σ' = S := by
 refine zU Tryz.func42 V Tryz.ntmps42 (zA V) ?_
 refine zB <| qR V <| qB V V V V V <| qB V V V V V <| qA V V V <| qN <| zB <| zB <| qR V <| qF V V V zM1 <| qL V V V V ta27 V <| qE V V zN V <| qC V V V V V <| qN ?_
 refine zK V (fun h10 => ?_) (fun h10 => ?_)
 ·
  have c40 : ¬ c.length ≤ 40 := by rw [zC] at h10; simp at h10; omega
  refine zB <| qR V <| qA V V V <| qN <| zL ?_
  exact zT (.inr V) zN5 V (.of_eq (by rw [sibs_long c40])) (.bool _) Vv
 ·
  have c40 : c.length ≤ 40 := by rw [zC] at h10; simp at h10; omega
  refine zI2 (t := 8) V fun hlen => ?_
  rw [zC] at hlen
  refine zY <| zB <| zB <| qR V <| qA V V V <| qN <| zB0 ?_
  refine zQ1 (α := Nat) [(2, _), (3, _)] (fun i => [(5, .int .i64 (i : Int))]) (fun i => [.cells (encS (.mk k (.mk k1 i1 :: rest))).cells, .cells (encV (.mk n m s c w)).cells]) (fun i => i ≤ c.length ∧ ∀ j, j < i → sibAt f c w j = true) (fun i => c.length - i) (0) (.keep V (.keep V (.nil))) (.keep V (.nil)) (⟨by omega, fun j hj => by omega⟩) (V) ?_
  rintro i ⟨hi, hall⟩
  refine zB <| zB <| qR V <| qM V V V <| qF V V V zM1 <| qL V V V V ta27 V <| qE V V zN V <| qC V V V V V <| qN ?_
  refine zK V (fun h15 => ?_) (fun h15 => ?_)
  ·
   have hlt : i < c.length := by simpa using h15
   obtain ⟨x, hs⟩ : ∃ q_, c[i]? = some q_ := ⟨_, zD hlt⟩
   refine zY <| zB <| zB0 <| zB <| zB ?_
   obtain ⟨⟨n1, m1, s1, c1, w1⟩, hs2⟩ : ∃ q, w[i]? = some q := ⟨_, zD (by omega)⟩
   refine zV0 [] [_] mo (by decide) V V V V ?_
   refine dO V V V (zJ V V zM1 Vv) <| dO V V V (zE0 V V V ta27 V Vv) <| dO V V V (zS V V Vv) <| dO V V V (zG V zN sz55 (by decide) V V V (zR0 hs) Vv) ?_
   refine dO V V V (zI V V ta55 V Vv) <| zV V V (.cons (zC1 V V V co41 (rIsClock_spec x _)) .nil) <| dO V V V (zY0 V V Vv) <| dO V V V (zS V V Vv) ?_
   refine zF2 (fun h25 => ?_) (fun h25 => ?_)
   ·
    refine dS V V <| dS V V <| dS V V <| dS V V <| dS V V <| dS V V <| dS V V <| dS V V <| dS V V <| dS V V <| dS V V <| dO V V V (zD1 V V V Vv) <| dO V V V (zS V V Vv) <| dS V V <| dS V V <| dS V V <| dS V V <| dS V V <| dS V V <| dS V V <| dS V V <| dS V V <| dS V V <| dS V V <| dS V V <| dS V V <| dS V V <| dS V V <| dS V V <| dS V V ?_
    refine dO V V V (zD1 V V V Vv) <| zK0 <| zA0 V (V) <| zB <| qR V <| qA V V V <| qN <| zL ?_
    exact zT (.inr V) zN5 V (.of_eq (by rw [sibs_false hlt (by rw [sibAt_of hs hs2]; simp_all <;> omega)])) (.bool _) Vv
   ·
    refine dO V V V (zJ V V zR2 Vv) <| dO V V V (zE0 V V V ta22 V Vv) <| dO V V V (zG V zJ0 sz24 (by decide) V V V (show _ = some (encS (.mk k1 i1)) from V) Vv) ?_
    refine dO V V V (zI V V ta24 V Vv) <| dO V V V (zJ V V zZ0 Vv) <| dO V V V (zE0 V V V ta28 V Vv) <| dO V V V (zS V V Vv) <| dO V V V (zG V zE sz30 (by decide) V V V (zN1 hs2) Vv) ?_
    refine dO V V V (zI V V ta30 V Vv) <| zV V V (.cons (zC1 V V V co22 (ih (.mk n1 m1 s1 c1 w1) (hw _ (zC0 hs2)) _)) .nil) <| dO V V V (zY0 V V Vv) <| dO V V V (zD1 V V V Vv) <| dO V V V (zS V V Vv) ?_
    refine zF2 (fun h38 => ?_) (fun h38 => ?_)
    ·
     refine dS V V <| dS V V <| dS V V <| dS V V <| dS V V <| dS V V <| dS V V <| dS V V <| dS V V <| dS V V <| dS V V <| dS V V <| dS V V <| dS V V <| dS V V <| dS V V <| dS V V <| dO V V V (zD1 V V V Vv) <| zK0 <| zA0 V (V) <| zB <| qR V <| qA V V V <| qN <| zL ?_
     exact zT (.inr V) zN5 V (.of_eq (by rw [sibs_false hlt (by rw [sibAt_of hs hs2]; simp_all <;> omega)])) (.bool _) Vv
    ·
     refine dO V V V (zS V V Vv) <| dO V V V (zQ2 V V V V Vv) <| dO V V V (zS V V Vv) ?_
     refine zF2 (fun h41 => ?_) (fun h41 => ?_)
     ·
      have hi0 : 0 < i := by simpa using h41
      obtain ⟨p, hp⟩ : ∃ q, c[i - 1]? = some q := ⟨_, zD (by omega)⟩
      have hgp := getD_of (d := []) hp
      refine dO V V V (zJ V V zM1 Vv) <| dO V V V (zE0 V V V ta27 V Vv) <| dO V V V (zS V V Vv) <| dO V V V (zO0 V V V (wsub (a := i) (b := 1) (c := i - 1) (by omega) (by simp only [maxLen] at hlen; omega)) Vv) ?_
      refine dO V V V (zG V zN sz55 (by decide) V V V (zR0 hp) Vv) ?_
      refine dO V V V (zI V V ta55 V Vv) <| dO V V V (zJ V V zM1 Vv) <| dO V V V (zE0 V V V ta27 V Vv) <| dO V V V (zS V V Vv) <| dO V V V (zG V zN sz55 (by decide) V V V (zR0 hs) Vv) ?_
      refine dO V V V (zI V V ta55 V Vv) <| zV V V (.cons (zC1 V V V co66 (rAhead_spec p x _)) .nil) <| dO V V V (zY0 V V Vv) <| dO V V V (zD1 V V V Vv) <| dO V V V (zD1 V V V Vv) <| zK0 ?_
      refine zK V (fun h56 => ?_) (fun h56 => ?_)
      ·
       refine zB <| qR V <| qA V V V <| qN <| zL ?_
       exact zT (.inr V) zN5 V (.of_eq (by rw [sibs_false hlt (by rw [sibAt_of hs hs2]; simp_all <;> omega)])) (.bool _) Vv
      ·
       refine zY <| zB <| qR V <| qA V V V <| qN <| zB0 ?_
       refine zQ1 (α := Nat) [(2, _), (3, _), (5, _), (26, _), (27, _), (28, _), (29, _), (30, _), (31, _), (32, _), (33, _), (34, _), (35, _), (36, _), (39, _), (40, _), (41, _), (42, _), (43, _), (44, _), (45, _), (46, _), (47, _), (48, _), (49, _), (50, _), (51, _), (52, _), (53, _), (54, _), (55, _)] (fun q => [(6, .int .i64 (q : Int))]) (fun q => [.cells (encS (.mk k (.mk k1 i1 :: rest))).cells, .cells (encV (.mk n m s c w)).cells]) (fun q => q ≤ i ∧ ∀ j, j < q → cmpF (c.getD j []) x = 2) (fun q => i - q) (0) (.keep V (.keep V (.keep V (.keep V (.keep V (.keep V (.keep V (.keep V (.keep V (.keep V (.keep V (.keep V (.keep V (.keep V (.keep V (.keep V (.keep V (.keep V (.keep V (.keep V (.keep V (.keep V (.keep V (.keep V (.keep V (.keep V (.keep V (.keep V (.keep V (.keep V (.keep V (.nil)))))))))))))))))))))))))))))))) (.keep V (.nil)) (⟨by omega, fun j hj => by omega⟩) (V) ?_
       rintro q ⟨hq, hin⟩
       refine zB <| zB <| qR V <| qM V V V <| qM V V V <| qC V V V V V <| qN ?_
       refine zK V (fun h59 => ?_) (fun h59 => ?_)
       ·
        have hlt2 : q < i := by simpa using h59
        obtain ⟨z, hz⟩ : ∃ z, c[q]? = some z := ⟨_, zD (by omega)⟩
        have hzc := sibAt_clock hz (hall q hlt2)
        have hre := rcmp_eq hzc (show isClockF x = true by simpa using h25) (hc z (zC0 hz)) (hc x (zC0 hs))
        refine zY <| zB <| zB0 <| zB ?_
        refine zV0 [] [_] mo (by decide) V V V V ?_
        refine dO V V V (zJ V V zM1 Vv) <| dO V V V (zE0 V V V ta27 V Vv) <| dO V V V (zS V V Vv) <| dO V V V (zG V zN sz55 (by decide) V V V (zR0 hz) Vv) ?_
        refine dO V V V (zI V V ta55 V Vv) <| dO V V V (zJ V V zM1 Vv) <| dO V V V (zE0 V V V ta27 V Vv) <| dO V V V (zS V V Vv) <| dO V V V (zG V zN sz55 (by decide) V V V (zR0 hs) Vv) ?_
        refine dO V V V (zI V V ta55 V Vv) <| zV V V (.cons (zC1 V V V co67 (rCmpC_spec z x _)) .nil) <| dO V V V (zQ2 V V V V Vv) <| zK0 ?_
        refine zK V (fun h73 => ?_) (fun h73 => ?_)
        ·
         have hcmp : ¬ cmpF z x = 2 := by rw [hre] at h73; simpa using h73
         refine zB <| qR V <| qA V V V <| qN <| zL ?_
         exact zT (.inr V) zN5 V (.of_eq (by rw [sibs_false hlt (by rw [sibAt_of hs hs2, decide_eq_false (fun hn => hcmp (by have := hn q hlt2; rwa [getD_of hz] at this)), Bool.and_false])])) (.bool _) Vv
        ·
         have hcmp : cmpF z x = 2 := by rw [hre] at h73; simpa using h73
         refine zY <| qR V <| qM V V V <| qO V <| zO0 V V V V <| qA V V V <| qN ?_
         refine ⟨q + 1, by omega, ⟨by omega, fun j hj => ?_⟩, rfl, (.keep V (.keep V (.keep V (.keep V (.keep V (.keep V (.keep V (.keep V (.keep V (.keep V (.keep V (.keep V (.keep V (.keep V (.keep V (.keep V (.keep V (.keep V (.keep V (.keep V (.keep V (.keep V (.keep V (.keep V (.keep V (.keep V (.keep V (.keep V (.keep V (.keep V (.keep V (.nil)))))))))))))))))))))))))))))))), (.eq V (zK1 (show q < c.length by omega) hlen) (.nil))⟩
         by_cases e : j = q
         ·subst e; rw [getD_of hz]; exact hcmp
         ·exact hin j (by omega)
       ·
        have hge2 : q = i := by simp at h59; omega
        refine zF1 <| qR V <| qM V V V <| qO V <| zO0 V V V V <| qA V V V <| qN ?_
        refine ⟨i + 1, by omega, ⟨by omega, fun j hj => ?_⟩, rfl, (.keep V (.keep V (.nil))), (.eq V (zK1 hlt hlen) (.nil))⟩
        by_cases e : j = i
        ·subst e
         rw [sibAt_of hs hs2, show isClockF x = true by simpa using h25, show f _ = true by simpa using h38, decide_eq_true (fun q hq => hin q (by omega))]
         simp_all
        ·exact hall j (by omega)
     ·
      have hi0 : i = 0 := by simp at h41; omega
      refine dS V V <| dS V V <| dS V V <| dS V V <| dS V V <| dS V V <| dS V V <| dS V V <| dS V V <| dS V V <| dS V V <| dS V V <| dS V V <| dO V V V (zD1 V V V Vv) <| dO V V V (zD1 V V V Vv) <| zK0 <| zQ V (V) <| zY <| zB <| qR V <| qA V V V <| qN <| zB0 ?_
      refine zQ1 (α := Nat) [(2, _), (3, _), (5, _), (26, _), (27, _), (28, _), (29, _), (30, _), (31, _), (32, _), (33, _), (34, _), (35, _), (36, _), (39, _), (40, _), (41, _), (42, _), (43, _), (44, _), (45, _), (46, _), (47, _), (48, _), (49, _), (50, _), (51, _), (52, _), (53, _), (54, _), (55, _)] (fun q => [(6, .int .i64 (q : Int))]) (fun q => [.cells (encS (.mk k (.mk k1 i1 :: rest))).cells, .cells (encV (.mk n m s c w)).cells]) (fun q => q ≤ i ∧ ∀ j, j < q → cmpF (c.getD j []) x = 2) (fun q => i - q) (0) (.keep V (.keep V (.keep V (.keep V (.keep V (.keep V (.keep V (.keep V (.keep V (.keep V (.keep V (.keep V (.keep V (.keep V (.keep V (.keep V (.keep V (.keep V (.keep V (.keep V (.keep V (.keep V (.keep V (.keep V (.keep V (.keep V (.keep V (.keep V (.keep V (.keep V (.keep V (.nil)))))))))))))))))))))))))))))))) (.keep V (.nil)) (⟨by omega, fun j hj => by omega⟩) (V) ?_
      rintro q ⟨hq, hin⟩
      refine zB <| zB <| qR V <| qM V V V <| qM V V V <| qC V V V V V <| qN ?_
      refine zK V (fun h59 => ?_) (fun h59 => ?_)
      ·
       have hlt2 : q < i := by simpa using h59
       obtain ⟨z, hz⟩ : ∃ z, c[q]? = some z := ⟨_, zD (by omega)⟩
       have hzc := sibAt_clock hz (hall q hlt2)
       have hre := rcmp_eq hzc (show isClockF x = true by simpa using h25) (hc z (zC0 hz)) (hc x (zC0 hs))
       refine zY <| zB <| zB0 <| zB ?_
       refine zV0 [] [_] mo (by decide) V V V V ?_
       refine dO V V V (zJ V V zM1 Vv) <| dO V V V (zE0 V V V ta27 V Vv) <| dO V V V (zS V V Vv) <| dO V V V (zG V zN sz55 (by decide) V V V (zR0 hz) Vv) ?_
       refine dO V V V (zI V V ta55 V Vv) <| dO V V V (zJ V V zM1 Vv) <| dO V V V (zE0 V V V ta27 V Vv) <| dO V V V (zS V V Vv) <| dO V V V (zG V zN sz55 (by decide) V V V (zR0 hs) Vv) ?_
       refine dO V V V (zI V V ta55 V Vv) <| zV V V (.cons (zC1 V V V co67 (rCmpC_spec z x _)) .nil) <| dO V V V (zQ2 V V V V Vv) <| zK0 ?_
       refine zK V (fun h73 => ?_) (fun h73 => ?_)
       ·
        have hcmp : ¬ cmpF z x = 2 := by rw [hre] at h73; simpa using h73
        refine zB <| qR V <| qA V V V <| qN <| zL ?_
        exact zT (.inr V) zN5 V (.of_eq (by rw [sibs_false hlt (by rw [sibAt_of hs hs2, decide_eq_false (fun hn => hcmp (by have := hn q hlt2; rwa [getD_of hz] at this)), Bool.and_false])])) (.bool _) Vv
       ·
        have hcmp : cmpF z x = 2 := by rw [hre] at h73; simpa using h73
        refine zY <| qR V <| qM V V V <| qO V <| zO0 V V V V <| qA V V V <| qN ?_
        refine ⟨q + 1, by omega, ⟨by omega, fun j hj => ?_⟩, rfl, (.keep V (.keep V (.keep V (.keep V (.keep V (.keep V (.keep V (.keep V (.keep V (.keep V (.keep V (.keep V (.keep V (.keep V (.keep V (.keep V (.keep V (.keep V (.keep V (.keep V (.keep V (.keep V (.keep V (.keep V (.keep V (.keep V (.keep V (.keep V (.keep V (.keep V (.keep V (.nil)))))))))))))))))))))))))))))))), (.eq V (zK1 (show q < c.length by omega) hlen) (.nil))⟩
        by_cases e : j = q
        ·subst e; rw [getD_of hz]; exact hcmp
        ·exact hin j (by omega)
      ·
       have hge2 : q = i := by simp at h59; omega
       refine zF1 <| qR V <| qM V V V <| qO V <| zO0 V V V V <| qA V V V <| qN ?_
       refine ⟨i + 1, by omega, ⟨by omega, fun j hj => ?_⟩, rfl, (.keep V (.keep V (.nil))), (.eq V (zK1 hlt hlen) (.nil))⟩
       by_cases e : j = i
       ·subst e
        rw [sibAt_of hs hs2, show isClockF x = true by simpa using h25, show f _ = true by simpa using h38, decide_eq_true (fun q hq => hin q (by omega))]
        simp_all
       ·exact hall j (by omega)
  ·
   have hge : i = c.length := by simp at h15; omega
   refine zF1 <| zB <| qR V <| qA V V V <| qN <| zL ?_
   exact zT (.inr V) zN5 V (.of_eq (by rw [sibs_true c40 (fun j hj => hall j (by omega))])) (.bool _) Vv
theorem _root_.zV5 : type_of% @Tryz.ntmps22 := @Tryz.ntmps22
theorem _root_.zX0 : type_of% @Tryz.results22 := @Tryz.results22
theorem isR_spec (d : Nat) : ∀ (s : Sch), isF d s = true → ∀ x : Val, okV x → ∀ S : MS, MCalls Tryz.prog 22 [encS s, encV x] S fun v σ' => v = .bool (isRF s x) ∧ σ' = S := by
 induction d with
 | zero => intro s h; simp [isF] at h
 | succ d ih =>
 rintro ⟨k, ins⟩ hd ⟨n, m, s, c, w⟩ hv S
 rw [isF] at hd
 simp only [Bool.and_eq_true, List.all_eq_true, beq_iff_eq] at hd
 simp only [okV] at hv
 have hvs := okVs_iff.1 hv.2.2.2
 rcases k8_of hd.1 with rfl | rfl | rfl | rfl | rfl | rfl | rfl | rfl
 ·
  refine zU zC5 V zV5 (zA V) ?_
  refine zB <| qR V <| qB V V V V V <| qB V V V V V <| qA V V V <| qN <| zB <| zB <| qR V <| qL V V V V ta24 V <| qL V V V V ta30 V ?_
  refine qX V V V V co38 (zQ6 1 _ (by omega) n m s c w _) ?_
  refine qO V <| zY0 V V <| qM V V V ?_
  refine zD0 (fun h10 => ?_) (fun h10 => ?_)
  ·
   refine qT V V V V <| qP V V V V <| qM V V V <| qT V V V V <| qP V V V V <| qN <| zA0 V (V) <| zB <| qR V <| qA V V V <| qN <| zL ?_
   exact zT (.inr V) zX0 V (.of_eq (by rw [zJ2 1]; congr 1; symm; first | (rw [show fitsF 1 _ = false by simpa using h10]; rfl) | (rw [show risesF s = false by simpa using h16]; simp; done) | (rw [s40f]; simp; done))) (.bool _) Vv
  ·
   refine qF V V V zU1 <| qL V V V V ta26 V ?_
   refine qX V V V V co39 (zH5 s _) ?_
   refine qO V <| zY0 V V <| qP V V V V <| qM V V V ?_
   refine zD0 (fun h16 => ?_) (fun h16 => ?_)
   ·
    refine qT V V V V <| qP V V V V <| qN <| zA0 V (V) <| zB <| qR V <| qA V V V <| qN <| zL ?_
    exact zT (.inr V) zX0 V (.of_eq (by rw [zJ2 1]; congr 1; symm; first | (rw [show fitsF 1 _ = false by simpa using h10]; rfl) | (rw [show risesF s = false by simpa using h16]; simp; done) | (rw [s40f]; simp; done))) (.bool _) Vv
   ·
    refine qF V V V zU1 <| qL V V V V ta26 V <| qE V V zX V <| qC V V V V V <| qP V V V V <| qN ?_
    refine zK V (fun h21 => ?_) (fun h21 => ?_)
    ·
     have s40f := decide_eq_false (by rw [zC] at h21; simp at h21; omega : ¬ s.length ≤ 40)
     refine zB <| qR V <| qA V V V <| qN <| zL ?_
     exact zT (.inr V) zX0 V (.of_eq (by rw [zJ2 1]; congr 1; symm; first | (rw [show fitsF 1 _ = false by simpa using h10]; rfl) | (rw [show risesF s = false by simpa using h16]; simp; done) | (rw [s40f]; simp; done))) (.bool _) Vv
    ·
     have s40t := decide_eq_true (by rw [zC] at h21; simp at h21; omega : s.length ≤ 40)
     have hfit : fitsF 1 (.mk n m s c w) = true := by simpa using h10
     have hris : risesF s = true := by simpa using h16
     refine zY <| zB <| zB <| qR V <| qF V V V zC2 <| qL V V V V ta3 V <| qN <| zB0 <| zB <| qR V <| qC V V V V V <| qA V V V <| qN <| zQ V (V) <| zB <| qR V <| qC V V V V V <| qA V V V <| qN <| zQ V (V) <| zB <| qR V <| qC V V V V V ?_
     refine qA V V V <| qN <| zQ V (V) <| zB <| qR V <| qC V V V V V <| qA V V V <| qN <| zQ V (V) <| zY <| zB <| qR V <| qA V V V <| qN <| zL ?_
     exact zT (.inr V) zX0 V (.of_eq (by rw [zJ2 1]; rw [hfit, hris, s40t]; simp only [Bool.true_and, isRL, List.headD_cons, List.tail_cons]; rfl)) (.bool _) Vv
 ·
  refine zU zC5 V zV5 (zA V) ?_
  refine zB <| qR V <| qB V V V V V <| qB V V V V V <| qA V V V <| qN <| zB <| zB <| qR V <| qL V V V V ta24 V <| qL V V V V ta30 V ?_
  refine qX V V V V co38 (zQ6 2 _ (by omega) n m s c w _) ?_
  refine qO V <| zY0 V V <| qM V V V ?_
  refine zD0 (fun h10 => ?_) (fun h10 => ?_)
  ·
   refine qT V V V V <| qP V V V V <| qM V V V <| qT V V V V <| qP V V V V <| qN <| zA0 V (V) <| zB <| qR V <| qA V V V <| qN <| zL ?_
   exact zT (.inr V) zX0 V (.of_eq (by rw [zJ2 2]; congr 1; symm; first | (rw [show fitsF 2 _ = false by simpa using h10]; rfl) | (rw [show risesF s = false by simpa using h16]; simp; done) | (rw [s40f]; simp; done))) (.bool _) Vv
  ·
   refine qF V V V zU1 <| qL V V V V ta26 V ?_
   refine qX V V V V co39 (zH5 s _) ?_
   refine qO V <| zY0 V V <| qP V V V V <| qM V V V ?_
   refine zD0 (fun h16 => ?_) (fun h16 => ?_)
   ·
    refine qT V V V V <| qP V V V V <| qN <| zA0 V (V) <| zB <| qR V <| qA V V V <| qN <| zL ?_
    exact zT (.inr V) zX0 V (.of_eq (by rw [zJ2 2]; congr 1; symm; first | (rw [show fitsF 2 _ = false by simpa using h10]; rfl) | (rw [show risesF s = false by simpa using h16]; simp; done) | (rw [s40f]; simp; done))) (.bool _) Vv
   ·
    refine qF V V V zU1 <| qL V V V V ta26 V <| qE V V zX V <| qC V V V V V <| qP V V V V <| qN ?_
    refine zK V (fun h21 => ?_) (fun h21 => ?_)
    ·
     have s40f := decide_eq_false (by rw [zC] at h21; simp at h21; omega : ¬ s.length ≤ 40)
     refine zB <| qR V <| qA V V V <| qN <| zL ?_
     exact zT (.inr V) zX0 V (.of_eq (by rw [zJ2 2]; congr 1; symm; first | (rw [show fitsF 2 _ = false by simpa using h10]; rfl) | (rw [show risesF s = false by simpa using h16]; simp; done) | (rw [s40f]; simp; done))) (.bool _) Vv
    ·
     have s40t := decide_eq_true (by rw [zC] at h21; simp at h21; omega : s.length ≤ 40)
     have hfit : fitsF 2 (.mk n m s c w) = true := by simpa using h10
     have hris : risesF s = true := by simpa using h16
     refine zY <| zB <| zB <| qR V <| qF V V V zC2 <| qL V V V V ta3 V <| qN <| zB0 <| zB <| qR V <| qC V V V V V <| qA V V V <| qN <| zQ V (V) <| zB <| qR V <| qC V V V V V <| qA V V V <| qN <| zQ V (V) <| zB <| qR V <| qC V V V V V ?_
     refine qA V V V <| qN <| zQ V (V) <| zB <| qR V <| qC V V V V V <| qA V V V <| qN <| zQ V (V) <| zY <| zB <| qR V <| qA V V V <| qN <| zL ?_
     exact zT (.inr V) zX0 V (.of_eq (by rw [zJ2 2]; rw [hfit, hris, s40t]; simp only [Bool.true_and, isRL, List.headD_cons, List.tail_cons]; rfl)) (.bool _) Vv
 ·
  refine zU zC5 V zV5 (zA V) ?_
  refine zB <| qR V <| qB V V V V V <| qB V V V V V <| qA V V V <| qN <| zB <| zB <| qR V <| qL V V V V ta24 V <| qL V V V V ta30 V ?_
  refine qX V V V V co38 (zQ6 3 _ (by omega) n m s c w _) ?_
  refine qO V <| zY0 V V <| qM V V V ?_
  refine zD0 (fun h10 => ?_) (fun h10 => ?_)
  ·
   refine qT V V V V <| qP V V V V <| qM V V V <| qT V V V V <| qP V V V V <| qN <| zA0 V (V) <| zB <| qR V <| qA V V V <| qN <| zL ?_
   exact zT (.inr V) zX0 V (.of_eq (by rw [zJ2 3]; congr 1; symm; first | (rw [show fitsF 3 _ = false by simpa using h10]; rfl) | (rw [show risesF s = false by simpa using h16]; simp; done) | (rw [s40f]; simp; done))) (.bool _) Vv
  ·
   refine qF V V V zU1 <| qL V V V V ta26 V ?_
   refine qX V V V V co39 (zH5 s _) ?_
   refine qO V <| zY0 V V <| qP V V V V <| qM V V V ?_
   refine zD0 (fun h16 => ?_) (fun h16 => ?_)
   ·
    refine qT V V V V <| qP V V V V <| qN <| zA0 V (V) <| zB <| qR V <| qA V V V <| qN <| zL ?_
    exact zT (.inr V) zX0 V (.of_eq (by rw [zJ2 3]; congr 1; symm; first | (rw [show fitsF 3 _ = false by simpa using h10]; rfl) | (rw [show risesF s = false by simpa using h16]; simp; done) | (rw [s40f]; simp; done))) (.bool _) Vv
   ·
    refine qF V V V zU1 <| qL V V V V ta26 V <| qE V V zX V <| qC V V V V V <| qP V V V V <| qN ?_
    refine zK V (fun h21 => ?_) (fun h21 => ?_)
    ·
     have s40f := decide_eq_false (by rw [zC] at h21; simp at h21; omega : ¬ s.length ≤ 40)
     refine zB <| qR V <| qA V V V <| qN <| zL ?_
     exact zT (.inr V) zX0 V (.of_eq (by rw [zJ2 3]; congr 1; symm; first | (rw [show fitsF 3 _ = false by simpa using h10]; rfl) | (rw [show risesF s = false by simpa using h16]; simp; done) | (rw [s40f]; simp; done))) (.bool _) Vv
    ·
     have s40t := decide_eq_true (by rw [zC] at h21; simp at h21; omega : s.length ≤ 40)
     have hfit : fitsF 3 (.mk n m s c w) = true := by simpa using h10
     have hris : risesF s = true := by simpa using h16
     refine zY <| zB <| zB <| qR V <| qF V V V zC2 <| qL V V V V ta3 V <| qN <| zB0 <| zB <| qR V <| qC V V V V V <| qA V V V <| qN <| zQ V (V) <| zB <| qR V <| qC V V V V V <| qA V V V <| qN <| zQ V (V) <| zB <| qR V <| qC V V V V V ?_
     refine qA V V V <| qN <| zQ V (V) <| zB <| qR V <| qC V V V V V <| qA V V V <| qN <| zQ V (V) <| zY <| zB <| qR V <| qA V V V <| qN <| zL ?_
     exact zT (.inr V) zX0 V (.of_eq (by rw [zJ2 3]; rw [hfit, hris, s40t]; simp only [Bool.true_and, isRL, List.headD_cons, List.tail_cons]; rfl)) (.bool _) Vv
 ·
  obtain ⟨⟨k1, i1⟩, rfl⟩ := zX2 hd.1 (by decide)
  have ih1 := ih (.mk k1 i1) (hd.2 _ (by simp))
  refine zU zC5 V zV5 (zA V) ?_
  refine zB <| qR V <| qB V V V V V <| qB V V V V V <| qA V V V <| qN <| zB <| zB <| qR V <| qL V V V V ta24 V <| qL V V V V ta30 V ?_
  refine qX V V V V co38 (zQ6 4 _ (by omega) n m s c w _) ?_
  refine qO V <| zY0 V V <| qM V V V ?_
  refine zD0 (fun h10 => ?_) (fun h10 => ?_)
  ·
   refine qT V V V V <| qP V V V V <| qM V V V <| qT V V V V <| qP V V V V <| qN <| zA0 V (V) <| zB <| qR V <| qA V V V <| qN <| zL ?_
   exact zT (.inr V) zX0 V (.of_eq (by rw [zJ2 4]; congr 1; symm; first | (rw [show fitsF 4 _ = false by simpa using h10]; rfl) | (rw [show risesF s = false by simpa using h16]; simp; done) | (rw [s40f]; simp; done))) (.bool _) Vv
  ·
   refine qF V V V zU1 <| qL V V V V ta26 V ?_
   refine qX V V V V co39 (zH5 s _) ?_
   refine qO V <| zY0 V V <| qP V V V V <| qM V V V ?_
   refine zD0 (fun h16 => ?_) (fun h16 => ?_)
   ·
    refine qT V V V V <| qP V V V V <| qN <| zA0 V (V) <| zB <| qR V <| qA V V V <| qN <| zL ?_
    exact zT (.inr V) zX0 V (.of_eq (by rw [zJ2 4]; congr 1; symm; first | (rw [show fitsF 4 _ = false by simpa using h10]; rfl) | (rw [show risesF s = false by simpa using h16]; simp; done) | (rw [s40f]; simp; done))) (.bool _) Vv
   ·
    refine qF V V V zU1 <| qL V V V V ta26 V <| qE V V zX V <| qC V V V V V <| qP V V V V <| qN ?_
    refine zK V (fun h21 => ?_) (fun h21 => ?_)
    ·
     have s40f := decide_eq_false (by rw [zC] at h21; simp at h21; omega : ¬ s.length ≤ 40)
     refine zB <| qR V <| qA V V V <| qN <| zL ?_
     exact zT (.inr V) zX0 V (.of_eq (by rw [zJ2 4]; congr 1; symm; first | (rw [show fitsF 4 _ = false by simpa using h10]; rfl) | (rw [show risesF s = false by simpa using h16]; simp; done) | (rw [s40f]; simp; done))) (.bool _) Vv
    ·
     have s40t := decide_eq_true (by rw [zC] at h21; simp at h21; omega : s.length ≤ 40)
     have hfit : fitsF 4 (.mk n m s c w) = true := by simpa using h10
     have hris : risesF s = true := by simpa using h16
     refine zY <| zB <| zB <| qR V <| qF V V V zC2 <| qL V V V V ta3 V <| qN <| zB0 <| zB <| qR V <| qC V V V V V <| qA V V V <| qN <| zA0 V (V) <| zB <| qR V <| qA V V V <| qN <| zB0 ?_
     refine zQ1 (α := Nat) [(2, _), (3, _)] (fun i => [(5, .int .i64 (i : Int))]) (fun i => [.cells (encS (.mk 4 [.mk k1 i1])).cells, .cells (encV (.mk n m s c w)).cells]) (fun i => i ≤ w.length ∧ (w.take i).all (fun x => isRF (.mk k1 i1) x && !noneF (.mk k1 i1) x) = true) (fun i => w.length - i) (0) (.keep V (.keep V (.nil))) (.keep V (.nil)) (⟨by omega, rfl⟩) (V) ?_
     rintro i ⟨hi, hall⟩
     refine zB <| zB <| qR V <| qM V V V <| qF V V V zZ0 <| qL V V V V ta28 V <| qE V V zE V <| qC V V V V V <| qN ?_
     refine zK V (fun h30 => ?_) (fun h30 => ?_)
     ·
      rw [zO] at h30
      have hlt : i < w.length := by simpa using h30
      obtain ⟨⟨n1, m1, s1, c1, w1⟩, hs⟩ : ∃ q, w[i]? = some q := ⟨_, zD hlt⟩
      refine zI2 (t := 28) V fun hlen => ?_
      rw [zO] at hlen
      refine zY <| zB <| zB0 <| zB ?_
      refine zV0 [] [_] mo (by decide) V V V V ?_
      refine dO V V V (zJ V V zR2 Vv) <| dO V V V (zE0 V V V ta22 V Vv) <| dO V V V (zG V zJ0 sz24 (by decide) V V V (show _ = some (encS (.mk k1 i1)) from V) Vv) ?_
      refine dO V V V (zI V V ta24 V Vv) <| dO V V V (zJ V V zZ0 Vv) <| dO V V V (zE0 V V V ta28 V Vv) <| dO V V V (zS V V Vv) <| dO V V V (zG V zE sz30 (by decide) V V V (zN1 hs) Vv) ?_
      refine dO V V V (zI V V ta30 V Vv) <| zV V V (.cons (zC1 V V V co22 (ih1 (.mk n1 m1 s1 c1 w1) (hvs _ (zC0 hs)) _)) .nil) <| dO V V V (zY0 V V Vv) <| dO V V V (zS V V Vv) ?_
      refine zF2 (fun h44 => ?_) (fun h44 => ?_)
      ·
       refine dS V V <| dS V V <| dS V V <| dS V V <| dS V V <| dS V V <| dS V V <| dS V V <| dS V V <| dS V V <| dO V V V (zD1 V V V Vv) <| zK0 <| zA0 V (V) <| zB <| qR V <| qA V V V <| qN <| zL ?_
       exact zT (.inr V) zX0 V (.of_eq (by rw [zJ2 4]; rw [hfit, hris, s40t]; simp only [Bool.true_and, isRL, List.headD_cons, List.tail_cons]; congr 1; symm; show w.all (fun x => isRF (.mk k1 i1) x && !noneF (.mk k1 i1) x) = false; rw [List.all_eq_false]; exact ⟨_, zC0 hs, by simp_all⟩)) (.bool _) Vv
      ·
       refine dO V V V (zJ V V zR2 Vv) <| dO V V V (zE0 V V V ta22 V Vv) <| dO V V V (zG V zJ0 sz24 (by decide) V V V (show _ = some (encS (.mk k1 i1)) from V) Vv) ?_
       refine dO V V V (zI V V ta24 V Vv) <| dO V V V (zJ V V zZ0 Vv) <| dO V V V (zE0 V V V ta28 V Vv) <| dO V V V (zS V V Vv) <| dO V V V (zG V zE sz30 (by decide) V V V (zN1 hs) Vv) ?_
       refine dO V V V (zI V V ta30 V Vv) <| zV V V (.cons (zC1 V V V co40 (rNone_spec (.mk k1 i1) (.mk n1 m1 s1 c1 w1) _)) .nil) <| dO V V V (zD1 V V V Vv) <| zK0 ?_
       refine zK V (fun h55 => ?_) (fun h55 => ?_)
       ·
        refine zB <| qR V <| qA V V V <| qN <| zL ?_
        exact zT (.inr V) zX0 V (.of_eq (by rw [zJ2 4]; rw [hfit, hris, s40t]; simp only [Bool.true_and, isRL, List.headD_cons, List.tail_cons]; congr 1; symm; show w.all (fun x => isRF (.mk k1 i1) x && !noneF (.mk k1 i1) x) = false; rw [List.all_eq_false]; exact ⟨_, zC0 hs, by simp_all⟩)) (.bool _) Vv
       ·
        refine zY <| qR V <| qM V V V <| qO V <| zO0 V V V V <| qA V V V <| qN ?_
        refine ⟨i + 1, by omega, ⟨by omega, ?_⟩, rfl, (.keep V (.keep V (.nil))), (.eq V (zK1 hlt hlen) (.nil))⟩
        rw [List.take_add_one, hs, List.all_append, hall]
        simp_all
     ·
      rw [zO] at h30
      have hge : i = w.length := by simp at h30; omega
      refine zF1 <| zB <| qR V <| qA V V V <| qN <| zL ?_
      exact zT (.inr V) zX0 V (.of_eq (by rw [zJ2 4]; rw [hfit, hris, s40t]; simp only [Bool.true_and, isRL, List.headD_cons, List.tail_cons]; congr 1; symm; show w.all (fun x => isRF (.mk k1 i1) x && !noneF (.mk k1 i1) x) = true; rw [hge, List.take_length] at hall; exact hall)) (.bool _) Vv
 ·
  obtain ⟨⟨k1, i1⟩, ⟨k2, i2⟩, rfl⟩ := zQ5 hd.1
  have ih1 := ih (.mk k1 i1) (hd.2 _ (by simp))
  have ih2 := ih (.mk k2 i2) (hd.2 _ (by simp))
  refine zU zC5 V zV5 (zA V) ?_
  refine zB <| qR V <| qB V V V V V <| qB V V V V V <| qA V V V <| qN <| zB <| zB <| qR V <| qL V V V V ta24 V <| qL V V V V ta30 V ?_
  refine qX V V V V co38 (zQ6 5 _ (by omega) n m s c w _) ?_
  refine qO V <| zY0 V V <| qM V V V ?_
  refine zD0 (fun h10 => ?_) (fun h10 => ?_)
  ·
   refine qT V V V V <| qP V V V V <| qM V V V <| qT V V V V <| qP V V V V <| qN <| zA0 V (V) <| zB <| qR V <| qA V V V <| qN <| zL ?_
   exact zT (.inr V) zX0 V (.of_eq (by rw [zJ2 5]; congr 1; symm; first | (rw [show fitsF 5 _ = false by simpa using h10]; rfl) | (rw [show risesF s = false by simpa using h16]; simp; done) | (rw [s40f]; simp; done))) (.bool _) Vv
  ·
   refine qF V V V zU1 <| qL V V V V ta26 V ?_
   refine qX V V V V co39 (zH5 s _) ?_
   refine qO V <| zY0 V V <| qP V V V V <| qM V V V ?_
   refine zD0 (fun h16 => ?_) (fun h16 => ?_)
   ·
    refine qT V V V V <| qP V V V V <| qN <| zA0 V (V) <| zB <| qR V <| qA V V V <| qN <| zL ?_
    exact zT (.inr V) zX0 V (.of_eq (by rw [zJ2 5]; congr 1; symm; first | (rw [show fitsF 5 _ = false by simpa using h10]; rfl) | (rw [show risesF s = false by simpa using h16]; simp; done) | (rw [s40f]; simp; done))) (.bool _) Vv
   ·
    refine qF V V V zU1 <| qL V V V V ta26 V <| qE V V zX V <| qC V V V V V <| qP V V V V <| qN ?_
    refine zK V (fun h21 => ?_) (fun h21 => ?_)
    ·
     have s40f := decide_eq_false (by rw [zC] at h21; simp at h21; omega : ¬ s.length ≤ 40)
     refine zB <| qR V <| qA V V V <| qN <| zL ?_
     exact zT (.inr V) zX0 V (.of_eq (by rw [zJ2 5]; congr 1; symm; first | (rw [show fitsF 5 _ = false by simpa using h10]; rfl) | (rw [show risesF s = false by simpa using h16]; simp; done) | (rw [s40f]; simp; done))) (.bool _) Vv
    ·
     have s40t := decide_eq_true (by rw [zC] at h21; simp at h21; omega : s.length ≤ 40)
     have hfit : fitsF 5 (.mk n m s c w) = true := by simpa using h10
     have hris : risesF s = true := by simpa using h16
     refine zY <| zB <| zB <| qR V <| qF V V V zC2 <| qL V V V V ta3 V <| qN <| zB0 <| zB <| qR V <| qC V V V V V <| qA V V V <| qN <| zQ V (V) <| zB <| qR V <| qC V V V V V <| qA V V V <| qN <| zA0 V (V) <| zB ?_
     obtain ⟨⟨n1, m1, s1, c1, w1⟩, ⟨n2, m2, s2, c2, w2⟩, rfl⟩ := two_of' (fits5 hfit)
     refine zV0 [] [_] mo (by decide) V V V V ?_
     refine dO V V V (zJ V V zR2 Vv) <| dO V V V (zE0 V V V ta22 V Vv) <| dO V V V (zG V zJ0 sz24 (by decide) V V V (show _ = some (encS (.mk k1 i1)) from V) Vv) ?_
     refine dO V V V (zI V V ta24 V Vv) <| dO V V V (zJ V V zZ0 Vv) <| dO V V V (zE0 V V V ta28 V Vv) <| dO V V V (zG V zE sz30 (by decide) V V V (show _ = some (encV (.mk n1 m1 s1 c1 w1)) from V) Vv) ?_
     refine dO V V V (zI V V ta30 V Vv) <| zV V V (.cons (zC1 V V V co22 (ih1 (.mk n1 m1 s1 c1 w1) (hvs _ (by simp)) _)) .nil) ?_
     refine dO V V V (zS V V Vv) ?_
     refine zF2 (fun h67 => ?_) (fun h67 => ?_)
     ·
      refine dO V V V (zJ V V zR2 Vv) <| dO V V V (zE0 V V V ta22 V Vv) <| dO V V V (zG V zJ0 sz24 (by decide) V V V (show _ = some (encS (.mk k2 i2)) from V) Vv) ?_
      refine dO V V V (zI V V ta24 V Vv) <| dO V V V (zJ V V zZ0 Vv) <| dO V V V (zE0 V V V ta28 V Vv) <| dO V V V (zG V zE sz30 (by decide) V V V (show _ = some (encV (.mk n2 m2 s2 c2 w2)) from V) Vv) ?_
      refine dO V V V (zI V V ta30 V Vv) <| zV V V (.cons (zC1 V V V co22 (ih2 (.mk n2 m2 s2 c2 w2) (hvs _ (by simp)) _)) .nil) ?_
      refine dO V V V (zD1 V V V Vv) <| dO V V V (zB1 V V Vv) <| zK0 <| zL ?_
      exact zT (.inr V) zX0 V (.of_eq (by rw [zJ2 5]; rw [hfit, hris, s40t]; simp only [Bool.true_and, isRL, List.headD_cons, List.tail_cons]; congr 1; rw [zF]; simp_all)) (.bool _) Vv
     ·
      refine dS V V <| dS V V <| dS V V <| dS V V <| dS V V <| dS V V <| dS V V <| dS V V <| dS V V <| dO V V V (zD1 V V V Vv) <| dO V V V (zB1 V V Vv) <| zK0 <| zL ?_
      exact zT (.inr V) zX0 V (.of_eq (by rw [zJ2 5]; rw [hfit, hris, s40t]; simp only [Bool.true_and, isRL, List.headD_cons, List.tail_cons]; congr 1; rw [zF]; simp_all)) (.bool _) Vv
 ·
  refine zU zC5 V zV5 (zA V) ?_
  refine zB <| qR V <| qB V V V V V <| qB V V V V V <| qA V V V <| qN <| zB <| zB <| qR V <| qL V V V V ta24 V <| qL V V V V ta30 V ?_
  refine qX V V V V co38 (zQ6 6 _ (by omega) n m s c w _) ?_
  refine qO V <| zY0 V V <| qM V V V ?_
  refine zD0 (fun h10 => ?_) (fun h10 => ?_)
  ·
   refine qT V V V V <| qP V V V V <| qM V V V <| qT V V V V <| qP V V V V <| qN <| zA0 V (V) <| zB <| qR V <| qA V V V <| qN <| zL ?_
   exact zT (.inr V) zX0 V (.of_eq (by rw [zJ2 6]; congr 1; symm; first | (rw [show fitsF 6 _ = false by simpa using h10]; rfl) | (rw [show risesF s = false by simpa using h16]; simp; done) | (rw [s40f]; simp; done))) (.bool _) Vv
  ·
   refine qF V V V zU1 <| qL V V V V ta26 V ?_
   refine qX V V V V co39 (zH5 s _) ?_
   refine qO V <| zY0 V V <| qP V V V V <| qM V V V ?_
   refine zD0 (fun h16 => ?_) (fun h16 => ?_)
   ·
    refine qT V V V V <| qP V V V V <| qN <| zA0 V (V) <| zB <| qR V <| qA V V V <| qN <| zL ?_
    exact zT (.inr V) zX0 V (.of_eq (by rw [zJ2 6]; congr 1; symm; first | (rw [show fitsF 6 _ = false by simpa using h10]; rfl) | (rw [show risesF s = false by simpa using h16]; simp; done) | (rw [s40f]; simp; done))) (.bool _) Vv
   ·
    refine qF V V V zU1 <| qL V V V V ta26 V <| qE V V zX V <| qC V V V V V <| qP V V V V <| qN ?_
    refine zK V (fun h21 => ?_) (fun h21 => ?_)
    ·
     have s40f := decide_eq_false (by rw [zC] at h21; simp at h21; omega : ¬ s.length ≤ 40)
     refine zB <| qR V <| qA V V V <| qN <| zL ?_
     exact zT (.inr V) zX0 V (.of_eq (by rw [zJ2 6]; congr 1; symm; first | (rw [show fitsF 6 _ = false by simpa using h10]; rfl) | (rw [show risesF s = false by simpa using h16]; simp; done) | (rw [s40f]; simp; done))) (.bool _) Vv
    ·
     have s40t := decide_eq_true (by rw [zC] at h21; simp at h21; omega : s.length ≤ 40)
     have hfit : fitsF 6 (.mk n m s c w) = true := by simpa using h10
     have hris : risesF s = true := by simpa using h16
     refine zY <| zB <| zB <| qR V <| qF V V V zC2 <| qL V V V V ta3 V <| qN <| zB0 <| zB <| qR V <| qC V V V V V <| qA V V V <| qN <| zQ V (V) <| zB <| qR V <| qC V V V V V <| qA V V V <| qN <| zQ V (V) <| zB <| qR V <| qC V V V V V ?_
     refine qA V V V <| qN <| zQ V (V) <| zB <| qR V <| qC V V V V V <| qA V V V <| qN <| zQ V (V) <| zY <| zB <| qR V <| qA V V V <| qN <| zL ?_
     exact zT (.inr V) zX0 V (.of_eq (by rw [zJ2 6]; rw [hfit, hris, s40t]; simp only [Bool.true_and, isRL, List.headD_cons, List.tail_cons]; rfl)) (.bool _) Vv
 ·
  refine zU zC5 V zV5 (zA V) ?_
  refine zB <| qR V <| qB V V V V V <| qB V V V V V <| qA V V V <| qN <| zB <| zB <| qR V <| qL V V V V ta24 V <| qL V V V V ta30 V ?_
  refine qX V V V V co38 (zQ6 7 _ (by omega) n m s c w _) ?_
  refine qO V <| zY0 V V <| qM V V V ?_
  refine zD0 (fun h10 => ?_) (fun h10 => ?_)
  ·
   refine qT V V V V <| qP V V V V <| qM V V V <| qT V V V V <| qP V V V V <| qN <| zA0 V (V) <| zB <| qR V <| qA V V V <| qN <| zL ?_
   exact zT (.inr V) zX0 V (.of_eq (by rw [zJ2 7]; congr 1; symm; first | (rw [show fitsF 7 _ = false by simpa using h10]; rfl) | (rw [show risesF s = false by simpa using h16]; simp; done) | (rw [s40f]; simp; done))) (.bool _) Vv
  ·
   refine qF V V V zU1 <| qL V V V V ta26 V ?_
   refine qX V V V V co39 (zH5 s _) ?_
   refine qO V <| zY0 V V <| qP V V V V <| qM V V V ?_
   refine zD0 (fun h16 => ?_) (fun h16 => ?_)
   ·
    refine qT V V V V <| qP V V V V <| qN <| zA0 V (V) <| zB <| qR V <| qA V V V <| qN <| zL ?_
    exact zT (.inr V) zX0 V (.of_eq (by rw [zJ2 7]; congr 1; symm; first | (rw [show fitsF 7 _ = false by simpa using h10]; rfl) | (rw [show risesF s = false by simpa using h16]; simp; done) | (rw [s40f]; simp; done))) (.bool _) Vv
   ·
    refine qF V V V zU1 <| qL V V V V ta26 V <| qE V V zX V <| qC V V V V V <| qP V V V V <| qN ?_
    refine zK V (fun h21 => ?_) (fun h21 => ?_)
    ·
     have s40f := decide_eq_false (by rw [zC] at h21; simp at h21; omega : ¬ s.length ≤ 40)
     refine zB <| qR V <| qA V V V <| qN <| zL ?_
     exact zT (.inr V) zX0 V (.of_eq (by rw [zJ2 7]; congr 1; symm; first | (rw [show fitsF 7 _ = false by simpa using h10]; rfl) | (rw [show risesF s = false by simpa using h16]; simp; done) | (rw [s40f]; simp; done))) (.bool _) Vv
    ·
     have s40t := decide_eq_true (by rw [zC] at h21; simp at h21; omega : s.length ≤ 40)
     have hfit : fitsF 7 (.mk n m s c w) = true := by simpa using h10
     have hris : risesF s = true := by simpa using h16
     refine zY <| zB <| zB <| qR V <| qF V V V zC2 <| qL V V V V ta3 V <| qN <| zB0 <| zB <| qR V <| qC V V V V V <| qA V V V <| qN <| zQ V (V) <| zB <| qR V <| qC V V V V V <| qA V V V <| qN <| zQ V (V) <| zB <| qR V <| qC V V V V V ?_
     refine qA V V V <| qN <| zA0 V (V) <| zB <| qR V <| qF V V V zM1 <| qL V V V V ta27 V <| qE V V zN V <| qC V V V V V <| qM V V V ?_
     refine zD0 (fun h84 => ?_) (fun h84 => ?_)
     ·
      have hc0 : c = [] := by simpa using h84
      subst hc0
      refine qT V V V V <| qT V V V V <| qT V V V V <| qS V <| qP V V V V <| qA V V V <| qN <| zL ?_
      exact zT (.inr V) zX0 V (.of_eq (by rw [zJ2 7]; rw [hfit, hris, s40t]; simp only [Bool.true_and, isRL, List.headD_cons, List.tail_cons]; first | rfl | (congr 1; rw [zF]; simp_all))) (.bool _) Vv
     ·
      obtain ⟨c0, rfl⟩ := one_of (by have := fits7 hfit; rw [zC] at h84; simp at h84; have : c.length ≠ 0 := fun e => h84 (List.length_eq_zero_iff.1 e); omega : c.length = 1)
      refine qF V V V zM1 <| qL V V V V ta27 V <| qO V <| zG V zN sz55 (by decide) V V V (show _ = some (encC c0) from V) ?_
      refine qO V <| zI V V ta55 V ?_
      refine qX V V V V co41 (rIsClock_spec c0 _) ?_
      refine qM V V V ?_
      refine zD0 (fun h90 => ?_) (fun h90 => ?_)
      ·
       refine qF V V V zM1 <| qL V V V V ta27 V <| qO V <| zG V zN sz55 (by decide) V V V (show _ = some (encC c0) from V) ?_
       refine qO V <| zI V V ta55 V <| qE V V zP V <| qC V V V V V <| qP V V V V <| qP V V V V <| qA V V V <| qN <| zL ?_
       exact zT (.inr V) zX0 V (.of_eq (by rw [zJ2 7]; rw [hfit, hris, s40t]; simp only [Bool.true_and, isRL, List.headD_cons, List.tail_cons]; first | rfl | (congr 1; rw [zF]; simp_all))) (.bool _) Vv
      ·
       refine qT V V V V <| qS V <| qS V <| qP V V V V <| qP V V V V <| qA V V V <| qN <| zL ?_
       exact zT (.inr V) zX0 V (.of_eq (by rw [zJ2 7]; rw [hfit, hris, s40t]; simp only [Bool.true_and, isRL, List.headD_cons, List.tail_cons]; first | rfl | (congr 1; rw [zF]; simp_all))) (.bool _) Vv
 ·
  obtain ⟨⟨k1, i1⟩, rfl⟩ := zX2 hd.1 (by decide)
  have ih1 := ih (.mk k1 i1) (hd.2 _ (by simp))
  refine zU zC5 V zV5 (zA V) ?_
  refine zB <| qR V <| qB V V V V V <| qB V V V V V <| qA V V V <| qN <| zB <| zB <| qR V <| qL V V V V ta24 V <| qL V V V V ta30 V ?_
  refine qX V V V V co38 (zQ6 8 _ (by omega) n m s c w _) ?_
  refine qO V <| zY0 V V <| qM V V V ?_
  refine zD0 (fun h10 => ?_) (fun h10 => ?_)
  ·
   refine qT V V V V <| qP V V V V <| qM V V V <| qT V V V V <| qP V V V V <| qN <| zA0 V (V) <| zB <| qR V <| qA V V V <| qN <| zL ?_
   exact zT (.inr V) zX0 V (.of_eq (by rw [zJ2 8]; congr 1; symm; first | (rw [show fitsF 8 _ = false by simpa using h10]; rfl) | (rw [show risesF s = false by simpa using h16]; simp; done) | (rw [s40f]; simp; done))) (.bool _) Vv
  ·
   refine qF V V V zU1 <| qL V V V V ta26 V ?_
   refine qX V V V V co39 (zH5 s _) ?_
   refine qO V <| zY0 V V <| qP V V V V <| qM V V V ?_
   refine zD0 (fun h16 => ?_) (fun h16 => ?_)
   ·
    refine qT V V V V <| qP V V V V <| qN <| zA0 V (V) <| zB <| qR V <| qA V V V <| qN <| zL ?_
    exact zT (.inr V) zX0 V (.of_eq (by rw [zJ2 8]; congr 1; symm; first | (rw [show fitsF 8 _ = false by simpa using h10]; rfl) | (rw [show risesF s = false by simpa using h16]; simp; done) | (rw [s40f]; simp; done))) (.bool _) Vv
   ·
    refine qF V V V zU1 <| qL V V V V ta26 V <| qE V V zX V <| qC V V V V V <| qP V V V V <| qN ?_
    refine zK V (fun h21 => ?_) (fun h21 => ?_)
    ·
     have s40f := decide_eq_false (by rw [zC] at h21; simp at h21; omega : ¬ s.length ≤ 40)
     refine zB <| qR V <| qA V V V <| qN <| zL ?_
     exact zT (.inr V) zX0 V (.of_eq (by rw [zJ2 8]; congr 1; symm; first | (rw [show fitsF 8 _ = false by simpa using h10]; rfl) | (rw [show risesF s = false by simpa using h16]; simp; done) | (rw [s40f]; simp; done))) (.bool _) Vv
    ·
     have s40t := decide_eq_true (by rw [zC] at h21; simp at h21; omega : s.length ≤ 40)
     have hfit : fitsF 8 (.mk n m s c w) = true := by simpa using h10
     have hris : risesF s = true := by simpa using h16
     refine zY <| zB <| zB <| qR V <| qF V V V zC2 <| qL V V V V ta3 V <| qN <| zB0 <| zB <| qR V <| qC V V V V V <| qA V V V <| qN <| zQ V (V) <| zB <| qR V <| qC V V V V V <| qA V V V <| qN <| zQ V (V) <| zB <| qR V <| qC V V V V V ?_
     refine qA V V V <| qN <| zQ V (V) <| zB <| qR V <| qC V V V V V <| qA V V V <| qN <| zA0 V (V) <| zB <| qR V <| qL V V V V ta24 V <| qL V V V V ta30 V ?_
     refine qX V V V V co42 (sibs_spec 8 k1 i1 [] (isRF (.mk k1 i1)) ih1 n m s c w (fits8 hfit) hv.2.2.1 hvs _) ?_
     refine qA V V V <| qN <| zL ?_
     exact zT (.inr V) zX0 V (.of_eq (by rw [zJ2 8]; rw [hfit, hris, s40t]; simp only [Bool.true_and, isRL, List.headD_cons, List.tail_cons]; rfl)) (.bool _) Vv
theorem rValIs_spec (s : Sch) (x : Val) (hx : okV x) (S : MS) : MCalls Tryz.prog 9 [encS s, encV x] S fun v σ' => v = .bool (isF 16 s && isVF s x) ∧ σ' = S := by
 obtain ⟨k, ins⟩ := s
 obtain ⟨n, m, s, c, w⟩ := x
 refine zU Tryz.func9 V Tryz.ntmps9 (zA V) ?_
 refine zB <| qR V <| qB V V V V V <| qB V V V V V <| qA V V V <| qN <| zB <| qR V <| qL V V V V ta24 V ?_
 refine qX V V V V co21 (rIsSchema_spec (.mk k ins) _) ?_
 refine qM V V V ?_
 refine zD0 (fun h7 => ?_) (fun h7 => ?_)
 ·
  refine qL V V V V ta24 V <| qL V V V V ta30 V ?_
  refine qX V V V V co22 (isR_spec 16 (.mk k ins) h7 (.mk n m s c w) hx _) ?_
  refine qP V V V V <| qA V V V <| qN <| zL ?_
  exact zT (.inr V) Tryz.results9 V (.of_eq (by simp_all [isVF_eq 16 (.mk k ins)])) (.bool _) Vv
 ·
  refine qS V <| qS V <| qS V <| qP V V V V <| qA V V V <| qN <| zL ?_
  exact zT (.inr V) Tryz.results9 V (.of_eq (by simp_all [isVF_eq 16 (.mk k ins)])) (.bool _) Vv
def vA : Val := .mk 0 0 [[97]] [] []
theorem bottom_is : ∀ (d : Nat) (s : Sch), isF d s = true → isVF s (bottomF s) = true ∧ okV (bottomF s)
 | 0, s, h => by simp [isF] at h
 | d + 1, .mk k ins, h => by
  rw [isF] at h
  simp only [Bool.and_eq_true, List.all_eq_true, beq_iff_eq] at h
  by_cases h5 : k = 5
  ·subst h5
   obtain ⟨a, b, rfl⟩ := zQ5 h.1
   obtain ⟨h1, h2⟩ := bottom_is d a (h.2 a (by simp))
   obtain ⟨h3, h4⟩ := bottom_is d b (h.2 b (by simp))
   rw [bottomF, if_pos rfl, bottomL, bottomL, bottomL]
   refine ⟨?_, ?_⟩
   ·rw [zW0 5]
    simp [isVL, h1, h3, bareF, numsK, textsK, clocksK, valuesK, Val.nv, Val.mv, Val.sv, Val.cv, Val.vv]
   ·simp [okV, okVs, h2, h4]
  ·rw [bottomF, if_neg h5]
   refine ⟨?_, by simp [noV, okV, okVs]⟩
   have hk := k8_of h.1
   unfold noV
   rw [zW0 k]
   rcases hk with rfl | rfl | rfl | rfl | rfl | rfl | rfl | rfl
   ·rfl
   ·rfl
   ·rfl
   ·simp [bareF, numsK, textsK, clocksK, valuesK, Val.nv, Val.mv, Val.sv, Val.cv, Val.vv, isRowF, risesF, shortF]
   ·exact absurd rfl h5
   ·rfl
   ·rfl
   ·simp [bareF, numsK, textsK, clocksK, valuesK, Val.nv, Val.mv, Val.sv, Val.cv, Val.vv, isCauseF, pairsF]
theorem join_err {s : Sch} {a b : Val} (h : ¬ ((isF 16 s && isVF s a) = true ∧ (isF 16 s && isVF s b) = true)) : joinVF s a b = .error 14 := by unfold joinVF; rw [if_neg h]
theorem join_both {s : Sch} {a b : Val} (ha : (isF 16 s && isVF s a) = true) (hb : (isF 16 s && isVF s b) = true) : encJ (joinVF s a b) = encO (bothF s a b) := by
 unfold joinVF
 rw [if_pos ⟨ha, hb⟩]
 cases bothF s a b <;> rfl
theorem okV_no : okV noV := by simp [okV, okVs, noV]
theorem okV_join {s : Sch} {a b v : Val} (ha : okV a) (hb : okV b) (h : joinVF s a b = .ok v) : okV v := by
 unfold joinVF at h
 split at h
 ·rename_i hh
  rw [Bool.and_eq_true] at hh
  cases hO : bothF s a b with
  | none => rw [hO] at h; cases h
  | some u => rw [hO] at h; injection h with h; subst h; exact okV_both 16 s hh.1.1 a b u ha hb hO
 ·cases h
noncomputable def accA (s : Sch) (b : Val) (l : List Val) : Nat → Val
 | 0 => b
 | j + 1 => match joinVF s (accA s b l j) (l.getD j noV) with | .ok v => v | .error _ => noV
noncomputable def okA (s : Sch) (b : Val) (l : List Val) (j : Nat) : Bool := match joinVF s (accA s b l j) (l.getD j noV) with | .ok _ => true | .error _ => false
noncomputable def errA (s : Sch) (b : Val) (l : List Val) (j : Nat) : Int := match joinVF s (accA s b l j) (l.getD j noV) with | .ok _ => 0 | .error e => e
noncomputable def allGo (s : Sch) : Val → List Val → Except Int Val
 | acc, [] => .ok acc
 | acc, x :: l => match joinVF s acc x with | .ok v => allGo s v l | .error e => .error e
noncomputable def AllF (s : Sch) (l : List Val) : Except Int Val := if isF 16 s then allGo s (BottomF s) l else .error 14
theorem getD_at {l : List Val} {j : Nat} {x : Val} (h : l[j]? = some x) : l.getD j noV = x := by simp [h]
theorem okA_iff {s : Sch} {b : Val} {l : List Val} {j : Nat} {x : Val} (hx : l[j]? = some x) (h : okA s b l j = true) : joinVF s (accA s b l j) x = .ok (accA s b l (j + 1)) := by
 rw [okA, getD_at hx] at h
 rw [accA, getD_at hx]
 cases hj : joinVF s (accA s b l j) x with
 | ok v => rfl
 | error e => rw [hj] at h; cases h
theorem all_at {s : Sch} {b : Val} {l : List Val} : ∀ {j : Nat}, j ≤ l.length → (∀ i, i < j → okA s b l i = true) → allGo s b l = allGo s (accA s b l j) (l.drop j)
 | 0, _, _ => rfl
 | j + 1, hj, h => by
  obtain ⟨x, hx⟩ : ∃ x, l[j]? = some x := ⟨_, zD (by omega)⟩
  rw [all_at (j := j) (by omega) fun i hi => h i (by omega), zT4 hx, allGo, okA_iff hx (h j (by omega))]
theorem all_ok {s : Sch} {b : Val} {l : List Val} (h : ∀ i, i < l.length → okA s b l i = true) : allGo s b l = .ok (accA s b l l.length) := by
 rw [all_at (Nat.le_refl _) h, List.drop_length]; rfl
theorem first_no (p : Nat → Bool) : ∀ n, p n = false → ∃ m, m ≤ n ∧ p m = false ∧ ∀ i, i < m → p i = true
 | 0, h => ⟨0, Nat.le_refl _, h, fun i hi => by omega⟩
 | n + 1, h => by
  by_cases hq : ∀ i, i < n + 1 → p i = true
  ·exact ⟨n + 1, Nat.le_refl _, h, hq⟩
  ·obtain ⟨i, hi, hp⟩ : ∃ i, i < n + 1 ∧ p i = false := by
    rcases Classical.not_forall.1 hq with ⟨i, hq⟩
    exact ⟨i, Classical.not_imp.1 hq |>.1, by simpa using (Classical.not_imp.1 hq).2⟩
   obtain ⟨m, h1, h2, h3⟩ := first_no p i hp
   exact ⟨m, by omega, h2, h3⟩
theorem all_bad {s : Sch} {b : Val} {l : List Val} {j : Nat} {x : Val} (hx : l[j]? = some x) (hb : ∀ i, i < j → okA s b l i = true) (h : okA s b l j = false) : allGo s b l = .error (errA s b l j) := by
 have hj := (zH.1 hx).1
 rw [all_at (j := j) (by omega) hb, zT4 hx, allGo, errA, getD_at hx]
 rw [okA, getD_at hx] at h
 cases hq : joinVF s (accA s b l j) x with
 | ok v => rw [hq] at h; cases h
 | error e => rfl
noncomputable def errF (s : Sch) (b : Val) (l : List Val) : Int := match allGo s b l with | .ok _ => 0 | .error e => e
theorem errF_eq {s : Sch} {b : Val} {l : List Val} {j : Nat} {x : Val} (hx : l[j]? = some x) (hb : ∀ i, i < j → okA s b l i = true) (h : okA s b l j = false) : errF s b l = errA s b l j := by rw [errF, all_bad hx hb h]
theorem all_badF {s : Sch} {b : Val} {l : List Val} {j : Nat} {x : Val} (hx : l[j]? = some x) (h : okA s b l j = false) : allGo s b l = .error (errF s b l) := by
 obtain ⟨m, hm, hp, hbm⟩ := first_no _ j h
 have hj := (zH.1 hx).1
 obtain ⟨y, hy⟩ : ∃ y, l[m]? = some y := ⟨_, zD (by omega)⟩
 rw [errF, all_bad hy hbm hp]
theorem accA_ok {s : Sch} {b : Val} {l : List Val} (hb : okV b) (hl : ∀ x ∈ l, okV x) : ∀ j, j ≤ l.length → (∀ i, i < j → okA s b l i = true) → okV (accA s b l j)
 | 0, _, _ => hb
 | j + 1, hj, h => by
  obtain ⟨x, hx⟩ : ∃ x, l[j]? = some x := ⟨_, zD (by omega)⟩
  exact okV_join (accA_ok hb hl j (by omega) fun i hi => h i (by omega)) (hl x (zC0 hx)) (okA_iff hx (h j (by omega)))
theorem get_box4 {A R : MS} {a b c d a' b' c' d' e : MObj} : ((A ++ [a, b, c, d, e]) ++ R)[(A ++ [a', b', c', d']).length]? = some e := by rw [zM, zZ, getElem?_own]; rfl
theorem okV_bottom (s : Sch) : okV (BottomF s) := by
 unfold BottomF
 split
 ·rename_i h; exact (bottom_is 16 s h).2
 ·exact okV_no
theorem all_cl {s : Sch} {v : Val} {l : List Val} {e : MV} {o : MObj} {d : Nat} (he : Cl d e) (ho : o ∈ [MObj.cells (encS s).cells, .cells [.int .u64 0, .int .u64 0, .lst0, .lst0, .lst0], .cells [e], .cells (encV v).cells, .cells [.lst none 5 (encVs l)]]) : o.cl d := by
 simp only [List.mem_cons, List.not_mem_nil, or_false] at ho
 rcases ho with rfl | rfl | rfl | rfl | rfl
 ·exact clo_S _ _
 ·exact clo_Z _
 ·exact clo_1 he
 ·exact clo_V _ _
 ·exact clo_1 (cl_encVl _ _)
end Go.Proofs.YtnfcnpdpfgcchaaGreat
namespace Go.Proofs.YtnfcnpdpfgcchaaGreat
open Go Go.MV Go.RowKit Go.Extern.Stop Go.Extern
theorem tT (v : Value) (w : World) : (Extern.ReflectliteType.typeOf #[.iface 58 v]).run Tryz.prog w = .ok (.iface 94 (.agg #[.pointer (some ⟨Tryz.prog.globals.size, 58, none⟩)])) w := by kernel_rfl
theorem cT (w : World) : ((Extern.ReflectliteType.method fun t => do Extern.Rtype.noPackHeld "Comparable" t; pure (.bool (← typeInfo t).comparable)) #[.agg #[.pointer (some ⟨Tryz.prog.globals.size, 58, none⟩)]]).run Tryz.prog w = .ok (.bool true) w := by kernel_rfl
theorem mR (v : Value) (w : World) : (Go.method 300 94 v "Comparable").run Tryz.prog w = .ok (166, v) w := by kernel_rfl
theorem errComp : (Tryz.prog.info? 58).map (·.comparable) = some true := by kernel_rfl
theorem _root_.zG1 : type_of% @Tryz.underlying34 := @Tryz.underlying34
theorem _root_.zH2 : type_of% @Tryz.underlying58 := @Tryz.underlying58
theorem eqErr (n : Int) (w : World) : (binOp .eql 34 (.iface 58 (.int .i64 n)) (.iface 58 (.int .i64 n))).run Tryz.prog w = .ok (.bool true) w := by
 obtain ⟨i, hi, hcmp⟩ := Option.map_eq_some_iff.1 errComp
 have h : ∀ d : Nat, (Op.equalIn (d + 2) 34 (.iface 58 (.int .i64 n)) (.iface 58 (.int .i64 n))).run Tryz.prog w = .ok true w := fun d => by
  simp [Op.equalIn, run_underlying zG1, run_underlying zH2, typeInfo, hi, hcmp]
 simp only [binOp]
 simp [Op.equal, Op.maxDepth, h 9998]
theorem nilErr (v : Value) (w : World) : (binOp .eql 34 (.iface 58 v) .nilIface).run Tryz.prog w = .ok (.bool false) w := by
 have h : ∀ d : Nat, (Op.equalIn (d + 1) 34 (.iface 58 v) .nilIface).run Tryz.prog w = .ok false w := fun d => by simp [Op.equalIn, run_underlying zG1]
 simp only [binOp]
 simp [Op.equal, Op.maxDepth, h 9999]
theorem isSame (n : Int) (w : World) : Calls Tryz.prog 20 #[.iface 58 (.int .i64 n), .iface 58 (.int .i64 n)] w fun e w' => e = .returned (.bool true) ∧ w' = w := by
 have h8 := @run_callFunc_extern Tryz.prog 35 _ Extern.ReflectliteType.typeOf Tryz.func35 (by kernel_rfl) (by kernel_rfl) (by kernel_rfl) (by kernel_rfl)
 have h32 := @run_callFunc_extern Tryz.prog 166 _ (Extern.ReflectliteType.method fun t => do Extern.Rtype.noPackHeld "Comparable" t; pure (.bool (← typeInfo t).comparable)) Tryz.func166 (by kernel_rfl) (by kernel_rfl) (by kernel_rfl) (by kernel_rfl)
 obtain ⟨H, hT, hC⟩ : ∃ H : Value, (∀ (v : Value) (w : World), (callFunc 35 #[.iface 58 v]).run Tryz.prog w = .ok (.value (.iface 94 H)) w) ∧ (∀ w : World, (callFunc 166 #[H]).run Tryz.prog w = .ok (.value (.bool true)) w) := ⟨_, fun v w => by rw [h8, tT]; rfl, fun w => by rw [h32, cT]; rfl⟩
 clear h8 h32
 have mR := mR
 have heq := eqErr n w
 have hnil := nilErr (.int .i64 n) w
 go_enter Tryz.func20, Tryz.ntmps20
 go_wp2
 refine wp_loop_rounds 1 ?_
 rw [rounds_succ]
 go_wp2
 go_ret
 exact ⟨rfl, rfl⟩
theorem errIs_spec (n : Int) (S : MS) : MCalls Tryz.prog 20 [.iface 58 (.int .i64 n), .iface 58 (.int .i64 n)] S fun v σ' => v = .bool true ∧ σ' = S := by
 intro g w vs hrel hrd
 obtain ⟨u, us, rfl, h1, h2⟩ := hrd.uncons
 obtain ⟨u2, us2, rfl, h3, h4⟩ := h2.uncons
 obtain ⟨a, rfl, ha⟩ := h1.inv_iface
 obtain ⟨b, rfl, hb⟩ := h3.inv_iface
 have e1 := ha.inv_int
 have e2 := hb.inv_int
 have e3 : us2 = [] := List.eq_nil_of_length_eq_zero h4.1
 subst e1 e2 e3
 refine (callsIn_wide.2 (isSame n w)).mono ?_
 rintro e w' ⟨rfl, rfl⟩
 exact ⟨_, rfl, .bool true, S, g, ⟨rfl, rfl⟩, hrel, .bool _, .refl _ _⟩
end Go.Proofs.YtnfcnpdpfgcchaaGreat
namespace Go.MV
open Go Go.RowKit
section
section
variable {P : Program} {rd : Option Nat} {o : Oper} {env : Env} {σ : MS} {K : MV → MS → Prop}
theorem op_ifint {b : BinOp} {r : Bool} {t e t' : TypeId} {x y : Operand} {k k' : IntKind} {m n : Int} {ms : Array (String × TypeId)} (ho : o.op = .binOp b t x y t') (hu : P.underlying t = some (.interface ms)) (hc : (P.info? e).map (·.comparable) = some true) (he : P.underlying e = some (.int k'))
  (hx : evo env x = some (.iface e (.int k m))) (hy : evo env y = some (.iface e (.int k n))) (hb : b = .eql ∧ r = (m == n) ∨ b = .neq ∧ r = !(m == n)) (h : K (.bool r) σ) : OpWp P rd o env σ K := by
 refine OpWp.of_run (by rcases hb with ⟨rfl, _⟩ | ⟨rfl, _⟩ <;> simp [ho]) fun g w a hr hop => ?_
 obtain ⟨u, e1, h1⟩ := (hop x (by simp [ho, Op.operands]) _ hx).inv_iface
 obtain ⟨u2, e2, h2⟩ := (hop y (by simp [ho, Op.operands]) _ hy).inv_iface
 have h1 := h1.inv_int
 have h2 := h2.inv_int
 subst h1 h2
 refine ⟨.bool r, w, ?_, .same h hr (.bool _)⟩
 obtain ⟨i, hi, hcmp⟩ := Option.map_eq_some_iff.1 hc
 have h9 : ∀ d : Nat, (Op.equalIn (d + 2) t (.iface e (.int k m)) (.iface e (.int k n))).run P w = .ok (m == n) w := fun d => by
  simp [Op.equalIn, run_underlying hu, run_underlying he, typeInfo, hi, hcmp]
 rcases hb with ⟨rfl, rfl⟩ | ⟨rfl, rfl⟩ <;> (simp only [execOp, ho, e1, e2, Sem.run_bind, Sem.run_pure]; simp [eqGuard, binOp, Op.equal, Op.maxDepth, h9 9998])
theorem op_nilif {b : BinOp} {r : Bool} {t e t' : TypeId} {x y : Operand} {m : MV} {ms : Array (String × TypeId)} (ho : o.op = .binOp b t x y t') (hu : P.underlying t = some (.interface ms)) (hx : evo env x = some .iface0) (hy : evo env y = some (.iface e m)) (hb : b = .eql ∧ r = false ∨ b = .neq ∧ r = true) (h : K (.bool r) σ) : OpWp P rd o env σ K := by
 refine OpWp.of_run (by rcases hb with ⟨rfl, rfl⟩ | Vv <;> simp [ho]) fun g w a hr hop => ?_
 obtain ⟨u, e1, _⟩ := (hop y (by simp [ho, Op.operands]) _ hy).inv_iface
 have e2 := (hop x (by simp [ho, Op.operands]) _ hx).inv_iface0
 refine ⟨.bool r, w, ?_, .same h hr (.bool _)⟩
 have h9 : ∀ d : Nat, (Op.equalIn (d + 1) t .nilIface (.iface e u)).run P w = .ok false w := fun d => by simp [Op.equalIn, run_underlying hu]
 rcases hb with ⟨rfl, rfl⟩ | ⟨rfl, rfl⟩ <;> (simp only [execOp, ho, e1, e2, Sem.run_bind, Sem.run_pure]; simp [eqGuard, binOp, Op.equal, Op.maxDepth, h9 9999])
end
end
end Go.MV
namespace Go.Proofs.YtnfcnpdpfgcchaaGreat
open Go Go.MV
theorem joinE {s : Sch} {a b : Val} {e : Int} (h : joinVF s a b = .error e) : e = 13 ∨ e = 14 := by
 unfold joinVF at h
 split at h
 ·split at h
  ·cases h
  ·injection h with h; exact .inl h.symm
 ·injection h with h; exact .inr h.symm
theorem joinR (s : Sch) (a b : Val) : (∃ n m t c w, joinVF s a b = .ok (.mk n m t c w)) ∨ joinVF s a b = .error 13 ∨ joinVF s a b = .error 14 := by
 cases h : joinVF s a b with
 | ok v => obtain ⟨n, m, t, c, w⟩ := v; exact .inl ⟨_, _, _, _, _, rfl⟩
 | error e =>
  rcases joinE h with rfl | rfl
  ·exact .inr (.inl rfl)
  ·exact .inr (.inr rfl)
noncomputable def leqVF (s : Sch) (a b : Val) : Except Int Bool := match joinVF s a b with | .ok j => .ok (decide (j = b)) | .error e => if e = 14 then .error 14 else .ok false
def encL (r : Except Int Bool) : MV := .tup [.bool (match r with | .error _ => false | .ok v => v), match r with | .error n => encErr n | .ok _ => .iface0]
theorem leq_ok {s : Sch} {a b j : Val} (h : joinVF s a b = .ok j) : leqVF s a b = .ok (decide (j = b)) := by unfold leqVF; rw [h]
theorem leq_13 {s : Sch} {a b : Val} (h : joinVF s a b = .error 13) : leqVF s a b = .ok false := by unfold leqVF; rw [h]; rfl
theorem leq_14 {s : Sch} {a b : Val} (h : joinVF s a b = .error 14) : leqVF s a b = .error 14 := by unfold leqVF; rw [h]; rfl
theorem exE {α : Type} (r : Except Int α) : (∃ e, r = .error e) ∨ ∃ v, r = .ok v := by
 cases r with
 | error e => exact .inl ⟨e, rfl⟩
 | ok v => exact .inr ⟨v, rfl⟩
theorem okCmp : (Tryz.prog.info? 58).map (·.comparable) = some true := by kernel_rfl
end Go.Proofs.YtnfcnpdpfgcchaaGreat
namespace Go.Proofs.YtnfcnpdpfgcchaaGreat
open Go Go.MV Go.RowKit
abbrev ltB (a b : Bs) : Prop := Op.bytesLess a b = true
theorem ltB_cons {x y : UInt8} {a b : Bs} : ltB (x :: a) (y :: b) ↔ x < y ∨ (x = y ∧ ltB a b) := by
 unfold ltB
 simp [Op.bytesLess]
theorem ltB_irrefl : ∀ a : Bs, ¬ ltB a a
 | [] => by simp [ltB, Op.bytesLess]
 | x :: a => by
  rw [ltB_cons]
  rintro (h | ⟨_, h⟩)
  ·exact UInt8.lt_irrefl _ h
  ·exact ltB_irrefl a h
theorem _root_.zV4 : type_of% @ltB_irrefl := @ltB_irrefl
theorem ltB_trans : ∀ {a b c : Bs}, ltB a b → ltB b c → ltB a c
 | _, [], _, h, _ => by simp [ltB, Op.bytesLess] at h
 | _, _ :: _, [], _, h => by simp [ltB, Op.bytesLess] at h
 | [], _ :: _, _ :: _, _, _ => by simp [ltB, Op.bytesLess]
 | x :: a, y :: b, z :: c, h1, h2 => by
  rw [ltB_cons] at h1 h2 ⊢
  rcases h1 with h1 | ⟨rfl, h1⟩
  ·rcases h2 with h2 | ⟨rfl, h2⟩
   ·exact .inl (UInt8.lt_trans h1 h2)
   ·exact .inl h1
  ·rcases h2 with h2 | ⟨rfl, h2⟩
   ·exact .inl h2
   ·exact .inr ⟨rfl, ltB_trans h1 h2⟩
theorem _root_.zR6 : type_of% @ltB_trans := @ltB_trans
theorem ltB_total : ∀ a b : Bs, ltB a b ∨ a = b ∨ ltB b a
 | [], [] => .inr (.inl rfl)
 | [], _ :: _ => .inl (by simp [ltB, Op.bytesLess])
 | _ :: _, [] => .inr (.inr (by simp [ltB, Op.bytesLess]))
 | x :: a, y :: b => by
  rw [ltB_cons, ltB_cons]
  by_cases h1 : x < y
  ·exact .inl (.inl h1)
  ·by_cases h2 : y < x
   ·exact .inr (.inr (.inl h2))
   ·have e : x = y := UInt8.le_antisymm (UInt8.not_lt.1 h2) (UInt8.not_lt.1 h1)
    subst e
    rcases ltB_total a b with h | rfl | h
    ·exact .inl (.inr ⟨rfl, h⟩)
    ·exact .inr (.inl rfl)
    ·exact .inr (.inr (.inr ⟨rfl, h⟩))
theorem ltB_asymm {a b : Bs} (h : ltB a b) : ¬ ltB b a := fun h2 => zV4 _ (zR6 h h2)
def Up (l : List Bs) : Prop := l.Pairwise ltB
theorem rises_up : ∀ l : List Bs, risesF l = true ↔ Up l
 | [] => by simp [risesF, Up]
 | [x] => by simp [risesF, Up]
 | x :: y :: l => by
  rw [risesF, Bool.and_eq_true, rises_up (y :: l)]
  unfold Up
  rw [zI1 (a := x)]
  constructor
  ·rintro ⟨h1, h2⟩
   refine ⟨fun z hz => ?_, h2⟩
   rcases List.mem_cons.1 hz with rfl | hz
   ·exact h1
   ·exact zR6 h1 ((zI1.1 h2).1 z hz)
  ·rintro ⟨h1, h2⟩
   exact ⟨h1 y (.head _), h2⟩
theorem up_cons {x : Bs} {l : List Bs} : Up (x :: l) ↔ (∀ y ∈ l, ltB x y) ∧ Up l := zI1
theorem _root_.zF3 : type_of% @up_cons := @up_cons
theorem up_ext : ∀ {a b : List Bs}, Up a → Up b → (∀ x, x ∈ a ↔ x ∈ b) → a = b
 | [], [], _, _, _ => rfl
 | [], y :: b, _, _, h => absurd ((h y).2 (.head _)) (by simp)
 | x :: a, [], _, _, h => absurd ((h x).1 (.head _)) (by simp)
 | x :: a, y :: b, ha, hb, h => by
  have ha' := zF3.1 ha
  have hb' := zF3.1 hb
  have e : x = y := by
   rcases List.mem_cons.1 ((h x).1 (.head _)) with e | hx
   ·exact e
   ·rcases List.mem_cons.1 ((h y).2 (.head _)) with e | hy
    ·exact e.symm
    ·exact absurd (hb'.1 x hx) (ltB_asymm (ha'.1 y hy))
  subst e
  congr 1
  refine up_ext ha'.2 hb'.2 fun z => ⟨fun hz => ?_, fun hz => ?_⟩
  ·rcases List.mem_cons.1 ((h z).1 (.tail _ hz)) with rfl | hz2
   ·exact absurd (ha'.1 _ hz) (zV4 _)
   ·exact hz2
  ·rcases List.mem_cons.1 ((h z).2 (.tail _ hz)) with rfl | hz2
   ·exact absurd (hb'.1 _ hz) (zV4 _)
   ·exact hz2
theorem mem_both : ∀ (a b : List Bs) (z : Bs), z ∈ bothX a b ↔ z ∈ a ∨ z ∈ b := by
 intro a b
 induction a, b using bothX.induct with
 | case1 => simp [bothX]
 | case2 x a ih => intro z; rw [bothX, List.mem_cons, ih]; simp
 | case3 y b ih => intro z; rw [bothX, List.mem_cons, ih]; simp
 | case4 x a y b h ih => intro z; rw [bothX, if_pos h, List.mem_cons, ih]; simp [or_assoc]
 | case5 x a y b h h2 ih => intro z; rw [bothX, if_neg h, if_pos h2, List.mem_cons, ih]; simp only [List.mem_cons]; exact or_left_comm
 | case6 x a y b h h2 ih =>
  intro z
  have e : x = y := by
   rcases ltB_total x y with h3 | h3 | h3
   ·exact absurd h3 h
   ·exact h3
   ·exact absurd h3 h2
  subst e
  rw [bothX, if_neg h, if_neg h2, List.mem_cons, ih]
  simp only [List.mem_cons]
  constructor
  ·rintro (h | h | h)
   ·exact .inl (.inl h)
   ·exact .inl (.inr h)
   ·exact .inr (.inr h)
  ·rintro ((h | h) | (h | h))
   ·exact .inl h
   ·exact .inr (.inl h)
   ·exact .inl h
   ·exact .inr (.inr h)
theorem _root_.zG3 : type_of% @mem_both := @mem_both
theorem up_both : ∀ (a b : List Bs), Up a → Up b → Up (bothX a b) := by
 intro a b
 induction a, b using bothX.induct with
 | case1 => intro _ _; simp [bothX, Up]
 | case2 x a ih =>
  intro ha hb
  rw [bothX]
  refine zF3.2 ⟨fun z hz => ?_, ih (zF3.1 ha).2 hb⟩
  rw [zG3] at hz
  exact (zF3.1 ha).1 z (by simpa using hz)
 | case3 y b ih =>
  intro ha hb
  rw [bothX]
  refine zF3.2 ⟨fun z hz => ?_, ih ha (zF3.1 hb).2⟩
  rw [zG3] at hz
  exact (zF3.1 hb).1 z (by simpa using hz)
 | case4 x a y b h ih =>
  intro ha hb
  rw [bothX, if_pos h]
  refine zF3.2 ⟨fun z hz => ?_, ih (zF3.1 ha).2 hb⟩
  rw [zG3] at hz
  rcases hz with hz | hz
  ·exact (zF3.1 ha).1 z hz
  ·rcases List.mem_cons.1 hz with rfl | hz
   ·exact h
   ·exact zR6 h ((zF3.1 hb).1 z hz)
 | case5 x a y b h h2 ih =>
  intro ha hb
  rw [bothX, if_neg h, if_pos h2]
  refine zF3.2 ⟨fun z hz => ?_, ih ha (zF3.1 hb).2⟩
  rw [zG3] at hz
  rcases hz with hz | hz
  ·rcases List.mem_cons.1 hz with rfl | hz
   ·exact h2
   ·exact zR6 h2 ((zF3.1 ha).1 z hz)
  ·exact (zF3.1 hb).1 z hz
 | case6 x a y b h h2 ih =>
  intro ha hb
  have e : x = y := by
   rcases ltB_total x y with h3 | h3 | h3
   ·exact absurd h3 h
   ·exact h3
   ·exact absurd h3 h2
  subst e
  rw [bothX, if_neg h, if_neg h2]
  refine zF3.2 ⟨fun z hz => ?_, ih (zF3.1 ha).2 (zF3.1 hb).2⟩
  rw [zG3] at hz
  rcases hz with hz | hz
  ·exact (zF3.1 ha).1 z hz
  ·exact (zF3.1 hb).1 z hz
theorem _root_.zM6 : type_of% @up_both := @up_both
def putT (s : Bs) : List Bs → List Bs
 | [] => [s]
 | y :: l => if y = s then y :: l else if Op.bytesLess s y then s :: y :: l else y :: putT s l
theorem mem_put (s : Bs) : ∀ (l : List Bs) (z : Bs), z ∈ putT s l ↔ z = s ∨ z ∈ l
 | [], z => by simp [putT]
 | y :: l, z => by
  rw [putT]
  split
  ·rename_i h; subst h; simp
  ·split
   ·simp
   ·rw [List.mem_cons, mem_put s l, List.mem_cons]; exact or_left_comm
theorem up_put (s : Bs) : ∀ (l : List Bs), Up l → Up (putT s l)
 | [], _ => by simp [putT, Up]
 | y :: l, h => by
  rw [putT]
  split
  ·exact h
  ·rename_i hne
   split
   ·rename_i hlt
    refine zF3.2 ⟨fun z hz => ?_, h⟩
    rcases List.mem_cons.1 hz with rfl | hz
    ·exact hlt
    ·exact zR6 hlt ((zF3.1 h).1 z hz)
   ·rename_i hlt
    refine zF3.2 ⟨fun z hz => ?_, up_put s l (zF3.1 h).2⟩
    rw [mem_put] at hz
    rcases hz with rfl | hz
    ·rcases ltB_total z y with h3 | h3 | h3
     ·exact absurd h3 hlt
     ·exact absurd h3.symm hne
     ·exact h3
    ·exact (zF3.1 h).1 z hz
theorem put_len (s : Bs) : ∀ l : List Bs, (putT s l).length ≤ l.length + 1
 | [] => by simp [putT]
 | y :: l => by
  rw [putT]
  split
  ·simp
  ·split
   ·simp
   ·have := put_len s l; simp; omega
def putAll (a b : List Bs) : List Bs := b.foldl (fun o x => putT x o) a
theorem putAll_cons (a : List Bs) (x : Bs) (b : List Bs) : putAll a (x :: b) = putAll (putT x a) b := rfl
theorem putAll_snoc (a : List Bs) (x : Bs) (b : List Bs) : putAll a (b ++ [x]) = putT x (putAll a b) := by unfold putAll; rw [List.foldl_append]; rfl
theorem mem_putAll : ∀ (b a : List Bs) (z : Bs), z ∈ putAll a b ↔ z ∈ a ∨ z ∈ b
 | [], a, z => by simp [putAll]
 | x :: b, a, z => by
  rw [putAll_cons, mem_putAll b, mem_put, List.mem_cons]
  constructor
  ·rintro ((h | h) | h)
   ·exact .inr (.inl h)
   ·exact .inl h
   ·exact .inr (.inr h)
  ·rintro (h | h | h)
   ·exact .inl (.inr h)
   ·exact .inl (.inl h)
   ·exact .inr h
theorem up_putAll : ∀ (b a : List Bs), Up a → Up (putAll a b)
 | [], a, h => h
 | x :: b, a, h => by rw [putAll_cons]; exact up_putAll b _ (up_put x a h)
theorem putAll_len : ∀ (b a : List Bs), (putAll a b).length ≤ a.length + b.length
 | [], a => by simp [putAll]
 | x :: b, a => by
  rw [putAll_cons]
  have h1 := putAll_len b (putT x a)
  have h2 := put_len x a
  simp
  omega
theorem both_put {a b : List Bs} (ha : Up a) (hb : Up b) : putAll a b = bothX a b := up_ext (up_putAll b a ha) (zM6 a b ha hb) fun z => by rw [mem_putAll, zG3]
theorem put_skip {s : Bs} : ∀ {l : List Bs} {i : Nat}, i ≤ l.length → (∀ j, j < i → ∀ y, l[j]? = some y → y ≠ s ∧ ¬ ltB s y) → putT s l = l.take i ++ putT s (l.drop i)
 | l, 0, _, _ => rfl
 | [], i + 1, h, _ => by simp at h
 | y :: l, i + 1, h, hn => by
  have h0 := hn 0 (by omega) y rfl
  rw [putT, if_neg h0.1, if_neg h0.2, List.take_succ_cons, List.drop_succ_cons, List.cons_append]
  congr 1
  exact put_skip (by simpa using h) fun j hj z hz => hn (j + 1) (by omega) z (by simpa using hz)
section
section
variable {κ : Type} {cmp : κ → κ → Int}
structure OrdK (cmp : κ → κ → Int) : Prop where
 irr : ∀ a, ¬ cmp a a < 0
 tr : ∀ a b c, cmp a b < 0 → cmp b c < 0 → cmp a c < 0
 tot : ∀ a b, ¬ cmp a b < 0 → ¬ cmp b a < 0 → a = b
open Classical in
noncomputable def look (l : List (κ × Val)) (k : κ) : Option Val := match l with
 | [] => none
 | e :: l => if e.1 = k then some e.2 else look l k
open Classical in
theorem look_cons (e : κ × Val) (l : List (κ × Val)) (k : κ) : look (e :: l) k = if e.1 = k then some e.2 else look l k := rfl
theorem _root_.zK2 : type_of% @look_cons := @look_cons
def SrtK (cmp : κ → κ → Int) (l : List (κ × Val)) : Prop := l.Pairwise fun x y => cmp x.1 y.1 < 0
def HasK (l : List (κ × Val)) (k : κ) : Prop := ∃ e ∈ l, e.1 = k
theorem look_none {l : List (κ × Val)} {k : κ} (h : ¬ HasK l k) : look l k = none := by
 induction l with
 | nil => rfl
 | cons e l ih =>
  rw [look, if_neg (fun he => h ⟨e, .head _, he⟩)]
  exact ih fun ⟨x, hx, e2⟩ => h ⟨x, .tail _ hx, e2⟩
theorem _root_.zC3 : type_of% @look_none := @look_none
theorem look_mem {l : List (κ × Val)} {k : κ} {v : Val} (h : look l k = some v) : (k, v) ∈ l := by
 induction l with
 | nil => cases h
 | cons e l ih =>
  rw [look] at h
  split at h
  ·rename_i he
   injection h with h
   subst he; subst h
   exact .head _
  ·exact .tail _ (ih h)
theorem _root_.zJ3 : type_of% @look_mem := @look_mem
theorem look_has {l : List (κ × Val)} {k : κ} : HasK l k ↔ ∃ v, look l k = some v := by
 constructor
 ·intro h
  cases hl : look l k with
  | some v => exact ⟨v, rfl⟩
  | none =>
   exfalso
   induction l with
   | nil => obtain ⟨e, he, _⟩ := h; cases he
   | cons e l ih =>
    rw [look] at hl
    split at hl
    ·cases hl
    ·rename_i hne
     obtain ⟨x, hx, e2⟩ := h
     rcases List.mem_cons.1 hx with rfl | hx
     ·exact hne e2
     ·exact ih ⟨x, hx, e2⟩ hl
 ·rintro ⟨v, h⟩
  exact ⟨_, zJ3 h, rfl⟩
theorem srt_cons {e : κ × Val} {l : List (κ × Val)} : SrtK cmp (e :: l) ↔ (∀ y ∈ l, cmp e.1 y.1 < 0) ∧ SrtK cmp l := zI1
theorem _root_.zY1 : type_of% @srt_cons := @srt_cons
theorem not_has (ho : OrdK cmp) {k : κ} {l : List (κ × Val)} (h : ∀ y ∈ l, cmp k y.1 < 0) : ¬ HasK l k := fun ⟨e, he, e2⟩ => ho.irr k (by have := h e he; rwa [e2] at this)
theorem mem_look (ho : OrdK cmp) {l : List (κ × Val)} (hs : SrtK cmp l) {e : κ × Val} (h : e ∈ l) : look l e.1 = some e.2 := by
 induction l with
 | nil => cases h
 | cons x l ih =>
  have hs' := zY1.1 hs
  rw [look]
  rcases List.mem_cons.1 h with rfl | h
  ·rw [if_pos rfl]
  ·rw [if_neg]
   ·exact ih hs'.2 h
   ·intro e2
    have := hs'.1 e h
    rw [e2] at this
    exact ho.irr _ this
theorem _root_.zK3 : type_of% @mem_look := @mem_look
theorem look_ext (ho : OrdK cmp) : ∀ {a b : List (κ × Val)}, SrtK cmp a → SrtK cmp b → (∀ k, look a k = look b k) → a = b
 | [], [], _, _, _ => rfl
 | [], y :: b, _, _, h => by
  have := h y.1
  rw [look, look, if_pos rfl] at this
  cases this
 | x :: a, [], _, _, h => by
  have := h x.1
  rw [look, look, if_pos rfl] at this
  cases this
 | x :: a, y :: b, ha, hb, h => by
  have ha' := zY1.1 ha
  have hb' := zY1.1 hb
  have hk : x.1 = y.1 := by
   refine ho.tot _ _ (fun hlt => ?_) (fun hlt => ?_)
   ·have h1 := h x.1
    rw [zK3 ho ha (.head _), zC3 (not_has ho fun z hz => ?_)] at h1
    ·cases h1
    ·rcases List.mem_cons.1 hz with rfl | hz
     ·exact hlt
     ·exact ho.tr _ _ _ hlt (hb'.1 z hz)
   ·have h1 := h y.1
    rw [zK3 ho hb (.head _), zC3 (not_has ho fun z hz => ?_)] at h1
    ·cases h1
    ·rcases List.mem_cons.1 hz with rfl | hz
     ·exact hlt
     ·exact ho.tr _ _ _ hlt (ha'.1 z hz)
  have hv : x.2 = y.2 := by
   have h1 := h x.1
   rw [zK3 ho ha (.head _), hk, zK3 ho hb (.head _)] at h1
   injection h1
  have e : x = y := Prod.ext hk hv
  subst e
  congr 1
  refine look_ext ho ha'.2 hb'.2 fun k => ?_
  by_cases hkx : x.1 = k
  ·subst hkx
   rw [zC3 (not_has ho ha'.1), zC3 (not_has ho hb'.1)]
  ·have h1 := h k
   rw [look, look, if_neg hkx, if_neg hkx] at h1
   exact h1
def fillE (f : Val → Val → Val) (e : Ent κ) : Val := match e.2.2 with | none => e.2.1 | some w => f e.2.1 w
def mergeG (cmp : κ → κ → Int) (f : Val → Val → Val) (a b : List (κ × Val)) : List (κ × Val) := (mergeE cmp a b).map fun e => (e.1, fillE f e)
def comb (f : Val → Val → Val) : Option Val → Option Val → Option Val
 | none, y => y
 | x, none => x
 | some x, some y => some (f x y)
theorem comb_none (f : Val → Val → Val) (x : Option Val) : comb f x none = x := by cases x <;> rfl
theorem _root_.zS6 : type_of% @comb_none := @comb_none
theorem merge_has {f : Val → Val → Val} (ho : OrdK cmp) (a b : List (κ × Val)) (k : κ) : HasK (mergeG cmp f a b) k ↔ HasK a k ∨ HasK b k := by
 unfold HasK mergeG
 simp only [List.mem_map]
 constructor
 ·rintro ⟨e, ⟨x, hx, rfl⟩, rfl⟩
  rcases (zZ5 cmp a b x hx).1 with h | h
  ·exact .inl ⟨_, h, rfl⟩
  ·exact .inr ⟨_, h, rfl⟩
 ·intro h
  suffices hs : ∃ x ∈ mergeE cmp a b, x.1 = k by
   obtain ⟨x, hx, e⟩ := hs
   exact ⟨_, ⟨x, hx, rfl⟩, e⟩
  revert h
  induction a, b using mergeE.induct cmp with
  | case1 => rintro (⟨e, he, _⟩ | ⟨e, he, _⟩) <;> cases he
  | case2 x a ih =>
   rw [mergeE]
   rintro (⟨e, he, rfl⟩ | ⟨e, he, _⟩)
   ·rcases List.mem_cons.1 he with rfl | he
    ·exact ⟨_, .head _, rfl⟩
    ·obtain ⟨z, hz, e2⟩ := ih (.inl ⟨e, he, rfl⟩)
     exact ⟨z, .tail _ hz, e2⟩
   ·cases he
  | case3 y b ih =>
   rw [mergeE]
   rintro (⟨e, he, _⟩ | ⟨e, he, rfl⟩)
   ·cases he
   ·rcases List.mem_cons.1 he with rfl | he
    ·exact ⟨_, .head _, rfl⟩
    ·obtain ⟨z, hz, e2⟩ := ih (.inr ⟨e, he, rfl⟩)
     exact ⟨z, .tail _ hz, e2⟩
  | case4 x a y b hlt ih =>
   rw [mergeE, if_pos hlt]
   rintro (⟨e, he, rfl⟩ | h)
   ·rcases List.mem_cons.1 he with rfl | he
    ·exact ⟨_, .head _, rfl⟩
    ·obtain ⟨z, hz, e2⟩ := ih (.inl ⟨e, he, rfl⟩)
     exact ⟨z, .tail _ hz, e2⟩
   ·obtain ⟨z, hz, e2⟩ := ih (.inr h)
    exact ⟨z, .tail _ hz, e2⟩
  | case5 x a y b hlt hgt ih =>
   rw [mergeE, if_neg hlt, if_pos hgt]
   rintro (h | ⟨e, he, rfl⟩)
   ·obtain ⟨z, hz, e2⟩ := ih (.inl h)
    exact ⟨z, .tail _ hz, e2⟩
   ·rcases List.mem_cons.1 he with rfl | he
    ·exact ⟨_, .head _, rfl⟩
    ·obtain ⟨z, hz, e2⟩ := ih (.inr ⟨e, he, rfl⟩)
     exact ⟨z, .tail _ hz, e2⟩
  | case6 x a y b hlt hgt ih =>
   have exy := ho.tot _ _ hlt hgt
   rw [mergeE, if_neg hlt, if_neg hgt]
   rintro (⟨e, he, rfl⟩ | ⟨e, he, rfl⟩)
   ·rcases List.mem_cons.1 he with rfl | he
    ·exact ⟨_, .head _, rfl⟩
    ·obtain ⟨z, hz, e2⟩ := ih (.inl ⟨e, he, rfl⟩)
     exact ⟨z, .tail _ hz, e2⟩
   ·rcases List.mem_cons.1 he with rfl | he
    ·exact ⟨_, .head _, exy⟩
    ·obtain ⟨z, hz, e2⟩ := ih (.inr ⟨e, he, rfl⟩)
     exact ⟨z, .tail _ hz, e2⟩
theorem keys_lt (ho : OrdK cmp) {f : Val → Val → Val} {k : κ} {a b : List (κ × Val)} (ha : ∀ y ∈ a, cmp k y.1 < 0) (hb : ∀ y ∈ b, cmp k y.1 < 0) : ∀ y ∈ mergeG cmp f a b, cmp k y.1 < 0 := by
 intro y hy
 rcases (merge_has (f := f) ho a b y.1).1 ⟨y, hy, rfl⟩ with ⟨e, he, e2⟩ | ⟨e, he, e2⟩
 ·rw [← e2]; exact ha e he
 ·rw [← e2]; exact hb e he
theorem merge_srt (ho : OrdK cmp) (f : Val → Val → Val) : ∀ a b : List (κ × Val), SrtK cmp a → SrtK cmp b → SrtK cmp (mergeG cmp f a b) := by
 intro a b
 induction a, b using mergeE.induct cmp with
 | case1 => intro _ _; simp [mergeG, mergeE, SrtK]
 | case2 x a ih =>
  intro ha hb
  have ha' := zY1.1 ha
  have : mergeG cmp f (x :: a) [] = (x.1, x.2) :: mergeG cmp f a [] := by unfold mergeG; rw [mergeE]; rfl
  rw [this]
  exact zY1.2 ⟨keys_lt ho ha'.1 (by simp), ih ha'.2 hb⟩
 | case3 y b ih =>
  intro ha hb
  have hb' := zY1.1 hb
  have : mergeG cmp f [] (y :: b) = (y.1, y.2) :: mergeG cmp f [] b := by unfold mergeG; rw [mergeE]; rfl
  rw [this]
  exact zY1.2 ⟨keys_lt ho (by simp) hb'.1, ih ha hb'.2⟩
 | case4 x a y b hlt ih =>
  intro ha hb
  have ha' := zY1.1 ha
  have hb' := zY1.1 hb
  have : mergeG cmp f (x :: a) (y :: b) = (x.1, x.2) :: mergeG cmp f a (y :: b) := by unfold mergeG; rw [mergeE, if_pos hlt]; rfl
  rw [this]
  refine zY1.2 ⟨keys_lt ho ha'.1 fun z hz => ?_, ih ha'.2 hb⟩
  rcases List.mem_cons.1 hz with rfl | hz
  ·exact hlt
  ·exact ho.tr _ _ _ hlt (hb'.1 z hz)
 | case5 x a y b hlt hgt ih =>
  intro ha hb
  have ha' := zY1.1 ha
  have hb' := zY1.1 hb
  have : mergeG cmp f (x :: a) (y :: b) = (y.1, y.2) :: mergeG cmp f (x :: a) b := by unfold mergeG; rw [mergeE, if_neg hlt, if_pos hgt]; rfl
  rw [this]
  refine zY1.2 ⟨keys_lt ho (fun z hz => ?_) hb'.1, ih ha hb'.2⟩
  rcases List.mem_cons.1 hz with rfl | hz
  ·exact hgt
  ·exact ho.tr _ _ _ hgt (ha'.1 z hz)
 | case6 x a y b hlt hgt ih =>
  intro ha hb
  have ha' := zY1.1 ha
  have hb' := zY1.1 hb
  have exy := ho.tot _ _ hlt hgt
  have : mergeG cmp f (x :: a) (y :: b) = (x.1, f x.2 y.2) :: mergeG cmp f a b := by unfold mergeG; rw [mergeE, if_neg hlt, if_neg hgt]; rfl
  rw [this]
  exact zY1.2 ⟨keys_lt ho ha'.1 (fun z hz => by show cmp x.1 z.1 < 0; rw [exy]; exact hb'.1 z hz), ih ha'.2 hb'.2⟩
theorem _root_.zN3 : type_of% @merge_srt := @merge_srt
theorem look_merge (ho : OrdK cmp) (f : Val → Val → Val) : ∀ a b : List (κ × Val), SrtK cmp a → SrtK cmp b → ∀ k, look (mergeG cmp f a b) k = comb f (look a k) (look b k) := by
 intro a b
 induction a, b using mergeE.induct cmp with
 | case1 => intro _ _ k; simp [mergeG, mergeE, look, comb]
 | case2 x a ih =>
  intro ha hb k
  have ha' := zY1.1 ha
  have : mergeG cmp f (x :: a) [] = (x.1, x.2) :: mergeG cmp f a [] := by unfold mergeG; rw [mergeE]; rfl
  rw [this, zK2, zK2, ih ha'.2 hb]
  rw [show look ([] : List (κ × Val)) k = none from rfl, zS6, zS6]
 | case3 y b ih =>
  intro ha hb k
  have hb' := zY1.1 hb
  have : mergeG cmp f [] (y :: b) = (y.1, y.2) :: mergeG cmp f [] b := by unfold mergeG; rw [mergeE]; rfl
  rw [this, zK2, ih ha hb'.2]
  rw [show look ([] : List (κ × Val)) k = none from rfl, zK2]
  rfl
 | case4 x a y b hlt ih =>
  intro ha hb k
  have ha' := zY1.1 ha
  have hb' := zY1.1 hb
  have : mergeG cmp f (x :: a) (y :: b) = (x.1, x.2) :: mergeG cmp f a (y :: b) := by unfold mergeG; rw [mergeE, if_pos hlt]; rfl
  rw [this, zK2, ih ha'.2 hb]
  by_cases hk : x.1 = k
  ·subst hk
   rw [if_pos rfl, zK3 ho ha (.head _), zC3 (not_has ho (k := x.1) (l := y :: b) fun z hz => ?_)]
   ·rfl
   ·rcases List.mem_cons.1 hz with rfl | hz
    ·exact hlt
    ·exact ho.tr _ _ _ hlt (hb'.1 z hz)
  ·rw [if_neg hk]
   congr 1
   rw [zK2, if_neg hk]
 | case5 x a y b hlt hgt ih =>
  intro ha hb k
  have ha' := zY1.1 ha
  have hb' := zY1.1 hb
  have : mergeG cmp f (x :: a) (y :: b) = (y.1, y.2) :: mergeG cmp f (x :: a) b := by unfold mergeG; rw [mergeE, if_neg hlt, if_pos hgt]; rfl
  rw [this, zK2, ih ha hb'.2]
  by_cases hk : y.1 = k
  ·subst hk
   rw [if_pos rfl, zK3 ho hb (.head _), zC3 (not_has ho (k := y.1) (l := x :: a) fun z hz => ?_)]
   ·rfl
   ·rcases List.mem_cons.1 hz with rfl | hz
    ·exact hgt
    ·exact ho.tr _ _ _ hgt (ha'.1 z hz)
  ·rw [if_neg hk]
   congr 1
   conv => rhs; rw [zK2, if_neg hk]
 | case6 x a y b hlt hgt ih =>
  intro ha hb k
  have ha' := zY1.1 ha
  have hb' := zY1.1 hb
  have exy := ho.tot _ _ hlt hgt
  have : mergeG cmp f (x :: a) (y :: b) = (x.1, f x.2 y.2) :: mergeG cmp f a b := by unfold mergeG; rw [mergeE, if_neg hlt, if_neg hgt]; rfl
  rw [this, zK2, ih ha'.2 hb'.2]
  by_cases hk : x.1 = k
  ·subst hk
   rw [if_pos rfl, zK3 ho ha (.head _), exy, zK3 ho hb (.head _)]
   rfl
  ·rw [if_neg hk]
   conv => rhs; rw [zK2, if_neg hk, zK2, if_neg (exy ▸ hk)]
theorem _root_.zL3 : type_of% @look_merge := @look_merge
structure SemiL (P : Val → Prop) (f : Val → Val → Val) : Prop where
 cl : ∀ x y, P x → P y → P (f x y)
 comm : ∀ x y, P x → P y → f x y = f y x
 assoc : ∀ x y z, P x → P y → P z → f (f x y) z = f x (f y z)
 idem : ∀ x, P x → f x x = x
def AllV (P : Val → Prop) (l : List (κ × Val)) : Prop := ∀ e ∈ l, P e.2
theorem look_allV {P : Val → Prop} {l : List (κ × Val)} (h : AllV P l) {k : κ} {v : Val} (hl : look l k = some v) : P v := h _ (zJ3 hl)
theorem _root_.zD3 : type_of% @look_allV := @look_allV
theorem comb_P {P : Val → Prop} {f : Val → Val → Val} (hf : SemiL P f) {x y : Option Val} (hx : ∀ v, x = some v → P v) (hy : ∀ v, y = some v → P v) : ∀ v, comb f x y = some v → P v := by
 intro v h
 cases x with
 | none => exact hy v h
 | some x =>
  cases y with
  | none => exact hx v h
  | some y =>
   injection h with h
   subst h
   exact hf.cl _ _ (hx _ rfl) (hy _ rfl)
theorem comb_comm {P : Val → Prop} {f : Val → Val → Val} (hf : SemiL P f) {x y : Option Val} (hx : ∀ v, x = some v → P v) (hy : ∀ v, y = some v → P v) : comb f x y = comb f y x := by
 cases x with
 | none => rw [zS6]; rfl
 | some x =>
  cases y with
  | none => rfl
  | some y => simp only [comb]; rw [hf.comm _ _ (hx _ rfl) (hy _ rfl)]
theorem comb_assoc {P : Val → Prop} {f : Val → Val → Val} (hf : SemiL P f) {x y z : Option Val} (hx : ∀ v, x = some v → P v) (hy : ∀ v, y = some v → P v) (hz : ∀ v, z = some v → P v) : comb f (comb f x y) z = comb f x (comb f y z) := by
 cases x with
 | none => rfl
 | some x =>
  cases y with
  | none => rfl
  | some y =>
   cases z with
   | none => rfl
   | some z => simp only [comb]; rw [hf.assoc _ _ _ (hx _ rfl) (hy _ rfl) (hz _ rfl)]
theorem comb_idem {P : Val → Prop} {f : Val → Val → Val} (hf : SemiL P f) {x : Option Val} (hx : ∀ v, x = some v → P v) : comb f x x = x := by
 cases x with
 | none => rfl
 | some x => simp only [comb]; rw [hf.idem _ (hx _ rfl)]
theorem merge_allV {P : Val → Prop} {f : Val → Val → Val} (hf : SemiL P f) (ho : OrdK cmp) {a b : List (κ × Val)} (ha : SrtK cmp a) (hb : SrtK cmp b) (pa : AllV P a) (pb : AllV P b) : AllV P (mergeG cmp f a b) := fun e he => by
 have h := zK3 ho (zN3 ho f a b ha hb) he
 rw [zL3 ho f a b ha hb] at h
 exact comb_P hf (fun v => zD3 pa) (fun v => zD3 pb) _ h
theorem mergeG_comm {P : Val → Prop} {f : Val → Val → Val} (hf : SemiL P f) (ho : OrdK cmp) {a b : List (κ × Val)} (ha : SrtK cmp a) (hb : SrtK cmp b) (pa : AllV P a) (pb : AllV P b) : mergeG cmp f a b = mergeG cmp f b a :=
 look_ext ho (zN3 ho f a b ha hb) (zN3 ho f b a hb ha) fun k => by
  rw [zL3 ho f a b ha hb, zL3 ho f b a hb ha, comb_comm hf (fun v => zD3 pa) (fun v => zD3 pb)]
theorem mergeG_assoc {P : Val → Prop} {f : Val → Val → Val} (hf : SemiL P f) (ho : OrdK cmp) {a b c : List (κ × Val)} (ha : SrtK cmp a) (hb : SrtK cmp b) (hc : SrtK cmp c) (pa : AllV P a) (pb : AllV P b) (pc : AllV P c) : mergeG cmp f (mergeG cmp f a b) c = mergeG cmp f a (mergeG cmp f b c) := by
 have hab := zN3 ho f a b ha hb
 have hbc := zN3 ho f b c hb hc
 refine look_ext ho (zN3 ho f _ _ hab hc) (zN3 ho f _ _ ha hbc) fun k => ?_
 rw [zL3 ho f _ _ hab hc, zL3 ho f a b ha hb, zL3 ho f _ _ ha hbc, zL3 ho f b c hb hc]
 exact comb_assoc hf (fun v => zD3 pa) (fun v => zD3 pb) (fun v => zD3 pc)
theorem mergeG_idem {P : Val → Prop} {f : Val → Val → Val} (hf : SemiL P f) (ho : OrdK cmp) {a : List (κ × Val)} (ha : SrtK cmp a) (pa : AllV P a) : mergeG cmp f a a = a :=
 look_ext ho (zN3 ho f a a ha ha) ha fun k => by rw [zL3 ho f a a ha ha, comb_idem hf (fun v => zD3 pa)]
theorem mergeG_nil {f : Val → Val → Val} : ∀ a : List (κ × Val), mergeG cmp f a [] = a
 | [] => by simp [mergeG, mergeE]
 | x :: a => by
  have : mergeG cmp f (x :: a) [] = (x.1, x.2) :: mergeG cmp f a [] := by unfold mergeG; rw [mergeE]; rfl
  rw [this, mergeG_nil a]
variable {blw : κ → κ → Prop}
structure PoK (blw : κ → κ → Prop) (Q : κ → Prop) : Prop where
 irr : ∀ a, Q a → ¬ blw a a
 tr : ∀ a b c, Q a → Q b → Q c → blw a b → blw b c → blw a c
def AllK (Q : κ → Prop) (l : List (κ × Val)) : Prop := ∀ e ∈ l, Q e.1
def Dead (blw : κ → κ → Prop) (K : κ → Prop) (k : κ) : Prop := ∃ o, K o ∧ blw k o
open Classical in
noncomputable def topG (cmp : κ → κ → Int) (blw : κ → κ → Prop) (f : Val → Val → Val) (a b : List (κ × Val)) : List (κ × Val) := (mergeG cmp f a b).filter fun e => decide (¬ Dead blw (HasK (mergeG cmp f a b)) e.1)
theorem look_filter (q : κ → Bool) : ∀ (l : List (κ × Val)) (k : κ), look (l.filter fun e => q e.1) k = if q k = true then look l k else none
 | [], k => by simp [look]
 | e :: l, k => by
  by_cases hp : q e.1 = true
  ·rw [List.filter_cons_of_pos (p := fun e : κ × Val => q e.1) hp, zK2, look_filter q l k, zK2]
   by_cases hk : e.1 = k
   ·subst hk; simp [hp]
   ·simp [hk]
  ·rw [List.filter_cons_of_neg (p := fun e : κ × Val => q e.1) hp, look_filter q l k, zK2]
   by_cases hk : e.1 = k
   ·subst hk; simp [hp]
   ·simp [hk]
def Or2 (a b : List (κ × Val)) (k : κ) : Prop := HasK a k ∨ HasK b k
open Classical in
theorem look_top (ho : OrdK cmp) {f : Val → Val → Val} {a b : List (κ × Val)} (ha : SrtK cmp a) (hb : SrtK cmp b) (k : κ) : look (topG cmp blw f a b) k = if Dead blw (Or2 a b) k then none else comb f (look a k) (look b k) := by
 unfold topG
 rw [look_filter (fun k => decide (¬ Dead blw (HasK (mergeG cmp f a b)) k)), zL3 ho f a b ha hb]
 have : Dead blw (HasK (mergeG cmp f a b)) k ↔ Dead blw (Or2 a b) k := by
  unfold Dead Or2
  simp only [merge_has ho]
 by_cases h : Dead blw (Or2 a b) k
 ·rw [if_pos h, if_neg (by simpa using this.2 h)]
 ·rw [if_neg h, if_pos (by simpa using fun h2 => h (this.1 h2))]
theorem top_srt (ho : OrdK cmp) {f : Val → Val → Val} {a b : List (κ × Val)} (ha : SrtK cmp a) (hb : SrtK cmp b) : SrtK cmp (topG cmp blw f a b) := (zN3 ho f a b ha hb).filter _
theorem comb_some {f : Val → Val → Val} {x y : Option Val} : (∃ v, comb f x y = some v) ↔ (∃ v, x = some v) ∨ ∃ v, y = some v := by
 cases x <;> cases y <;> simp [comb]
theorem top_has (ho : OrdK cmp) {f : Val → Val → Val} {a b : List (κ × Val)} (ha : SrtK cmp a) (hb : SrtK cmp b) (k : κ) : HasK (topG cmp blw f a b) k ↔ ¬ Dead blw (Or2 a b) k ∧ Or2 a b k := by
 rw [look_has, look_top ho ha hb]
 by_cases h : Dead blw (Or2 a b) k
 ·rw [if_pos h]; simp [h]
 ·rw [if_neg h, comb_some, ← look_has, ← look_has]; simp [h, Or2]
theorem top_above {Q : κ → Prop} (hp : PoK blw Q) (l : List κ) (hQ : ∀ k ∈ l, Q k) : ∀ k ∈ l, ∃ t ∈ l, (t = k ∨ blw k t) ∧ ∀ o ∈ l, ¬ blw t o := by
 classical
 suffices h : ∀ n k, k ∈ l → (l.filter fun o => decide (blw k o)).length ≤ n → ∃ t ∈ l, (t = k ∨ blw k t) ∧ ∀ o ∈ l, ¬ blw t o from fun k hk => h _ k hk (Nat.le_refl _)
 intro n
 induction n with
 | zero =>
  intro k hk hn
  refine ⟨k, hk, .inl rfl, fun o ho hb => ?_⟩
  have : o ∈ l.filter fun o => decide (blw k o) := List.mem_filter.2 ⟨ho, by simpa using hb⟩
  have := List.length_pos_of_mem this
  omega
 | succ n ih =>
  intro k hk hn
  by_cases he : ∃ o ∈ l, blw k o
  ·obtain ⟨o, ho, hb⟩ := he
   have hlt : (l.filter fun x => decide (blw o x)).length < (l.filter fun x => decide (blw k x)).length := by
    have hsub : ((l.filter fun x => decide (blw k x)).filter fun x => decide (blw o x)) = l.filter fun x => decide (blw o x) := by
     rw [List.filter_filter]
     refine List.filter_congr fun x hx => ?_
     by_cases h : blw o x
     ·simp [h, hp.tr _ _ _ (hQ k hk) (hQ o ho) (hQ x hx) hb h]
     ·simp [h]
    rw [← hsub]
    have hle := List.length_filter_le (fun x => decide (blw o x)) (l.filter fun x => decide (blw k x))
    rcases Nat.lt_or_ge ((l.filter fun x => decide (blw k x)).filter fun x => decide (blw o x)).length (l.filter fun x => decide (blw k x)).length with h | h
    ·exact h
    ·exfalso
     have heq : ((l.filter fun x => decide (blw k x)).filter fun x => decide (blw o x)) = l.filter fun x => decide (blw k x) := List.filter_eq_self.2 (List.length_filter_eq_length_iff.1 (Nat.le_antisymm hle h))
     have hm : o ∈ l.filter fun x => decide (blw k x) := List.mem_filter.2 ⟨ho, by simpa using hb⟩
     rw [← heq] at hm
     have := (List.mem_filter.1 hm).2
     exact hp.irr o (hQ o ho) (by simpa using this)
   obtain ⟨t, ht, h1, h2⟩ := ih o ho (by omega)
   refine ⟨t, ht, .inr ?_, h2⟩
   rcases h1 with rfl | h1
   ·exact hb
   ·exact hp.tr _ _ _ (hQ k hk) (hQ o ho) (hQ t ht) hb h1
  ·exact ⟨k, hk, .inl rfl, fun o ho hb => he ⟨o, ho, hb⟩⟩
theorem top_dead {Q : κ → Prop} (hp : PoK blw Q) (ho : OrdK cmp) {f : Val → Val → Val} {a b c : List (κ × Val)} (ha : SrtK cmp a) (hb : SrtK cmp b) (qa : AllK Q a) (qb : AllK Q b) (qc : AllK Q c) {k : κ} (hk : Q k) :
  Dead blw (Or2 (topG cmp blw f a b) c) k ↔ Dead blw (fun k => Or2 a b k ∨ HasK c k) k := by
 constructor
 ·rintro ⟨o, h | h, hb2⟩
  ·exact ⟨o, .inl ((top_has ho ha hb o).1 h).2, hb2⟩
  ·exact ⟨o, .inr h, hb2⟩
 ·rintro ⟨o, h | h, hb2⟩
  ·have hl : o ∈ (a ++ b).map (·.1) := by
    rw [List.mem_map]
    rcases h with ⟨e, he, e2⟩ | ⟨e, he, e2⟩
    ·exact ⟨e, List.mem_append_left _ he, e2⟩
    ·exact ⟨e, List.mem_append_right _ he, e2⟩
   have hQ : ∀ k ∈ (a ++ b).map (·.1), Q k := by
    intro k hk
    obtain ⟨e, he, rfl⟩ := List.mem_map.1 hk
    rcases zJ1.1 he with he | he
    ·exact qa e he
    ·exact qb e he
   have hmem : ∀ t, t ∈ (a ++ b).map (·.1) ↔ Or2 a b t := by
    intro t
    rw [List.mem_map]
    constructor
    ·rintro ⟨e, he, e2⟩
     rcases zJ1.1 he with he | he
     ·exact .inl ⟨e, he, e2⟩
     ·exact .inr ⟨e, he, e2⟩
    ·rintro (⟨e, he, e2⟩ | ⟨e, he, e2⟩)
     ·exact ⟨e, List.mem_append_left _ he, e2⟩
     ·exact ⟨e, List.mem_append_right _ he, e2⟩
   obtain ⟨t, ht, h1, h2⟩ := top_above hp _ hQ o hl
   refine ⟨t, .inl ((top_has ho ha hb t).2 ⟨fun ⟨d, hd, hbd⟩ => h2 d ((hmem d).2 hd) hbd, (hmem t).1 ht⟩), ?_⟩
   rcases h1 with rfl | h1
   ·exact hb2
   ·exact hp.tr _ _ _ hk (hQ o hl) (hQ t ht) hb2 h1
  ·exact ⟨o, .inr h, hb2⟩
theorem top_allV {P : Val → Prop} {f : Val → Val → Val} (hf : SemiL P f) (ho : OrdK cmp) {a b : List (κ × Val)} (ha : SrtK cmp a) (hb : SrtK cmp b) (pa : AllV P a) (pb : AllV P b) : AllV P (topG cmp blw f a b) := fun e he => merge_allV hf ho ha hb pa pb e (List.mem_filter.1 he).1
theorem top_allK {Q : κ → Prop} (ho : OrdK cmp) {f : Val → Val → Val} {a b : List (κ × Val)} (qa : AllK Q a) (qb : AllK Q b) : AllK Q (topG cmp blw f a b) := fun e he => by
 rcases (merge_has (f := f) ho a b e.1).1 ⟨e, (List.mem_filter.1 he).1, rfl⟩ with ⟨x, hx, e2⟩ | ⟨x, hx, e2⟩
 ·rw [← e2]; exact qa x hx
 ·rw [← e2]; exact qb x hx
def AntiK (blw : κ → κ → Prop) (l : List (κ × Val)) : Prop := ∀ x ∈ l, ∀ y ∈ l, ¬ blw x.1 y.1
theorem top_anti (ho : OrdK cmp) {f : Val → Val → Val} (a b : List (κ × Val)) : AntiK blw (topG cmp blw f a b) := fun x hx y hy h => by
 have := (List.mem_filter.1 hx).2
 simp only [decide_eq_true_eq] at this
 exact this ⟨y.1, ⟨y, (List.mem_filter.1 hy).1, rfl⟩, h⟩
theorem topG_comm {P : Val → Prop} {f : Val → Val → Val} (hf : SemiL P f) (ho : OrdK cmp) {a b : List (κ × Val)} (ha : SrtK cmp a) (hb : SrtK cmp b) (pa : AllV P a) (pb : AllV P b) : topG cmp blw f a b = topG cmp blw f b a := by
 unfold topG
 rw [mergeG_comm hf ho ha hb pa pb]
theorem topG_assoc {P : Val → Prop} {Q : κ → Prop} {f : Val → Val → Val} (hf : SemiL P f) (hp : PoK blw Q) (ho : OrdK cmp) {a b c : List (κ × Val)} (ha : SrtK cmp a) (hb : SrtK cmp b) (hc : SrtK cmp c) (pa : AllV P a) (pb : AllV P b) (pc : AllV P c) (qa : AllK Q a) (qb : AllK Q b) (qc : AllK Q c) : topG cmp blw f (topG cmp blw f a b) c = topG cmp blw f a (topG cmp blw f b c) := by
 classical
 have hab := top_srt (blw := blw) (f := f) ho ha hb
 have hbc := top_srt (blw := blw) (f := f) ho hb hc
 have pbc := top_allV (blw := blw) hf ho hb hc pb pc
 rw [topG_comm hf ho ha hbc pa pbc]
 refine look_ext ho (top_srt ho hab hc) (top_srt ho hbc ha) fun k => ?_
 rw [look_top ho hab hc, look_top ho hbc ha]
 by_cases hk : HasK a k ∨ HasK b k ∨ HasK c k
 ·have hQ : Q k := by
   rcases hk with ⟨e, he, rfl⟩ | ⟨e, he, rfl⟩ | ⟨e, he, rfl⟩
   ·exact qa e he
   ·exact qb e he
   ·exact qc e he
  have h1 := top_dead (f := f) hp ho ha hb qa qb qc hQ
  have h2 := top_dead (f := f) hp ho hb hc qb qc qa hQ
  have h3 : Dead blw (fun k => Or2 a b k ∨ HasK c k) k ↔ Dead blw (fun k => Or2 b c k ∨ HasK a k) k := by
   unfold Dead Or2
   constructor
   ·rintro ⟨o, ((h | h) | h), hb⟩
    ·exact ⟨o, .inr h, hb⟩
    ·exact ⟨o, .inl (.inl h), hb⟩
    ·exact ⟨o, .inl (.inr h), hb⟩
   ·rintro ⟨o, ((h | h) | h), hb⟩
    ·exact ⟨o, .inl (.inr h), hb⟩
    ·exact ⟨o, .inr h, hb⟩
    ·exact ⟨o, .inl (.inl h), hb⟩
  by_cases hd : Dead blw (fun k => Or2 a b k ∨ HasK c k) k
  ·rw [if_pos (h1.2 hd), if_pos (h2.2 (h3.1 hd))]
  ·rw [if_neg (fun h => hd (h1.1 h)), if_neg (fun h => hd (h3.2 (h2.1 h))), look_top ho ha hb, look_top ho hb hc]
   rw [if_neg (fun ⟨o, h, hb⟩ => hd ⟨o, .inl h, hb⟩), if_neg (fun ⟨o, h, hb⟩ => hd (h3.2 ⟨o, .inl h, hb⟩))]
   rw [comb_assoc hf (fun v => zD3 pa) (fun v => zD3 pb) (fun v => zD3 pc)]
   exact comb_comm hf (fun v => zD3 pa) (comb_P hf (fun v => zD3 pb) (fun v => zD3 pc))
 ·have hna : ¬ HasK a k := fun h => hk (.inl h)
  have hnb : ¬ HasK b k := fun h => hk (.inr (.inl h))
  have hnc : ¬ HasK c k := fun h => hk (.inr (.inr h))
  have e1 : look (topG cmp blw f a b) k = none := zC3 fun h => by
   rcases ((top_has ho ha hb k).1 h).2 with h | h
   ·exact hna h
   ·exact hnb h
  have e2 : look (topG cmp blw f b c) k = none := zC3 fun h => by
   rcases ((top_has ho hb hc k).1 h).2 with h | h
   ·exact hnb h
   ·exact hnc h
  rw [e1, e2, zC3 hnc, zC3 hna]
  simp [comb]
theorem filter_true {α : Type} {l : List α} {p : α → Bool} (h : ∀ x ∈ l, p x = true) : l.filter p = l := List.filter_eq_self.2 h
theorem topG_idem {P : Val → Prop} {f : Val → Val → Val} (hf : SemiL P f) (ho : OrdK cmp) {a : List (κ × Val)} (ha : SrtK cmp a) (pa : AllV P a) (hn : AntiK blw a) : topG cmp blw f a a = a := by
 unfold topG
 rw [mergeG_idem hf ho ha pa]
 exact filter_true fun x hx => by
  simp only [decide_eq_true_eq]
  rintro ⟨o, ⟨y, hy, rfl⟩, hb⟩
  exact hn x hx y hy hb
theorem topG_nil {f : Val → Val → Val} {a : List (κ × Val)} (hn : AntiK blw a) : topG cmp blw f a [] = a := by
 unfold topG
 rw [mergeG_nil]
 exact filter_true fun x hx => by
  simp only [decide_eq_true_eq]
  rintro ⟨o, ⟨y, hy, rfl⟩, hb⟩
  exact hn x hx y hy hb
end
theorem cmpX_lt {a b : Bs} : cmpX a b < 0 ↔ ltB a b := by
 rw [cmpX_eq, ltB]
 split
 ·rename_i h; simp [h]
 ·rename_i h
  split <;> simp [h]
theorem ordX : OrdK cmpX where
 irr a h := zV4 a (cmpX_lt.1 h)
 tr a b c h1 h2 := cmpX_lt.2 (zR6 (cmpX_lt.1 h1) (cmpX_lt.1 h2))
 tot a b h1 h2 := by
  rcases ltB_total a b with h | h | h
  ·exact absurd (cmpX_lt.2 h) h1
  ·exact h
  ·exact absurd (cmpX_lt.2 h) h2
theorem tick_swap (x y : Tk) : tickC x y < 0 ∨ x = y ∨ tickC y x < 0 := by
 by_cases h : x = y
 ·exact .inr (.inl h)
 ·rw [tick_neg, tick_neg]
  have : ¬ (x.1 = y.1 ∧ x.2 = y.2) := fun e => h (Prod.ext e.1 e.2)
  omega
theorem ticks_self : ∀ a : List Tk, byTicksF a a = 0
 | [] => rfl
 | x :: a => by rw [byTicksF, if_neg (by simp [tick_zero]), ticks_self a]
theorem ticks_tot : ∀ a b : List Tk, byTicksF a b < 0 ∨ a = b ∨ byTicksF b a < 0
 | [], [] => .inr (.inl rfl)
 | [], _ :: _ => .inl (by simp [byTicksF])
 | _ :: _, [] => .inr (.inr (by simp [byTicksF]))
 | x :: a, y :: b => by
  rw [byTicksF, byTicksF]
  rcases tick_swap x y with h | h | h
  ·rw [if_pos (by omega)]; exact .inl h
  ·subst h
   rw [if_neg (by simp [tick_zero]), if_neg (by simp [tick_zero])]
   rcases ticks_tot a b with h | h | h
   ·exact .inl h
   ·exact .inr (.inl (by rw [h]))
   ·exact .inr (.inr h)
  ·rw [if_pos (show tickC y x ≠ 0 by omega)]; exact .inr (.inr h)
theorem ordT : OrdK byTicksF where
 irr a h := by rw [ticks_self] at h; omega
 tr a b c h1 h2 := ticks_trans h1 h2
 tot a b h1 h2 := by
  rcases ticks_tot a b with h | h | h
  ·exact absurd h h1
  ·exact h
  ·exact absurd h h2
end
end Go.Proofs.YtnfcnpdpfgcchaaGreat
namespace Go.Proofs.YtnfcnpdpfgcchaaGreat
open Go Go.MV
theorem capF_f {v : Val} (h : largeF v = false) : capF (some v) = some v := by simp [capF, h]
noncomputable def isLV (v : Val) : Bool := isVF (.mk 6 []) v
theorem lv_form {v : Val} (h : isLV v = true) : v = noV ∨ ∃ n m t, v = .mk n m [t] [] [] ∧ (n ≠ 0 ∨ m ≠ 0 ∨ t ≠ []) ∧ t.length ≤ 16 := by
 obtain ⟨n, m, s, c, w⟩ := v
 unfold isLV at h
 rw [zW0 6] at h
 simp [bareF, numsK, textsK, clocksK, valuesK, Val.nv, Val.mv, Val.sv, Val.cv, Val.vv, isLastF] at h
 match s with
 | [] =>
  simp [isLastF] at h
  refine .inl ?_
  obtain ⟨⟨⟨⟨h1, h2⟩, _⟩, _⟩, h3, h4⟩ := h
  subst h1 h2 h3 h4
  rfl
 | [t] =>
  simp [isLastF] at h
  obtain ⟨⟨⟨⟨h1, h2⟩, _⟩, _⟩, h3, h4⟩ := h
  subst h1 h2
  exact .inr ⟨n, m, t, rfl, by rcases h4 with (h4 | h4) | h4 <;> simp [h4], h3⟩
 | _ :: _ :: _ => simp [isLastF] at h
theorem both_lv (a b : Val) (ha : isLV a = true) (hb : isLV b = true) : bothF (.mk 6 []) a b = some (laterF a b) := by
 rw [zH3, show bothB 6 (bothL []) a b = some (laterF a b) from rfl]
 refine capF_f ?_
 have h : ∀ v, isLV v = true → largeF v = false := by
  intro v hv
  rcases lv_form hv with rfl | ⟨n, m, t, rfl, _, _⟩
  ·unfold noV; rw [zI3]; simp
  ·rw [zI3]; simp
 unfold laterF
 split
 ·exact h b hb
 ·exact h a ha
def LT3 (n m : Int) (t : Bs) (n2 m2 : Int) (t2 : Bs) : Prop := n < n2 ∨ (n = n2 ∧ (m < m2 ∨ (m = m2 ∧ ltB t t2)))
theorem laterC_cases (n m n2 m2 : Int) (t t2 : Bs) (s s2 : List Bs) (c c2 : List (List Tk)) (w w2 : List Val) : laterC (.mk n m (t :: s) c w) (.mk n2 m2 (t2 :: s2) c2 w2) < 0 ↔ LT3 n m t n2 m2 t2 := by
 unfold laterC LT3
 simp only [Val.nv, Val.mv, Val.sv, List.headD_cons, cmpI]
 rw [← cmpX_lt]
 repeat' split
 all_goals omega
theorem laterF_yes {n m n2 m2 : Int} {t t2 : Bs} (s s2 : List Bs) (c c2 : List (List Tk)) (w w2 : List Val) (h : LT3 n m t n2 m2 t2) : laterF (.mk n m (t :: s) c w) (.mk n2 m2 (t2 :: s2) c2 w2) = .mk n2 m2 (t2 :: s2) c2 w2 := if_pos (.inr ⟨by simp [Val.sv], (laterC_cases ..).2 h⟩)
theorem _root_.zN4 : type_of% @laterF_yes := @laterF_yes
theorem laterF_not {n m n2 m2 : Int} {t t2 : Bs} (s s2 : List Bs) (c c2 : List (List Tk)) (w w2 : List Val) (h : ¬ LT3 n m t n2 m2 t2) : laterF (.mk n m (t :: s) c w) (.mk n2 m2 (t2 :: s2) c2 w2) = .mk n m (t :: s) c w := if_neg (fun h2 => h2.elim (fun h3 => by simp [Val.sv] at h3) fun h3 => h ((laterC_cases ..).1 h3.2))
theorem _root_.zO4 : type_of% @laterF_not := @laterF_not
theorem lt3_tri (n m : Int) (t : Bs) (n2 m2 : Int) (t2 : Bs) : LT3 n m t n2 m2 t2 ∨ (n = n2 ∧ m = m2 ∧ t = t2) ∨ LT3 n2 m2 t2 n m t := by
 unfold LT3
 rcases Int.lt_trichotomy n n2 with h | h | h
 ·exact .inl (.inl h)
 ·rcases Int.lt_trichotomy m m2 with h2 | h2 | h2
  ·exact .inl (.inr ⟨h, .inl h2⟩)
  ·rcases ltB_total t t2 with h3 | h3 | h3
   ·exact .inl (.inr ⟨h, .inr ⟨h2, h3⟩⟩)
   ·exact .inr (.inl ⟨h, h2, h3⟩)
   ·exact .inr (.inr (.inr ⟨h.symm, .inr ⟨h2.symm, h3⟩⟩))
  ·exact .inr (.inr (.inr ⟨h.symm, .inl h2⟩))
 ·exact .inr (.inr (.inl h))
theorem lt3_asymm {n m : Int} {t : Bs} {n2 m2 : Int} {t2 : Bs} (h : LT3 n m t n2 m2 t2) : ¬ LT3 n2 m2 t2 n m t := by
 unfold LT3 at *
 rintro (h2 | ⟨_, h2 | ⟨_, h2⟩⟩)
 ·omega
 ·omega
 ·rcases h with h | ⟨_, h | ⟨_, h⟩⟩
  ·omega
  ·omega
  ·exact ltB_asymm h h2
theorem laterF_comm {a b : Val} (ha : isLV a = true) (hb : isLV b = true) : laterF a b = laterF b a := by
 rcases lv_form ha with rfl | ⟨n, m, t, rfl, _, _⟩ <;> rcases lv_form hb with rfl | ⟨n2, m2, t2, rfl, _, _⟩
 ·rfl
 ·unfold laterF; simp [noV, Val.sv]
 ·unfold laterF; simp [noV, Val.sv]
 ·rcases lt3_tri n m t n2 m2 t2 with h | ⟨rfl, rfl, rfl⟩ | h
  ·rw [zN4 _ _ _ _ _ _ h, zO4 _ _ _ _ _ _ (lt3_asymm h)]
  ·rfl
  ·rw [zN4 _ _ _ _ _ _ h, zO4 _ _ _ _ _ _ (lt3_asymm h)]
theorem laterF_or (a b : Val) : laterF a b = a ∨ laterF a b = b := by
 unfold laterF
 split
 ·exact .inr rfl
 ·exact .inl rfl
theorem lt3_trans {n m : Int} {t : Bs} {n2 m2 : Int} {t2 : Bs} {n3 m3 : Int} {t3 : Bs} (h : LT3 n m t n2 m2 t2) (h2 : LT3 n2 m2 t2 n3 m3 t3) : LT3 n m t n3 m3 t3 := by
 unfold LT3 at *
 rcases h with h | ⟨e, h | ⟨e2, h⟩⟩ <;> rcases h2 with h2 | ⟨f, h2 | ⟨f2, h2⟩⟩
 ·exact .inl (by omega)
 ·exact .inl (by omega)
 ·exact .inl (by omega)
 ·exact .inl (by omega)
 ·exact .inr ⟨by omega, .inl (by omega)⟩
 ·exact .inr ⟨by omega, .inl (by omega)⟩
 ·exact .inl (by omega)
 ·exact .inr ⟨by omega, .inl (by omega)⟩
 ·exact .inr ⟨by omega, .inr ⟨by omega, zR6 h h2⟩⟩
theorem later_no (b : Val) : laterF noV b = b := if_pos (.inl rfl)
theorem later_no_r {a : Val} (ha : isLV a = true) : laterF a noV = a := by
 rw [laterF_comm ha (by unfold isLV noV; rw [zW0 6]; rfl), later_no]
theorem laterF_assoc {a b c : Val} (ha : isLV a = true) (hb : isLV b = true) (hc : isLV c = true) : laterF (laterF a b) c = laterF a (laterF b c) := by
 rcases lv_form ha with rfl | ⟨n, m, t, rfl, _, _⟩
 ·rw [later_no, later_no]
 ·rcases lv_form hb with rfl | ⟨n2, m2, t2, rfl, _, _⟩
  ·rw [later_no_r ha, later_no]
  ·rcases lv_form hc with rfl | ⟨n3, m3, t3, rfl, _, _⟩
   ·rw [later_no_r hb]
    rcases laterF_or (.mk n m [t] [] []) (.mk n2 m2 [t2] [] []) with e | e <;> rw [e]
    ·exact later_no_r ha
    ·exact later_no_r hb
   ·by_cases h1 : LT3 n m t n2 m2 t2 <;> by_cases h2 : LT3 n2 m2 t2 n3 m3 t3
    ·rw [zN4 _ _ _ _ _ _ h1, zN4 _ _ _ _ _ _ h2, zN4 _ _ _ _ _ _ (lt3_trans h1 h2)]
    ·rw [zN4 _ _ _ _ _ _ h1, zO4 _ _ _ _ _ _ h2, zN4 _ _ _ _ _ _ h1]
    ·rw [zO4 _ _ _ _ _ _ h1, zN4 _ _ _ _ _ _ h2]
    ·rw [zO4 _ _ _ _ _ _ h1, zO4 _ _ _ _ _ _ h2, zO4 _ _ _ _ _ _ h1]
     refine zO4 _ _ _ _ _ _ fun h3 => ?_
     rcases lt3_tri n2 m2 t2 n3 m3 t3 with h4 | ⟨rfl, rfl, rfl⟩ | h4
     ·exact h2 h4
     ·exact h1 h3
     ·exact h1 (lt3_trans h3 h4)
section
def mapL (l : List (Bs × Val)) : Val := .mk 0 0 (l.map (·.1)) [] (l.map (·.2))
def cauL (l : List (List Tk × Val)) : Val := .mk 0 0 [] (l.map (·.1)) (l.map (·.2))
theorem zip_map {κ : Type} (l : List (κ × Val)) : (l.map (·.1)).zip (l.map (·.2)) = l := by
 induction l with
 | nil => rfl
 | cons e l ih => simp [ih]
theorem map_zip {κ : Type} : ∀ {a : List κ} {b : List Val}, a.length = b.length → (a.zip b).map (·.1) = a ∧ (a.zip b).map (·.2) = b
 | [], [], _ => ⟨rfl, rfl⟩
 | x :: a, y :: b, h => by
  have := map_zip (a := a) (b := b) (by simpa using h)
  simp [this.1, this.2]
theorem entX_map_ (l : List (Bs × Val)) : entX (mapL l) = l := zip_map l
theorem _root_.zZ2 : type_of% @entX_map_ := @entX_map_
theorem entC_cau (l : List (List Tk × Val)) : entC (cauL l) = l := zip_map l
theorem _root_.zO3 : type_of% @entC_cau := @entC_cau
theorem mapL_ent {s : List Bs} {w : List Val} (h : s.length = w.length) : mapL (s.zip w) = .mk 0 0 s [] w := by unfold mapL; rw [(map_zip h).1, (map_zip h).2]
theorem cauL_ent {c : List (List Tk)} {w : List Val} (h : c.length = w.length) : cauL (c.zip w) = .mk 0 0 [] c w := by unfold cauL; rw [(map_zip h).1, (map_zip h).2]
def ClkOk (c : List Tk) : Prop := Go.MV.Up c ∧ Go.MV.Pos c ∧ ∀ t ∈ c, 0 ≤ t.1 ∧ t.1 ≤ 1000000
theorem up_at {c : List Tk} (h : Go.MV.Up c) {j : Nat} {p t : Tk} (hp : c[j]? = some p) (ht : c[j + 1]? = some t) : p.1 < t.1 := by
 obtain ⟨h1, e1⟩ := zH.1 hp
 obtain ⟨h2, e2⟩ := zH.1 ht
 have := List.pairwise_iff_getElem.1 h j (j + 1) h1 h2 (by omega)
 rw [e1, e2] at this
 exact this
theorem isClock_iff {c : List Tk} (hu : ∀ t ∈ c, okTk t) : isClockF c = true ↔ ClkOk c ∧ c.length ≤ 40 := by
 constructor
 ·intro h
  obtain ⟨h1, h2, h3⟩ := isClock_spec h hu
  refine ⟨⟨h1, h2, fun t ht => ?_⟩, h3⟩
  unfold isClockF at h
  rw [Bool.and_eq_true, decide_eq_true_eq] at h
  obtain ⟨j, hj, rfl⟩ := List.mem_iff_getElem.1 ht
  have := h.1 j hj
  unfold okAt at this
  rw [zD hj] at this
  simp only [Bool.and_eq_true, Bool.not_eq_true', decide_eq_false_iff_not] at this
  omega
 ·rintro ⟨⟨h1, h2, h3⟩, h4⟩
  unfold isClockF
  rw [Bool.and_eq_true, decide_eq_true_eq, decide_eq_true_eq]
  refine ⟨fun j hj => ?_, h4⟩
  unfold okAt
  rw [zD hj]
  have hm := List.getElem_mem hj
  have a1 := h3 _ hm
  have a2 := h2 _ hm
  simp only [Bool.and_eq_true, Bool.not_eq_true', decide_eq_false_iff_not, Bool.or_eq_true, beq_eq_false_iff_ne, ne_eq]
  refine ⟨⟨⟨by omega, by omega⟩, by omega⟩, ?_⟩
  cases j with
  | zero => exact .inl rfl
  | succ j =>
   refine .inr ?_
   rw [Nat.add_sub_cancel, zD (by omega : j < c.length)]
   have := up_at h1 (zD (by omega : j < c.length)) (zD hj)
   simp only [Bool.not_eq_true', decide_eq_false_iff_not]
   omega
theorem _root_.zI5 : type_of% @isClock_iff := @isClock_iff
theorem clkOk_join {a b : List Tk} (ha : ClkOk a) (hb : ClkOk b) : ClkOk (joinF a b) := by
 obtain ⟨h1, h2, _⟩ := join_laws _ (Nat.le_refl _) ha.1 hb.1 ha.2.1 hb.2.1
 refine ⟨h1, h2, fun t ht => ?_⟩
 rcases join_mem _ (Nat.le_refl _) t ht with ⟨s, hs, e⟩ | ⟨s, hs, e⟩
 ·rw [← e]; exact ha.2.2 s hs
 ·rw [← e]; exact hb.2.2 s hs
theorem _root_.zS3 : type_of% @clkOk_join := @clkOk_join
theorem clk_ext {a b : List Tk} (ha : ClkOk a) (hb : ClkOk b) (h : ∀ w, ofF a w = ofF b w) : a = b := clock_ext ha.1 hb.1 ha.2.1 hb.2.1 h
theorem of_join {a b : List Tk} (ha : ClkOk a) (hb : ClkOk b) (w : Int) : ofF (joinF a b) w = max (ofF a w) (ofF b w) := (join_laws _ (Nat.le_refl _) ha.1 hb.1 ha.2.1 hb.2.1).2.2 w
theorem clk_comm {a b : List Tk} (ha : ClkOk a) (hb : ClkOk b) : joinF a b = joinF b a := clk_ext (zS3 ha hb) (zS3 hb ha) fun w => by rw [of_join ha hb, of_join hb ha]; omega
theorem clk_assoc {a b c : List Tk} (ha : ClkOk a) (hb : ClkOk b) (hc : ClkOk c) : joinF (joinF a b) c = joinF a (joinF b c) := clk_ext (zS3 (zS3 ha hb) hc) (zS3 ha (zS3 hb hc)) fun w => by
 rw [of_join (zS3 ha hb) hc, of_join ha hb, of_join ha (zS3 hb hc), of_join hb hc]; omega
theorem clk_idem {a : List Tk} (ha : ClkOk a) : joinF a a = a := clk_ext (zS3 ha ha) ha fun w => by rw [of_join ha ha]; omega
def blwC (a b : List Tk) : Prop := cmpF a b = -1
theorem blw_iff {a b : List Tk} (ha : ClkOk a) (hb : ClkOk b) : blwC a b ↔ a ≠ b ∧ ∀ w, ofF a w ≤ ofF b w := by
 unfold blwC cmpF
 have hj : joinF a b = b ↔ ∀ w, ofF a w ≤ ofF b w := by
  constructor
  ·intro h w
   have := of_join ha hb w
   rw [h] at this
   omega
  ·intro h
   exact clk_ext (zS3 ha hb) hb fun w => by rw [of_join ha hb]; have := h w; omega
 by_cases he : a = b
 ·simp [he]
 ·rw [if_neg he]
  by_cases h : joinF a b = b
  ·rw [if_pos h]; simp [he, hj.1 h]
  ·rw [if_neg h]
   have h' : ¬ ∀ w, ofF a w ≤ ofF b w := fun h2 => h (hj.2 h2)
   split <;> simp [h']
theorem poC : PoK blwC ClkOk where
 irr a ha h := ((blw_iff ha ha).1 h).1 rfl
 tr a b c ha hb hc h1 h2 := by
  have k1 := (blw_iff ha hb).1 h1
  have k2 := (blw_iff hb hc).1 h2
  refine (blw_iff ha hc).2 ⟨fun e => ?_, fun w => Int.le_trans (k1.2 w) (k2.2 w)⟩
  subst e
  exact k1.1 (clk_ext ha hb fun w => Int.le_antisymm (k1.2 w) (k2.2 w))
theorem cmp_two {a b : List Tk} (ha : ClkOk a) (hb : ClkOk b) : cmpF a b = 2 ↔ a ≠ b ∧ ¬ blwC a b ∧ ¬ blwC b a := by
 have hc := clk_comm ha hb
 unfold blwC cmpF
 rw [← hc]
 by_cases he : a = b
 ·simp [he]
 ·have he' : ¬ b = a := fun e => he e.symm
  rw [if_neg he, if_neg he']
  by_cases h1 : joinF a b = b <;> by_cases h2 : joinF a b = a
  ·exact absurd (h2.symm.trans h1) he
  ·simp [h1, he, he']
  ·simp [h2, he, he']
  ·simp [h1, h2, he, he']
def clkW (c : List Tk) : Val := if c.length = 0 then noV else .mk 0 0 [] [c] []
theorem clkW_nil : clkW [] = noV := rfl
theorem clkW_cons {c : List Tk} (h : c ≠ []) : clkW c = .mk 0 0 [] [c] [] := by
 cases c with
 | nil => exact absurd rfl h
 | cons x c => rfl
theorem _root_.zA3 : type_of% @clkW_cons := @clkW_cons
theorem joinF_ne {a b : List Tk} (h : a ≠ []) : joinF a b ≠ [] := by
 cases a with
 | nil => exact absurd rfl h
 | cons x a =>
  cases b with
  | nil => rw [join_nil]; simp
  | cons y b =>
   rw [join_cons]
   split
   ·simp
   ·split <;> simp
theorem clocksF_clk (a b : List Tk) : clocksF (clkW a) (clkW b) = clkW (joinF a b) := by
 cases a with
 | nil => rw [nil_join]; rfl
 | cons x a =>
  cases b with
  | nil => rw [join_nil]; rfl
  | cons y b => rw [zA3 (joinF_ne (by simp))]; rfl
theorem _root_.zT2 : type_of% @clocksF_clk := @clocksF_clk
structure SemiB (P : Val → Prop) (f : Val → Val → Val) (b : Val) : Prop extends SemiL P f where
 bot : P b
 neut : ∀ x, P x → f x b = x
def U64 (n : Int) : Prop := 0 ≤ n ∧ n < 18446744073709551616
def N1 (v : Val) : Prop := ∃ n, v = .mk n 0 [] [] [] ∧ U64 n
def N2 (v : Val) : Prop := ∃ n, v = .mk n 0 [] [] [] ∧ 0 ≤ n ∧ n ≤ 1
def N6 (v : Val) : Prop := isLV v = true ∧ okV v
def N3 (v : Val) : Prop := ∃ s, v = .mk 0 0 s [] [] ∧ Up s ∧ ∀ x ∈ s, x.length ≤ 16
structure R4 (p : Val → Prop) (b : Val) (l : List (Bs × Val)) : Prop where
 srt : SrtK cmpX l
 sh : ∀ e ∈ l, e.1.length ≤ 16
 all : AllV p l
 non : ∀ e ∈ l, e.2 ≠ b
def N4 (p : Val → Prop) (b : Val) (v : Val) : Prop := ∃ l, v = mapL l ∧ R4 p b l
def N5 (p q : Val → Prop) (v : Val) : Prop := ∃ x y, v = .mk 0 0 [] [] [x, y] ∧ p x ∧ q y
def N7 (v : Val) : Prop := ∃ c, v = clkW c ∧ ClkOk c
structure R8 (p : Val → Prop) (l : List (List Tk × Val)) : Prop where
 srt : SrtK byTicksF l
 key : AllK ClkOk l
 len : ∀ e ∈ l, e.1.length ≤ 40
 all : AllV p l
 anti : AntiK blwC l
def N8 (p : Val → Prop) (v : Val) : Prop := ∃ l, v = cauL l ∧ R8 p l
def LVB (k : Int) (bs : List Val) (ps : List (Val → Prop)) (v : Val) : Prop :=
 if k = 1 then N1 v else if k = 2 then N2 v else if k = 3 then N3 v
 else if k = 4 then N4 (ps.headD fun _ => False) (bs.headD noV) v
 else if k = 5 then N5 (ps.headD fun _ => False) (ps.tail.headD fun _ => False) v
 else if k = 6 then N6 v else if k = 7 then N7 v else N8 (ps.headD fun _ => False) v
mutual
def LV : Sch → Val → Prop
 | .mk k ins, v => LVB k (bottomL ins) (LVL ins) v
def LVL : List Sch → List (Val → Prop)
 | [] => []
 | s :: l => LV s :: LVL l
end
noncomputable def jnB (k : Int) (fs : List (Val → Val → Val)) (a b : Val) : Val :=
 if k = 1 ∨ k = 2 then .mk (max a.nv b.nv) 0 [] [] []
 else if k = 3 then .mk 0 0 (bothX a.sv b.sv) [] []
 else if k = 4 then mapL (mergeG cmpX (fs.headD fun x _ => x) (entX a) (entX b))
 else if k = 5 then (match a.vv, b.vv with | [x, y], [x2, y2] => .mk 0 0 [] [] [fs.headD (fun x _ => x) x x2, fs.tail.headD (fun x _ => x) y y2] | _, _ => noV)
 else if k = 6 then laterF a b
 else if k = 7 then clocksF a b
 else cauL (topG byTicksF blwC (fs.headD fun x _ => x) (entC a) (entC b))
mutual
noncomputable def jn : Sch → Val → Val → Val
 | .mk k ins, a, b => jnB k (jnL ins) a b
noncomputable def jnL : List Sch → List (Val → Val → Val)
 | [] => []
 | s :: l => jn s :: jnL l
end
theorem jn_mk (k : Int) (ins : List Sch) (a b : Val) : jn (.mk k ins) a b = jnB k (jnL ins) a b := by rw [jn]
theorem LV_mk (k : Int) (ins : List Sch) (v : Val) : LV (.mk k ins) v = LVB k (bottomL ins) (LVL ins) v := by rw [LV]
theorem bot_mk (k : Int) (ins : List Sch) : bottomF (.mk k ins) = if k = 5 then .mk 0 0 [] [] (bottomL ins) else noV := by rw [bottomF]
theorem _root_.zX4 : type_of% @bot_mk := @bot_mk
theorem sem1 (fs : List (Val → Val → Val)) : SemiB N1 (jnB 1 fs) noV where
 cl := by rintro _ _ ⟨n, rfl, hn⟩ ⟨m, rfl, hm⟩; exact ⟨max n m, rfl, by unfold U64 at *; omega⟩
 comm := by
  rintro _ _ ⟨n, rfl, hn⟩ ⟨m, rfl, hm⟩
  show Val.mk (max n m) 0 [] [] [] = .mk (max m n) 0 [] [] []
  rw [show max n m = max m n by omega]
 assoc := by
  rintro _ _ _ ⟨n, rfl, hn⟩ ⟨m, rfl, hm⟩ ⟨r, rfl, hr⟩
  show Val.mk (max (max n m) r) 0 [] [] [] = .mk (max n (max m r)) 0 [] [] []
  rw [show max (max n m) r = max n (max m r) by omega]
 idem := by
  rintro _ ⟨n, rfl, hn⟩
  show Val.mk (max n n) 0 [] [] [] = _
  rw [show max n n = n by omega]
 bot := ⟨0, rfl, by unfold U64; omega⟩
 neut := by
  rintro _ ⟨n, rfl, hn⟩
  show Val.mk (max n 0) 0 [] [] [] = _
  rw [show max n 0 = n by unfold U64 at hn; omega]
theorem sem2 (fs : List (Val → Val → Val)) : SemiB N2 (jnB 2 fs) noV where
 cl := by rintro _ _ ⟨n, rfl, hn⟩ ⟨m, rfl, hm⟩; exact ⟨max n m, rfl, by omega, by omega⟩
 comm := by
  rintro _ _ ⟨n, rfl, hn⟩ ⟨m, rfl, hm⟩
  show Val.mk (max n m) 0 [] [] [] = .mk (max m n) 0 [] [] []
  rw [show max n m = max m n by omega]
 assoc := by
  rintro _ _ _ ⟨n, rfl, hn⟩ ⟨m, rfl, hm⟩ ⟨r, rfl, hr⟩
  show Val.mk (max (max n m) r) 0 [] [] [] = .mk (max n (max m r)) 0 [] [] []
  rw [show max (max n m) r = max n (max m r) by omega]
 idem := by
  rintro _ ⟨n, rfl, hn⟩
  show Val.mk (max n n) 0 [] [] [] = _
  rw [show max n n = n by omega]
 bot := ⟨0, rfl, by omega, by omega⟩
 neut := by
  rintro _ ⟨n, rfl, hn⟩
  show Val.mk (max n 0) 0 [] [] [] = _
  rw [show max n 0 = n by omega]
theorem bothX_nil : ∀ a : List Bs, bothX a [] = a
 | [] => by rw [bothX]
 | x :: a => by rw [bothX, bothX_nil a]
theorem sem3 (fs : List (Val → Val → Val)) : SemiB N3 (jnB 3 fs) noV where
 cl := by
  rintro _ _ ⟨s, rfl, hs, ls⟩ ⟨u, rfl, hu, lu⟩
  refine ⟨bothX s u, rfl, zM6 s u hs hu, fun x hx => ?_⟩
  rcases (zG3 s u x).1 hx with h | h
  ·exact ls x h
  ·exact lu x h
 comm := by
  rintro _ _ ⟨s, rfl, hs, ls⟩ ⟨u, rfl, hu, lu⟩
  show Val.mk 0 0 (bothX s u) [] [] = .mk 0 0 (bothX u s) [] []
  rw [up_ext (zM6 s u hs hu) (zM6 u s hu hs) fun x => by rw [zG3, zG3, or_comm]]
 assoc := by
  rintro _ _ _ ⟨s, rfl, hs, ls⟩ ⟨u, rfl, hu, lu⟩ ⟨w, rfl, hw, lw⟩
  show Val.mk 0 0 (bothX (bothX s u) w) [] [] = .mk 0 0 (bothX s (bothX u w)) [] []
  rw [up_ext (zM6 _ _ (zM6 s u hs hu) hw) (zM6 _ _ hs (zM6 u w hu hw)) fun x => by rw [zG3, zG3, zG3, zG3, or_assoc]]
 idem := by
  rintro _ ⟨s, rfl, hs, ls⟩
  show Val.mk 0 0 (bothX s s) [] [] = _
  rw [up_ext (zM6 s s hs hs) hs fun x => by rw [zG3, or_self]]
 bot := ⟨[], rfl, .nil, by simp⟩
 neut := by
  rintro _ ⟨s, rfl, hs, ls⟩
  show Val.mk 0 0 (bothX s []) [] [] = _
  rw [bothX_nil]
section
variable {p : Val → Prop} {f : Val → Val → Val} {b : Val} (h : SemiB p f b)
include h
theorem ne_bot {x y : Val} (hx : p x) (hy : p y) (hn : x ≠ b) : f x y ≠ b := by
 intro e
 apply hn
 have h1 := h.neut x hx
 rw [← e, ← h.assoc x x y hx hx hy, h.idem x hx, e] at h1
 exact h1.symm
theorem r4_merge {l m : List (Bs × Val)} (hl : R4 p b l) (hm : R4 p b m) : R4 p b (mergeG cmpX f l m) where
 srt := zN3 ordX f l m hl.srt hm.srt
 sh e he := by
  rcases (merge_has (f := f) ordX l m e.1).1 ⟨e, he, rfl⟩ with ⟨x, hx, e2⟩ | ⟨x, hx, e2⟩
  ·rw [← e2]; exact hl.sh x hx
  ·rw [← e2]; exact hm.sh x hx
 all := merge_allV h.toSemiL ordX hl.srt hm.srt hl.all hm.all
 non e he := by
  have hk := zK3 ordX (zN3 ordX f l m hl.srt hm.srt) he
  rw [zL3 ordX f l m hl.srt hm.srt] at hk
  cases h1 : look l e.1 with
  | none =>
   rw [h1] at hk
   exact hm.non _ (zJ3 hk)
  | some x =>
   cases h2 : look m e.1 with
   | none =>
    rw [h1, h2] at hk
    injection hk with hk
    rw [← hk]
    exact hl.non _ (zJ3 h1)
   | some y =>
    rw [h1, h2] at hk
    injection hk with hk
    rw [← hk]
    exact ne_bot h (zD3 hl.all h1) (zD3 hm.all h2) (hl.non _ (zJ3 h1))
theorem sem4 : SemiB (N4 p b) (jnB 4 [f]) noV where
 cl := by
  rintro _ _ ⟨l, rfl, hl⟩ ⟨m, rfl, hm⟩
  show N4 p b (mapL (mergeG cmpX f (entX (mapL l)) (entX (mapL m))))
  rw [zZ2, zZ2]
  exact ⟨_, rfl, r4_merge h hl hm⟩
 comm := by
  rintro _ _ ⟨l, rfl, hl⟩ ⟨m, rfl, hm⟩
  show mapL (mergeG cmpX f (entX (mapL l)) (entX (mapL m))) = mapL (mergeG cmpX f (entX (mapL m)) (entX (mapL l)))
  rw [zZ2, zZ2, mergeG_comm h.toSemiL ordX hl.srt hm.srt hl.all hm.all]
 assoc := by
  rintro _ _ _ ⟨l, rfl, hl⟩ ⟨m, rfl, hm⟩ ⟨r, rfl, hr⟩
  show mapL (mergeG cmpX f (entX (mapL (mergeG cmpX f (entX (mapL l)) (entX (mapL m))))) (entX (mapL r))) = mapL (mergeG cmpX f (entX (mapL l)) (entX (mapL (mergeG cmpX f (entX (mapL m)) (entX (mapL r))))))
  simp only [zZ2]
  rw [mergeG_assoc h.toSemiL ordX hl.srt hm.srt hr.srt hl.all hm.all hr.all]
 idem := by
  rintro _ ⟨l, rfl, hl⟩
  show mapL (mergeG cmpX f (entX (mapL l)) (entX (mapL l))) = _
  rw [zZ2, mergeG_idem h.toSemiL ordX hl.srt hl.all]
 bot := ⟨[], rfl, .nil, by simp, by simp [AllV], by simp⟩
 neut := by
  rintro _ ⟨l, rfl, hl⟩
  show mapL (mergeG cmpX f (entX (mapL l)) []) = _
  rw [zZ2, mergeG_nil]
theorem r8_top {l m : List (List Tk × Val)} (hl : R8 p l) (hm : R8 p m) : R8 p (topG byTicksF blwC f l m) where
 srt := top_srt ordT hl.srt hm.srt
 key := top_allK ordT hl.key hm.key
 len := top_allK (Q := fun c : List Tk => c.length ≤ 40) ordT hl.len hm.len
 all := top_allV h.toSemiL ordT hl.srt hm.srt hl.all hm.all
 anti := top_anti ordT l m
theorem sem8 : SemiB (N8 p) (jnB 8 [f]) noV where
 cl := by
  rintro _ _ ⟨l, rfl, hl⟩ ⟨m, rfl, hm⟩
  show N8 p (cauL (topG byTicksF blwC f (entC (cauL l)) (entC (cauL m))))
  rw [zO3, zO3]
  exact ⟨_, rfl, r8_top h hl hm⟩
 comm := by
  rintro _ _ ⟨l, rfl, hl⟩ ⟨m, rfl, hm⟩
  show cauL (topG byTicksF blwC f (entC (cauL l)) (entC (cauL m))) = cauL (topG byTicksF blwC f (entC (cauL m)) (entC (cauL l)))
  rw [zO3, zO3, topG_comm h.toSemiL ordT hl.srt hm.srt hl.all hm.all]
 assoc := by
  rintro _ _ _ ⟨l, rfl, hl⟩ ⟨m, rfl, hm⟩ ⟨r, rfl, hr⟩
  show cauL (topG byTicksF blwC f (entC (cauL (topG byTicksF blwC f (entC (cauL l)) (entC (cauL m))))) (entC (cauL r))) = cauL (topG byTicksF blwC f (entC (cauL l)) (entC (cauL (topG byTicksF blwC f (entC (cauL m)) (entC (cauL r))))))
  simp only [zO3]
  rw [topG_assoc h.toSemiL poC ordT hl.srt hm.srt hr.srt hl.all hm.all hr.all hl.key hm.key hr.key]
 idem := by
  rintro _ ⟨l, rfl, hl⟩
  show cauL (topG byTicksF blwC f (entC (cauL l)) (entC (cauL l))) = _
  rw [zO3, topG_idem h.toSemiL ordT hl.srt hl.all hl.anti]
 bot := ⟨[], rfl, .nil, by simp [AllK], by simp, by simp [AllV], by simp [AntiK]⟩
 neut := by
  rintro _ ⟨l, rfl, hl⟩
  show cauL (topG byTicksF blwC f (entC (cauL l)) []) = _
  rw [zO3, topG_nil hl.anti]
end
theorem sem5 {p q : Val → Prop} {f g : Val → Val → Val} {b c : Val} (h : SemiB p f b) (k : SemiB q g c) : SemiB (N5 p q) (jnB 5 [f, g]) (.mk 0 0 [] [] [b, c]) where
 cl := by
  rintro _ _ ⟨x, y, rfl, hx, hy⟩ ⟨x2, y2, rfl, hx2, hy2⟩
  exact ⟨f x x2, g y y2, rfl, h.cl _ _ hx hx2, k.cl _ _ hy hy2⟩
 comm := by
  rintro _ _ ⟨x, y, rfl, hx, hy⟩ ⟨x2, y2, rfl, hx2, hy2⟩
  show Val.mk 0 0 [] [] [f x x2, g y y2] = .mk 0 0 [] [] [f x2 x, g y2 y]
  rw [h.comm _ _ hx hx2, k.comm _ _ hy hy2]
 assoc := by
  rintro _ _ _ ⟨x, y, rfl, hx, hy⟩ ⟨x2, y2, rfl, hx2, hy2⟩ ⟨x3, y3, rfl, hx3, hy3⟩
  show Val.mk 0 0 [] [] [f (f x x2) x3, g (g y y2) y3] = .mk 0 0 [] [] [f x (f x2 x3), g y (g y2 y3)]
  rw [h.assoc _ _ _ hx hx2 hx3, k.assoc _ _ _ hy hy2 hy3]
 idem := by
  rintro _ ⟨x, y, rfl, hx, hy⟩
  show Val.mk 0 0 [] [] [f x x, g y y] = _
  rw [h.idem _ hx, k.idem _ hy]
 bot := ⟨b, c, rfl, h.bot, k.bot⟩
 neut := by
  rintro _ ⟨x, y, rfl, hx, hy⟩
  show Val.mk 0 0 [] [] [f x b, g y c] = _
  rw [h.neut _ hx, k.neut _ hy]
theorem isLV_no : isLV noV = true := by unfold isLV noV; rw [zW0 6]; rfl
theorem sem6 (fs : List (Val → Val → Val)) : SemiB N6 (jnB 6 fs) noV where
 cl := by
  rintro a b ⟨ha, oa⟩ ⟨hb, ob⟩
  show N6 (laterF a b)
  rcases laterF_or a b with e | e <;> rw [e]
  ·exact ⟨ha, oa⟩
  ·exact ⟨hb, ob⟩
 comm := by rintro a b ⟨ha, oa⟩ ⟨hb, ob⟩; exact laterF_comm ha hb
 assoc := by rintro a b c ⟨ha, oa⟩ ⟨hb, ob⟩ ⟨hc, oc⟩; exact laterF_assoc ha hb hc
 idem := by
  rintro a ⟨ha, oa⟩
  show laterF a a = a
  rcases laterF_or a a with e | e <;> exact e
 bot := ⟨isLV_no, okV_no⟩
 neut := by rintro a ⟨ha, oa⟩; exact later_no_r ha
theorem sem7 (fs : List (Val → Val → Val)) : SemiB N7 (jnB 7 fs) noV where
 cl := by
  rintro _ _ ⟨a, rfl, ha⟩ ⟨b, rfl, hb⟩
  show N7 (clocksF (clkW a) (clkW b))
  rw [zT2]
  exact ⟨_, rfl, zS3 ha hb⟩
 comm := by
  rintro _ _ ⟨a, rfl, ha⟩ ⟨b, rfl, hb⟩
  show clocksF (clkW a) (clkW b) = clocksF (clkW b) (clkW a)
  rw [zT2, zT2, clk_comm ha hb]
 assoc := by
  rintro _ _ _ ⟨a, rfl, ha⟩ ⟨b, rfl, hb⟩ ⟨c, rfl, hc⟩
  show clocksF (clocksF (clkW a) (clkW b)) (clkW c) = clocksF (clkW a) (clocksF (clkW b) (clkW c))
  rw [zT2, zT2, zT2, zT2, clk_assoc ha hb hc]
 idem := by
  rintro _ ⟨a, rfl, ha⟩
  show clocksF (clkW a) (clkW a) = _
  rw [zT2, clk_idem ha]
 bot := ⟨[], rfl, .nil, by simp [Go.MV.Pos], by simp⟩
 neut := by
  rintro _ ⟨a, rfl, ha⟩
  show clocksF (clkW a) (clkW []) = _
  rw [zT2, join_nil]
theorem LVL_one (t : Sch) : LVL [t] = [LV t] := by simp [LVL]
theorem _root_.zT3 : type_of% @LVL_one := @LVL_one
theorem jnL_one (t : Sch) : jnL [t] = [jn t] := by simp [jnL]
theorem sem : ∀ (d : Nat) (s : Sch), isF d s = true → SemiB (LV s) (jn s) (bottomF s)
 | 0, s, h => by simp [isF] at h
 | d + 1, .mk k ins, h => by
  rw [isF] at h
  simp only [Bool.and_eq_true, List.all_eq_true, beq_iff_eq] at h
  have e1 : LV (.mk k ins) = LVB k (bottomL ins) (LVL ins) := funext fun v => LV_mk k ins v
  have e2 : jn (.mk k ins) = jnB k (jnL ins) := funext fun a => funext fun b => jn_mk k ins a b
  rw [e1, e2, zX4]
  rcases k8_of h.1 with rfl | rfl | rfl | rfl | rfl | rfl | rfl | rfl
  ·exact sem1 _
  ·exact sem2 _
  ·exact sem3 _
  ·obtain ⟨t1, rfl⟩ := zX2 h.1 (by decide)
   have ih := sem d t1 (h.2 _ (by simp))
   rw [zT3, jnL_one, zN2]
   exact sem4 ih
  ·obtain ⟨t1, t2, rfl⟩ := zQ5 h.1
   have ih1 := sem d t1 (h.2 _ (by simp))
   have ih2 := sem d t2 (h.2 _ (by simp))
   rw [zN2, show LVL [t1, t2] = [LV t1, LV t2] by simp [LVL], show jnL [t1, t2] = [jn t1, jn t2] by simp [jnL]]
   exact sem5 ih1 ih2
  ·exact sem6 _
  ·exact sem7 _
  ·obtain ⟨t1, rfl⟩ := zX2 h.1 (by decide)
   have ih := sem d t1 (h.2 _ (by simp))
   rw [zT3, jnL_one, zN2]
   exact sem8 ih
theorem map_filter_ {κ : Type} (g : Ent κ → κ × Val) (p : κ → Bool) (hg : ∀ e, (g e).1 = e.1) : ∀ l : List (Ent κ), (l.filter fun e => p e.1).map g = (l.map g).filter fun e => p e.1
 | [] => rfl
 | e :: l => by
  rw [List.map_cons]
  by_cases h : p e.1 = true
  ·rw [List.filter_cons_of_pos (p := fun e : Ent κ => p e.1) h, List.filter_cons_of_pos (p := fun e : κ × Val => p e.1) (by rw [hg]; exact h), List.map_cons, map_filter_ g p hg l]
  ·rw [List.filter_cons_of_neg (p := fun e : Ent κ => p e.1) h, List.filter_cons_of_neg (p := fun e : κ × Val => p e.1) (by rw [hg]; exact h), map_filter_ g p hg l]
theorem top_eq (g : Val → Val → Val) (a b : List (List Tk × Val)) : ((mergeE byTicksF a b).filter fun e => !seenE (mergeE byTicksF a b) e).map (fun e => (e.1, fillE g e)) = topG byTicksF blwC g a b := by
 classical
 unfold topG
 have h : ∀ k, (!(mergeE byTicksF a b).any fun o => decide (cmpF k o.1 = -1)) = decide (¬ Dead blwC (HasK (mergeG byTicksF g a b)) k) := by
  intro k
  have : (mergeE byTicksF a b).any (fun o => decide (cmpF k o.1 = -1)) = true ↔ Dead blwC (HasK (mergeG byTicksF g a b)) k := by
   rw [List.any_eq_true]
   unfold Dead HasK mergeG blwC
   constructor
   ·rintro ⟨o, ho, hc⟩
    exact ⟨o.1, ⟨_, List.mem_map.2 ⟨o, ho, rfl⟩, rfl⟩, by simpa using hc⟩
   ·rintro ⟨_, ⟨e, he, rfl⟩, hc⟩
    obtain ⟨o, ho, rfl⟩ := List.mem_map.1 he
    exact ⟨o, ho, by simpa using hc⟩
  cases hb : (mergeE byTicksF a b).any (fun o => decide (cmpF k o.1 = -1)) with
  | true =>
   have hd := this.1 hb
   simp [hd]
  | false =>
   have hd : ¬ Dead blwC (HasK (mergeG byTicksF g a b)) k := fun hd => by rw [this.2 hd] at hb; cases hb
   simp [hd]
 have h2 := map_filter_ (fun e : Ent (List Tk) => (e.1, fillE g e)) (fun k => !(mergeE byTicksF a b).any fun o => decide (cmpF k o.1 = -1)) (fun _ => rfl) (mergeE byTicksF a b)
 refine Eq.trans h2 ?_
 unfold mergeG at h ⊢
 exact List.filter_congr fun e _ => h e.1
theorem goE_fill {κ : Type} {f : Val → Val → Option Val} {g : Val → Val → Val} : ∀ {l : List (Ent κ)} {x : List (κ × Val)}, (∀ e ∈ l, ∀ y, e.2.2 = some y → ∀ v, f e.2.1 y = some v → v = g e.2.1 y) → goE f l = some x → x = l.map fun e => (e.1, fillE g e)
 | [], x, _, h => by simp [goE] at h; simp [h]
 | e :: l, x, hl, h => by
  rw [goE] at h
  cases ho : ofE f e with
  | none => rw [ho] at h; cases h
  | some v =>
   rw [ho] at h
   cases hg : goE f l with
   | none => rw [hg] at h; cases h
   | some y =>
    rw [hg] at h
    injection h with h
    rw [← h, List.map_cons, ← goE_fill (fun e he => hl e (.tail _ he)) hg]
    show (e.1, v) :: y = (e.1, fillE g e) :: y
    congr 2
    unfold ofE at ho
    unfold fillE
    cases he : e.2.2 with
    | none => rw [he] at ho; injection ho with ho; exact ho.symm
    | some w => rw [he] at ho; exact hl e (.head _) w he v ho
theorem both_jn : ∀ (d : Nat) (s : Sch), isF d s = true → ∀ a b v : Val, LV s a → LV s b → bothF s a b = some v → v = jn s a b
 | 0, s, h => by simp [isF] at h
 | d + 1, .mk k ins, h => by
  rw [isF] at h
  simp only [Bool.and_eq_true, List.all_eq_true, beq_iff_eq] at h
  intro a b v ha hb hv
  rw [zH3] at hv
  replace hv := cap_some hv
  rw [LV_mk] at ha hb
  rw [jn_mk]
  rcases k8_of h.1 with rfl | rfl | rfl | rfl | rfl | rfl | rfl | rfl
  ·injection hv with hv; exact hv.symm
  ·injection hv with hv; exact hv.symm
  ·injection hv with hv; exact hv.symm
  ·obtain ⟨t1, rfl⟩ := zX2 h.1 (by decide)
   have ih := both_jn d t1 (h.2 _ (by simp))
   replace hv : mapsF (bothF t1) a b = some v := by rw [← hv]; simp [bothB, bothL]
   rw [zT3, zN2] at ha hb
   obtain ⟨l, rfl, hl⟩ : N4 (LV t1) (bottomF t1) a := ha
   obtain ⟨m, rfl, hm⟩ : N4 (LV t1) (bottomF t1) b := hb
   unfold mapsF mergedX at hv
   obtain ⟨x, hx, rfl⟩ := Option.map_eq_some_iff.1 hv
   rw [jnL_one]
   show mapL x = mapL (mergeG cmpX (jn t1) (entX (mapL l)) (entX (mapL m)))
   rw [zZ2, zZ2] at hx ⊢
   congr 1
   refine goE_fill (fun e he y hy v hv => ?_) hx
   obtain ⟨p, q⟩ := zZ5 _ _ _ e he
   obtain ⟨q1, k, q2⟩ := q y hy
   exact ih _ _ _ (hl.all _ q1) (hm.all _ q2) hv
  ·obtain ⟨t1, t2, rfl⟩ := zQ5 h.1
   have ih1 := both_jn d t1 (h.2 _ (by simp))
   have ih2 := both_jn d t2 (h.2 _ (by simp))
   replace hv : pairF2 [bothF t1, bothF t2] a b = some v := by rw [← hv]; simp [bothB, bothL]
   rw [show LVL [t1, t2] = [LV t1, LV t2] by simp [LVL]] at ha hb
   obtain ⟨x, y, rfl, hx, hy⟩ : N5 (LV t1) (LV t2) a := ha
   obtain ⟨x2, y2, rfl, hx2, hy2⟩ : N5 (LV t1) (LV t2) b := hb
   rw [show jnL [t1, t2] = [jn t1, jn t2] by simp [jnL]]
   show v = .mk 0 0 [] [] [jn t1 x x2, jn t2 y y2]
   unfold pairF2 at hv
   obtain ⟨z, hz, rfl⟩ := Option.map_eq_some_iff.1 hv
   simp only [Val.vv, goP] at hz
   cases h1 : bothF t1 x x2 with
   | none => rw [h1] at hz; cases hz
   | some u =>
    rw [h1] at hz
    cases h2 : bothF t2 y y2 with
    | none => rw [h2] at hz; cases hz
    | some u2 =>
     rw [h2] at hz
     simp at hz
     rw [← hz, ih1 _ _ _ hx hx2 h1, ih2 _ _ _ hy hy2 h2]
  ·injection hv with hv; exact hv.symm
  ·injection hv with hv; exact hv.symm
  ·obtain ⟨t1, rfl⟩ := zX2 h.1 (by decide)
   have ih := both_jn d t1 (h.2 _ (by simp))
   replace hv : causesF (bothF t1) a b = some v := by rw [← hv]; simp [bothB, bothL]
   rw [zT3, zN2] at ha hb
   obtain ⟨l, rfl, hl⟩ : N8 (LV t1) a := ha
   obtain ⟨m, rfl, hm⟩ : N8 (LV t1) b := hb
   unfold causesF mergedC at hv
   obtain ⟨x, hx, rfl⟩ := Option.map_eq_some_iff.1 hv
   rw [jnL_one]
   show cauL x = cauL (topG byTicksF blwC (jn t1) (entC (cauL l)) (entC (cauL m)))
   rw [zO3, zO3] at hx ⊢
   rw [← top_eq]
   congr 1
   refine goE_fill (fun e he y hy v hv => ?_) hx
   obtain ⟨p, q⟩ := zZ5 _ _ _ e (List.mem_filter.1 he).1
   obtain ⟨q1, k, q2⟩ := q y hy
   exact ih _ _ _ (hl.all _ q1) (hm.all _ q2) hv
end
section
theorem cap_not {o : Option Val} {v : Val} (h : capF o = some v) : largeF v = false := by
 cases o with
 | none => cases h
 | some u =>
  unfold capF at h
  simp only [Option.bind_some] at h
  split at h
  ·cases h
  ·rename_i hl; injection h with h; subst h; simpa using hl
theorem row_iff {s : List Bs} : isRowF s = true ↔ s.length ≤ 40 ∧ Up s ∧ ∀ x ∈ s, x.length ≤ 16 := by
 unfold isRowF shortF
 rw [Bool.and_eq_true, Bool.and_eq_true, decide_eq_true_eq, rises_up, List.all_eq_true]
 simp only [decide_eq_true_eq, and_assoc]
theorem _root_.zP3 : type_of% @row_iff := @row_iff
theorem srt_zip {s : List Bs} {w : List Val} (hl : s.length = w.length) (h : Up s) : SrtK cmpX (s.zip w) := by
 unfold SrtK
 have : Up ((s.zip w).map (·.1)) := by rw [(map_zip hl).1]; exact h
 unfold Up at this
 rw [List.pairwise_map] at this
 exact this.imp fun h => cmpX_lt.2 h
theorem srt_up {l : List (Bs × Val)} (h : SrtK cmpX l) : Up (l.map (·.1)) := by
 unfold Up
 rw [List.pairwise_map]
 exact List.Pairwise.imp (fun h => cmpX_lt.1 h) h
theorem isCause_iff {c : List (List Tk)} {w : List Val} (hl : c.length = w.length) (hu : ∀ x ∈ c, ∀ t ∈ x, okTk t) : isCauseF c = true ↔ SrtK byTicksF (c.zip w) ∧ AllK ClkOk (c.zip w) ∧ (∀ e ∈ c.zip w, e.1.length ≤ 40) ∧ AntiK blwC (c.zip w) := by
 have hm := (map_zip hl).1
 have hmem : ∀ x, x ∈ c ↔ ∃ e ∈ c.zip w, e.1 = x := fun x => by
  conv => lhs; rw [← hm]
  simp only [List.mem_map]
 unfold isCauseF
 rw [Bool.and_eq_true, List.all_eq_true, pairsF_iff]
 have hp : ∀ R : List Tk → List Tk → Prop, c.Pairwise R ↔ (c.zip w).Pairwise fun x y => R x.1 y.1 := fun R => by
  conv => lhs; rw [← hm]
  rw [List.pairwise_map]
 constructor
 ·rintro ⟨h1, h2⟩
  have hk : ∀ e ∈ c.zip w, ClkOk e.1 ∧ e.1.length ≤ 40 := fun e he => by
   have hc := (hmem e.1).2 ⟨e, he, rfl⟩
   exact (zI5 (hu _ hc)).1 (h1 _ hc)
  have hpw := (hp _).1 h2
  have hS : SrtK byTicksF (c.zip w) := hpw.imp fun h => h.1
  refine ⟨hS, fun e he => (hk e he).1, fun e he => (hk e he).2, fun x hx y hy hb => ?_⟩
  obtain ⟨i, hi, rfl⟩ := List.mem_iff_getElem.1 hx
  obtain ⟨j, hj, rfl⟩ := List.mem_iff_getElem.1 hy
  have kx := (hk _ hx).1
  have ky := (hk _ hy).1
  rcases Nat.lt_trichotomy i j with h | h | h
  ·have := (List.pairwise_iff_getElem.1 hpw i j hi hj h).2
   exact ((cmp_two kx ky).1 this).2.1 hb
  ·subst h
   exact poC.irr _ kx hb
  ·have := (List.pairwise_iff_getElem.1 hpw j i hj hi h).2
   exact ((cmp_two ky kx).1 this).2.2 hb
 ·rintro ⟨hS, hK, hL, hA⟩
  refine ⟨fun x hx => ?_, (hp _).2 ?_⟩
  ·obtain ⟨e, he, rfl⟩ := (hmem x).1 hx
   exact (zI5 (hu _ hx)).2 ⟨hK e he, hL e he⟩
  ·refine List.Pairwise.imp_of_mem (fun {a b} ha hb h => ?_) hS
   refine ⟨h, (cmp_two (hK a ha) (hK b hb)).2 ⟨fun e => ?_, hA a ha b hb, hA b hb a ha⟩⟩
   rw [e] at h
   exact ordT.irr _ h
theorem bot_eq {d : Nat} {t : Sch} (h : isF d t = true) (hd : d ≤ 16) : BottomF t = bottomF t := by
 unfold BottomF
 rw [if_pos (isF_le hd h)]
theorem _root_.zH6 : type_of% @bot_eq := @bot_eq
theorem lv_of : ∀ (d : Nat) (s : Sch), isF d s = true → d ≤ 16 → ∀ v : Val, okV v → isVF s v = true → LV s v
 | 0, s, h => by simp [isF] at h
 | d + 1, .mk k ins, h => by
  have h0 := h
  rw [isF] at h
  simp only [Bool.and_eq_true, List.all_eq_true, beq_iff_eq] at h
  rintro hd ⟨n, m, s, c, w⟩ ho hv
  have o := zW2.1 ho
  rw [LV_mk]
  rcases k8_of h.1 with rfl | rfl | rfl | rfl | rfl | rfl | rfl | rfl
  ·rw [zW0 1] at hv
   simp [bareF, numsK, textsK, clocksK, valuesK, Val.nv, Val.mv, Val.sv, Val.cv, Val.vv] at hv
   obtain ⟨⟨⟨⟨⟨h1, h2⟩, h3⟩, h4⟩, _⟩, _⟩ := hv
   subst h1 h2 h3 h4
   exact ⟨n, rfl, o.1⟩
  ·rw [zW0 2] at hv
   simp [bareF, numsK, textsK, clocksK, valuesK, Val.nv, Val.mv, Val.sv, Val.cv, Val.vv] at hv
   obtain ⟨⟨⟨⟨⟨⟨h1, h2⟩, h3⟩, h4⟩, _⟩, _⟩, h5⟩ := hv
   subst h1 h2 h3 h4
   exact ⟨n, rfl, o.1.1, h5⟩
  ·rw [zW0 3] at hv
   simp [bareF, numsK, textsK, clocksK, valuesK, Val.nv, Val.mv, Val.sv, Val.cv, Val.vv] at hv
   obtain ⟨⟨⟨⟨⟨⟨h1, h2⟩, h3⟩, h4⟩, _⟩, _⟩, h5⟩ := hv
   subst h1 h2 h3 h4
   exact ⟨s, rfl, (zP3.1 h5).2⟩
  ·obtain ⟨t1, rfl⟩ := zX2 h.1 (by decide)
   have ih := lv_of d t1 (h.2 _ (by simp)) (by omega)
   rw [zT3, zN2]
   rw [zW0 4] at hv
   simp [bareF, numsK, textsK, clocksK, valuesK, Val.nv, Val.mv, Val.sv, Val.cv, Val.vv, isVL] at hv
   obtain ⟨⟨⟨⟨⟨⟨h1, h2⟩, h3⟩, _⟩, _⟩, h4, h5⟩, h6⟩ := (show (((((n = 0 ∧ m = 0) ∧ c = []) ∧ w.length ≤ 40) ∧ c.length ≤ 40) ∧ (isRowF s = true ∧ s.length = w.length)) ∧ ∀ (x : Val), x ∈ w → isVF t1 x = true ∧ noneF t1 x = false from ⟨⟨hv.1, hv.2.1⟩, hv.2.2⟩)
   subst h1 h2 h3
   have hr := zP3.1 h4
   refine ⟨s.zip w, (mapL_ent h5).symm, srt_zip h5 hr.2.1, fun e he => hr.2.2 _ (zip_m1 he), fun e he => ?_, fun e he => ?_⟩
   ·exact ih _ (o.2.2.2 _ (zI4 he)) (h6 _ (zI4 he)).1
   ·have := (h6 _ (zI4 he)).2
    unfold noneF at this
    rw [decide_eq_false_iff_not, zH6 (h.2 _ (by simp)) (by omega)] at this
    exact fun e => this e.symm
  ·obtain ⟨t1, t2, rfl⟩ := zQ5 h.1
   have ih1 := lv_of d t1 (h.2 _ (by simp)) (by omega)
   have ih2 := lv_of d t2 (h.2 _ (by simp)) (by omega)
   rw [zW0 5] at hv
   simp [bareF, numsK, textsK, clocksK, valuesK, Val.nv, Val.mv, Val.sv, Val.cv, Val.vv, isVL] at hv
   obtain ⟨⟨⟨⟨⟨⟨h1, h2⟩, h3⟩, h4⟩, _⟩, _⟩, h5⟩ := hv
   subst h1 h2 h3 h4
   rw [show LVL [t1, t2] = [LV t1, LV t2] by simp [LVL]]
   match w, o, h5 with
   | [x, y], o, h5 =>
    simp at h5
    exact ⟨x, y, rfl, ih1 _ (o.2.2.2 _ (by simp)) h5.1, ih2 _ (o.2.2.2 _ (by simp)) h5.2⟩
   | [], _, h5 => simp at h5
   | [x], _, h5 => simp at h5
   | _ :: _ :: _ :: _, _, h5 => simp at h5
  ·exact ⟨hv, ho⟩
  ·rw [zW0 7] at hv
   simp [bareF, numsK, textsK, clocksK, valuesK, Val.nv, Val.mv, Val.sv, Val.cv, Val.vv, isVL] at hv
   obtain ⟨⟨⟨⟨⟨⟨h1, h2⟩, h3⟩, h4⟩, _⟩, _⟩, h5⟩ := hv
   subst h1 h2 h3 h4
   match c, o, h5 with
   | [], _, _ => exact ⟨[], rfl, .nil, by simp [Go.MV.Pos], by simp⟩
   | [c], o, h5 =>
    simp at h5
    exact ⟨c, (zA3 (by intro e; subst e; simp at h5)).symm, ((zI5 (o.2.2.1 _ (by simp))).1 h5.2).1⟩
   | _ :: _ :: _, _, h5 => simp at h5
  ·obtain ⟨t1, rfl⟩ := zX2 h.1 (by decide)
   have ih := lv_of d t1 (h.2 _ (by simp)) (by omega)
   rw [zT3, zN2]
   rw [zW0 8] at hv
   simp [bareF, numsK, textsK, clocksK, valuesK, Val.nv, Val.mv, Val.sv, Val.cv, Val.vv, isVL] at hv
   obtain ⟨⟨⟨⟨⟨h1, h2⟩, h3⟩, _⟩, _⟩, ⟨h4, h5⟩, h6⟩ := hv
   subst h1 h2 h3
   obtain ⟨k1, k2, k3, k4⟩ := (isCause_iff h4 o.2.2.1).1 h5
   exact ⟨c.zip w, (cauL_ent h4).symm, k1, k2, k3, fun e he => ih _ (o.2.2.2 _ (zI4 he)) (h6 _ (zI4 he)), k4⟩
theorem _root_.zE6 : type_of% @lv_of := @lv_of
theorem keys_ok {c : List (List Tk)} (h : ∀ x ∈ c, ClkOk x) : ∀ x ∈ c, ∀ t ∈ x, okTk t := fun x hx t ht => by
 have := (h x hx).2.1 t ht
 unfold okTk
 omega
theorem is_both : ∀ (d : Nat) (s : Sch), isF d s = true → d ≤ 16 → ∀ a b v : Val, okV a → okV b → isVF s a = true → isVF s b = true → bothF s a b = some v → isVF s v = true
 | 0, s, h => by simp [isF] at h
 | d + 1, .mk k ins, h => by
  have h0 := h
  rw [isF] at h
  simp only [Bool.and_eq_true, List.all_eq_true, beq_iff_eq] at h
  intro hd a b v oa ob ha hb hv
  have la := zE6 _ _ h0 hd a oa ha
  have lb := zE6 _ _ h0 hd b ob hb
  have hj := both_jn _ _ h0 a b v la lb hv
  have lv : LV (.mk k ins) v := hj ▸ (sem _ _ h0).cl a b la lb
  have ov := okV_both _ _ h0 a b v oa ob hv
  rw [zH3] at hv
  have hcap := cap_not hv
  replace hv := cap_some hv
  rw [LV_mk] at lv
  rcases k8_of h.1 with rfl | rfl | rfl | rfl | rfl | rfl | rfl | rfl
  ·obtain ⟨n, rfl, hn⟩ : N1 v := lv
   exact zW0 1
  ·obtain ⟨n, rfl, hn⟩ : N2 v := lv
   rw [zW0 2]
   simp [bareF, numsK, textsK, clocksK, valuesK, Val.nv, Val.mv, Val.sv, Val.cv, Val.vv, hn.2]
  ·obtain ⟨s, rfl, hs⟩ : N3 v := lv
   rw [zI3] at hcap
   simp at hcap
   rw [zW0 3]
   simp [bareF, numsK, textsK, clocksK, valuesK, Val.nv, Val.mv, Val.sv, Val.cv, Val.vv, zP3]
   exact ⟨by omega, hs⟩
  ·obtain ⟨t1, rfl⟩ := zX2 h.1 (by decide)
   have ih := is_both d t1 (h.2 _ (by simp)) (by omega)
   rw [zT3, zN2] at lv
   obtain ⟨l, rfl, hl⟩ : N4 (LV t1) (bottomF t1) v := lv
   obtain ⟨n1, m1, s1, c1, w1⟩ := a
   obtain ⟨n2, m2, s2, c2, w2⟩ := b
   have a0 := zW2.1 oa
   have b0 := zW2.1 ob
   rw [zW0 4] at ha hb
   simp [bareF, numsK, textsK, clocksK, valuesK, Val.nv, Val.mv, Val.sv, Val.cv, Val.vv, isVL] at ha hb
   replace hv : mapsF (bothF t1) (.mk n1 m1 s1 c1 w1) (.mk n2 m2 s2 c2 w2) = some (mapL l) := by rw [← hv]; simp [bothB, bothL]
   unfold mapsF at hv
   obtain ⟨x, hx, hxl⟩ := Option.map_eq_some_iff.1 hv
   have hx2 : x = l := by
    have := congrArg entX (show mapL x = mapL l from hxl)
    rwa [zZ2, zZ2] at this
   subst hx2
   have hval := goE_ok (P := fun _ => True) (Q := fun v => okV v ∧ isVF t1 v = true) (fun e he => by
    obtain ⟨p, q⟩ := zZ5 _ _ _ e he
    have h1 : okV e.2.1 ∧ isVF t1 e.2.1 = true := p.elim (fun h => ⟨a0.2.2.2 _ (zI4 h), (ha.2.2 _ (zI4 h)).1⟩) (fun h => ⟨b0.2.2.2 _ (zI4 h), (hb.2.2 _ (zI4 h)).1⟩)
    refine ⟨trivial, h1, fun y hy => ?_⟩
    obtain ⟨q1, k, q2⟩ := q y hy
    have h2 : okV y ∧ isVF t1 y = true := ⟨b0.2.2.2 _ (zI4 q2), (hb.2.2 _ (zI4 q2)).1⟩
    exact ⟨h2, fun v hv => ⟨okV_both d t1 (h.2 _ (by simp)) _ _ v h1.1 h2.1 hv, ih _ _ v h1.1 h2.1 h1.2 h2.2 hv⟩⟩) hx
   unfold mapL at hcap ⊢
   rw [zI3] at hcap
   simp at hcap
   rw [zW0 4]
   simp [bareF, numsK, textsK, clocksK, valuesK, Val.nv, Val.mv, Val.sv, Val.cv, Val.vv, isVL, zP3]
   refine ⟨by omega, ⟨by omega, srt_up hl.srt, fun z y hz => hl.sh _ hz⟩, fun z y hz => ⟨(hval _ hz).2.2, ?_⟩⟩
   unfold noneF
   rw [decide_eq_false_iff_not, zH6 (h.2 _ (by simp)) (by omega)]
   exact fun e => hl.non _ hz e.symm
  ·obtain ⟨t1, t2, rfl⟩ := zQ5 h.1
   have ih1 := is_both d t1 (h.2 _ (by simp)) (by omega)
   have ih2 := is_both d t2 (h.2 _ (by simp)) (by omega)
   rw [LV_mk] at la lb
   rw [show LVL [t1, t2] = [LV t1, LV t2] by simp [LVL]] at lv la lb
   obtain ⟨x, y, rfl, hx, hy⟩ : N5 (LV t1) (LV t2) a := la
   obtain ⟨x2, y2, rfl, hx2, hy2⟩ : N5 (LV t1) (LV t2) b := lb
   rw [zW0 5] at ha hb
   simp [bareF, numsK, textsK, clocksK, valuesK, Val.nv, Val.mv, Val.sv, Val.cv, Val.vv, isVL] at ha hb
   have a0 := zW2.1 oa
   have b0 := zW2.1 ob
   replace hv : pairF2 [bothF t1, bothF t2] (.mk 0 0 [] [] [x, y]) (.mk 0 0 [] [] [x2, y2]) = some v := by rw [← hv]; simp [bothB, bothL]
   unfold pairF2 at hv
   obtain ⟨z, hz, rfl⟩ := Option.map_eq_some_iff.1 hv
   simp only [Val.vv, goP] at hz
   cases h1 : bothF t1 x x2 with
   | none => rw [h1] at hz; cases hz
   | some u =>
    rw [h1] at hz
    cases h2 : bothF t2 y y2 with
    | none => rw [h2] at hz; cases hz
    | some u2 =>
     rw [h2] at hz
     simp at hz
     subst hz
     rw [zW0 5]
     simp [bareF, numsK, textsK, clocksK, valuesK, Val.nv, Val.mv, Val.sv, Val.cv, Val.vv, isVL]
     exact ⟨ih1 _ _ _ (a0.2.2.2 _ (by simp)) (b0.2.2.2 _ (by simp)) ha.1 hb.1 h1, ih2 _ _ _ (a0.2.2.2 _ (by simp)) (b0.2.2.2 _ (by simp)) ha.2 hb.2 h2⟩
  ·exact lv.1
  ·obtain ⟨c, rfl, hc⟩ : N7 v := lv
   cases c with
   | nil => rw [clkW_nil]; unfold noV; rw [zW0 7]; rfl
   | cons x c =>
    rw [zA3 (by simp)] at hcap ov ⊢
    rw [zI3] at hcap
    simp at hcap
    rw [zW0 7]
    simp [bareF, numsK, textsK, clocksK, valuesK, Val.nv, Val.mv, Val.sv, Val.cv, Val.vv]
    exact (zI5 ((zW2.1 ov).2.2.1 _ (by simp))).2 ⟨hc, by simp; omega⟩
  ·obtain ⟨t1, rfl⟩ := zX2 h.1 (by decide)
   have ih := is_both d t1 (h.2 _ (by simp)) (by omega)
   rw [zT3] at lv
   obtain ⟨l, rfl, hl⟩ : N8 (LV t1) v := lv
   obtain ⟨n1, m1, s1, c1, w1⟩ := a
   obtain ⟨n2, m2, s2, c2, w2⟩ := b
   have a0 := zW2.1 oa
   have b0 := zW2.1 ob
   rw [zW0 8] at ha hb
   simp [bareF, numsK, textsK, clocksK, valuesK, Val.nv, Val.mv, Val.sv, Val.cv, Val.vv, isVL] at ha hb
   replace hv : causesF (bothF t1) (.mk n1 m1 s1 c1 w1) (.mk n2 m2 s2 c2 w2) = some (cauL l) := by rw [← hv]; simp [bothB, bothL]
   unfold causesF at hv
   obtain ⟨x, hx, hxl⟩ := Option.map_eq_some_iff.1 hv
   have hx2 : x = l := by
    have := congrArg entC (show cauL x = cauL l from hxl)
    rwa [zO3, zO3] at this
   subst hx2
   have hval := goE_ok (P := fun _ => True) (Q := fun v => okV v ∧ isVF t1 v = true) (fun e he => by
    obtain ⟨p, q⟩ := zZ5 _ _ _ e (List.mem_filter.1 he).1
    have h1 : okV e.2.1 ∧ isVF t1 e.2.1 = true := p.elim (fun h => ⟨a0.2.2.2 _ (zI4 h), ha.2.2 _ (zI4 h)⟩) (fun h => ⟨b0.2.2.2 _ (zI4 h), hb.2.2 _ (zI4 h)⟩)
    refine ⟨trivial, h1, fun y hy => ?_⟩
    obtain ⟨q1, k, q2⟩ := q y hy
    have h2 : okV y ∧ isVF t1 y = true := ⟨b0.2.2.2 _ (zI4 q2), hb.2.2 _ (zI4 q2)⟩
    exact ⟨h2, fun v hv => ⟨okV_both d t1 (h.2 _ (by simp)) _ _ v h1.1 h2.1 hv, ih _ _ v h1.1 h2.1 h1.2 h2.2 hv⟩⟩) hx
   have hcl : isCauseF (x.map (·.1)) = true := (isCause_iff (w := x.map (·.2)) (by simp) ((zW2.1 ov).2.2.1)).2 (by rw [zip_map]; exact ⟨hl.srt, hl.key, hl.len, hl.anti⟩)
   unfold cauL at hcap ⊢
   rw [zI3] at hcap
   simp at hcap
   rw [zW0 8]
   simp [bareF, numsK, textsK, clocksK, valuesK, Val.nv, Val.mv, Val.sv, Val.cv, Val.vv, isVL, hcl]
   exact ⟨hcap.1, fun a b hab => (hval _ hab).2.2⟩
theorem okV_bot {d : Nat} {s : Sch} (h : isF d s = true) : okV (bottomF s) := (bottom_is d s h).2
theorem is_bot {d : Nat} {s : Sch} (h : isF d s = true) : isVF s (bottomF s) = true := (bottom_is d s h).1
theorem join_right {s : Sch} {a b : Val} (hs : isF 16 s = true) (oa : okV a) (ob : okV b) (ha : isVF s a = true) (hb : isVF s b = true) : (∃ v, joinVF s a b = .ok v ∧ okV v ∧ isVF s v = true ∧ v = jn s a b) ∨ joinVF s a b = .error 13 := by
 unfold joinVF
 rw [if_pos ⟨by rw [hs, ha]; rfl, by rw [hs, hb]; rfl⟩]
 cases h : bothF s a b with
 | none => exact .inr rfl
 | some v => exact .inl ⟨v, rfl, okV_both 16 s hs a b v oa ob h, is_both 16 s hs (by omega) a b v oa ob ha hb h, both_jn 16 s hs a b v (zE6 16 s hs (by omega) a oa ha) (zE6 16 s hs (by omega) b ob hb) h⟩
theorem AllF_no {s : Sch} {l : List Val} (hs : isF 16 s = false) : AllF s l = .error 14 := by unfold AllF; rw [if_neg (by rw [hs]; decide)]
section
variable {P : Val → Prop} {f : Val → Val → Val} {b : Val} (h : SemiB P f b)
include h
theorem fold_P : ∀ (l : List Val) (a : Val), P a → (∀ x ∈ l, P x) → P (l.foldl f a)
 | [], a, ha, _ => ha
 | x :: l, a, ha, hl => fold_P l _ (h.cl a x ha (hl x (.head _))) fun y hy => hl y (.tail _ hy)
theorem bot_l {x : Val} (hx : P x) : f b x = x := by rw [h.comm b x h.bot hx, h.neut x hx]
theorem fold_out : ∀ (l : List Val) (a : Val), P a → (∀ x ∈ l, P x) → l.foldl f a = f a (l.foldl f b)
 | [], a, ha, _ => (h.neut a ha).symm
 | x :: l, a, ha, hl => by
  have hx := hl x (.head _)
  have hl' : ∀ y ∈ l, P y := fun y hy => hl y (.tail _ hy)
  show l.foldl f (f a x) = f a (l.foldl f (f b x))
  rw [fold_out l _ (h.cl a x ha hx) hl', bot_l h hx, fold_out l x hx hl', h.assoc a x _ ha hx (fold_P h l b h.bot hl')]
theorem fold_abs : ∀ (l : List Val) (x : Val), (∀ y ∈ l, P y) → x ∈ l → f x (l.foldl f b) = l.foldl f b
 | y :: l, x, hl, hx => by
  have hy := hl y (.head _)
  have hl' : ∀ z ∈ l, P z := fun z hz => hl z (.tail _ hz)
  have hF := fold_P h l b h.bot hl'
  show f x (l.foldl f (f b y)) = l.foldl f (f b y)
  rw [bot_l h hy, fold_out h l y hy hl']
  rcases List.mem_cons.1 hx with rfl | hx
  ·rw [← h.assoc x x _ hy hy hF, h.idem x hy]
  ·have px := hl' x hx
   rw [← h.assoc x y _ px hy hF, h.comm x y px hy, h.assoc y x _ hy px hF, fold_abs l x hl' hx]
end
end
end Go.Proofs.YtnfcnpdpfgcchaaGreat
namespace Go.MV
open Go Go.RowKit
section
theorem rd_cut3 {g : Gh} {w : World} {tok : Option Nat} {sz : Nat} {xs : List MV} {v : Value} (h : Rd g w (.lst tok sz xs) v) {l h' : Nat} (hl : l ≤ h') (hh : h' ≤ xs.length) :
  ∃ a c, v = .slice a xs.length c ∧ xs.length ≤ c ∧ Rd g w (.lst none sz ((xs.drop l).take (h' - l))) (.slice (if h' = l then a else a.map (·.add (l * sz))) (h' - l) (h' - l)) := by
 obtain ⟨a, c, us, rfl, h1, h2, h3, h4, h5, h6⟩ := h.inv_lst
 refine ⟨a, c, rfl, h1, ?_⟩
 have hmem : ∀ x ∈ (xs.drop l).take (h' - l), x.cells.length = sz := fun x hx => h3 x (List.mem_of_mem_drop (List.mem_of_mem_take hx))
 have hflat : flat ((xs.drop l).take (h' - l)) = ((flat xs).drop (l * sz)).take ((h' - l) * sz) := by
  rw [flat_take _ _ (fun x hx => h3 x (List.mem_of_mem_drop hx)), flat_drop _ _ h3]
 refine .lst' (by simp; omega) (by omega) (by omega) hmem (us := (us.drop (l * sz)).take ((h' - l) * sz)) ?_ (fun j u hu => ?_) (fun t ht => by cases ht)
 ·rw [hflat]
  exact (h4.drop _).take _
 ·rw [List.getElem?_take] at hu
  split at hu
  ·rename_i hj
   rw [List.getElem?_drop] at hu
   obtain ⟨ad, ha, hs⟩ := h5 _ _ hu
   subst ha
   have hcl : h' ≠ l := fun e => by
    have : h' - l = 0 := by omega
    rw [this] at hj
    omega
   refine ⟨ad.add (l * sz), by rw [if_neg hcl]; rfl, ?_⟩
   unfold Stab at hs ⊢
   rw [add_add]
   exact hs
  ·cases hu
section
variable {P : Program} {rd : Option Nat} {o : Oper} {env : Env} {σ : MS} {K : MV → MS → Prop}
theorem op_slice3 {t e : TypeId} {x lo hi mx : Operand} {tok : Option Nat} {sz l h' : Nat} {xs : List MV} {k1 k2 k3 : IntKind} {n1 n2 n3 : Int} (ho : o.op = .slice t x (some lo) (some hi) (some mx)) (hu : P.underlying t = some (.slice e)) (hs : szOf P e = some sz) (hx : evo env x = some (.lst tok sz xs))
  (hlo : evo env lo = some (.int k1 n1)) (hhi : evo env hi = some (.int k2 n2)) (hmx : evo env mx = some (.int k3 n3)) (e1 : n1 = (l : Int)) (e2 : n2 = (h' : Int)) (e3 : n3 = (h' : Int)) (hl : l ≤ h') (hh : h' ≤ xs.length) (h : K (.lst none sz ((xs.drop l).take (h' - l))) σ) : OpWp P rd o env σ K := by
 subst e1 e2 e3
 refine OpWp.of_run (by simp [ho]) fun g w a hr hop => ?_
 obtain ⟨ad, c, hv, hc, hrd⟩ := rd_cut3 (hop x (by simp [ho, Op.operands]) _ hx) hl hh
 refine ⟨_, w, ?_, .same h hr hrd⟩
 have f1 : a.eval lo = .int k1 (l : Int) := (hop lo (by simp [ho, Op.operands]) _ hlo).inv_int
 have f2 : a.eval hi = .int k2 (h' : Int) := (hop hi (by simp [ho, Op.operands]) _ hhi).inv_int
 have f3 : a.eval mx = .int k3 (h' : Int) := (hop mx (by simp [ho, Op.operands]) _ hmx).inv_int
 have hhc : h' ≤ c := by omega
 simp [execOp, ho, Instr.sliceAt, Instr.slice, run_underlying hu, hv, Instr.sliceBounds, Instr.sliceBound, asIntOf, f1, f2, f3, hhc, hl, zY5 hs]
end
def Sees (F : List (Nat × MObj)) (σ : MS) : Prop := ∀ p ∈ F, σ[p.1]? = some p.2
theorem Sees.app {F : List (Nat × MObj)} {A B : MS} (h : Sees F A) : Sees F (A ++ B) := fun p hp => zT0 (h p hp)
theorem Sees.cons {F : List (Nat × MObj)} {A : MS} {i : Nat} {o : MObj} (h1 : A[i]? = some o) (h : Sees F A) : Sees ((i, o) :: F) A := fun p hp => by
 rcases List.mem_cons.1 hp with rfl | hp
 ·exact h1
 ·exact h p hp
theorem Sees.nil {A : MS} : Sees [] A := fun p hp => by cases hp
theorem ClS.app {A B : MS} (h : ClS A) (hB : ∀ o ∈ B, o.cl (A ++ B).length) : ClS (A ++ B) := by
 intro id o hid
 by_cases c : id < A.length
 ·rw [List.getElem?_append_left c] at hid
  have := h id o hid
  cases o with
  | cells l => exact fun x hx => (this x hx).mono (by simp)
  | loop s p ls => exact fun t x hx => (this t x hx).mono (by simp)
  | row _ _ _ => exact trivial
  | mp _ es => exact fun e he => (this e he).mono (by simp)
  | mit m _ _ _ => exact Nat.lt_of_lt_of_le this (by simp)
  | pin _ _ => exact trivial
  | tcells _ l => exact fun x hx => (this x hx).mono (by simp)
  | orow _ _ _ l => exact fun x hx => (this x hx).mono (by simp)
  | fixed _ _ => exact trivial
  | gone => exact trivial
 ·rw [List.getElem?_append_right (by omega)] at hid
  exact hB o (zC0 hid)
theorem ClS.swap {A A' B : MS} (hl : A'.length = A.length) (h : ClS (A ++ B)) (h' : ClS A') : ClS (A' ++ B) := by
 refine h'.app fun o ho => ?_
 obtain ⟨i, hi⟩ := List.getElem?_of_mem ho
 have := h (A.length + i) o (by rw [getElem?_own]; exact hi)
 rwa [show (A' ++ B).length = (A ++ B).length by simp [hl]]
theorem YStep.frame {P : Program} {id : Nat} {xs : List MV} {S S' : MS} {b : Bool} (h : YStep P id xs S b S') (J : MS) : YStep P id xs (S ++ J) b (S' ++ J) := by
 intro L rd o env f args ts ho hf hx
 have := h (J ++ L) rd o env f args ts ho hf hx
 rwa [← zZ, ← zZ] at this
def GiveOk (P : Program) (f : FuncId) (args : Nat → List MV) (res : Bool → MV) (ys : List (List MV)) (ok : MS → Prop) : Prop :=
 ∀ (id : Nat) (T : Nat → MS) (m : Nat), (∀ j, ok (T j)) → m ≤ ys.length → (∀ j y, j < m → ys[j]? = some y → YStep P id y (T j) true (T (j + 1))) → (∀ j y, j = m → ys[j]? = some y → YStep P id y (T j) false (T (j + 1))) →
  MCalls P f (args id) (T 0) fun v σ' => v = res (decide (m = ys.length)) ∧ σ' = T (if m < ys.length then m + 1 else m)
theorem GiveOk.iter {P : Program} {k : FuncId} {first caps : List MV} {ys : List (List MV)} {ok : MS → Prop} (h : GiveOk P k (fun id => first ++ [.yld id] ++ caps) (fun _ => .tup []) ys ok) : IterOk P k first caps ys ok :=
 iterOk_of fun id T m hok hm hyt hyf => h id T m hok hm hyt hyf
theorem IterOk.two {P : Program} {k : FuncId} {first caps : List MV} {ys : List (List MV)} {ok : MS → Prop} (h : IterOk P k first caps ys ok) : IterOk2 P k first caps ys ok (fun _ σ τ => σ = τ) := by
 intro id T U m hok hu hyt
 have hyt' : ∀ j y, j < m → ys[j]? = some y → YStep P id y (T j) true (T (j + 1)) := fun j y hj hy => by
  rw [hu j (by omega)]; exact hyt j y hj hy
 refine ⟨fun hm => (h id T m hok hyt').1 hm, fun y hy hyf => (h id T m hok hyt').2 y hy (by rw [hu m (Nat.le_refl _)]; exact hyf)⟩
theorem GiveOk.use {P : Program} {f : FuncId} {args : Nat → List MV} {res : Bool → MV} {ys zs : List (List MV)} {ok : MS → Prop} (h : GiveOk P f args res ys ok) {id a M : Nat} {T : Nat → MS} {J : MS} (hok : ∀ j, ok (T j ++ J)) (hz : ∀ j y, ys[j]? = some y → zs[a + j]? = some y)
  (hyt : ∀ j y, j < M → zs[j]? = some y → YStep P id y (T j) true (T (j + 1))) (hyf : ∀ j y, j = M → zs[j]? = some y → YStep P id y (T j) false (T (j + 1))) (ha : a ≤ M) :
  MCalls P f (args id) (T a ++ J) fun v σ' => v = res (decide (a + ys.length ≤ M)) ∧ σ' = T (if a + ys.length ≤ M then a + ys.length else M + 1) ++ J := by
 have key := h id (fun j => T (a + j) ++ J) (min (M - a) ys.length) (fun j => hok _) (Nat.min_le_right _ _)
  (fun j y hj hy => (hyt (a + j) y (by omega) (hz j y hy)).frame J) (fun j y hj hy => by
   have hl := (zH.1 hy).1
   exact (hyf (a + j) y (by omega) (hz j y hy)).frame J)
 refine key.mono ?_
 rintro v σ' ⟨rfl, rfl⟩
 by_cases hc : a + ys.length ≤ M
 ·rw [if_pos hc, decide_eq_true hc, decide_eq_true (by omega), if_neg (by omega)]
  exact ⟨rfl, by rw [show min (M - a) ys.length = ys.length by omega]⟩
 ·rw [if_neg hc, decide_eq_false hc, decide_eq_false (by omega), if_pos (by omega)]
  exact ⟨rfl, by rw [show a + (min (M - a) ys.length + 1) = M + 1 by omega]⟩
end
end Go.MV
namespace Go.Proofs.YtnfcnpdpfgcchaaGreat
open Go Go.MV
def nS : Sch := .mk 0 []
def leavesF (k : Int) : Val → List Val
 | .mk n m s c w => if k = 3 then s.map fun t => .mk 0 0 [t] [] [] else if k = 7 then c.flatMap fun x => x.map fun t => .mk 0 0 [] [[t]] [] else [.mk n m s c w]
noncomputable def innerF (b : Val) (f : Val → List Val) (x : Val) : List Val := if b = x then [x] else f x
noncomputable def partAt (f : Sch → Val → List Val) (k : Int) (ins : List Sch) (s : List Bs) (c : List (List Tk)) (w : List Val) (i : Nat) : List Val :=
 if k = 4 then (f (ins.getD 0 nS) (w.getD i noV)).map fun p => .mk 0 0 [s.getD i []] [] [p]
 else if k = 5 then (f (ins.getD i nS) (w.getD i noV)).map fun p => .mk 0 0 [] [] ((bottomL ins).set i p)
 else (innerF (bottomF (ins.getD 0 nS)) (f (ins.getD 0 nS)) (w.getD i noV)).map fun p => .mk 0 0 [] [c.getD i []] [p]
noncomputable def partsD : Nat → Sch → Val → List Val
 | 0, _, _ => []
 | d + 1, .mk k ins, .mk n m s c w => if bottomF (.mk k ins) = .mk n m s c w then [] else
   if w = [] then leavesF k (.mk n m s c w) else (List.range w.length).flatMap (partAt (partsD d) k ins s c w)
def noK7 : Nat → Sch → Bool
 | 0, _ => true
 | d + 1, .mk k ins => k != 7 && ins.all (noK7 d)
theorem fm_len {α : Type} (F : Nat → List α) (i : Nat) : ((List.range (i + 1)).flatMap F).length = ((List.range i).flatMap F).length + (F i).length := by
 rw [List.range_succ, List.flatMap_append, zM]; simp
theorem fm_get {α : Type} (F : Nat → List α) {i j : Nat} {y : α} : ∀ {n : Nat}, i < n → (F i)[j]? = some y → ((List.range n).flatMap F)[((List.range i).flatMap F).length + j]? = some y
 | 0, hi, _ => by omega
 | n + 1, hi, h => by
  rw [List.range_succ, List.flatMap_append]
  rcases Nat.lt_or_ge i n with hlt | hge
  ·have := fm_get F hlt h
   rw [List.getElem?_append_left (zH.1 this).1]
   exact this
  ·have : i = n := by omega
   subst this
   rw [List.getElem?_append_right (by omega)]
   simpa using h
theorem parts_none {d : Nat} {k : Int} {ins : List Sch} {n m : Int} {s : List Bs} {c : List (List Tk)} {w : List Val} (h : bottomF (.mk k ins) = .mk n m s c w) : partsD (d + 1) (.mk k ins) (.mk n m s c w) = [] := by rw [partsD, if_pos h]
theorem parts_leaf {d : Nat} {k : Int} {ins : List Sch} {n m : Int} {s : List Bs} {c : List (List Tk)} (h : ¬ bottomF (.mk k ins) = .mk n m s c []) : partsD (d + 1) (.mk k ins) (.mk n m s c []) = leavesF k (.mk n m s c []) := by rw [partsD, if_neg h, if_pos rfl]
theorem parts_in {d : Nat} {k : Int} {ins : List Sch} {n m : Int} {s : List Bs} {c : List (List Tk)} {w : List Val} (h : ¬ bottomF (.mk k ins) = .mk n m s c w) (hw : w ≠ []) : partsD (d + 1) (.mk k ins) (.mk n m s c w) = (List.range w.length).flatMap (partAt (partsD d) k ins s c w) := by rw [partsD, if_neg h, if_neg hw]
theorem okV_setAt {l : List Val} {i : Nat} {p : Val} (hl : ∀ x ∈ l, okV x) (hp : okV p) : ∀ x ∈ l.set i p, okV x := fun x hx => by
 rcases List.mem_or_eq_of_mem_set hx with h | rfl
 ·exact hl x h
 ·exact hp
noncomputable def leqB (s : Sch) (a p : Val) : Bool := match leqVF s p a with | .ok l => l | .error _ => true
noncomputable def diffVF (s : Sch) (a b : Val) : Except Int Val := match leqVF s a b with
 | .error e => .error e
 | .ok _ => AllF s ((partsD 16 s b).filter fun p => !leqB s a p)
end Go.Proofs.YtnfcnpdpfgcchaaGreat
