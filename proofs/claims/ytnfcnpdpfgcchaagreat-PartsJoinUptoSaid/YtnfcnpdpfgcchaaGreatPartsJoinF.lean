/-
  Texts on which the proof of PartsJoin leans: part 6.
-/
import Derived.Test.YtnfcnpdpfgcchaaGreatPartsJoinE
set_option linter.unusedVariables false
set_option linter.unusedSimpArgs false
set_option maxRecDepth 20000
set_option maxHeartbeats 8000000
namespace Go.Proofs.YtnfcnpdpfgcchaaGreat
open Go Go.MV
theorem map_is {t : Sch} {A : List (Bs × Val)} (h : isVF (.mk 4 [t]) (mapL A) = true) : A.length ≤ 40 ∧ ∀ e ∈ A, isVF t e.2 = true := by
 unfold mapL at h
 rw [zW0 4] at h
 simp [bareF, numsK, textsK, clocksK, valuesK, Val.nv, Val.mv, Val.sv, Val.cv, Val.vv, isVL] at h
 exact ⟨h.1, fun e he => (h.2.2 e.1 e.2 he).1⟩
theorem is_map {d : Nat} {t : Sch} (ht : isF d t = true) (hd : d ≤ 16) {A : List (Bs × Val)} (ra : R4 (LV t) (bottomF t) A) (hl : A.length ≤ 40) (hv : ∀ e ∈ A, isVF t e.2 = true) : isVF (.mk 4 [t]) (mapL A) = true := by
 unfold mapL
 rw [zW0 4]
 simp [bareF, numsK, textsK, clocksK, valuesK, Val.nv, Val.mv, Val.sv, Val.cv, Val.vv, isVL, zP3]
 refine ⟨hl, ⟨hl, srt_up ra.srt, fun z y hz => ra.sh _ hz⟩, fun z y hz => ⟨hv _ hz, ?_⟩⟩
 unfold noneF
 rw [decide_eq_false_iff_not, zH6 ht hd]
 exact fun e => ra.non _ hz e.symm
theorem cau_is {t : Sch} {A : List (List Tk × Val)} (h : isVF (.mk 8 [t]) (cauL A) = true) : A.length ≤ 40 ∧ ∀ e ∈ A, isVF t e.2 = true := by
 unfold cauL at h
 rw [zW0 8] at h
 simp [bareF, numsK, textsK, clocksK, valuesK, Val.nv, Val.mv, Val.sv, Val.cv, Val.vv, isVL] at h
 exact ⟨h.1, fun e he => h.2.2 e.1 e.2 he⟩
theorem is_cau {t : Sch} {A : List (List Tk × Val)} (ra : R8 (LV t) A) (hl : A.length ≤ 40) (hv : ∀ e ∈ A, isVF t e.2 = true) : isVF (.mk 8 [t]) (cauL A) = true := by
 have hcl : isCauseF (A.map (·.1)) = true := (isCause_iff (w := A.map (·.2)) (by simp) (keys_ok fun x hx => by
  obtain ⟨e, he, rfl⟩ := List.mem_map.1 hx
  exact ra.key e he)).2 (by rw [zip_map]; exact ⟨ra.srt, ra.key, ra.len, ra.anti⟩)
 unfold cauL
 rw [zW0 8]
 simp [bareF, numsK, textsK, clocksK, valuesK, Val.nv, Val.mv, Val.sv, Val.cv, Val.vv, isVL, hcl]
 exact ⟨hl, fun a b hab => hv _ hab⟩
theorem okV_mapL {A : List (Bs × Val)} : okV (mapL A) ↔ ∀ e ∈ A, okV e.2 := by
 unfold mapL
 rw [zW2]
 constructor
 ·intro h e he; exact h.2.2.2 _ (List.mem_map.2 ⟨e, he, rfl⟩)
 ·intro h
  refine ⟨by omega, by omega, by simp, fun x hx => ?_⟩
  obtain ⟨e, he, rfl⟩ := List.mem_map.1 hx
  exact h e he
theorem okV_cauL {A : List (List Tk × Val)} : okV (cauL A) ↔ (∀ e ∈ A, ∀ t ∈ e.1, okTk t) ∧ ∀ e ∈ A, okV e.2 := by
 unfold cauL
 rw [zW2]
 constructor
 ·intro h
  exact ⟨fun e he => h.2.2.1 _ (List.mem_map.2 ⟨e, he, rfl⟩), fun e he => h.2.2.2 _ (List.mem_map.2 ⟨e, he, rfl⟩)⟩
 ·intro h
  refine ⟨by omega, by omega, fun x hx => ?_, fun x hx => ?_⟩
  ·obtain ⟨e, he, rfl⟩ := List.mem_map.1 hx
   exact h.1 e he
  ·obtain ⟨e, he, rfl⟩ := List.mem_map.1 hx
   exact h.2 e he
theorem no_ins_ {k : Int} {ins : List Sch} (h : partsF k = (ins.length : Int)) (hk : partsF k = 0) : ins = [] := List.eq_nil_of_length_eq_zero (by omega)
theorem clk_is {ins : List Sch} {c : List Tk} (o : okV (clkW c)) (h : isVF (.mk 7 ins) (clkW c) = true) : c.length ≤ 40 := by
 by_cases he : c = []
 ·subst he; simp
 ·rw [zA3 he] at o h
  rw [zW0 7] at h
  simp only [Bool.and_eq_true] at h
  have hq : 0 < c.length ∧ isClockF c = true := by simpa using h.2
  exact ((zI5 ((zW2.1 o).2.2.1 c (by simp))).1 hq.2).2
theorem is_clk_ {ins : List Sch} {c : List Tk} (hc : ClkOk c) (hl : c.length ≤ 40) (ho : ∀ t ∈ c, okTk t) : isVF (.mk 7 ins) (clkW c) = true := by
 cases c with
 | nil => rw [clkW_nil]; unfold noV; rw [zW0 7]; rfl
 | cons x c =>
  rw [zA3 (by simp), zW0 7]
  simp [bareF, numsK, textsK, clocksK, valuesK, Val.nv, Val.mv, Val.sv, Val.cv, Val.vv]
  exact (zI5 ho).2 ⟨hc, hl⟩
theorem okV_clkW {c : List Tk} : okV (clkW c) ↔ ∀ t ∈ c, okTk t := by
 by_cases he : c = []
 ·subst he; simp [clkW_nil, noV, okV, okVs]
 ·rw [zA3 he, zW2]; simp
theorem large_clk {c : List Tk} : largeF (clkW c) = decide (40 < c.length) := by
 by_cases he : c = []
 ·subst he; rfl
 ·rw [zA3 he, zI3]; simp
theorem okJ_pair {t u : Sch} {x y x2 y2 : Val} : okJ (.mk 5 [t, u]) (.mk 0 0 [] [] [x, y]) (.mk 0 0 [] [] [x2, y2]) = (okJ t x x2 && okJ u y y2) := by
 unfold okJ
 rw [zH3]
 show (capF (pairF2 (bothL [t, u]) _ _)).isSome = _
 rw [bothL_eq]
 simp only [pairF2, Val.vv, List.map_cons, List.map_nil]
 cases h1 : bothF t x x2 with
 | none => simp [goP, h1, capF]
 | some v1 =>
  cases h2 : bothF u y y2 with
  | none => simp [goP, h1, h2, capF]
  | some v2 =>
   simp only [goP, h1, h2, Option.map_some]
   rw [capF_f (by rw [zI3]; simp)]; rfl
theorem okJ_clk {ins : List Sch} {c e : List Tk} : okJ (.mk 7 ins) (clkW c) (clkW e) = decide ((joinF c e).length ≤ 40) := by
 unfold okJ
 rw [zH3, show bothB 7 (bothL ins) (clkW c) (clkW e) = some (clkW (joinF c e)) by rw [← zT2]; rfl]
 by_cases hq : (joinF c e).length ≤ 40
 ·rw [decide_eq_true hq, capF_f (by rw [large_clk]; simp; omega)]; rfl
 ·rw [decide_eq_false hq]
  unfold capF
  rw [Option.bind_some, large_clk, decide_eq_true (by omega)]
  rfl
theorem okJ_set {A B : List Bs} : okJ (.mk 3 []) (.mk 0 0 A [] []) (.mk 0 0 B [] []) = decide ((bothX A B).length ≤ 40) := by
 unfold okJ
 rw [zH3, show bothB 3 (bothL []) (.mk 0 0 A [] []) (.mk 0 0 B [] []) = some (.mk 0 0 (bothX A B) [] []) by rfl]
 by_cases hq : (bothX A B).length ≤ 40
 ·rw [decide_eq_true hq, capF_f (by rw [zI3]; simp; omega)]; rfl
 ·rw [decide_eq_false hq]
  unfold capF
  rw [Option.bind_some, zI3]
  simp
  omega
theorem okJ_is : ∀ (d : Nat) (s : Sch), isF d s = true → d ≤ 16 → ∀ a b : Val, okV a → okV b → isVF s a = true → isVF s b = true → isVF s (jn s a b) = true → okJ s a b = true
 | 0, s, h => by simp [isF] at h
 | d + 1, .mk k ins, h => by
  have h0 := h
  rw [isF] at h
  simp only [Bool.and_eq_true, List.all_eq_true, beq_iff_eq] at h
  intro hd a b oa ob va vb vj
  have la := zE6 (d + 1) _ h0 hd a oa va
  have lb := zE6 (d + 1) _ h0 hd b ob vb
  have lj := (sem _ _ h0).cl a b la lb
  rw [jn_mk] at vj lj
  rw [LV_mk] at la lb lj
  rcases k8_of h.1 with rfl | rfl | rfl | rfl | rfl | rfl | rfl | rfl
  ·unfold okJ; rw [zH3]; rfl
  ·unfold okJ; rw [zH3]; rfl
  ·have := no_ins_ h.1 (by decide)
   subst this
   obtain ⟨s1, rfl, u1, _⟩ : N3 a := la
   obtain ⟨s2, rfl, u2, _⟩ : N3 b := lb
   have vj2 : isVF (.mk 3 []) (.mk 0 0 (bothX s1 s2) [] []) = true := vj
   rw [zW0 3] at vj2
   simp [bareF, numsK, textsK, clocksK, valuesK, Val.nv, Val.mv, Val.sv, Val.cv, Val.vv, zP3] at vj2
   rw [okJ_set, decide_eq_true vj2.1]
  ·obtain ⟨t, rfl⟩ := zX2 h.1 (by decide)
   have ht := h.2 t (by simp)
   rw [zT3, zN2] at la lb
   obtain ⟨A, rfl, ra⟩ : N4 (LV t) (bottomF t) a := la
   obtain ⟨B, rfl, rb⟩ : N4 (LV t) (bottomF t) b := lb
   have vj2 : isVF (.mk 4 [t]) (mapL (mergeG cmpX (jn t) A B)) = true := by
    have := vj
    rw [jnL_one] at this
    show isVF _ (mapL (mergeG cmpX (([jn t] : List (Val → Val → Val)).headD fun x _ => x) A B)) = true
    simpa [jnB, zZ2] using this
   obtain ⟨q1, q2⟩ := map_is vj2
   have ea := map_is va
   have eb := map_is vb
   have ka := okV_mapL.1 oa
   have kb := okV_mapL.1 ob
   have hsem := sem d t ht
   have bot_ok : okV (bottomF t) ∧ isVF t (bottomF t) = true := ⟨okV_bot ht, is_bot ht⟩
   have hlk : ∀ (X : List (Bs × Val)), (∀ e ∈ X, okV e.2) → (∀ e ∈ X, isVF t e.2 = true) → ∀ k, okV (lkB (bottomF t) X k) ∧ isVF t (lkB (bottomF t) X k) = true := fun X h1 h2 k => by
    unfold lkB
    cases hk : look X k with
    | none => exact bot_ok
    | some v => exact ⟨h1 _ (zJ3 hk), h2 _ (zJ3 hk)⟩
   rw [map_ok ra.srt rb.srt (fun e he => (both_bot d t ht (by omega) e.2 (ka e he) (ea.2 e he)).1) (fun e he => (both_bot d t ht (by omega) e.2 (kb e he) (eb.2 e he)).2)]
   rw [map_doc hsem ra.srt rb.srt ra.all rb.all] at q1 q2
   rw [zC] at q1
   rw [decide_eq_true q1, Bool.true_and, List.all_eq_true]
   intro k hk
   have i1 := hlk A ka ea.2 k
   have i2 := hlk B kb eb.2 k
   exact okJ_is d t ht (by omega) _ _ i1.1 i2.1 i1.2 i2.2 (q2 (k, _) (List.mem_map.2 ⟨k, hk, rfl⟩))
  ·obtain ⟨t, u, rfl⟩ := zQ5 h.1
   rw [show LVL [t, u] = [LV t, LV u] by simp [LVL]] at la lb
   obtain ⟨x, y, rfl, hx, hy⟩ : N5 (LV t) (LV u) a := la
   obtain ⟨x2, y2, rfl, hx2, hy2⟩ : N5 (LV t) (LV u) b := lb
   have vj2 : isVF (.mk 5 [t, u]) (.mk 0 0 [] [] [jn t x x2, jn u y y2]) = true := by simpa [jnB, jnL, Val.vv] using vj
   rw [zW0 5] at va vb vj2
   simp [bareF, numsK, textsK, clocksK, valuesK, Val.nv, Val.mv, Val.sv, Val.cv, Val.vv, isVL] at va vb vj2
   have a0 := zW2.1 oa
   have b0 := zW2.1 ob
   rw [okJ_pair, okJ_is d t (h.2 _ (by simp)) (by omega) _ _ (a0.2.2.2 _ (by simp)) (b0.2.2.2 _ (by simp)) va.1 vb.1 vj2.1, okJ_is d u (h.2 _ (by simp)) (by omega) _ _ (a0.2.2.2 _ (by simp)) (b0.2.2.2 _ (by simp)) va.2 vb.2 vj2.2]
   rfl
  ·have := no_ins_ h.1 (by decide)
   subst this
   unfold okJ
   rw [both_lv a b la.1 lb.1]
   rfl
  ·obtain ⟨c, rfl, hc⟩ : N7 a := la
   obtain ⟨e, rfl, he⟩ : N7 b := lb
   have vj2 : isVF (.mk 7 ins) (clkW (joinF c e)) = true := by rw [← zT2]; exact vj
   rw [okJ_clk, decide_eq_true (clk_is (ins := ins) ?_ vj2)]
   rw [okV_clkW]
   exact join_ok (okV_clkW.1 oa) (okV_clkW.1 ob)
  ·obtain ⟨t, rfl⟩ := zX2 h.1 (by decide)
   have ht := h.2 t (by simp)
   rw [zT3] at la lb
   obtain ⟨A, rfl, ra⟩ : N8 (LV t) a := la
   obtain ⟨B, rfl, rb⟩ : N8 (LV t) b := lb
   have vj2 : isVF (.mk 8 [t]) (cauL (topG byTicksF blwC (jn t) A B)) = true := by
    have := vj
    rw [jnL_one] at this
    simpa [jnB, zO3] using this
   obtain ⟨q1, q2⟩ := cau_is vj2
   have ea := cau_is va
   have eb := cau_is vb
   have ka := (okV_cauL.1 oa).2
   have kb := (okV_cauL.1 ob).2
   rw [cause_ok ra.srt rb.srt ra.len rb.len, decide_eq_true q1, Bool.and_true, List.all_eq_true]
   intro e he
   by_cases hbl : below (A.map (·.1) ++ B.map (·.1)) e.1 = true
   ·rw [hbl]; rfl
   ·cases hA : look A e.1 with
    | none => simp
    | some v =>
     have hB := zK3 ordT rb.srt he
     have hl : look (topG byTicksF blwC (jn t) A B) e.1 = some (jn t v e.2) := by
      rw [look_top ordT ra.srt rb.srt, if_neg (fun q => hbl (below_dead.2 q)), hA, hB]
      rfl
     have hm := zJ3 hA
     simp only [Bool.or_eq_true]
     exact .inr (okJ_is d t ht (by omega) _ _ (ka _ hm) (kb e he) (ea.2 _ hm) (eb.2 e he) (q2 _ (zJ3 hl)))
theorem both_is {s : Sch} (hs : isF 16 s = true) {a b : Val} (oa : okV a) (ob : okV b) (va : isVF s a = true) (vb : isVF s b = true) (vj : isVF s (jn s a b) = true) : joinVF s a b = .ok (jn s a b) := by
 have h := okJ_is 16 s hs (Nat.le_refl _) a b oa ob va vb vj
 unfold okJ at h
 obtain ⟨v, hv⟩ := Option.isSome_iff_exists.1 h
 have := both_jn 16 s hs a b v (zE6 16 s hs (Nat.le_refl _) a oa va) (zE6 16 s hs (Nat.le_refl _) b ob vb) hv
 subst this
 unfold joinVF
 rw [if_pos ⟨by rw [hs, va]; rfl, by rw [hs, vb]; rfl⟩, hv]
section
theorem range_fm {α β : Type} : ∀ (l : List α) (F : Nat → List β) (G : α → List β), (∀ i x, l[i]? = some x → F i = G x) → (List.range l.length).flatMap F = l.flatMap G
 | [], F, G, _ => rfl
 | x :: l, F, G, h => by
  rw [zW, List.range_succ_eq_map, List.flatMap_cons, List.flatMap_map, List.flatMap_cons, h 0 x rfl, range_fm l (fun i => F (i + 1)) G fun i y hy => h (i + 1) y (by simpa using hy)]
theorem parts_bot {d : Nat} {s : Sch} : partsD d s (bottomF s) = [] := by
 cases d with
 | zero => rfl
 | succ d =>
  obtain ⟨k, ins⟩ := s
  cases hb : bottomF (.mk k ins) with
  | mk n m s c w => exact parts_none hb
theorem _root_.zJ4 : type_of% @parts_bot := @parts_bot
theorem noV_ne {n m : Int} {s : List Bs} {c : List (List Tk)} {w : List Val} (h : w ≠ [] ∨ s ≠ [] ∨ c ≠ []) : ¬ noV = .mk n m s c w := by
 intro e
 unfold noV at e
 injection e with _ _ e1 e2 e3
 rcases h with h | h | h
 ·exact h e3.symm
 ·exact h e1.symm
 ·exact h e2.symm
def oneM (e : Bs × Val) : Val := mapL [e]
def oneC (e : List Tk × Val) : Val := cauL [e]
def oneS (t : Bs) : Val := .mk 0 0 [t] [] []
theorem parts4 {d : Nat} {t : Sch} (A : List (Bs × Val)) : partsD (d + 1) (.mk 4 [t]) (mapL A) = A.flatMap fun e => (partsD d t e.2).map fun p => oneM (e.1, p) := by
 by_cases hA : A = []
 ·subst hA
  have : bottomF (.mk 4 [t]) = mapL [] := by rw [zX4]; rfl
  rw [← this, zJ4]
  rfl
 ·unfold mapL
  rw [parts_in (by rw [zX4]; exact noV_ne (.inl (by simpa using hA))) (by simpa using hA), zC]
  refine range_fm A _ _ fun i e he => ?_
  unfold partAt
  rw [if_pos rfl]
  have h1 : (A.map (·.2)).getD i noV = e.2 := by simp [he]
  have h2 : (A.map (·.1)).getD i [] = e.1 := by simp [he]
  rw [h1, h2]
  rfl
theorem parts8 {d : Nat} {t : Sch} (A : List (List Tk × Val)) : partsD (d + 1) (.mk 8 [t]) (cauL A) = A.flatMap fun e => (innerF (bottomF t) (partsD d t) e.2).map fun p => oneC (e.1, p) := by
 by_cases hA : A = []
 ·subst hA
  have : bottomF (.mk 8 [t]) = cauL [] := by rw [zX4]; rfl
  rw [← this, zJ4]
  rfl
 ·unfold cauL
  rw [parts_in (by rw [zX4]; exact noV_ne (.inl (by simpa using hA))) (by simpa using hA), zC]
  refine range_fm A _ _ fun i e he => ?_
  unfold partAt
  rw [if_neg (by decide), if_neg (by decide)]
  have h1 : (A.map (·.2)).getD i noV = e.2 := by simp [he]
  have h2 : (A.map (·.1)).getD i [] = e.1 := by simp [he]
  rw [h1, h2]
  rfl
theorem parts5 {d : Nat} {t u : Sch} (x y : Val) : partsD (d + 1) (.mk 5 [t, u]) (.mk 0 0 [] [] [x, y]) = ((partsD d t x).map fun p => .mk 0 0 [] [] [p, bottomF u]) ++ (partsD d u y).map fun p => .mk 0 0 [] [] [bottomF t, p] := by
 have hb : bottomF (.mk 5 [t, u]) = .mk 0 0 [] [] [bottomF t, bottomF u] := by rw [zX4, if_pos rfl, zN2]; rfl
 by_cases h : bottomF (.mk 5 [t, u]) = .mk 0 0 [] [] [x, y]
 ·have h2 := h
  rw [hb] at h2
  injection h2 with _ _ _ _ h2
  injection h2 with h3 h2
  injection h2 with h4 _
  subst h3 h4
  rw [← hb, zJ4, zJ4, zJ4]
  rfl
 ·rw [parts_in h (by simp)]
  show (List.range 2).flatMap _ = _
  rw [show List.range 2 = [0, 1] by decide]
  unfold partAt
  simp [zN2]
theorem parts3 {d : Nat} {ins : List Sch} (A : List Bs) : partsD (d + 1) (.mk 3 ins) (.mk 0 0 A [] []) = A.map oneS := by
 by_cases hA : A = []
 ·subst hA
  have : bottomF (.mk 3 ins) = .mk 0 0 [] [] [] := by rw [zX4]; rfl
  rw [← this, zJ4]
  rfl
 ·rw [parts_leaf (by rw [zX4]; exact noV_ne (.inr (.inl hA)))]
  simp [leavesF, oneS]
theorem parts7 {d : Nat} {ins : List Sch} (c : List Tk) : partsD (d + 1) (.mk 7 ins) (clkW c) = c.map fun t => clkW [t] := by
 by_cases hA : c = []
 ·subst hA
  have : bottomF (.mk 7 ins) = clkW [] := by rw [zX4]; rfl
  rw [← this, zJ4]
  rfl
 ·rw [zA3 hA, parts_leaf (by rw [zX4]; exact noV_ne (.inr (.inr (by simp))))]
  simp [leavesF, clkW]
theorem parts1 {d : Nat} {k : Int} (hk : k = 1 ∨ k = 2 ∨ k = 6) {ins : List Sch} {n m : Int} {s : List Bs} {c : List (List Tk)} (h : ¬ bottomF (.mk k ins) = .mk n m s c []) : partsD (d + 1) (.mk k ins) (.mk n m s c []) = [.mk n m s c []] := by
 rw [parts_leaf h]
 rcases hk with rfl | rfl | rfl <;> simp [leavesF]
theorem n126 {k : Int} (hk : k = 1 ∨ k = 2 ∨ k = 6) {ins : List Sch} {v : Val} (h : LV (.mk k ins) v) : ∃ n m s c, v = .mk n m s c [] := by
 rw [LV_mk] at h
 rcases hk with rfl | rfl | rfl
 ·obtain ⟨n, rfl, _⟩ : N1 v := h
  exact ⟨_, _, _, _, rfl⟩
 ·obtain ⟨n, rfl, _⟩ : N2 v := h
  exact ⟨_, _, _, _, rfl⟩
 ·rcases lv_form (show isLV v = true from h.1) with rfl | ⟨n, m, t, rfl, _⟩
  ·exact ⟨_, _, _, _, rfl⟩
  ·exact ⟨_, _, _, _, rfl⟩
theorem parts126 {d : Nat} {k : Int} (hk : k = 1 ∨ k = 2 ∨ k = 6) {ins : List Sch} {v : Val} (h : LV (.mk k ins) v) : (v = bottomF (.mk k ins) ∧ partsD (d + 1) (.mk k ins) v = []) ∨ (v ≠ bottomF (.mk k ins) ∧ partsD (d + 1) (.mk k ins) v = [v]) := by
 obtain ⟨n, m, s, c, rfl⟩ := n126 hk h
 by_cases hb : bottomF (.mk k ins) = .mk n m s c []
 ·exact .inl ⟨hb.symm, parts_none hb⟩
 ·exact .inr ⟨fun e => hb e.symm, parts1 hk hb⟩
section
variable {κ : Type} {cmp : κ → κ → Int}
open Classical in
theorem look_one {k k2 : κ} {p : Val} : look [(k, p)] k2 = if k = k2 then some p else none := by
 by_cases h : k = k2
 ·rw [zK2, if_pos h, if_pos h]
 ·rw [zK2, if_neg h, if_neg h]; rfl
theorem srt_snoc {A : List (κ × Val)} {k : κ} {x y : Val} (h : SrtK cmp (A ++ [(k, x)])) : SrtK cmp (A ++ [(k, y)]) := by
 unfold SrtK at *
 rw [List.pairwise_append] at *
 exact ⟨h.1, by simp, fun a ha b hb => by
  have hb : b = (k, y) := by simpa using hb
  subst hb
  exact h.2.2 a ha (k, x) (by simp)⟩
theorem srt_pre {A B : List (κ × Val)} (h : SrtK cmp (A ++ B)) : SrtK cmp A := (List.pairwise_append.1 h).1
theorem snoc_no (ho : OrdK cmp) {A : List (κ × Val)} {k : κ} {x : Val} (h : SrtK cmp (A ++ [(k, x)])) : look A k = none := zC3 fun ⟨e, he, e2⟩ => by
 have := (List.pairwise_append.1 h).2.2 e he (k, x) (by simp)
 rw [e2] at this
 exact ho.irr k this
theorem srt_one (k : κ) (p : Val) : SrtK cmp [(k, p)] := List.pairwise_singleton ..
theorem merge_new (ho : OrdK cmp) (f : Val → Val → Val) {A : List (κ × Val)} {k : κ} {p : Val} (h : SrtK cmp (A ++ [(k, p)])) : mergeG cmp f A [(k, p)] = A ++ [(k, p)] := by
 refine look_ext ho (zN3 ho f _ _ (srt_pre h) (srt_one k p)) h fun k2 => ?_
 rw [zL3 ho f _ _ (srt_pre h) (srt_one k p), look_app, look_one]
 by_cases hk : k = k2
 ·subst hk
  rw [if_pos rfl, snoc_no ho h]
  rfl
 ·rw [if_neg hk, zS6]
  cases look A k2 <;> rfl
theorem merge_more (ho : OrdK cmp) (f : Val → Val → Val) {A : List (κ × Val)} {k : κ} {x p : Val} (h : SrtK cmp (A ++ [(k, x)])) : mergeG cmp f (A ++ [(k, x)]) [(k, p)] = A ++ [(k, f x p)] := by
 refine look_ext ho (zN3 ho f _ _ h (srt_one k p)) (srt_snoc h) fun k2 => ?_
 rw [zL3 ho f _ _ h (srt_one k p), look_app, look_app, look_one, look_one, look_one]
 by_cases hk : k = k2
 ·subst hk
  rw [if_pos rfl, if_pos rfl, if_pos rfl, snoc_no ho h]
  rfl
 ·rw [if_neg hk, if_neg hk, if_neg hk, zS6]
theorem fold_key {J : List (κ × Val) → Val} {F : Val → Val → Val} {f : Val → Val → Val} {A : List (κ × Val)} {k : κ} (hF : ∀ x p, F (J (A ++ [(k, x)])) (J [(k, p)]) = J (A ++ [(k, f x p)])) : ∀ (l : List Val) (x : Val), (l.map fun p => J [(k, p)]).foldl F (J (A ++ [(k, x)])) = J (A ++ [(k, l.foldl f x)])
 | [], x => rfl
 | p :: l, x => by rw [List.map_cons, List.foldl_cons, List.foldl_cons, hF, fold_key hF l]
end
theorem anti_pre {A B : List (List Tk × Val)} (h : AntiK blwC (A ++ B)) : AntiK blwC A := fun x hx y hy => h x (List.mem_append_left _ hx) y (List.mem_append_left _ hy)
theorem top_of_merge {f : Val → Val → Val} {a b : List (List Tk × Val)} {c : List (List Tk × Val)} (h : mergeG byTicksF f a b = c) (hn : AntiK blwC c) : topG byTicksF blwC f a b = c := by
 unfold topG
 rw [h]
 exact filter_true fun e he => by
  simp only [decide_eq_true_eq]
  exact fun ⟨o, ⟨q, hq, e2⟩, ho⟩ => hn e he q hq (by rw [e2]; exact ho)
theorem anti_val {A : List (List Tk × Val)} {k : List Tk} {x y : Val} (h : AntiK blwC (A ++ [(k, x)])) : AntiK blwC (A ++ [(k, y)]) := fun a ha b hb => by
 have key : ∀ e, e ∈ A ++ [(k, y)] → ∃ e', e' ∈ A ++ [(k, x)] ∧ e'.1 = e.1 := fun e he => by
  rcases zJ1.1 he with he | he
  ·exact ⟨e, List.mem_append_left _ he, rfl⟩
  ·have : e = (k, y) := by simpa using he
   subst this
   exact ⟨(k, x), by simp, rfl⟩
 obtain ⟨a', ha', ea⟩ := key a ha
 obtain ⟨b', hb', eb⟩ := key b hb
 rw [← ea, ← eb]
 exact h a' ha' b' hb'
theorem of_in {c : List Tk} {w : Int} (h : ofF c w ≠ 0) : (w, ofF c w) ∈ c := by
 induction c with
 | nil => exact absurd rfl h
 | cons t c ih =>
  rw [ofF] at h ⊢
  by_cases e : t.1 = w
  ·rw [if_pos e]
   subst e
   exact zM0 ..
  ·rw [if_neg e] at h ⊢
   exact zI0 _ (ih h)
theorem join_in {a b : List Tk} (ha : ClkOk a) (hb : ClkOk b) {t : Tk} (h : t ∈ joinF a b) : t ∈ a ∨ t ∈ b := by
 have hj := zS3 ha hb
 have e := of_mem hj.1 h
 rw [of_join ha hb] at e
 have hp := (hj.2.1 t h).1
 rcases Int.le_total (ofF a t.1) (ofF b t.1) with hle | hle
 ·have e2 : ofF b t.1 = t.2 := by omega
  have := of_in (c := b) (w := t.1) (by omega)
  rw [e2] at this
  exact .inr this
 ·have e2 : ofF a t.1 = t.2 := by omega
  have := of_in (c := a) (w := t.1) (by omega)
  rw [e2] at this
  exact .inl this
theorem of_snoc {c : List Tk} {t : Tk} (h : Go.MV.Up (c ++ [t])) (hp : Go.MV.Pos c) (ht : 0 ≤ t.2) (w : Int) : ofF (c ++ [t]) w = max (ofF c w) (ofF [t] w) := by
 induction c with
 | nil =>
  show ofF [t] w = max 0 (ofF [t] w)
  have : 0 ≤ ofF [t] w := by
   simp only [ofF]
   split <;> omega
  omega
 | cons s c ih =>
  have hs := zI1.1 (show (s :: (c ++ [t])).Pairwise _ from h)
  rw [List.cons_append, ofF, ofF]
  by_cases e : s.1 = w
  ·rw [if_pos e, if_pos e]
   have hlt := hs.1 t (by simp)
   have : ofF [t] w = 0 := by simp only [ofF]; rw [if_neg (by omega)]
   have := (hp s (zM0 ..)).1
   omega
  ·rw [if_neg e, if_neg e]
   exact ih hs.2 fun x hx => hp x (zI0 _ hx)
theorem clkOk_pre {c e : List Tk} (h : ClkOk (c ++ e)) : ClkOk c ∧ ClkOk e := by
 obtain ⟨h1, h2, h3⟩ := h
 have q := List.pairwise_append.1 h1
 exact ⟨⟨q.1, fun t ht => h2 t (List.mem_append_left _ ht), fun t ht => h3 t (List.mem_append_left _ ht)⟩, ⟨q.2.1, fun t ht => h2 t (List.mem_append_right _ ht), fun t ht => h3 t (List.mem_append_right _ ht)⟩⟩
theorem join_snoc {c : List Tk} {t : Tk} (h : ClkOk (c ++ [t])) : joinF c [t] = c ++ [t] := by
 obtain ⟨h1, h2⟩ := clkOk_pre h
 refine clk_ext (zS3 h1 h2) h fun w => ?_
 rw [of_join h1 h2, of_snoc h.1 h1.2.1 (by have := h2.2.1 t (by simp); omega)]
theorem bothX_snoc {A : List Bs} {t : Bs} (h : Up (A ++ [t])) : bothX A [t] = A ++ [t] := by
 have q := List.pairwise_append.1 h
 exact up_ext (zM6 _ _ q.1 q.2.1) h fun z => by rw [zG3, zJ1]
end
theorem jn4 {t : Sch} (A B : List (Bs × Val)) : jn (.mk 4 [t]) (mapL A) (mapL B) = mapL (mergeG cmpX (jn t) A B) := by
 rw [jn_mk, jnL_one]
 simp [jnB, zZ2]
theorem jn8 {t : Sch} (A B : List (List Tk × Val)) : jn (.mk 8 [t]) (cauL A) (cauL B) = cauL (topG byTicksF blwC (jn t) A B) := by
 rw [jn_mk, jnL_one]
 simp [jnB, zO3]
theorem jn5 {t u : Sch} (x y x2 y2 : Val) : jn (.mk 5 [t, u]) (.mk 0 0 [] [] [x, y]) (.mk 0 0 [] [] [x2, y2]) = .mk 0 0 [] [] [jn t x x2, jn u y y2] := by
 rw [jn_mk]
 simp [jnB, jnL, Val.vv]
theorem jn3 {ins : List Sch} (A B : List Bs) : jn (.mk 3 ins) (.mk 0 0 A [] []) (.mk 0 0 B [] []) = .mk 0 0 (bothX A B) [] [] := by rw [jn_mk]; rfl
theorem jn7 {ins : List Sch} (c e : List Tk) : jn (.mk 7 ins) (clkW c) (clkW e) = clkW (joinF c e) := by
 rw [jn_mk, ← zT2]; rfl
theorem fold3 {ins : List Sch} : ∀ (B A0 : List Bs), Up (A0 ++ B) → (B.map oneS).foldl (jn (.mk 3 ins)) (.mk 0 0 A0 [] []) = .mk 0 0 (A0 ++ B) [] []
 | [], A0, _ => by simp
 | t :: B, A0, h => by
  have h2 : Up ((A0 ++ [t]) ++ B) := by rw [zZ]; exact h
  have h3 : Up (A0 ++ [t]) := (List.pairwise_append.1 h2).1
  rw [List.map_cons, List.foldl_cons, oneS, jn3, bothX_snoc h3, fold3 B (A0 ++ [t]) h2, zZ]
  rfl
theorem fold7 {ins : List Sch} : ∀ (B A0 : List Tk), ClkOk (A0 ++ B) → (B.map fun t => clkW [t]).foldl (jn (.mk 7 ins)) (clkW A0) = clkW (A0 ++ B)
 | [], A0, _ => by simp
 | t :: B, A0, h => by
  have h2 : ClkOk ((A0 ++ [t]) ++ B) := by rw [zZ]; exact h
  rw [List.map_cons, List.foldl_cons, jn7, join_snoc (clkOk_pre h2).1, fold7 B (A0 ++ [t]) h2, zZ]
  rfl
theorem part_ne {d : Nat} {t : Sch} {q : Val} (h : partsD d t q = [q]) : bottomF t ≠ q := fun e => by rw [← e, zJ4] at h; cases h
theorem fold_parts {t : Sch} {f : Val → Val → Val} {P : Val → Prop} {b : Val} (hs : SemiB P f b) {l : List Val} {v : Val} (hl : ∀ p ∈ l, P p) (hf : l.foldl f b = v) (hn : l ≠ []) : ∃ p0 l', l = p0 :: l' ∧ l'.foldl f p0 = v := by
 match l, hn with
 | p0 :: l', _ =>
  rw [List.foldl_cons, bot_l hs (hl p0 (.head _))] at hf
  exact ⟨p0, l', rfl, hf⟩
theorem fold5a {t u : Sch} (hu : SemiB (LV u) (jn u) (bottomF u)) {y0 : Val} (hy : LV u y0) : ∀ (l : List Val) (x0 : Val), (l.map fun p => Val.mk 0 0 [] [] [p, bottomF u]).foldl (jn (.mk 5 [t, u])) (.mk 0 0 [] [] [x0, y0]) = .mk 0 0 [] [] [l.foldl (jn t) x0, y0]
 | [], x0 => rfl
 | p :: l, x0 => by rw [List.map_cons, List.foldl_cons, jn5, hu.neut y0 hy, fold5a hu hy l]; rfl
theorem fold5b {t u : Sch} (ht : SemiB (LV t) (jn t) (bottomF t)) {x0 : Val} (hx : LV t x0) : ∀ (l : List Val) (y0 : Val), (l.map fun p => Val.mk 0 0 [] [] [bottomF t, p]).foldl (jn (.mk 5 [t, u])) (.mk 0 0 [] [] [x0, y0]) = .mk 0 0 [] [] [x0, l.foldl (jn u) y0]
 | [], y0 => rfl
 | p :: l, y0 => by rw [List.map_cons, List.foldl_cons, jn5, ht.neut x0 hx, fold5b ht hx l]; rfl
theorem clk_one {c : List Tk} (h : ClkOk c) {t : Tk} (ht : t ∈ c) : ClkOk [t] := ⟨List.pairwise_singleton .., fun x hx => by simp at hx; subst hx; exact h.2.1 _ ht, fun x hx => by simp at hx; subst hx; exact h.2.2 _ ht⟩
theorem inner_laws {d : Nat} {t : Sch} (ht : SemiB (LV t) (jn t) (bottomF t)) {x : Val} (hx : LV t x) (ih : (∀ p ∈ partsD d t x, LV t p ∧ partsD d t p = [p]) ∧ (partsD d t x).foldl (jn t) (bottomF t) = x) :
  (∀ q ∈ innerF (bottomF t) (partsD d t) x, LV t q ∧ innerF (bottomF t) (partsD d t) q = [q]) ∧ innerF (bottomF t) (partsD d t) x ≠ [] ∧ (innerF (bottomF t) (partsD d t) x).foldl (jn t) (bottomF t) = x := by
 unfold innerF
 by_cases hb : bottomF t = x
 ·rw [if_pos hb]
  refine ⟨fun q hq => ?_, by simp, bot_l ht hx⟩
  have : q = x := by simpa using hq
  subst this
  exact ⟨hx, if_pos hb⟩
 ·rw [if_neg hb]
  refine ⟨fun q hq => ?_, fun e => ?_, ih.2⟩
  ·obtain ⟨h1, h2⟩ := ih.1 q hq
   exact ⟨h1, by rw [if_neg (part_ne h2)]; exact h2⟩
  ·have := ih.2
   rw [e] at this
   exact hb this
theorem parts_one {d : Nat} {k : Int} (hk : k = 1 ∨ k = 2 ∨ k = 6) {ins : List Sch} (hs : SemiB (LV (.mk k ins)) (jn (.mk k ins)) (bottomF (.mk k ins))) {v : Val} (hv : LV (.mk k ins) v) :
  (∀ p ∈ partsD (d + 1) (.mk k ins) v, LV (.mk k ins) p ∧ partsD (d + 1) (.mk k ins) p = [p]) ∧ (partsD (d + 1) (.mk k ins) v).foldl (jn (.mk k ins)) (bottomF (.mk k ins)) = v := by
 rcases parts126 (d := d) hk hv with ⟨e, hp⟩ | ⟨hne, hp⟩
 ·rw [hp]
  exact ⟨by simp, e.symm⟩
 ·rw [hp]
  refine ⟨fun p h => ?_, bot_l hs hv⟩
  have : p = v := by simpa using h
  subst this
  exact ⟨hv, hp⟩
theorem parts_laws : ∀ (d : Nat) (s : Sch), isF d s = true → ∀ v : Val, LV s v → (∀ p ∈ partsD d s v, LV s p ∧ partsD d s p = [p]) ∧ (partsD d s v).foldl (jn s) (bottomF s) = v
 | 0, s, h => by simp [isF] at h
 | d + 1, .mk k ins, h => by
  have hs := sem (d + 1) _ h
  rw [isF] at h
  simp only [Bool.and_eq_true, List.all_eq_true, beq_iff_eq] at h
  intro v hv
  have hv0 := hv
  rw [LV_mk] at hv
  rcases k8_of h.1 with rfl | rfl | rfl | rfl | rfl | rfl | rfl | rfl
  ·exact parts_one (.inl rfl) hs hv0
  ·exact parts_one (.inr (.inl rfl)) hs hv0
  ·obtain ⟨A, rfl, u, sh⟩ : N3 v := hv
   rw [parts3]
   refine ⟨fun p hp => ?_, ?_⟩
   ·obtain ⟨t, ht, rfl⟩ := List.mem_map.1 hp
    exact ⟨by rw [LV_mk]; exact ⟨[t], rfl, List.pairwise_singleton .., fun x hx => by simp at hx; subst hx; exact sh _ ht⟩, by rw [oneS, parts3]; rfl⟩
   ·rw [show bottomF (.mk 3 ins) = .mk 0 0 [] [] [] by rw [zX4]; rfl, fold3 A [] u]
    rfl
  ·obtain ⟨t, rfl⟩ := zX2 h.1 (by decide)
   have ht := h.2 t (by simp)
   rw [zT3, zN2] at hv
   obtain ⟨A, rfl, ra⟩ : N4 (LV t) (bottomF t) v := hv
   have ih := parts_laws d t ht
   have hst := sem d t ht
   rw [parts4]
   refine ⟨fun p hp => ?_, ?_⟩
   ·obtain ⟨e, he, hp⟩ := List.mem_flatMap.1 hp
    obtain ⟨q, hq, rfl⟩ := List.mem_map.1 hp
    obtain ⟨h1, h2⟩ := (ih e.2 (ra.all e he)).1 q hq
    refine ⟨?_, ?_⟩
    ·rw [LV_mk, zT3, zN2]
     refine ⟨[(e.1, q)], rfl, srt_one _ _, fun x hx => ?_, fun x hx => ?_, fun x hx => ?_⟩ <;> (have : x = (e.1, q) := by simpa using hx) <;> subst this
     ·exact ra.sh e he
     ·exact h1
     ·exact fun e2 => part_ne h2 e2.symm
    ·rw [oneM, parts4]
     simp [h2, oneM]
   ·have key : ∀ (B A0 : List (Bs × Val)), R4 (LV t) (bottomF t) (A0 ++ B) → (B.flatMap fun e => (partsD d t e.2).map fun p => oneM (e.1, p)).foldl (jn (.mk 4 [t])) (mapL A0) = mapL (A0 ++ B) := by
     intro B
     induction B with
     | nil => intro A0 _; simp
     | cons e B ihB =>
      intro A0 r
      have r2 : R4 (LV t) (bottomF t) ((A0 ++ [e]) ++ B) := by rw [zZ]; exact r
      have hsrt : SrtK cmpX (A0 ++ [(e.1, e.2)]) := srt_pre r2.srt
      have he : e ∈ A0 ++ e :: B := by simp
      have hie := ih e.2 (r.all e he)
      obtain ⟨p0, l, hl, hf⟩ := fold_parts (t := t) hst (fun p hp => (hie.1 p hp).1) hie.2 (fun e2 => r.non e he (by have := hie.2; rw [e2] at this; exact this.symm))
      rw [List.flatMap_cons, List.foldl_append, hl, List.map_cons, List.foldl_cons]
      have e1 : jn (.mk 4 [t]) (mapL A0) (oneM (e.1, p0)) = mapL (A0 ++ [(e.1, p0)]) := by rw [oneM, jn4, merge_new ordX (jn t) (srt_snoc hsrt)]
      rw [e1]
      have e2 := fold_key (J := mapL) (F := jn (.mk 4 [t])) (f := jn t) (A := A0) (k := e.1) (fun x p => by rw [jn4, merge_more ordX (jn t) (srt_snoc hsrt)]) l p0
      rw [hf] at e2
      have e3 : (l.map fun p => oneM (e.1, p)) = l.map fun p => mapL [(e.1, p)] := rfl
      rw [e3, e2, ihB (A0 ++ [e]) r2, zZ]
      rfl
    rw [show bottomF (.mk 4 [t]) = mapL [] by rw [zX4]; rfl, key A [] ra]
    rfl
  ·obtain ⟨t, u, rfl⟩ := zQ5 h.1
   rw [show LVL [t, u] = [LV t, LV u] by simp [LVL]] at hv
   obtain ⟨x, y, rfl, hx, hy⟩ : N5 (LV t) (LV u) v := hv
   have ht := h.2 t (by simp)
   have hu := h.2 u (by simp)
   have i1 := parts_laws d t ht x hx
   have i2 := parts_laws d u hu y hy
   have s1 := sem d t ht
   have s2 := sem d u hu
   rw [parts5]
   refine ⟨fun p hp => ?_, ?_⟩
   ·rcases zJ1.1 hp with hp | hp
    ·obtain ⟨q, hq, rfl⟩ := List.mem_map.1 hp
     obtain ⟨h1, h2⟩ := i1.1 q hq
     refine ⟨?_, by rw [parts5, h2, zJ4]; rfl⟩
     rw [LV_mk, show LVL [t, u] = [LV t, LV u] by simp [LVL]]
     exact ⟨q, bottomF u, rfl, h1, s2.bot⟩
    ·obtain ⟨q, hq, rfl⟩ := List.mem_map.1 hp
     obtain ⟨h1, h2⟩ := i2.1 q hq
     refine ⟨?_, by rw [parts5, h2, zJ4]; rfl⟩
     rw [LV_mk, show LVL [t, u] = [LV t, LV u] by simp [LVL]]
     exact ⟨bottomF t, q, rfl, s1.bot, h1⟩
   ·rw [show bottomF (.mk 5 [t, u]) = .mk 0 0 [] [] [bottomF t, bottomF u] by rw [zX4, if_pos rfl, zN2]; rfl, List.foldl_append, fold5a s2 s2.bot, i1.2, fold5b s1 hx, i2.2]
  ·exact parts_one (.inr (.inr rfl)) hs hv0
  ·obtain ⟨c, rfl, hc⟩ : N7 v := hv
   rw [parts7]
   refine ⟨fun p hp => ?_, ?_⟩
   ·obtain ⟨t, ht, rfl⟩ := List.mem_map.1 hp
    exact ⟨by rw [LV_mk]; exact ⟨[t], rfl, clk_one hc ht⟩, by rw [parts7]; rfl⟩
   ·rw [show bottomF (.mk 7 ins) = clkW [] by rw [zX4]; rfl, fold7 c [] hc]
    rfl
  ·obtain ⟨t, rfl⟩ := zX2 h.1 (by decide)
   have ht := h.2 t (by simp)
   rw [zT3] at hv
   obtain ⟨A, rfl, ra⟩ : N8 (LV t) v := hv
   have hst := sem d t ht
   have ih := fun x hx => inner_laws hst hx (parts_laws d t ht x hx)
   rw [parts8]
   refine ⟨fun p hp => ?_, ?_⟩
   ·obtain ⟨e, he, hp⟩ := List.mem_flatMap.1 hp
    obtain ⟨q, hq, rfl⟩ := List.mem_map.1 hp
    obtain ⟨h1, h2⟩ := (ih e.2 (ra.all e he)).1 q hq
    refine ⟨?_, ?_⟩
    ·rw [LV_mk, zT3]
     refine ⟨[(e.1, q)], rfl, srt_one _ _, fun x hx => ?_, fun x hx => ?_, fun x hx => ?_, fun x hx y hy => ?_⟩
     ·have : x = (e.1, q) := by simpa using hx
      subst this
      exact ra.key e he
     ·have : x = (e.1, q) := by simpa using hx
      subst this
      exact ra.len e he
     ·have : x = (e.1, q) := by simpa using hx
      subst this
      exact h1
     ·have e1 : x = (e.1, q) := by simpa using hx
      have e2 : y = (e.1, q) := by simpa using hy
      subst e1 e2
      exact ra.anti e he e he
    ·rw [oneC, parts8]
     simp [h2, oneC]
   ·have key : ∀ (B A0 : List (List Tk × Val)), R8 (LV t) (A0 ++ B) → (B.flatMap fun e => (innerF (bottomF t) (partsD d t) e.2).map fun p => oneC (e.1, p)).foldl (jn (.mk 8 [t])) (cauL A0) = cauL (A0 ++ B) := by
     intro B
     induction B with
     | nil => intro A0 _; simp
     | cons e B ihB =>
      intro A0 r
      have r2 : R8 (LV t) ((A0 ++ [e]) ++ B) := by rw [zZ]; exact r
      have hsrt : SrtK byTicksF (A0 ++ [(e.1, e.2)]) := srt_pre r2.srt
      have hant : AntiK blwC (A0 ++ [(e.1, e.2)]) := anti_pre r2.anti
      have he : e ∈ A0 ++ e :: B := by simp
      have hie := ih e.2 (r.all e he)
      obtain ⟨p0, l, hl, hf⟩ := fold_parts (t := t) hst (fun p hp => (hie.1 p hp).1) hie.2.2 hie.2.1
      rw [List.flatMap_cons, List.foldl_append, hl, List.map_cons, List.foldl_cons]
      have e1 : jn (.mk 8 [t]) (cauL A0) (oneC (e.1, p0)) = cauL (A0 ++ [(e.1, p0)]) := by rw [oneC, jn8, top_of_merge (merge_new ordT (jn t) (srt_snoc hsrt)) (anti_val hant)]
      rw [e1]
      have e2 := fold_key (J := cauL) (F := jn (.mk 8 [t])) (f := jn t) (A := A0) (k := e.1) (fun x p => by rw [jn8, top_of_merge (merge_more ordT (jn t) (srt_snoc hsrt)) (anti_val hant)]) l p0
      rw [hf] at e2
      have e3 : (l.map fun p => oneC (e.1, p)) = l.map fun p => cauL [(e.1, p)] := rfl
      rw [e3, e2, ihB (A0 ++ [e]) r2, zZ]
      rfl
    rw [show bottomF (.mk 8 [t]) = cauL [] by rw [zX4]; rfl, key A [] ra]
    rfl
theorem _root_.zU3 : type_of% @parts_laws := @parts_laws
section
theorem is_pair_ {t u : Sch} {x y : Val} : isVF (.mk 5 [t, u]) (.mk 0 0 [] [] [x, y]) = (isVF t x && isVF u y) := by
 rw [zW0 5]
 simp [isVL, bareF, numsK, textsK, clocksK, valuesK, Val.nv, Val.mv, Val.sv, Val.cv, Val.vv]
theorem mem4 {d : Nat} {t : Sch} {A : List (Bs × Val)} {q : Val} : q ∈ partsD (d + 1) (.mk 4 [t]) (mapL A) ↔ ∃ e ∈ A, ∃ p ∈ partsD d t e.2, q = oneM (e.1, p) := by
 rw [parts4, List.mem_flatMap]
 refine exists_congr fun e => and_congr_right fun _ => ?_
 rw [List.mem_map]
 exact exists_congr fun p => and_congr_right fun _ => ⟨fun h => h.symm, fun h => h.symm⟩
theorem mem8 {d : Nat} {t : Sch} {A : List (List Tk × Val)} {q : Val} : q ∈ partsD (d + 1) (.mk 8 [t]) (cauL A) ↔ ∃ e ∈ A, ∃ p ∈ innerF (bottomF t) (partsD d t) e.2, q = oneC (e.1, p) := by
 rw [parts8, List.mem_flatMap]
 refine exists_congr fun e => and_congr_right fun _ => ?_
 rw [List.mem_map]
 exact exists_congr fun p => and_congr_right fun _ => ⟨fun h => h.symm, fun h => h.symm⟩
theorem mem5 {d : Nat} {t u : Sch} {x y q : Val} : q ∈ partsD (d + 1) (.mk 5 [t, u]) (.mk 0 0 [] [] [x, y]) ↔ (∃ p ∈ partsD d t x, q = .mk 0 0 [] [] [p, bottomF u]) ∨ ∃ p ∈ partsD d u y, q = .mk 0 0 [] [] [bottomF t, p] := by
 rw [parts5, zJ1, List.mem_map, List.mem_map]
 exact or_congr (exists_congr fun p => and_congr_right fun _ => ⟨fun h => h.symm, fun h => h.symm⟩) (exists_congr fun p => and_congr_right fun _ => ⟨fun h => h.symm, fun h => h.symm⟩)
theorem oneM_inj {k k2 : Bs} {p p2 : Val} (h : oneM (k, p) = oneM (k2, p2)) : k = k2 ∧ p = p2 := by
 unfold oneM mapL at h
 injection h with _ _ h1 _ h2
 simp at h1 h2
 exact ⟨h1, h2⟩
theorem oneC_inj {k k2 : List Tk} {p p2 : Val} (h : oneC (k, p) = oneC (k2, p2)) : k = k2 ∧ p = p2 := by
 unfold oneC cauL at h
 injection h with _ _ _ h1 h2
 simp at h1 h2
 exact ⟨h1, h2⟩
theorem oneS_inj {a b : Bs} (h : oneS a = oneS b) : a = b := by
 unfold oneS at h
 injection h with _ _ h1
 simpa using h1
theorem clk1_inj {a b : Tk} (h : clkW [a] = clkW [b]) : a = b := by
 rw [zA3 (by simp), zA3 (by simp)] at h
 injection h with _ _ _ h1
 simpa using h1
theorem jn126 {k : Int} (hk : k = 1 ∨ k = 2 ∨ k = 6) {ins : List Sch} {a b : Val} (ha : LV (.mk k ins) a) (hb : LV (.mk k ins) b) : jn (.mk k ins) a b = a ∨ jn (.mk k ins) a b = b := by
 rw [LV_mk] at ha hb
 rw [jn_mk]
 rcases hk with rfl | rfl | rfl
 ·obtain ⟨n, rfl, _⟩ : N1 a := ha
  obtain ⟨m, rfl, _⟩ : N1 b := hb
  show Val.mk (max n m) 0 [] [] [] = _ ∨ Val.mk (max n m) 0 [] [] [] = _
  rcases Int.le_total n m with h | h
  ·exact .inr (by rw [show max n m = m by omega])
  ·exact .inl (by rw [show max n m = n by omega])
 ·obtain ⟨n, rfl, _⟩ : N2 a := ha
  obtain ⟨m, rfl, _⟩ : N2 b := hb
  show Val.mk (max n m) 0 [] [] [] = _ ∨ Val.mk (max n m) 0 [] [] [] = _
  rcases Int.le_total n m with h | h
  ·exact .inr (by rw [show max n m = m by omega])
  ·exact .inl (by rw [show max n m = n by omega])
 ·exact laterF_or a b
theorem jn_bot {P : Val → Prop} {f : Val → Val → Val} {b : Val} (hs : SemiB P f b) {x y : Val} (hx : P x) (hy : P y) (h : f x y = b) : x = b ∧ y = b := by
 have h1 : f x (f x y) = f x y := by rw [← hs.assoc x x y hx hx hy, hs.idem x hx]
 rw [h, hs.neut x hx] at h1
 subst h1
 refine ⟨rfl, ?_⟩
 rw [bot_l hs hy] at h
 exact h
theorem parts_join : ∀ (d : Nat) (s : Sch), isF d s = true → ∀ a b : Val, LV s a → LV s b → ∀ q ∈ partsD d s (jn s a b), q ∈ partsD d s a ∨ q ∈ partsD d s b
 | 0, s, h => by simp [isF] at h
 | d + 1, .mk k ins, h => by
  have h0 := h
  rw [isF] at h
  simp only [Bool.and_eq_true, List.all_eq_true, beq_iff_eq] at h
  intro a b ha hb q hq
  have one : (jn (.mk k ins) a b = a ∨ jn (.mk k ins) a b = b) → q ∈ partsD (d + 1) (.mk k ins) a ∨ q ∈ partsD (d + 1) (.mk k ins) b := fun hj => by
   rcases hj with hj | hj <;> rw [hj] at hq
   ·exact .inl hq
   ·exact .inr hq
  have ha0 := ha
  have hb0 := hb
  rw [LV_mk] at ha hb
  rcases k8_of h.1 with rfl | rfl | rfl | rfl | rfl | rfl | rfl | rfl
  ·exact one (jn126 (.inl rfl) ha0 hb0)
  ·exact one (jn126 (.inr (.inl rfl)) ha0 hb0)
  ·obtain ⟨A, rfl, _⟩ : N3 a := ha
   obtain ⟨B, rfl, _⟩ : N3 b := hb
   rw [jn3, parts3] at hq
   rw [parts3, parts3]
   obtain ⟨t, ht, rfl⟩ := List.mem_map.1 hq
   rcases (zG3 _ _ _).1 ht with ht | ht
   ·exact .inl (List.mem_map.2 ⟨t, ht, rfl⟩)
   ·exact .inr (List.mem_map.2 ⟨t, ht, rfl⟩)
  ·obtain ⟨t, rfl⟩ := zX2 h.1 (by decide)
   have ht := h.2 t (by simp)
   rw [zT3, zN2] at ha hb
   obtain ⟨A, rfl, ra⟩ : N4 (LV t) (bottomF t) a := ha
   obtain ⟨B, rfl, rb⟩ : N4 (LV t) (bottomF t) b := hb
   rw [jn4] at hq
   obtain ⟨e, he, p, hp, rfl⟩ := mem4.1 hq
   have hl := zK3 ordX (zN3 ordX (jn t) A B ra.srt rb.srt) he
   rw [zL3 ordX (jn t) A B ra.srt rb.srt] at hl
   rw [mem4, mem4]
   cases hA : look A e.1 with
   | none =>
    rw [hA] at hl
    exact .inr ⟨_, zJ3 (show look B e.1 = some e.2 from hl), p, hp, rfl⟩
   | some x =>
    have mA := zJ3 hA
    cases hB : look B e.1 with
    | none =>
     rw [hA, hB] at hl
     have : x = e.2 := Option.some.inj hl
     subst this
     exact .inl ⟨_, mA, p, hp, rfl⟩
    | some y =>
     have mB := zJ3 hB
     rw [hA, hB] at hl
     have : jn t x y = e.2 := Option.some.inj hl
     rw [← this] at hp
     rcases parts_join d t ht x y (ra.all _ mA) (rb.all _ mB) p hp with hp | hp
     ·exact .inl ⟨_, mA, p, hp, rfl⟩
     ·exact .inr ⟨_, mB, p, hp, rfl⟩
  ·obtain ⟨t, u, rfl⟩ := zQ5 h.1
   rw [show LVL [t, u] = [LV t, LV u] by simp [LVL]] at ha hb
   obtain ⟨x, y, rfl, hx, hy⟩ : N5 (LV t) (LV u) a := ha
   obtain ⟨x2, y2, rfl, hx2, hy2⟩ : N5 (LV t) (LV u) b := hb
   rw [jn5] at hq
   rw [mem5, mem5]
   rcases mem5.1 hq with ⟨p, hp, rfl⟩ | ⟨p, hp, rfl⟩
   ·rcases parts_join d t (h.2 t (by simp)) x x2 hx hx2 p hp with hp | hp
    ·exact .inl (.inl ⟨p, hp, rfl⟩)
    ·exact .inr (.inl ⟨p, hp, rfl⟩)
   ·rcases parts_join d u (h.2 u (by simp)) y y2 hy hy2 p hp with hp | hp
    ·exact .inl (.inr ⟨p, hp, rfl⟩)
    ·exact .inr (.inr ⟨p, hp, rfl⟩)
  ·exact one (jn126 (.inr (.inr rfl)) ha0 hb0)
  ·obtain ⟨c, rfl, hc⟩ : N7 a := ha
   obtain ⟨e, rfl, he⟩ : N7 b := hb
   rw [jn7, parts7] at hq
   rw [parts7, parts7]
   obtain ⟨t, ht, rfl⟩ := List.mem_map.1 hq
   rcases join_in hc he ht with ht | ht
   ·exact .inl (List.mem_map.2 ⟨t, ht, rfl⟩)
   ·exact .inr (List.mem_map.2 ⟨t, ht, rfl⟩)
  ·obtain ⟨t, rfl⟩ := zX2 h.1 (by decide)
   have ht := h.2 t (by simp)
   rw [zT3] at ha hb
   obtain ⟨A, rfl, ra⟩ : N8 (LV t) a := ha
   obtain ⟨B, rfl, rb⟩ : N8 (LV t) b := hb
   rw [jn8] at hq
   obtain ⟨e, he, p, hp, rfl⟩ := mem8.1 hq
   have hl := zK3 ordT (top_srt ordT ra.srt rb.srt) he
   rw [look_top ordT ra.srt rb.srt] at hl
   split at hl
   ·cases hl
   rw [mem8, mem8]
   cases hA : look A e.1 with
   | none =>
    rw [hA] at hl
    exact .inr ⟨_, zJ3 (show look B e.1 = some e.2 from hl), p, hp, rfl⟩
   | some x =>
    have mA := zJ3 hA
    cases hB : look B e.1 with
    | none =>
     rw [hA, hB] at hl
     have : x = e.2 := Option.some.inj hl
     subst this
     exact .inl ⟨_, mA, p, hp, rfl⟩
    | some y =>
     have mB := zJ3 hB
     rw [hA, hB] at hl
     have hj : jn t x y = e.2 := Option.some.inj hl
     have hst := sem d t ht
     have hx : LV t x := ra.all _ mA
     have hy : LV t y := rb.all _ mB
     by_cases hb : bottomF t = e.2
     ·obtain ⟨ex, _⟩ := jn_bot hst hx hy (hj.trans hb.symm)
      refine .inl ⟨_, mA, p, ?_, rfl⟩
      subst ex
      rw [← hb] at hp
      exact hp
     ·have hp2 : p ∈ partsD d t (jn t x y) := by
       unfold innerF at hp
       rw [if_neg hb] at hp
       rw [hj]
       exact hp
      have inn : ∀ z, p ∈ partsD d t z → p ∈ innerF (bottomF t) (partsD d t) z := fun z hz => by
       unfold innerF
       rw [if_neg (fun e2 => by rw [← e2, zJ4] at hz; cases hz)]
       exact hz
      rcases parts_join d t ht x y hx hy p hp2 with hp | hp
      ·exact .inl ⟨_, mA, p, inn _ hp, rfl⟩
      ·exact .inr ⟨_, mB, p, inn _ hp, rfl⟩
theorem is_sub : ∀ (d : Nat) (s : Sch), isF d s = true → d ≤ 16 → ∀ v x : Val, okV v → LV s v → isVF s v = true → LV s x → (∀ q ∈ partsD d s x, q ∈ partsD d s v) → isVF s x = true
 | 0, s, h => by simp [isF] at h
 | d + 1, .mk k ins, h => by
  have h0 := h
  rw [isF] at h
  simp only [Bool.and_eq_true, List.all_eq_true, beq_iff_eq] at h
  intro hd v x ov hv vv hx hq
  rw [LV_mk] at hv hx
  rcases k8_of h.1 with rfl | rfl | rfl | rfl | rfl | rfl | rfl | rfl
  ·obtain ⟨n, rfl, hn⟩ : N1 x := hx
   exact zW0 1
  ·obtain ⟨n, rfl, hn⟩ : N2 x := hx
   rw [zW0 2]
   simp [bareF, numsK, textsK, clocksK, valuesK, Val.nv, Val.mv, Val.sv, Val.cv, Val.vv, hn.2]
  ·obtain ⟨A, rfl, _⟩ : N3 v := hv
   obtain ⟨X, rfl, ux, sx⟩ : N3 x := hx
   rw [zW0 3] at vv
   simp [bareF, numsK, textsK, clocksK, valuesK, Val.nv, Val.mv, Val.sv, Val.cv, Val.vv, zP3] at vv
   rw [zW0 3]
   simp [bareF, numsK, textsK, clocksK, valuesK, Val.nv, Val.mv, Val.sv, Val.cv, Val.vv, zP3]
   refine ⟨?_, ux, sx⟩
   rw [parts3, parts3] at hq
   have hsub : X ⊆ A := fun t ht => by
    obtain ⟨t2, h2, e⟩ := List.mem_map.1 (hq _ (List.mem_map.2 ⟨t, ht, rfl⟩))
    rw [← oneS_inj e]
    exact h2
   have hnd : X.Nodup := List.Pairwise.imp (fun h e => by subst e; exact zV4 _ h) ux
   exact Nat.le_trans (hnd.length_le_of_subset hsub) vv.1
  ·obtain ⟨t, rfl⟩ := zX2 h.1 (by decide)
   have ht := h.2 t (by simp)
   rw [zT3, zN2] at hv hx
   obtain ⟨A, rfl, ra⟩ : N4 (LV t) (bottomF t) v := hv
   obtain ⟨X, rfl, rx⟩ : N4 (LV t) (bottomF t) x := hx
   obtain ⟨la, va⟩ := map_is vv
   have oa := okV_mapL.1 ov
   have look2 : ∀ e ∈ X, ∃ e2 ∈ A, e2.1 = e.1 ∧ ∀ p ∈ partsD d t e.2, p ∈ partsD d t e2.2 := fun e he => by
    have hl := zU3 d t ht e.2 (rx.all e he)
    have hne : partsD d t e.2 ≠ [] := fun e3 => rx.non e he (by have := hl.2; rw [e3] at this; exact this.symm)
    obtain ⟨p0, hp0⟩ := List.exists_mem_of_ne_nil _ hne
    obtain ⟨e2, he2, p2, hp2, eq⟩ := mem4.1 (hq _ (mem4.2 ⟨e, he, p0, hp0, rfl⟩))
    refine ⟨e2, he2, (oneM_inj eq).1.symm, fun p hp => ?_⟩
    obtain ⟨e4, he4, p4, hp4, eq4⟩ := mem4.1 (hq _ (mem4.2 ⟨e, he, p, hp, rfl⟩))
    have k1 := zK3 ordX ra.srt he2
    have k2 := zK3 ordX ra.srt he4
    rw [← (oneM_inj eq4).1, (oneM_inj eq).1, k1] at k2
    have := Option.some.inj k2
    rw [this, (oneM_inj eq4).2]
    exact hp4
   refine is_map ht (by omega) rx ?_ fun e he => ?_
   ·have hsub : X.map (·.1) ⊆ A.map (·.1) := fun k hk => by
     obtain ⟨e, he, rfl⟩ := List.mem_map.1 hk
     obtain ⟨e2, he2, eq, _⟩ := look2 e he
     rw [← eq]
     exact List.mem_map.2 ⟨e2, he2, rfl⟩
    have hnd : (X.map (·.1)).Nodup := List.Pairwise.imp (fun h e => by subst e; exact zV4 _ h) (srt_up rx.srt)
    have := hnd.length_le_of_subset hsub
    rw [zC, zC] at this
    omega
   ·obtain ⟨e2, he2, _, hsub⟩ := look2 e he
    exact is_sub d t ht (by omega) e2.2 e.2 (oa e2 he2) (ra.all e2 he2) (va e2 he2) (rx.all e he) hsub
  ·obtain ⟨t, u, rfl⟩ := zQ5 h.1
   rw [show LVL [t, u] = [LV t, LV u] by simp [LVL]] at hv hx
   obtain ⟨v1, v2, rfl, hv1, hv2⟩ : N5 (LV t) (LV u) v := hv
   obtain ⟨x1, x2, rfl, hx1, hx2⟩ : N5 (LV t) (LV u) x := hx
   have ht := h.2 t (by simp)
   have hu := h.2 u (by simp)
   have o := zW2.1 ov
   rw [is_pair_] at vv ⊢
   rw [Bool.and_eq_true] at vv ⊢
   refine ⟨is_sub d t ht (by omega) v1 x1 (o.2.2.2 _ (by simp)) hv1 vv.1 hx1 fun p hp => ?_, is_sub d u hu (by omega) v2 x2 (o.2.2.2 _ (by simp)) hv2 vv.2 hx2 fun p hp => ?_⟩
   ·rcases mem5.1 (hq _ (mem5.2 (.inl ⟨p, hp, rfl⟩))) with ⟨p2, hp2, e⟩ | ⟨p2, hp2, e⟩
    ·injection e with _ _ _ _ e
     injection e with e _
     rw [e]; exact hp2
    ·injection e with _ _ _ _ e
     injection e with e _
     exact absurd e.symm (part_ne ((zU3 d t ht x1 hx1).1 p hp).2)
   ·rcases mem5.1 (hq _ (mem5.2 (.inr ⟨p, hp, rfl⟩))) with ⟨p2, hp2, e⟩ | ⟨p2, hp2, e⟩
    ·injection e with _ _ _ _ e
     injection e with _ e
     injection e with e _
     exact absurd e.symm (part_ne ((zU3 d u hu x2 hx2).1 p hp).2)
    ·injection e with _ _ _ _ e
     injection e with _ e
     injection e with e _
     rw [e]; exact hp2
  ·exact hx.1
  ·obtain ⟨c, rfl, hc⟩ : N7 v := hv
   obtain ⟨e, rfl, he⟩ : N7 x := hx
   rw [parts7, parts7] at hq
   have hsub : e ⊆ c := fun t ht => by
    obtain ⟨t2, h2, eq⟩ := List.mem_map.1 (hq _ (List.mem_map.2 ⟨t, ht, rfl⟩))
    rw [← clk1_inj eq]
    exact h2
   have hnd : e.Nodup := List.Pairwise.imp (fun h e => by subst e; omega) he.1
   have := hnd.length_le_of_subset hsub
   exact is_clk_ he (by have := clk_is ov vv; omega) fun t ht => okV_clkW.1 ov t (hsub ht)
  ·obtain ⟨t, rfl⟩ := zX2 h.1 (by decide)
   have ht := h.2 t (by simp)
   rw [zT3] at hv hx
   obtain ⟨A, rfl, ra⟩ : N8 (LV t) v := hv
   obtain ⟨X, rfl, rx⟩ : N8 (LV t) x := hx
   obtain ⟨la, va⟩ := cau_is vv
   have oa := (okV_cauL.1 ov).2
   have hst := sem d t ht
   have look2 : ∀ e ∈ X, ∃ e2 ∈ A, e2.1 = e.1 ∧ ∀ p ∈ partsD d t e.2, p ∈ partsD d t e2.2 := fun e he => by
    have hl := inner_laws hst (rx.all e he) (zU3 d t ht e.2 (rx.all e he))
    obtain ⟨p0, hp0⟩ := List.exists_mem_of_ne_nil _ hl.2.1
    obtain ⟨e2, he2, p2, hp2, eq⟩ := mem8.1 (hq _ (mem8.2 ⟨e, he, p0, hp0, rfl⟩))
    refine ⟨e2, he2, (oneC_inj eq).1.symm, fun p hp => ?_⟩
    have hpi : p ∈ innerF (bottomF t) (partsD d t) e.2 := by
     unfold innerF
     rw [if_neg (fun e3 => by rw [← e3, zJ4] at hp; cases hp)]
     exact hp
    obtain ⟨e4, he4, p4, hp4, eq4⟩ := mem8.1 (hq _ (mem8.2 ⟨e, he, p, hpi, rfl⟩))
    have k1 := zK3 ordT ra.srt he2
    have k2 := zK3 ordT ra.srt he4
    rw [← (oneC_inj eq4).1, (oneC_inj eq).1, k1] at k2
    have := Option.some.inj k2
    rw [this, (oneC_inj eq4).2]
    unfold innerF at hp4
    split at hp4
    ·rename_i hb
     have h5 : p4 = e4.2 := by simpa using hp4
     have h6 := part_ne ((zU3 d t ht e.2 (rx.all e he)).1 p hp).2
     rw [(oneC_inj eq4).2, h5] at h6
     exact absurd hb h6
    ·exact hp4
   refine is_cau rx ?_ fun e he => ?_
   ·have hsub : X.map (·.1) ⊆ A.map (·.1) := fun k hk => by
     obtain ⟨e, he, rfl⟩ := List.mem_map.1 hk
     obtain ⟨e2, he2, eq, _⟩ := look2 e he
     rw [← eq]
     exact List.mem_map.2 ⟨e2, he2, rfl⟩
    have hnd : (X.map (·.1)).Nodup := by
     unfold List.Nodup
     rw [List.pairwise_map]
     exact List.Pairwise.imp (fun h e => by rw [e, ticks_self] at h; omega) rx.srt
    have := hnd.length_le_of_subset hsub
    rw [zC, zC] at this
    omega
   ·obtain ⟨e2, he2, _, hsub⟩ := look2 e he
    exact is_sub d t ht (by omega) e2.2 e.2 (oa e2 he2) (ra.all e2 he2) (va e2 he2) (rx.all e he) hsub
theorem parts_nodup : ∀ (d : Nat) (s : Sch), isF d s = true → ∀ v : Val, LV s v → (partsD d s v).Nodup
 | 0, s, h => by simp [isF] at h
 | d + 1, .mk k ins, h => by
  rw [isF] at h
  simp only [Bool.and_eq_true, List.all_eq_true, beq_iff_eq] at h
  intro v hv
  have one : ∀ (hk : k = 1 ∨ k = 2 ∨ k = 6), LV (.mk k ins) v → (partsD (d + 1) (.mk k ins) v).Nodup := fun hk hv => by
   rcases parts126 (d := d) hk hv with ⟨_, hp⟩ | ⟨_, hp⟩ <;> rw [hp] <;> simp
  have hv0 := hv
  rw [LV_mk] at hv
  rcases k8_of h.1 with rfl | rfl | rfl | rfl | rfl | rfl | rfl | rfl
  ·exact one (.inl rfl) hv0
  ·exact one (.inr (.inl rfl)) hv0
  ·obtain ⟨A, rfl, u, _⟩ : N3 v := hv
   rw [parts3]
   unfold List.Nodup
   rw [List.pairwise_map]
   exact List.Pairwise.imp (fun h e => by rw [oneS_inj e] at h; exact zV4 _ h) u
  ·obtain ⟨t, rfl⟩ := zX2 h.1 (by decide)
   have ht := h.2 t (by simp)
   rw [zT3, zN2] at hv
   obtain ⟨A, rfl, ra⟩ : N4 (LV t) (bottomF t) v := hv
   rw [parts4]
   unfold List.Nodup
   rw [List.pairwise_flatMap]
   refine ⟨fun e he => ?_, List.Pairwise.imp (fun {e e2} h x hx y hy eq => ?_) (srt_up ra.srt |> fun h => by unfold Up at h; rw [List.pairwise_map] at h; exact h)⟩
   ·rw [List.pairwise_map]
    exact List.Pairwise.imp (fun h e3 => h (oneM_inj e3).2) (parts_nodup d t ht e.2 (ra.all e he))
   ·obtain ⟨p, _, rfl⟩ := List.mem_map.1 hx
    obtain ⟨p2, _, rfl⟩ := List.mem_map.1 hy
    rw [(oneM_inj eq).1] at h
    exact zV4 _ h
  ·obtain ⟨t, u, rfl⟩ := zQ5 h.1
   rw [show LVL [t, u] = [LV t, LV u] by simp [LVL]] at hv
   obtain ⟨x, y, rfl, hx, hy⟩ : N5 (LV t) (LV u) v := hv
   rw [parts5]
   unfold List.Nodup
   rw [List.pairwise_append]
   refine ⟨?_, ?_, fun a ha b hb eq => ?_⟩
   ·rw [List.pairwise_map]
    refine List.Pairwise.imp (fun h e3 => h ?_) (parts_nodup d t (h.2 t (by simp)) x hx)
    injection e3 with _ _ _ _ e3
    injection e3
   ·rw [List.pairwise_map]
    refine List.Pairwise.imp (fun h e3 => h ?_) (parts_nodup d u (h.2 u (by simp)) y hy)
    injection e3 with _ _ _ _ e3
    injection e3 with _ e3
    injection e3
   ·obtain ⟨p, hp, rfl⟩ := List.mem_map.1 ha
    obtain ⟨p2, hp2, rfl⟩ := List.mem_map.1 hb
    injection eq with _ _ _ _ eq
    injection eq with eq _
    exact part_ne ((zU3 d t (h.2 t (by simp)) x hx).1 p hp).2 eq.symm
  ·exact one (.inr (.inr rfl)) hv0
  ·obtain ⟨c, rfl, hc⟩ : N7 v := hv
   rw [parts7]
   unfold List.Nodup
   rw [List.pairwise_map]
   exact List.Pairwise.imp (fun h e => by rw [clk1_inj e] at h; omega) hc.1
  ·obtain ⟨t, rfl⟩ := zX2 h.1 (by decide)
   have ht := h.2 t (by simp)
   rw [zT3] at hv
   obtain ⟨A, rfl, ra⟩ : N8 (LV t) v := hv
   rw [parts8]
   unfold List.Nodup
   rw [List.pairwise_flatMap]
   refine ⟨fun e he => ?_, List.Pairwise.imp (fun {e e2} h x hx y hy eq => ?_) ra.srt⟩
   ·rw [List.pairwise_map]
    have hn : (innerF (bottomF t) (partsD d t) e.2).Nodup := by
     unfold innerF
     split
     ·simp
     ·exact parts_nodup d t ht e.2 (ra.all e he)
    exact List.Pairwise.imp (fun h e3 => h (oneC_inj e3).2) hn
   ·obtain ⟨p, _, rfl⟩ := List.mem_map.1 hx
    obtain ⟨p2, _, rfl⟩ := List.mem_map.1 hy
    rw [(oneC_inj eq).1, ticks_self] at h
    omega
section
variable {s : Sch} (hs : isF 16 s = true) {a : Val} (oa : okV a) (va : isVF s a = true)
include hs oa va
theorem part_right {p : Val} (hp : p ∈ partsD 16 s a) : isVF s p = true ∧ partsD 16 s p = [p] := by
  have la := zE6 16 s hs (Nat.le_refl _) a oa va
  obtain ⟨lp, h1⟩ := (zU3 16 s hs a la).1 p hp
  exact ⟨is_sub 16 s hs (Nat.le_refl _) a p oa la va lp (fun q hq => by rw [h1] at hq; have : q = p := by simpa using hq
                                                                        subst this; exact hp), h1⟩
theorem fold_right : ∀ (l : List Val) (x : Val), (∀ p ∈ l, p ∈ partsD 16 s a) → (∀ p ∈ l, okV p) → okV x → LV s x → isVF s x = true → (∀ q ∈ partsD 16 s x, q ∈ partsD 16 s a) → allGo s x l = .ok (l.foldl (jn s) x)
 | [], x, _, _, _, _, _, _ => rfl
 | p :: l, x, hl, ol, ox, lx, vx, hx => by
  have la := zE6 16 s hs (Nat.le_refl _) a oa va
  have hp := hl p (.head _)
  have op := ol p (.head _)
  obtain ⟨vp, pp⟩ := part_right hs oa va hp
  have lp := zE6 16 s hs (Nat.le_refl _) p op vp
  have lj := (sem 16 s hs).cl x p lx lp
  have hj : ∀ q ∈ partsD 16 s (jn s x p), q ∈ partsD 16 s a := fun q hq => by
   rcases parts_join 16 s hs x p lx lp q hq with h | h
   ·exact hx q h
   ·rw [pp] at h
    have : q = p := by simpa using h
    subst this
    exact hp
  have vj := is_sub 16 s hs (Nat.le_refl _) a (jn s x p) oa la va lj hj
  have hok := both_is hs ox op vx vp vj
  have oj : okV (jn s x p) := by
   rcases join_right hs ox op vx vp with ⟨v, hv, ov, _, _⟩ | hv
   ·rw [hok] at hv
    injection hv with hv
    rw [hv]
    exact ov
   ·rw [hok] at hv; cases hv
  rw [allGo, hok]
  exact fold_right l (jn s x p) (fun q hq => hl q (.tail _ hq)) (fun q hq => ol q (.tail _ hq)) oj lj vj hj
theorem parts_all (op : ∀ p ∈ partsD 16 s a, okV p) : AllF s (partsD 16 s a) = .ok a := by
 have la := zE6 16 s hs (Nat.le_refl _) a oa va
 unfold AllF
 rw [if_pos hs, zH6 hs (Nat.le_refl _), fold_right hs oa va _ _ (fun p hp => hp) op (okV_bot hs) (sem 16 s hs).bot (is_bot hs) (fun q hq => by rw [zJ4] at hq; cases hq), (zU3 16 s hs a la).2]
theorem part_below {p : Val} (hp : p ∈ partsD 16 s a) (op : okV p) : leqVF s p a = .ok true := by
 have la := zE6 16 s hs (Nat.le_refl _) a oa va
 obtain ⟨vp, _⟩ := part_right hs oa va hp
 have hl := zU3 16 s hs a la
 have hj : jn s p a = a := by
  have := fold_abs (sem 16 s hs) (partsD 16 s a) p (fun q hq => (hl.1 q hq).1) hp
  rw [hl.2] at this
  exact this
 have hok := both_is hs op oa vp va (by rw [hj]; exact va)
 rw [hj] at hok
 rw [leq_ok hok, decide_eq_true rfl]
end
theorem parts_both {s : Sch} (hs : isF 16 s = true) {a b j : Val} (oa : okV a) (ob : okV b) (va : isVF s a = true) (vb : isVF s b = true) (hj : joinVF s a b = .ok j) :
  okV j ∧ isVF s j = true ∧ (∀ q ∈ partsD 16 s j, q ∈ partsD 16 s a ∨ q ∈ partsD 16 s b) ∧ (partsD 16 s j).length ≤ (partsD 16 s a).length + (partsD 16 s b).length := by
 have la := zE6 16 s hs (Nat.le_refl _) a oa va
 have lb := zE6 16 s hs (Nat.le_refl _) b ob vb
 rcases join_right hs oa ob va vb with ⟨v, hv, ov, iv, ev⟩ | hv
 ·rw [hj] at hv
  injection hv with hv
  subst hv
  have hm : ∀ q ∈ partsD 16 s j, q ∈ partsD 16 s a ∨ q ∈ partsD 16 s b := by
   rw [ev]
   exact parts_join 16 s hs a b la lb
  refine ⟨ov, iv, hm, ?_⟩
  have hn := parts_nodup 16 s hs j (zE6 16 s hs (Nat.le_refl _) j ov iv)
  have := hn.length_le_of_subset (l₂ := partsD 16 s a ++ partsD 16 s b) fun q hq => zJ1.2 (hm q hq)
  rwa [zM] at this
 ·rw [hj] at hv; cases hv
end
theorem rClocks_spec (c : List Tk) (S : MS) : MCalls Tryz.prog 55 [.lst none 2 (c.map encT)] S fun v σ' => v = encV (clkV c) ∧ σ' = S := by
 refine zU Tryz.func55 V Tryz.ntmps55 (zA V) ?_
 refine zB <| qR V <| qO V <| zL0 V zm30 V V <| qN <| zB <| zB <| qR V <| qM V V V <| qE V V zP V <| qC V V V V V <| qN ?_
 refine zK V (fun h5 => ?_) (fun h5 => ?_)
 ·
  have hl : c.length = 0 := by simpa using h5
  refine zB <| qR V <| qO V <| zZ1 V zQ0 zm30 .nil (by kernel_rfl) ?_
  refine qO V <| zG0 V V V V sz30 V V (zA V) V <| qN <| zL ?_
  exact zO2 (y := encV noV) (.inr V) Tryz.results55 V V ta30 V (.agg (.cons (.refl _) (.cons (.refl _) (.cons (.nil 1) (.cons (.nil 1) (.cons (.nil 5) .nil)))))) (zT1 _ _) ⟨by rw [clkV, if_pos hl], rfl⟩
 ·
  have hl : ¬ c.length = 0 := by simpa using h5
  refine zY <| zB <| qR V <| qM V V V <| qO V <| zA1 V zN el55 V V (by decide) (by decide) V V ?_
  refine qO V <| zZ1 V zQ0 zm30 (.cons zM1 sz27 V V (zA V) .nil) (by kernel_rfl) ?_
  refine qO V <| zG0 V V V V sz30 V V (zA V) V <| qN <| zL ?_
  exact zO2 (y := encV (.mk 0 0 [] [c] [])) (.inr V) Tryz.results55 V V ta30 V (.agg (.cons (.refl _) (.cons (.refl _) (.cons (.nil 1) (.cons (.refl _) (.cons (.nil 5) .nil)))))) (zT1 _ _) ⟨by rw [clkV, if_neg hl], rfl⟩
theorem okV_set (A : List Bs) : okV (setV A) := by simp [setV, okV, okVs]
def one3 (t : Bs) : Val := setV [t]
theorem parts_set (d : Nat) (A : List Bs) : partsD (d + 1) (.mk 3 []) (setV A) = A.map one3 := by
 unfold setV
 by_cases h : A = []
 ·subst h
  rw [parts_none (by rw [zX4, if_neg (by decide)]; rfl)]
  rfl
 ·rw [parts_leaf (by rw [zX4, if_neg (by decide)]; unfold noV; intro e; injection e with _ _ e; exact h e.symm)]
  rfl
theorem up_one (t : Bs) : Up [t] := by simp [Up]
theorem row_one {t : Bs} (h : t.length ≤ 16) : isRowF [t] = true := zP3.2 ⟨by simp, up_one t, fun x hx => by simp at hx; subst hx; exact h⟩
theorem leqB_set {A : List Bs} {t : Bs} (ha : isRowF A = true) (ht : t.length ≤ 16) (hl : A.length ≤ 30) : leqB (.mk 3 []) (setV A) (one3 t) = decide (t ∈ A) := by
 unfold leqB one3
 rw [leq_set (row_one ht) ha (up_one t) (zP3.1 ha).2.1 (by simp; omega)]
 simp
theorem both_snoc {t : Bs} : ∀ {acc : List Bs}, (∀ x ∈ acc, Op.bytesLess x t = true) → bothX acc [t] = acc ++ [t]
 | [], _ => by rw [bothX, bothX]; rfl
 | x :: acc, h => by
  rw [bothX, if_pos (h x (zM0 ..)), both_snoc (fun y hy => h y (zI0 _ hy))]
  rfl
theorem row_sub {A B : List Bs} (h : isRowF B = true) (hs : A.Sublist B) : isRowF A = true := by
 obtain ⟨h1, h2, h3⟩ := zP3.1 h
 exact zP3.2 ⟨Nat.le_trans hs.length_le h1, h2.sublist hs, fun x hx => h3 x (hs.mem hx)⟩
theorem allGo_set : ∀ (l acc : List Bs), isRowF (acc ++ l) = true → allGo (.mk 3 []) (setV acc) (l.map one3) = .ok (setV (acc ++ l))
 | [], acc, _ => by rw [List.append_nil]; rfl
 | t :: l, acc, h => by
  have e : acc ++ t :: l = (acc ++ [t]) ++ l := by simp
  rw [e] at h
  obtain ⟨h1, h2, h3⟩ := zP3.1 h
  have hb : bothX acc [t] = acc ++ [t] := by
   refine both_snoc fun x hx => ?_
   have h4 := (List.pairwise_append.1 h2).1
   exact (List.pairwise_append.1 h4).2.2 x hx t (by simp)
  have hr : isRowF (acc ++ [t]) = true := row_sub h (List.sublist_append_left _ _)
  have hj : joinVF (.mk 3 []) (setV acc) (one3 t) = .ok (setV (acc ++ [t])) := by
   have := join_set (row_sub hr (List.sublist_append_left _ _)) (row_one (h3 t (by simp)))
   rw [hb, if_neg (by have := (zP3.1 hr).1; omega)] at this
   exact this
  rw [List.map_cons, allGo, hj, e]
  exact allGo_set l _ h
theorem diff_set {A B : List Bs} (ha : isRowF A = true) (hb : isRowF B = true) (hl : A.length + B.length ≤ 40) (hal : A.length ≤ 30) : diffVF (.mk 3 []) (setV A) (setV B) = .ok (setV (B.filter fun t => !decide (t ∈ A))) := by
 unfold diffVF
 rw [leq_set ha hb (zP3.1 ha).2.1 (zP3.1 hb).2.1 hl, parts_set]
 have e : ((B.map one3).filter fun p => !leqB (.mk 3 []) (setV A) p) = (B.filter fun t => !decide (t ∈ A)).map one3 := by
  rw [List.filter_map]
  congr 1
  refine List.filter_congr fun t ht => ?_
  simp only [Function.comp]
  rw [leqB_set ha ((zP3.1 hb).2.2 t ht) hal]
 show AllF _ _ = _
 rw [e]
 unfold AllF
 rw [if_pos (by decide)]
 have hB : BottomF (.mk 3 []) = setV [] := by unfold BottomF; rw [if_pos (by decide), zX4, if_neg (by decide)]; rfl
 rw [hB]
 exact allGo_set _ [] (row_sub hb List.filter_sublist)
theorem Parts_at {s : Sch} {v : Val} {ps : List Val} (h : partsD 16 s v = ps) (ov : okV v) (hs : isF 16 s = true) (h7 : noK7 16 s = true) (hv : isVF s v = true) (hl : ps.length ≤ 2000000) (S : MS) : MCalls Tryz.prog 10 [encS s, encV v] S fun r σ' => r = .tup [.lst none 5 (encVs ps), .iface0] ∧ σ' = S := by
 subst h
 exact Parts_ok s v ov hs h7 hv hl S
theorem isV_setV {A : List Bs} (h : isRowF A = true) : isVF (.mk 3 []) (setV A) = true := by
 unfold setV
 rw [zW0 3]
 simp [bareF, h, numsK, textsK, clocksK, valuesK, Val.nv, Val.mv, Val.sv, Val.cv, Val.vv]
theorem parts_set_at {A : List Bs} (h : isRowF A = true) (hl : A.length ≤ 2000000) (S : MS) : MCalls Tryz.prog 10 [encS (.mk 3 []), encV (setV A)] S fun r σ' => r = .tup [.lst none 5 (encVs (A.map one3)), .iface0] ∧ σ' = S :=
 Parts_at (parts_set 15 A) (okV_set A) (by decide) (by decide) (isV_setV h) (by simpa using hl) S
theorem rSame_true (a : Val) (S : MS) : MCalls Tryz.prog 12 [encV a, encV a] S fun v σ' => v = .bool true ∧ σ' = S := by
 refine (rSame_spec a a S).mono ?_
 rintro v σ' ⟨rfl, rfl⟩
 exact ⟨congrArg MV.bool (decide_eq_true rfl), rfl⟩
theorem kl_ab : isRowF [[97], [98]] = true ∧ isRowF [[97]] = true := by decide +kernel
theorem kl_d : diffVF (.mk 3 []) (setV [[97]]) (setV [[97], [98]]) = .ok (setV [[98]]) := by
 rw [diff_set kl_ab.2 kl_ab.1 (by decide) (by decide)]
 rfl
def IsK3 (s : Sch) : Prop := ∃ ins, s = .mk 3 ins
theorem both3_spec (s : Sch) (h3 : IsK3 s) (a b : Val) (ha : isVF s a = true) (hb : isVF s b = true) (S : MS) : MCalls Tryz.prog 83 [encS s, encV a, encV b] S fun v σ' => v = encO (bothF s a b) ∧ σ' = S := by
 obtain ⟨ins, rfl⟩ := h3
 obtain ⟨n1, m1, s1, c1, w1⟩ := a
 obtain ⟨n2, m2, s2, c2, w2⟩ := b
 have b1 := isV3 ha
 have b2 := isV3 hb
 have hB : bothB 3 (bothL ins) (.mk n1 m1 s1 c1 w1) (.mk n2 m2 s2 c2 w2) = some (.mk 0 0 (bothX s1 s2) [] []) := rfl
 refine zU Tryz.func83 V Tryz.ntmps83 (zA V) ?_
 refine zB <| qR V <| qB V V V V V <| qB V V V V V <| qB V V V V V <| qO V <| zL0 V zm30 V V <| qA V V V <| qN <| zB <| zB <| qR V <| qF V V V zC2 <| qL V V V V ta3 V <| qN <| zB0 <| zB <| zB <| qR V <| qC V V V V V <| qA V V V <| qN ?_
 refine zQ V (V) <| qR V <| qC V V V V V <| qA V V V <| qN <| zQ V (V) <| zB <| qR V <| qC V V V V V <| qA V V V <| qN <| zA0 V (V) <| qR V <| qF V V V zU1 <| qL V V V V ta26 V <| qF V V V zU1 <| qL V V V V ta26 V ?_
 refine qX V V V V co101 (rowsBoth_spec s1 s2 (by omega) _) ?_
 refine qF V V V zU1 <| qO V <| zG0 V V V V sz26 V V (zA V) V <| qN <| zB <| zB <| qR V <| qM V V V <| qO V <| zF6 V zG1 V V (.inl Vv) <| qM V V V <| qO V <| zS1 (y := encV (.mk 0 0 (bothX s1 s2) [] [])) (zE0 V V V ta30 V Vv) (.agg (.cons (.refl _) (.cons (.refl _) (.cons (.refl _) (.cons (.nil 1) (.cons (.nil 5) .nil)))))) ?_
 refine qX V V V V co107 (isLarge_spec 0 0 (bothX s1 s2) [] [] _) ?_
 refine qP V V V V <| qN ?_
 refine zK V (fun h69 => ?_) (fun h69 => ?_)
 ·
  refine qR V <| qO V <| zV2 V V zH2 (by simp) ?_
  refine qA V V V <| qN <| zB <| zB <| qR V <| qM V V V <| qO V <| op_ifnil V zG1 V V (.inr Vv) <| qN <| zA0 V (V) <| zB <| qR V <| qO V <| zZ1 V zQ0 zm30 .nil (by kernel_rfl) ?_
  refine qM V V V <| qO V <| zG0 V V V V sz30 V V (zA V) V <| qA V V V <| qN <| zL ?_
  exact zR1 (.inr V) Tryz.results83 V V ta30 V (.agg (.cons (.refl _) (.cons (.refl _) (.cons (.nil 1) (.cons (.nil 1) (.cons (.nil 5) .nil)))))) (zT1 _ (noV)) V (.refl _) (.iface _ _ (.int _ _)) ⟨by rw [zH3, hB, cap_t h69]; rfl, rfl⟩
 ·
  refine zY <| zB <| zB <| qR V <| qM V V V <| qO V <| zF6 V zG1 V V (.inr Vv) <| qN <| zQ V (V) <| zY <| zB <| qR V <| qO V <| zS1 (y := encV (.mk 0 0 (bothX s1 s2) [] [])) (zE0 V V V ta30 V Vv) (.agg (.cons (.refl _) (.cons (.refl _) (.cons (.refl _) (.cons (.nil 1) (.cons (.nil 5) .nil)))))) <| qO V <| zG0 V V V V sz30 V V (zA V) V <| qA V V V <| qN <| zL ?_
  exact zR1 (.inr V) Tryz.results83 V V ta30 V (.refl _) (zT1 _ (.mk 0 0 (bothX s1 s2) [] [])) V (.refl _) (.iface0) ⟨by rw [zH3, hB, cap_f h69]; rfl, rfl⟩
theorem join3_spec (s : Sch) (h3 : IsK3 s) (a b : Val) (ha : okV a) (hb : okV b) (S : MS) : MCalls Tryz.prog 58 [encS s, encV a, encV b] S fun v σ' => v = encJ (joinVF s a b) ∧ σ' = S := by
 obtain ⟨k, ins⟩ := s
 obtain ⟨n1, m1, s1, c1, w1⟩ := a
 obtain ⟨n2, m2, s2, c2, w2⟩ := b
 refine zU Tryz.func58 V Tryz.ntmps58 (zA V) ?_
 refine zB <| qR V <| qB V V V V V <| qB V V V V V <| qB V V V V V <| qO V <| zL0 V zm30 V V <| qA V V V <| qN <| zB <| zB <| qR V <| qL V V V V ta24 V <| qL V V V V ta30 V ?_
 refine qX V V V V co23 (valIs_spec (.mk k ins) (.mk n1 m1 s1 c1 w1) ha _) ?_
 refine qO V <| zY0 V V <| qM V V V ?_
 refine zD0 (fun h12 => ?_) (fun h12 => ?_)
 ·
  refine qT V V V V <| qP V V V V <| qN <| zA0 V (V) <| zB <| qR V <| qO V <| zZ1 V zQ0 zm30 .nil (by kernel_rfl) ?_
  refine qO V <| zV2 V V zH2 (by simp) ?_
  refine qO V <| zG0 V V V V sz30 V V (zA V) V <| qA V V V <| qN <| zL ?_
  exact zR1 (.inr V) Tryz.results58 V V ta30 V (.agg (.cons (.refl _) (.cons (.refl _) (.cons (.nil 1) (.cons (.nil 1) (.cons (.nil 5) .nil)))))) (zT1 _ (noV)) V (.refl _) (.iface _ _ (.int _ _)) ⟨by rw [join_err (fun hq => by first | (rw [hq.1] at h12; exact absurd h12 (by decide)) | (rw [hq.2] at h17; exact absurd h17 (by decide)))]; rfl, rfl⟩
 ·
  refine qL V V V V ta24 V <| qL V V V V ta30 V ?_
  refine qX V V V V co23 (valIs_spec (.mk k ins) (.mk n2 m2 s2 c2 w2) hb _) ?_
  refine qO V <| zY0 V V <| qP V V V V <| qN ?_
  refine zK V (fun h17 => ?_) (fun h17 => ?_)
  ·
   refine zB <| qR V <| qO V <| zZ1 V zQ0 zm30 .nil (by kernel_rfl) ?_
   refine qO V <| zV2 V V zH2 (by simp) ?_
   refine qO V <| zG0 V V V V sz30 V V (zA V) V <| qA V V V <| qN <| zL ?_
   exact zR1 (.inr V) Tryz.results58 V V ta30 V (.agg (.cons (.refl _) (.cons (.refl _) (.cons (.nil 1) (.cons (.nil 1) (.cons (.nil 5) .nil)))))) (zT1 _ (noV)) V (.refl _) (.iface _ _ (.int _ _)) ⟨by rw [join_err (fun hq => by first | (rw [hq.1] at h12; exact absurd h12 (by decide)) | (rw [hq.2] at h17; exact absurd h17 (by decide)))]; rfl, rfl⟩
  ·
   refine zY <| zB ?_
   have ha2 : (isF 16 (.mk k ins) && isVF (.mk k ins) (.mk n1 m1 s1 c1 w1)) = true := by simpa using h12
   have hb2 : (isF 16 (.mk k ins) && isVF (.mk k ins) (.mk n2 m2 s2 c2 w2)) = true := by simpa using h17
   have hof := both3_spec (.mk k ins) h3 (.mk n1 m1 s1 c1 w1) (.mk n2 m2 s2 c2 w2) (by rw [Bool.and_eq_true] at ha2; exact ha2.2) (by rw [Bool.and_eq_true] at hb2; exact hb2.2)
   obtain ⟨n3, m3, s3, c3, w3, h3⟩ := encO_of (bothF (.mk k ins) (.mk n1 m1 s1 c1 w1) (.mk n2 m2 s2 c2 w2))
   have hO : encO (bothF (.mk k ins) (.mk n1 m1 s1 c1 w1) (.mk n2 m2 s2 c2 w2)) = .tup [encV (.mk n3 m3 s3 c3 w3), errO (bothF (.mk k ins) (.mk n1 m1 s1 c1 w1) (.mk n2 m2 s2 c2 w2))] := by rw [encO, h3]
   rw [hO] at hof
   refine qR V <| qL V V V V ta24 V <| qL V V V V ta30 V <| qL V V V V ta30 V ?_
   refine qX V V V V co83 (hof _) ?_
   refine qO V <| zF0 V V V <| qO V <| zF0 V V V <| qO V <| zG0 V V V V sz30 V V (zA V) V <| qA V V V <| qN <| zL ?_
   exact zR1 (.inr V) Tryz.results58 V V ta30 V (.refl _) (zT1 _ (.mk n3 m3 s3 c3 w3)) V (.refl _) ((cl_errO _ _)) ⟨by rw [join_both ha2 hb2, hO]; rfl, rfl⟩
theorem joinAll3_spec (s : Sch) (h3 : IsK3 s) (l : List Val) (hl : ∀ x ∈ l, okV x) (S : MS) : MCalls Tryz.prog 32 [encS s, .lst none 5 (encVs l)] S fun v σ' => v = encJ (AllF s l) ∧ σ' = S := by
 obtain ⟨k, ins⟩ := s
 obtain ⟨⟨bn, bm, bs, bc, bw⟩, hbe⟩ : ∃ v, BottomF (.mk k ins) = v := ⟨_, rfl⟩
 have hbo := okV_bottom (.mk k ins)
 rw [hbe] at hbo
 have hbs := Bottom_spec (.mk k ins)
 rw [hbe] at hbs
 refine zU Tryz.func32 V Tryz.ntmps32 (zA V) ?_
 refine zB <| qR V <| qB V V V V V <| qO V <| zL0 V zm30 V V <| qO V <| zL0 V zm34 V V <| qN <| zB <| zB <| qR V <| qL V V V V ta24 V ?_
 refine qX V V V V co43 (Is_spec (.mk k ins) _) ?_
 refine qO V <| zY0 V V <| qN ?_
 refine zK V (fun h12 => ?_) (fun h12 => ?_)
 ·
  have hk : isF 16 (.mk k ins) = false := by simpa using h12
  refine zB <| qR V <| qO V <| zZ1 V zQ0 zm30 .nil (by kernel_rfl) ?_
  refine qO V <| zV2 V V zH2 (by simp) ?_
  refine qO V <| zG0 V V V V sz30 V V (zA V) V <| qO V <| zG0 V V V V sz34 V V (zA V) V <| qN <| zL ?_
  exact ret_cell_cell (.inr V) Tryz.results32 V V ta30 V (.agg (.cons (.refl _) (.cons (.refl _) (.cons (.nil 1) (.cons (.nil 1) (.cons (.nil 5) .nil)))))) (zT1 _ (noV)) V V ta34 V (.refl _) (.iface _ _ (.int _ _)) ⟨by rw [show AllF (.mk k ins) l = .error 14 from by unfold AllF; rw [if_neg (by rw [hk]; decide)]]; rfl, rfl⟩
 ·
  have hk : isF 16 (.mk k ins) = true := by simpa using h12
  have hAF : AllF (.mk k ins) l = allGo (.mk k ins) (.mk bn bm bs bc bw) l := by unfold AllF; rw [if_pos hk, hbe]
  refine zY <| zB <| qR V <| qL V V V V ta24 V ?_
  refine qX V V V V co60 (hbs _) ?_
  refine qO V <| zL0 V zm30 V V <| qO V <| zG0 V V V V sz30 V V (zA V) V <| qN <| zB <| zB <| qR V <| qM V V V ?_
  refine qX V V V V co61 (values_spec l _) ?_
  rw [zZ S]
  refine qN <| zB0 ?_
  refine zI2 (t := 1) V fun hlen => ?_
  rw [zO] at hlen
  refine mwp_rangeB (ok := fun σ => σ.length = S.length + 6 ∧ σ[(S ++ [MObj.cells (encS (.mk k ins)).cells, MObj.cells [.int .u64 0, .int .u64 0, .lst0, .lst0, .lst0], MObj.cells [.iface0], .cells (encV (.mk bn bm bs bc bw)).cells]).length]? = some (.cells [.lst none 5 (encVs l)])) (ys := l.map fun x => [encV x]) .ret (.inl V) (fun j => okA (.mk k ins) (.mk bn bm bs bc bw) l j) (fun j => ([.cells (encS (.mk k ins)).cells, .cells [.int .u64 0, .int .u64 0, .lst0, .lst0, .lst0], .cells [.iface0], .cells (encV (accA (.mk k ins) (.mk bn bm bs bc bw) l j)).cells, .cells [.lst none 5 (encVs l)]] : MS)) (fun j => ([.cells (encS (.mk k ins)).cells, .cells [.int .u64 0, .int .u64 0, .lst0, .lst0, .lst0], .cells [encErr (errF (.mk k ins) (.mk bn bm bs bc bw) l)], .cells (encV (accA (.mk k ins) (.mk bn bm bs bc bw) l j)).cells, .cells [.lst none 5 (encVs l)]] : MS)) (fun j => V) (fun j => V) V (fun j o ho n hn => all_cl .iface0 ho) (fun j o ho n hn => all_cl (.iface _ _ (.int _ _)) ho) V co89 V (by simp) (values_iter l hlen _ _) (fun j => ⟨by simp only [zM, zW, List.length_nil], get_box4⟩) (fun j s q => ⟨by simp only [zM, zW, List.length_nil], get_box4⟩) V (fun y hy => by obtain ⟨i, _, rfl⟩ := List.mem_map.1 hy; rfl) ?_ ?_ ?_
  ·
   intro j y hy hbef L'
   rw [zN0] at hy
   obtain ⟨⟨n1, m1, s1, c1, w1⟩, hs, rfl⟩ := Option.map_eq_some_iff.1 hy
   have hjl := (zH.1 hs).1
   have hov := accA_ok (s := .mk k ins) hbo hl j (by omega) hbef
   obtain ⟨⟨n2, m2, s2, c2, w2⟩, hacc⟩ : ∃ v, accA (.mk k ins) (.mk bn bm bs bc bw) l j = v := ⟨_, rfl⟩
   rw [hacc] at hov
   have hof := join3_spec (.mk k ins) h3 _ _ hov (hl _ (zC0 hs))
   have hD := getD_at hs
   simp only [hacc]
   refine qR V <| qO V <| zJ5 V zm30 <| qO V <| zM4 V V V sz30 V V (zA V) <| qN ?_
   refine ⟨rfl, [_], rfl, ?_⟩
   rw [zZ (S ++ _)]
   refine mwp_abs fun R hR => ?_
   refine zB0 <| zB ?_
   rcases hj : joinVF (.mk k ins) (.mk n2 m2 s2 c2 w2) (.mk n1 m1 s1 c1 w1) with e | ⟨n3, m3, s3, c3, w3⟩ <;> rw [hj] at hof
   ·
    refine qR V <| qO V <| op_load_mid V V V ta24 V <| qO V <| op_load_mid V V V ta30 V <| qO V <| zR V V (by rw [hR]; exact get_rt) ta30 V ?_
    refine qX V V V V co58 (hof _) ?_
    refine qM V V V <| qO V <| zF0 V V V <| qO V <| zF0 V V V <| qO V <| zJ5 V zm30 <| qO V <| zM4 V V V sz30 V V (zA V) <| qA V V V <| qN <| zB <| zB <| qR V <| qM V V V <| qO V <| op_ifnil V zG1 V V (.inr Vv) <| qN <| zA0 V (V) <| zB ?_
    rw [zZ (S ++ _)]
    refine qR V <| qO V <| zZ1 V zQ0 zm30 .nil (by kernel_rfl) ?_
    refine qM V V V <| qO V <| zP5 V V V V sz30 V V (zA V) V <| qO V <| zP5 V V V V sz34 V V (zA V) V <| qN <| zL ?_
    exact .inr ⟨by rw [okA, hacc, hD, hj], rfl, [_, _], by rw [hR, show errF (.mk k ins) (.mk bn bm bs bc bw) l = e from by rw [errF_eq hs hbef (by rw [okA, hacc, hD, hj]), errA, hacc, hD, hj]]; simp only [zZ, List.cons_append, List.nil_append]; rfl⟩
   ·
    refine qR V <| qO V <| op_load_mid V V V ta24 V <| qO V <| op_load_mid V V V ta30 V <| qO V <| zR V V (by rw [hR]; exact get_rt) ta30 V ?_
    refine qX V V V V co58 (hof _) ?_
    refine qM V V V <| qO V <| zF0 V V V <| qO V <| zF0 V V V <| qO V <| zJ5 V zm30 <| qO V <| zM4 V V V sz30 V V (zA V) <| qA V V V <| qN <| zB <| zB <| qR V <| qM V V V <| qO V <| zF6 V zG1 V V (.inr Vv) <| qN <| zQ V (V) <| zY ?_
    rw [zZ (S ++ _)]
    refine qR V <| qO V <| zR V V (get_end (by simp)) ta30 V ?_
    refine qO V <| zP5 V V V V sz30 V V (zA V) V <| qN ?_
    exact .inl ⟨by rw [okA, hacc, hD, hj], rfl, [_, _], by rw [hR, show accA (.mk k ins) (.mk bn bm bs bc bw) l (j + 1) = .mk n3 m3 s3 c3 w3 from by rw [accA, hacc, hD, hj]]; simp only [zZ, List.cons_append, List.nil_append]; rfl⟩
  ·
   intro hall
   rw [zZ S, zC]
   have hok := all_ok (s := .mk k ins) (b := (.mk bn bm bs bc bw)) (l := l) (fun i hi => hall i (by rw [zC]; exact hi))
   obtain ⟨⟨n2, m2, s2, c2, w2⟩, hacc⟩ : ∃ v, accA (.mk k ins) (.mk bn bm bs bc bw) l l.length = v := ⟨_, rfl⟩
   rw [hacc] at hok
   simp only [hacc]
   refine zB <| qR V <| qL V V V V ta30 V <| qO V <| zG0 V V V V sz30 V V (zA V) V <| qO V <| zG0 V V V V sz34 V V (zA V) V <| qN <| zL ?_
   exact ret_cell_cell (.inr V) Tryz.results32 V V ta30 V (.refl _) (zT1 _ (.mk n2 m2 s2 c2 w2)) V V ta34 V (.refl _) (.iface0) ⟨by rw [hAF, hok]; rfl, rfl⟩
  ·
   intro j y hy hp
   rw [zZ S]
   rw [zN0] at hy
   obtain ⟨x, hs, rfl⟩ := Option.map_eq_some_iff.1 hy
   exact ret_cell_cell (.inr V) Tryz.results32 V V ta30 V (.agg (.cons (.refl _) (.cons (.refl _) (.cons (.nil 1) (.cons (.nil 1) (.cons (.nil 5) .nil)))))) (zT1 _ (noV)) V V ta34 V (.refl _) (.iface _ _ (.int _ _)) ⟨by rw [hAF, all_badF hs hp]; rfl, rfl⟩
theorem leq3_spec (s : Sch) (h3 : IsK3 s) (a b : Val) (ha : okV a) (hb : okV b) (S : MS) : MCalls Tryz.prog 31 [encS s, encV a, encV b] S fun v σ' => v = encL (leqVF s a b) ∧ σ' = S := by
 obtain ⟨k, ins⟩ := s
 obtain ⟨n1, m1, s1, c1, w1⟩ := a
 obtain ⟨n2, m2, s2, c2, w2⟩ := b
 refine zU Tryz.func31 V Tryz.ntmps31 (zA V) ?_
 refine zB <| qR V <| qB V V V V V <| qB V V V V V <| qB V V V V V <| qA V V V <| qA V V V <| qN <| zB ?_
 have hof := join3_spec (.mk k ins) h3 (.mk n1 m1 s1 c1 w1) (.mk n2 m2 s2 c2 w2) ha hb
 rcases joinR (.mk k ins) (.mk n1 m1 s1 c1 w1) (.mk n2 m2 s2 c2 w2) with ⟨n3, m3, s3, c3, w3, hj⟩ | hj | hj <;> rw [hj] at hof
 ·
  refine qR V <| qL V V V V ta24 V <| qL V V V V ta30 V <| qL V V V V ta30 V ?_
  refine qX V V V V co58 (hof _) ?_
  refine qM V V V <| qO V <| zF0 V V V <| qO V <| zF0 V V V <| qO V <| zL0 V zm30 V V <| qO V <| zG0 V V V V sz30 V V (zA V) V <| qA V V V <| qN <| zB <| zB <| qR V <| qM V V V <| qN <| zB0 <| zB <| qR V <| qO V <| zV2 V V zH2 (by simp) ?_
  refine qO V <| op_nilif V zG1 V V (.inl Vv) <| qA V V V <| qN <| zQ V (V) <| zB <| qR V <| qO V <| zF6 V zG1 V V (.inl Vv) <| qA V V V <| qN <| zA0 V (V) <| zB <| qR V <| qL V V V V ta30 V <| qL V V V V ta30 V ?_
  refine qX V V V V co59 (valSame_spec (.mk n3 m3 s3 c3 w3) (.mk n2 m2 s2 c2 w2) _) ?_
  refine qA V V V <| qA V V V <| qN <| zL ?_
  exact ret_tmp2 (.inr V) Tryz.results31 V V (.refl _) (.refl _) (.bool _) (.iface0) ⟨by rw [leq_ok hj]; rfl, rfl⟩
 ·
  refine qR V <| qL V V V V ta24 V <| qL V V V V ta30 V <| qL V V V V ta30 V ?_
  refine qX V V V V co58 (hof _) ?_
  refine qM V V V <| qO V <| zF0 V V V <| qO V <| zF0 V V V <| qO V <| zL0 V zm30 V V <| qO V <| zG0 V V V V sz30 V V (zA V) V <| qA V V V <| qN <| zB <| zB <| qR V <| qM V V V <| qN <| zB0 <| zB <| qR V <| qO V <| zV2 V V zH2 (by simp) ?_
  refine qO V <| op_ifint V zG1 okCmp zH2 V V (.inl Vv) <| qA V V V <| qN <| zQ V (V) <| zB <| qR V <| qO V <| op_ifnil V zG1 V V (.inl Vv) <| qA V V V <| qN <| zQ V (V) <| zY <| zB <| qR V <| qA V V V <| qA V V V <| qN <| zL ?_
  exact ret_tmp2 (.inr V) Tryz.results31 V V (.refl _) (.refl _) (.bool _) (.iface0) ⟨by rw [leq_13 hj]; rfl, rfl⟩
 ·
  refine qR V <| qL V V V V ta24 V <| qL V V V V ta30 V <| qL V V V V ta30 V ?_
  refine qX V V V V co58 (hof _) ?_
  refine qM V V V <| qO V <| zF0 V V V <| qO V <| zF0 V V V <| qO V <| zL0 V zm30 V V <| qO V <| zG0 V V V V sz30 V V (zA V) V <| qA V V V <| qN <| zB <| zB <| qR V <| qM V V V <| qN <| zB0 <| zB <| qR V <| qO V <| zV2 V V zH2 (by simp) ?_
  refine qO V <| op_ifint V zG1 okCmp zH2 V V (.inl Vv) <| qA V V V <| qN <| zA0 V (V) <| zB <| qR V <| qO V <| zV2 V V zH2 (by simp) ?_
  refine qA V V V <| qA V V V <| qN <| zL ?_
  exact ret_tmp2 (.inr V) Tryz.results31 V V (.refl _) (.refl _) (.bool _) (.iface _ _ (.int _ _)) ⟨by rw [leq_14 hj]; rfl, rfl⟩
theorem leq3_at {s : Sch} (h3 : IsK3 s) {a b : Val} {r : Except Int Bool} (ha : okV a) (hb : okV b) (h : leqVF s a b = r) (S : MS) : MCalls Tryz.prog 31 [encS s, encV a, encV b] S fun v σ' => v = encL r ∧ σ' = S := h ▸ leq3_spec s h3 a b ha hb S
theorem all3_at_ {s : Sch} (h3 : IsK3 s) {l : List Val} {r : Except Int Val} (hl : ∀ x ∈ l, okV x) (h : AllF s l = r) (S : MS) : MCalls Tryz.prog 32 [encS s, .lst none 5 (encVs l)] S fun v σ' => v = encJ r ∧ σ' = S := h ▸ joinAll3_spec s h3 l hl S
theorem diffAlone3_spec (s : Sch) (h3 : IsK3 s) (a p : Val) (oa : okV a) (op : okV p) (ids ida : Nat) (S : MS) (hs : S[ids]? = some (.cells (encS s).cells)) (ha : S[ida]? = some (.cells (encV a).cells)) : MCalls Tryz.prog 34 [encV p, .ref ids 0, .ref ida 0] S fun v σ' => v = .bool (!leqB s a p) ∧ σ' = S := by
 obtain ⟨k, ins⟩ := s
 obtain ⟨n1, m1, s1, c1, w1⟩ := p
 obtain ⟨n2, m2, s2, c2, w2⟩ := a
 refine zU Tryz.func34 V Tryz.ntmps34 (zA V) ?_
 refine zB <| qR V <| qB V V V V V <| qA V V V <| qN <| zB ?_
 have hof := leq3_spec (.mk k ins) h3 (.mk n1 m1 s1 c1 w1) (.mk n2 m2 s2 c2 w2) op oa
 rcases exE (leqVF (.mk k ins) (.mk n1 m1 s1 c1 w1) (.mk n2 m2 s2 c2 w2)) with ⟨e, hl⟩ | ⟨l, hl⟩ <;> rw [hl] at hof
 ·
  refine qR V <| qO V <| zD2 V V hs ta24 V <| qL V V V V ta30 V <| qO V <| zD2 V V ha ta30 V ?_
  refine qX V V V V co31 (hof _) ?_
  refine qM V V V <| qO V <| zF0 V V V <| qO V <| zF0 V V V <| qA V V V <| qA V V V <| qN <| zB <| qR V <| qM V V V <| qO V <| op_ifnil V zG1 V V (.inl Vv) <| qM V V V <| qS V <| qS V <| qP V V V V <| qA V V V <| qN <| zL ?_
  exact zT (.inr V) Tryz.results34 V (.of_eq (congrArg MV.bool (by unfold leqB; rw [hl]; rfl))) (.bool _) Vv
 ·
  refine qR V <| qO V <| zD2 V V hs ta24 V <| qL V V V V ta30 V <| qO V <| zD2 V V ha ta30 V ?_
  refine qX V V V V co31 (hof _) ?_
  refine qM V V V <| qO V <| zF0 V V V <| qO V <| zF0 V V V <| qA V V V <| qA V V V <| qN <| zB <| qR V <| qM V V V <| qO V <| zF6 V zG1 V V (.inl Vv) <| qM V V V <| qM V V V <| qO V <| zY0 V V <| qP V V V V <| qA V V V <| qN <| zL ?_
  exact zT (.inr V) Tryz.results34 V (.of_eq (congrArg MV.bool (by unfold leqB; rw [hl]))) (.bool _) Vv
theorem Diff3_ok (s : Sch) (h3 : IsK3 s) (a b : Val) (oa : okV a) (ob : okV b) (hs : isF 16 s = true) (h7 : noK7 16 s = true) (hv : isVF s b = true) (l : Bool) (hle : leqVF s a b = .ok l) (hl : (partsD 16 s b).length ≤ 2000000) (r : Val) (hr : diffVF s a b = .ok r) (S : MS) : MCalls Tryz.prog 17 [encS s, encV a, encV b] S fun v σ' => v = .tup [encV r, .iface0] ∧ σ' = S := by
 obtain ⟨k, ins⟩ := s
 obtain ⟨n1, m1, s1, c1, w1⟩ := a
 obtain ⟨n2, m2, s2, c2, w2⟩ := b
 obtain ⟨n3, m3, s3, c3, w3⟩ := r
 refine zU Tryz.func17 V Tryz.ntmps17 (zA V) ?_
 have hki := fun il is => kept_iter 45 34 co45 co34 [.ref (S.length + 4) 0, .ref (S.length + 5) 0] [.ref (S.length + 0) 0, .ref (S.length + 1) 0] (partsD 16 (.mk k ins) (.mk n2 m2 s2 c2 w2)) (fun p => !leqB (.mk k ins) (.mk n1 m1 s1 c1 w1) p) [(S.length + 4, .cells (encS (.mk k ins)).cells), (S.length + 5, .cells (encV (.mk n2 m2 s2 c2 w2)).cells), (S.length + 0, .cells (encS (.mk k ins)).cells), (S.length + 1, .cells (encV (.mk n1 m1 s1 c1 w1)).cells)]
  (fun l0 => ((each_ok 16 _ hs (Nat.le_refl _) h7 _ hv (S.length + 4) (S.length + 5)) l0).weak fun σ h => ⟨⟨h.1.1, .cons h.1.2.hd (.cons h.1.2.tl.hd .nil)⟩, h.2⟩) (fun p hp S' hS => diffAlone3_spec (.mk k ins) h3 (.mk n1 m1 s1 c1 w1) p oa (parts_okV 16 _ _ ob p hp) _ _ S' hS.tl.tl.hd hS.tl.tl.tl.hd) il is
 have hfl : ((partsD 16 (.mk k ins) (.mk n2 m2 s2 c2 w2)).filter fun p => !leqB (.mk k ins) (.mk n1 m1 s1 c1 w1) p).length ≤ 2000000 := Nat.le_trans (List.length_filter_le _ _) hl
 have hfo : ∀ x ∈ ((partsD 16 (.mk k ins) (.mk n2 m2 s2 c2 w2)).filter fun p => !leqB (.mk k ins) (.mk n1 m1 s1 c1 w1) p), okV x := fun x hx => parts_okV 16 _ _ ob x (List.mem_filter.1 hx).1
 have hd : diffVF (.mk k ins) (.mk n1 m1 s1 c1 w1) (.mk n2 m2 s2 c2 w2) = AllF (.mk k ins) ((partsD 16 (.mk k ins) (.mk n2 m2 s2 c2 w2)).filter fun p => !leqB (.mk k ins) (.mk n1 m1 s1 c1 w1) p) := by unfold diffVF; rw [hle]
 rw [hd] at hr
 refine zB <| qR V <| qB V V V V V <| qB V V V V V <| qB V V V V V <| qO V <| zL0 V zm30 V V <| qA V V V <| qN <| zB <| zB <| qR V <| qL V V V V ta24 V <| qL V V V V ta30 V <| qL V V V V ta30 V ?_
 refine qX V V V V co31 (leq3_at h3 (s := (.mk k ins)) (a := (.mk n1 m1 s1 c1 w1)) (b := (.mk n2 m2 s2 c2 w2)) oa ob hle _) ?_
 refine qM V V V <| qO V <| zF0 V V V <| qO V <| zF0 V V V <| qA V V V <| qA V V V <| qN <| zB <| qR V <| qM V V V <| qO V <| zF6 V zG1 V V (.inr Vv) <| qN <| zQ V (V) <| zY <| zB ?_
 refine zV0 [3, 5, 10] [_, S ++ [.cells (encS (.mk k ins)).cells, .cells (encV (.mk n1 m1 s1 c1 w1)).cells, .cells (encV (.mk n2 m2 s2 c2 w2)).cells, .cells [.int .u64 0, .int .u64 0, .lst0, .lst0, .lst0], .cells (encS (.mk k ins)).cells, .cells (encV (.mk n2 m2 s2 c2 w2)).cells], S ++ [.cells (encS (.mk k ins)).cells, .cells (encV (.mk n1 m1 s1 c1 w1)).cells, .cells (encV (.mk n2 m2 s2 c2 w2)).cells, .cells [.int .u64 0, .int .u64 0, .lst0, .lst0, .lst0], .cells (encS (.mk k ins)).cells, .cells (encV (.mk n2 m2 s2 c2 w2)).cells, .cells [.fn (.func 45) [] [.ref (S.length + 4) 0, .ref (S.length + 5) 0]], .cells [.fn (.func 34) [] [.ref (S.length + 0) 0, .ref (S.length + 1) 0]]], S ++ [.cells (encS (.mk k ins)).cells, .cells (encV (.mk n1 m1 s1 c1 w1)).cells, .cells (encV (.mk n2 m2 s2 c2 w2)).cells, .cells (encV (.mk n3 m3 s3 c3 w3)).cells, .cells (encS (.mk k ins)).cells, .cells (encV (.mk n2 m2 s2 c2 w2)).cells, .cells [.fn (.func 45) [] [.ref (S.length + 4) 0, .ref (S.length + 5) 0]], .cells [.fn (.func 34) [] [.ref (S.length + 0) 0, .ref (S.length + 1) 0]]]] mo (by decide) V V V V ?_
 refine zV V V (.cons (zE0 V V V ta24 V Vv) (.cons (zE0 V V V ta24 V Vv) (.cons (zE0 V V V ta24 V Vv) (.nil)))) <| dO V V V (zE0 V V V ta24 V Vv) <| dO V V V (zE0 V V V ta30 V Vv) <| zL1 V V V V (zC1 V V V co25 (each_at (.mk k ins) (.mk n2 m2 s2 c2 w2) V)) <| zV V V (.cons (zB2 V V V Vv) (.cons (zB2 V V V Vv) (.nil))) <| zL1 V V V V (zC1 V V V co33 (kept_at _ _ _ _ rfl)) ?_
 refine zV V V (.cons (zC1 V V V co24 (row_spec 62 co62 _ _ _ _ (.cons (by rw [getElem?_own]; rfl) (.cons (by rw [getElem?_own]; rfl) (.cons (by rw [getElem?_own]; rfl) (.cons (by rw [getElem?_own]; rfl) (.cons (by rw [getElem?_own]; rfl) (.cons (by rw [getElem?_own]; rfl) .nil)))))) (hki (S.length + 6) (S.length + 7)) hfl)) .nil) ?_
 refine zV V V (.cons (zC1 V V V co32 (all3_at_ h3 (s := (.mk k ins)) hfo hr _)) (.cons (zC1 V V V co32 (all3_at_ h3 (s := (.mk k ins)) hfo hr _)) (.cons (zC1 V V V co32 (all3_at_ h3 (s := (.mk k ins)) hfo hr _)) (.nil)))) <| zV V V (.cons (zF0 V V V Vv) (.cons (zF0 V V V Vv) (.cons (zF0 V V V Vv) (.nil)))) <| zV V V (.cons (zF0 V V V Vv) (.cons (zF0 V V V Vv) (.cons (zF0 V V V Vv) (.nil)))) <| zL1 V V V V (zG0 V V V V sz30 V V (zA V) V Vv) <| dO V V V (zB1 V V Vv) <| zK0 <| zL ?_
 exact zR1 (.inr V) Tryz.results17 V V ta30 V (.refl _) (zT1 _ ((.mk n3 m3 s3 c3 w3))) V (.refl _) (.iface0) Vv
theorem diff_set3_at {A B : List Bs} {r : Val} (ha : isRowF A = true) (hb : isRowF B = true) (hl : A.length + B.length ≤ 40) (hal : A.length ≤ 30) (hr : diffVF (.mk 3 []) (setV A) (setV B) = .ok r) (S : MS) : MCalls Tryz.prog 17 [encS (.mk 3 []), encV (setV A), encV (setV B)] S fun v σ' => v = .tup [encV r, .iface0] ∧ σ' = S :=
 Diff3_ok (.mk 3 []) ⟨[], rfl⟩ (setV A) (setV B) (okV_set A) (okV_set B) (by decide) (by decide) (isV_setV hb) _ (leq_set ha hb (zP3.1 ha).2.1 (zP3.1 hb).2.1 hl) (by rw [parts_set 15, zC]; omega) r hr S
theorem knownP3_spec (S : MS) : MCalls Tryz.prog 8 [] S fun v σ' => v = .bool true ∧ σ' = S := by
 refine zU Tryz.func8 V Tryz.ntmps8 (zA V) ?_
 refine zB <| qR V <| qA V V V <| qN <| zB <| qR V <| qO V <| zS1 (y := encS (.mk 3 [])) (zZ1 V Tryz.underlying24 zm24 (.cons zC2 sz3 V V (zA V) .nil) (by kernel_rfl) Vv) (.agg (.cons (.refl _) (.cons (.nil 2) .nil))) ?_
 refine qO V <| zL0 V zm24 V V <| qO V <| zG0 V V V V sz24 V V (zA V) V <| qN <| zB <| qR V <| qO V <| zA1 V zX el9 V V (by decide) (by decide) V V ?_
 refine qO V <| zS1 (y := encV (setV [[97], [98]])) (zZ1 V zQ0 zm30 (.cons zU1 sz26 V V (zA V) .nil) (by kernel_rfl) Vv) (.agg (.cons (.refl _) (.cons (.refl _) (.cons (.refl _) (.cons (.nil 1) (.cons (.nil 5) .nil)))))) ?_
 refine qO V <| zL0 V zm30 V V <| qO V <| zG0 V V V V sz30 V V (zA V) V <| qN <| zB <| qR V <| qL V V V V ta24 V <| qL V V V V ta30 V ?_
 refine qX V V V V co10 (parts_set_at kl_ab.1 (by decide) _) ?_
 refine qM V V V <| qO V <| zF0 V V V <| qO V <| zF0 V V V <| qA V V V <| qA V V V <| qN <| zB <| qR V <| qL V V V V ta24 V <| qO V <| zA1 V zX el9 V V (by decide) (by decide) V V ?_
 refine qO V <| zS1 (y := encV (setV [[97]])) (zZ1 V zQ0 zm30 (.cons zU1 sz26 V V (zA V) .nil) (by kernel_rfl) Vv) (.agg (.cons (.refl _) (.cons (.refl _) (.cons (.refl _) (.cons (.nil 1) (.cons (.nil 5) .nil)))))) ?_
 refine qL V V V V ta30 V ?_
 refine qX V V V V co17 (diff_set3_at kl_ab.2 kl_ab.1 (by decide) (by decide) kl_d _) ?_
 refine qM V V V <| qO V <| zF0 V V V <| qO V <| zF0 V V V <| qO V <| zL0 V zm30 V V <| qO V <| zG0 V V V V sz30 V V (zA V) V <| qA V V V <| qN <| zB <| qR V <| qL V V V V ta24 V <| qO V <| zS1 (y := encV (.mk 1 0 [] [] [])) (zZ1 V zQ0 zm30 (.cons zG4 sz25 V V (zA V) .nil) (by kernel_rfl) Vv) (.agg (.cons (.refl _) (.cons (.refl _) (.cons (.nil 1) (.cons (.nil 1) (.cons (.nil 5) .nil)))))) ?_
 refine qX V V V V co10 (Parts_bad (.mk 3 []) (.mk 1 0 [] [] []) (okV_num (by decide)) (by decide) _) ?_
 refine qM V V V <| qO V <| zF0 V V V <| qO V <| zF0 V V V <| qA V V V <| qA V V V <| qN <| zB <| qR V <| qL V V V V ta24 V <| qO V <| zS1 (y := encV (setV [])) (zZ1 V zQ0 zm30 .nil (by kernel_rfl) Vv) (.agg (.cons (.refl _) (.cons (.refl _) (.cons (.nil 1) (.cons (.nil 1) (.cons (.nil 5) .nil)))))) ?_
 refine qX V V V V co10 (parts_set_at (by decide) (by decide) _) ?_
 refine qM V V V <| qO V <| zF0 V V V <| qO V <| zF0 V V V <| qA V V V <| qA V V V <| qN <| zB ?_
 refine zV0 [] [_] mo (by decide) V V V V ?_
 refine dO V V V (zS V V Vv) <| zV V V (.cons (zF6 V zG1 V V (.inl Vv) Vv) .nil) <| dO V V V (zS V V Vv) <| dO V V V (zS V V Vv) <| dO V V V (zP2 V zE V Vv) <| dO V V V (zQ2 V V V V Vv) <| dO V V V (zD1 V V V Vv) <| dO V V V (zS V V Vv) <| dO V V V (zS V V Vv) <| dO V V V (zG V zE sz30 (by decide) V V V (show _ = some (encV (setV [[98]])) from V) Vv) ?_
 refine dO V V V (zI V V ta30 V Vv) <| dO V V V (zA1 V zX el9 V V (by decide) (by decide) V V Vv) ?_
 refine zV V V (.cons (zS1 (y := encV (setV [[98]])) (zZ1 V zQ0 zm30 (.cons zU1 sz26 V V (zA V) .nil) (by kernel_rfl) Vv) (.agg (.cons (.refl _) (.cons (.refl _) (.cons (.refl _) (.cons (.nil 1) (.cons (.nil 5) .nil)))))) Vv) .nil) ?_
 refine zV V V (.cons (zC1 V V V co12 (rSame_true (setV [[98]]) _)) .nil) <| dO V V V (zD1 V V V Vv) <| dO V V V (zS V V Vv) <| dO V V V (zS V V Vv) <| zV V V (.cons (zF6 V zG1 V V (.inl Vv) Vv) .nil) <| dO V V V (zD1 V V V Vv) <| dO V V V (zS V V Vv) <| dO V V V (zE0 V V V ta30 V Vv) <| dO V V V (zS V V Vv) <| dO V V V (zG V zE sz30 (by decide) V V V (show _ = some (encV (setV [[98]])) from V) Vv) ?_
 refine dO V V V (zI V V ta30 V Vv) <| zV V V (.cons (zC1 V V V co12 (rSame_true (setV [[98]]) _)) .nil) <| dO V V V (zD1 V V V Vv) <| dO V V V (zS V V Vv) <| dO V V V (zS V V Vv) <| dO V V V (zV2 V V zH2 (by simp) Vv) ?_
 refine zV V V (.cons (zC1 V V V co20 (errIs_spec 14 _)) .nil) <| dO V V V (zD1 V V V Vv) <| dO V V V (zS V V Vv) <| dO V V V (zS V V Vv) <| zV V V (.cons (zF6 V zG1 V V (.inl Vv) Vv) .nil) <| dO V V V (zD1 V V V Vv) <| dO V V V (zS V V Vv) <| dO V V V (zS V V Vv) <| dO V V V (zP2 V zE V Vv) <| dO V V V (zQ2 V V V V Vv) <| dO V V V (zD1 V V V Vv) <| dO V V V (zB1 V V Vv) <| zK0 <| zL ?_
 exact zT (.inr V) Tryz.results8 V (.of_eq (V)) (.bool _) Vv
end Go.Proofs.YtnfcnpdpfgcchaaGreat
namespace Go.MV
open Go Go.RowKit
section
section
variable {P : Program} {rd : Option Nat} {o : Oper} {env : Env} {σ : MS} {K : MV → MS → Prop}
theorem op_alloc_ow {t sz id : Nat} {l : List MV} (ho : o.op = .alloc t) (hz : zeroMV P t = some l) (hσ : σ[id]? = some (.orow t sz 0 [])) (hsz : l.length = sz) (h : K (.orf id 1 0) (σ.set id (.orow t sz 1 l))) : OpWp P rd o env σ K := by
 refine OpWp.of_run (by simp [ho]) fun g w a hr hop => ?_
 obtain ⟨z, k0, k1⟩ := zeroMV_some hz
 have htl : id < σ.length := (zH.1 hσ).1
 obtain ⟨own, ho'⟩ := hr.ex
 obtain ⟨v0, us0, f1, f2, f3, f4, f5, f6⟩ := ho'.obj id _ hσ
 generalize hus : z.cells.toList = us at k1
 have hul : us.length = sz := by rw [(k1 g w).1, hsz]
 refine ⟨.pointer (some ⟨w.heap.size, 0, none⟩), w.alloc (.cells us.toArray t), by simp [execOp, ho, Instr.alloc, k0, newVar, newRow, ← hus], ?_⟩
 have l2 := Le.alloc_stab hr (.cells us.toArray t) 0
 have r2 := hr.alloc_stab (.cells us.toArray t) 0
 generalize hg1 : g.stab w.heap.size 0 = g1 at l2 r2
 generalize hw1 : w.alloc (.cells us.toArray t) = w1 at l2 r2
 have ho1 : Owns g1 σ w1 own := by
  refine ho'.keep l2 (fun id b e => ?_) (fun _ _ => by rw [← hg1]; rfl)
  have hlt := (ho'.lt id b e).2.2
  rw [← hg1, ← hw1]
  refine ⟨Below.heap_alloc w _ b hlt, ?_⟩
  simp only [Gh.stab]
  exact if_neg (Nat.ne_of_lt hlt)
 have l3 : Le g1 w1 (g1.log id 1 (.slice (some ⟨w.heap.size, 0, none⟩) 1 1)) w1 := by
  refine ⟨⟨rfl, rfl, fun _ _ h => ⟨h, rfl⟩, fun _ _ h => h, fun s k u hv => ?_, Nat.le_refl _⟩, fun _ _ h => h⟩
  simp only [Gh.log]
  rw [if_neg]
  ·exact hv
  ·rintro ⟨rfl, rfl⟩
   have : g1.lg s 1 = g.lg s 1 := by rw [← hg1]; rfl
   rw [this, f5 _ (by omega)] at hv
   cases hv
 have hheap : w1.heap[w.heap.size]? = some (.cells us.toArray t (0, 0)) := by rw [← hw1]; exact heap_new w _
 have hsize : w1.heap.size = w.heap.size + 1 := by rw [← hw1]; simp
 have lall := l2.trans l3
 refine ⟨_, _, g1.log id 1 (.slice (some ⟨w.heap.size, 0, none⟩) 1 1), h, ?_, ?_, lall⟩
 ·refine Rel.obj_set r2 htl ho1 l3 r2.below r2.fresh V (fun i k hid => ?_) (fun i b hid hb => Vv) (ob := some w.heap.size) ?_ (fun i b hid hb e => ?_) (fun b hb => ?_)
  ·simp only [Gh.log]; rw [if_neg (fun h => hid h.1)]
  ·refine ⟨.slice (some ⟨w.heap.size, 0, none⟩) 1 1, us, by simp [Gh.log], ?_, rfl, fun b hb => ?_, fun k hk => ?_, k1 _ _⟩
   ·refine ⟨by rw [hul, Nat.one_mul], .inr ⟨w.heap.size, 1, _, rfl, ?_, hheap, Nat.le_refl _, by simp [maxLen], by simpa using hul, ?_⟩⟩
    ·have : (g1.log id 1 (.slice (some ⟨w.heap.size, 0, none⟩) 1 1)).B = g.B := lall.B
     rw [this]
     exact hr.size
    ·exact List.take_of_length_le (by simp; omega)
   ·injection hb with hb
    subst hb
    rw [← hg1]
    simp [Gh.log, Gh.stab]
   ·simp only [Gh.log]
    rw [if_neg (by omega), ← hg1]
    exact f5 k (by omega)
  ·have := (ho'.lt i b hb).2.2
   injection e with e
   omega
  ·injection hb with hb
   subst hb
   refine ⟨?_, by omega⟩
   rw [← hg1]
   exact hr.size
 ·exact .orf _ _ _ w.heap.size 1 (by simp [Gh.log])
end
theorem mwp_hole {P : Program} {rd : Option Nat} {N n : Nat} {c : Code} {Q : Exit → Env → MS → Prop} {env : Env} {σ : MS} (ty sz : Nat) (h : mwp P rd N n c Q env (σ ++ [.orow ty sz 0 []])) : mwp P rd N n c Q env σ := by
 refine zO5 (fun g w tmps hr he => ?_) h
 obtain ⟨r1, l1, d1⟩ := ow_new hr ty sz
 exact ⟨_, r1, he.mono l1, l1.toN N, fun F hF => hF.mono (l1.toN N)⟩
def hol (ty sz : Nat) (z v : List MV) (p q : Bool) : MObj := if p = true then .orow ty sz 1 (if q = true then v else z) else .orow ty sz 0 []
def st2 (B : MS) (ty sz a b c d : Nat) (z vx vy : List MV) (D : Nat → Bool) : MS := B ++ [hol ty sz z vx (D a) (D c), hol ty sz z vy (D b) (D d)]
theorem st2_skip {B : MS} {ty sz a b c d i : Nat} {z vx vy : List MV} {D : Nat → Bool} (ha : a ≠ i) (hb : b ≠ i) (hc : c ≠ i) (hd : d ≠ i) : st2 B ty sz a b c d z vx vy (updD D i) = st2 B ty sz a b c d z vx vy D := by
 unfold st2 updD
 rw [if_neg ha, if_neg hb, if_neg hc, if_neg hd]
section
variable {P : Program} {rd : Option Nat} {o : Oper} {env : Env} {B : MS} {ty sz a b c d : Nat} {z vx vy : List MV} {D : Nat → Bool}
theorem op_st2 {X : MV} {i : Nat} (ha : a ≠ i) (hb : b ≠ i) (hc : c ≠ i) (hd : d ≠ i) (h : OpWp P rd o env (st2 B ty sz a b c d z vx vy D) fun x σ => x = X ∧ σ = st2 B ty sz a b c d z vx vy D) : OpWp P rd o env (st2 B ty sz a b c d z vx vy D) fun x σ => x = X ∧ σ = st2 B ty sz a b c d z vx vy (updD D i) := by
 rw [st2_skip ha hb hc hd]; exact h
theorem get_2a {B : MS} {x y : MObj} : (B ++ [x, y])[B.length]? = some x := by simp
theorem get_2b {B : MS} {x y : MObj} : (B ++ [x, y])[B.length + 1]? = some y := by rw [getElem?_own]; rfl
theorem set_2a {B : MS} {x y o : MObj} : (B ++ [x, y]).set B.length o = B ++ [o, y] := by rw [show B.length = B.length + 0 from rfl, zE3]; rfl
theorem set_2b {B : MS} {x y o : MObj} : (B ++ [x, y]).set (B.length + 1) o = B ++ [x, o] := by rw [zE3]; rfl
theorem op_st2_ax (ho : o.op = .alloc ty) (hz : zeroMV P ty = some z) (hsz : z.length = sz) (h1 : D a = false) (h3 : D c = false) (hba : b ≠ a) (hca : ¬ c = a) (hda : d ≠ a) : OpWp P rd o env (st2 B ty sz a b c d z vx vy D) fun x σ => x = .orf B.length 1 0 ∧ σ = st2 B ty sz a b c d z vx vy (updD D a) := by
 refine op_alloc_ow ho hz (by unfold st2 hol; rw [h1]; exact get_2a) hsz ⟨rfl, ?_⟩
 unfold st2 hol updD
 rw [h1, h3, if_neg hba, if_neg hda, if_pos rfl, if_neg hca]
 exact set_2a
theorem op_st2_ay (ho : o.op = .alloc ty) (hz : zeroMV P ty = some z) (hsz : z.length = sz) (h1 : D b = false) (h3 : D d = false) (hab : a ≠ b) (hcb : c ≠ b) (hdb : d ≠ b) : OpWp P rd o env (st2 B ty sz a b c d z vx vy D) fun x σ => x = .orf (B.length + 1) 1 0 ∧ σ = st2 B ty sz a b c d z vx vy (updD D b) := by
 refine op_alloc_ow ho hz (by unfold st2 hol; rw [h1]; exact get_2b) hsz ⟨rfl, ?_⟩
 unfold st2 hol updD
 rw [h1, h3, if_neg hab, if_neg hcb, if_pos rfl, if_neg hdb]
 exact set_2b
theorem op_st2_sx {x y : Operand} {m : MV} (ho : o.op = .store ty x y) (hx : evo env x = some (.orf B.length 1 0)) (hy : evo env y = some m) (hk : szOf P ty = some sz) (hm : m.cells = vx) (hl : vx.length = sz) (hzl : z.length = sz) (h1 : vx.all MV.one = true) (ha : D a = true) (hc : D c = false) (hac : a ≠ c) (hbc : b ≠ c) (hdc : d ≠ c) : OpWp P rd o env (st2 B ty sz a b c d z vx vy D) fun x σ => x = .tup [] ∧ σ = st2 B ty sz a b c d z vx vy (updD D c) := by
 subst hm
 refine zI6 (l := z) (sz := sz) ho hx hy (by unfold st2 hol; rw [ha, hc]; exact get_2a) hk hl h1 (by omega) ⟨rfl, ?_⟩
 unfold st2 hol updD
 rw [ha, hc, if_neg hac, if_neg hbc, if_neg hdc]
 refine set_2a.trans ?_
 rw [show setMany z 0 m.cells = m.cells by unfold setMany; simp [List.drop_eq_nil_of_le (show z.length ≤ m.cells.length by omega)]]
 simp
theorem op_st2_sy {x y : Operand} {m : MV} (ho : o.op = .store ty x y) (hx : evo env x = some (.orf (B.length + 1) 1 0)) (hy : evo env y = some m) (hk : szOf P ty = some sz) (hm : m.cells = vy) (hl : vy.length = sz) (hzl : z.length = sz) (h1 : vy.all MV.one = true) (hb : D b = true) (hd : D d = false) (had : a ≠ d) (hbd : b ≠ d) (hcd : c ≠ d) : OpWp P rd o env (st2 B ty sz a b c d z vx vy D) fun x σ => x = .tup [] ∧ σ = st2 B ty sz a b c d z vx vy (updD D d) := by
 subst hm
 refine zI6 (l := z) (sz := sz) ho hx hy (by unfold st2 hol; rw [hb, hd]; exact get_2b) hk hl h1 (by omega) ⟨rfl, ?_⟩
 unfold st2 hol updD
 rw [hb, hd, if_neg had, if_neg hbd, if_neg hcd]
 refine set_2b.trans ?_
 rw [show setMany z 0 m.cells = m.cells by unfold setMany; simp [List.drop_eq_nil_of_le (show z.length ≤ m.cells.length by omega)]]
 simp
theorem get_st2 {k : Nat} {ob : MObj} (h : B[k]? = some ob) : (st2 B ty sz a b c d z vx vy D)[k]? = some ob := by
 unfold st2
 rw [List.getElem?_append_left (zH.1 h).1]
 exact h
theorem no_later {ops : Array Oper} {i j : Nat} {o p : Oper} {D : Nat → Bool} (h : OkD ops i o D) (hp : ops[j]? = some p) (he : bindsOn p i = true) : D j = false := by
 cases hd : D j with
 | false => rfl
 | true =>
  have := h.2.2 j p hp hd i he
  rw [h.1] at this
  cases this
end
end
end Go.MV
namespace Go.Proofs.YtnfcnpdpfgcchaaGreat
open Go Go.MV
def atG (s : Bs) : List Bs → Nat → Int
 | [], _ => -1
 | x :: l, i => if x = s then (i : Int) else atG s l (i + 1)
noncomputable def lkI (bot : Val) (s : List Bs) (w : List Val) (k : Bs) : Val := if 0 ≤ atG k s 0 then w.getD (atG k s 0).toNat noV else bot
theorem at_get (k : Bs) : ∀ (s : List Bs) (i : Nat), 0 ≤ atG k s i → ∃ p, atG k s i = ((i + p : Nat) : Int) ∧ s[p]? = some k
 | [], i, h => by rw [atG] at h; omega
 | x :: s, i, h => by
  rw [atG] at h ⊢
  by_cases e : x = k
  ·rw [if_pos e]; exact ⟨0, rfl, by simp [e]⟩
  ·rw [if_neg e] at h ⊢
   obtain ⟨p, h1, h2⟩ := at_get k s (i + 1) h
   exact ⟨p + 1, by rw [h1]; omega, by simpa using h2⟩
theorem lk_yes {bot : Val} {s : List Bs} {w : List Val} {k : Bs} (hl : s.length = w.length) (h : 0 ≤ atG k s 0) : ∃ p v, atG k s 0 = ((p : Nat) : Int) ∧ w[p]? = some v ∧ lkI bot s w k = v := by
 obtain ⟨p, h1, h2⟩ := at_get k s 0 h
 rw [Nat.zero_add] at h1
 have hp : p < w.length := by rw [← hl]; exact (zH.1 h2).1
 refine ⟨p, w[p], h1, zD hp, ?_⟩
 unfold lkI
 rw [if_pos h, h1]
 simp [hp]
theorem lk_not {bot : Val} {s : List Bs} {w : List Val} {k : Bs} (h : ¬ 0 ≤ atG k s 0) : lkI bot s w k = bot := if_neg h
theorem at_neg (k : Bs) : ∀ (s : List Bs) (i : Nat), ¬ 0 ≤ atG k s i → atG k s i = -1
 | [], i, _ => by rw [atG]
 | x :: s, i, h => by
  rw [atG] at h ⊢
  by_cases e : x = k
  ·rw [if_pos e] at h; omega
  ·rw [if_neg e] at h ⊢; exact at_neg k s (i + 1) h
theorem lk_cases {bot : Val} {s : List Bs} {w : List Val} {k : Bs} (hl : s.length = w.length) : (∃ p v, atG k s 0 = ((p : Nat) : Int) ∧ w[p]? = some v ∧ lkI bot s w k = v) ∨ (atG k s 0 = -1 ∧ lkI bot s w k = bot) := by
 by_cases h : 0 ≤ atG k s 0
 ·exact .inl (lk_yes hl h)
 ·exact .inr ⟨at_neg k s 0 h, lk_not h⟩
theorem lk_right {t : Sch} {bot : Val} {s : List Bs} {w : List Val} {k : Bs} (hl : s.length = w.length) (hw : ∀ x ∈ w, okV x ∧ isVF t x = true) (hb : okV bot ∧ isVF t bot = true) : okV (lkI bot s w k) ∧ isVF t (lkI bot s w k) = true := by
 rcases lk_cases (bot := bot) (k := k) hl with ⟨p, v, _, h2, h3⟩ | ⟨_, h3⟩
 ·rw [h3]; exact hw v (zC0 h2)
 ·rw [h3]; exact hb
theorem lk_look {bot : Val} {k : Bs} : ∀ {s : List Bs} {w : List Val}, s.length = w.length → ∀ i, (if 0 ≤ atG k s i then w.getD ((atG k s i).toNat - i) noV else bot) = lkB bot (s.zip w) k
 | [], [], _, i => by simp [atG, lkB, look]
 | x :: s, y :: w, h, i => by
  rw [List.zip_cons_cons]
  unfold lkB
  rw [zK2, atG]
  by_cases e : x = k
  ·rw [if_pos e, if_pos e, if_pos (by omega)]
   simp
  ·rw [if_neg e, if_neg e]
   have ih := lk_look (bot := bot) (k := k) (s := s) (w := w) (by simpa using h) (i + 1)
   unfold lkB at ih
   rw [← ih]
   by_cases h0 : 0 ≤ atG k s (i + 1)
   ·rw [if_pos h0, if_pos h0]
    obtain ⟨p, h1, _⟩ := at_get k s (i + 1) h0
    rw [h1]
    have e1 : ((((i + 1 + p : Nat) : Int)).toNat - i) = p + 1 := by rw [Int.toNat_natCast]; omega
    have e2 : ((((i + 1 + p : Nat) : Int)).toNat - (i + 1)) = p := by rw [Int.toNat_natCast]; omega
    rw [e1, e2]
    simp
   ·rw [if_neg h0, if_neg h0]
theorem lkI_look {bot : Val} {k : Bs} {s : List Bs} {w : List Val} (h : s.length = w.length) : lkI bot s w k = lkB bot (s.zip w) k := by
 rw [← lk_look h 0]
 unfold lkI
 simp
noncomputable def mpV (t : Sch) (s1 : List Bs) (w1 : List Val) (s2 : List Bs) (w2 : List Val) (l : List Bs) : List Val := l.map fun k => jn t (lkI (bottomF t) s1 w1 k) (lkI (bottomF t) s2 w2 k)
noncomputable def mpO (t : Sch) (s1 : List Bs) (w1 : List Val) (s2 : List Bs) (w2 : List Val) (l : List Bs) : Bool := l.all fun k => okJ t (lkI (bottomF t) s1 w1 k) (lkI (bottomF t) s2 w2 k)
theorem mpV_take {t : Sch} {s1 s2 l : List Bs} {w1 w2 : List Val} {i : Nat} {k : Bs} (h : l[i]? = some k) : mpV t s1 w1 s2 w2 (l.take (i + 1)) = mpV t s1 w1 s2 w2 (l.take i) ++ [jn t (lkI (bottomF t) s1 w1 k) (lkI (bottomF t) s2 w2 k)] := by
 unfold mpV
 rw [List.take_add_one, h, Option.toList_some, List.map_append]; rfl
theorem mpO_take {t : Sch} {s1 s2 l : List Bs} {w1 w2 : List Val} {i : Nat} {k : Bs} (h : l[i]? = some k) : mpO t s1 w1 s2 w2 (l.take (i + 1)) = (mpO t s1 w1 s2 w2 (l.take i) && okJ t (lkI (bottomF t) s1 w1 k) (lkI (bottomF t) s2 w2 k)) := by
 unfold mpO
 rw [List.take_add_one, h, Option.toList_some, List.all_append]; simp
theorem mpV_len {t : Sch} {s1 s2 l : List Bs} {w1 w2 : List Val} {i : Nat} (h : i ≤ l.length) : (mpV t s1 w1 s2 w2 (l.take i)).length = i := by
 unfold mpV
 rw [zC, List.length_take]; omega
theorem rAt_spec (l : List Bs) (s : Bs) (S : MS) : MCalls Tryz.prog 81 [.lst none 1 (l.map encX), encX s] S fun v σ' => v = .int .i64 (atG s l 0) ∧ σ' = S := by
 refine zU Tryz.func81 V Tryz.ntmps81 (zA V) ?_
 refine zI2 (t := 0) V fun hlen => ?_
 rw [zC] at hlen
 refine zB <| qR V <| qA V V V <| qN <| zB <| zB <| qR V <| qA V V V <| qN <| zB0 ?_
 refine zQ1 (α := Nat) [(0, _), (1, _)] (fun i => [(5, .int .i64 (i : Int))]) (fun i => []) (fun i => i ≤ l.length ∧ atG s l 0 = atG s (l.drop i) i) (fun i => l.length - i) (0) (.keep V (.keep V (.nil))) (.keep V (.nil)) (⟨by omega, rfl⟩) (V) ?_
 rintro i ⟨hi, he⟩
 refine zB <| zB <| qR V <| qM V V V <| qM V V V <| qE V V zX V <| qC V V V V V <| qN ?_
 refine zK V (fun h9 => ?_) (fun h9 => ?_)
 ·
  have hlt : i < l.length := by simpa using h9
  obtain ⟨y, hs⟩ : ∃ q_, l[i]? = some q_ := ⟨_, zD hlt⟩
  refine zY <| zB <| zB0 <| zB <| qR V <| qM V V V <| qM V V V <| qO V <| zG V zX sz9 (by decide) V V V (zR0 hs) ?_
  refine qO V <| zI V V ta9 V <| qM V V V <| qO V <| zM3 V V V V <| qN ?_
  refine zK V (fun h17 => ?_) (fun h17 => ?_)
  ·
   have heq : y = s := by simpa using h17
   refine zB <| qR V <| qM V V V <| qA V V V <| qN <| zL ?_
   exact zT (.inr V) Tryz.results81 V (.of_eq (by rw [he, dropJ hs, atG, if_pos heq])) (.int _ _) Vv
  ·
   have hne : ¬ y = s := by simpa using h17
   refine zY <| qR V <| qM V V V <| qO V <| zO0 V V V V <| qA V V V <| qN ?_
   refine ⟨i + 1, by omega, ⟨by omega, by rw [he, dropJ hs, atG, if_neg hne]⟩, rfl, (.keep V (.keep V (.nil))), (.eq V (zK1 hlt hlen) (.nil))⟩
 ·
  have hge : i = l.length := by simp at h9; omega
  refine zF1 <| zB <| qR V <| qA V V V <| qN <| zL ?_
  exact zT (.inr V) Tryz.results81 V (.of_eq (by rw [he, hge, List.drop_length, atG])) (.int _ _) Vv
theorem clo_out {n t : Nat} {xs : List Bs} {ws : List Val} (h : t < n) : (MObj.cells [.int .u64 0, .int .u64 0, .lst none 1 (xs.map encX), .lst0, .lst (some t) 5 (encVs ws)]).cl n := by
 intro x hx
 simp only [List.mem_cons, List.not_mem_nil, or_false] at hx
 rcases hx with rfl | rfl | rfl | rfl | rfl
 ·exact .int _ _
 ·exact .int _ _
 ·exact zW4 _ _
 ·exact .lst0
 ·rw [zY3]; exact cl_lstT h (fun e => zT1 n e) (fun e => by cases e; exact .inl rfl)
theorem rMaps_spec (k1 : Int) (i1 : List Sch) (hF : isF 16 (.mk k1 i1) = true) (s1 s2 : List Bs) (w1 w2 : List Val) (l1 : s1.length = w1.length) (l2 : s2.length = w2.length) (u1 : Up s1) (u2 : Up s2) (n1 : s1.length ≤ 40) (n2 : s2.length ≤ 40) (r1 : ∀ x ∈ w1, okV x ∧ isVF (.mk k1 i1) x = true) (r2 : ∀ x ∈ w2, okV x ∧ isVF (.mk k1 i1) x = true) (ih : ∀ x y : Val, okV x → okV y → isVF (.mk k1 i1) x = true → isVF (.mk k1 i1) y = true → ∀ S : MS, MCalls Tryz.prog 30 [encS (.mk k1 i1), encV x, encV y] S fun v σ' => v = .tup [encV (jn (.mk k1 i1) x y), .bool (okJ (.mk k1 i1) x y)] ∧ σ' = S) (S : MS) : MCalls Tryz.prog 53 [encS (.mk 4 [.mk k1 i1]), encV (.mk 0 0 s1 [] w1), encV (.mk 0 0 s2 [] w2)] S fun v σ' => v = .tup [encV (.mk 0 0 (bothX s1 s2) [] (mpV (.mk k1 i1) s1 w1 s2 w2 (bothX s1 s2))), .bool (decide ((bothX s1 s2).length ≤ 40) && mpO (.mk k1 i1) s1 w1 s2 w2 (bothX s1 s2))] ∧ σ' = S := by
 refine zU Tryz.func53 V Tryz.ntmps53 (zA V) ?_
 obtain ⟨⟨bn, bm, bs_, bc, bw⟩, eb⟩ : ∃ v, bottomF (.mk k1 i1) = v := ⟨_, rfl⟩
 have hbt : ∀ S : MS, MCalls Tryz.prog 26 [encS (.mk k1 i1)] S fun v σ' => v = encV (.mk bn bm bs_ bc bw) ∧ σ' = S := fun S => by
  have := rBottom_spec (.mk k1 i1) S
  rwa [zH6 hF (by omega), eb] at this
 have hbb : okV (bottomF (.mk k1 i1)) ∧ isVF (.mk k1 i1) (bottomF (.mk k1 i1)) = true := ⟨okV_bot hF, is_bot hF⟩
 have hkl := both_len s1 s2
 refine zB <| qR V <| qB V V V V V <| qB V V V V V <| qB V V V V V <| qO V <| zL0 V zm30 V V <| qA V V V <| qN <| zB <| qR V <| qF V V V zU1 <| qL V V V V ta26 V <| qF V V V zU1 <| qL V V V V ta26 V ?_
 refine qX V V V V co52 (rBothT_spec s1 s2 u1 u2 (by omega) _) ?_
 refine qO V <| zZ1 V zQ0 zm30 (.cons zU1 sz26 V V (zA V) .nil) (by kernel_rfl) ?_
 refine qO V <| zL0 V zm30 V V <| qO V <| zG0 V V V V sz30 V V (zA V) V <| qN <| zB <| qR V <| qF V V V zU1 <| qL V V V V ta26 V <| qE V V zX V <| qC V V V V V <| qA V V V <| qN <| zB <| zB <| qR V <| qA V V V <| qN <| zB0 <| mwp_cellrowAt 4 4 30 5 V V (Nat.le_refl _) V V ?_
 refine mwp_loopKJ (α := Nat) [(3, _), (4, _), (5, _), (6, _), (8, _)] (fun i => [(9, .bool (decide ((bothX s1 s2).length ≤ 40) && mpO (.mk k1 i1) s1 w1 s2 w2 ((bothX s1 s2).take i))), (10, .int .i64 (i : Int))]) (fun i => [.cells (encS (.mk 4 [.mk k1 i1])).cells, .cells (encV (.mk 0 0 s1 [] w1)).cells, .cells (encV (.mk 0 0 s2 [] w2)).cells, .cells [.int .u64 0, .int .u64 0, .lst0, .lst0, .lst0], .cells [.int .u64 0, .int .u64 0, .lst none 1 ((bothX s1 s2).map encX), .lst0, .lst (some (S.length + 5)) 5 (encVs (mpV (.mk k1 i1) s1 w1 s2 w2 ((bothX s1 s2).take i)))], .row 30 5 (mpV (.mk k1 i1) s1 w1 s2 w2 ((bothX s1 s2).take i)).length]) (fun i => i ≤ (bothX s1 s2).length) (fun i => (bothX s1 s2).length - i) (0) (Nat.le_refl _) (.keep V (.keep V (.keep V (.keep V (.keep V (.nil)))))) (.eq V (congrArg MV.bool (by rw [zF]; simp [mpO] <;> omega)) (.keep V (.nil))) (by omega) (V) ?_
 rintro i hi
 have hvl := mpV_len (t := (.mk k1 i1)) (s1 := s1) (s2 := s2) (w1 := w1) (w2 := w2) hi
 refine zB <| zB <| qR V <| qM V V V <| qF V V V zU1 <| qL V V V V ta26 V <| qE V V zX V <| qC V V V V V <| qN ?_
 refine zK V (fun h31 => ?_) (fun h31 => ?_)
 ·
  have hlt : i < (bothX s1 s2).length := by simpa using h31
  obtain ⟨ky, hs⟩ : ∃ q_, (bothX s1 s2)[i]? = some q_ := ⟨_, zD hlt⟩
  have oX := lk_right (k := ky) l1 r1 hbb
  have oY := lk_right (k := ky) l2 r2 hbb
  have hz := ih (lkI (bottomF (.mk k1 i1)) s1 w1 ky) (lkI (bottomF (.mk k1 i1)) s2 w2 ky) oX.1 oY.1 oX.2 oY.2
  obtain ⟨⟨zn, zm, zs, zc, zw⟩, ez⟩ : ∃ v, jn (.mk k1 i1) (lkI (bottomF (.mk k1 i1)) s1 w1 ky) (lkI (bottomF (.mk k1 i1)) s2 w2 ky) = v := ⟨_, rfl⟩
  rw [ez] at hz
  obtain ⟨⟨xn, xm, xs, xc, xw⟩, ex⟩ : ∃ v, lkI (bottomF (.mk k1 i1)) s1 w1 ky = v := ⟨_, rfl⟩
  obtain ⟨⟨yn, ym, ys, yc, yw⟩, ey⟩ : ∃ v, lkI (bottomF (.mk k1 i1)) s2 w2 ky = v := ⟨_, rfl⟩
  rw [ex, ey] at hz
  refine zY <| zB <| zB0 <| zB <| mwp_hole 30 5 <| mwp_hole 30 5 ?_
  have hBl : (S ++ ([.cells (encS (.mk 4 [.mk k1 i1])).cells, .cells (encV (.mk 0 0 s1 [] w1)).cells, .cells (encV (.mk 0 0 s2 [] w2)).cells, .cells [.int .u64 0, .int .u64 0, .lst0, .lst0, .lst0], .cells [.int .u64 0, .int .u64 0, .lst none 1 ((bothX s1 s2).map encX), .lst0, .lst (some (S.length + 5)) 5 (encVs (mpV (.mk k1 i1) s1 w1 s2 w2 ((bothX s1 s2).take i)))], .row 30 5 (mpV (.mk k1 i1) s1 w1 s2 w2 ((bothX s1 s2).take i)).length] : MS)).length = S.length + 6 := by simp
  refine mwp_drawS (st2 (S ++ ([.cells (encS (.mk 4 [.mk k1 i1])).cells, .cells (encV (.mk 0 0 s1 [] w1)).cells, .cells (encV (.mk 0 0 s2 [] w2)).cells, .cells [.int .u64 0, .int .u64 0, .lst0, .lst0, .lst0], .cells [.int .u64 0, .int .u64 0, .lst none 1 ((bothX s1 s2).map encX), .lst0, .lst (some (S.length + 5)) 5 (encVs (mpV (.mk k1 i1) s1 w1 s2 w2 ((bothX s1 s2).take i)))], .row 30 5 (mpV (.mk k1 i1) s1 w1 s2 w2 ((bothX s1 s2).take i)).length] : MS)) 30 5 10 11 12 13 [.int .u64 0, .int .u64 0, .lst0, .lst0, .lst0] (encV (.mk bn bm bs_ bc bw)).cells (encV (.mk bn bm bs_ bc bw)).cells) mo (by decide) (by show (S ++ ([.cells (encS (.mk 4 [.mk k1 i1])).cells, .cells (encV (.mk 0 0 s1 [] w1)).cells, .cells (encV (.mk 0 0 s2 [] w2)).cells, .cells [.int .u64 0, .int .u64 0, .lst0, .lst0, .lst0], .cells [.int .u64 0, .int .u64 0, .lst none 1 ((bothX s1 s2).map encX), .lst0, .lst (some (S.length + 5)) 5 (encVs (mpV (.mk k1 i1) s1 w1 s2 w2 ((bothX s1 s2).take i)))], .row 30 5 (mpV (.mk k1 i1) s1 w1 s2 w2 ((bothX s1 s2).take i)).length] : MS)) ++ ([MObj.orow 30 5 0 []] ++ [MObj.orow 30 5 0 []]) = _; exact (zZ _ _ _).symm) ?_
  refine zB3 V (fun D hD => op_st2 (by decide) (by decide) (by decide) (by decide) (zJ V V zR2 Vv)) ?_
  refine zB3 V (fun D hD => op_st2 (by decide) (by decide) (by decide) (by decide) (zR V V (get_st2 (by rw [getElem?_own]; rfl)) ta22 V Vv)) ?_
  refine zB3 V (fun D hD => op_st2 (by decide) (by decide) (by decide) (by decide) (zG V zJ0 sz24 (by decide) V V V (show _ = some (encS (.mk k1 i1)) from V) Vv)) ?_
  refine zB3 V (fun D hD => op_st2 (by decide) (by decide) (by decide) (by decide) (zI V V ta24 V Vv)) ?_
  refine zB3 V (fun D hD => op_st2 (by decide) (by decide) (by decide) (by decide) (zC1 V V V co26 (hbt _))) ?_
  refine zB3 V (fun D hD => op_st2 (by decide) (by decide) (by decide) (by decide) (zJ V V zR2 Vv)) ?_
  refine zB3 V (fun D hD => op_st2 (by decide) (by decide) (by decide) (by decide) (zR V V (get_st2 (by rw [getElem?_own]; rfl)) ta22 V Vv)) ?_
  refine zB3 V (fun D hD => op_st2 (by decide) (by decide) (by decide) (by decide) (zG V zJ0 sz24 (by decide) V V V (show _ = some (encS (.mk k1 i1)) from V) Vv)) ?_
  refine zB3 V (fun D hD => op_st2 (by decide) (by decide) (by decide) (by decide) (zI V V ta24 V Vv)) ?_
  refine zB3 V (fun D hD => op_st2 (by decide) (by decide) (by decide) (by decide) (zC1 V V V co26 (hbt _))) ?_
  refine zB3 V (fun D hD => op_st2_ax V zm30 V hD.1 (no_later hD (j := 12) V (by decide)) (by decide) (by decide) (by decide)) ?_
  refine zB3 V (fun D hD => op_st2_ay V zm30 V hD.1 (no_later hD (j := 13) V (by decide)) (by decide) (by decide) (by decide)) ?_
  refine zB3 V (fun D hD => op_st2_sx (m := encV (.mk bn bm bs_ bc bw)) V V V sz30 V V V V (hD.2.1 10 (by decide)) hD.1 (by decide) (by decide) (by decide)) ?_
  refine zB3 V (fun D hD => op_st2_sy (m := encV (.mk bn bm bs_ bc bw)) V V V sz30 V V V V (hD.2.1 11 (by decide)) hD.1 (by decide) (by decide) (by decide)) ?_
  refine dOpsS_nil ?_
  rw [hBl]
  show mwp _ _ _ _ _ _ _ ((S ++ ([.cells (encS (.mk 4 [.mk k1 i1])).cells, .cells (encV (.mk 0 0 s1 [] w1)).cells, .cells (encV (.mk 0 0 s2 [] w2)).cells, .cells [.int .u64 0, .int .u64 0, .lst0, .lst0, .lst0], .cells [.int .u64 0, .int .u64 0, .lst none 1 ((bothX s1 s2).map encX), .lst0, .lst (some (S.length + 5)) 5 (encVs (mpV (.mk k1 i1) s1 w1 s2 w2 ((bothX s1 s2).take i)))], .row 30 5 (mpV (.mk k1 i1) s1 w1 s2 w2 ((bothX s1 s2).take i)).length] : MS)) ++ [.orow 30 5 1 (encV (.mk bn bm bs_ bc bw)).cells, .orow 30 5 1 (encV (.mk bn bm bs_ bc bw)).cells])
  rw [zZ S]
  refine mwp_join (E := [(3, .ref (S.length + 0) 0), (4, .ref (S.length + 1) 0), (5, .ref (S.length + 2) 0), (6, .ref (S.length + 3) 0), (8, .ref (S.length + 4) 0), (9, .bool (decide ((bothX s1 s2).length ≤ 40) && mpO (.mk k1 i1) s1 w1 s2 w2 ((bothX s1 s2).take i))), (10, .int .i64 (i : Int)), (11, .orf (S.length + 6) 1 0), (12, .orf (S.length + 7) 1 0)]) (S ++ [.cells (encS (.mk 4 [.mk k1 i1])).cells, .cells (encV (.mk 0 0 s1 [] w1)).cells, .cells (encV (.mk 0 0 s2 [] w2)).cells, .cells [.int .u64 0, .int .u64 0, .lst0, .lst0, .lst0], .cells [.int .u64 0, .int .u64 0, .lst none 1 ((bothX s1 s2).map encX), .lst0, .lst (some (S.length + 5)) 5 (encVs (mpV (.mk k1 i1) s1 w1 s2 w2 ((bothX s1 s2).take i)))], .row 30 5 (mpV (.mk k1 i1) s1 w1 s2 w2 ((bothX s1 s2).take i)).length, .orow 30 5 1 (encV (.mk xn xm xs xc xw)).cells, .orow 30 5 1 (encV (.mk bn bm bs_ bc bw)).cells]) ?_ ?_
  ·
   refine zB ?_
   refine zV0 [] [_] mo (by decide) V V V V ?_
   refine dO V V V (zJ V V zU1 Vv) <| dO V V V (zE0 V V V ta26 V Vv) <| dO V V V (zJ V V zU1 Vv) <| dO V V V (zE0 V V V ta26 V Vv) ?_
   skip
   refine dO V V V (zS V V Vv) <| dO V V V (zG V zX sz9 (by decide) V V V (zR0 hs) Vv) ?_
   refine dO V V V (zI V V ta9 V Vv) <| zV V V (.cons (zC1 V V V co81 (rAt_spec s1 ky _)) .nil) <| dO V V V (zB1 V V Vv) <| zK0 <| zB <| qR V <| qM V V V <| qC V V V V V <| qN ?_
   refine zK V (fun h53 => ?_) (fun h53 => ?_)
   ·
    obtain ⟨pA, vA, haA, hwA, hkA⟩ := lk_yes (bot := bottomF (.mk k1 i1)) (k := ky) l1 (zO1 h53)
    rw [ex] at hkA
    subst hkA
    refine qR V <| qF V V V zZ0 <| qL V V V V ta28 V <| qM V V V <| qO V <| zG V zE sz30 (by decide) V V haA (zN1 hwA) ?_
    refine qO V <| zI V V ta30 V ?_
    refine zF4 V (zI6 (id := S.length + 6) V V V (by rw [getElem?_own]; rfl) sz30 V V (zA V) ?_)
    rw [zE3]
    refine qN ?_
    first | exact ⟨rfl, rfl, (.keep rfl (.keep rfl (.keep rfl (.keep rfl (.keep rfl (.keep rfl (.keep rfl (.keep rfl (.keep rfl (.nil))))))))))⟩ | exact ⟨rfl, by rw [hbx] <;> rfl, (.keep rfl (.keep rfl (.keep rfl (.keep rfl (.keep rfl (.keep rfl (.keep rfl (.keep rfl (.keep rfl (.nil))))))))))⟩
   ·
    have hbx : ((.mk bn bm bs_ bc bw) : Val) = (.mk xn xm xs xc xw) := by rw [← eb, ← ex, lk_not (zP1 h53)]
    refine zY ?_
    first | exact ⟨rfl, rfl, (.keep rfl (.keep rfl (.keep rfl (.keep rfl (.keep rfl (.keep rfl (.keep rfl (.keep rfl (.keep rfl (.nil))))))))))⟩ | exact ⟨rfl, by rw [hbx] <;> rfl, (.keep rfl (.keep rfl (.keep rfl (.keep rfl (.keep rfl (.keep rfl (.keep rfl (.keep rfl (.keep rfl (.nil))))))))))⟩
  ·
   refine mwp_join (E := [(3, .ref (S.length + 0) 0), (4, .ref (S.length + 1) 0), (5, .ref (S.length + 2) 0), (6, .ref (S.length + 3) 0), (8, .ref (S.length + 4) 0), (9, .bool (decide ((bothX s1 s2).length ≤ 40) && mpO (.mk k1 i1) s1 w1 s2 w2 ((bothX s1 s2).take i))), (10, .int .i64 (i : Int)), (11, .orf (S.length + 6) 1 0), (12, .orf (S.length + 7) 1 0)]) (S ++ [.cells (encS (.mk 4 [.mk k1 i1])).cells, .cells (encV (.mk 0 0 s1 [] w1)).cells, .cells (encV (.mk 0 0 s2 [] w2)).cells, .cells [.int .u64 0, .int .u64 0, .lst0, .lst0, .lst0], .cells [.int .u64 0, .int .u64 0, .lst none 1 ((bothX s1 s2).map encX), .lst0, .lst (some (S.length + 5)) 5 (encVs (mpV (.mk k1 i1) s1 w1 s2 w2 ((bothX s1 s2).take i)))], .row 30 5 (mpV (.mk k1 i1) s1 w1 s2 w2 ((bothX s1 s2).take i)).length, .orow 30 5 1 (encV (.mk xn xm xs xc xw)).cells, .orow 30 5 1 (encV (.mk yn ym ys yc yw)).cells]) ?_ ?_
   ·
    refine zB ?_
    refine zV0 [] [_] mo (by decide) V V V V ?_
    refine dO V V V (zJ V V zU1 Vv) <| dO V V V (zE0 V V V ta26 V Vv) <| dO V V V (zJ V V zU1 Vv) <| dO V V V (zE0 V V V ta26 V Vv) ?_
    skip
    refine dO V V V (zS V V Vv) <| dO V V V (zG V zX sz9 (by decide) V V V (zR0 hs) Vv) ?_
    refine dO V V V (zI V V ta9 V Vv) <| zV V V (.cons (zC1 V V V co81 (rAt_spec s2 ky _)) .nil) <| dO V V V (zB1 V V Vv) <| zK0 <| zB <| qR V <| qM V V V <| qC V V V V V <| qN ?_
    refine zK V (fun h68 => ?_) (fun h68 => ?_)
    ·
     obtain ⟨pB, vB, haB, hwB, hkB⟩ := lk_yes (bot := bottomF (.mk k1 i1)) (k := ky) l2 (zO1 h68)
     rw [ey] at hkB
     subst hkB
     refine qR V <| qF V V V zZ0 <| qL V V V V ta28 V <| qM V V V <| qO V <| zG V zE sz30 (by decide) V V haB (zN1 hwB) ?_
     refine qO V <| zI V V ta30 V ?_
     refine zF4 V (zI6 (id := S.length + 7) V V V (by rw [getElem?_own]; rfl) sz30 V V (zA V) ?_)
     rw [zE3]
     refine qN ?_
     first | exact ⟨rfl, rfl, (.keep rfl (.keep rfl (.keep rfl (.keep rfl (.keep rfl (.keep rfl (.keep rfl (.keep rfl (.keep rfl (.nil))))))))))⟩ | exact ⟨rfl, by rw [hbx] <;> rfl, (.keep rfl (.keep rfl (.keep rfl (.keep rfl (.keep rfl (.keep rfl (.keep rfl (.keep rfl (.keep rfl (.nil))))))))))⟩
    ·
     have hbx : ((.mk bn bm bs_ bc bw) : Val) = (.mk yn ym ys yc yw) := by rw [← eb, ← ey, lk_not (zP1 h68)]
     refine zY ?_
     first | exact ⟨rfl, rfl, (.keep rfl (.keep rfl (.keep rfl (.keep rfl (.keep rfl (.keep rfl (.keep rfl (.keep rfl (.keep rfl (.nil))))))))))⟩ | exact ⟨rfl, by rw [hbx] <;> rfl, (.keep rfl (.keep rfl (.keep rfl (.keep rfl (.keep rfl (.keep rfl (.keep rfl (.keep rfl (.keep rfl (.nil))))))))))⟩
   ·
    refine zB ?_
    refine zV0 [10, 11] [_, S ++ [.cells (encS (.mk 4 [.mk k1 i1])).cells, .cells (encV (.mk 0 0 s1 [] w1)).cells, .cells (encV (.mk 0 0 s2 [] w2)).cells, .cells [.int .u64 0, .int .u64 0, .lst0, .lst0, .lst0], .cells [.int .u64 0, .int .u64 0, .lst none 1 ((bothX s1 s2).map encX), .lst0, .lst (some (S.length + 5)) 5 (encVs (mpV (.mk k1 i1) s1 w1 s2 w2 ((bothX s1 s2).take i)))], .row 30 5 (mpV (.mk k1 i1) s1 w1 s2 w2 ((bothX s1 s2).take i)).length, .orow 30 5 1 (encV (.mk xn xm xs xc xw)).cells, .orow 30 5 1 (encV (.mk yn ym ys yc yw)).cells, .cells [.int .u64 0, .int .u64 0, .lst0, .lst0, .lst0]], S ++ [.cells (encS (.mk 4 [.mk k1 i1])).cells, .cells (encV (.mk 0 0 s1 [] w1)).cells, .cells (encV (.mk 0 0 s2 [] w2)).cells, .cells [.int .u64 0, .int .u64 0, .lst0, .lst0, .lst0], .cells [.int .u64 0, .int .u64 0, .lst none 1 ((bothX s1 s2).map encX), .lst0, .lst (some (S.length + 5)) 5 (encVs (mpV (.mk k1 i1) s1 w1 s2 w2 ((bothX s1 s2).take i)))], .row 30 5 (mpV (.mk k1 i1) s1 w1 s2 w2 ((bothX s1 s2).take i)).length, .orow 30 5 1 (encV (.mk xn xm xs xc xw)).cells, .orow 30 5 1 (encV (.mk yn ym ys yc yw)).cells, .cells (encV (.mk zn zm zs zc zw)).cells]] mo (by decide) V V V V ?_
    refine zV V V (.cons (zJ V V zR2 Vv) (.cons (zJ V V zR2 Vv) (.nil))) <| zV V V (.cons (zE0 V V V ta22 V Vv) (.cons (zE0 V V V ta22 V Vv) (.nil))) <| zV V V (.cons (zG V zJ0 sz24 (by decide) V V V (show _ = some (encS (.mk k1 i1)) from V) Vv) (.cons (zG V zJ0 sz24 (by decide) V V V (show _ = some (encS (.mk k1 i1)) from V) Vv) (.nil))) ?_
    refine zV V V (.cons (zI V V ta24 V Vv) (.cons (zI V V ta24 V Vv) (.nil))) ?_
    refine zV V V (.cons (op_load_orf (id := S.length + 6) V V (by rw [getElem?_own]; rfl) ta30 V Vv) (.cons (op_load_orf (id := S.length + 6) V V (by rw [getElem?_own]; rfl) ta30 V Vv) (.nil))) ?_
    refine zV V V (.cons (op_load_orf (id := S.length + 7) V V (by rw [getElem?_own]; rfl) ta30 V Vv) (.cons (op_load_orf (id := S.length + 7) V V (by rw [getElem?_own]; rfl) ta30 V Vv) (.nil))) ?_
    refine zV V V (.cons (zC1 V V V co30 (hz _)) (.cons (zC1 V V V co30 (hz _)) (.nil))) <| zV V V (.cons (zS V V Vv) (.cons (zS V V Vv) (.nil))) <| zV V V (.cons (zF0 V V V Vv) (.cons (zF0 V V V Vv) (.nil))) <| zV V V (.cons (zF0 V V V Vv) (.cons (zF0 V V V Vv) (.cons (zF0 V V V Vv) (.nil)))) <| zL1 V V V V (zL0 V zm30 V V Vv) <| zL1 V V V V (zG0 V V V V sz30 V V (zA V) V Vv) <| dO V V V (zB1 V V Vv) <| zK0 <| qR V <| qF V V V zZ0 <| qL V V V V ta28 V <| qL V V V V ta30 V <| qO V <| zA1 V zE el30 V V (by decide) (by decide) V V ?_
    refine qO V <| zG2 V zE el30 V V V (zO _) (by simp only [zW, List.length_nil]; omega) (by simp only [zW, List.length_nil]; omega) V ?_
    refine qM V V V <| qM V V V ?_
    refine zD0 (fun h90 => ?_) (fun h90 => ?_)
    ·
     refine qM V V V <| qP V V V V <| qF V V V zZ0 <| qO V <| zG0 V V V V sz28 V V (zA V) V <| qA V V V <| qN <| qR V <| qM V V V <| qO V <| zO0 V V V V <| qA V V V <| qN ?_
     refine ⟨i + 1, _, by omega, by omega, by rw [mpV_take hs, ez, encVs_append, zM]; rfl, .same (.same (.same (.same (.new (clo_out (by simp)) (.new trivial .nil))))), (.old V V (.old V V (.old V V (.old V V (.old V V (.nil)))))), (.new' V (by rw [mpO_take hs, ← Bool.and_assoc, ex, ey, h90]; rfl) (.bool _) (.new' V (zK1 hlt (by simp only [maxLen]; omega)) (.int _ _) (.nil)))⟩
    ·
     refine qS V <| qP V V V V <| qF V V V zZ0 <| qO V <| zG0 V V V V sz28 V V (zA V) V <| qA V V V <| qN <| qR V <| qM V V V <| qO V <| zO0 V V V V <| qA V V V <| qN ?_
     refine ⟨i + 1, _, by omega, by omega, by rw [mpV_take hs, ez, encVs_append, zM]; rfl, .same (.same (.same (.same (.new (clo_out (by simp)) (.new trivial .nil))))), (.old V V (.old V V (.old V V (.old V V (.old V V (.nil)))))), (.new' V (by rw [mpO_take hs, ← Bool.and_assoc, ex, ey, h90]; rfl) (.bool _) (.new' V (zK1 hlt (by simp only [maxLen]; omega)) (.int _ _) (.nil)))⟩
 ·
  have hge : i = (bothX s1 s2).length := by simp at h31; omega
  refine zF1 <| zB <| qR V <| qL V V V V ta30 V <| qM V V V <| qO V <| zG0 V V V V sz30 V V (zA V) V <| qA V V V <| qN <| zL ?_
  rw [hge, List.take_length]
  exact zR1 (.inr V) Tryz.results53 V V ta30 V (.agg (.cons (.refl _) (.cons (.refl _) (.cons (.refl _) (.cons (.nil 1) (.cons (.view _ _ _) .nil)))))) (zT1 _ (.mk 0 0 (bothX s1 s2) [] (mpV (.mk k1 i1) s1 w1 s2 w2 (bothX s1 s2)))) V (.refl _) (.bool _) Vv
end Go.Proofs.YtnfcnpdpfgcchaaGreat
namespace Go.MV
open Go Go.RowKit
section
section
variable {P : Program} {rd : Option Nat} {N n : Nat} {c : Code} {Q : Exit → Env → MS → Prop} {env : Env} {S L L' : MS}
theorem mwp_cellsub (k : Nat) {l l' : List MV} (hk : L[k]? = some (.cells l)) (hs : Subs l l') (hL : L.set k (.cells l') = L') (h : mwp P rd N n c Q env (S ++ L')) : mwp P rd N n c Q env (S ++ L) := by
 subst hL
 refine zO5 (fun g w tmps hr he => ?_) h
 refine ⟨g, ?_, he, .refl _ _ _, fun _ h => h⟩
 rw [← zE3]
 exact hr.recell (by rw [getElem?_own]; exact hk) fun us hus => hs.rds hus
theorem mwp_owfreezeL (k i p : Nat) {ty sz m : Nat} {cs l xs : List MV} (hk : L[k]? = some (.cells cs)) (hi : cs[i]? = some (.ow (S.length + p) sz m)) (hp : L[p]? = some (.orow ty sz m l)) (hxs : flat xs = l) (hn : xs.length = m) (hsz : ∀ x ∈ xs, x.cells.length = sz) (h1 : ∀ y ∈ l, y.one = true)
  (hL : (L.set p (.row ty sz m)).set k (.cells (cs.set i (.lst (some (S.length + p)) sz xs))) = L') (h : mwp P rd N n c Q env (S ++ L')) : mwp P rd N n c Q env (S ++ L) := by
 subst hL
 refine mwp_owfreeze (S.length + k) i (by rw [getElem?_own]; exact hk) hi (by rw [getElem?_own]; exact hp) hxs hn hsz h1 ?_
 rw [zE3, zE3]
 exact h
end
section
variable {P : Program} {rd : Option Nat} {o : Oper} {env : Env} {S L L' : MS} {K : MV → MS → Prop}
theorem op_append0_owL {t e sz bytes k : Nat} {x y : Operand} {tok : Option Nat} {ys : List MV} (ho : o.op = .call { callee := .builtin .append, args := #[x, y], argTypes := #[t, t] }) (hu : P.underlying t = some (.slice e)) (he : elemOk P e sz bytes = true)
  (hx : evo env x = some .lst0) (hy : evo env y = some (.lst tok sz ys)) (hb : ys.length * bytes ≤ 140737488355328) (hml : ys.length ≤ 4611686018427387904) (hk : L.length = k) (hL : L ++ [.orow e sz ys.length (flat ys)] = L')
  (hK : K (.ow (S.length + k) sz ys.length) (S ++ L')) : OpWp P rd o env (S ++ L) K := by
 subst hk hL
 refine op_append0_ow ho hu he hx hy hb hml ?_
 rw [zM, zZ]
 exact hK
theorem op_append_owL {t e sz bytes k n : Nat} {x y : Operand} {tok : Option Nat} {l ys : List MV} (ho : o.op = .call { callee := .builtin .append, args := #[x, y], argTypes := #[t, t] }) (hu : P.underlying t = some (.slice e)) (he : elemOk P e sz bytes = true)
  (hx : evo env x = some (.ow (S.length + k) sz n)) (hy : evo env y = some (.lst tok sz ys)) (hσ : L[k]? = some (.orow e sz n l)) (hb : (n + ys.length) * bytes ≤ 140737488355328) (hml : n + ys.length ≤ 4611686018427387904)
  (hL : L.set k (.orow e sz (n + ys.length) (l ++ flat ys)) = L') (hK : K (.ow (S.length + k) sz (n + ys.length)) (S ++ L')) : OpWp P rd o env (S ++ L) K :=
 op_append_ow ho hu he hx hy (by rw [getElem?_own]; exact hσ) hb hml (by rw [zE3, hL]; exact hK)
theorem op_indexAddr_owL {t e : TypeId} {x y : Operand} {p sz n i : Nat} {k : IntKind} {m : Int} {l : List MV} (ho : o.op = .indexAddr t x y) (hu : P.underlying t = some (.slice e)) (hs : szOf P e = some sz) (hx : evo env x = some (.ow (S.length + p) sz n)) (hy : evo env y = some (.int k m)) (hm : m = (i : Int)) (hi : i < n)
  (hσ : L[p]? = some (.orow e sz n l)) (h : K (.orf (S.length + p) n (i * sz)) (S ++ L)) : OpWp P rd o env (S ++ L) K :=
 op_indexAddr_ow ho hu hs hx hy hm hi (by rw [getElem?_own]; exact hσ) h
theorem op_load_orfL {t ty : TypeId} {x : Operand} {p sz n off : Nat} {l : List MV} {ta : Option Nat} {m : MV} (ho : o.op = .load t x) (hx : evo env x = some (.orf (S.length + p) n off)) (hσ : L[p]? = some (.orow ty sz n l)) (ht : tyAgg P t = some ta) (hm : loadMV ta l off = some m) (h : K m (S ++ L)) : OpWp P rd o env (S ++ L) K :=
 op_load_orf ho hx (by rw [getElem?_own]; exact hσ) ht hm h
theorem op_store_orfL {t ty : TypeId} {x y : Operand} {p sz n off : Nat} {l : List MV} {m : MV} {k : Nat} (ho : o.op = .store t x y) (hx : evo env x = some (.orf (S.length + p) n off)) (hy : evo env y = some m) (hσ : L[p]? = some (.orow ty sz n l)) (hk : szOf P t = some k) (hm : m.cells.length = k)
  (h1 : m.cells.all MV.one = true) (hle : off + k ≤ l.length) (hL : L.set p (.orow ty sz n (setMany l off m.cells)) = L') (h : K (.tup []) (S ++ L')) : OpWp P rd o env (S ++ L) K :=
 zI6 ho hx hy (by rw [getElem?_own]; exact hσ) hk hm h1 hle (by rw [zE3, hL]; exact h)
end
theorem flat_get {sz : Nat} {xs : List MV} {i : Nat} {x : MV} (h : ∀ y ∈ xs, y.cells.length = sz) (hx : xs[i]? = some x) : ((flat xs).drop (i * sz)).take sz = x.cells ∧ i * sz + sz ≤ (flat xs).length := by
 have hi := (zH.1 hx).1
 have hl := zB6 h
 have hle : i * sz + sz ≤ (flat xs).length := by
  rw [hl]
  have : (i + 1) * sz ≤ xs.length * sz := Nat.mul_le_mul_right _ hi
  rw [Nat.add_mul, Nat.one_mul] at this
  exact this
 refine ⟨?_, hle⟩
 refine List.ext_getElem? fun j => ?_
 rw [List.getElem?_take]
 by_cases hj : j < sz
 ·rw [if_pos hj, List.getElem?_drop, flat_at h hx j hj]
 ·rw [if_neg hj, List.getElem?_eq_none (by rw [h x (zC0 hx)]; omega)]
theorem load_flat {sz : Nat} {xs : List MV} {i : Nat} {cs : List MV} (h : ∀ y ∈ xs, y.cells.length = sz) (hx : xs[i]? = some (.agg cs)) : loadMV (some sz) (flat xs) (i * sz) = some (.agg cs) := by
 obtain ⟨h1, h2⟩ := flat_get h hx
 unfold loadMV
 show (if i * sz + sz ≤ (flat xs).length then some (MV.agg (((flat xs).drop (i * sz)).take sz)) else none) = _
 rw [if_pos h2, h1]
 rfl
theorem set_flat {sz : Nat} : ∀ {xs : List MV} {i : Nat} {x : MV}, (∀ y ∈ xs, y.cells.length = sz) → x.cells.length = sz → i < xs.length → setMany (flat xs) (i * sz) x.cells = flat (xs.set i x)
 | y :: xs, 0, x, h, hx, _ => by
  have hy := h y (zM0 ..)
  unfold setMany
  rw [Nat.zero_mul, List.set_cons_zero, zA4, zA4, hx, Nat.zero_add, List.take_zero, List.nil_append, ← hy, List.drop_left]
 | y :: xs, i + 1, x, h, hx, hi => by
  have hy := h y (zM0 ..)
  have ih := set_flat (xs := xs) (i := i) (x := x) (fun z hz => h z (zI0 _ hz)) hx (by simpa using hi)
  rw [List.set_cons_succ, zA4, zA4, ← ih]
  unfold setMany
  have e1 : (i + 1) * sz = y.cells.length + i * sz := by rw [hy, Nat.add_mul, Nat.one_mul, Nat.add_comm]
  rw [e1, List.take_append, List.take_of_length_le (by omega), show y.cells.length + i * sz - y.cells.length = i * sz by omega]
  rw [show y.cells.length + i * sz + x.cells.length = y.cells.length + (i * sz + x.cells.length) by omega, List.drop_append, List.drop_of_length_le (by omega), show y.cells.length + (i * sz + x.cells.length) - y.cells.length = i * sz + x.cells.length by omega]
  simp
section
variable {a b c d e f g : MObj} {R : MS} {o o' : MObj} {p : Nat}
theorem end7 : (a :: b :: c :: d :: e :: f :: g :: (R ++ [o]))[R.length + 7]? = some o := by
 show (R ++ [o])[R.length]? = _
 simp
theorem set7 : (a :: b :: c :: d :: e :: f :: g :: (R ++ [o])).set (R.length + 7) o' = a :: b :: c :: d :: e :: f :: g :: (R ++ [o']) := by
 show a :: b :: c :: d :: e :: f :: g :: ((R ++ [o]).set R.length o') = _
 simp
theorem get7 (h : R[p]? = some o) : (a :: b :: c :: d :: e :: f :: g :: R)[p + 7]? = some o := h
theorem get7a (h : R[p]? = some o) : (a :: b :: c :: d :: e :: f :: g :: (R ++ [o']))[p + 7]? = some o := by
 show (R ++ [o'])[p]? = _
 rw [List.getElem?_append_left (zH.1 h).1]
 exact h
end
end
end Go.MV
namespace Go.Proofs.YtnfcnpdpfgcchaaGreat
open Go Go.MV
noncomputable def stL (t : Sch) (cs : List (List Tk)) (L : List CE) (i : Nat) : List CE := (L.take i).foldl (stepC (jn t) cs) []
noncomputable def okL (t : Sch) (cs : List (List Tk)) (L : List CE) (i : Nat) : Bool := okC (jn t) (okJ t) cs [] (L.take i)
theorem stL_succ {t : Sch} {cs : List (List Tk)} {L : List CE} {i : Nat} {e : CE} (h : L[i]? = some e) : stL t cs L (i + 1) = stepC (jn t) cs (stL t cs L i) e := by
 unfold stL
 rw [List.take_add_one, h, Option.toList_some, List.foldl_append]; rfl
theorem okL_succ {t : Sch} {cs : List (List Tk)} {L : List CE} {i : Nat} {e : CE} (h : L[i]? = some e) : okL t cs L (i + 1) = (okL t cs L i && okC1 (okJ t) cs (stL t cs L i) e) := by
 unfold okL stL
 rw [List.take_add_one, h, Option.toList_some, okC_append]
 congr 1
 rw [okC, okC, Bool.and_true]
theorem stL_srt (t : Sch) (cs : List (List Tk)) (L : List CE) (i : Nat) : SrtK byTicksF (stL t cs L i) := fold_srt _ _ List.Pairwise.nil
theorem step_len {f : Val → Val → Val} {cs : List (List Tk)} {E : List CE} {e : CE} : (stepC f cs E e).length ≤ E.length + 1 := by
 unfold stepC
 split
 ·omega
 ·split
  ·simp
  ·unfold insC
   have h := congrArg List.length (List.takeWhile_append_dropWhile (p := fun x : CE => aheadF x.1 e.1) (l := E))
   simp only [zM, zW] at h ⊢
   omega
theorem fold_len {f : Val → Val → Val} {cs : List (List Tk)} : ∀ (L E : List CE), (L.foldl (stepC f cs) E).length ≤ E.length + L.length
 | [], E => by simp
 | e :: L, E => by
  have h1 := fold_len (f := f) (cs := cs) L (stepC f cs E e)
  have h2 := step_len (f := f) (cs := cs) (E := E) (e := e)
  rw [List.foldl_cons, zW]; omega
theorem stL_len (t : Sch) (cs : List (List Tk)) (L : List CE) {i : Nat} (h : i ≤ L.length) : (stL t cs L i).length ≤ i := by
 have := fold_len (f := jn t) (cs := cs) (L.take i) []
 rw [List.length_take] at this
 simp at this
 unfold stL
 omega
def anyR (c : List Tk) (l : List (List Tk)) : Bool := l.any fun o => decide (rcmpF c o = -1)
theorem anyR_take {c : List Tk} {l : List (List Tk)} {k : Nat} {o : List Tk} (h : l[k]? = some o) : anyR c (l.take (k + 1)) = (anyR c (l.take k) || decide (rcmpF c o = -1)) := by
 unfold anyR
 rw [List.take_add_one, h, Option.toList_some, List.any_append]; simp
theorem anyR_below {c : List Tk} {cs : List (List Tk)} (h : ∀ o ∈ cs, rcmpF c o = cmpF c o) : anyR c cs = below cs c := by
 unfold anyR below
 rw [zF, List.any_eq_true, List.any_eq_true]
 constructor
 ·rintro ⟨o, ho, hc⟩; exact ⟨o, ho, by rw [← h o ho]; exact hc⟩
 ·rintro ⟨o, ho, hc⟩; exact ⟨o, ho, by rw [h o ho]; exact hc⟩
def twF (C : List (List Tk)) (c : List Tk) : Nat → Int
 | 0 => -1
 | k + 1 => if C.getD k [] = c then (k : Int) else twF C c k
theorem tw_cases (C : List (List Tk)) (c : List Tk) : ∀ k, k ≤ C.length → (twF C c k = -1 ∧ ∀ j, j < k → C.getD j [] ≠ c) ∨ ∃ q, q < k ∧ twF C c k = ((q : Nat) : Int) ∧ C[q]? = some c
 | 0, _ => .inl ⟨rfl, fun j hj => by omega⟩
 | k + 1, h => by
  rw [twF]
  by_cases e : C.getD k [] = c
  ·rw [if_pos e]
   refine .inr ⟨k, by omega, rfl, ?_⟩
   rw [zD (by omega)]
   simpa [zD (show k < C.length by omega)] using e
  ·rw [if_neg e]
   rcases tw_cases C c k (by omega) with ⟨h1, h2⟩ | ⟨q, h1, h2, h3⟩
   ·refine .inl ⟨h1, fun j hj => ?_⟩
    rcases Nat.lt_or_eq_of_le (Nat.le_of_lt_succ hj) with hlt | heq
    ·exact h2 j hlt
    ·subst heq; exact e
   ·exact .inr ⟨q, by omega, h2, h3⟩
theorem tw_not {C : List (List Tk)} {c : List Tk} (h : ∀ j, j < C.length → C.getD j [] ≠ c) : c ∉ C := fun hm => by
 obtain ⟨j, hj, e⟩ := List.mem_iff_getElem.1 hm
 exact h j hj (by simp [hj, e])
theorem step_below {f : Val → Val → Val} {cs : List (List Tk)} {E : List CE} {e : CE} (h : below cs e.1 = true) : stepC f cs E e = E := if_pos h
theorem map_set {f : Val → Val → Val} {c : List Tk} {u : Val} : ∀ {E : List CE}, SrtK byTicksF E → ∀ {q : Nat} {v : Val}, E[q]? = some (c, v) → (E.map fun x => if x.1 = c then (x.1, f x.2 u) else x) = E.set q (c, f v u)
 | [], _, q, v, h => by simp at h
 | x :: E, hs, 0, v, h => by
  have h : x = (c, v) := by simpa using h
  subst h
  rw [List.map_cons, List.set_cons_zero, if_pos rfl]
  congr 1
  refine (List.map_congr_left fun y hy => ?_).trans (List.map_id E)
  have hne : ¬ y.1 = c := fun e => ordT.irr c (by have := (zY1.1 hs).1 y hy; rwa [e] at this)
  rw [if_neg hne]; rfl
 | x :: E, hs, q + 1, v, h => by
  have h : E[q]? = some (c, v) := by simpa using h
  rw [List.map_cons, List.set_cons_succ, map_set (zY1.1 hs).2 h]
  have hne : ¬ x.1 = c := fun e => ordT.irr c (by have := (zY1.1 hs).1 _ (zC0 h); rwa [e] at this)
  rw [if_neg hne]
theorem step_twin {f : Val → Val → Val} {cs : List (List Tk)} {E : List CE} {e : CE} {q : Nat} {v : Val} (hs : SrtK byTicksF E) (h : ¬ below cs e.1 = true) (hq : E[q]? = some (e.1, v)) : stepC f cs E e = E.set q (e.1, f v e.2) := by
 unfold stepC
 rw [if_neg h, if_pos (List.mem_map.2 ⟨_, zC0 hq, rfl⟩)]
 exact map_set hs hq
theorem tw_take : ∀ {E : List CE} {c : List Tk} {k : Nat}, (∀ j, j < k → ∀ x, E[j]? = some x → aheadF x.1 c = true) → k ≤ E.length → (∀ x, E[k]? = some x → aheadF x.1 c = false) → E.takeWhile (fun x => aheadF x.1 c) = E.take k ∧ E.dropWhile (fun x => aheadF x.1 c) = E.drop k
 | [], c, k, _, h, _ => by simp
 | x :: E, c, 0, _, _, h => by
  have := h x rfl
  simp [this]
 | x :: E, c, k + 1, h1, h2, h3 => by
  have hx := h1 0 (by omega) x rfl
  obtain ⟨a, b⟩ := tw_take (E := E) (c := c) (k := k) (fun j hj y hy => h1 (j + 1) (by omega) y (by simpa using hy)) (by simpa using h2) (fun y hy => h3 y (by simpa using hy))
  rw [List.takeWhile_cons, List.dropWhile_cons, hx, a, b]
  simp
theorem step_ins {f : Val → Val → Val} {cs : List (List Tk)} {E : List CE} {e : CE} {k : Nat} (h : ¬ below cs e.1 = true) (hn : e.1 ∉ E.map (·.1)) (h1 : ∀ j, j < k → ∀ x, E[j]? = some x → aheadF x.1 e.1 = true) (h2 : k ≤ E.length) (h3 : ∀ x, E[k]? = some x → aheadF x.1 e.1 = false) : stepC f cs E e = E.take k ++ e :: E.drop k := by
 unfold stepC insC
 obtain ⟨a, b⟩ := tw_take h1 h2 h3
 rw [if_neg h, if_neg hn, a, b]
theorem encVs_one {l : List Val} : ∀ y ∈ flat (encVs l), y.one = true := by
 induction l with
 | nil => intro y hy; simp [encVs, flat] at hy
 | cons x l ih =>
  intro y hy
  obtain ⟨n, m, s, c, w⟩ := x
  rw [encVs, zA4, zJ1] at hy
  rcases hy with hy | hy
  ·simp [encV, MV.cells] at hy
   rcases hy with rfl | rfl | rfl | rfl | rfl <;> rfl
  ·exact ih y hy
theorem encVs_five {l : List Val} : ∀ y ∈ encVs l, y.cells.length = 5 := fun y hy => by
 rw [zY3] at hy
 obtain ⟨v, _, rfl⟩ := List.mem_map.1 hy
 exact zU2 v
theorem _root_.zA6 : type_of% @encVs_five := @encVs_five
theorem nil_subs {n : Nat} : Subs [.int .u64 0, .int .u64 0, .lst0, .lst0, .ow n 5 0] [.int .u64 0, .int .u64 0, .lst0, .lst none 1 (([] : List (List Tk)).map encC), .ow n 5 0] := .cons (.refl _) (.cons (.refl _) (.cons (.refl _) (.cons (.nil 1) (.cons (.refl _) .nil))))
theorem encVs_set : ∀ (l : List Val) (q : Nat) (v : Val), encVs (l.set q v) = (encVs l).set q (encV v) := fun l q v => by rw [zY3, zY3, List.map_set]
theorem rCauses_spec (k1 : Int) (i1 : List Sch) (c1 c2 : List (List Tk)) (w1 w2 : List Val) (l1 : c1.length = w1.length) (l2 : c2.length = w2.length) (n1 : c1.length ≤ 40) (n2 : c2.length ≤ 40) (hcmp : ∀ c ∈ (c1 ++ c2), ∀ o ∈ (c1 ++ c2), rcmpF c o = cmpF c o) (hright : ∀ i e v, ((c1 ++ c2).zip (w1 ++ w2))[i]? = some (e, v) → (okV v ∧ isVF (Sch.mk k1 i1) v = true) ∧ ∀ u, look (stL (Sch.mk k1 i1) (c1 ++ c2) ((c1 ++ c2).zip (w1 ++ w2)) i) e = some u → okV u ∧ isVF (Sch.mk k1 i1) u = true) (ih : ∀ x y : Val, okV x → okV y → isVF (Sch.mk k1 i1) x = true → isVF (Sch.mk k1 i1) y = true → ∀ S : MS, MCalls Tryz.prog 30 [encS (Sch.mk k1 i1), encV x, encV y] S fun v σ' => v = .tup [encV (jn (Sch.mk k1 i1) x y), .bool (okJ (Sch.mk k1 i1) x y)] ∧ σ' = S) (S : MS) : MCalls Tryz.prog 57 [encS (.mk 8 [.mk k1 i1]), encV (.mk 0 0 [] c1 w1), encV (.mk 0 0 [] c2 w2)] S fun v σ' => v = .tup [encV (cauL (stL (Sch.mk k1 i1) (c1 ++ c2) ((c1 ++ c2).zip (w1 ++ w2)) (c1 ++ c2).length)), .bool ((okL (Sch.mk k1 i1) (c1 ++ c2) ((c1 ++ c2).zip (w1 ++ w2)) (c1 ++ c2).length) && decide ((stL (Sch.mk k1 i1) (c1 ++ c2) ((c1 ++ c2).zip (w1 ++ w2)) (c1 ++ c2).length).length ≤ 40))] ∧ σ' = S := by
 refine zU Tryz.func57 V Tryz.ntmps57 (zA V) ?_
 have hcl1 : (c1 ++ c2).length = c1.length + c2.length := zM
 have hwl1 : (w1 ++ w2).length = w1.length + w2.length := zM
 have hwl : (w1 ++ w2).length = (c1 ++ c2).length := by omega
 refine zB <| qR V <| qB V V V V V <| qB V V V V V <| qB V V V V V <| qO V <| zL0 V zm30 V V <| qA V V V <| qN <| zB ?_
 refine zV0 [2, 5] [_, S ++ [.cells (encS (.mk 8 [.mk k1 i1])).cells, .cells (encV (.mk 0 0 [] c1 w1)).cells, .cells (encV (.mk 0 0 [] c2 w2)).cells, .cells [.int .u64 0, .int .u64 0, .lst0, .lst0, .lst0], .row 55 1 (c1.map encC).length], S ++ [.cells (encS (.mk 8 [.mk k1 i1])).cells, .cells (encV (.mk 0 0 [] c1 w1)).cells, .cells (encV (.mk 0 0 [] c2 w2)).cells, .cells [.int .u64 0, .int .u64 0, .lst0, .lst0, .lst0], .row 55 1 ((c1.map encC).length + (c2.map encC).length)]] mo (by decide) V V V V ?_
 refine zV V V (.cons (zJ V V zM1 Vv) (.cons (zJ V V zM1 Vv) (.cons (zJ V V zM1 Vv) (.nil)))) <| dO V V V (zE0 V V V ta27 V Vv) <| zL1 V V V V (zB5 V zN el55 V V (by first | omega | (simp only [zC, zO]; omega)) (by first | omega | (simp only [zC, zO]; omega)) V V Vv) ?_
 refine zV V V (.cons (zJ V V zM1 Vv) (.cons (zJ V V zM1 Vv) (.cons (zJ V V zM1 Vv) (.nil)))) <| zV V V (.cons (zE0 V V V ta27 V Vv) (.cons (zE0 V V V ta27 V Vv) (.nil))) <| zL1 V V V V (zG2 V zN el55 V V V (by simp) (by first | omega | (simp only [zC, zO]; omega)) (by first | omega | (simp only [zC, zO]; omega)) V Vv) ?_
 refine dO V V V (zB1 V V Vv) <| zK0 <| zB ?_
 refine zV0 [2, 5] [_, S ++ [.cells (encS (.mk 8 [.mk k1 i1])).cells, .cells (encV (.mk 0 0 [] c1 w1)).cells, .cells (encV (.mk 0 0 [] c2 w2)).cells, .cells [.int .u64 0, .int .u64 0, .lst0, .lst0, .lst0], .row 55 1 ((c1.map encC).length + (c2.map encC).length), .row 30 5 (encVs w1).length], S ++ [.cells (encS (.mk 8 [.mk k1 i1])).cells, .cells (encV (.mk 0 0 [] c1 w1)).cells, .cells (encV (.mk 0 0 [] c2 w2)).cells, .cells [.int .u64 0, .int .u64 0, .lst0, .lst0, .lst0], .row 55 1 ((c1.map encC).length + (c2.map encC).length), .row 30 5 ((encVs w1).length + (encVs w2).length)]] mo (by decide) V V V V ?_
 refine zV V V (.cons (zJ V V zZ0 Vv) (.cons (zJ V V zZ0 Vv) (.cons (zJ V V zZ0 Vv) (.nil)))) <| dO V V V (zE0 V V V ta28 V Vv) <| zL1 V V V V (zB5 V zE el30 V V (by first | omega | (simp only [zC, zO]; omega)) (by first | omega | (simp only [zC, zO]; omega)) V V Vv) ?_
 refine zV V V (.cons (zJ V V zZ0 Vv) (.cons (zJ V V zZ0 Vv) (.cons (zJ V V zZ0 Vv) (.nil)))) <| zV V V (.cons (zE0 V V V ta28 V Vv) (.cons (zE0 V V V ta28 V Vv) (.nil))) <| zL1 V V V V (zG2 V zE el30 V V V (by simp) (by first | omega | (simp only [zC, zO]; omega)) (by first | omega | (simp only [zC, zO]; omega)) V Vv) ?_
 refine dO V V V (zB1 V V Vv) <| zK0 <| zB <| qR V <| qO V <| zZ1 V zQ0 zm30 .nil (by kernel_rfl) ?_
 refine qO V <| zL0 V zm30 V V <| qO V <| zG0 V V V V sz30 V V (zA V) V <| qA V V V <| qN <| zB <| zB <| qR V <| qA V V V <| qN <| zB0 <| mwp_cellow 6 4 30 5 V V V V <| mwp_cellsub 6 V nil_subs V ?_
 refine zQ1 (α := Nat × MS × Nat) [(3, _), (6, _), (10, _)] (fun x => [(8, .lst (some (S.length + 4)) 1 ((c1 ++ c2).map encC)), (9, .lst (some (S.length + 5)) 5 (encVs (w1 ++ w2))), (11, .bool (okL (Sch.mk k1 i1) (c1 ++ c2) ((c1 ++ c2).zip (w1 ++ w2)) x.1)), (12, .int .i64 (x.1 : Int))]) (fun x => (.cells (encS (.mk 8 [.mk k1 i1])).cells :: .cells (encV (.mk 0 0 [] c1 w1)).cells :: .cells (encV (.mk 0 0 [] c2 w2)).cells :: .cells [.int .u64 0, .int .u64 0, .lst0, .lst0, .lst0] :: .row 55 1 ((c1.map encC).length + (c2.map encC).length) :: .row 30 5 ((encVs w1).length + (encVs w2).length) :: .cells [.int .u64 0, .int .u64 0, .lst0, .lst none 1 (((stL (Sch.mk k1 i1) (c1 ++ c2) ((c1 ++ c2).zip (w1 ++ w2)) x.1).map (·.1)).map encC), .ow (S.length + (x.2.2 + 7)) 5 (stL (Sch.mk k1 i1) (c1 ++ c2) ((c1 ++ c2).zip (w1 ++ w2)) x.1).length] :: x.2.1)) (fun x => x.1 ≤ (c1 ++ c2).length ∧ x.2.1[x.2.2]? = some (MObj.orow 30 5 (stL (Sch.mk k1 i1) (c1 ++ c2) ((c1 ++ c2).zip (w1 ++ w2)) x.1).length (flat (encVs ((stL (Sch.mk k1 i1) (c1 ++ c2) ((c1 ++ c2).zip (w1 ++ w2)) x.1).map (·.2)))))) (fun x => (c1 ++ c2).length - x.1) (⟨0, [.orow 30 5 0 []], 0⟩) (.keep V (.keep V (.keep V (.nil)))) (.eq V (by rw [List.map_append]; rfl) (.eq V (by rw [encVs_append]; rfl) (.keep V (.keep V (.nil))))) (⟨by simp, rfl⟩) (V) ?_
 rintro ⟨i, R, p⟩ ⟨hi, hR⟩
 dsimp only at hi hR ⊢
 have hsl := stL_len (Sch.mk k1 i1) (c1 ++ c2) ((c1 ++ c2).zip (w1 ++ w2)) (i := i) (by rw [List.length_zip, hwl, Nat.min_self]; exact hi)
 have hcl_ : ((stL (Sch.mk k1 i1) (c1 ++ c2) ((c1 ++ c2).zip (w1 ++ w2)) i).map (·.1)).length = (stL (Sch.mk k1 i1) (c1 ++ c2) ((c1 ++ c2).zip (w1 ++ w2)) i).length := zC ..
 refine zB <| zB <| qR V <| qM V V V <| qM V V V <| qE V V zN V <| qC V V V V V <| qN ?_
 refine zK V (fun h36 => ?_) (fun h36 => ?_)
 ·
  have hlt : i < (c1 ++ c2).length := by rw [zC] at h36; have := zO1 h36; omega
  obtain ⟨ci, hs⟩ : ∃ q, (c1 ++ c2)[i]? = some q := ⟨_, zD (by omega)⟩
  obtain ⟨⟨vn, vm, vs_, vc, vw⟩, hs3⟩ : ∃ q, (w1 ++ w2)[i]? = some q := ⟨_, zD (by omega)⟩
  have hsL : ((c1 ++ c2).zip (w1 ++ w2))[i]? = some (ci, (Val.mk vn vm vs_ vc vw)) := List.getElem?_zip_eq_some.2 ⟨hs, hs3⟩
  have hrt := hright i ci (Val.mk vn vm vs_ vc vw) hsL
  have hcm := hcmp ci (zC0 hs)
  refine zY <| zB <| zB0 <| zB <| qR V <| qA V V V <| qA V V V <| qN <| zB <| zB <| qR V <| qA V V V <| qN <| zB0 ?_
  refine zQ1 (α := Nat) [(3, _), (6, _), (8, _), (9, _), (10, _), (11, _), (12, _), (14, _)] (fun k => [(13, .bool (anyR ci ((c1 ++ c2).take k))), (15, .int .i64 (k : Int))]) (fun k => (.cells (encS (.mk 8 [.mk k1 i1])).cells :: .cells (encV (.mk 0 0 [] c1 w1)).cells :: .cells (encV (.mk 0 0 [] c2 w2)).cells :: .cells [.int .u64 0, .int .u64 0, .lst0, .lst0, .lst0] :: .row 55 1 ((c1.map encC).length + (c2.map encC).length) :: .row 30 5 ((encVs w1).length + (encVs w2).length) :: .cells [.int .u64 0, .int .u64 0, .lst0, .lst none 1 (((stL (Sch.mk k1 i1) (c1 ++ c2) ((c1 ++ c2).zip (w1 ++ w2)) i).map (·.1)).map encC), .ow (S.length + (p + 7)) 5 (stL (Sch.mk k1 i1) (c1 ++ c2) ((c1 ++ c2).zip (w1 ++ w2)) i).length] :: R)) (fun k => k ≤ (c1 ++ c2).length) (fun k => (c1 ++ c2).length - k) (0) (.keep V (.keep V (.keep V (.keep V (.keep V (.keep V (.keep V (.keep V (.nil))))))))) (.keep V (.keep V (.nil))) (by omega) (V) ?_
  rintro k hk
  refine zB <| zB <| qR V <| qM V V V <| qM V V V <| qE V V zN V <| qC V V V V V <| qN ?_
  refine zK V (fun h42 => ?_) (fun h42 => ?_)
  ·
   have hlt2 : k < (c1 ++ c2).length := by rw [zC] at h42; have := zO1 h42; omega
   obtain ⟨o, hs2⟩ : ∃ q, (c1 ++ c2)[k]? = some q := ⟨_, zD hlt2⟩
   refine zY <| zB <| zB0 ?_
   refine zV0 [] [_] mo (by decide) V V V V ?_
   refine dO V V V (zS V V Vv) <| dO V V V (zS V V Vv) ?_
   refine zF2 (fun h46 => ?_) (fun h46 => ?_)
   ·
    refine dS V V <| dS V V <| dS V V <| dS V V <| dS V V <| dS V V <| dS V V <| dS V V <| dS V V <| dS V V <| dO V V V (zD1 V V V Vv) <| dO V V V (zB1 V V Vv) <| zK0 <| qR V <| qM V V V <| qO V <| zO0 V V V V <| qA V V V <| qN ?_
    refine ⟨k + 1, by omega, by omega, rfl, (.keep V (.keep V (.keep V (.keep V (.keep V (.keep V (.keep V (.keep V (.nil))))))))), (.eq V (by first | (rw [anyR_take hs2, h46]; rfl) | (rw [anyR_take hs2, h46]; simp)) (.eq V (zK1 hlt2 (by simp only [maxLen]; omega)) (.nil)))⟩
   ·
    refine dO V V V (zS V V Vv) <| dO V V V (zS V V Vv) <| dO V V V (zG V zN sz55 (by decide) V V V (zR0 hs) Vv) ?_
    refine dO V V V (zI V V ta55 V Vv) <| dO V V V (zS V V Vv) <| dO V V V (zS V V Vv) <| dO V V V (zG V zN sz55 (by decide) V V V (zR0 hs2) Vv) ?_
    refine dO V V V (zI V V ta55 V Vv) <| zV V V (.cons (zC1 V V V co67 (rCmpC_spec ci o _)) .nil) <| dO V V V (zQ2 V V V V Vv) <| dO V V V (zD1 V V V Vv) <| dO V V V (zB1 V V Vv) <| zK0 <| qR V <| qM V V V <| qO V <| zO0 V V V V <| qA V V V <| qN ?_
    refine ⟨k + 1, by omega, by omega, rfl, (.keep V (.keep V (.keep V (.keep V (.keep V (.keep V (.keep V (.keep V (.nil))))))))), (.eq V (by first | (rw [anyR_take hs2, h46]; rfl) | (rw [anyR_take hs2, h46]; simp)) (.eq V (zK1 hlt2 (by simp only [maxLen]; omega)) (.nil)))⟩
  ·
   have hke : k = (c1 ++ c2).length := by rw [zC] at h42; have := zP1 h42; omega
   subst hke
   refine zF1 <| zB <| zB <| qR V <| qA V V V <| qN <| zB0 ?_
   refine zQ1 (α := Nat) [(3, _), (6, _), (8, _), (9, _), (10, _), (11, _), (12, _), (13, _)] (fun k => [(14, .int .i64 (twF ((stL (Sch.mk k1 i1) (c1 ++ c2) ((c1 ++ c2).zip (w1 ++ w2)) i).map (·.1)) ci k)), (16, .int .i64 (k : Int))]) (fun k => (.cells (encS (.mk 8 [.mk k1 i1])).cells :: .cells (encV (.mk 0 0 [] c1 w1)).cells :: .cells (encV (.mk 0 0 [] c2 w2)).cells :: .cells [.int .u64 0, .int .u64 0, .lst0, .lst0, .lst0] :: .row 55 1 ((c1.map encC).length + (c2.map encC).length) :: .row 30 5 ((encVs w1).length + (encVs w2).length) :: .cells [.int .u64 0, .int .u64 0, .lst0, .lst none 1 (((stL (Sch.mk k1 i1) (c1 ++ c2) ((c1 ++ c2).zip (w1 ++ w2)) i).map (·.1)).map encC), .ow (S.length + (p + 7)) 5 (stL (Sch.mk k1 i1) (c1 ++ c2) ((c1 ++ c2).zip (w1 ++ w2)) i).length] :: R)) (fun k => k ≤ ((stL (Sch.mk k1 i1) (c1 ++ c2) ((c1 ++ c2).zip (w1 ++ w2)) i).map (·.1)).length) (fun k => ((stL (Sch.mk k1 i1) (c1 ++ c2) ((c1 ++ c2).zip (w1 ++ w2)) i).map (·.1)).length - k) (0) (.keep V (.keep V (.keep V (.keep V (.keep V (.keep V (.keep V (.keep V (.nil))))))))) (.keep V (.keep V (.nil))) (by omega) (V) ?_
   rintro k hk
   refine zB <| zB <| qR V <| qM V V V <| qF V V V zM1 <| qL V V V V ta27 V <| qE V V zN V <| qC V V V V V <| qN ?_
   refine zK V (fun h62 => ?_) (fun h62 => ?_)
   ·
    have hlt3 : k < ((stL (Sch.mk k1 i1) (c1 ++ c2) ((c1 ++ c2).zip (w1 ++ w2)) i).map (·.1)).length := by rw [zC] at h62; have := zO1 h62; omega
    obtain ⟨o2, hs2⟩ : ∃ q, ((stL (Sch.mk k1 i1) (c1 ++ c2) ((c1 ++ c2).zip (w1 ++ w2)) i).map (·.1))[k]? = some q := ⟨_, zD hlt3⟩
    have hg2 : ((stL (Sch.mk k1 i1) (c1 ++ c2) ((c1 ++ c2).zip (w1 ++ w2)) i).map (·.1)).getD k [] = o2 := by simp only [List.getD_eq_getElem?_getD, hs2, Option.getD_some]
    refine zY <| zB <| zB0 <| zB ?_
    refine zV0 [] [_] mo (by decide) V V V V ?_
    refine dO V V V (zJ V V zM1 Vv) <| dO V V V (zE0 V V V ta27 V Vv) <| dO V V V (zS V V Vv) <| dO V V V (zG V zN sz55 (by decide) V V V (zR0 hs2) Vv) ?_
    refine dO V V V (zI V V ta55 V Vv) <| dO V V V (zS V V Vv) <| dO V V V (zS V V Vv) <| dO V V V (zG V zN sz55 (by decide) V V V (zR0 hs) Vv) ?_
    refine dO V V V (zI V V ta55 V Vv) <| zV V V (.cons (zC1 V V V co28 (rSameC_spec o2 ci _)) .nil) <| zK0 ?_
    refine zK V (fun h74 => ?_) (fun h74 => ?_)
    ·
     have heq : ((stL (Sch.mk k1 i1) (c1 ++ c2) ((c1 ++ c2).zip (w1 ++ w2)) i).map (·.1)).getD k [] = ci := by rw [hg2]; exact zO1 h74
     refine qR V <| qM V V V <| qA V V V <| qN <| qR V <| qM V V V <| qO V <| zO0 V V V V <| qA V V V <| qN ?_
     refine ⟨k + 1, by omega, by omega, rfl, (.keep V (.keep V (.keep V (.keep V (.keep V (.keep V (.keep V (.keep V (.nil))))))))), (.eq V (by rw [twF, if_pos heq]) (.eq V (zK1 hlt3 (by simp only [maxLen]; omega)) (.nil)))⟩
    ·
     have heq : ¬ ((stL (Sch.mk k1 i1) (c1 ++ c2) ((c1 ++ c2).zip (w1 ++ w2)) i).map (·.1)).getD k [] = ci := by rw [hg2]; exact zP1 h74
     refine zY <| qR V <| qM V V V <| qO V <| zO0 V V V V <| qA V V V <| qN ?_
     refine ⟨k + 1, by omega, by omega, rfl, (.keep V (.keep V (.keep V (.keep V (.keep V (.keep V (.keep V (.keep V (.nil))))))))), (.eq V (by rw [twF, if_neg heq]) (.eq V (zK1 hlt3 (by simp only [maxLen]; omega)) (.nil)))⟩
   ·
    have hke : k = ((stL (Sch.mk k1 i1) (c1 ++ c2) ((c1 ++ c2).zip (w1 ++ w2)) i).map (·.1)).length := by rw [zC] at h62; have := zP1 h62; omega
    subst hke
    refine zF1 <| zB <| zB <| qR V <| qM V V V <| qN ?_
    refine zK V (fun h76 => ?_) (fun h76 => ?_)
    ·
     rw [List.take_length, anyR_below hcm] at h76
     have hst : (stL (Sch.mk k1 i1) (c1 ++ c2) ((c1 ++ c2).zip (w1 ++ w2)) (i + 1)) = (stL (Sch.mk k1 i1) (c1 ++ c2) ((c1 ++ c2).zip (w1 ++ w2)) i) := (stL_succ hsL).trans (step_below h76)
     have hoka : okC1 (okJ (Sch.mk k1 i1)) (c1 ++ c2) (stL (Sch.mk k1 i1) (c1 ++ c2) ((c1 ++ c2).zip (w1 ++ w2)) i) (ci, (Val.mk vn vm vs_ vc vw)) = true := by unfold okC1; rw [show below (c1 ++ c2) (ci, (Val.mk vn vm vs_ vc vw)).1 = true from h76]; rfl
     refine zF1 <| qR V <| qM V V V <| qO V <| zO0 V V V V <| qA V V V <| qN ?_
     refine ⟨⟨i + 1, R, p⟩, by dsimp only; omega, ⟨by dsimp only; omega, by dsimp only; rw [hst]; exact hR⟩, by dsimp only; rw [hst], (.keep V (.keep V (.keep V (.nil)))), (.keep V (.keep V (.eq V (by rw [okL_succ hsL, hoka, Bool.and_true]) (.eq V (zK1 hlt (by simp only [maxLen]; omega)) (.nil)))))⟩
    ·
     rw [List.take_length, anyR_below hcm] at h76
     have hnb : ¬ below (c1 ++ c2) ci = true := by rw [h76]; decide
     refine zY <| zB <| zB <| qR V <| qM V V V <| qC V V V V V <| qN ?_
     refine zK V (fun h78 => ?_) (fun h78 => ?_)
     ·
      obtain ⟨q, hq, htw, hsq⟩ : ∃ q, q < ((stL (Sch.mk k1 i1) (c1 ++ c2) ((c1 ++ c2).zip (w1 ++ w2)) i).map (·.1)).length ∧ twF ((stL (Sch.mk k1 i1) (c1 ++ c2) ((c1 ++ c2).zip (w1 ++ w2)) i).map (·.1)) ci ((stL (Sch.mk k1 i1) (c1 ++ c2) ((c1 ++ c2).zip (w1 ++ w2)) i).map (·.1)).length = ((q : Nat) : Int) ∧ ((stL (Sch.mk k1 i1) (c1 ++ c2) ((c1 ++ c2).zip (w1 ++ w2)) i).map (·.1))[q]? = some ci := by
       rcases tw_cases ((stL (Sch.mk k1 i1) (c1 ++ c2) ((c1 ++ c2).zip (w1 ++ w2)) i).map (·.1)) ci _ (Nat.le_refl _) with ⟨h1, _⟩ | h
       ·rw [h1] at h78; exact absurd h78 (by decide)
       ·exact h
      have hq' : q < (stL (Sch.mk k1 i1) (c1 ++ c2) ((c1 ++ c2).zip (w1 ++ w2)) i).length := by omega
      obtain ⟨⟨ec, ⟨qn, qm, qs, qc, qw⟩⟩, hEq⟩ : ∃ x, (stL (Sch.mk k1 i1) (c1 ++ c2) ((c1 ++ c2).zip (w1 ++ w2)) i)[q]? = some x := ⟨_, zD hq'⟩
      have hec : ec = ci := by rw [zN0, hEq] at hsq; injection hsq
      subst hec
      have hvq : ((stL (Sch.mk k1 i1) (c1 ++ c2) ((c1 ++ c2).zip (w1 ++ w2)) i).map (·.2))[q]? = some (Val.mk qn qm qs qc qw) := by rw [zN0, hEq]; rfl
      have hlk := zK3 ordT (stL_srt (Sch.mk k1 i1) (c1 ++ c2) ((c1 ++ c2).zip (w1 ++ w2)) i) (zC0 hEq)
      have hru := hrt.2 _ hlk
      have hz := ih (Val.mk qn qm qs qc qw) (Val.mk vn vm vs_ vc vw) hru.1 hrt.1.1 hru.2 hrt.1.2
      obtain ⟨⟨zn, zm, zs, zc, zw⟩, ez⟩ : ∃ v, jn (Sch.mk k1 i1) (Val.mk qn qm qs qc qw) (Val.mk vn vm vs_ vc vw) = v := ⟨_, rfl⟩
      rw [ez] at hz
      have hst : (stL (Sch.mk k1 i1) (c1 ++ c2) ((c1 ++ c2).zip (w1 ++ w2)) (i + 1)) = (stL (Sch.mk k1 i1) (c1 ++ c2) ((c1 ++ c2).zip (w1 ++ w2)) i).set q (ec, (Val.mk zn zm zs zc zw)) := by rw [stL_succ hsL, step_twin (stL_srt _ _ _ _) hnb hEq]; exact congrArg (fun z => List.set _ q (ec, z)) ez
      have hokb : okC1 (okJ (Sch.mk k1 i1)) (c1 ++ c2) (stL (Sch.mk k1 i1) (c1 ++ c2) ((c1 ++ c2).zip (w1 ++ w2)) i) (ec, (Val.mk vn vm vs_ vc vw)) = okJ (Sch.mk k1 i1) (Val.mk qn qm qs qc qw) (Val.mk vn vm vs_ vc vw) := by
       unfold okC1
       rw [show look (stL (Sch.mk k1 i1) (c1 ++ c2) ((c1 ++ c2).zip (w1 ++ w2)) i) (ec, (Val.mk vn vm vs_ vc vw)).1 = some (Val.mk qn qm qs qc qw) from hlk, show below (c1 ++ c2) (ec, (Val.mk vn vm vs_ vc vw)).1 = false by simpa using hnb]
       rfl
      have hsc : ((stL (Sch.mk k1 i1) (c1 ++ c2) ((c1 ++ c2).zip (w1 ++ w2)) i).set q (ec, (Val.mk zn zm zs zc zw))).map (·.1) = ((stL (Sch.mk k1 i1) (c1 ++ c2) ((c1 ++ c2).zip (w1 ++ w2)) i).map (·.1)) := by
       rw [List.map_set]
       obtain ⟨hl_, he_⟩ := zH.1 hsq
       rw [← he_]
       exact List.set_getElem_self hl_
      have hpl := (zH.1 hR).1
      have hR2 : ((R ++ [MObj.cells (encV (Val.mk zn zm zs zc zw)).cells]).set p (MObj.orow 30 5 (stL (Sch.mk k1 i1) (c1 ++ c2) ((c1 ++ c2).zip (w1 ++ w2)) i).length (setMany (flat (encVs ((stL (Sch.mk k1 i1) (c1 ++ c2) ((c1 ++ c2).zip (w1 ++ w2)) i).map (·.2)))) (q * 5) (encV (Val.mk zn zm zs zc zw)).cells)))[p]? = some (MObj.orow 30 5 (stL (Sch.mk k1 i1) (c1 ++ c2) ((c1 ++ c2).zip (w1 ++ w2)) (i + 1)).length (flat (encVs ((stL (Sch.mk k1 i1) (c1 ++ c2) ((c1 ++ c2).zip (w1 ++ w2)) (i + 1)).map (·.2))))) := by
       rw [List.getElem?_set_self (by rw [zM]; omega), hst, List.length_set, set_flat zA6 (zU2 _) (by rw [zO, zC]; exact hq'), List.map_set, encVs_set]
      refine zB ?_
      refine zV0 [17, 18] [_, S ++ (.cells (encS (.mk 8 [.mk k1 i1])).cells :: .cells (encV (.mk 0 0 [] c1 w1)).cells :: .cells (encV (.mk 0 0 [] c2 w2)).cells :: .cells [.int .u64 0, .int .u64 0, .lst0, .lst0, .lst0] :: .row 55 1 ((c1.map encC).length + (c2.map encC).length) :: .row 30 5 ((encVs w1).length + (encVs w2).length) :: .cells [.int .u64 0, .int .u64 0, .lst0, .lst none 1 (((stL (Sch.mk k1 i1) (c1 ++ c2) ((c1 ++ c2).zip (w1 ++ w2)) i).map (·.1)).map encC), .ow (S.length + (p + 7)) 5 (stL (Sch.mk k1 i1) (c1 ++ c2) ((c1 ++ c2).zip (w1 ++ w2)) i).length] :: (R ++ [.cells [.int .u64 0, .int .u64 0, .lst0, .lst0, .lst0]])), S ++ (.cells (encS (.mk 8 [.mk k1 i1])).cells :: .cells (encV (.mk 0 0 [] c1 w1)).cells :: .cells (encV (.mk 0 0 [] c2 w2)).cells :: .cells [.int .u64 0, .int .u64 0, .lst0, .lst0, .lst0] :: .row 55 1 ((c1.map encC).length + (c2.map encC).length) :: .row 30 5 ((encVs w1).length + (encVs w2).length) :: .cells [.int .u64 0, .int .u64 0, .lst0, .lst none 1 (((stL (Sch.mk k1 i1) (c1 ++ c2) ((c1 ++ c2).zip (w1 ++ w2)) i).map (·.1)).map encC), .ow (S.length + (p + 7)) 5 (stL (Sch.mk k1 i1) (c1 ++ c2) ((c1 ++ c2).zip (w1 ++ w2)) i).length] :: (R ++ [.cells (encV (Val.mk zn zm zs zc zw)).cells]))] mo (by decide) V V V V ?_
      refine zV V V (.cons (zJ V V zR2 Vv) (.cons (zJ V V zR2 Vv) (.nil))) <| zV V V (.cons (zE0 V V V ta22 V Vv) (.cons (zE0 V V V ta22 V Vv) (.nil))) <| zV V V (.cons (zG V zJ0 sz24 (by decide) V V V (show _ = some (encS (Sch.mk k1 i1)) from V) Vv) (.cons (zG V zJ0 sz24 (by decide) V V V (show _ = some (encS (Sch.mk k1 i1)) from V) Vv) (.nil))) ?_
      refine zV V V (.cons (zI V V ta24 V Vv) (.cons (zI V V ta24 V Vv) (.nil))) <| zV V V (.cons (zJ V V zZ0 Vv) (.cons (zJ V V zZ0 Vv) (.nil))) <| zV V V (.cons (zE0 V V V ta28 V Vv) (.cons (zE0 V V V ta28 V Vv) (.nil))) <| zV V V (.cons (zS V V Vv) (.cons (zS V V Vv) (.nil))) <| zV V V (.cons (op_indexAddr_owL V zE sz30 V V htw hq' (by first | exact get7 hR | exact get7a hR) Vv) (.cons (op_indexAddr_owL V zE sz30 V V htw hq' (by first | exact get7 hR | exact get7a hR) Vv) (.nil))) ?_
      refine zV V V (.cons (op_load_orfL V V (by first | exact get7 hR | exact get7a hR) ta30 (load_flat zA6 (zN1 hvq)) Vv) (.cons (op_load_orfL V V (by first | exact get7 hR | exact get7a hR) ta30 (load_flat zA6 (zN1 hvq)) Vv) (.nil))) ?_
      refine zV V V (.cons (zS V V Vv) (.cons (zS V V Vv) (.nil))) <| zV V V (.cons (zS V V Vv) (.cons (zS V V Vv) (.nil))) <| zV V V (.cons (zG V zE sz30 (by decide) V V V (zN1 hs3) Vv) (.cons (zG V zE sz30 (by decide) V V V (zN1 hs3) Vv) (.nil))) ?_
      refine zV V V (.cons (zI V V ta30 V Vv) (.cons (zI V V ta30 V Vv) (.nil))) <| zV V V (.cons (zC1 V V V co30 (hz _)) (.cons (zC1 V V V co30 (hz _)) (.nil))) <| zV V V (.cons (zS V V Vv) (.cons (zS V V Vv) (.nil))) <| zV V V (.cons (zF0 V V V Vv) (.cons (zF0 V V V Vv) (.nil))) <| zV V V (.cons (zF0 V V V Vv) (.cons (zF0 V V V Vv) (.cons (zF0 V V V Vv) (.nil)))) <| zL1 V V V V (zL0 (k := R.length + 7) V zm30 V V Vv) <| zL1 V V V V (zG0 V V V end7 sz30 V V (zA V) set7 Vv) <| dO V V V (zB1 V V Vv) <| zK0 <| zB <| qR V <| qF V V V zZ0 <| qL V V V V ta28 V <| qM V V V <| qO V <| zE0 V V end7 ta30 V <| qM V V V <| qM V V V ?_
      refine zD0 (fun h101 => ?_) (fun h101 => ?_)
      ·
       refine qM V V V <| qP V V V V <| qO V <| op_indexAddr_owL V zE sz30 V V htw hq' (get7a hR) <| qO V <| op_store_orfL (L' := (.cells (encS (.mk 8 [.mk k1 i1])).cells :: .cells (encV (.mk 0 0 [] c1 w1)).cells :: .cells (encV (.mk 0 0 [] c2 w2)).cells :: .cells [.int .u64 0, .int .u64 0, .lst0, .lst0, .lst0] :: .row 55 1 ((c1.map encC).length + (c2.map encC).length) :: .row 30 5 ((encVs w1).length + (encVs w2).length) :: .cells [.int .u64 0, .int .u64 0, .lst0, .lst none 1 (((stL (Sch.mk k1 i1) (c1 ++ c2) ((c1 ++ c2).zip (w1 ++ w2)) i).map (·.1)).map encC), .ow (S.length + (p + 7)) 5 (stL (Sch.mk k1 i1) (c1 ++ c2) ((c1 ++ c2).zip (w1 ++ w2)) i).length] :: ((R ++ [MObj.cells (encV (Val.mk zn zm zs zc zw)).cells]).set p (MObj.orow 30 5 (stL (Sch.mk k1 i1) (c1 ++ c2) ((c1 ++ c2).zip (w1 ++ w2)) i).length (setMany (flat (encVs ((stL (Sch.mk k1 i1) (c1 ++ c2) ((c1 ++ c2).zip (w1 ++ w2)) i).map (·.2)))) (q * 5) (encV (Val.mk zn zm zs zc zw)).cells))))) V V V (get7a hR) sz30 V V (flat_get zA6 (zN1 hvq)).2 V <| qA V V V <| qN <| zF1 <| qR V <| qM V V V <| qO V <| zO0 V V V V <| qA V V V <| qN ?_
       refine ⟨⟨i + 1, _, p⟩, by dsimp only; omega, ⟨by dsimp only; omega, hR2⟩, by dsimp only; rw [hst, List.length_set, hsc] <;> rfl, (.keep V (.keep V (.keep V (.nil)))), (.keep V (.keep V (.eq V (by rw [okL_succ hsL, hokb, h101]; rfl) (.eq V (zK1 hlt (by simp only [maxLen]; omega)) (.nil)))))⟩
      ·
       refine qS V <| qP V V V V <| qO V <| op_indexAddr_owL V zE sz30 V V htw hq' (get7a hR) <| qO V <| op_store_orfL (L' := (.cells (encS (.mk 8 [.mk k1 i1])).cells :: .cells (encV (.mk 0 0 [] c1 w1)).cells :: .cells (encV (.mk 0 0 [] c2 w2)).cells :: .cells [.int .u64 0, .int .u64 0, .lst0, .lst0, .lst0] :: .row 55 1 ((c1.map encC).length + (c2.map encC).length) :: .row 30 5 ((encVs w1).length + (encVs w2).length) :: .cells [.int .u64 0, .int .u64 0, .lst0, .lst none 1 (((stL (Sch.mk k1 i1) (c1 ++ c2) ((c1 ++ c2).zip (w1 ++ w2)) i).map (·.1)).map encC), .ow (S.length + (p + 7)) 5 (stL (Sch.mk k1 i1) (c1 ++ c2) ((c1 ++ c2).zip (w1 ++ w2)) i).length] :: ((R ++ [MObj.cells (encV (Val.mk zn zm zs zc zw)).cells]).set p (MObj.orow 30 5 (stL (Sch.mk k1 i1) (c1 ++ c2) ((c1 ++ c2).zip (w1 ++ w2)) i).length (setMany (flat (encVs ((stL (Sch.mk k1 i1) (c1 ++ c2) ((c1 ++ c2).zip (w1 ++ w2)) i).map (·.2)))) (q * 5) (encV (Val.mk zn zm zs zc zw)).cells))))) V V V (get7a hR) sz30 V V (flat_get zA6 (zN1 hvq)).2 V <| qA V V V <| qN <| zF1 <| qR V <| qM V V V <| qO V <| zO0 V V V V <| qA V V V <| qN ?_
       refine ⟨⟨i + 1, _, p⟩, by dsimp only; omega, ⟨by dsimp only; omega, hR2⟩, by dsimp only; rw [hst, List.length_set, hsc] <;> rfl, (.keep V (.keep V (.keep V (.nil)))), (.keep V (.keep V (.eq V (by rw [okL_succ hsL, hokb, h101]; rfl) (.eq V (zK1 hlt (by simp only [maxLen]; omega)) (.nil)))))⟩
     ·
      have hni : ci ∉ ((stL (Sch.mk k1 i1) (c1 ++ c2) ((c1 ++ c2).zip (w1 ++ w2)) i).map (·.1)) := tw_not (by
       rcases tw_cases ((stL (Sch.mk k1 i1) (c1 ++ c2) ((c1 ++ c2).zip (w1 ++ w2)) i).map (·.1)) ci _ (Nat.le_refl _) with ⟨_, h2⟩ | ⟨q, _, h2, _⟩
       ·exact h2
       ·rw [h2] at h78; simp at h78)
      refine zY <| zB <| qR V <| qA V V V <| qN <| zB <| zB0 ?_
      refine zQ1 (α := Nat) [(3, _), (6, _), (8, _), (9, _), (10, _), (11, _), (12, _)] (fun k => [(19, .int .i64 (k : Int))]) (fun k => (.cells (encS (.mk 8 [.mk k1 i1])).cells :: .cells (encV (.mk 0 0 [] c1 w1)).cells :: .cells (encV (.mk 0 0 [] c2 w2)).cells :: .cells [.int .u64 0, .int .u64 0, .lst0, .lst0, .lst0] :: .row 55 1 ((c1.map encC).length + (c2.map encC).length) :: .row 30 5 ((encVs w1).length + (encVs w2).length) :: .cells [.int .u64 0, .int .u64 0, .lst0, .lst none 1 (((stL (Sch.mk k1 i1) (c1 ++ c2) ((c1 ++ c2).zip (w1 ++ w2)) i).map (·.1)).map encC), .ow (S.length + (p + 7)) 5 (stL (Sch.mk k1 i1) (c1 ++ c2) ((c1 ++ c2).zip (w1 ++ w2)) i).length] :: R)) (fun k => k ≤ (stL (Sch.mk k1 i1) (c1 ++ c2) ((c1 ++ c2).zip (w1 ++ w2)) i).length ∧ ∀ j, j < k → ∀ x, (stL (Sch.mk k1 i1) (c1 ++ c2) ((c1 ++ c2).zip (w1 ++ w2)) i)[j]? = some x → aheadF x.1 ci = true) (fun k => (stL (Sch.mk k1 i1) (c1 ++ c2) ((c1 ++ c2).zip (w1 ++ w2)) i).length - k) (0) (.keep V (.keep V (.keep V (.keep V (.keep V (.keep V (.keep V (.nil)))))))) (.keep V (.nil)) (⟨by omega, fun j hj => by omega⟩) (V) ?_
      rintro k ⟨hk, hah⟩
      refine zB <| zB ?_
      refine zV0 [] [_] mo (by decide) V V V V ?_
      refine dO V V V (zS V V Vv) <| dO V V V (zJ V V zM1 Vv) <| dO V V V (zE0 V V V ta27 V Vv) <| dO V V V (zP2 V zN V Vv) <| dO V V V (zQ2 V V V V Vv) <| dO V V V (zS V V Vv) ?_
      refine zF2 (fun h110 => ?_) (fun h110 => ?_)
      ·
       have hlt4 : k < (stL (Sch.mk k1 i1) (c1 ++ c2) ((c1 ++ c2).zip (w1 ++ w2)) i).length := by rw [zC, zC] at h110; have := zO1 h110; omega
       obtain ⟨⟨e4, u4⟩, hs4⟩ : ∃ q, (stL (Sch.mk k1 i1) (c1 ++ c2) ((c1 ++ c2).zip (w1 ++ w2)) i)[k]? = some q := ⟨_, zD hlt4⟩
       have hc4 : ((stL (Sch.mk k1 i1) (c1 ++ c2) ((c1 ++ c2).zip (w1 ++ w2)) i).map (·.1))[k]? = some e4 := by rw [zN0, hs4]; rfl
       refine dO V V V (zJ V V zM1 Vv) <| dO V V V (zE0 V V V ta27 V Vv) <| dO V V V (zS V V Vv) <| dO V V V (zG V zN sz55 (by decide) V V V (zR0 hc4) Vv) ?_
       refine dO V V V (zI V V ta55 V Vv) <| dO V V V (zS V V Vv) <| dO V V V (zS V V Vv) <| dO V V V (zG V zN sz55 (by decide) V V V (zR0 hs) Vv) ?_
       refine dO V V V (zI V V ta55 V Vv) <| zV V V (.cons (zC1 V V V co66 (rAhead_spec e4 ci _)) .nil) <| dO V V V (zD1 V V V Vv) <| zK0 ?_
       refine zK V (fun h121 => ?_) (fun h121 => ?_)
       ·
        have hahk : aheadF e4 ci = true := h121
        refine zY <| zB0 <| qR V <| qM V V V <| qO V <| zO0 V V V V <| qA V V V <| qN ?_
        refine ⟨k + 1, by omega, ⟨by omega, fun j hj x hx => ?_⟩, rfl, (.keep V (.keep V (.keep V (.keep V (.keep V (.keep V (.keep V (.nil)))))))), (.eq V (zK1 hlt4 (by simp only [maxLen]; omega)) (.nil))⟩
        by_cases e : j = k
        ·subst e; rw [hs4] at hx; injection hx with hx; subst hx; exact hahk
        ·exact hah j (by omega) x hx
       ·
        have hend : ∀ x, (stL (Sch.mk k1 i1) (c1 ++ c2) ((c1 ++ c2).zip (w1 ++ w2)) i)[k]? = some x → aheadF x.1 ci = false := fun x hx => by rw [hs4] at hx; injection hx with hx; subst hx; exact h121
        refine zF1 <| zB ?_
        refine zV0 [4, 10, 15, 17] [_, S ++ (.cells (encS (.mk 8 [.mk k1 i1])).cells :: .cells (encV (.mk 0 0 [] c1 w1)).cells :: .cells (encV (.mk 0 0 [] c2 w2)).cells :: .cells [.int .u64 0, .int .u64 0, .lst0, .lst0, .lst0] :: .row 55 1 ((c1.map encC).length + (c2.map encC).length) :: .row 30 5 ((encVs w1).length + (encVs w2).length) :: .cells [.int .u64 0, .int .u64 0, .lst0, .lst none 1 (((stL (Sch.mk k1 i1) (c1 ++ c2) ((c1 ++ c2).zip (w1 ++ w2)) i).map (·.1)).map encC), .ow (S.length + (p + 7)) 5 (stL (Sch.mk k1 i1) (c1 ++ c2) ((c1 ++ c2).zip (w1 ++ w2)) i).length] :: (R ++ [MObj.row 55 1 ((List.take (k - 0) (List.drop 0 (((stL (Sch.mk k1 i1) (c1 ++ c2) ((c1 ++ c2).zip (w1 ++ w2)) i).map (·.1)).map encC))).length)])), S ++ (.cells (encS (.mk 8 [.mk k1 i1])).cells :: .cells (encV (.mk 0 0 [] c1 w1)).cells :: .cells (encV (.mk 0 0 [] c2 w2)).cells :: .cells [.int .u64 0, .int .u64 0, .lst0, .lst0, .lst0] :: .row 55 1 ((c1.map encC).length + (c2.map encC).length) :: .row 30 5 ((encVs w1).length + (encVs w2).length) :: .cells [.int .u64 0, .int .u64 0, .lst0, .lst none 1 (((stL (Sch.mk k1 i1) (c1 ++ c2) ((c1 ++ c2).zip (w1 ++ w2)) i).map (·.1)).map encC), .ow (S.length + (p + 7)) 5 (stL (Sch.mk k1 i1) (c1 ++ c2) ((c1 ++ c2).zip (w1 ++ w2)) i).length] :: (R ++ [MObj.row 55 1 ((List.take (k - 0) (List.drop 0 (((stL (Sch.mk k1 i1) (c1 ++ c2) ((c1 ++ c2).zip (w1 ++ w2)) i).map (·.1)).map encC))).length + 1)])), S ++ (.cells (encS (.mk 8 [.mk k1 i1])).cells :: .cells (encV (.mk 0 0 [] c1 w1)).cells :: .cells (encV (.mk 0 0 [] c2 w2)).cells :: .cells [.int .u64 0, .int .u64 0, .lst0, .lst0, .lst0] :: .row 55 1 ((c1.map encC).length + (c2.map encC).length) :: .row 30 5 ((encVs w1).length + (encVs w2).length) :: .cells [.int .u64 0, .int .u64 0, .lst0, .lst none 1 (((stL (Sch.mk k1 i1) (c1 ++ c2) ((c1 ++ c2).zip (w1 ++ w2)) i).map (·.1)).map encC), .ow (S.length + (p + 7)) 5 (stL (Sch.mk k1 i1) (c1 ++ c2) ((c1 ++ c2).zip (w1 ++ w2)) i).length] :: (R ++ [MObj.row 55 1 ((List.take (k - 0) (List.drop 0 (((stL (Sch.mk k1 i1) (c1 ++ c2) ((c1 ++ c2).zip (w1 ++ w2)) i).map (·.1)).map encC))).length + 1 + (List.take ((((stL (Sch.mk k1 i1) (c1 ++ c2) ((c1 ++ c2).zip (w1 ++ w2)) i).map (·.1)).map encC).length - k) (List.drop k (((stL (Sch.mk k1 i1) (c1 ++ c2) ((c1 ++ c2).zip (w1 ++ w2)) i).map (·.1)).map encC))).length)])), S ++ (.cells (encS (.mk 8 [.mk k1 i1])).cells :: .cells (encV (.mk 0 0 [] c1 w1)).cells :: .cells (encV (.mk 0 0 [] c2 w2)).cells :: .cells [.int .u64 0, .int .u64 0, .lst0, .lst0, .lst0] :: .row 55 1 ((c1.map encC).length + (c2.map encC).length) :: .row 30 5 ((encVs w1).length + (encVs w2).length) :: .cells [.int .u64 0, .int .u64 0, .lst0, .lst (some (S.length + (R.length + 7))) 1 ((List.take (k - 0) (List.drop 0 (((stL (Sch.mk k1 i1) (c1 ++ c2) ((c1 ++ c2).zip (w1 ++ w2)) i).map (·.1)).map encC))) ++ [encC ci] ++ (List.take ((((stL (Sch.mk k1 i1) (c1 ++ c2) ((c1 ++ c2).zip (w1 ++ w2)) i).map (·.1)).map encC).length - k) (List.drop k (((stL (Sch.mk k1 i1) (c1 ++ c2) ((c1 ++ c2).zip (w1 ++ w2)) i).map (·.1)).map encC)))), .ow (S.length + (p + 7)) 5 (stL (Sch.mk k1 i1) (c1 ++ c2) ((c1 ++ c2).zip (w1 ++ w2)) i).length] :: (R ++ [MObj.row 55 1 ((List.take (k - 0) (List.drop 0 (((stL (Sch.mk k1 i1) (c1 ++ c2) ((c1 ++ c2).zip (w1 ++ w2)) i).map (·.1)).map encC))).length + 1 + (List.take ((((stL (Sch.mk k1 i1) (c1 ++ c2) ((c1 ++ c2).zip (w1 ++ w2)) i).map (·.1)).map encC).length - k) (List.drop k (((stL (Sch.mk k1 i1) (c1 ++ c2) ((c1 ++ c2).zip (w1 ++ w2)) i).map (·.1)).map encC))).length)]))] mo (by decide) V V V V ?_
        refine zV V V (.cons (zJ V V zM1 Vv) (.cons (zJ V V zM1 Vv) (.cons (zJ V V zM1 Vv) (.cons (zJ V V zM1 Vv) (.nil))))) <| zV V V (.cons (zE0 V V V ta27 V Vv) (.cons (zE0 V V V ta27 V Vv) (.cons (zE0 V V V ta27 V Vv) (.cons (zE0 V V V ta27 V Vv) (.nil))))) <| zV V V (.cons (zS V V Vv) (.cons (zS V V Vv) (.cons (zS V V Vv) (.cons (zS V V Vv) (.nil))))) <| dO V V V (zL2 V zN sz55 V .none (.some V V) (by first | omega | (simp only [zC, zO]; omega)) (by first | omega | (simp only [zC, zO]; omega)) Vv) ?_
        refine zL1 V V V V (zB5 (k := R.length + 7) V zN el55 V V (by simp only [List.length_take, List.length_drop, zC, zW, List.length_nil, zM]; omega) (by simp only [List.length_take, List.length_drop, zC, zW, List.length_nil, zM]; omega) V V Vv) ?_
        refine zV V V (.cons (zS V V Vv) (.cons (zS V V Vv) (.cons (zS V V Vv) (.cons (zS V V Vv) (.nil))))) <| zV V V (.cons (zS V V Vv) (.cons (zS V V Vv) (.cons (zS V V Vv) (.cons (zS V V Vv) (.nil))))) <| zV V V (.cons (zG V zN sz55 (by decide) V V V (zR0 hs) Vv) (.cons (zG V zN sz55 (by decide) V V V (zR0 hs) Vv) (.cons (zG V zN sz55 (by decide) V V V (zR0 hs) Vv) (.cons (zG V zN sz55 (by decide) V V V (zR0 hs) Vv) (.nil))))) ?_
        refine zV V V (.cons (zI V V ta55 V Vv) (.cons (zI V V ta55 V Vv) (.cons (zI V V ta55 V Vv) (.cons (zI V V ta55 V Vv) (.nil))))) <| zV V V (.cons (zA1 V zN el55 V V (by decide) (by decide) V V Vv) (.cons (zA1 V zN el55 V V (by decide) (by decide) V V Vv) (.nil))) ?_
        refine zL1 V V V V (zG2 V zN el55 V V end7 V (by simp only [List.length_take, List.length_drop, zC, zW, List.length_nil, zM]; omega) (by simp only [List.length_take, List.length_drop, zC, zW, List.length_nil, zM]; omega) set7 Vv) ?_
        refine zV V V (.cons (zJ V V zM1 Vv) (.cons (zJ V V zM1 Vv) (.cons (zJ V V zM1 Vv) (.cons (zJ V V zM1 Vv) (.nil))))) <| zV V V (.cons (zE0 V V V ta27 V Vv) (.cons (zE0 V V V ta27 V Vv) (.cons (zE0 V V V ta27 V Vv) (.cons (zE0 V V V ta27 V Vv) (.nil))))) <| zV V V (.cons (zS V V Vv) (.cons (zS V V Vv) (.cons (zS V V Vv) (.cons (zS V V Vv) (.nil))))) <| zV V V (.cons (zL2 V zN sz55 V (.some V V) .none (by first | omega | (simp only [zC, zO]; omega)) (by first | omega | (simp only [zC, zO]; omega)) Vv) (.cons (zL2 V zN sz55 V (.some V V) .none (by first | omega | (simp only [zC, zO]; omega)) (by first | omega | (simp only [zC, zO]; omega)) Vv) (.cons (zL2 V zN sz55 V (.some V V) .none (by first | omega | (simp only [zC, zO]; omega)) (by first | omega | (simp only [zC, zO]; omega)) Vv) (.nil)))) ?_
        refine zL1 V V V V (zG2 V zN el55 V V end7 (by simp only [zM, zW, List.length_nil]) (by simp only [List.length_take, List.length_drop, zC, zW, List.length_nil, zM]; omega) (by simp only [List.length_take, List.length_drop, zC, zW, List.length_nil, zM]; omega) set7 Vv) ?_
        refine dO V V V (zJ V V zM1 Vv) <| zL1 V V V V (zG0 V V V V sz27 V V (zA V) V Vv) <| zK0 ?_
        have hst : (stL (Sch.mk k1 i1) (c1 ++ c2) ((c1 ++ c2).zip (w1 ++ w2)) (i + 1)) = (stL (Sch.mk k1 i1) (c1 ++ c2) ((c1 ++ c2).zip (w1 ++ w2)) i).take k ++ (ci, (Val.mk vn vm vs_ vc vw)) :: (stL (Sch.mk k1 i1) (c1 ++ c2) ((c1 ++ c2).zip (w1 ++ w2)) i).drop k := (stL_succ hsL).trans (step_ins hnb hni hah hk hend)
        have hokc : okC1 (okJ (Sch.mk k1 i1)) (c1 ++ c2) (stL (Sch.mk k1 i1) (c1 ++ c2) ((c1 ++ c2).zip (w1 ++ w2)) i) (ci, (Val.mk vn vm vs_ vc vw)) = true := by
         unfold okC1
         rw [show look (stL (Sch.mk k1 i1) (c1 ++ c2) ((c1 ++ c2).zip (w1 ++ w2)) i) (ci, (Val.mk vn vm vs_ vc vw)).1 = none from zC3 fun h => hni (zZ3.1 h)]
         simp
        have hcc : (List.take (k - 0) (List.drop 0 (((stL (Sch.mk k1 i1) (c1 ++ c2) ((c1 ++ c2).zip (w1 ++ w2)) i).map (·.1)).map encC))) ++ [encC ci] ++ (List.take ((((stL (Sch.mk k1 i1) (c1 ++ c2) ((c1 ++ c2).zip (w1 ++ w2)) i).map (·.1)).map encC).length - k) (List.drop k (((stL (Sch.mk k1 i1) (c1 ++ c2) ((c1 ++ c2).zip (w1 ++ w2)) i).map (·.1)).map encC))) = ((stL (Sch.mk k1 i1) (c1 ++ c2) ((c1 ++ c2).zip (w1 ++ w2)) (i + 1)).map (·.1)).map encC := by
         rw [hst]
         simp [List.take_of_length_le]
        have hvv : flat (List.take (k - 0) (List.drop 0 (encVs ((stL (Sch.mk k1 i1) (c1 ++ c2) ((c1 ++ c2).zip (w1 ++ w2)) i).map (·.2))))) ++ flat [encV (Val.mk vn vm vs_ vc vw)] ++ flat (List.take ((encVs ((stL (Sch.mk k1 i1) (c1 ++ c2) ((c1 ++ c2).zip (w1 ++ w2)) i).map (·.2))).length - k) (List.drop k (encVs ((stL (Sch.mk k1 i1) (c1 ++ c2) ((c1 ++ c2).zip (w1 ++ w2)) i).map (·.2))))) = flat (encVs ((stL (Sch.mk k1 i1) (c1 ++ c2) ((c1 ++ c2).zip (w1 ++ w2)) (i + 1)).map (·.2))) := by
         rw [hst, ← zZ4, ← zZ4]
         congr 1
         simp [zY3, List.take_of_length_le]
        have hln : (stL (Sch.mk k1 i1) (c1 ++ c2) ((c1 ++ c2).zip (w1 ++ w2)) (i + 1)).length = (List.take (k - 0) (List.drop 0 (encVs ((stL (Sch.mk k1 i1) (c1 ++ c2) ((c1 ++ c2).zip (w1 ++ w2)) i).map (·.2))))).length + 1 + (List.take ((encVs ((stL (Sch.mk k1 i1) (c1 ++ c2) ((c1 ++ c2).zip (w1 ++ w2)) i).map (·.2))).length - k) (List.drop k (encVs ((stL (Sch.mk k1 i1) (c1 ++ c2) ((c1 ++ c2).zip (w1 ++ w2)) i).map (·.2))))).length := by
         rw [hst]
         simp [zO]
         omega
        have hpl := (zH.1 hR).1
        refine mwp_cellsub (L' := (.cells (encS (.mk 8 [.mk k1 i1])).cells :: .cells (encV (.mk 0 0 [] c1 w1)).cells :: .cells (encV (.mk 0 0 [] c2 w2)).cells :: .cells [.int .u64 0, .int .u64 0, .lst0, .lst0, .lst0] :: .row 55 1 ((c1.map encC).length + (c2.map encC).length) :: .row 30 5 ((encVs w1).length + (encVs w2).length) :: .cells [.int .u64 0, .int .u64 0, .lst0, .lst none 1 (((stL (Sch.mk k1 i1) (c1 ++ c2) ((c1 ++ c2).zip (w1 ++ w2)) (i + 1)).map (·.1)).map encC), .ow (S.length + (p + 7)) 5 (stL (Sch.mk k1 i1) (c1 ++ c2) ((c1 ++ c2).zip (w1 ++ w2)) i).length] :: (R ++ [MObj.row 55 1 ((List.take (k - 0) (List.drop 0 (((stL (Sch.mk k1 i1) (c1 ++ c2) ((c1 ++ c2).zip (w1 ++ w2)) i).map (·.1)).map encC))).length + 1 + (List.take ((((stL (Sch.mk k1 i1) (c1 ++ c2) ((c1 ++ c2).zip (w1 ++ w2)) i).map (·.1)).map encC).length - k) (List.drop k (((stL (Sch.mk k1 i1) (c1 ++ c2) ((c1 ++ c2).zip (w1 ++ w2)) i).map (·.1)).map encC))).length)]))) 6 V (.cons (.refl _) (.cons (.refl _) (.cons (.refl _) (.cons (Sub.trans (.view _ _ _) (.of_eq (by rw [hcc]))) (.cons (.refl _) .nil))))) V ?_
        refine mwp_owfreezeL (L' := (.cells (encS (.mk 8 [.mk k1 i1])).cells :: .cells (encV (.mk 0 0 [] c1 w1)).cells :: .cells (encV (.mk 0 0 [] c2 w2)).cells :: .cells [.int .u64 0, .int .u64 0, .lst0, .lst0, .lst0] :: .row 55 1 ((c1.map encC).length + (c2.map encC).length) :: .row 30 5 ((encVs w1).length + (encVs w2).length) :: .cells [.int .u64 0, .int .u64 0, .lst0, .lst none 1 (((stL (Sch.mk k1 i1) (c1 ++ c2) ((c1 ++ c2).zip (w1 ++ w2)) (i + 1)).map (·.1)).map encC), .lst (some (S.length + (p + 7))) 5 (encVs ((stL (Sch.mk k1 i1) (c1 ++ c2) ((c1 ++ c2).zip (w1 ++ w2)) i).map (·.2)))] :: ((R ++ [MObj.row 55 1 ((List.take (k - 0) (List.drop 0 (((stL (Sch.mk k1 i1) (c1 ++ c2) ((c1 ++ c2).zip (w1 ++ w2)) i).map (·.1)).map encC))).length + 1 + (List.take ((((stL (Sch.mk k1 i1) (c1 ++ c2) ((c1 ++ c2).zip (w1 ++ w2)) i).map (·.1)).map encC).length - k) (List.drop k (((stL (Sch.mk k1 i1) (c1 ++ c2) ((c1 ++ c2).zip (w1 ++ w2)) i).map (·.1)).map encC))).length)]).set p (MObj.row 30 5 (stL (Sch.mk k1 i1) (c1 ++ c2) ((c1 ++ c2).zip (w1 ++ w2)) i).length)))) 6 4 (p + 7) (xs := encVs ((stL (Sch.mk k1 i1) (c1 ++ c2) ((c1 ++ c2).zip (w1 ++ w2)) i).map (·.2))) V V (get7a hR) V (by rw [zO, zC]) zA6 encVs_one V ?_
        refine zV0 [4, 10, 15, 17] [_, S ++ (.cells (encS (.mk 8 [.mk k1 i1])).cells :: .cells (encV (.mk 0 0 [] c1 w1)).cells :: .cells (encV (.mk 0 0 [] c2 w2)).cells :: .cells [.int .u64 0, .int .u64 0, .lst0, .lst0, .lst0] :: .row 55 1 ((c1.map encC).length + (c2.map encC).length) :: .row 30 5 ((encVs w1).length + (encVs w2).length) :: .cells [.int .u64 0, .int .u64 0, .lst0, .lst none 1 (((stL (Sch.mk k1 i1) (c1 ++ c2) ((c1 ++ c2).zip (w1 ++ w2)) (i + 1)).map (·.1)).map encC), .lst (some (S.length + (p + 7))) 5 (encVs ((stL (Sch.mk k1 i1) (c1 ++ c2) ((c1 ++ c2).zip (w1 ++ w2)) i).map (·.2)))] :: (((R ++ [MObj.row 55 1 ((List.take (k - 0) (List.drop 0 (((stL (Sch.mk k1 i1) (c1 ++ c2) ((c1 ++ c2).zip (w1 ++ w2)) i).map (·.1)).map encC))).length + 1 + (List.take ((((stL (Sch.mk k1 i1) (c1 ++ c2) ((c1 ++ c2).zip (w1 ++ w2)) i).map (·.1)).map encC).length - k) (List.drop k (((stL (Sch.mk k1 i1) (c1 ++ c2) ((c1 ++ c2).zip (w1 ++ w2)) i).map (·.1)).map encC))).length)]).set p (MObj.row 30 5 (stL (Sch.mk k1 i1) (c1 ++ c2) ((c1 ++ c2).zip (w1 ++ w2)) i).length)) ++ [MObj.orow 30 5 ((List.take (k - 0) (List.drop 0 (encVs ((stL (Sch.mk k1 i1) (c1 ++ c2) ((c1 ++ c2).zip (w1 ++ w2)) i).map (·.2))))).length) (flat (List.take (k - 0) (List.drop 0 (encVs ((stL (Sch.mk k1 i1) (c1 ++ c2) ((c1 ++ c2).zip (w1 ++ w2)) i).map (·.2))))))])), S ++ (.cells (encS (.mk 8 [.mk k1 i1])).cells :: .cells (encV (.mk 0 0 [] c1 w1)).cells :: .cells (encV (.mk 0 0 [] c2 w2)).cells :: .cells [.int .u64 0, .int .u64 0, .lst0, .lst0, .lst0] :: .row 55 1 ((c1.map encC).length + (c2.map encC).length) :: .row 30 5 ((encVs w1).length + (encVs w2).length) :: .cells [.int .u64 0, .int .u64 0, .lst0, .lst none 1 (((stL (Sch.mk k1 i1) (c1 ++ c2) ((c1 ++ c2).zip (w1 ++ w2)) (i + 1)).map (·.1)).map encC), .lst (some (S.length + (p + 7))) 5 (encVs ((stL (Sch.mk k1 i1) (c1 ++ c2) ((c1 ++ c2).zip (w1 ++ w2)) i).map (·.2)))] :: (((R ++ [MObj.row 55 1 ((List.take (k - 0) (List.drop 0 (((stL (Sch.mk k1 i1) (c1 ++ c2) ((c1 ++ c2).zip (w1 ++ w2)) i).map (·.1)).map encC))).length + 1 + (List.take ((((stL (Sch.mk k1 i1) (c1 ++ c2) ((c1 ++ c2).zip (w1 ++ w2)) i).map (·.1)).map encC).length - k) (List.drop k (((stL (Sch.mk k1 i1) (c1 ++ c2) ((c1 ++ c2).zip (w1 ++ w2)) i).map (·.1)).map encC))).length)]).set p (MObj.row 30 5 (stL (Sch.mk k1 i1) (c1 ++ c2) ((c1 ++ c2).zip (w1 ++ w2)) i).length)) ++ [MObj.orow 30 5 ((List.take (k - 0) (List.drop 0 (encVs ((stL (Sch.mk k1 i1) (c1 ++ c2) ((c1 ++ c2).zip (w1 ++ w2)) i).map (·.2))))).length + 1) (flat (List.take (k - 0) (List.drop 0 (encVs ((stL (Sch.mk k1 i1) (c1 ++ c2) ((c1 ++ c2).zip (w1 ++ w2)) i).map (·.2))))) ++ flat [encV (Val.mk vn vm vs_ vc vw)])])), S ++ (.cells (encS (.mk 8 [.mk k1 i1])).cells :: .cells (encV (.mk 0 0 [] c1 w1)).cells :: .cells (encV (.mk 0 0 [] c2 w2)).cells :: .cells [.int .u64 0, .int .u64 0, .lst0, .lst0, .lst0] :: .row 55 1 ((c1.map encC).length + (c2.map encC).length) :: .row 30 5 ((encVs w1).length + (encVs w2).length) :: .cells [.int .u64 0, .int .u64 0, .lst0, .lst none 1 (((stL (Sch.mk k1 i1) (c1 ++ c2) ((c1 ++ c2).zip (w1 ++ w2)) (i + 1)).map (·.1)).map encC), .lst (some (S.length + (p + 7))) 5 (encVs ((stL (Sch.mk k1 i1) (c1 ++ c2) ((c1 ++ c2).zip (w1 ++ w2)) i).map (·.2)))] :: (((R ++ [MObj.row 55 1 ((List.take (k - 0) (List.drop 0 (((stL (Sch.mk k1 i1) (c1 ++ c2) ((c1 ++ c2).zip (w1 ++ w2)) i).map (·.1)).map encC))).length + 1 + (List.take ((((stL (Sch.mk k1 i1) (c1 ++ c2) ((c1 ++ c2).zip (w1 ++ w2)) i).map (·.1)).map encC).length - k) (List.drop k (((stL (Sch.mk k1 i1) (c1 ++ c2) ((c1 ++ c2).zip (w1 ++ w2)) i).map (·.1)).map encC))).length)]).set p (MObj.row 30 5 (stL (Sch.mk k1 i1) (c1 ++ c2) ((c1 ++ c2).zip (w1 ++ w2)) i).length)) ++ [MObj.orow 30 5 ((List.take (k - 0) (List.drop 0 (encVs ((stL (Sch.mk k1 i1) (c1 ++ c2) ((c1 ++ c2).zip (w1 ++ w2)) i).map (·.2))))).length + 1 + (List.take ((encVs ((stL (Sch.mk k1 i1) (c1 ++ c2) ((c1 ++ c2).zip (w1 ++ w2)) i).map (·.2))).length - k) (List.drop k (encVs ((stL (Sch.mk k1 i1) (c1 ++ c2) ((c1 ++ c2).zip (w1 ++ w2)) i).map (·.2))))).length) (flat (List.take (k - 0) (List.drop 0 (encVs ((stL (Sch.mk k1 i1) (c1 ++ c2) ((c1 ++ c2).zip (w1 ++ w2)) i).map (·.2))))) ++ flat [encV (Val.mk vn vm vs_ vc vw)] ++ flat (List.take ((encVs ((stL (Sch.mk k1 i1) (c1 ++ c2) ((c1 ++ c2).zip (w1 ++ w2)) i).map (·.2))).length - k) (List.drop k (encVs ((stL (Sch.mk k1 i1) (c1 ++ c2) ((c1 ++ c2).zip (w1 ++ w2)) i).map (·.2))))))])), S ++ (.cells (encS (.mk 8 [.mk k1 i1])).cells :: .cells (encV (.mk 0 0 [] c1 w1)).cells :: .cells (encV (.mk 0 0 [] c2 w2)).cells :: .cells [.int .u64 0, .int .u64 0, .lst0, .lst0, .lst0] :: .row 55 1 ((c1.map encC).length + (c2.map encC).length) :: .row 30 5 ((encVs w1).length + (encVs w2).length) :: .cells [.int .u64 0, .int .u64 0, .lst0, .lst none 1 (((stL (Sch.mk k1 i1) (c1 ++ c2) ((c1 ++ c2).zip (w1 ++ w2)) (i + 1)).map (·.1)).map encC), .ow (S.length + (((R ++ [MObj.row 55 1 ((List.take (k - 0) (List.drop 0 (((stL (Sch.mk k1 i1) (c1 ++ c2) ((c1 ++ c2).zip (w1 ++ w2)) i).map (·.1)).map encC))).length + 1 + (List.take ((((stL (Sch.mk k1 i1) (c1 ++ c2) ((c1 ++ c2).zip (w1 ++ w2)) i).map (·.1)).map encC).length - k) (List.drop k (((stL (Sch.mk k1 i1) (c1 ++ c2) ((c1 ++ c2).zip (w1 ++ w2)) i).map (·.1)).map encC))).length)]).set p (MObj.row 30 5 (stL (Sch.mk k1 i1) (c1 ++ c2) ((c1 ++ c2).zip (w1 ++ w2)) i).length)).length + 7)) 5 ((List.take (k - 0) (List.drop 0 (encVs ((stL (Sch.mk k1 i1) (c1 ++ c2) ((c1 ++ c2).zip (w1 ++ w2)) i).map (·.2))))).length + 1 + (List.take ((encVs ((stL (Sch.mk k1 i1) (c1 ++ c2) ((c1 ++ c2).zip (w1 ++ w2)) i).map (·.2))).length - k) (List.drop k (encVs ((stL (Sch.mk k1 i1) (c1 ++ c2) ((c1 ++ c2).zip (w1 ++ w2)) i).map (·.2))))).length)] :: (((R ++ [MObj.row 55 1 ((List.take (k - 0) (List.drop 0 (((stL (Sch.mk k1 i1) (c1 ++ c2) ((c1 ++ c2).zip (w1 ++ w2)) i).map (·.1)).map encC))).length + 1 + (List.take ((((stL (Sch.mk k1 i1) (c1 ++ c2) ((c1 ++ c2).zip (w1 ++ w2)) i).map (·.1)).map encC).length - k) (List.drop k (((stL (Sch.mk k1 i1) (c1 ++ c2) ((c1 ++ c2).zip (w1 ++ w2)) i).map (·.1)).map encC))).length)]).set p (MObj.row 30 5 (stL (Sch.mk k1 i1) (c1 ++ c2) ((c1 ++ c2).zip (w1 ++ w2)) i).length)) ++ [MObj.orow 30 5 ((List.take (k - 0) (List.drop 0 (encVs ((stL (Sch.mk k1 i1) (c1 ++ c2) ((c1 ++ c2).zip (w1 ++ w2)) i).map (·.2))))).length + 1 + (List.take ((encVs ((stL (Sch.mk k1 i1) (c1 ++ c2) ((c1 ++ c2).zip (w1 ++ w2)) i).map (·.2))).length - k) (List.drop k (encVs ((stL (Sch.mk k1 i1) (c1 ++ c2) ((c1 ++ c2).zip (w1 ++ w2)) i).map (·.2))))).length) (flat (List.take (k - 0) (List.drop 0 (encVs ((stL (Sch.mk k1 i1) (c1 ++ c2) ((c1 ++ c2).zip (w1 ++ w2)) i).map (·.2))))) ++ flat [encV (Val.mk vn vm vs_ vc vw)] ++ flat (List.take ((encVs ((stL (Sch.mk k1 i1) (c1 ++ c2) ((c1 ++ c2).zip (w1 ++ w2)) i).map (·.2))).length - k) (List.drop k (encVs ((stL (Sch.mk k1 i1) (c1 ++ c2) ((c1 ++ c2).zip (w1 ++ w2)) i).map (·.2))))))]))] mo (by decide) V V V V ?_
        refine zV V V (.cons (zJ V V zZ0 Vv) (.cons (zJ V V zZ0 Vv) (.cons (zJ V V zZ0 Vv) (.cons (zJ V V zZ0 Vv) (.nil))))) <| zV V V (.cons (zE0 V V V ta28 V Vv) (.cons (zE0 V V V ta28 V Vv) (.cons (zE0 V V V ta28 V Vv) (.cons (zE0 V V V ta28 V Vv) (.nil))))) <| zV V V (.cons (zS V V Vv) (.cons (zS V V Vv) (.cons (zS V V Vv) (.cons (zS V V Vv) (.nil))))) <| dO V V V (zL2 V zE sz30 V .none (.some V V) (by first | omega | (simp only [zC, zO]; omega)) (by first | omega | (simp only [zC, zO]; omega)) Vv) ?_
        refine zL1 V V V V (op_append0_owL (k := ((R ++ [MObj.row 55 1 ((List.take (k - 0) (List.drop 0 (((stL (Sch.mk k1 i1) (c1 ++ c2) ((c1 ++ c2).zip (w1 ++ w2)) i).map (·.1)).map encC))).length + 1 + (List.take ((((stL (Sch.mk k1 i1) (c1 ++ c2) ((c1 ++ c2).zip (w1 ++ w2)) i).map (·.1)).map encC).length - k) (List.drop k (((stL (Sch.mk k1 i1) (c1 ++ c2) ((c1 ++ c2).zip (w1 ++ w2)) i).map (·.1)).map encC))).length)]).set p (MObj.row 30 5 (stL (Sch.mk k1 i1) (c1 ++ c2) ((c1 ++ c2).zip (w1 ++ w2)) i).length)).length + 7) V zE el30 V V (by simp only [List.length_take, List.length_drop, zC, zW, List.length_nil, zM, zO]; omega) (by simp only [List.length_take, List.length_drop, zC, zW, List.length_nil, zM, zO]; omega) V V Vv) ?_
        refine zV V V (.cons (zS V V Vv) (.cons (zS V V Vv) (.cons (zS V V Vv) (.cons (zS V V Vv) (.nil))))) <| zV V V (.cons (zS V V Vv) (.cons (zS V V Vv) (.cons (zS V V Vv) (.cons (zS V V Vv) (.nil))))) <| zV V V (.cons (zG V zE sz30 (by decide) V V V (zN1 hs3) Vv) (.cons (zG V zE sz30 (by decide) V V V (zN1 hs3) Vv) (.cons (zG V zE sz30 (by decide) V V V (zN1 hs3) Vv) (.cons (zG V zE sz30 (by decide) V V V (zN1 hs3) Vv) (.nil))))) ?_
        refine zV V V (.cons (zI V V ta30 V Vv) (.cons (zI V V ta30 V Vv) (.cons (zI V V ta30 V Vv) (.cons (zI V V ta30 V Vv) (.nil))))) <| zV V V (.cons (zA1 V zE el30 V V (by decide) (by decide) V V Vv) (.cons (zA1 V zE el30 V V (by decide) (by decide) V V Vv) (.nil))) ?_
        refine zL1 V V V V (op_append_owL V zE el30 V V end7 (by simp only [List.length_take, List.length_drop, zC, zW, List.length_nil, zM, zO]; omega) (by simp only [List.length_take, List.length_drop, zC, zW, List.length_nil, zM, zO]; omega) set7 Vv) ?_
        refine zV V V (.cons (zJ V V zZ0 Vv) (.cons (zJ V V zZ0 Vv) (.cons (zJ V V zZ0 Vv) (.cons (zJ V V zZ0 Vv) (.nil))))) <| zV V V (.cons (zE0 V V V ta28 V Vv) (.cons (zE0 V V V ta28 V Vv) (.cons (zE0 V V V ta28 V Vv) (.cons (zE0 V V V ta28 V Vv) (.nil))))) <| zV V V (.cons (zS V V Vv) (.cons (zS V V Vv) (.cons (zS V V Vv) (.cons (zS V V Vv) (.nil))))) <| zV V V (.cons (zL2 V zE sz30 V (.some V V) .none (by first | omega | (simp only [zC, zO]; omega)) (by first | omega | (simp only [zC, zO]; omega)) Vv) (.cons (zL2 V zE sz30 V (.some V V) .none (by first | omega | (simp only [zC, zO]; omega)) (by first | omega | (simp only [zC, zO]; omega)) Vv) (.cons (zL2 V zE sz30 V (.some V V) .none (by first | omega | (simp only [zC, zO]; omega)) (by first | omega | (simp only [zC, zO]; omega)) Vv) (.nil)))) ?_
        refine zL1 V V V V (op_append_owL V zE el30 V V end7 (by simp only [List.length_take, List.length_drop, zC, zW, List.length_nil, zM, zO]; omega) (by simp only [List.length_take, List.length_drop, zC, zW, List.length_nil, zM, zO]; omega) set7 Vv) ?_
        refine dO V V V (zJ V V zZ0 Vv) <| zL1 V V V V (zG0 V V V V sz28 V V (zA V) V Vv) <| zK0 <| qR V <| qM V V V <| qO V <| zO0 V V V V <| qA V V V <| qN ?_
        have hR3 : (((R ++ [MObj.row 55 1 ((List.take (k - 0) (List.drop 0 (((stL (Sch.mk k1 i1) (c1 ++ c2) ((c1 ++ c2).zip (w1 ++ w2)) i).map (·.1)).map encC))).length + 1 + (List.take ((((stL (Sch.mk k1 i1) (c1 ++ c2) ((c1 ++ c2).zip (w1 ++ w2)) i).map (·.1)).map encC).length - k) (List.drop k (((stL (Sch.mk k1 i1) (c1 ++ c2) ((c1 ++ c2).zip (w1 ++ w2)) i).map (·.1)).map encC))).length)]).set p (MObj.row 30 5 (stL (Sch.mk k1 i1) (c1 ++ c2) ((c1 ++ c2).zip (w1 ++ w2)) i).length)) ++ [MObj.orow 30 5 ((List.take (k - 0) (List.drop 0 (encVs ((stL (Sch.mk k1 i1) (c1 ++ c2) ((c1 ++ c2).zip (w1 ++ w2)) i).map (·.2))))).length + 1 + (List.take ((encVs ((stL (Sch.mk k1 i1) (c1 ++ c2) ((c1 ++ c2).zip (w1 ++ w2)) i).map (·.2))).length - k) (List.drop k (encVs ((stL (Sch.mk k1 i1) (c1 ++ c2) ((c1 ++ c2).zip (w1 ++ w2)) i).map (·.2))))).length) (flat (List.take (k - 0) (List.drop 0 (encVs ((stL (Sch.mk k1 i1) (c1 ++ c2) ((c1 ++ c2).zip (w1 ++ w2)) i).map (·.2))))) ++ flat [encV (Val.mk vn vm vs_ vc vw)] ++ flat (List.take ((encVs ((stL (Sch.mk k1 i1) (c1 ++ c2) ((c1 ++ c2).zip (w1 ++ w2)) i).map (·.2))).length - k) (List.drop k (encVs ((stL (Sch.mk k1 i1) (c1 ++ c2) ((c1 ++ c2).zip (w1 ++ w2)) i).map (·.2))))))])[((R ++ [MObj.row 55 1 ((List.take (k - 0) (List.drop 0 (((stL (Sch.mk k1 i1) (c1 ++ c2) ((c1 ++ c2).zip (w1 ++ w2)) i).map (·.1)).map encC))).length + 1 + (List.take ((((stL (Sch.mk k1 i1) (c1 ++ c2) ((c1 ++ c2).zip (w1 ++ w2)) i).map (·.1)).map encC).length - k) (List.drop k (((stL (Sch.mk k1 i1) (c1 ++ c2) ((c1 ++ c2).zip (w1 ++ w2)) i).map (·.1)).map encC))).length)]).set p (MObj.row 30 5 (stL (Sch.mk k1 i1) (c1 ++ c2) ((c1 ++ c2).zip (w1 ++ w2)) i).length)).length]? = some (MObj.orow 30 5 (stL (Sch.mk k1 i1) (c1 ++ c2) ((c1 ++ c2).zip (w1 ++ w2)) (i + 1)).length (flat (encVs ((stL (Sch.mk k1 i1) (c1 ++ c2) ((c1 ++ c2).zip (w1 ++ w2)) (i + 1)).map (·.2))))) := by
         rw [hvv, ← hln]
         simp
        refine ⟨⟨i + 1, _, _⟩, by dsimp only; omega, ⟨by dsimp only; omega, hR3⟩, by dsimp only; rw [hln], (.keep V (.keep V (.keep V (.nil)))), (.keep V (.keep V (.eq V (by rw [okL_succ hsL, hokc, Bool.and_true]) (.eq V (zK1 hlt (by simp only [maxLen]; omega)) (.nil)))))⟩
      ·
       have hgk : k = (stL (Sch.mk k1 i1) (c1 ++ c2) ((c1 ++ c2).zip (w1 ++ w2)) i).length := by rw [zC, zC] at h110; have := zP1 h110; omega
       have hend : ∀ x, (stL (Sch.mk k1 i1) (c1 ++ c2) ((c1 ++ c2).zip (w1 ++ w2)) i)[k]? = some x → aheadF x.1 ci = false := fun x hx => by have := (zH.1 hx).1; omega
       refine dS V V <| dS V V <| dS V V <| dS V V <| dS V V <| dS V V <| dS V V <| dS V V <| dS V V <| dS V V <| dO V V V (zD1 V V V Vv) <| zK0 <| zQ V (V) <| zF1 <| zB ?_
       refine zV0 [4, 10, 15, 17] [_, S ++ (.cells (encS (.mk 8 [.mk k1 i1])).cells :: .cells (encV (.mk 0 0 [] c1 w1)).cells :: .cells (encV (.mk 0 0 [] c2 w2)).cells :: .cells [.int .u64 0, .int .u64 0, .lst0, .lst0, .lst0] :: .row 55 1 ((c1.map encC).length + (c2.map encC).length) :: .row 30 5 ((encVs w1).length + (encVs w2).length) :: .cells [.int .u64 0, .int .u64 0, .lst0, .lst none 1 (((stL (Sch.mk k1 i1) (c1 ++ c2) ((c1 ++ c2).zip (w1 ++ w2)) i).map (·.1)).map encC), .ow (S.length + (p + 7)) 5 (stL (Sch.mk k1 i1) (c1 ++ c2) ((c1 ++ c2).zip (w1 ++ w2)) i).length] :: (R ++ [MObj.row 55 1 ((List.take (k - 0) (List.drop 0 (((stL (Sch.mk k1 i1) (c1 ++ c2) ((c1 ++ c2).zip (w1 ++ w2)) i).map (·.1)).map encC))).length)])), S ++ (.cells (encS (.mk 8 [.mk k1 i1])).cells :: .cells (encV (.mk 0 0 [] c1 w1)).cells :: .cells (encV (.mk 0 0 [] c2 w2)).cells :: .cells [.int .u64 0, .int .u64 0, .lst0, .lst0, .lst0] :: .row 55 1 ((c1.map encC).length + (c2.map encC).length) :: .row 30 5 ((encVs w1).length + (encVs w2).length) :: .cells [.int .u64 0, .int .u64 0, .lst0, .lst none 1 (((stL (Sch.mk k1 i1) (c1 ++ c2) ((c1 ++ c2).zip (w1 ++ w2)) i).map (·.1)).map encC), .ow (S.length + (p + 7)) 5 (stL (Sch.mk k1 i1) (c1 ++ c2) ((c1 ++ c2).zip (w1 ++ w2)) i).length] :: (R ++ [MObj.row 55 1 ((List.take (k - 0) (List.drop 0 (((stL (Sch.mk k1 i1) (c1 ++ c2) ((c1 ++ c2).zip (w1 ++ w2)) i).map (·.1)).map encC))).length + 1)])), S ++ (.cells (encS (.mk 8 [.mk k1 i1])).cells :: .cells (encV (.mk 0 0 [] c1 w1)).cells :: .cells (encV (.mk 0 0 [] c2 w2)).cells :: .cells [.int .u64 0, .int .u64 0, .lst0, .lst0, .lst0] :: .row 55 1 ((c1.map encC).length + (c2.map encC).length) :: .row 30 5 ((encVs w1).length + (encVs w2).length) :: .cells [.int .u64 0, .int .u64 0, .lst0, .lst none 1 (((stL (Sch.mk k1 i1) (c1 ++ c2) ((c1 ++ c2).zip (w1 ++ w2)) i).map (·.1)).map encC), .ow (S.length + (p + 7)) 5 (stL (Sch.mk k1 i1) (c1 ++ c2) ((c1 ++ c2).zip (w1 ++ w2)) i).length] :: (R ++ [MObj.row 55 1 ((List.take (k - 0) (List.drop 0 (((stL (Sch.mk k1 i1) (c1 ++ c2) ((c1 ++ c2).zip (w1 ++ w2)) i).map (·.1)).map encC))).length + 1 + (List.take ((((stL (Sch.mk k1 i1) (c1 ++ c2) ((c1 ++ c2).zip (w1 ++ w2)) i).map (·.1)).map encC).length - k) (List.drop k (((stL (Sch.mk k1 i1) (c1 ++ c2) ((c1 ++ c2).zip (w1 ++ w2)) i).map (·.1)).map encC))).length)])), S ++ (.cells (encS (.mk 8 [.mk k1 i1])).cells :: .cells (encV (.mk 0 0 [] c1 w1)).cells :: .cells (encV (.mk 0 0 [] c2 w2)).cells :: .cells [.int .u64 0, .int .u64 0, .lst0, .lst0, .lst0] :: .row 55 1 ((c1.map encC).length + (c2.map encC).length) :: .row 30 5 ((encVs w1).length + (encVs w2).length) :: .cells [.int .u64 0, .int .u64 0, .lst0, .lst (some (S.length + (R.length + 7))) 1 ((List.take (k - 0) (List.drop 0 (((stL (Sch.mk k1 i1) (c1 ++ c2) ((c1 ++ c2).zip (w1 ++ w2)) i).map (·.1)).map encC))) ++ [encC ci] ++ (List.take ((((stL (Sch.mk k1 i1) (c1 ++ c2) ((c1 ++ c2).zip (w1 ++ w2)) i).map (·.1)).map encC).length - k) (List.drop k (((stL (Sch.mk k1 i1) (c1 ++ c2) ((c1 ++ c2).zip (w1 ++ w2)) i).map (·.1)).map encC)))), .ow (S.length + (p + 7)) 5 (stL (Sch.mk k1 i1) (c1 ++ c2) ((c1 ++ c2).zip (w1 ++ w2)) i).length] :: (R ++ [MObj.row 55 1 ((List.take (k - 0) (List.drop 0 (((stL (Sch.mk k1 i1) (c1 ++ c2) ((c1 ++ c2).zip (w1 ++ w2)) i).map (·.1)).map encC))).length + 1 + (List.take ((((stL (Sch.mk k1 i1) (c1 ++ c2) ((c1 ++ c2).zip (w1 ++ w2)) i).map (·.1)).map encC).length - k) (List.drop k (((stL (Sch.mk k1 i1) (c1 ++ c2) ((c1 ++ c2).zip (w1 ++ w2)) i).map (·.1)).map encC))).length)]))] mo (by decide) V V V V ?_
       refine zV V V (.cons (zJ V V zM1 Vv) (.cons (zJ V V zM1 Vv) (.cons (zJ V V zM1 Vv) (.cons (zJ V V zM1 Vv) (.nil))))) <| zV V V (.cons (zE0 V V V ta27 V Vv) (.cons (zE0 V V V ta27 V Vv) (.cons (zE0 V V V ta27 V Vv) (.cons (zE0 V V V ta27 V Vv) (.nil))))) <| zV V V (.cons (zS V V Vv) (.cons (zS V V Vv) (.cons (zS V V Vv) (.cons (zS V V Vv) (.nil))))) <| dO V V V (zL2 V zN sz55 V .none (.some V V) (by first | omega | (simp only [zC, zO]; omega)) (by first | omega | (simp only [zC, zO]; omega)) Vv) ?_
       refine zL1 V V V V (zB5 (k := R.length + 7) V zN el55 V V (by simp only [List.length_take, List.length_drop, zC, zW, List.length_nil, zM]; omega) (by simp only [List.length_take, List.length_drop, zC, zW, List.length_nil, zM]; omega) V V Vv) ?_
       refine zV V V (.cons (zS V V Vv) (.cons (zS V V Vv) (.cons (zS V V Vv) (.cons (zS V V Vv) (.nil))))) <| zV V V (.cons (zS V V Vv) (.cons (zS V V Vv) (.cons (zS V V Vv) (.cons (zS V V Vv) (.nil))))) <| zV V V (.cons (zG V zN sz55 (by decide) V V V (zR0 hs) Vv) (.cons (zG V zN sz55 (by decide) V V V (zR0 hs) Vv) (.cons (zG V zN sz55 (by decide) V V V (zR0 hs) Vv) (.cons (zG V zN sz55 (by decide) V V V (zR0 hs) Vv) (.nil))))) ?_
       refine zV V V (.cons (zI V V ta55 V Vv) (.cons (zI V V ta55 V Vv) (.cons (zI V V ta55 V Vv) (.cons (zI V V ta55 V Vv) (.nil))))) <| zV V V (.cons (zA1 V zN el55 V V (by decide) (by decide) V V Vv) (.cons (zA1 V zN el55 V V (by decide) (by decide) V V Vv) (.nil))) ?_
       refine zL1 V V V V (zG2 V zN el55 V V end7 V (by simp only [List.length_take, List.length_drop, zC, zW, List.length_nil, zM]; omega) (by simp only [List.length_take, List.length_drop, zC, zW, List.length_nil, zM]; omega) set7 Vv) ?_
       refine zV V V (.cons (zJ V V zM1 Vv) (.cons (zJ V V zM1 Vv) (.cons (zJ V V zM1 Vv) (.cons (zJ V V zM1 Vv) (.nil))))) <| zV V V (.cons (zE0 V V V ta27 V Vv) (.cons (zE0 V V V ta27 V Vv) (.cons (zE0 V V V ta27 V Vv) (.cons (zE0 V V V ta27 V Vv) (.nil))))) <| zV V V (.cons (zS V V Vv) (.cons (zS V V Vv) (.cons (zS V V Vv) (.cons (zS V V Vv) (.nil))))) <| zV V V (.cons (zL2 V zN sz55 V (.some V V) .none (by first | omega | (simp only [zC, zO]; omega)) (by first | omega | (simp only [zC, zO]; omega)) Vv) (.cons (zL2 V zN sz55 V (.some V V) .none (by first | omega | (simp only [zC, zO]; omega)) (by first | omega | (simp only [zC, zO]; omega)) Vv) (.cons (zL2 V zN sz55 V (.some V V) .none (by first | omega | (simp only [zC, zO]; omega)) (by first | omega | (simp only [zC, zO]; omega)) Vv) (.nil)))) ?_
       refine zL1 V V V V (zG2 V zN el55 V V end7 (by simp only [zM, zW, List.length_nil]) (by simp only [List.length_take, List.length_drop, zC, zW, List.length_nil, zM]; omega) (by simp only [List.length_take, List.length_drop, zC, zW, List.length_nil, zM]; omega) set7 Vv) ?_
       refine dO V V V (zJ V V zM1 Vv) <| zL1 V V V V (zG0 V V V V sz27 V V (zA V) V Vv) <| zK0 ?_
       have hst : (stL (Sch.mk k1 i1) (c1 ++ c2) ((c1 ++ c2).zip (w1 ++ w2)) (i + 1)) = (stL (Sch.mk k1 i1) (c1 ++ c2) ((c1 ++ c2).zip (w1 ++ w2)) i).take k ++ (ci, (Val.mk vn vm vs_ vc vw)) :: (stL (Sch.mk k1 i1) (c1 ++ c2) ((c1 ++ c2).zip (w1 ++ w2)) i).drop k := (stL_succ hsL).trans (step_ins hnb hni hah hk hend)
       have hokc : okC1 (okJ (Sch.mk k1 i1)) (c1 ++ c2) (stL (Sch.mk k1 i1) (c1 ++ c2) ((c1 ++ c2).zip (w1 ++ w2)) i) (ci, (Val.mk vn vm vs_ vc vw)) = true := by
        unfold okC1
        rw [show look (stL (Sch.mk k1 i1) (c1 ++ c2) ((c1 ++ c2).zip (w1 ++ w2)) i) (ci, (Val.mk vn vm vs_ vc vw)).1 = none from zC3 fun h => hni (zZ3.1 h)]
        simp
       have hcc : (List.take (k - 0) (List.drop 0 (((stL (Sch.mk k1 i1) (c1 ++ c2) ((c1 ++ c2).zip (w1 ++ w2)) i).map (·.1)).map encC))) ++ [encC ci] ++ (List.take ((((stL (Sch.mk k1 i1) (c1 ++ c2) ((c1 ++ c2).zip (w1 ++ w2)) i).map (·.1)).map encC).length - k) (List.drop k (((stL (Sch.mk k1 i1) (c1 ++ c2) ((c1 ++ c2).zip (w1 ++ w2)) i).map (·.1)).map encC))) = ((stL (Sch.mk k1 i1) (c1 ++ c2) ((c1 ++ c2).zip (w1 ++ w2)) (i + 1)).map (·.1)).map encC := by
        rw [hst]
        simp [List.take_of_length_le]
       have hvv : flat (List.take (k - 0) (List.drop 0 (encVs ((stL (Sch.mk k1 i1) (c1 ++ c2) ((c1 ++ c2).zip (w1 ++ w2)) i).map (·.2))))) ++ flat [encV (Val.mk vn vm vs_ vc vw)] ++ flat (List.take ((encVs ((stL (Sch.mk k1 i1) (c1 ++ c2) ((c1 ++ c2).zip (w1 ++ w2)) i).map (·.2))).length - k) (List.drop k (encVs ((stL (Sch.mk k1 i1) (c1 ++ c2) ((c1 ++ c2).zip (w1 ++ w2)) i).map (·.2))))) = flat (encVs ((stL (Sch.mk k1 i1) (c1 ++ c2) ((c1 ++ c2).zip (w1 ++ w2)) (i + 1)).map (·.2))) := by
        rw [hst, ← zZ4, ← zZ4]
        congr 1
        simp [zY3, List.take_of_length_le]
       have hln : (stL (Sch.mk k1 i1) (c1 ++ c2) ((c1 ++ c2).zip (w1 ++ w2)) (i + 1)).length = (List.take (k - 0) (List.drop 0 (encVs ((stL (Sch.mk k1 i1) (c1 ++ c2) ((c1 ++ c2).zip (w1 ++ w2)) i).map (·.2))))).length + 1 + (List.take ((encVs ((stL (Sch.mk k1 i1) (c1 ++ c2) ((c1 ++ c2).zip (w1 ++ w2)) i).map (·.2))).length - k) (List.drop k (encVs ((stL (Sch.mk k1 i1) (c1 ++ c2) ((c1 ++ c2).zip (w1 ++ w2)) i).map (·.2))))).length := by
        rw [hst]
        simp [zO]
        omega
       have hpl := (zH.1 hR).1
       refine mwp_cellsub (L' := (.cells (encS (.mk 8 [.mk k1 i1])).cells :: .cells (encV (.mk 0 0 [] c1 w1)).cells :: .cells (encV (.mk 0 0 [] c2 w2)).cells :: .cells [.int .u64 0, .int .u64 0, .lst0, .lst0, .lst0] :: .row 55 1 ((c1.map encC).length + (c2.map encC).length) :: .row 30 5 ((encVs w1).length + (encVs w2).length) :: .cells [.int .u64 0, .int .u64 0, .lst0, .lst none 1 (((stL (Sch.mk k1 i1) (c1 ++ c2) ((c1 ++ c2).zip (w1 ++ w2)) (i + 1)).map (·.1)).map encC), .ow (S.length + (p + 7)) 5 (stL (Sch.mk k1 i1) (c1 ++ c2) ((c1 ++ c2).zip (w1 ++ w2)) i).length] :: (R ++ [MObj.row 55 1 ((List.take (k - 0) (List.drop 0 (((stL (Sch.mk k1 i1) (c1 ++ c2) ((c1 ++ c2).zip (w1 ++ w2)) i).map (·.1)).map encC))).length + 1 + (List.take ((((stL (Sch.mk k1 i1) (c1 ++ c2) ((c1 ++ c2).zip (w1 ++ w2)) i).map (·.1)).map encC).length - k) (List.drop k (((stL (Sch.mk k1 i1) (c1 ++ c2) ((c1 ++ c2).zip (w1 ++ w2)) i).map (·.1)).map encC))).length)]))) 6 V (.cons (.refl _) (.cons (.refl _) (.cons (.refl _) (.cons (Sub.trans (.view _ _ _) (.of_eq (by rw [hcc]))) (.cons (.refl _) .nil))))) V ?_
       refine mwp_owfreezeL (L' := (.cells (encS (.mk 8 [.mk k1 i1])).cells :: .cells (encV (.mk 0 0 [] c1 w1)).cells :: .cells (encV (.mk 0 0 [] c2 w2)).cells :: .cells [.int .u64 0, .int .u64 0, .lst0, .lst0, .lst0] :: .row 55 1 ((c1.map encC).length + (c2.map encC).length) :: .row 30 5 ((encVs w1).length + (encVs w2).length) :: .cells [.int .u64 0, .int .u64 0, .lst0, .lst none 1 (((stL (Sch.mk k1 i1) (c1 ++ c2) ((c1 ++ c2).zip (w1 ++ w2)) (i + 1)).map (·.1)).map encC), .lst (some (S.length + (p + 7))) 5 (encVs ((stL (Sch.mk k1 i1) (c1 ++ c2) ((c1 ++ c2).zip (w1 ++ w2)) i).map (·.2)))] :: ((R ++ [MObj.row 55 1 ((List.take (k - 0) (List.drop 0 (((stL (Sch.mk k1 i1) (c1 ++ c2) ((c1 ++ c2).zip (w1 ++ w2)) i).map (·.1)).map encC))).length + 1 + (List.take ((((stL (Sch.mk k1 i1) (c1 ++ c2) ((c1 ++ c2).zip (w1 ++ w2)) i).map (·.1)).map encC).length - k) (List.drop k (((stL (Sch.mk k1 i1) (c1 ++ c2) ((c1 ++ c2).zip (w1 ++ w2)) i).map (·.1)).map encC))).length)]).set p (MObj.row 30 5 (stL (Sch.mk k1 i1) (c1 ++ c2) ((c1 ++ c2).zip (w1 ++ w2)) i).length)))) 6 4 (p + 7) (xs := encVs ((stL (Sch.mk k1 i1) (c1 ++ c2) ((c1 ++ c2).zip (w1 ++ w2)) i).map (·.2))) V V (get7a hR) V (by rw [zO, zC]) zA6 encVs_one V ?_
       refine zV0 [4, 10, 15, 17] [_, S ++ (.cells (encS (.mk 8 [.mk k1 i1])).cells :: .cells (encV (.mk 0 0 [] c1 w1)).cells :: .cells (encV (.mk 0 0 [] c2 w2)).cells :: .cells [.int .u64 0, .int .u64 0, .lst0, .lst0, .lst0] :: .row 55 1 ((c1.map encC).length + (c2.map encC).length) :: .row 30 5 ((encVs w1).length + (encVs w2).length) :: .cells [.int .u64 0, .int .u64 0, .lst0, .lst none 1 (((stL (Sch.mk k1 i1) (c1 ++ c2) ((c1 ++ c2).zip (w1 ++ w2)) (i + 1)).map (·.1)).map encC), .lst (some (S.length + (p + 7))) 5 (encVs ((stL (Sch.mk k1 i1) (c1 ++ c2) ((c1 ++ c2).zip (w1 ++ w2)) i).map (·.2)))] :: (((R ++ [MObj.row 55 1 ((List.take (k - 0) (List.drop 0 (((stL (Sch.mk k1 i1) (c1 ++ c2) ((c1 ++ c2).zip (w1 ++ w2)) i).map (·.1)).map encC))).length + 1 + (List.take ((((stL (Sch.mk k1 i1) (c1 ++ c2) ((c1 ++ c2).zip (w1 ++ w2)) i).map (·.1)).map encC).length - k) (List.drop k (((stL (Sch.mk k1 i1) (c1 ++ c2) ((c1 ++ c2).zip (w1 ++ w2)) i).map (·.1)).map encC))).length)]).set p (MObj.row 30 5 (stL (Sch.mk k1 i1) (c1 ++ c2) ((c1 ++ c2).zip (w1 ++ w2)) i).length)) ++ [MObj.orow 30 5 ((List.take (k - 0) (List.drop 0 (encVs ((stL (Sch.mk k1 i1) (c1 ++ c2) ((c1 ++ c2).zip (w1 ++ w2)) i).map (·.2))))).length) (flat (List.take (k - 0) (List.drop 0 (encVs ((stL (Sch.mk k1 i1) (c1 ++ c2) ((c1 ++ c2).zip (w1 ++ w2)) i).map (·.2))))))])), S ++ (.cells (encS (.mk 8 [.mk k1 i1])).cells :: .cells (encV (.mk 0 0 [] c1 w1)).cells :: .cells (encV (.mk 0 0 [] c2 w2)).cells :: .cells [.int .u64 0, .int .u64 0, .lst0, .lst0, .lst0] :: .row 55 1 ((c1.map encC).length + (c2.map encC).length) :: .row 30 5 ((encVs w1).length + (encVs w2).length) :: .cells [.int .u64 0, .int .u64 0, .lst0, .lst none 1 (((stL (Sch.mk k1 i1) (c1 ++ c2) ((c1 ++ c2).zip (w1 ++ w2)) (i + 1)).map (·.1)).map encC), .lst (some (S.length + (p + 7))) 5 (encVs ((stL (Sch.mk k1 i1) (c1 ++ c2) ((c1 ++ c2).zip (w1 ++ w2)) i).map (·.2)))] :: (((R ++ [MObj.row 55 1 ((List.take (k - 0) (List.drop 0 (((stL (Sch.mk k1 i1) (c1 ++ c2) ((c1 ++ c2).zip (w1 ++ w2)) i).map (·.1)).map encC))).length + 1 + (List.take ((((stL (Sch.mk k1 i1) (c1 ++ c2) ((c1 ++ c2).zip (w1 ++ w2)) i).map (·.1)).map encC).length - k) (List.drop k (((stL (Sch.mk k1 i1) (c1 ++ c2) ((c1 ++ c2).zip (w1 ++ w2)) i).map (·.1)).map encC))).length)]).set p (MObj.row 30 5 (stL (Sch.mk k1 i1) (c1 ++ c2) ((c1 ++ c2).zip (w1 ++ w2)) i).length)) ++ [MObj.orow 30 5 ((List.take (k - 0) (List.drop 0 (encVs ((stL (Sch.mk k1 i1) (c1 ++ c2) ((c1 ++ c2).zip (w1 ++ w2)) i).map (·.2))))).length + 1) (flat (List.take (k - 0) (List.drop 0 (encVs ((stL (Sch.mk k1 i1) (c1 ++ c2) ((c1 ++ c2).zip (w1 ++ w2)) i).map (·.2))))) ++ flat [encV (Val.mk vn vm vs_ vc vw)])])), S ++ (.cells (encS (.mk 8 [.mk k1 i1])).cells :: .cells (encV (.mk 0 0 [] c1 w1)).cells :: .cells (encV (.mk 0 0 [] c2 w2)).cells :: .cells [.int .u64 0, .int .u64 0, .lst0, .lst0, .lst0] :: .row 55 1 ((c1.map encC).length + (c2.map encC).length) :: .row 30 5 ((encVs w1).length + (encVs w2).length) :: .cells [.int .u64 0, .int .u64 0, .lst0, .lst none 1 (((stL (Sch.mk k1 i1) (c1 ++ c2) ((c1 ++ c2).zip (w1 ++ w2)) (i + 1)).map (·.1)).map encC), .lst (some (S.length + (p + 7))) 5 (encVs ((stL (Sch.mk k1 i1) (c1 ++ c2) ((c1 ++ c2).zip (w1 ++ w2)) i).map (·.2)))] :: (((R ++ [MObj.row 55 1 ((List.take (k - 0) (List.drop 0 (((stL (Sch.mk k1 i1) (c1 ++ c2) ((c1 ++ c2).zip (w1 ++ w2)) i).map (·.1)).map encC))).length + 1 + (List.take ((((stL (Sch.mk k1 i1) (c1 ++ c2) ((c1 ++ c2).zip (w1 ++ w2)) i).map (·.1)).map encC).length - k) (List.drop k (((stL (Sch.mk k1 i1) (c1 ++ c2) ((c1 ++ c2).zip (w1 ++ w2)) i).map (·.1)).map encC))).length)]).set p (MObj.row 30 5 (stL (Sch.mk k1 i1) (c1 ++ c2) ((c1 ++ c2).zip (w1 ++ w2)) i).length)) ++ [MObj.orow 30 5 ((List.take (k - 0) (List.drop 0 (encVs ((stL (Sch.mk k1 i1) (c1 ++ c2) ((c1 ++ c2).zip (w1 ++ w2)) i).map (·.2))))).length + 1 + (List.take ((encVs ((stL (Sch.mk k1 i1) (c1 ++ c2) ((c1 ++ c2).zip (w1 ++ w2)) i).map (·.2))).length - k) (List.drop k (encVs ((stL (Sch.mk k1 i1) (c1 ++ c2) ((c1 ++ c2).zip (w1 ++ w2)) i).map (·.2))))).length) (flat (List.take (k - 0) (List.drop 0 (encVs ((stL (Sch.mk k1 i1) (c1 ++ c2) ((c1 ++ c2).zip (w1 ++ w2)) i).map (·.2))))) ++ flat [encV (Val.mk vn vm vs_ vc vw)] ++ flat (List.take ((encVs ((stL (Sch.mk k1 i1) (c1 ++ c2) ((c1 ++ c2).zip (w1 ++ w2)) i).map (·.2))).length - k) (List.drop k (encVs ((stL (Sch.mk k1 i1) (c1 ++ c2) ((c1 ++ c2).zip (w1 ++ w2)) i).map (·.2))))))])), S ++ (.cells (encS (.mk 8 [.mk k1 i1])).cells :: .cells (encV (.mk 0 0 [] c1 w1)).cells :: .cells (encV (.mk 0 0 [] c2 w2)).cells :: .cells [.int .u64 0, .int .u64 0, .lst0, .lst0, .lst0] :: .row 55 1 ((c1.map encC).length + (c2.map encC).length) :: .row 30 5 ((encVs w1).length + (encVs w2).length) :: .cells [.int .u64 0, .int .u64 0, .lst0, .lst none 1 (((stL (Sch.mk k1 i1) (c1 ++ c2) ((c1 ++ c2).zip (w1 ++ w2)) (i + 1)).map (·.1)).map encC), .ow (S.length + (((R ++ [MObj.row 55 1 ((List.take (k - 0) (List.drop 0 (((stL (Sch.mk k1 i1) (c1 ++ c2) ((c1 ++ c2).zip (w1 ++ w2)) i).map (·.1)).map encC))).length + 1 + (List.take ((((stL (Sch.mk k1 i1) (c1 ++ c2) ((c1 ++ c2).zip (w1 ++ w2)) i).map (·.1)).map encC).length - k) (List.drop k (((stL (Sch.mk k1 i1) (c1 ++ c2) ((c1 ++ c2).zip (w1 ++ w2)) i).map (·.1)).map encC))).length)]).set p (MObj.row 30 5 (stL (Sch.mk k1 i1) (c1 ++ c2) ((c1 ++ c2).zip (w1 ++ w2)) i).length)).length + 7)) 5 ((List.take (k - 0) (List.drop 0 (encVs ((stL (Sch.mk k1 i1) (c1 ++ c2) ((c1 ++ c2).zip (w1 ++ w2)) i).map (·.2))))).length + 1 + (List.take ((encVs ((stL (Sch.mk k1 i1) (c1 ++ c2) ((c1 ++ c2).zip (w1 ++ w2)) i).map (·.2))).length - k) (List.drop k (encVs ((stL (Sch.mk k1 i1) (c1 ++ c2) ((c1 ++ c2).zip (w1 ++ w2)) i).map (·.2))))).length)] :: (((R ++ [MObj.row 55 1 ((List.take (k - 0) (List.drop 0 (((stL (Sch.mk k1 i1) (c1 ++ c2) ((c1 ++ c2).zip (w1 ++ w2)) i).map (·.1)).map encC))).length + 1 + (List.take ((((stL (Sch.mk k1 i1) (c1 ++ c2) ((c1 ++ c2).zip (w1 ++ w2)) i).map (·.1)).map encC).length - k) (List.drop k (((stL (Sch.mk k1 i1) (c1 ++ c2) ((c1 ++ c2).zip (w1 ++ w2)) i).map (·.1)).map encC))).length)]).set p (MObj.row 30 5 (stL (Sch.mk k1 i1) (c1 ++ c2) ((c1 ++ c2).zip (w1 ++ w2)) i).length)) ++ [MObj.orow 30 5 ((List.take (k - 0) (List.drop 0 (encVs ((stL (Sch.mk k1 i1) (c1 ++ c2) ((c1 ++ c2).zip (w1 ++ w2)) i).map (·.2))))).length + 1 + (List.take ((encVs ((stL (Sch.mk k1 i1) (c1 ++ c2) ((c1 ++ c2).zip (w1 ++ w2)) i).map (·.2))).length - k) (List.drop k (encVs ((stL (Sch.mk k1 i1) (c1 ++ c2) ((c1 ++ c2).zip (w1 ++ w2)) i).map (·.2))))).length) (flat (List.take (k - 0) (List.drop 0 (encVs ((stL (Sch.mk k1 i1) (c1 ++ c2) ((c1 ++ c2).zip (w1 ++ w2)) i).map (·.2))))) ++ flat [encV (Val.mk vn vm vs_ vc vw)] ++ flat (List.take ((encVs ((stL (Sch.mk k1 i1) (c1 ++ c2) ((c1 ++ c2).zip (w1 ++ w2)) i).map (·.2))).length - k) (List.drop k (encVs ((stL (Sch.mk k1 i1) (c1 ++ c2) ((c1 ++ c2).zip (w1 ++ w2)) i).map (·.2))))))]))] mo (by decide) V V V V ?_
       refine zV V V (.cons (zJ V V zZ0 Vv) (.cons (zJ V V zZ0 Vv) (.cons (zJ V V zZ0 Vv) (.cons (zJ V V zZ0 Vv) (.nil))))) <| zV V V (.cons (zE0 V V V ta28 V Vv) (.cons (zE0 V V V ta28 V Vv) (.cons (zE0 V V V ta28 V Vv) (.cons (zE0 V V V ta28 V Vv) (.nil))))) <| zV V V (.cons (zS V V Vv) (.cons (zS V V Vv) (.cons (zS V V Vv) (.cons (zS V V Vv) (.nil))))) <| dO V V V (zL2 V zE sz30 V .none (.some V V) (by first | omega | (simp only [zC, zO]; omega)) (by first | omega | (simp only [zC, zO]; omega)) Vv) ?_
       refine zL1 V V V V (op_append0_owL (k := ((R ++ [MObj.row 55 1 ((List.take (k - 0) (List.drop 0 (((stL (Sch.mk k1 i1) (c1 ++ c2) ((c1 ++ c2).zip (w1 ++ w2)) i).map (·.1)).map encC))).length + 1 + (List.take ((((stL (Sch.mk k1 i1) (c1 ++ c2) ((c1 ++ c2).zip (w1 ++ w2)) i).map (·.1)).map encC).length - k) (List.drop k (((stL (Sch.mk k1 i1) (c1 ++ c2) ((c1 ++ c2).zip (w1 ++ w2)) i).map (·.1)).map encC))).length)]).set p (MObj.row 30 5 (stL (Sch.mk k1 i1) (c1 ++ c2) ((c1 ++ c2).zip (w1 ++ w2)) i).length)).length + 7) V zE el30 V V (by simp only [List.length_take, List.length_drop, zC, zW, List.length_nil, zM, zO]; omega) (by simp only [List.length_take, List.length_drop, zC, zW, List.length_nil, zM, zO]; omega) V V Vv) ?_
       refine zV V V (.cons (zS V V Vv) (.cons (zS V V Vv) (.cons (zS V V Vv) (.cons (zS V V Vv) (.nil))))) <| zV V V (.cons (zS V V Vv) (.cons (zS V V Vv) (.cons (zS V V Vv) (.cons (zS V V Vv) (.nil))))) <| zV V V (.cons (zG V zE sz30 (by decide) V V V (zN1 hs3) Vv) (.cons (zG V zE sz30 (by decide) V V V (zN1 hs3) Vv) (.cons (zG V zE sz30 (by decide) V V V (zN1 hs3) Vv) (.cons (zG V zE sz30 (by decide) V V V (zN1 hs3) Vv) (.nil))))) ?_
       refine zV V V (.cons (zI V V ta30 V Vv) (.cons (zI V V ta30 V Vv) (.cons (zI V V ta30 V Vv) (.cons (zI V V ta30 V Vv) (.nil))))) <| zV V V (.cons (zA1 V zE el30 V V (by decide) (by decide) V V Vv) (.cons (zA1 V zE el30 V V (by decide) (by decide) V V Vv) (.nil))) ?_
       refine zL1 V V V V (op_append_owL V zE el30 V V end7 (by simp only [List.length_take, List.length_drop, zC, zW, List.length_nil, zM, zO]; omega) (by simp only [List.length_take, List.length_drop, zC, zW, List.length_nil, zM, zO]; omega) set7 Vv) ?_
       refine zV V V (.cons (zJ V V zZ0 Vv) (.cons (zJ V V zZ0 Vv) (.cons (zJ V V zZ0 Vv) (.cons (zJ V V zZ0 Vv) (.nil))))) <| zV V V (.cons (zE0 V V V ta28 V Vv) (.cons (zE0 V V V ta28 V Vv) (.cons (zE0 V V V ta28 V Vv) (.cons (zE0 V V V ta28 V Vv) (.nil))))) <| zV V V (.cons (zS V V Vv) (.cons (zS V V Vv) (.cons (zS V V Vv) (.cons (zS V V Vv) (.nil))))) <| zV V V (.cons (zL2 V zE sz30 V (.some V V) .none (by first | omega | (simp only [zC, zO]; omega)) (by first | omega | (simp only [zC, zO]; omega)) Vv) (.cons (zL2 V zE sz30 V (.some V V) .none (by first | omega | (simp only [zC, zO]; omega)) (by first | omega | (simp only [zC, zO]; omega)) Vv) (.cons (zL2 V zE sz30 V (.some V V) .none (by first | omega | (simp only [zC, zO]; omega)) (by first | omega | (simp only [zC, zO]; omega)) Vv) (.nil)))) ?_
       refine zL1 V V V V (op_append_owL V zE el30 V V end7 (by simp only [List.length_take, List.length_drop, zC, zW, List.length_nil, zM, zO]; omega) (by simp only [List.length_take, List.length_drop, zC, zW, List.length_nil, zM, zO]; omega) set7 Vv) ?_
       refine dO V V V (zJ V V zZ0 Vv) <| zL1 V V V V (zG0 V V V V sz28 V V (zA V) V Vv) <| zK0 <| qR V <| qM V V V <| qO V <| zO0 V V V V <| qA V V V <| qN ?_
       have hR3 : (((R ++ [MObj.row 55 1 ((List.take (k - 0) (List.drop 0 (((stL (Sch.mk k1 i1) (c1 ++ c2) ((c1 ++ c2).zip (w1 ++ w2)) i).map (·.1)).map encC))).length + 1 + (List.take ((((stL (Sch.mk k1 i1) (c1 ++ c2) ((c1 ++ c2).zip (w1 ++ w2)) i).map (·.1)).map encC).length - k) (List.drop k (((stL (Sch.mk k1 i1) (c1 ++ c2) ((c1 ++ c2).zip (w1 ++ w2)) i).map (·.1)).map encC))).length)]).set p (MObj.row 30 5 (stL (Sch.mk k1 i1) (c1 ++ c2) ((c1 ++ c2).zip (w1 ++ w2)) i).length)) ++ [MObj.orow 30 5 ((List.take (k - 0) (List.drop 0 (encVs ((stL (Sch.mk k1 i1) (c1 ++ c2) ((c1 ++ c2).zip (w1 ++ w2)) i).map (·.2))))).length + 1 + (List.take ((encVs ((stL (Sch.mk k1 i1) (c1 ++ c2) ((c1 ++ c2).zip (w1 ++ w2)) i).map (·.2))).length - k) (List.drop k (encVs ((stL (Sch.mk k1 i1) (c1 ++ c2) ((c1 ++ c2).zip (w1 ++ w2)) i).map (·.2))))).length) (flat (List.take (k - 0) (List.drop 0 (encVs ((stL (Sch.mk k1 i1) (c1 ++ c2) ((c1 ++ c2).zip (w1 ++ w2)) i).map (·.2))))) ++ flat [encV (Val.mk vn vm vs_ vc vw)] ++ flat (List.take ((encVs ((stL (Sch.mk k1 i1) (c1 ++ c2) ((c1 ++ c2).zip (w1 ++ w2)) i).map (·.2))).length - k) (List.drop k (encVs ((stL (Sch.mk k1 i1) (c1 ++ c2) ((c1 ++ c2).zip (w1 ++ w2)) i).map (·.2))))))])[((R ++ [MObj.row 55 1 ((List.take (k - 0) (List.drop 0 (((stL (Sch.mk k1 i1) (c1 ++ c2) ((c1 ++ c2).zip (w1 ++ w2)) i).map (·.1)).map encC))).length + 1 + (List.take ((((stL (Sch.mk k1 i1) (c1 ++ c2) ((c1 ++ c2).zip (w1 ++ w2)) i).map (·.1)).map encC).length - k) (List.drop k (((stL (Sch.mk k1 i1) (c1 ++ c2) ((c1 ++ c2).zip (w1 ++ w2)) i).map (·.1)).map encC))).length)]).set p (MObj.row 30 5 (stL (Sch.mk k1 i1) (c1 ++ c2) ((c1 ++ c2).zip (w1 ++ w2)) i).length)).length]? = some (MObj.orow 30 5 (stL (Sch.mk k1 i1) (c1 ++ c2) ((c1 ++ c2).zip (w1 ++ w2)) (i + 1)).length (flat (encVs ((stL (Sch.mk k1 i1) (c1 ++ c2) ((c1 ++ c2).zip (w1 ++ w2)) (i + 1)).map (·.2))))) := by
        rw [hvv, ← hln]
        simp
       refine ⟨⟨i + 1, _, _⟩, by dsimp only; omega, ⟨by dsimp only; omega, hR3⟩, by dsimp only; rw [hln], (.keep V (.keep V (.keep V (.nil)))), (.keep V (.keep V (.eq V (by rw [okL_succ hsL, hokc, Bool.and_true]) (.eq V (zK1 hlt (by simp only [maxLen]; omega)) (.nil)))))⟩
 ·
  have hge : i = (c1 ++ c2).length := by rw [zC] at h36; have := zP1 h36; omega
  subst hge
  refine zF1 <| zB <| mwp_owfreezeL (L' := (.cells (encS (.mk 8 [.mk k1 i1])).cells :: .cells (encV (.mk 0 0 [] c1 w1)).cells :: .cells (encV (.mk 0 0 [] c2 w2)).cells :: .cells [.int .u64 0, .int .u64 0, .lst0, .lst0, .lst0] :: .row 55 1 ((c1.map encC).length + (c2.map encC).length) :: .row 30 5 ((encVs w1).length + (encVs w2).length) :: .cells [.int .u64 0, .int .u64 0, .lst0, .lst none 1 (((stL (Sch.mk k1 i1) (c1 ++ c2) ((c1 ++ c2).zip (w1 ++ w2)) (c1 ++ c2).length).map (·.1)).map encC), .lst (some (S.length + (p + 7))) 5 (encVs ((stL (Sch.mk k1 i1) (c1 ++ c2) ((c1 ++ c2).zip (w1 ++ w2)) (c1 ++ c2).length).map (·.2)))] :: (R.set p (MObj.row 30 5 (stL (Sch.mk k1 i1) (c1 ++ c2) ((c1 ++ c2).zip (w1 ++ w2)) (c1 ++ c2).length).length)))) 6 4 (p + 7) (xs := encVs ((stL (Sch.mk k1 i1) (c1 ++ c2) ((c1 ++ c2).zip (w1 ++ w2)) (c1 ++ c2).length).map (·.2))) V V (get7 hR) V (by rw [zO, zC]) zA6 encVs_one V ?_
  refine zV0 [8] [_, S ++ (.cells (encS (.mk 8 [.mk k1 i1])).cells :: .cells (encV (.mk 0 0 [] c1 w1)).cells :: .cells (encV (.mk 0 0 [] c2 w2)).cells :: .cells [.int .u64 0, .int .u64 0, .lst0, .lst none 1 (((stL (Sch.mk k1 i1) (c1 ++ c2) ((c1 ++ c2).zip (w1 ++ w2)) (c1 ++ c2).length).map (·.1)).map encC), .lst (some (S.length + (p + 7))) 5 (encVs ((stL (Sch.mk k1 i1) (c1 ++ c2) ((c1 ++ c2).zip (w1 ++ w2)) (c1 ++ c2).length).map (·.2)))] :: .row 55 1 ((c1.map encC).length + (c2.map encC).length) :: .row 30 5 ((encVs w1).length + (encVs w2).length) :: .cells [.int .u64 0, .int .u64 0, .lst0, .lst none 1 (((stL (Sch.mk k1 i1) (c1 ++ c2) ((c1 ++ c2).zip (w1 ++ w2)) (c1 ++ c2).length).map (·.1)).map encC), .lst (some (S.length + (p + 7))) 5 (encVs ((stL (Sch.mk k1 i1) (c1 ++ c2) ((c1 ++ c2).zip (w1 ++ w2)) (c1 ++ c2).length).map (·.2)))] :: (R.set p (MObj.row 30 5 (stL (Sch.mk k1 i1) (c1 ++ c2) ((c1 ++ c2).zip (w1 ++ w2)) (c1 ++ c2).length).length)))] mo (by decide) V V V V ?_
  refine dO V V V (zE0 V V V ta30 V Vv) <| zV V V (.cons (zS V V Vv) (.cons (zS V V Vv) (.nil))) <| dO V V V (zS V V Vv) ?_
  refine zF2 (fun h160 => ?_) (fun h160 => ?_)
  ·
   refine zV V V (.cons (zJ V V zM1 Vv) (.cons (zJ V V zM1 Vv) (.nil))) <| zV V V (.cons (zE0 V V V ta27 V Vv) (.cons (zE0 V V V ta27 V Vv) (.nil))) <| zV V V (.cons (zP2 V zN V Vv) (.cons (zP2 V zN V Vv) (.nil))) <| zV V V (.cons (zQ2 V V V V Vv) (.cons (zQ2 V V V V Vv) (.nil))) <| zV V V (.cons (zD1 V V V Vv) (.cons (zD1 V V V Vv) (.nil))) <| zL1 V V V V (zG0 V V V V sz30 V V (zA V) V Vv) <| dO V V V (zB1 V V Vv) <| zK0 <| zL ?_
   exact zR1 (.inr V) Tryz.results57 V V ta30 V (.agg (.cons (.refl _) (.cons (.refl _) (.cons (.nil 1) (.cons (.refl _) (.cons (.view _ _ _) .nil)))))) (zT1 _ (cauL (stL (Sch.mk k1 i1) (c1 ++ c2) ((c1 ++ c2).zip (w1 ++ w2)) (c1 ++ c2).length))) V (.of_eq (by rw [h160]; first | rfl | (refine congrArg MV.bool ?_; rw [Bool.true_and, decide_eq_decide, zC, zC]; omega))) (.bool _) Vv
  ·
   refine dS V V <| dS V V <| dS V V <| dS V V <| zV V V (.cons (zD1 V V V Vv) (.cons (zD1 V V V Vv) (.nil))) <| zL1 V V V V (zG0 V V V V sz30 V V (zA V) V Vv) <| dO V V V (zB1 V V Vv) <| zK0 <| zL ?_
   exact zR1 (.inr V) Tryz.results57 V V ta30 V (.agg (.cons (.refl _) (.cons (.refl _) (.cons (.nil 1) (.cons (.refl _) (.cons (.view _ _ _) .nil)))))) (zT1 _ (cauL (stL (Sch.mk k1 i1) (c1 ++ c2) ((c1 ++ c2).zip (w1 ++ w2)) (c1 ++ c2).length))) V (.of_eq (by rw [h160]; first | rfl | (refine congrArg MV.bool ?_; rw [Bool.true_and, decide_eq_decide, zC, zC]; omega))) (.bool _) Vv
theorem _root_.zQ4 : type_of% @Tryz.results54 := @Tryz.results54
theorem rLater_spec (a b : Val) (S : MS) : MCalls Tryz.prog 54 [encV a, encV b] S fun v σ' => v = encV (laterF a b) ∧ σ' = S := by
 obtain ⟨n1, m1, s1, c1, w1⟩ := a
 obtain ⟨n2, m2, s2, c2, w2⟩ := b
 refine zU Tryz.func54 V Tryz.ntmps54 (zA V) ?_
 refine zB <| qR V <| qB V V V V V <| qB V V V V V <| qO V <| zL0 V zm30 V V <| qN <| zB <| zB0 <| zB ?_
 rcases s1 with _ | ⟨x, s1⟩
 rotate_left
 rcases s2 with _ | ⟨y, s2⟩
 rotate_left 2
 ·
  refine qR V <| qF V V V zU1 <| qL V V V V ta26 V <| qE V V zX V <| qC V V V V (eqlI V) <| qA V V V <| qN <| zA0 V (V) <| zB <| qR V <| qL V V V V ta30 V <| qO V <| zG0 V V V V sz30 V V (zA V) V <| qN <| zL ?_
  exact zO2 (y := encV (.mk n2 m2 s2 c2 w2)) (.inr V) zQ4 V V ta30 V (.refl _) (zT1 _ _) ⟨congrArg encV (if_pos (.inl V)).symm, rfl⟩
 ·
  refine qR V <| qF V V V zU1 <| qL V V V V ta26 V <| qE V V zX V <| qC V V V V (eq_cons) <| qA V V V <| qN <| zQ V (V) <| zB <| qR V <| qF V V V zU1 <| qL V V V V ta26 V <| qE V V zX V <| qC V V V V (eqlI V) <| qA V V V <| qN <| zA0 V (V) <| zB <| qR V <| qL V V V V ta30 V ?_
  refine qO V <| zG0 V V V V sz30 V V (zA V) V <| qN <| zL ?_
  exact zO2 (y := encV (.mk n1 m1 (x :: s1) c1 w1)) (.inr V) zQ4 V V ta30 V (.refl _) (zT1 _ _) ⟨congrArg encV (if_neg (by simp [Val.sv])).symm, rfl⟩
 ·
  refine qR V <| qF V V V zU1 <| qL V V V V ta26 V <| qE V V zX V <| qC V V V V (eq_cons) <| qA V V V <| qN <| zQ V (V) <| zB <| qR V <| qF V V V zU1 <| qL V V V V ta26 V <| qE V V zX V <| qC V V V V (eq_cons) <| qA V V V <| qN <| zQ V (V) <| zB <| qR V <| qF V V V zG4 ?_
  refine qL V V V V ta25 V <| qF V V V zG4 <| qL V V V V ta25 V <| qC V V V V V <| qA V V V <| qN ?_
  refine zK V (fun h17 => ?_) (fun h17 => ?_)
  ·
   have q17 : n1 ≠ n2 := by simpa using h17
   refine zB <| zB <| qR V <| qF V V V zG4 <| qL V V V V ta25 V <| qF V V V zG4 <| qL V V V V ta25 V <| qC V V V V V <| qN ?_
   refine zK V (fun h27 => ?_) (fun h27 => ?_)
   ·
    have q27 := zO1 h27
    refine zB <| qR V <| qL V V V V ta30 V <| qO V <| zG0 V V V V sz30 V V (zA V) V <| qN <| zL ?_
    exact zO2 (y := encV (.mk n1 m1 (x :: s1) c1 w1)) (.inr V) zQ4 V V ta30 V (.refl _) (zT1 _ _) ⟨congrArg encV (zO4 _ _ _ _ _ _ (by unfold LT3; rintro (h | ⟨_, h | ⟨_, _⟩⟩) <;> omega)).symm, rfl⟩
   ·
    have q27 := zP1 h27
    refine zY <| zB <| qR V <| qL V V V V ta30 V <| qO V <| zG0 V V V V sz30 V V (zA V) V <| qN <| zL ?_
    exact zO2 (y := encV (.mk n2 m2 (y :: s2) c2 w2)) (.inr V) zQ4 V V ta30 V (.refl _) (zT1 _ _) ⟨congrArg encV (zN4 _ _ _ _ _ _ (by unfold LT3; first | (left; omega) | (right; exact ⟨by omega, .inl (by omega)⟩))).symm, rfl⟩
  ·
   have q17 : n1 = n2 := by simpa using h17
   refine zB <| qR V <| qF V V V zY4 <| qL V V V V ta25 V <| qF V V V zY4 <| qL V V V V ta25 V <| qC V V V V V <| qA V V V <| qN ?_
   refine zK V (fun h30 => ?_) (fun h30 => ?_)
   ·
    have q30 : m1 ≠ m2 := by simpa using h30
    refine zB <| zB <| qR V <| qF V V V zY4 <| qL V V V V ta25 V <| qF V V V zY4 <| qL V V V V ta25 V <| qC V V V V V <| qN ?_
    refine zK V (fun h40 => ?_) (fun h40 => ?_)
    ·
     have q40 := zO1 h40
     refine zB <| qR V <| qL V V V V ta30 V <| qO V <| zG0 V V V V sz30 V V (zA V) V <| qN <| zL ?_
     exact zO2 (y := encV (.mk n1 m1 (x :: s1) c1 w1)) (.inr V) zQ4 V V ta30 V (.refl _) (zT1 _ _) ⟨congrArg encV (zO4 _ _ _ _ _ _ (by unfold LT3; rintro (h | ⟨_, h | ⟨_, _⟩⟩) <;> omega)).symm, rfl⟩
    ·
     have q40 := zP1 h40
     refine zY <| zB <| qR V <| qL V V V V ta30 V <| qO V <| zG0 V V V V sz30 V V (zA V) V <| qN <| zL ?_
     exact zO2 (y := encV (.mk n2 m2 (y :: s2) c2 w2)) (.inr V) zQ4 V V ta30 V (.refl _) (zT1 _ _) ⟨congrArg encV (zN4 _ _ _ _ _ _ (by unfold LT3; first | (left; omega) | (right; exact ⟨by omega, .inl (by omega)⟩))).symm, rfl⟩
   ·
    have q30 : m1 = m2 := by simpa using h30
    refine zB ?_
    refine zV0 [] [_] mo (by decide) V V V V ?_
    refine dO V V V (zJ V V zU1 Vv) <| dO V V V (zE0 V V V ta26 V Vv) <| dO V V V (zG V zX sz9 (by decide) V V V (show _ = some (encX x) from V) Vv) ?_
    refine dO V V V (zI V V ta9 V Vv) <| dO V V V (zJ V V zU1 Vv) <| dO V V V (zE0 V V V ta26 V Vv) <| dO V V V (zG V zX sz9 (by decide) V V V (show _ = some (encX y) from V) Vv) ?_
    refine dO V V V (zI V V ta9 V Vv) <| dO V V V (zM3 V V V V Vv) <| dO V V V (zB1 V V Vv) <| zK0 ?_
    refine zK V (fun h43 => ?_) (fun h43 => ?_)
    ·
     have q52 : ¬ ltB x y := fun h => by rw [show Op.bytesLess x y = true from h] at h43; cases h43
     refine zB <| qR V <| qL V V V V ta30 V <| qO V <| zG0 V V V V sz30 V V (zA V) V <| qN <| zL ?_
     exact zO2 (y := encV (.mk n1 m1 (x :: s1) c1 w1)) (.inr V) zQ4 V V ta30 V (.refl _) (zT1 _ _) ⟨congrArg encV (zO4 _ _ _ _ _ _ (by unfold LT3; rintro (h | ⟨_, h | ⟨_, h⟩⟩) <;> first | omega | exact q52 h)).symm, rfl⟩
    ·
     have q52 : ltB x y := by simpa [ltB] using h43
     refine zY <| zB <| qR V <| qL V V V V ta30 V <| qO V <| zG0 V V V V sz30 V V (zA V) V <| qN <| zL ?_
     exact zO2 (y := encV (.mk n2 m2 (y :: s2) c2 w2)) (.inr V) zQ4 V V ta30 V (.refl _) (zT1 _ _) ⟨congrArg encV (zN4 _ _ _ _ _ _ (by unfold LT3; first | (left; omega) | (right; refine ⟨by omega, ?_⟩; first | (left; omega) | (right; exact ⟨by omega, q52⟩)))).symm, rfl⟩
end Go.Proofs.YtnfcnpdpfgcchaaGreat
