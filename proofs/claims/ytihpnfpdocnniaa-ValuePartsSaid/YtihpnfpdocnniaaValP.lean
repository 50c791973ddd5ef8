/-
  What the program's and the document's values come to: whether one is of a schema, what has nothing; that they are the same. No walk.
-/
import Derived.Test.YtihpnfpdocnniaaSchA
import Derived.Test.YtihpnfpdocnniaaVal
set_option linter.unusedVariables false
set_option linter.unusedSimpArgs false
namespace Go.Proofs.Ytihpnfpdocnniaa
open Go Go.MV Go.RowKit
/-! ### Nothing -/
mutual
def bottomF : Sch → Val
  | .mk k ins => if k = 5 then .mk 0 0 [] [] (bottomL ins) else noV
def bottomL : List Sch → List Val
  | [] => []
  | s :: l => bottomF s :: bottomL l
end
def BottomF (s : Sch) : Val := if isF 16 s then bottomF s else noV
noncomputable def noneF (s : Sch) (v : Val) : Bool := decide (BottomF s = v)
/-! ### The program's -/
def numsK (k : Int) : Bool := k == 1 || k == 2 || k == 6
def textsK (k : Int) : Bool := k == 3 || k == 4 || k == 6
def clocksK (k : Int) : Bool := k == 7 || k == 8
def valuesK (k : Int) : Bool := k == 4 || k == 5 || k == 8
def bareF (k : Int) (v : Val) : Bool := (numsK k || v.nv == 0) && (k == 6 || v.mv == 0) && (textsK k || v.sv.length == 0) && (clocksK k || v.cv.length == 0) && (valuesK k || v.vv.length == 0)
def isRowF (s : List Bs) : Bool := decide (s.length ≤ 40) && risesF s && shortF s
def isLastF (n m : Int) : List Bs → Bool
  | [] => n == 0 && m == 0
  | [t] => decide (t.length ≤ 16) && (!(n == 0) || !(m == 0) || !(t == []))
  | _ => false
noncomputable def isB (k : Int) (ins : List Sch) (fs : List (Val → Bool)) (v : Val) : Bool :=
  bareF k v && decide (v.vv.length ≤ 40) && decide (v.cv.length ≤ 40) &&
  (if k = 1 then true else if k = 2 then decide (v.nv ≤ 1) else if k = 3 then isRowF v.sv
   else if k = 4 then isRowF v.sv && decide (v.sv.length = v.vv.length) && v.vv.all (fun x => fs.headD (fun _ => false) x && !noneF (ins.headD default) x)
   else if k = 5 then (match v.vv with | [x, y] => fs.headD (fun _ => false) x && fs.tail.headD (fun _ => false) y | _ => false)
   else if k = 6 then isLastF v.nv v.mv v.sv
   else if k = 7 then (match v.cv with | [] => true | [c] => decide (0 < c.length) && isClockF c | _ => false)
   else decide (v.cv.length = v.vv.length) && isCauseF v.cv && v.vv.all (fs.headD (fun _ => false)))
mutual
noncomputable def isVF : Sch → Val → Bool
  | .mk k ins, v => isB k ins (isVL ins) v
noncomputable def isVL : List Sch → List (Val → Bool)
  | [] => []
  | s :: l => isVF s :: isVL l
end
theorem isVL_eq : ∀ l : List Sch, isVL l = l.map isVF
  | [] => by simp [isVL]
  | s :: l => by simp [isVL, isVL_eq l]
/-! ### The document's -/
def hasF (v : Val) (n m s c w : Bool) : Bool := (n || v.nv == 0) && (m || v.mv == 0) && (s || v.sv.length == 0) && (c || v.cv.length == 0) && (w || v.vv.length == 0)
def fitsF (k : Int) (v : Val) : Bool :=
  if k = 1 then hasF v true false false false false
  else if k = 2 then hasF v true false false false false && decide (v.nv ≤ 1)
  else if k = 3 then hasF v false false true false false && shortF v.sv
  else if k = 4 then hasF v false false true false true && shortF v.sv && decide (v.sv.length = v.vv.length)
  else if k = 5 then hasF v false false false false true && decide (v.vv.length = 2)
  else if k = 6 then (match v.sv with | [] => hasF v false false false false false | [t] => hasF v true true true false false && decide (t.length ≤ 16) && (!(v.nv == 0) || !(v.mv == 0) || !(t == [])) | _ => false)
  else if k = 7 then hasF v false false false true false && decide (v.cv.length ≤ 1)
  else hasF v false false false true true && decide (v.cv.length = v.vv.length)
def aheadF : List Tk → List Tk → Bool
  | [], [] => false
  | [], _ :: _ => true
  | _ :: _, [] => false
  | x :: a, y :: b => if x.1 ≠ y.1 then decide (x.1 < y.1) else if x.2 ≠ y.2 then decide (x.2 < y.2) else aheadF a b
def sibAt (f : Val → Bool) (c : List (List Tk)) (v : List Val) (i : Nat) : Bool :=
  isClockF (c.getD i []) && f (v.getD i noV) && (i == 0 || aheadF (c.getD (i - 1) []) (c.getD i [])) && decide (∀ j, j < i → cmpF (c.getD j []) (c.getD i []) = 2)
def sibsF (f : Val → Bool) (c : List (List Tk)) (v : List Val) : Bool := decide (c.length ≤ 40) && decide (∀ i, i < c.length → sibAt f c v i = true)
noncomputable def isRB (k : Int) (ins : List Sch) (fs : List (Val → Bool)) (v : Val) : Bool :=
  fitsF k v && risesF v.sv && decide (v.sv.length ≤ 40) &&
  (if k = 4 then v.vv.all (fun x => fs.headD (fun _ => false) x && !noneF (ins.headD default) x)
   else if k = 5 then (match v.vv with | [x, y] => fs.headD (fun _ => false) x && fs.tail.headD (fun _ => false) y | _ => false)
   else if k = 7 then (match v.cv with | [] => true | [c] => isClockF c && decide (0 < c.length) | _ => false)
   else if k = 8 then sibsF (fs.headD (fun _ => false)) v.cv v.vv else true)
mutual
noncomputable def isRF : Sch → Val → Bool
  | .mk k ins, v => isRB k ins (isRL ins) v
noncomputable def isRL : List Sch → List (Val → Bool)
  | [] => []
  | s :: l => isRF s :: isRL l
end
theorem isRL_eq : ∀ l : List Sch, isRL l = l.map isRF
  | [] => by simp [isRL]
  | s :: l => by simp [isRL, isRL_eq l]
/-! ### Clocks in a row -/
theorem tick_zero {x y : Tk} : tickC x y = 0 ↔ x = y := by
  obtain ⟨a, b⟩ := x; obtain ⟨c, d⟩ := y
  simp only [tickC, cmpI, Prod.mk.injEq]
  split <;> split <;> (try split) <;> (try split) <;> omega
theorem tick_neg {x y : Tk} : tickC x y < 0 ↔ x.1 < y.1 ∨ (x.1 = y.1 ∧ x.2 < y.2) := by
  simp only [tickC, cmpI]
  split <;> split <;> (try split) <;> (try split) <;> omega
theorem ticks_ahead : ∀ a b : List Tk, aheadF a b = decide (byTicksF a b < 0)
  | [], [] => rfl
  | [], _ :: _ => rfl
  | _ :: _, [] => rfl
  | x :: a, y :: b => by
    rw [aheadF, byTicksF]
    by_cases h : tickC x y = 0
    · have e := tick_zero.1 h
      subst e
      rw [if_neg (by simp), if_neg (by simp), if_neg (fun hn => hn h), ticks_ahead a b]
    · rw [if_pos h]
      have h1 : ¬ x = y := fun e => h (tick_zero.2 e)
      by_cases hn : tickC x y < 0
      · have := tick_neg.1 hn
        rw [decide_eq_true hn]
        split
        · rw [decide_eq_true (by omega)]
        · rw [if_pos (by omega), decide_eq_true (by omega)]
      · have h2 : ¬ (x.1 < y.1 ∨ (x.1 = y.1 ∧ x.2 < y.2)) := fun e => hn (tick_neg.2 e)
        rw [decide_eq_false hn]
        split
        · rw [decide_eq_false (by omega)]
        · have h3 : x.2 ≠ y.2 := fun e => h1 (Prod.ext (by omega) e)
          rw [if_pos h3, decide_eq_false (by omega)]
theorem ticks_trans : ∀ {a b c : List Tk}, byTicksF a b < 0 → byTicksF b c < 0 → byTicksF a c < 0
  | [], [], _, h, _ => by simp [byTicksF] at h
  | [], _ :: _, [], _, h => by simp [byTicksF] at h
  | [], _ :: _, _ :: _, _, _ => by simp [byTicksF]
  | _ :: _, [], _, h, _ => by simp [byTicksF] at h
  | _ :: _, _ :: _, [], _, h => by simp [byTicksF] at h
  | x :: a, y :: b, z :: c, h1, h2 => by
    rw [byTicksF] at h1 h2 ⊢
    by_cases e1 : tickC x y = 0
    · have := tick_zero.1 e1
      subst this
      rw [if_neg (by simpa using e1)] at h1
      by_cases e2 : tickC x z = 0
      · rw [if_neg (by simpa using e2)] at h2 ⊢
        exact ticks_trans h1 h2
      · rw [if_pos e2] at h2 ⊢
        exact h2
    · rw [if_pos e1] at h1
      by_cases e2 : tickC y z = 0
      · have := tick_zero.1 e2
        subst this
        rw [if_pos e1]
        exact h1
      · rw [if_pos e2] at h2
        have h3 := tick_neg.1 h1
        have h4 := tick_neg.1 h2
        have h5 : tickC x z < 0 := tick_neg.2 (by omega)
        rw [if_pos (by omega)]
        exact h5
theorem pairsF_iff : ∀ l : List (List Tk), pairsF l = true ↔ l.Pairwise fun a b => byTicksF a b < 0 ∧ cmpF a b = 2
  | [] => by simp [pairsF]
  | a :: l => by
    rw [pairsF, Bool.and_eq_true, pairsF_iff l, List.pairwise_cons, List.all_eq_true]
    simp [pairF]
theorem getD_lt {α : Type} {l : List α} {i : Nat} (d : α) (h : i < l.length) : l.getD i d = l[i] := by simp [h]
theorem sibs_eq {f : Val → Bool} {c : List (List Tk)} {v : List Val} (hl : c.length = v.length) : (decide (c.length ≤ 40) && (isCauseF c && v.all f)) = sibsF f c v := by
  unfold sibsF
  congr 1
  rw [Bool.eq_iff_iff, decide_eq_true_iff, Bool.and_eq_true, isCauseF, Bool.and_eq_true, pairsF_iff, List.all_eq_true, List.all_eq_true]
  constructor
  · rintro ⟨⟨h1, h2⟩, h3⟩ i hi
    have hp := List.pairwise_iff_getElem.1 h2
    unfold sibAt
    rw [getD_lt _ hi, getD_lt _ (by omega : i < v.length), h1 _ (List.getElem_mem _), h3 _ (List.getElem_mem _)]
    simp only [Bool.true_and, Bool.and_eq_true, Bool.or_eq_true, decide_eq_true_eq, beq_iff_eq]
    refine ⟨?_, fun j hj => ?_⟩
    · cases i with
      | zero => exact .inl rfl
      | succ i =>
        refine .inr ?_
        rw [Nat.add_sub_cancel, getD_lt _ (by omega : i < c.length), ticks_ahead, decide_eq_true_eq]
        exact (hp i (i + 1) (by omega) hi (by omega)).1
    · rw [getD_lt _ (by omega : j < c.length)]
      exact (hp j i (by omega) hi hj).2
  · intro h
    have h0 : ∀ i, ∀ hi : i < c.length, isClockF c[i] = true ∧ f (v[i]'(by omega)) = true ∧ (i = 0 ∨ byTicksF (c[i - 1]'(by omega)) c[i] < 0) ∧ ∀ j, ∀ hj : j < i, cmpF (c[j]'(by omega)) c[i] = 2 := by
      intro i hi
      have := h i hi
      unfold sibAt at this
      rw [getD_lt _ hi, getD_lt _ (by omega : i < v.length), getD_lt _ (by omega : i - 1 < c.length), ticks_ahead] at this
      simp only [Bool.and_eq_true, Bool.or_eq_true, decide_eq_true_eq, beq_iff_eq] at this
      obtain ⟨⟨⟨a1, a2⟩, a3⟩, a4⟩ := this
      refine ⟨a1, a2, a3, fun j hj => ?_⟩
      have := a4 j hj
      rwa [getD_lt _ (by omega : j < c.length)] at this
    have hlt : ∀ d i, ∀ hi : i + d + 1 < c.length, byTicksF (c[i]'(by omega)) c[i + d + 1] < 0 := by
      intro d
      induction d with
      | zero =>
        intro i hi
        rcases (h0 (i + 1) hi).2.2.1 with h | h
        · omega
        · exact h
      | succ d ih =>
        intro i hi
        have h1 := ih i (by omega)
        rcases (h0 (i + (d + 1) + 1) hi).2.2.1 with h | h
        · omega
        · exact ticks_trans h1 h
    refine ⟨⟨fun x hx => ?_, ?_⟩, fun x hx => ?_⟩
    · obtain ⟨i, hi, rfl⟩ := List.mem_iff_getElem.1 hx
      exact (h0 i hi).1
    · rw [List.pairwise_iff_getElem]
      intro i j hi hj hij
      obtain ⟨d, rfl⟩ : ∃ d, j = i + d + 1 := ⟨j - i - 1, by omega⟩
      exact ⟨hlt d i hj, (h0 _ hj).2.2.2 i hij⟩
    · obtain ⟨i, hi, rfl⟩ := List.mem_iff_getElem.1 hx
      exact (h0 i (by omega)).2.1
theorem isB_eq {k : Int} {ins : List Sch} {fs : List (Val → Bool)} {v : Val} (hk : partsF k = (ins.length : Int)) : isB k ins fs v = isRB k ins fs v := by
  obtain ⟨n, m, s, c, w⟩ := v
  have hk8 : k = 1 ∨ k = 2 ∨ k = 3 ∨ k = 4 ∨ k = 5 ∨ k = 6 ∨ k = 7 ∨ k = 8 := by
    unfold partsF at hk
    split at hk
    · omega
    · split at hk
      · omega
      · split at hk <;> omega
  rcases hk8 with rfl | rfl | rfl | rfl | rfl | rfl | rfl | rfl
  · rw [Bool.eq_iff_iff]
    simp [isB, isRB, bareF, fitsF, hasF, numsK, textsK, clocksK, valuesK, Val.nv, Val.mv, Val.sv, Val.cv, Val.vv]
    constructor <;> intro h <;> simp_all [risesF]
  · rw [Bool.eq_iff_iff]
    simp [isB, isRB, bareF, fitsF, hasF, numsK, textsK, clocksK, valuesK, Val.nv, Val.mv, Val.sv, Val.cv, Val.vv]
    constructor <;> intro h <;> simp_all [risesF]
  · rw [Bool.eq_iff_iff]
    simp [isB, isRB, bareF, fitsF, hasF, numsK, textsK, clocksK, valuesK, Val.nv, Val.mv, Val.sv, Val.cv, Val.vv, isRowF]
    constructor <;> intro h <;> simp_all
  · rw [Bool.eq_iff_iff]
    by_cases hl : s.length = w.length
    · by_cases h4 : w.length ≤ 40
      · simp [isB, isRB, bareF, fitsF, hasF, numsK, textsK, clocksK, valuesK, Val.nv, Val.mv, Val.sv, Val.cv, Val.vv, isRowF, hl, h4]
        constructor <;> intro h <;> simp_all
      · simp [isB, isRB, bareF, fitsF, hasF, numsK, textsK, clocksK, valuesK, Val.nv, Val.mv, Val.sv, Val.cv, Val.vv, isRowF, hl, h4]
    · simp [isB, isRB, bareF, fitsF, hasF, numsK, textsK, clocksK, valuesK, Val.nv, Val.mv, Val.sv, Val.cv, Val.vv, isRowF, hl]
  · rw [Bool.eq_iff_iff]
    match w with
    | [x, y] =>
      simp [isB, isRB, bareF, fitsF, hasF, numsK, textsK, clocksK, valuesK, Val.nv, Val.mv, Val.sv, Val.cv, Val.vv]
      intro _ _
      constructor <;> intro h <;> simp_all [risesF]
    | [] => simp [isB, isRB, bareF, fitsF, hasF, numsK, textsK, clocksK, valuesK, Val.nv, Val.mv, Val.sv, Val.cv, Val.vv]
    | [x] => simp [isB, isRB, bareF, fitsF, hasF, numsK, textsK, clocksK, valuesK, Val.nv, Val.mv, Val.sv, Val.cv, Val.vv]
    | _ :: _ :: _ :: _ => simp [isB, isRB, bareF, fitsF, hasF, numsK, textsK, clocksK, valuesK, Val.nv, Val.mv, Val.sv, Val.cv, Val.vv]
  · rw [Bool.eq_iff_iff]
    simp [isB, isRB, bareF, fitsF, hasF, numsK, textsK, clocksK, valuesK, Val.nv, Val.mv, Val.sv, Val.cv, Val.vv]
    match s with
    | [] => simp [isLastF, risesF]; constructor <;> intro h <;> simp_all
    | [t] =>
      simp [isLastF, risesF]
      constructor <;> intro h <;> simp_all
    | _ :: _ :: _ => simp [isLastF]
  · rw [Bool.eq_iff_iff]
    simp [isB, isRB, bareF, fitsF, hasF, numsK, textsK, clocksK, valuesK, Val.nv, Val.mv, Val.sv, Val.cv, Val.vv]
    match c with
    | [] => simp; constructor <;> intro h <;> simp_all [risesF]
    | [t] => simp; constructor <;> intro h <;> simp_all [risesF]
    | _ :: _ :: _ => simp
  · by_cases hl : c.length = w.length
    · have hs := sibs_eq (f := fs.headD (fun _ => false)) hl
      rw [Bool.eq_iff_iff]
      rw [Bool.eq_iff_iff] at hs
      simp [isB, isRB, bareF, fitsF, hasF, numsK, textsK, clocksK, valuesK, Val.nv, Val.mv, Val.sv, Val.cv, Val.vv] at hs ⊢
      constructor
      · intro h
        have := hs.1
        simp_all [risesF]
      · intro h
        have := hs.2 h.2
        simp_all
    · rw [Bool.eq_iff_iff]
      simp [isB, isRB, bareF, fitsF, hasF, numsK, textsK, clocksK, valuesK, Val.nv, Val.mv, Val.sv, Val.cv, Val.vv, hl]
theorem isVF_eq : ∀ (d : Nat) (s : Sch), isF d s = true → isVF s = isRF s
  | 0, s, h => by simp [isF] at h
  | d + 1, .mk k ins, h => by
    simp only [isF, Bool.and_eq_true, beq_iff_eq, List.all_eq_true] at h
    funext v
    rw [isVF, isRF, isB_eq h.1, isVL_eq, isRL_eq]
    congr 1
    exact List.map_congr_left fun x hx => isVF_eq d x (h.2 x hx)
/-! ### Values as data: numbers as they are -/
def okTk (t : Tk) : Prop := 0 ≤ t.2 ∧ t.2 < 18446744073709551616
mutual
def okV : Val → Prop
  | .mk n m s c v => (0 ≤ n ∧ n < 18446744073709551616) ∧ (0 ≤ m ∧ m < 18446744073709551616) ∧ (∀ x ∈ c, ∀ t ∈ x, okTk t) ∧ okVs v
def okVs : List Val → Prop
  | [] => True
  | x :: l => okV x ∧ okVs l
end
theorem okVs_iff : ∀ {l : List Val}, okVs l ↔ ∀ x ∈ l, okV x
  | [] => by simp [okVs]
  | x :: l => by rw [okVs, okVs_iff (l := l)]; simp
theorem isF_mono : ∀ (d : Nat) (s : Sch), isF d s = true → isF (d + 1) s = true
  | 0, s, h => by simp [isF] at h
  | d + 1, .mk k ins, h => by
    rw [isF] at h ⊢
    simp only [Bool.and_eq_true, List.all_eq_true] at h ⊢
    exact ⟨h.1, fun x hx => isF_mono d x (h.2 x hx)⟩
theorem isF_le {d e : Nat} (hde : d ≤ e) {s : Sch} (h : isF d s = true) : isF e s = true := by
  obtain ⟨k, rfl⟩ : ∃ k, e = d + k := ⟨e - d, by omega⟩
  induction k with
  | zero => exact h
  | succ k ih => exact isF_mono _ _ (ih (by omega))
theorem bottomL_eq : ∀ l : List Sch, bottomL l = l.map bottomF
  | [] => by simp [bottomL]
  | s :: l => by simp [bottomL, bottomL_eq l]
end Go.Proofs.Ytihpnfpdocnniaa
