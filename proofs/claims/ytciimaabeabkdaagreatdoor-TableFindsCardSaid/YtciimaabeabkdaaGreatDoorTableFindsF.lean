/-
  Texts on which the proof of TableFinds leans: part 6.
-/
import Derived.Test.YtciimaabeabkdaaGreatDoorTableFindsE
set_option linter.unusedVariables false
set_option linter.unusedSimpArgs false
set_option maxRecDepth 20000
set_option maxHeartbeats 8000000
namespace Go.Proofs.YtciimaabeabkdaaGreatDoor
open Go Go.MV Go.RowKit
section
section
variable {κ : Type} {cmp : κ → κ → Int}
structure OrdK (cmp : κ → κ → Int) : Prop where
 irr : ∀ a, ¬ cmp a a < 0
 tr : ∀ a b c, cmp a b < 0 → cmp b c < 0 → cmp a c < 0
 tot : ∀ a b, ¬ cmp a b < 0 → ¬ cmp b a < 0 → a = b
open Classical in
noncomputable def look (l : List (κ × Val)) (k : κ) : Option Val := match l with
 | [] => none
 | e :: l => if e.1 = k then some e.2 else look l k
open Classical in
theorem look_cons (e : κ × Val) (l : List (κ × Val)) (k : κ) : look (e :: l) k = if e.1 = k then some e.2 else look l k := rfl
theorem _root_.zQ3 : type_of% @look_cons := @look_cons
def SrtK (cmp : κ → κ → Int) (l : List (κ × Val)) : Prop := l.Pairwise fun x y => cmp x.1 y.1 < 0
def HasK (l : List (κ × Val)) (k : κ) : Prop := ∃ e ∈ l, e.1 = k
theorem look_none {l : List (κ × Val)} {k : κ} (h : ¬ HasK l k) : look l k = none := by
 induction l with
 | nil => rfl
 | cons e l ih =>
  rw [look, if_neg (fun he => h ⟨e, .head _, he⟩)]
  exact ih fun ⟨x, hx, e2⟩ => h ⟨x, .tail _ hx, e2⟩
theorem srt_cons {e : κ × Val} {l : List (κ × Val)} : SrtK cmp (e :: l) ↔ (∀ y ∈ l, cmp e.1 y.1 < 0) ∧ SrtK cmp l := zE5
theorem not_has (ho : OrdK cmp) {k : κ} {l : List (κ × Val)} (h : ∀ y ∈ l, cmp k y.1 < 0) : ¬ HasK l k := fun ⟨e, he, e2⟩ => ho.irr k (by have := h e he; rwa [e2] at this)
theorem mem_look (ho : OrdK cmp) {l : List (κ × Val)} (hs : SrtK cmp l) {e : κ × Val} (h : e ∈ l) : look l e.1 = some e.2 := by
 induction l with
 | nil => cases h
 | cons x l ih =>
  have hs' := srt_cons.1 hs
  rw [look]
  rcases List.mem_cons.1 h with rfl | h
  ·rw [if_pos rfl]
  ·rw [if_neg]
   ·exact ih hs'.2 h
   ·intro e2
    have := hs'.1 e h
    rw [e2] at this
    exact ho.irr _ this
def fillE (f : Val → Val → Val) (e : Ent κ) : Val := match e.2.2 with | none => e.2.1 | some w => f e.2.1 w
def mergeG (cmp : κ → κ → Int) (f : Val → Val → Val) (a b : List (κ × Val)) : List (κ × Val) := (mergeE cmp a b).map fun e => (e.1, fillE f e)
def comb (f : Val → Val → Val) : Option Val → Option Val → Option Val
 | none, y => y
 | x, none => x
 | some x, some y => some (f x y)
theorem comb_none (f : Val → Val → Val) (x : Option Val) : comb f x none = x := by cases x <;> rfl
theorem merge_has {f : Val → Val → Val} (ho : OrdK cmp) (a b : List (κ × Val)) (k : κ) : HasK (mergeG cmp f a b) k ↔ HasK a k ∨ HasK b k := by
 unfold HasK mergeG
 simp only [List.mem_map]
 constructor
 ·rintro ⟨e, ⟨x, hx, rfl⟩, rfl⟩
  rcases (mergeE_mem cmp a b x hx).1 with h | h
  ·exact .inl ⟨_, h, rfl⟩
  ·exact .inr ⟨_, h, rfl⟩
 ·intro h
  suffices hs : ∃ x ∈ mergeE cmp a b, x.1 = k by
   obtain ⟨x, hx, e⟩ := hs
   exact ⟨_, ⟨x, hx, rfl⟩, e⟩
  revert h
  induction a, b using mergeE.induct cmp with
  | case1 => rintro (⟨e, he, _⟩ | ⟨e, he, _⟩) <;> cases he
  | case2 x a ih =>
   rw [mergeE]
   rintro (⟨e, he, rfl⟩ | ⟨e, he, _⟩)
   ·rcases List.mem_cons.1 he with rfl | he
    ·exact ⟨_, .head _, rfl⟩
    ·obtain ⟨z, hz, e2⟩ := ih (.inl ⟨e, he, rfl⟩)
     exact ⟨z, .tail _ hz, e2⟩
   ·cases he
  | case3 y b ih =>
   rw [mergeE]
   rintro (⟨e, he, _⟩ | ⟨e, he, rfl⟩)
   ·cases he
   ·rcases List.mem_cons.1 he with rfl | he
    ·exact ⟨_, .head _, rfl⟩
    ·obtain ⟨z, hz, e2⟩ := ih (.inr ⟨e, he, rfl⟩)
     exact ⟨z, .tail _ hz, e2⟩
  | case4 x a y b hlt ih =>
   rw [mergeE, if_pos hlt]
   rintro (⟨e, he, rfl⟩ | h)
   ·rcases List.mem_cons.1 he with rfl | he
    ·exact ⟨_, .head _, rfl⟩
    ·obtain ⟨z, hz, e2⟩ := ih (.inl ⟨e, he, rfl⟩)
     exact ⟨z, .tail _ hz, e2⟩
   ·obtain ⟨z, hz, e2⟩ := ih (.inr h)
    exact ⟨z, .tail _ hz, e2⟩
  | case5 x a y b hlt hgt ih =>
   rw [mergeE, if_neg hlt, if_pos hgt]
   rintro (h | ⟨e, he, rfl⟩)
   ·obtain ⟨z, hz, e2⟩ := ih (.inl h)
    exact ⟨z, .tail _ hz, e2⟩
   ·rcases List.mem_cons.1 he with rfl | he
    ·exact ⟨_, .head _, rfl⟩
    ·obtain ⟨z, hz, e2⟩ := ih (.inr ⟨e, he, rfl⟩)
     exact ⟨z, .tail _ hz, e2⟩
  | case6 x a y b hlt hgt ih =>
   have exy := ho.tot _ _ hlt hgt
   rw [mergeE, if_neg hlt, if_neg hgt]
   rintro (⟨e, he, rfl⟩ | ⟨e, he, rfl⟩)
   ·rcases List.mem_cons.1 he with rfl | he
    ·exact ⟨_, .head _, rfl⟩
    ·obtain ⟨z, hz, e2⟩ := ih (.inl ⟨e, he, rfl⟩)
     exact ⟨z, .tail _ hz, e2⟩
   ·rcases List.mem_cons.1 he with rfl | he
    ·exact ⟨_, .head _, exy⟩
    ·obtain ⟨z, hz, e2⟩ := ih (.inr ⟨e, he, rfl⟩)
     exact ⟨z, .tail _ hz, e2⟩
theorem look_merge (ho : OrdK cmp) (f : Val → Val → Val) : ∀ a b : List (κ × Val), SrtK cmp a → SrtK cmp b → ∀ k, look (mergeG cmp f a b) k = comb f (look a k) (look b k) := by
 intro a b
 induction a, b using mergeE.induct cmp with
 | case1 => intro _ _ k; simp [mergeG, mergeE, look, comb]
 | case2 x a ih =>
  intro ha hb k
  have ha' := srt_cons.1 ha
  have : mergeG cmp f (x :: a) [] = (x.1, x.2) :: mergeG cmp f a [] := by unfold mergeG; rw [mergeE]; rfl
  rw [this, zQ3, zQ3, ih ha'.2 hb]
  rw [show look ([] : List (κ × Val)) k = none from rfl, comb_none, comb_none]
 | case3 y b ih =>
  intro ha hb k
  have hb' := srt_cons.1 hb
  have : mergeG cmp f [] (y :: b) = (y.1, y.2) :: mergeG cmp f [] b := by unfold mergeG; rw [mergeE]; rfl
  rw [this, zQ3, ih ha hb'.2]
  rw [show look ([] : List (κ × Val)) k = none from rfl, zQ3]
  rfl
 | case4 x a y b hlt ih =>
  intro ha hb k
  have ha' := srt_cons.1 ha
  have hb' := srt_cons.1 hb
  have : mergeG cmp f (x :: a) (y :: b) = (x.1, x.2) :: mergeG cmp f a (y :: b) := by unfold mergeG; rw [mergeE, if_pos hlt]; rfl
  rw [this, zQ3, ih ha'.2 hb]
  by_cases hk : x.1 = k
  ·subst hk
   rw [if_pos rfl, mem_look ho ha (.head _), look_none (not_has ho (k := x.1) (l := y :: b) fun z hz => ?_)]
   ·rfl
   ·rcases List.mem_cons.1 hz with rfl | hz
    ·exact hlt
    ·exact ho.tr _ _ _ hlt (hb'.1 z hz)
  ·rw [if_neg hk]
   congr 1
   rw [zQ3, if_neg hk]
 | case5 x a y b hlt hgt ih =>
  intro ha hb k
  have ha' := srt_cons.1 ha
  have hb' := srt_cons.1 hb
  have : mergeG cmp f (x :: a) (y :: b) = (y.1, y.2) :: mergeG cmp f (x :: a) b := by unfold mergeG; rw [mergeE, if_neg hlt, if_pos hgt]; rfl
  rw [this, zQ3, ih ha hb'.2]
  by_cases hk : y.1 = k
  ·subst hk
   rw [if_pos rfl, mem_look ho hb (.head _), look_none (not_has ho (k := y.1) (l := x :: a) fun z hz => ?_)]
   ·rfl
   ·rcases List.mem_cons.1 hz with rfl | hz
    ·exact hgt
    ·exact ho.tr _ _ _ hgt (ha'.1 z hz)
  ·rw [if_neg hk]
   congr 1
   conv => rhs; rw [zQ3, if_neg hk]
 | case6 x a y b hlt hgt ih =>
  intro ha hb k
  have ha' := srt_cons.1 ha
  have hb' := srt_cons.1 hb
  have exy := ho.tot _ _ hlt hgt
  have : mergeG cmp f (x :: a) (y :: b) = (x.1, f x.2 y.2) :: mergeG cmp f a b := by unfold mergeG; rw [mergeE, if_neg hlt, if_neg hgt]; rfl
  rw [this, zQ3, ih ha'.2 hb'.2]
  by_cases hk : x.1 = k
  ·subst hk
   rw [if_pos rfl, mem_look ho ha (.head _), exy, mem_look ho hb (.head _)]
   rfl
  ·rw [if_neg hk]
   conv => rhs; rw [zQ3, if_neg hk, zQ3, if_neg (exy ▸ hk)]
variable {blw : κ → κ → Prop}
def Dead (blw : κ → κ → Prop) (K : κ → Prop) (k : κ) : Prop := ∃ o, K o ∧ blw k o
open Classical in
noncomputable def topG (cmp : κ → κ → Int) (blw : κ → κ → Prop) (f : Val → Val → Val) (a b : List (κ × Val)) : List (κ × Val) := (mergeG cmp f a b).filter fun e => decide (¬ Dead blw (HasK (mergeG cmp f a b)) e.1)
theorem look_filter (q : κ → Bool) : ∀ (l : List (κ × Val)) (k : κ), look (l.filter fun e => q e.1) k = if q k = true then look l k else none
 | [], k => by simp [look]
 | e :: l, k => by
  by_cases hp : q e.1 = true
  ·rw [List.filter_cons_of_pos (p := fun e : κ × Val => q e.1) hp, zQ3, look_filter q l k, zQ3]
   by_cases hk : e.1 = k
   ·subst hk; simp [hp]
   ·simp [hk]
  ·rw [List.filter_cons_of_neg (p := fun e : κ × Val => q e.1) hp, look_filter q l k, zQ3]
   by_cases hk : e.1 = k
   ·subst hk; simp [hp]
   ·simp [hk]
def Or2 (a b : List (κ × Val)) (k : κ) : Prop := HasK a k ∨ HasK b k
open Classical in
theorem look_top (ho : OrdK cmp) {f : Val → Val → Val} {a b : List (κ × Val)} (ha : SrtK cmp a) (hb : SrtK cmp b) (k : κ) : look (topG cmp blw f a b) k = if Dead blw (Or2 a b) k then none else comb f (look a k) (look b k) := by
 unfold topG
 rw [look_filter (fun k => decide (¬ Dead blw (HasK (mergeG cmp f a b)) k)), look_merge ho f a b ha hb]
 have : Dead blw (HasK (mergeG cmp f a b)) k ↔ Dead blw (Or2 a b) k := by
  unfold Dead Or2
  simp only [merge_has ho]
 by_cases h : Dead blw (Or2 a b) k
 ·rw [if_pos h, if_neg (by simpa using this.2 h)]
 ·rw [if_neg h, if_pos (by simpa using fun h2 => h (this.1 h2))]
end
end
end Go.Proofs.YtciimaabeabkdaaGreatDoor
namespace Go.Proofs.YtciimaabeabkdaaGreatDoor
open Go Go.MV
section
theorem leq_of {s : Sch} {a b v : Val} (hs : isF 16 s = true) (ha : isVF s a = true) (hb : isVF s b = true) (h : bothF s a b = some v) : leqVF s a b = .ok (decide (v = b)) := leq_ok (join_ok_of hs ha hb h)
def num (a : Int) : Val := .mk a 0 [] [] []
theorem leq_num (a b : Int) : leqVF (.mk 1 []) (num a) (num b) = .ok (decide (a ≤ b)) := by
 unfold num
 rw [leq_of (by decide) (is_num a) (is_num b) (both_num a b)]
 congr 1
 rw [decide_eq_decide]
 simp
 omega
section
variable {a b : List Tk} (ha : Go.MV.Up a) (hb : Go.MV.Up b) (pa : Go.MV.Pos a) (pb : Go.MV.Pos b)
include ha hb pa pb
end
section
variable {a b : List Tk} (ka : isClockF a = true) (kb : isClockF b = true) (oa : ∀ t ∈ a, okTk t) (ob : ∀ t ∈ b, okTk t) (la : a.length ≤ 15) (lb : b.length ≤ 15)
include ka kb oa ob la lb
end
section
variable {a b : List Tk} {x y : Int} (ka : isClockF a = true) (kb : isClockF b = true) (oa : ∀ t ∈ a, okTk t) (ob : ∀ t ∈ b, okTk t)
include ka kb oa ob
end
def setV (A : List Bs) : Val := .mk 0 0 A [] []
end
def FitJ (l : List Tbl) (w : Option Val) (key : Bs) (v : Val) : Prop := ∀ t j, findP l key = some t → joinVF t.2.2 (getF l w key) v = .ok j → isOk t.2.2 j ∧ szM (encV j) ≤ 1500000 ∧ leqVF t.2.2 j (getF l w key) = .ok (decide (j = getF l w key))
theorem form1 {v : Val} (h : isVF (.mk 1 []) v = true) : ∃ a, v = num a := by
 obtain ⟨n, m, s, c, w⟩ := v
 rw [zX1 1] at h
 simp [bareF, numsK, textsK, clocksK, valuesK, Val.nv, Val.mv, Val.sv, Val.cv, Val.vv] at h
 obtain ⟨⟨h1, h2⟩, h3⟩ := h
 simp_all [num]
theorem num_iff {a b : Int} : num a = num b ↔ a = b := by simp [num]
theorem sz_num (a : Int) : szM (encV (num a)) = 6 := by simp [num, encV, encVs, szM, szMs]
theorem fit_num {l : List Tbl} {w : Option Val} {key : Bs} {v : Val} {a : Int} {n : Bs} {lv : Int} (hf : findP l key = some (n, lv, .mk 1 [])) (hG : getF l w key = num a) (oa : okV (num a)) (ov : okV v) : FitJ l w key v := by
 intro t j ht hj
 rw [hf] at ht
 injection ht with ht
 subst ht
 rw [hG] at hj ⊢
 cases hv : isVF (.mk 1 []) v with
 | false => rw [join_err_b hv] at hj; cases hj
 | true =>
  obtain ⟨b, rfl⟩ := form1 hv
  have h1 : joinVF (.mk 1 []) (num a) (num b) = .ok (num (max a b)) := join_num a b
  rw [h1] at hj
  injection hj with hj
  subst hj
  refine ⟨⟨is_num _, ?_⟩, ?_, ?_⟩
  ·simp [num, okV, okVs] at oa ov ⊢
   omega
  ·have := sz_num (max a b)
   omega
  ·rw [leq_num]
   congr 1
   rw [decide_eq_decide, num_iff]
   omega
section
def kM1 : Bs := [109, 49]
def kM2 : Bs := [109, 50]
def kS1 : Bs := [115, 49]
def tM : Tbl := ([109], 1, .mk 1 [])
def tS : Tbl := ([115], 1, .mk 3 [])
theorem find_m1 : findP tabs4 kM1 = some tM := by rfl
theorem find_s1 : findP tabs4 kS1 = some tS := by rfl
theorem find_x1 : findP tabs4 [120, 49] = none := by rfl
theorem bot3 : BottomF (.mk 3 []) = setV [] := by rfl
theorem right1 (a : Int) : (isF 16 (.mk 1 []) && isVF (.mk 1 []) (num a)) = true := by
 rw [show isF 16 (.mk 1 []) = true by decide, show isVF (.mk 1 []) (num a) = true from is_num a]
 rfl
theorem val_num_len (a : Int) (h : okV (num a)) : ¬ 4000 < (valB (.mk 1 []) (num a)).length := by
 have h1 := (valB_len 16 (.mk 1 []) (by decide) (num a) ⟨is_num a, h⟩).2
 rw [sz_num] at h1
 omega
theorem okN {a : Int} (h : 0 ≤ a ∧ a < 18446744073709551616) : okV (num a) := okV_num h
theorem joined_num {key : Bs} {w : Option Val} {n : Nat} {a b : Int} (hf : findP tabs4 key = some tM) (hw : getF tabs4 w key = num a) (hn : w = none → n < 24) (hj : okV (num (max a b))) : joinedF tabs4 w n key (num b) = (num (max a b), !decide (num (max a b) = num a), 0) := by
 rw [joined_ok (t := tM) (j := num (max a b)) hf (right1 b) (by rintro ⟨h1, _, h3⟩; have := hn h1; omega) (by rw [hw]; exact join_num a b), if_neg (show ¬ 4000 < (valB tM.2.2 _).length from val_num_len _ hj), hw]
theorem get_none {l : List Tbl} {key : Bs} {t : Tbl} (h : findP l key = some t) : getF l none key = BottomF t.2.2 := by
 unfold getF
 rw [h]
 rfl
theorem jm1 : joinedF tabs4 none 0 kM1 (num 3) = (num 3, true, 0) := by
 rw [joined_num (a := 0) find_m1 (by rw [get_none find_m1]; rfl) (by omega) (okN (by decide)), show (max 0 3 : Int) = 3 by decide]
 simp [num_iff]
theorem jm2 : joinedF tabs4 (some (num 3)) 1 kM1 (num 2) = (num 3, false, 0) := by
 rw [joined_num (a := 3) find_m1 rfl (by omega) (okN (by decide)), show (max 3 2 : Int) = 3 by decide]
 simp
theorem jm3 : joinedF tabs4 none 1 [120, 49] (num 2) = (num 2, false, 10) := joined_none find_x1
theorem jm4 : joinedF tabs4 none 1 kS1 (num 2) = (num 2, false, 14) := joined_type (t := tS) find_s1 (by
 rw [show isVF tS.2.2 (num 2) = false by show isVF (.mk 3 []) (num 2) = false; unfold num; rw [zX1 3]; rfl]
 exact Bool.and_false _)
theorem fit_none {l : List Tbl} {w : Option Val} {key : Bs} {v : Val} (hf : findP l key = none) : FitJ l w key v := fun t j ht => by
 rw [hf] at ht
 cases ht
theorem fit_type {l : List Tbl} {w : Option Val} {key : Bs} {v : Val} {t : Tbl} (hf : findP l key = some t) (h : isVF t.2.2 v = false) : FitJ l w key v := fun t2 j ht hj => by
 rw [hf] at ht
 injection ht with ht
 subst ht
 rw [join_err_b h] at hj
 cases hj
theorem sum3 : (sumV tabs4 kM1 (num 3) == 0) = false := by
 unfold sumV
 rw [find_m1]
 show (hashB (valB (.mk 1 []) (num 3)) == 0) = false
 rw [show valB (.mk 1 []) (num 3) = [3] by simp [valB, valBs, kindB, num, flatB, numB]]
 decide
section
variable {tid mid clk : Nat} {es : List ME} {l : List Tbl} {keys : List Bs} {key : Bs} {w : Option Val} {a b : Val} {more : Bool} {e : Int}
theorem hj0 (S : MS) (hS : S[tid]? = some (tbO0 l mid)) (hm : S[mid]? = some (.mp clk es)) (hl : mpLook (bs key) es = w.map encV) (ov : okV a) (ow : okV (getF l w key)) (hb : FitJ l w key a) (hr : joinedF l w 0 key a = (b, more, e)) (L : MS) :
  MCalls Tryz.prog 85 [.ref tid 0, .str (bs key), encV a] (S ++ L) fun v σ' => v = .tup [encV b, .bool more, encEr e] ∧ σ' = S ++ L := by
 have h := joined0_spec (S ++ L) tid mid clk es l key w a (zO hS) (zO hm) hl ov ow hb
 rw [hr] at h
 exact h
theorem hj1 (S : MS) (hS : S[tid]? = some (tbO l keys mid)) (hm : S[mid]? = some (.mp clk es)) (hl : mpLook (bs key) es = w.map encV) (ov : okV a) (ow : okV (getF l w key)) (hb : FitJ l w key a) (hr : joinedF l w keys.length key a = (b, more, e)) (L : MS) :
  MCalls Tryz.prog 85 [.ref tid 0, .str (bs key), encV a] (S ++ L) fun v σ' => v = .tup [encV b, .bool more, encEr e] ∧ σ' = S ++ L := by
 have h := joined_spec (S ++ L) tid mid clk es l keys key w a (zO hS) (zO hm) hl ov ow hb
 rw [hr] at h
 exact h
end
theorem wOps_to {P : Program} {rd : Option Nat} {rest : List Oper} {ops : Array Oper} {env : Env} {σ : MS} {W : Env → MS → Prop} (σ' : MS) (e : σ = σ') (h : wOps P rd ops W rest env σ') : wOps P rd ops W rest env σ := e ▸ h
theorem own_get0 {S L : MS} {o : MObj} (h : L[0]? = some o) : (S ++ L)[S.length]? = some o := (getElem?_own S L 0).trans h
theorem own_set0 {S L : MS} {o p : MObj} : (S ++ o :: L).set S.length p = S ++ p :: L := zS4
def esM : List ME := [(bs kM1, encV (num 3), 0)]
theorem look_m1 : mpLook (bs kM1) esM = some (encV (num 3)) := by simp [mpLook, esM]
theorem look_ne {k : Bs} (h : k ≠ kM1) : mpLook (bs k) esM = none := by
 have : ¬ bs kM1 = bs k := fun e => h (by
  unfold bs at e
  injection e with e
  exact (List.toArray_inj e).symm)
 simp [mpLook, esM, this]
theorem known13_spec (S : MS) : MCalls Tryz.prog 19 [] S fun v σ' => v = .bool true ∧ σ' = S := by
 refine zN Tryz.func19 V Tryz.ntmps19 (zA V) ?_
 refine zB <| qR V <| qA V V V <| qN <| zB <| qR V ?_
 refine qX V V V V co26 (zS5 _) ?_
 refine qX V V V V co25 (tblNew_spec _ tabs4 (by decide) right4) ?_
 rw [List.append_nil]
 refine qA V V V <| qN <| zB <| zB <| qR V <| qM V V V <| qO V <| op_ptrnil V Tryz.underlying62 V V V (.inl Vv) <| qN <| zL V (V) <| zR <| zB <| qR V <| qM V V V <| qO V <| zT2 (y := encV (num 3)) (zN1 V zL1 zm27 (.cons zS3 sz22 V V (zA V) .nil) (by kernel_rfl) Vv) (.agg (.cons (.refl _) (.cons (.refl _) (.cons (.nil 1) (.cons (.nil 1) (.cons (.nil 5) .nil)))))) ?_
 refine qX V V V V co28 (putNew_spec _ (S.length + 1) kM1 (num 3) (num 3) (hj0 (key := kM1) _ (show _ = some (tbO0 tabs4 S.length) by rw [getElem?_own]; rfl) own_at0 (w := none) V (okN (by decide)) (okN (a := 0) (by decide)) (fit_num (a := 0) find_m1 V (okN (by decide)) (okN (by decide))) jm1) S.length 0 [] tabs4 (by omega) (by rw [getElem?_own]; rfl) own_at0) ?_
 refine wOps_to (S ++ [.mp 1 esM, tbO tabs4 [kM1] S.length]) (by rw [set_own]; exact own_set0) ?_
 refine qM V V V <| qO V <| zB0 V V V <| qO V <| zB0 V V V <| qA V V V <| qA V V V <| qN <| zB <| qR V <| qM V V V <| qO V <| zT2 (y := encV (num 2)) (zN1 V zL1 zm27 (.cons zS3 sz22 V V (zA V) .nil) (by kernel_rfl) Vv) (.agg (.cons (.refl _) (.cons (.refl _) (.cons (.nil 1) (.cons (.nil 1) (.cons (.nil 5) .nil)))))) ?_
 refine qX V V V V co28 (putLess_spec _ (S.length + 1) kM1 (num 2) (num 3) (hj1 (key := kM1) _ (show _ = some (tbO tabs4 [kM1] S.length) by rw [getElem?_own]; rfl) (show _ = some (MObj.mp 1 esM) by exact own_get0 V) (w := some (num 3)) look_m1 (okN (by decide)) (okN (a := 3) (by decide)) (fit_num (a := 3) find_m1 V (okN (by decide)) (okN (by decide))) jm2)) ?_
 refine qM V V V <| qO V <| zB0 V V V <| qO V <| zB0 V V V <| qA V V V <| qA V V V <| qN <| zB <| qR V <| qM V V V <| qO V <| zT2 (y := encV (num 2)) (zN1 V zL1 zm27 (.cons zS3 sz22 V V (zA V) .nil) (by kernel_rfl) Vv) (.agg (.cons (.refl _) (.cons (.refl _) (.cons (.nil 1) (.cons (.nil 1) (.cons (.nil 5) .nil)))))) ?_
 refine qX V V V V co28 (putErr_spec _ (S.length + 1) [120, 49] (num 2) (num 2) false 10 (hj1 (key := [120, 49]) _ (show _ = some (tbO tabs4 [kM1] S.length) by rw [getElem?_own]; rfl) (show _ = some (MObj.mp 1 esM) by exact own_get0 V) (w := none) (look_ne (by decide)) (okN (by decide)) (okN (a := 0) (by decide)) (fit_none find_x1) jm3)) ?_
 refine qM V V V <| qO V <| zB0 V V V <| qO V <| zB0 V V V <| qA V V V <| qA V V V <| qN <| zB <| qR V <| qM V V V <| qO V <| zT2 (y := encV (num 2)) (zN1 V zL1 zm27 (.cons zS3 sz22 V V (zA V) .nil) (by kernel_rfl) Vv) (.agg (.cons (.refl _) (.cons (.refl _) (.cons (.nil 1) (.cons (.nil 1) (.cons (.nil 5) .nil)))))) ?_
 refine qX V V V V co28 (putErr_spec _ (S.length + 1) kS1 (num 2) (num 2) false 14 (hj1 (key := kS1) _ (show _ = some (tbO tabs4 [kM1] S.length) by rw [getElem?_own]; rfl) (show _ = some (MObj.mp 1 esM) by exact own_get0 V) (w := none) (look_ne (by decide)) (okN (by decide)) (by simp [getF, find_s1, okV, okVs, tS, bot3, setV]) (fit_type (t := tS) find_s1 (by show isVF (.mk 3 []) (num 2) = false; unfold num; rw [zX1 3]; rfl)) jm4)) ?_
 refine qM V V V <| qO V <| zB0 V V V <| qO V <| zB0 V V V <| qA V V V <| qA V V V <| qN <| zB <| qR V ?_
 refine qX V V V V co26 (zS5 _) ?_
 refine qX V V V V co20 (find_spec tabs4 [115, 57] _) ?_
 refine qM V V V <| qO V <| zB0 V V V <| qO V <| zB0 V V V <| qO V <| zM0 V zm55 V V <| qO V <| zY V V V V sz55 V V (zA V) V <| qA V V V <| qN <| zB <| qR V ?_
 refine qX V V V V co26 (zS5 _) ?_
 refine qX V V V V co20 (find_spec tabs4 [115] _) ?_
 refine qM V V V <| qO V <| zB0 V V V <| qO V <| zB0 V V V <| qO V <| zM0 V zm55 V V <| qO V <| zY V V V V sz55 V V (zA V) V <| qA V V V <| qN <| zB <| qR V <| qM V V V <| qM V V V <| qM V V V <| qO V <| zP3 V zZ V V (.inl Vv) <| qP V V V V <| qM V V V <| qM V V V <| qO V <| zW0 V V ?_
 refine qP V V V V <| qM V V V <| qM V V V <| qO V <| zP3 V zZ V V (.inl Vv) <| qP V V V V <| qM V V V <| qM V V V <| qO V <| zH1 V V zY0 (by simp) ?_
 refine qX V V V V co18 (errIs_spec 10 _) ?_
 refine qP V V V V <| qM V V V <| qM V V V <| qO V <| zH1 V V zY0 (by simp) ?_
 refine qX V V V V co18 (errIs_spec 14 _) ?_
 refine qP V V V V <| qM V V V <| qM V V V ?_
 refine qX V V V V co27 (tblGet_spec _ (S.length + 1) S.length 1 esM tabs4 _ kM1 (some (num 3)) (show _ = some (tbO tabs4 [kM1] S.length) by rw [getElem?_own]; rfl) (show _ = some (MObj.mp 1 esM) by exact own_get0 V) look_m1) ?_
 refine qO V <| op_field V V zS3 ta22 V <| qC V V V V V <| qP V V V V <| qM V V V <| qM V V V <| qP V V V V <| qM V V V <| qF V V V zN4 <| qL V V V V ta9 V <| qO V <| zM2 V V V V <| qP V V V V <| qM V V V <| qM V V V <| qO V <| zW0 V V <| qP V V V V ?_
 refine qM V V V ?_
 refine qX V V V V co26 (zS5 _) ?_
 refine qX V V V V co22 (right_spec tabs4 _) ?_
 rw [right4]
 refine qP V V V V <| qM V V V ?_
 refine qX V V V V co22 ((right_spec [] _).sub (.cons (.nil 4) .nil)) ?_
 refine qO V <| zW0 V V <| qP V V V V <| qM V V V <| qM V V V ?_
 refine qX V V V V co31 (tableAll_spec _ (S.length + 1) S.length 1 esM tabs4 [(kM1, num 3)] (by decide) (fun e he => by simp at he; subst he; exact look_m1) (show _ = some (tbO tabs4 [kM1] S.length) by rw [getElem?_own]; rfl) (show _ = some (MObj.mp 1 esM) by exact own_get0 V)) ?_
 refine qE V V Tryz.underlying28 V <| qC V V V V V <| qP V V V V <| qM V V V <| qM V V V ?_
 refine qX V V V V co32 (tblSum_spec _ (S.length + 1) S.length 1 esM tabs4 _ kM1 (show _ = some (tbO tabs4 [kM1] S.length) by rw [getElem?_own]; rfl) (show _ = some (MObj.mp 1 esM) by exact own_get0 V) (num 3) look_m1 ⟨tM, find_m1, by decide, ⟨is_num 3, okN (by decide)⟩, by rw [sz_num]; decide⟩) ?_
 refine qC V V V V (show intCmp .neq (sumV tabs4 kM1 (num 3)) 0 = some true by show some (!(sumV tabs4 kM1 (num 3) == 0)) = _; rw [sum3]; rfl) ?_
 refine qP V V V V <| qM V V V <| qM V V V ?_
 refine qX V V V V co32 (tblSum0_spec _ (S.length + 1) S.length 1 esM tabs4 _ kM2 (show _ = some (tbO tabs4 [kM1] S.length) by rw [getElem?_own]; rfl) (show _ = some (MObj.mp 1 esM) by exact own_get0 V) (look_ne (by decide))) ?_
 refine qC V V V V V <| qP V V V V <| qA V V V <| qN <| zJ ?_
 exact zT (.inr V) Tryz.results19 V (.of_eq (V)) (.bool _) Vv
end
theorem TableFinds_spec (l : List Tbl) (key : Bs) (S : MS) : MCalls Tryz.prog 4 [.lst none 4 (l.map encTb), .str (bs key)] S fun v σ' => v = .bool true ∧ σ' = S := by
 refine zN Tryz.func4 V Tryz.ntmps4 (zA V) ?_
 obtain ⟨⟨fn, fl, ⟨fk, fi⟩⟩, hft⟩ : ∃ t, (findP l key).getD tb0 = t := ⟨_, rfl⟩
 obtain ⟨fb, hfb⟩ : ∃ b, (findP l key).isSome = b := ⟨_, rfl⟩
 have hfs := find_spec l key
 have hrs := rFind_spec l key
 rw [hft, hfb] at hfs hrs
 refine zB <| qR V <| qA V V V <| qN <| zB <| zB <| qR V ?_
 refine qX V V V V co19 (known13_spec _) ?_
 refine qO V <| zW0 V V <| qN <| zL V (V) <| zR <| zB <| zB <| qR V <| qM V V V <| qO V <| zU2 V zP0 V <| qC V V V V V <| qM V V V ?_
 refine zN0 (fun h14 => ?_) (fun h14 => ?_)
 ·
  refine qS V <| qS V <| qS V <| qP V V V V <| qN <| zQ V (V) <| zB <| qR V <| qA V V V <| qN <| zJ ?_
  exact zT (.inr V) Tryz.results4 V (.of_eq (V)) (.bool _) Vv
 ·
  refine qM V V V <| qE V V zF1 V <| qC V V V V V <| qP V V V V <| qN ?_
  refine zH V (fun h18 => ?_) (fun h18 => ?_)
  ·
   refine zB <| qR V <| qA V V V <| qN <| zJ ?_
   exact zT (.inr V) Tryz.results4 V (.of_eq (V)) (.bool _) Vv
  ·
   refine zR <| zB <| qR V <| qM V V V <| qM V V V ?_
   refine qX V V V V co20 (hfs _) ?_
   refine qM V V V <| qO V <| zB0 V V V <| qO V <| zB0 V V V <| qO V <| zM0 V zm55 V V <| qO V <| zY V V V V sz55 V V (zA V) V <| qA V V V <| qN <| zB <| qR V <| qM V V V <| qM V V V ?_
   refine qX V V V V co21 (hrs _) ?_
   refine qM V V V <| qO V <| zB0 V V V <| qO V <| zB0 V V V <| qO V <| zM0 V zm55 V V <| qO V <| zY V V V V sz55 V V (zA V) V <| qA V V V <| qN <| zB <| qR V <| qM V V V ?_
   refine qX V V V V co22 (right_spec l _) ?_
   refine qM V V V ?_
   refine qX V V V V co23 (rRight_spec l _) ?_
   refine qO V <| zT2 (y := .bool true) (op_booleq V Tryz.underlying4 V V Vv) (.of_eq (congrArg MV.bool (beq_self_eq_true _))) <| qM V V V <| qM V V V ?_
   refine qX V V V V co23 (rRight_spec l _) ?_
   refine qO V <| zW0 V V <| qM V V V ?_
   refine zN0 (fun h40 => ?_) (fun h40 => ?_)
   ·
    refine qT V V V V <| qT V V V V <| qT V V V V <| qT V V V V <| qT V V V V <| qT V V V V <| qP V V V V <| qP V V V V <| qA V V V ?_
    refine qN <| zJ ?_
    exact zT (.inr V) Tryz.results4 V (.of_eq (V)) (.bool _) Vv
   ·
    refine qM V V V <| qM V V V <| qO V <| zT2 (y := .bool true) (op_booleq V Tryz.underlying4 V V Vv) (.of_eq (congrArg MV.bool (beq_self_eq_true _))) <| qM V V V <| qF V V V zN4 <| qL V V V V ta9 V <| qF V V V zN4 <| qL V V V V ta9 V <| qO V <| zT2 (y := .bool true) (zM2 V V V V Vv) (.of_eq (congrArg MV.bool (beq_self_eq_true _))) <| qP V V V V <| qM V V V <| qF V V V fo55_1 <| qL V V V V ta3 V <| qF V V V fo55_1 <| qL V V V V ta3 V ?_
    refine qO V <| zT2 (y := .bool true) (zE2 V V V V Vv) (.of_eq (congrArg MV.bool (beq_self_eq_true _))) <| qP V V V V <| qM V V V <| qF V V V zC4 <| qL V V V V ta53 V <| qF V V V zC4 <| qL V V V V ta53 V ?_
    refine qX V V V V co24 (rSameSch_spec _ (.mk fk fi) (.mk fk fi) (Nat.le_refl _) _) ?_
    rw [decide_eq_true (rfl : Sch.mk fk fi = .mk fk fi)]
    refine qP V V V V <| qP V V V V <| qP V V V V <| qA V V V <| qN <| zJ ?_
    exact zT (.inr V) Tryz.results4 V (.of_eq (V)) (.bool _) Vv
theorem cells_tbl : Tryz.prog.cellsOf 55 = 4 := by kernel_rfl
theorem el_tbl (m : Nat) (x : MV) (_ : x.cells.length = Tryz.prog.cellsOf 55) (h : TyM Tryz.prog m 55 x.cells) (he : ElF Tryz.prog 55 x) : ∃ a : Tbl, x = encTb a ∧ True := by
 obtain ⟨m', _, h⟩ := tyM_struct zG2 h
 obtain ⟨a, _, e1, h1, b, _, e2, h2, c, _, e3, h3, e4⟩ := h
 subst e4
 obtain ⟨s, rfl, _⟩ := tyM_str zP0 h1
 obtain ⟨n, rfl, _⟩ := tyM_intK zX2 h2
 obtain ⟨⟨k, i⟩, hs⟩ := tyM_sch _ _ h3
 injection hs with hs
 subst e3 e2
 simp only [ElF, zG2] at he
 refine ⟨(s, n, .mk k i), ?_, trivial⟩
 rw [he, e1, hs]
 rfl
theorem arg_tables {ts : List TypeId} (hok : okTypes Tryz.prog ts = true) (ht : 39 ∈ ts) {H : Type} {enc : TypeId × Value → H} {W : World} {base b0 : Nat} {spare : Nat → Bool} {held : Bool} {r : Reach} {v : Value} {d : DataW H} {p : List MemPlace} (hv : Value.okWide Tryz.prog W r b0 39 v) (h : DataW.Trod enc Tryz.prog W base spare held 39 v d p) :
  ∃ c : List Tbl, Rd (g0 W) W (.lst none 4 (c.map encTb)) v := by
 obtain ⟨c, h1, h2, h3⟩ := arg_slice (en := encTb) hok ht zF1 el_tbl hv h
 rw [cells_tbl] at h1
 exact ⟨c, h1⟩
end Go.Proofs.YtciimaabeabkdaaGreatDoor
