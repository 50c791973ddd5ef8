/-
  Texts on which the proof of PartsJoin leans: part 3.
-/
import Derived.Test.YtnfcnpdpfgcchaaGreatPartsJoinB
import Derived.Laws.BytesString
import Derived.Lib.Bytealg
import Derived.Laws.Externs
set_option linter.unusedVariables false
set_option linter.unusedSimpArgs false
set_option maxRecDepth 20000
set_option maxHeartbeats 8000000
namespace Go.Proofs.YtnfcnpdpfgcchaaGreat
open Go Go.MV
def pairsY (l : List Bs) : List (List MV) := (List.range (l.length - 1)).map fun i => [encX (l.getD i []), encX (l.getD (i + 1) [])]
theorem pairsY_len (l : List Bs) : (pairsY l).length = l.length - 1 := by simp [pairsY]
theorem pairsY_get {l : List Bs} {i : Nat} {a b : Bs} (ha : l[i]? = some a) (hb : l[i + 1]? = some b) : (pairsY l)[i]? = some [encX a, encX b] := by
 have h1 := (zH.1 hb).1
 unfold pairsY
 rw [zN0, List.getElem?_range (by omega)]
 simp [ha, hb]
theorem rises_iff : ∀ l : List Bs, risesF l = true ↔ ∀ i, i + 1 < l.length → Op.bytesLess (l.getD i []) (l.getD (i + 1) []) = true
 | [] => by simp [risesF]
 | [a] => by simp [risesF]
 | a :: b :: l => by
  rw [risesF, Bool.and_eq_true, rises_iff (b :: l)]
  constructor
  ·rintro ⟨h1, h2⟩ i hi
   cases i with
   | zero => simpa using h1
   | succ i => simpa using h2 i (by simpa using hi)
  ·intro h
   exact ⟨by simpa using h 0 (by simp), fun i hi => by simpa using h (i + 1) (by simpa using hi)⟩
def twoY (l : List (List Tk)) : List (List Tk × List Tk) := match l with
 | [] => []
 | a :: l => l.map (fun b => (a, b)) ++ twoY l
def encP (p : List Tk × List Tk) : List MV := [encC p.1, encC p.2]
theorem two_iff : ∀ l : List (List Tk), pairsF l = true ↔ ∀ p ∈ twoY l, pairF p.1 p.2 = true
 | [] => by simp [pairsF, twoY]
 | a :: l => by
  rw [pairsF, twoY, Bool.and_eq_true, two_iff l, List.all_eq_true]
  simp only [zJ1, List.mem_map]
  constructor
  ·rintro ⟨h1, h2⟩ p (⟨b, hb, rfl⟩ | hp)
   ·exact h1 b hb
   ·exact h2 p hp
  ·intro h
   exact ⟨fun b hb => h (a, b) (.inl ⟨b, hb, rfl⟩), fun p hp => h p (.inr hp)⟩
theorem drop_cons_get {α : Type} {l r : List α} {a : α} {j : Nat} (h : a :: r = l.drop j) : l[j]? = some a ∧ r = l.drop (j + 1) := by
 have h1 := congrArg (fun q => q[0]?) h
 have h2 := congrArg (List.drop 1) h
 simp only [List.getElem?_cons_zero, List.getElem?_drop, Nat.add_zero] at h1
 refine ⟨h1.symm, ?_⟩
 simpa [List.drop_drop] using h2
theorem _root_.zE2 : type_of% @drop_cons_get := @drop_cons_get
theorem drop_nil_len {α : Type} {l : List α} {j : Nat} (h : [] = l.drop j) : l.length ≤ j := by
 have := congrArg List.length h
 simp at this
 omega
theorem drop_at {α : Type} {l : List α} {i : Nat} {a : α} (h : l[i]? = some a) : l.drop i = a :: l.drop (i + 1) := by
 obtain ⟨hlt, e⟩ := zH.1 h
 rw [List.drop_eq_getElem_cons hlt, e]
theorem _root_.zT4 : type_of% @drop_at := @drop_at
theorem two_mem : ∀ {l : List (List Tk)} {a b : List Tk}, (a, b) ∈ twoY l → a ∈ l ∧ b ∈ l
 | [], a, b, h => by simp [twoY] at h
 | x :: l, a, b, h => by
  rw [twoY, zJ1] at h
  rcases h with h | h
  ·obtain ⟨y, hy, e⟩ := List.mem_map.1 h
   injection e with e1 e2
   subst e1 e2
   exact ⟨zM0 .., zI0 _ hy⟩
  ·have := two_mem h
   exact ⟨zI0 _ this.1, zI0 _ this.2⟩
theorem clock_len {c : List Tk} (h : isClockF c = true) : c.length ≤ 40 := by
 unfold isClockF at h
 simp at h
 omega
def orF (l : List Int) : Int := (l.find? (· != 0)).getD 0
theorem or_two (a b : Int) : orF [a, b] = if a ≠ 0 then a else b := by
 unfold orF
 by_cases h : a = 0
 ·by_cases h2 : b = 0
  ·simp [h, h2]
  ·simp [h, h2]
 ·simp [h]
theorem or_cons (a : Int) (l : List Int) : orF (a :: l) = if a ≠ 0 then a else orF l := by
 unfold orF
 by_cases h : a = 0 <;> simp [h]
def encI (n : Int) : MV := .int .i64 n
theorem ticks_at {a b : List Tk} {i : Nat} {x y : Tk} (ha : a[i]? = some x) (hb : b[i]? = some y) : byTicksF (a.drop i) (b.drop i) = if tickC x y ≠ 0 then tickC x y else byTicksF (a.drop (i + 1)) (b.drop (i + 1)) := by
 rw [zT4 ha, zT4 hb, byTicksF]
def findGo {α : Type} (p : α → Bool) : Nat → List α → Int
 | _, [] => -1
 | i, x :: l => if p x then (i : Int) else findGo p (i + 1) l
theorem find_any {α : Type} (p : α → Bool) : ∀ (i : Nat) (l : List α), decide (0 ≤ findGo p i l) = l.any p
 | _, [] => by simp [findGo]
 | i, x :: l => by
  rw [findGo, List.any_cons]
  split
  ·rename_i h; simp [h]
  ·rename_i h; rw [find_any p (i + 1) l]; simp [h]
theorem find_at {α : Type} {p : α → Bool} {l : List α} {i : Nat} {x : α} (h : l[i]? = some x) : findGo p i (l.drop i) = if p x then (i : Int) else findGo p (i + 1) (l.drop (i + 1)) := by
 rw [zT4 h, findGo]
theorem _root_.zH0 : type_of% @Tryz.underlying125 := @Tryz.underlying125
theorem pairs_iter (l : List Bs) (hlen : l.length ≤ maxLen) (bid l0 : Nat) : IterOk Tryz.prog 133 [] [.ref bid 0] (pairsY l) (fun σ => σ.length = l0 ∧ σ[bid]? = some (.cells [.lst none 1 (l.map encX)])) := by
 refine iterOk_of fun id T m hok hm hyt hyf => ?_
 refine zU Tryz.func133 V Tryz.ntmps133 (zA V) ?_
 rw [List.append_nil]
 show mwp _ _ _ _ _ _ _ (([] : MS) ++ T 0)
 refine zB <| qR V <| qA V V V <| qN <| zB0 ?_
 refine zQ1 (α := Nat) [(0, _), (1, _)] (fun j => [(3, .int .i64 ((j + 1 : Nat) : Int))]) (fun j => T j) (fun j => j ≤ m) (fun j => m + 1 - j) (0) (.keep V (.keep V (.nil))) (.keep V (.nil)) (by omega) (V) ?_
 rintro j hj
 refine zB <| zB <| qR V <| qM V V V <| qO V <| zR V V (hok _).2 ta125 V <| qE V V zH0 V <| qC V V V V V <| qN ?_
 refine zK V (fun h7 => ?_) (fun h7 => ?_)
 ·
  have hlt : j + 1 < l.length := by rw [zC] at h7; simp at h7; omega
  obtain ⟨a, hs⟩ : ∃ a, l[j]? = some a := ⟨_, zD (by omega)⟩
  obtain ⟨b, hs2⟩ : ∃ a, l[j + 1]? = some a := ⟨_, zD hlt⟩
  have hy := pairsY_get hs hs2
  have hjl : j < (pairsY l).length := (zH.1 hy).1
  refine zY <| zB <| zB0 <| zB ?_
  rcases Nat.lt_or_eq_of_le hj with hjm | hjm
  ·
   refine zV0 [10] [_, T (j + 1)] mo (by decide) V V V V ?_
   refine dO V V V (zS V V Vv) <| zV V V (.cons (zR V V (hok _).2 ta125 V Vv) (.cons (zR V V (hok _).2 ta125 V Vv) (.nil))) <| zV V V (.cons (zS V V Vv) (.cons (zS V V Vv) (.nil))) <| zV V V (.cons (zO0 V V V (wsub (a := j + 1) (b := 1) (c := j) (by omega) (by simp only [maxLen] at hlen; omega)) Vv) (.cons (zO0 V V V (wsub (a := j + 1) (b := 1) (c := j) (by omega) (by simp only [maxLen] at hlen; omega)) Vv) (.nil))) ?_
   refine zV V V (.cons (zG V zH0 sz9 (by decide) V V V (zR0 hs) Vv) (.cons (zG V zH0 sz9 (by decide) V V V (zR0 hs) Vv) (.nil))) ?_
   refine dO V V V (zI V V ta9 V Vv) <| zV V V (.cons (zR V V (hok _).2 ta125 V Vv) (.cons (zR V V (hok _).2 ta125 V Vv) (.nil))) <| zV V V (.cons (zS V V Vv) (.cons (zS V V Vv) (.nil))) <| zV V V (.cons (zG V zH0 sz9 (by decide) V V V (zR0 hs2) Vv) (.cons (zG V zH0 sz9 (by decide) V V V (zR0 hs2) Vv) (.nil))) ?_
   refine dO V V V (zI V V ta9 V Vv) <| zL1 V V V V ((hyt j _ hjm hy).at0 V V V) <| dO V V V (zY0 V V Vv) <| zK0 <| zQ V (V) <| zY <| qR V <| qM V V V <| qO V <| zO0 V V V V <| qA V V V <| qN ?_
   refine ⟨j + 1, by omega, by omega, rfl, (.keep V (.keep V (.nil))), (.eq V (zK1 hlt hlen) (.nil))⟩
  ·
   refine zV0 [10] [_, T (j + 1)] mo (by decide) V V V V ?_
   refine dO V V V (zS V V Vv) <| zV V V (.cons (zR V V (hok _).2 ta125 V Vv) (.cons (zR V V (hok _).2 ta125 V Vv) (.nil))) <| zV V V (.cons (zS V V Vv) (.cons (zS V V Vv) (.nil))) <| zV V V (.cons (zO0 V V V (wsub (a := j + 1) (b := 1) (c := j) (by omega) (by simp only [maxLen] at hlen; omega)) Vv) (.cons (zO0 V V V (wsub (a := j + 1) (b := 1) (c := j) (by omega) (by simp only [maxLen] at hlen; omega)) Vv) (.nil))) ?_
   refine zV V V (.cons (zG V zH0 sz9 (by decide) V V V (zR0 hs) Vv) (.cons (zG V zH0 sz9 (by decide) V V V (zR0 hs) Vv) (.nil))) ?_
   refine dO V V V (zI V V ta9 V Vv) <| zV V V (.cons (zR V V (hok _).2 ta125 V Vv) (.cons (zR V V (hok _).2 ta125 V Vv) (.nil))) <| zV V V (.cons (zS V V Vv) (.cons (zS V V Vv) (.nil))) <| zV V V (.cons (zG V zH0 sz9 (by decide) V V V (zR0 hs2) Vv) (.cons (zG V zH0 sz9 (by decide) V V V (zR0 hs2) Vv) (.nil))) ?_
   refine dO V V V (zI V V ta9 V Vv) <| zL1 V V V V ((hyf j _ hjm hy).at0 V V V) <| dO V V V (zY0 V V Vv) <| zK0 <| zA0 V (V) ?_
   refine zV1 fun hcv hcl => ?_
   refine zL ?_
   exact zS2 (S' := T (j + 1)) (by simp) Tryz.results133 (by rw [(hok _).1, (hok _).1]; exact Nat.le_refl _) hcl ⟨rfl, by rw [hjm, if_pos (by omega)]⟩
 ·
  have hge : l.length ≤ j + 1 := by rw [zC] at h7; simp at h7; omega
  have hpl := pairsY_len l
  have hjm : j = m := by omega
  refine zV1 fun hcv hcl => ?_
  refine zF1 ?_
  exact zS2 (S' := T j) (by simp) Tryz.results133 (by rw [(hok _).1, (hok _).1]; exact Nat.le_refl _) hcl ⟨rfl, by rw [hjm, if_neg (by rw [pairsY_len]; omega)]⟩
theorem pairs_spec (l : List Bs) (S : MS) : MCalls Tryz.prog 112 [.lst none 1 (l.map encX)] S fun v σ' => v = .fn (.func 133) [] [.ref S.length 0] ∧ σ' = S ++ [.cells [.lst none 1 (l.map encX)]] := by
 refine zU Tryz.func112 V Tryz.ntmps112 (zA V) ?_
 refine zB <| qR V <| qB V V V V V <| qA V V V <| qN <| zB <| qR V <| qO V <| zB2 V V V <| qA V V V <| qN ?_
 refine zV1 fun hcv hcl => ?_
 refine zL ?_
 exact ret_tmpT (.inr V) Tryz.results112 V (.refl _) (hcv 2 _ rfl) (by simp) hcl Vv
theorem rowsIs_spec (l : List Bs) (S : MS) : MCalls Tryz.prog 94 [.lst none 1 (l.map encX)] S fun v σ' => v = .bool (risesF l) ∧ σ' = S := by
 refine zU Tryz.func94 V Tryz.ntmps94 (zA V) ?_
 refine zI2 (t := 0) V fun hlen => ?_
 rw [zC] at hlen
 refine zB <| qR V <| qO V <| zL0 V zm4 V V <| qN <| zB <| zB <| qR V <| qM V V V ?_
 refine qX V V V V co112 (pairs_spec l _) ?_
 rw [zZ]
 refine qN <| zB0 ?_
 refine mwp_rangeB (ok := fun σ => σ.length = S.length + 3 ∧ σ[(S ++ [MObj.cells [.bool false]]).length]? = some (.cells [.lst none 1 (l.map encX)])) (ys := pairsY l) .ret (.inl V) (fun j => Op.bytesLess (l.getD j []) (l.getD (j + 1) [])) (fun j => ([.cells [.bool false], .cells [.lst none 1 (l.map encX)]] : MS)) (fun j => ([.cells [.bool false], .cells [.lst none 1 (l.map encX)]] : MS)) (fun j => V) (fun j => V) V (fun j o ho n hn => by simp at ho; rcases ho with rfl | rfl <;> intro x hx <;> (simp at hx; subst hx; first | exact .bool _ | exact zW4 _ _ | exact cl_clocks _ _)) (fun j o ho n hn => by simp at ho; rcases ho with rfl | rfl <;> intro x hx <;> (simp at hx; subst hx; first | exact .bool _ | exact zW4 _ _ | exact cl_clocks _ _)) V co133 V (by simp) ((pairs_iter l hlen _ _).weak fun σ h => h.1) (fun j => ⟨by simp, get_box⟩) (fun j s q => ⟨by simp, get_box⟩) V (fun y hy => by obtain ⟨i, _, rfl⟩ := List.mem_map.1 hy; rfl) ?_ ?_ ?_
 ·
  intro j y hy hbef L'
  obtain ⟨hjl, hys⟩ := zH.1 hy
  have hpl := pairsY_len l
  obtain ⟨a, hs⟩ : ∃ a, l[j]? = some a := ⟨_, zD (by omega)⟩
  obtain ⟨b, hs2⟩ : ∃ a, l[j + 1]? = some a := ⟨_, zD (by omega)⟩
  have hyy := pairsY_get hs hs2
  rw [hy] at hyy
  injection hyy with hyy
  subst hyy
  have ha : l.getD j [] = a := by simp [hs]
  have hb : l.getD (j + 1) [] = b := by simp [hs2]
  rw [ha, hb]
  refine zB <| qR V <| qA V V V <| qN <| qR V <| qA V V V <| qN ?_
  refine ⟨rfl, [], by rw [List.append_nil], ?_⟩
  rw [List.append_nil]
  refine zB0 <| zB <| qR V <| qM V V V <| qM V V V <| qO V <| zM3 V V V V <| qN ?_
  refine zK V (fun h11 => ?_) (fun h11 => ?_)
  ·
   refine zB <| qR V <| qO V <| zP5 V V V V sz4 V V (zA V) V <| qN <| zL ?_
   exact .inr ⟨by simpa using h11, rfl, [], by rw [List.append_nil]; rfl⟩
  ·
   refine zY ?_
   exact .inl ⟨by simpa using h11, rfl, [], by rw [List.append_nil]⟩
 ·
  intro hall
  rw [zZ]
  have hr : risesF l = true := (rises_iff l).2 fun i hi => hall i (by rw [pairsY_len]; omega)
  refine zB <| qR V <| qO V <| zG0 V V V V sz4 V V (zA V) V <| qN <| zL ?_
  exact zO2 (.inr V) Tryz.results94 V V ta4 V (.refl _) (.bool _) ⟨by rw [hr], rfl⟩
 ·
  intro j y hy hp
  have hjl := (zH.1 hy).1
  rw [pairsY_len] at hjl
  have hr : risesF l = false := by
   cases h : risesF l with
   | false => rfl
   | true => rw [(rises_iff l).1 h j (by omega)] at hp; cases hp
  rw [zZ]
  exact zO2 (.inr V) Tryz.results94 V V ta4 V (.refl _) (.bool _) ⟨by rw [hr], rfl⟩
theorem two_iter (l : List (List Tk)) (hlen : l.length ≤ maxLen) (bid l0 : Nat) : IterOk Tryz.prog 114 [] [.ref bid 0] ((twoY l).map encP) (fun σ => σ.length = l0 ∧ σ[bid]? = some (.cells [.lst none 1 (l.map encC)])) := by
 refine iterOk_of fun id T m hok hm hyt hyf => ?_
 have hml : ((twoY l).map encP).length = (twoY l).length := zC ..
 refine zU Tryz.func114 V Tryz.ntmps114 (zA V) ?_
 rw [List.append_nil]
 show mwp _ _ _ _ _ _ _ (([] : MS) ++ T 0)
 refine zB <| qR V <| qO V <| zR V V (hok _).2 ta27 V <| qE V V zN V <| qM V V V <| qN <| zB0 ?_
 refine zQ1 (α := Nat × Nat) [(0, _), (1, _), (6, _)] (fun x => [(7, .int .i64 (x.2 : Int))]) (fun x => T x.1) (fun x => x.1 ≤ m ∧ x.2 ≤ l.length ∧ twoY (l.drop x.2) = (twoY l).drop x.1) (fun x => l.length - x.2) (⟨0, 0⟩) (.keep V (.keep V (.keep V (.nil)))) (.keep V (.nil)) (⟨by simp, by simp, rfl⟩) (V) ?_
 rintro ⟨j, i⟩ ⟨hj, hi, he⟩
 dsimp only at hj hi he ⊢
 refine zB <| qR V <| qC V V V V V <| qN <| zB ?_
 refine zK V (fun h8 => ?_) (fun h8 => ?_)
 ·
  have hlt : i < l.length := by rw [zC] at h8; simpa using h8
  obtain ⟨a, hs⟩ : ∃ a, l[i]? = some a := ⟨_, zD hlt⟩
  refine zY <| zB <| zB0 <| zB <| qR V <| qM V V V <| qA V V V <| qN <| zB <| qR V <| qM V V V <| qO V <| zO0 V V V (wadd (a := i) (b := 1) V (by simp only [maxLen] at hlen; omega)) ?_
  refine qA V V V <| qN <| zB0 ?_
  refine zQ1 (α := Nat × Nat) [(0, _), (1, _), (3, _), (6, _), (7, _)] (fun y => [(4, .int .i64 (y.2 : Int))]) (fun y => T y.1) (fun y => y.1 ≤ m ∧ y.2 ≤ l.length ∧ (l.drop y.2).map (fun b => (a, b)) ++ twoY (l.drop (i + 1)) = (twoY l).drop y.1) (fun y => l.length - y.2) (⟨j, i + 1⟩) (.keep V (.keep V (.keep V (.keep V (.keep V (.nil)))))) (.keep V (.nil)) (⟨hj, by dsimp only; omega, by dsimp only; rw [← he, zT4 hs, twoY]⟩) (V) ?_
  rintro ⟨j2, k⟩ ⟨hj2, hk, he2⟩
  dsimp only at hj2 hk he2 ⊢
  refine zB <| zB <| qR V <| qM V V V <| qO V <| zR V V (hok _).2 ta27 V <| qE V V zN V <| qC V V V V V <| qN ?_
  refine zK V (fun h15 => ?_) (fun h15 => ?_)
  ·
   have hlt2 : k < l.length := by rw [zC] at h15; simpa using h15
   obtain ⟨b, hs2⟩ : ∃ a, l[k]? = some a := ⟨_, zD hlt2⟩
   have hnx := he2
   rw [zT4 hs2, List.map_cons, List.cons_append] at hnx
   obtain ⟨hy, hnx⟩ := zE2 hnx
   replace hy : ((twoY l).map encP)[j2]? = some [encC a, encC b] := by rw [zN0, hy]; rfl
   have hjl := (zH.1 hy).1
   refine zY <| zB <| zB0 <| zB ?_
   rcases Nat.lt_or_eq_of_le hj2 with hjm | hjm
   ·
    refine zV0 [9] [_, T (j2 + 1)] mo (by decide) V V V V ?_
    refine dO V V V (zS V V Vv) <| zV V V (.cons (zR V V (hok _).2 ta27 V Vv) (.cons (zR V V (hok _).2 ta27 V Vv) (.nil))) <| zV V V (.cons (zS V V Vv) (.cons (zS V V Vv) (.nil))) <| zV V V (.cons (zG V zN sz55 (by decide) V V V (zR0 hs) Vv) (.cons (zG V zN sz55 (by decide) V V V (zR0 hs) Vv) (.nil))) ?_
    refine dO V V V (zI V V ta55 V Vv) <| zV V V (.cons (zR V V (hok _).2 ta27 V Vv) (.cons (zR V V (hok _).2 ta27 V Vv) (.nil))) <| zV V V (.cons (zS V V Vv) (.cons (zS V V Vv) (.nil))) <| zV V V (.cons (zG V zN sz55 (by decide) V V V (zR0 hs2) Vv) (.cons (zG V zN sz55 (by decide) V V V (zR0 hs2) Vv) (.nil))) ?_
    refine dO V V V (zI V V ta55 V Vv) <| zL1 V V V V ((hyt j2 _ hjm hy).at0 V V V) <| dO V V V (zY0 V V Vv) <| zK0 <| zQ V (V) <| zY <| qR V <| qM V V V <| qO V <| zO0 V V V V <| qA V V V <| qN ?_
    refine ⟨⟨j2 + 1, k + 1⟩, by dsimp only; omega, ⟨by dsimp only; omega, by dsimp only; omega, hnx⟩, rfl, (.keep V (.keep V (.keep V (.keep V (.keep V (.nil)))))), (.eq V (zK1 hlt2 hlen) (.nil))⟩
   ·
    refine zV0 [9] [_, T (j2 + 1)] mo (by decide) V V V V ?_
    refine dO V V V (zS V V Vv) <| zV V V (.cons (zR V V (hok _).2 ta27 V Vv) (.cons (zR V V (hok _).2 ta27 V Vv) (.nil))) <| zV V V (.cons (zS V V Vv) (.cons (zS V V Vv) (.nil))) <| zV V V (.cons (zG V zN sz55 (by decide) V V V (zR0 hs) Vv) (.cons (zG V zN sz55 (by decide) V V V (zR0 hs) Vv) (.nil))) ?_
    refine dO V V V (zI V V ta55 V Vv) <| zV V V (.cons (zR V V (hok _).2 ta27 V Vv) (.cons (zR V V (hok _).2 ta27 V Vv) (.nil))) <| zV V V (.cons (zS V V Vv) (.cons (zS V V Vv) (.nil))) <| zV V V (.cons (zG V zN sz55 (by decide) V V V (zR0 hs2) Vv) (.cons (zG V zN sz55 (by decide) V V V (zR0 hs2) Vv) (.nil))) ?_
    refine dO V V V (zI V V ta55 V Vv) <| zL1 V V V V ((hyf j2 _ hjm hy).at0 V V V) <| dO V V V (zY0 V V Vv) <| zK0 <| zA0 V (V) ?_
    refine zV1 fun hcv hcl => ?_
    refine zL ?_
    exact zS2 (S' := T (j2 + 1)) (by simp) Tryz.results114 (by rw [(hok _).1, (hok _).1]; exact Nat.le_refl _) hcl ⟨rfl, by rw [hjm, if_pos (by omega)]⟩
  ·
   have hge2 : k = l.length := by rw [zC] at h15; simp at h15; omega
   refine zF1 <| qR V <| qO V <| zO0 V V V V <| qM V V V <| qN ?_
   refine ⟨⟨j2, i + 1⟩, by dsimp only; omega, ⟨by dsimp only; omega, by dsimp only; omega, by rw [hge2, List.drop_length] at he2; exact he2⟩, rfl, (.keep V (.keep V (.keep V (.nil)))), (.eq V (zK1 hlt hlen) (.nil))⟩
 ·
  have hge : i = l.length := by rw [zC] at h8; simp at h8; omega
  rw [hge, List.drop_length] at he
  have hdl := drop_nil_len he
  have hjm : j = m := by omega
  refine zV1 fun hcv hcl => ?_
  refine zF1 ?_
  exact zS2 (S' := T j) (by simp) Tryz.results114 (by rw [(hok _).1, (hok _).1]; exact Nat.le_refl _) hcl ⟨rfl, by rw [hjm, if_neg (by omega)]⟩
theorem two_spec (l : List (List Tk)) (S : MS) : MCalls Tryz.prog 98 [.lst none 1 (l.map encC)] S fun v σ' => v = .fn (.func 114) [] [.ref S.length 0] ∧ σ' = S ++ [.cells [.lst none 1 (l.map encC)]] := by
 refine zU Tryz.func98 V Tryz.ntmps98 (zA V) ?_
 refine zB <| qR V <| qB V V V V V <| qA V V V <| qN <| zB <| qR V <| qO V <| zB2 V V V <| qA V V V <| qN ?_
 refine zV1 fun hcv hcl => ?_
 refine zL ?_
 exact ret_tmpT (.inr V) Tryz.results98 V (.refl _) (hcv 2 _ rfl) (by simp) hcl Vv
theorem isNaNu_spec (m : Int) (S : MS) : MCalls Tryz.prog 135 [.int .u64 m] S fun v σ' => v = .bool false ∧ σ' = S := by
 refine zU Tryz.func135 V Tryz.ntmps135 (zA V) ?_
 refine zB <| qR V <| qA V V V <| qN <| zB <| qR V <| qM V V V <| qM V V V <| qC V V V V V <| qA V V V <| qN <| zL ?_
 exact zT (.inr V) Tryz.results135 V (.of_eq (by simp)) (.bool _) Vv
theorem compareu_spec (m n : Int) (S : MS) : MCalls Tryz.prog 119 [.int .u64 m, .int .u64 n] S fun v σ' => v = .int .i64 (cmpI m n) ∧ σ' = S := by
 refine zU Tryz.func119 V Tryz.ntmps119 (zA V) ?_
 refine zB <| qR V <| qA V V V <| qN <| zB <| qR V <| qM V V V ?_
 refine qX V V V V co135 (isNaNu_spec m _) ?_
 refine qA V V V <| qN <| zB <| qR V <| qM V V V ?_
 refine qX V V V V co135 (isNaNu_spec n _) ?_
 refine qA V V V <| qN <| zB <| zB <| qR V <| qM V V V <| qN <| zQ V (V) <| zY <| zB <| zB <| qR V <| qM V V V <| qN <| zQ V (V) <| zY <| zB <| zB <| qR V <| qM V V V <| qM V V V <| qC V V V V V <| qN ?_
 refine zK V (fun h16 => ?_) (fun h16 => ?_)
 ·
  refine zB <| qR V <| qA V V V <| qN <| zL ?_
  exact zT (.inr V) Tryz.results119 V (.of_eq (by unfold cmpI; simp_all <;> omega)) (.int _ _) Vv
 ·
  refine zY <| zB <| zB <| qR V <| qM V V V <| qM V V V <| qC V V V V V <| qN ?_
  refine zK V (fun h19 => ?_) (fun h19 => ?_)
  ·
   refine zB <| qR V <| qA V V V <| qN <| zL ?_
   exact zT (.inr V) Tryz.results119 V (.of_eq (by unfold cmpI; simp_all <;> omega)) (.int _ _) Vv
  ·
   refine zY <| zB <| qR V <| qA V V V <| qN <| zL ?_
   exact zT (.inr V) Tryz.results119 V (.of_eq (by unfold cmpI; simp_all <;> omega)) (.int _ _) Vv
theorem cmpOr_spec (l : List Int) (S : MS) : MCalls Tryz.prog 117 [.lst none 1 (l.map encI)] S fun v σ' => v = .int .i64 (orF l) ∧ σ' = S := by
 refine zU Tryz.func117 V Tryz.ntmps117 (zA V) ?_
 refine zI2 (t := 0) V fun hlen => ?_
 rw [zC] at hlen
 refine zB <| qR V <| qA V V V <| qN <| zB <| qR V <| qA V V V <| qN <| zB <| zB <| qR V <| qM V V V <| qE V V Tryz.underlying158 V <| qM V V V <| qN <| zB0 ?_
 refine zQ1 (α := Nat) [(3, _), (6, _), (7, _)] (fun i => [(8, .int .i64 (i : Int))]) (fun i => []) (fun i => i ≤ l.length ∧ orF (l.drop i) = orF l) (fun i => l.length - i) (0) (.keep V (.keep V (.keep V (.nil)))) (.keep V (.nil)) (⟨by omega, rfl⟩) (V) ?_
 rintro i ⟨hi, he⟩
 refine zB <| qR V <| qC V V V V V <| qN <| zB ?_
 refine zK V (fun h9 => ?_) (fun h9 => ?_)
 ·
  have hlt : i < l.length := by simpa using h9
  obtain ⟨a, hs⟩ : ∃ q_, l[i]? = some q_ := ⟨_, zD hlt⟩
  refine zY <| zB <| zB0 <| zB <| qR V <| qO V <| zG V Tryz.underlying158 sz3 (by decide) V V V (zR0 hs) ?_
  refine qO V <| zI V V ta3 V <| qA V V V <| qN <| zB <| qR V <| qM V V V <| qM V V V <| qC V V V V V <| qN ?_
  refine zK V (fun h14 => ?_) (fun h14 => ?_)
  ·
   refine zB <| qR V <| qM V V V <| qA V V V <| qN <| zL ?_
   exact zT (.inr V) Tryz.results117 V (.of_eq (by rw [← he, zT4 hs, or_cons, if_pos (by simpa using h14)]; rfl)) (.int _ _) Vv
  ·
   refine zY <| qR V <| qO V <| zO0 V V V V <| qM V V V <| qN ?_
   refine ⟨i + 1, by omega, ⟨by omega, by rw [← he, zT4 hs, or_cons, if_neg (by simpa using h14)]⟩, rfl, (.keep V (.keep V (.keep V (.nil)))), (.eq V (zK1 hlt hlen) (.nil))⟩
 ·
  have hge : i = l.length := by simp at h9; omega
  refine zF1 <| zB <| qR V <| qM V V V <| qA V V V <| qN <| zL ?_
  exact zT (.inr V) Tryz.results117 V (.of_eq (by rw [← he, hge, List.drop_length]; rfl)) (.int _ _) Vv
theorem byTicks1_spec (x y : Tk) (S : MS) : MCalls Tryz.prog 116 [encT x, encT y] S fun v σ' => v = .int .i64 (tickC x y) ∧ σ' = S := by
 refine zU Tryz.func116 V Tryz.ntmps116 (zA V) ?_
 refine zB <| qR V <| qB V V V V V <| qB V V V V V <| qA V V V <| qN <| zB ?_
 refine zV0 [] [_] mo (by decide) V V V V ?_
 refine dO V V V (zJ V V zB4 Vv) <| dO V V V (zE0 V V V ta3 V Vv) <| dO V V V (zJ V V zB4 Vv) <| dO V V V (zE0 V V V ta3 V Vv) <| zV V V (.cons (zC1 V V V co118 (compare_spec x.1 y.1 _)) .nil) <| dO V V V (zJ V V zX5 Vv) <| dO V V V (zE0 V V V ta25 V Vv) <| dO V V V (zJ V V zX5 Vv) <| dO V V V (zE0 V V V ta25 V Vv) <| zV V V (.cons (zC1 V V V co119 (compareu_spec x.2 y.2 _)) .nil) <| dO V V V (zA1 V Tryz.underlying158 el3 V V (by decide) (by decide) V V Vv) ?_
 refine zV V V (.cons (zC1 V V V co117 (cmpOr_spec [cmpI x.1 y.1, cmpI x.2 y.2] _)) .nil) <| dO V V V (zB1 V V Vv) <| zK0 <| zL ?_
 exact zT (.inr V) Tryz.results116 V (.of_eq (by rw [or_two]; rfl)) (.int _ _) Vv
theorem cmpFuncT_spec (a b : List Tk) (S : MS) : MCalls Tryz.prog 115 [.lst none 2 (a.map encT), .lst none 2 (b.map encT), .fn (.func 116) [] []] S fun v σ' => v = .int .i64 (byTicksF a b) ∧ σ' = S := by
 refine zU Tryz.func115 V Tryz.ntmps115 (zA V) ?_
 refine zI2 (t := 0) V fun hlen => ?_
 rw [zC] at hlen
 refine zB <| qR V <| qA V V V <| qN <| zB <| zB <| qR V <| qM V V V <| qE V V zP V <| qM V V V <| qN <| zB0 ?_
 refine mwp_loopKJ (α := Nat) [(0, _), (1, _), (2, _), (11, _), (12, _)] (fun i => [(13, .int .i64 (i : Int))]) (fun i => []) (fun i => i ≤ a.length ∧ i ≤ b.length ∧ byTicksF (a.drop i) (b.drop i) = byTicksF a b) (fun i => a.length - i) (0) (Nat.le_refl _) (.keep V (.keep V (.keep V (.keep V (.keep V (.nil)))))) (.keep V (.nil)) (⟨by omega, by omega, rfl⟩) (V) ?_
 rintro i ⟨hi, hib, he⟩
 refine zB <| qR V <| qC V V V V V <| qN <| zB ?_
 refine zK V (fun h14 => ?_) (fun h14 => ?_)
 ·
  have hlt : i < a.length := by simpa using h14
  obtain ⟨x, hs⟩ : ∃ q_, a[i]? = some q_ := ⟨_, zD hlt⟩
  refine zY <| zB <| zB0 <| zB <| qR V <| qM V V V <| qO V <| zG V zP sz54 (by decide) V V V (zR0 hs) ?_
  refine qO V <| zI V V ta54 V <| qO V <| zL0 V zm54 V V <| qA V V V <| qO V <| zG0 V V V V sz54 V V (zA V) V <| qN <| zB <| zB <| qR V <| qM V V V <| qM V V V <| qE V V zP V <| qC V V V V V <| qN ?_
  refine zK V (fun h21 => ?_) (fun h21 => ?_)
  ·
   have hbe : b.drop i = [] := by rw [zC] at h21; simp at h21; exact List.drop_eq_nil_of_le (by omega)
   refine zB <| qR V <| qA V V V <| qN <| zL ?_
   exact zT (.inr V) Tryz.results115 V (.of_eq (by rw [← he, hbe, zT4 hs]; rfl)) (.int _ _) Vv
  ·
   have hltb : i < b.length := by rw [zC] at h21; simp at h21; omega
   obtain ⟨y, hs2⟩ : ∃ s, b[i]? = some s := ⟨_, zD hltb⟩
   refine zY <| zB <| qR V <| qM V V V <| qM V V V <| qO V <| zG V zP sz54 (by decide) V V V (zR0 hs2) ?_
   refine qO V <| zI V V ta54 V <| qO V <| zL0 V zm54 V V <| qO V <| zG0 V V V V sz54 V V (zA V) V <| qN <| zB <| qR V <| qM V V V <| qL V V V V ta54 V <| qL V V V V ta54 V ?_
   refine qX V V V V co116 (byTicks1_spec x y _) ?_
   refine qA V V V <| qN <| zB <| qR V <| qM V V V <| qC V V V V V <| qN ?_
   refine zK V (fun h31 => ?_) (fun h31 => ?_)
   ·
    refine zB <| qR V <| qM V V V <| qA V V V <| qN <| zL ?_
    exact zT (.inr V) Tryz.results115 V (.of_eq (by rw [← he, ticks_at hs hs2, if_pos (by simpa using h31)])) (.int _ _) Vv
   ·
    refine zY <| qR V <| qO V <| zO0 V V V V <| qM V V V <| qN ?_
    refine ⟨i + 1, _, by omega, ⟨by omega, by omega, by rw [← he, ticks_at hs hs2, if_neg (by simpa using h31)]⟩, rfl, .nil, (.old V V (.old V V (.old V V (.old V V (.old V V (.nil)))))), (.new' V (zK1 hlt hlen) (.int _ _) (.nil))⟩
 ·
  have hge : i = a.length := by simp at h14; omega
  refine zF1 <| zB <| zB <| qR V <| qM V V V <| qE V V zP V <| qM V V V <| qE V V zP V <| qC V V V V V <| qN ?_
  refine zK V (fun h38 => ?_) (fun h38 => ?_)
  ·
   refine zB <| qR V <| qA V V V <| qN <| zL ?_
   exact zT (.inr V) Tryz.results115 V (.of_eq (by simp at h38; rw [← he, hge, List.drop_length, zT4 (zD (by omega : a.length < b.length))]; rfl)) (.int _ _) Vv
  ·
   refine zY <| zB <| qR V <| qA V V V <| qN <| zL ?_
   exact zT (.inr V) Tryz.results115 V (.of_eq (by simp at h38; rw [← he, hge, List.drop_length, List.drop_eq_nil_of_le (by omega : b.length ≤ a.length)]; rfl)) (.int _ _) Vv
theorem byTicks_spec (a b : List Tk) (S : MS) : MCalls Tryz.prog 99 [.lst none 2 (a.map encT), .lst none 2 (b.map encT)] S fun v σ' => v = .int .i64 (byTicksF a b) ∧ σ' = S := by
 refine zU Tryz.func99 V Tryz.ntmps99 (zA V) ?_
 refine zB <| qR V <| qA V V V <| qN <| zB <| qR V <| qM V V V <| qM V V V ?_
 refine qX V V V V co115 (cmpFuncT_spec a b _) ?_
 refine qA V V V <| qN <| zL ?_
 exact zT (.inr V) Tryz.results99 V (.of_eq (V)) (.int _ _) Vv
theorem isCause_spec (l : List (List Tk)) (S : MS) : MCalls Tryz.prog 76 [.lst none 1 (l.map encC)] S fun v σ' => v = .bool (isCauseF l) ∧ σ' = S := by
 refine zU Tryz.func76 V Tryz.ntmps76 (zA V) ?_
 refine zI2 (t := 0) V fun hlen => ?_
 rw [zC] at hlen
 refine zB <| qR V <| qO V <| zL0 V zm4 V V <| qN <| zB <| zB <| qR V <| qM V V V <| qE V V zN V <| qM V V V <| qN <| zB0 ?_
 refine zQ1 (α := Nat) [(0, _), (2, _), (7, _), (8, _)] (fun i => [(9, .int .i64 (i : Int))]) (fun i => [.cells [.bool false]]) (fun i => i ≤ l.length ∧ (l.take i).all isClockF = true) (fun i => l.length - i) (0) (.keep V (.keep V (.keep V (.keep V (.nil))))) (.keep V (.nil)) (⟨by omega, rfl⟩) (V) ?_
 rintro i ⟨hi, hall⟩
 refine zB <| qR V <| qC V V V V V <| qN <| zB ?_
 refine zK V (fun h10 => ?_) (fun h10 => ?_)
 ·
  have hlt : i < l.length := by simpa using h10
  obtain ⟨c, hs⟩ : ∃ q_, l[i]? = some q_ := ⟨_, zD hlt⟩
  refine zY <| zB <| zB0 <| zB <| qR V <| qO V <| zG V zN sz55 (by decide) V V V (zR0 hs) ?_
  refine qO V <| zI V V ta55 V <| qA V V V <| qN <| zB <| qR V <| qM V V V ?_
  refine qX V V V V co75 (clkIs_spec c _) ?_
  refine qO V <| zY0 V V <| qN ?_
  refine zK V (fun h15 => ?_) (fun h15 => ?_)
  ·
   refine zB <| qR V <| qO V <| zG0 V V V V sz4 V V (zA V) V <| qN <| zL ?_
   exact zO2 (.inr V) Tryz.results76 V V ta4 V (.refl _) (.bool _) ⟨by rw [isCauseF, List.all_eq_false.2 ⟨c, zC0 hs, by simpa using h15⟩]; rfl, rfl⟩
  ·
   refine zY <| qR V <| qO V <| zO0 V V V V <| qM V V V <| qN ?_
   refine ⟨i + 1, by omega, ⟨by omega, ?_⟩, rfl, (.keep V (.keep V (.keep V (.keep V (.nil))))), (.eq V (zK1 hlt hlen) (.nil))⟩
   rw [List.take_add_one, hs, List.all_append, hall]
   simpa using h15
 ·
  have hge : i = l.length := by simp at h10; omega
  rw [hge, List.take_length] at hall
  have hcl := hall
  refine zF1 <| zB <| zB <| qR V <| qM V V V ?_
  refine qX V V V V co98 (two_spec l _) ?_
  rw [zZ]
  refine qN <| zB0 ?_
  refine mwp_rangeB (ok := fun σ => σ.length = S.length + 3 ∧ σ[(S ++ [MObj.cells [.bool false]]).length]? = some (.cells [.lst none 1 (l.map encC)])) (ys := (twoY l).map encP) .ret (.inl V) (fun j => (match (twoY l)[j]? with | some p => pairF p.1 p.2 | none => true)) (fun j => ([.cells [.bool false], .cells [.lst none 1 (l.map encC)]] : MS)) (fun j => ([.cells [.bool false], .cells [.lst none 1 (l.map encC)]] : MS)) (fun j => V) (fun j => V) V (fun j o ho n hn => by simp at ho; rcases ho with rfl | rfl <;> intro x hx <;> (simp at hx; subst hx; first | exact .bool _ | exact zW4 _ _ | exact cl_clocks _ _)) (fun j o ho n hn => by simp at ho; rcases ho with rfl | rfl <;> intro x hx <;> (simp at hx; subst hx; first | exact .bool _ | exact zW4 _ _ | exact cl_clocks _ _)) V co114 V (by simp) ((two_iter l hlen _ _).weak fun σ h => h.1) (fun j => ⟨by simp, get_box⟩) (fun j s q => ⟨by simp, get_box⟩) V (fun y hy => by obtain ⟨i, _, rfl⟩ := List.mem_map.1 hy; rfl) ?_ ?_ ?_
  ·
   intro j y hy hbef L'
   rw [zN0] at hy
   obtain ⟨⟨a, b⟩, hp, rfl⟩ := Option.map_eq_some_iff.1 hy
   rw [hp]
   obtain ⟨ha, hb⟩ := two_mem (zC0 hp)
   have la := clock_len (List.all_eq_true.1 hcl a ha)
   have lb := clock_len (List.all_eq_true.1 hcl b hb)
   refine zB <| qR V <| qA V V V <| qN <| qR V <| qA V V V <| qN ?_
   refine ⟨rfl, [], by rw [List.append_nil], ?_⟩
   rw [List.append_nil]
   refine zB0 <| zB <| qR V <| qM V V V <| qM V V V ?_
   refine qX V V V V co99 (byTicks_spec a b _) ?_
   refine qC V V V V V <| qM V V V ?_
   refine zD0 (fun h25 => ?_) (fun h25 => ?_)
   ·
    refine qT V V V V <| qP V V V V <| qN <| zA0 V (V) <| zB <| qR V <| qO V <| zP5 V V V V sz4 V V (zA V) V <| qN <| zL ?_
    exact .inr ⟨by simp only [pairF]; simp_all <;> (intros; omega), rfl, [], by rw [List.append_nil]; rfl⟩
   ·
    refine qM V V V <| qM V V V ?_
    refine qX V V V V co100 (clkCmp_spec a b (by omega) _) ?_
    refine qC V V V V V <| qP V V V V <| qN ?_
    refine zK V (fun h30 => ?_) (fun h30 => ?_)
    ·
     refine zB <| qR V <| qO V <| zP5 V V V V sz4 V V (zA V) V <| qN <| zL ?_
     exact .inr ⟨by simp only [pairF]; simp_all <;> (intros; omega), rfl, [], by rw [List.append_nil]; rfl⟩
    ·
     refine zY ?_
     exact .inl ⟨by simp only [pairF]; simp_all, rfl, [], by rw [List.append_nil]⟩
  ·
   intro hall2
   rw [zZ]
   have hr : isCauseF l = true := by
    rw [isCauseF, hcl, Bool.true_and, two_iff]
    intro p hp
    obtain ⟨j, hj, rfl⟩ := List.mem_iff_getElem.1 hp
    have := hall2 j (by rw [zC]; exact hj)
    rw [zD hj] at this
    exact this
   refine zB <| qR V <| qO V <| zG0 V V V V sz4 V V (zA V) V <| qN <| zL ?_
   exact zO2 (.inr V) Tryz.results76 V V ta4 V (.refl _) (.bool _) ⟨by rw [hr], rfl⟩
  ·
   intro j y hy hp
   rw [zN0] at hy
   obtain ⟨⟨a, b⟩, hq, rfl⟩ := Option.map_eq_some_iff.1 hy
   rw [hq] at hp
   replace hp : pairF a b = false := hp
   have hr : isCauseF l = false := by
    rw [isCauseF, hcl, Bool.true_and]
    cases h : pairsF l with
    | false => rfl
    | true =>
     have : pairF a b = true := (two_iff l).1 h _ (zC0 hq)
     rw [this] at hp
     cases hp
   rw [zZ]
   exact zO2 (.inr V) Tryz.results76 V V ta4 V (.refl _) (.bool _) ⟨by rw [hr], rfl⟩
end Go.Proofs.YtnfcnpdpfgcchaaGreat
namespace Go.MV
open Go Go.RowKit
theorem op_len_bs {P : Program} {rd : Option Nat} {o : Oper} {env : Env} {σ : MS} {K : MV → MS → Prop} {x : Operand} {l : Bs} {t : TypeId} (ho : o.op = .call { callee := .builtin .len, args := #[x], argTypes := #[t] }) (hu : P.underlying t = some .string) (hx : evo env x = some (.str (bs l)))
  (h : K (.int .i64 (l.length : Int)) σ) : OpWp P rd o env σ K := op_len_str ho hu hx (by rw [bs_size]; exact h)
end Go.MV
namespace Go.Proofs.YtnfcnpdpfgcchaaGreat
open Go Go.MV
theorem one_of {α : Type} {s : List α} (h : s.length = 1) : ∃ t, s = [t] := by
 match s, h with
 | [t], _ => exact ⟨t, rfl⟩
theorem two_of' {α : Type} {s : List α} (h : s.length = 2) : ∃ t u, s = [t, u] := by
 match s, h with
 | [t, u], _ => exact ⟨t, u, rfl⟩
theorem last_no {n m : Int} {s : List Bs} (h : ¬ s = []) (h1 : ¬ s.length = 1) : isLastF n m s = false := by
 match s, h, h1 with
 | [], h, _ => exact absurd rfl h
 | [t], _, h => exact absurd rfl h
 | _ :: _ :: _, _, _ => rfl
theorem one_ins {k : Int} {ins : List Sch} (h : partsF k = (ins.length : Int)) (hk : partsF k = 1) : ∃ t, ins = [t] := one_of (by omega)
theorem _root_.zX2 : type_of% @one_ins := @one_ins
theorem isB_mk {k : Int} {ins : List Sch} {fs : List (Val → Bool)} {n m : Int} {s : List Bs} {c : List (List Tk)} {w : List Val} : isB k ins fs (.mk n m s c w) = (bareF k (.mk n m s c w) && decide (w.length ≤ 40) && decide (c.length ≤ 40) &&
 (if k = 1 then true else if k = 2 then decide (n ≤ 1) else if k = 3 then isRowF s
  else if k = 4 then isRowF s && decide (s.length = w.length) && w.all (fun x => fs.headD (fun _ => false) x && !noneF (ins.headD default) x)
  else if k = 5 then (match w with | [x, y] => fs.headD (fun _ => false) x && fs.tail.headD (fun _ => false) y | _ => false)
  else if k = 6 then isLastF n m s
  else if k = 7 then (match c with | [] => true | [c] => decide (0 < c.length) && isClockF c | _ => false)
  else decide (c.length = w.length) && isCauseF c && w.all (fs.headD (fun _ => false)))) := rfl
theorem isVF_mk {ins : List Sch} {n m : Int} {s : List Bs} {c : List (List Tk)} {w : List Val} (k : Int) : isVF (.mk k ins) (.mk n m s c w) = (bareF k (.mk n m s c w) && decide (w.length ≤ 40) && decide (c.length ≤ 40) &&
 (if k = 1 then true else if k = 2 then decide (n ≤ 1) else if k = 3 then isRowF s
  else if k = 4 then isRowF s && decide (s.length = w.length) && w.all (fun x => (isVL ins).headD (fun _ => false) x && !noneF (ins.headD default) x)
  else if k = 5 then (match w with | [x, y] => (isVL ins).headD (fun _ => false) x && (isVL ins).tail.headD (fun _ => false) y | _ => false)
  else if k = 6 then isLastF n m s
  else if k = 7 then (match c with | [] => true | [c] => decide (0 < c.length) && isClockF c | _ => false)
  else decide (c.length = w.length) && isCauseF c && w.all ((isVL ins).headD (fun _ => false)))) := by rw [isVF, isB_mk]
theorem _root_.zW0 : type_of% @isVF_mk := @isVF_mk
theorem match2_no {f g : Val → Bool} {w : List Val} : w.length ≠ 2 → (match w with | [x, y] => f x && g y | _ => false) = false := by
 intro h
 match w, h with
 | [], _ => rfl
 | [_], _ => rfl
 | [_, _], h => exact absurd rfl h
 | _ :: _ :: _ :: _, _ => rfl
theorem match1_no {c : List (List Tk)} : ¬ c = [] → c.length ≠ 1 → (match c with | [] => true | [c] => decide (0 < c.length) && isClockF c | _ => false) = false := by
 intro h0 h
 match c, h0, h with
 | [], h, _ => exact absurd rfl h
 | [_], _, h => exact absurd rfl h
 | _ :: _ :: _, _, _ => rfl
theorem k8_of {k : Int} {n : Nat} (h : partsF k = (n : Int)) : k = 1 ∨ k = 2 ∨ k = 3 ∨ k = 4 ∨ k = 5 ∨ k = 6 ∨ k = 7 ∨ k = 8 := by
 unfold partsF at h
 split at h
 ·omega
 ·split at h
  ·omega
  ·split at h <;> omega
theorem short_any (l : List Bs) : (!(l.any fun s => decide (16 < s.length))) = shortF l := by
 unfold shortF
 rw [zF]
 simp
theorem any_all {l : List Val} {f g : Val → Bool} : (!(l.any fun x => !f x || g x)) = l.all fun x => f x && !g x := by
 rw [zF]
 simp
theorem any_all' {l : List Val} {f : Val → Bool} : (!(l.any fun x => !f x)) = l.all f := by
 rw [zF]
 simp
theorem xIndex_spec (S : MS) (l : List Bs) (p : Bs → Bool) (kf : FuncId) (first caps : List MV) (hco : CallOk Tryz.prog kf) (hp : ∀ x ∈ l, ∀ X : MS, MCalls Tryz.prog kf (first ++ [encX x] ++ caps) (S ++ X) fun v σ' => v = .bool (p x) ∧ σ' = S ++ X) : MCalls Tryz.prog 113 [.lst none 1 (l.map encX), .fn (.func kf) first caps] S fun v σ' => v = .int .i64 (findGo p 0 l) ∧ σ' = S := by
 refine zU Tryz.func113 V Tryz.ntmps113 (zA V) ?_
 refine zI2 (t := 0) V fun hlen => ?_
 rw [zC] at hlen
 refine zB <| qR V <| qA V V V <| qN <| zB <| zB <| qR V <| qM V V V <| qE V V zX V <| qM V V V <| qN <| zB0 ?_
 refine zQ1 (α := Nat) [(0, _), (1, _), (7, _)] (fun i => [(8, .int .i64 (i : Int))]) (fun i => []) (fun i => i ≤ l.length ∧ findGo p i (l.drop i) = findGo p 0 l) (fun i => l.length - i) (0) (.keep V (.keep V (.keep V (.nil)))) (.keep V (.nil)) (⟨by omega, rfl⟩) (V) ?_
 rintro i ⟨hi, he⟩
 refine zB <| qR V <| qC V V V V V <| qN <| zB ?_
 refine zK V (fun h9 => ?_) (fun h9 => ?_)
 ·
  rw [zC] at h9
  have hlt : i < l.length := by simpa using h9
  obtain ⟨x, hs⟩ : ∃ x, l[i]? = some x := ⟨_, zD hlt⟩
  refine zY <| zB <| zB0 <| zB <| qR V <| qM V V V <| qA V V V <| qN <| zB <| qR V <| qM V V V <| qM V V V <| qM V V V <| qO V <| zG V zX sz9 (by decide) V V V (zR0 hs) ?_
  refine qO V <| zI V V ta9 V ?_
  refine zF4 V (zC1 V V V hco ((hp _ (zC0 hs) _).mono ?_))
  rintro _ _ ⟨rfl, rfl⟩
  refine qN ?_
  refine zK V (fun h16 => ?_) (fun h16 => ?_)
  ·
   refine zB <| qR V <| qM V V V <| qA V V V <| qN <| zL ?_
   exact zT (.inr V) Tryz.results113 V (.of_eq (by rw [← he, find_at hs, h16]; rfl)) (.int _ _) Vv
  ·
   refine zY <| qR V <| qO V <| zO0 V V V V <| qM V V V <| qN ?_
   refine ⟨i + 1, by omega, ⟨by omega, by rw [← he, find_at hs, h16]; rfl⟩, rfl, (.keep V (.keep V (.keep V (.nil)))), (.eq V (zK1 hlt hlen) (.nil))⟩
 ·
  rw [zC] at h9
  have hge : i = l.length := by simp at h9; omega
  refine zF1 <| zB <| qR V <| qA V V V <| qN <| zL ?_
  exact zT (.inr V) Tryz.results113 V (.of_eq (by rw [← he, hge, List.drop_length]; rfl)) (.int _ _) Vv
theorem xContains_spec (S : MS) (l : List Bs) (p : Bs → Bool) (kf : FuncId) (first caps : List MV) (hco : CallOk Tryz.prog kf) (hp : ∀ x ∈ l, ∀ X : MS, MCalls Tryz.prog kf (first ++ [encX x] ++ caps) (S ++ X) fun v σ' => v = .bool (p x) ∧ σ' = S ++ X) : MCalls Tryz.prog 95 [.lst none 1 (l.map encX), .fn (.func kf) first caps] S fun v σ' => v = .bool (l.any p) ∧ σ' = S := by
 refine zU Tryz.func95 V Tryz.ntmps95 (zA V) ?_
 refine zB <| qR V <| qA V V V <| qN <| zB <| qR V <| qM V V V <| qM V V V ?_
 refine qX V V V V co113 (xIndex_spec (S ++ []) l p kf first caps hco (by rw [List.append_nil]; exact hp)) ?_
 refine qC V V V V V <| qA V V V <| qN <| zL ?_
 exact zT (.inr V) Tryz.results95 V (.of_eq (by rw [find_any p 0 l])) (.bool _) Vv
theorem vIndex_spec (S : MS) (l : List Val) (p : Val → Bool) (kf : FuncId) (first caps : List MV) (hco : CallOk Tryz.prog kf) (hp : ∀ x ∈ l, ∀ X : MS, MCalls Tryz.prog kf (first ++ [encV x] ++ caps) (S ++ X) fun v σ' => v = .bool (p x) ∧ σ' = S ++ X) : MCalls Tryz.prog 97 [.lst none 5 (encVs l), .fn (.func kf) first caps] S fun v σ' => v = .int .i64 (findGo p 0 l) ∧ σ' = S := by
 refine zU Tryz.func97 V Tryz.ntmps97 (zA V) ?_
 refine zI2 (t := 0) V fun hlen => ?_
 rw [zO] at hlen
 refine zB <| qR V <| qA V V V <| qN <| zB <| zB <| qR V <| qM V V V <| qE V V zE V <| qM V V V <| qN <| zB0 ?_
 refine zQ1 (α := Nat) [(0, _), (1, _), (7, _)] (fun i => [(8, .int .i64 (i : Int))]) (fun i => []) (fun i => i ≤ l.length ∧ findGo p i (l.drop i) = findGo p 0 l) (fun i => l.length - i) (0) (.keep V (.keep V (.keep V (.nil)))) (.keep V (.nil)) (⟨by omega, rfl⟩) (V) ?_
 rintro i ⟨hi, he⟩
 refine zB <| qR V <| qC V V V V V <| qN <| zB ?_
 refine zK V (fun h9 => ?_) (fun h9 => ?_)
 ·
  rw [zO] at h9
  have hlt : i < l.length := by simpa using h9
  obtain ⟨x, hs⟩ : ∃ x, l[i]? = some x := ⟨_, zD hlt⟩
  obtain ⟨n1, m1, s1, c1, w1⟩ := x
  refine zY <| zB <| zB0 <| zB <| qR V <| qM V V V <| qA V V V <| qN <| zB <| qR V <| qM V V V <| qM V V V <| qM V V V <| qO V <| zG V zE sz30 (by decide) V V V (zN1 hs) ?_
  refine qO V <| zI V V ta30 V ?_
  refine zF4 V (zC1 V V V hco ((hp _ (zC0 hs) _).mono ?_))
  rintro _ _ ⟨rfl, rfl⟩
  refine qN ?_
  refine zK V (fun h16 => ?_) (fun h16 => ?_)
  ·
   refine zB <| qR V <| qM V V V <| qA V V V <| qN <| zL ?_
   exact zT (.inr V) Tryz.results97 V (.of_eq (by rw [← he, find_at hs, h16]; rfl)) (.int _ _) Vv
  ·
   refine zY <| qR V <| qO V <| zO0 V V V V <| qM V V V <| qN ?_
   refine ⟨i + 1, by omega, ⟨by omega, by rw [← he, find_at hs, h16]; rfl⟩, rfl, (.keep V (.keep V (.keep V (.nil)))), (.eq V (zK1 hlt hlen) (.nil))⟩
 ·
  rw [zO] at h9
  have hge : i = l.length := by simp at h9; omega
  refine zF1 <| zB <| qR V <| qA V V V <| qN <| zL ?_
  exact zT (.inr V) Tryz.results97 V (.of_eq (by rw [← he, hge, List.drop_length]; rfl)) (.int _ _) Vv
theorem vContains_spec (S : MS) (l : List Val) (p : Val → Bool) (kf : FuncId) (first caps : List MV) (hco : CallOk Tryz.prog kf) (hp : ∀ x ∈ l, ∀ X : MS, MCalls Tryz.prog kf (first ++ [encV x] ++ caps) (S ++ X) fun v σ' => v = .bool (p x) ∧ σ' = S ++ X) : MCalls Tryz.prog 72 [.lst none 5 (encVs l), .fn (.func kf) first caps] S fun v σ' => v = .bool (l.any p) ∧ σ' = S := by
 refine zU Tryz.func72 V Tryz.ntmps72 (zA V) ?_
 refine zB <| qR V <| qA V V V <| qN <| zB <| qR V <| qM V V V <| qM V V V ?_
 refine qX V V V V co97 (vIndex_spec (S ++ []) l p kf first caps hco (by rw [List.append_nil]; exact hp)) ?_
 refine qC V V V V V <| qA V V V <| qN <| zL ?_
 exact zT (.inr V) Tryz.results72 V (.of_eq (by rw [find_any p 0 l])) (.bool _) Vv
theorem isRow1_spec (s : Bs) (S : MS) : MCalls Tryz.prog 96 [.str (bs s)] S fun v σ' => v = .bool (decide (16 < s.length)) ∧ σ' = S := by
 refine zU Tryz.func96 V Tryz.ntmps96 (zA V) ?_
 refine zB <| qR V <| qA V V V <| qN <| zB <| qR V <| qM V V V <| qO V <| op_len_bs V Tryz.underlying9 V <| qC V V V V V <| qA V V V <| qN <| zL ?_
 exact zT (.inr V) Tryz.results96 V (.of_eq (by congr 1; rw [zF]; simp; omega)) (.bool _) Vv
theorem isRow_spec (l : List Bs) (S : MS) : MCalls Tryz.prog 71 [.lst none 1 (l.map encX)] S fun v σ' => v = .bool (isRowF l) ∧ σ' = S := by
 refine zU Tryz.func71 V Tryz.ntmps71 (zA V) ?_
 refine zB <| qR V <| qA V V V <| qN <| zB <| qR V <| qM V V V <| qE V V zX V <| qC V V V V V <| qM V V V ?_
 refine zD0 (fun h6 => ?_) (fun h6 => ?_)
 ·
  refine qM V V V ?_
  refine qX V V V V co94 (rowsIs_spec l _) ?_
  refine qP V V V V <| qM V V V ?_
  refine zD0 (fun h10 => ?_) (fun h10 => ?_)
  ·
   refine qM V V V ?_
   refine qX V V V V co95 (xContains_spec _ l (fun s => decide (16 < s.length)) _ [] [] co96 (fun x _ X => isRow1_spec x _)) ?_
   refine qO V <| zY0 V V <| qP V V V V <| qA V V V <| qN <| zL ?_
   exact zT (.inr V) Tryz.results71 V (.of_eq (by congr 1; unfold isRowF; rw [← short_any, zF]; simp_all <;> omega)) (.bool _) Vv
  ·
   refine qS V <| qS V <| qS V <| qP V V V V <| qA V V V <| qN <| zL ?_
   exact zT (.inr V) Tryz.results71 V (.of_eq (by congr 1; unfold isRowF; rw [← short_any, zF]; simp_all <;> omega)) (.bool _) Vv
 ·
  refine qS V <| qS V <| qP V V V V <| qM V V V <| qS V <| qS V <| qS V <| qP V V V V <| qA V V V <| qN <| zL ?_
  exact zT (.inr V) Tryz.results71 V (.of_eq (by congr 1; unfold isRowF; rw [← short_any, zF]; simp_all <;> omega)) (.bool _) Vv
theorem _root_.zL5 : type_of% @Tryz.results74 := @Tryz.results74
theorem isLast_spec (n m : Int) (s : List Bs) (c : List (List Tk)) (w : List Val) (hn : 0 ≤ n) (hm : 0 ≤ m) (S : MS) : MCalls Tryz.prog 74 [encV (.mk n m s c w)] S fun v σ' => v = .bool (isLastF n m s) ∧ σ' = S := by
 refine zU Tryz.func74 V Tryz.ntmps74 (zA V) ?_
 refine zB <| qR V <| qB V V V V V <| qA V V V <| qN <| zB <| zB <| qR V <| qF V V V zU1 <| qL V V V V ta26 V <| qE V V zX V <| qC V V V V V <| qN ?_
 refine zK V (fun h6 => ?_) (fun h6 => ?_)
 ·
  have hs0 : s = [] := by simpa using h6
  subst hs0
  refine zB <| qR V <| qF V V V zG4 <| qL V V V V ta25 V <| qC V V V V V <| qM V V V ?_
  refine zD0 (fun h10 => ?_) (fun h10 => ?_)
  ·
   refine qF V V V zY4 <| qL V V V V ta25 V <| qC V V V V V <| qP V V V V <| qA V V V <| qN <| zL ?_
   exact zT (.inr V) zL5 V (.of_eq (by first | (rw [hF]; done) | (congr 1; rw [zF]; simp_all [isLastF]; done) | (congr 1; rw [zF]; simp_all [isLastF]; omega))) (.bool _) Vv
  ·
   refine qS V <| qS V <| qS V <| qP V V V V <| qA V V V <| qN <| zL ?_
   exact zT (.inr V) zL5 V (.of_eq (by first | (rw [hF]; done) | (congr 1; rw [zF]; simp_all [isLastF]; done) | (congr 1; rw [zF]; simp_all [isLastF]; omega))) (.bool _) Vv
 ·
  have hs0 : ¬ s = [] := by simpa using h6
  refine zY <| zB <| qR V <| qF V V V zU1 <| qL V V V V ta26 V <| qE V V zX V <| qC V V V V V <| qM V V V ?_
  refine zD0 (fun h19 => ?_) (fun h19 => ?_)
  ·
   obtain ⟨t, rfl⟩ := one_of (by rw [zC] at h19; simp at h19; omega : s.length = 1)
   refine qF V V V zU1 <| qL V V V V ta26 V <| qO V <| zG V zX sz9 (by decide) V V V (show _ = some (encX t) from V) ?_
   refine qO V <| zI V V ta9 V <| qO V <| op_len_bs V Tryz.underlying9 V <| qC V V V V V <| qP V V V V <| qM V V V ?_
   refine zD0 (fun h27 => ?_) (fun h27 => ?_)
   ·
    have h27n : t.length ≤ 16 := by simp at h27; omega
    refine qF V V V zG4 <| qL V V V V ta25 V <| qC V V V V V <| qM V V V ?_
    refine zD0 (fun h31 => ?_) (fun h31 => ?_)
    ·
     refine qS V <| qS V <| qS V <| qP V V V V <| qM V V V <| qT V V V V <| qS V <| qP V V V V <| qP V V V V <| qA V V V <| qN <| zL ?_
     exact zT (.inr V) zL5 V (.of_eq (by first | (rw [hF]; done) | (congr 1; rw [zF]; simp_all [isLastF]; done) | (congr 1; rw [zF]; simp_all [isLastF]; omega))) (.bool _) Vv
    ·
     have hn0 : n = 0 := by simp at h31; omega
     subst hn0
     refine qF V V V zY4 <| qL V V V V ta25 V <| qC V V V V V <| qP V V V V <| qM V V V ?_
     refine zD0 (fun h36 => ?_) (fun h36 => ?_)
     ·
      refine qT V V V V <| qS V <| qP V V V V <| qP V V V V <| qA V V V <| qN <| zL ?_
      exact zT (.inr V) zL5 V (.of_eq (by first | (rw [hF]; done) | (congr 1; rw [zF]; simp_all [isLastF]; done) | (congr 1; rw [zF]; simp_all [isLastF]; omega))) (.bool _) Vv
     ·
      have hm0 : m = 0 := by simp at h36; omega
      subst hm0
      refine qF V V V zU1 <| qL V V V V ta26 V <| qO V <| zG V zX sz9 (by decide) V V V (show _ = some (encX t) from V) ?_
      refine qO V <| zI V V ta9 V <| qO V <| zM3 V V V V <| qP V V V V <| qP V V V V <| qA V V V <| qN <| zL ?_
      exact zT (.inr V) zL5 V (.of_eq (by first | (rw [hF]; done) | (congr 1; rw [zF]; simp_all [isLastF]; done) | (congr 1; rw [zF]; simp_all [isLastF]; omega))) (.bool _) Vv
   ·
    refine qT V V V V <| qT V V V V <| qT V V V V <| qS V <| qS V <| qS V <| qP V V V V <| qA V V V <| qN <| zL ?_
    exact zT (.inr V) zL5 V (.of_eq (by first | (rw [hF]; done) | (congr 1; rw [zF]; simp_all [isLastF]; done) | (congr 1; rw [zF]; simp_all [isLastF]; omega))) (.bool _) Vv
  ·
   have hF : isLastF n m s = false := last_no hs0 (fun e => by rw [zC, e] at h19; simp at h19)
   refine qT V V V V <| qS V <| qS V <| qP V V V V <| qM V V V <| qT V V V V <| qT V V V V <| qT V V V V <| qS V <| qS V <| qS V <| qP V V V V <| qA V V V <| qN ?_
   refine zL ?_
   exact zT (.inr V) zL5 V (.of_eq (by first | (rw [hF]; done) | (congr 1; rw [zF]; simp_all [isLastF]; done) | (congr 1; rw [zF]; simp_all [isLastF]; omega))) (.bool _) Vv
theorem _root_.zS5 : type_of% @Tryz.ntmps69 := @Tryz.ntmps69
theorem _root_.zH1 : type_of% @Tryz.results69 := @Tryz.results69
theorem bare_spec (k : Int) (hk : k = 1 ∨ k = 2 ∨ k = 3 ∨ k = 4 ∨ k = 5 ∨ k = 6 ∨ k = 7 ∨ k = 8) (n m : Int) (s : List Bs) (c : List (List Tk)) (w : List Val) (S : MS) : MCalls Tryz.prog 69 [.int .i64 k, encV (.mk n m s c w)] S fun v σ' => v = .bool (bareF k (.mk n m s c w)) ∧ σ' = S := by
 rcases hk with rfl | rfl | rfl | rfl | rfl | rfl | rfl | rfl
 ·
  refine zU zF5 V zS5 (zA V) ?_
  refine zB <| qR V <| qB V V V V V <| qA V V V <| qN <| zB <| qR V <| qM V V V <| qC V V V V V <| qM V V V <| qS V <| qS V <| qP V V V V <| qM V V V <| qS V <| qS V <| qP V V V V <| qA V V V <| qN <| zB <| qR V ?_
  refine qM V V V <| qC V V V V V <| qM V V V <| qM V V V <| qC V V V V V <| qP V V V V <| qM V V V <| qM V V V <| qC V V V V V <| qP V V V V <| qA V V V <| qN <| zB <| qR V <| qM V V V <| qC V V V V V <| qM V V V ?_
  refine qM V V V <| qC V V V V V <| qP V V V V <| qA V V V <| qN <| zB <| qR V <| qM V V V <| qC V V V V V <| qM V V V <| qM V V V <| qC V V V V V <| qP V V V V <| qM V V V <| qM V V V <| qC V V V V V <| qP V V V V ?_
  refine qA V V V <| qN <| zB <| qR V <| qM V V V <| qM V V V <| qS V <| qS V <| qS V <| qP V V V V <| qM V V V <| qM V V V <| qC V V V V V <| qM V V V <| qF V V V zY4 <| qL V V V V ta25 V <| qC V V V V V <| qP V V V V ?_
  refine qP V V V V <| qM V V V ?_
  refine zD0 (fun h60 => ?_) (fun h60 => ?_)
  ·
   refine qM V V V <| qM V V V <| qF V V V zU1 <| qL V V V V ta26 V <| qE V V zX V <| qC V V V V V <| qP V V V V <| qP V V V V <| qM V V V ?_
   refine zD0 (fun h69 => ?_) (fun h69 => ?_)
   ·
    refine qM V V V <| qM V V V <| qF V V V zM1 <| qL V V V V ta27 V <| qE V V zN V <| qC V V V V V <| qP V V V V <| qP V V V V <| qM V V V ?_
    refine zD0 (fun h78 => ?_) (fun h78 => ?_)
    ·
     refine qM V V V <| qM V V V <| qF V V V zZ0 <| qL V V V V ta28 V <| qE V V zE V ?_
     try rw [zO]
     refine qC V V V V V <| qP V V V V <| qP V V V V <| qA V V V <| qN <| zL ?_
     exact zT (.inr V) zH1 V (.of_eq (by congr 1; rw [zF]; simp_all [bareF, numsK, textsK, clocksK, valuesK, Val.nv, Val.mv, Val.sv, Val.cv, Val.vv])) (.bool _) Vv
    ·
     refine qT V V V V <| qS V <| qS V <| qS V <| qP V V V V <| qA V V V <| qN <| zL ?_
     exact zT (.inr V) zH1 V (.of_eq (by congr 1; rw [zF]; simp_all [bareF, numsK, textsK, clocksK, valuesK, Val.nv, Val.mv, Val.sv, Val.cv, Val.vv])) (.bool _) Vv
   ·
    refine qT V V V V <| qS V <| qS V <| qS V <| qP V V V V <| qM V V V <| qT V V V V <| qS V <| qS V <| qS V <| qP V V V V <| qA V V V <| qN <| zL ?_
    exact zT (.inr V) zH1 V (.of_eq (by congr 1; rw [zF]; simp_all [bareF, numsK, textsK, clocksK, valuesK, Val.nv, Val.mv, Val.sv, Val.cv, Val.vv])) (.bool _) Vv
  ·
   refine qT V V V V <| qS V <| qS V <| qS V <| qP V V V V <| qM V V V <| qT V V V V <| qS V <| qS V <| qS V <| qP V V V V <| qM V V V <| qT V V V V <| qS V <| qS V <| qS V <| qP V V V V ?_
   refine qA V V V <| qN <| zL ?_
   exact zT (.inr V) zH1 V (.of_eq (by congr 1; rw [zF]; simp_all [bareF, numsK, textsK, clocksK, valuesK, Val.nv, Val.mv, Val.sv, Val.cv, Val.vv])) (.bool _) Vv
 ·
  refine zU zF5 V zS5 (zA V) ?_
  refine zB <| qR V <| qB V V V V V <| qA V V V <| qN <| zB <| qR V <| qM V V V <| qC V V V V V <| qM V V V <| qM V V V <| qC V V V V V <| qP V V V V <| qM V V V <| qS V <| qS V <| qP V V V V <| qA V V V <| qN ?_
  refine zB <| qR V <| qM V V V <| qC V V V V V <| qM V V V <| qM V V V <| qC V V V V V <| qP V V V V <| qM V V V <| qM V V V <| qC V V V V V <| qP V V V V <| qA V V V <| qN <| zB <| qR V <| qM V V V <| qC V V V V V ?_
  refine qM V V V <| qM V V V <| qC V V V V V <| qP V V V V <| qA V V V <| qN <| zB <| qR V <| qM V V V <| qC V V V V V <| qM V V V <| qM V V V <| qC V V V V V <| qP V V V V <| qM V V V <| qM V V V <| qC V V V V V ?_
  refine qP V V V V <| qA V V V <| qN <| zB <| qR V <| qM V V V <| qM V V V <| qS V <| qS V <| qS V <| qP V V V V <| qM V V V <| qM V V V <| qC V V V V V <| qM V V V <| qF V V V zY4 <| qL V V V V ta25 V <| qC V V V V V ?_
  refine qP V V V V <| qP V V V V <| qM V V V ?_
  refine zD0 (fun h60 => ?_) (fun h60 => ?_)
  ·
   refine qM V V V <| qM V V V <| qF V V V zU1 <| qL V V V V ta26 V <| qE V V zX V <| qC V V V V V <| qP V V V V <| qP V V V V <| qM V V V ?_
   refine zD0 (fun h69 => ?_) (fun h69 => ?_)
   ·
    refine qM V V V <| qM V V V <| qF V V V zM1 <| qL V V V V ta27 V <| qE V V zN V <| qC V V V V V <| qP V V V V <| qP V V V V <| qM V V V ?_
    refine zD0 (fun h78 => ?_) (fun h78 => ?_)
    ·
     refine qM V V V <| qM V V V <| qF V V V zZ0 <| qL V V V V ta28 V <| qE V V zE V ?_
     try rw [zO]
     refine qC V V V V V <| qP V V V V <| qP V V V V <| qA V V V <| qN <| zL ?_
     exact zT (.inr V) zH1 V (.of_eq (by congr 1; rw [zF]; simp_all [bareF, numsK, textsK, clocksK, valuesK, Val.nv, Val.mv, Val.sv, Val.cv, Val.vv])) (.bool _) Vv
    ·
     refine qT V V V V <| qS V <| qS V <| qS V <| qP V V V V <| qA V V V <| qN <| zL ?_
     exact zT (.inr V) zH1 V (.of_eq (by congr 1; rw [zF]; simp_all [bareF, numsK, textsK, clocksK, valuesK, Val.nv, Val.mv, Val.sv, Val.cv, Val.vv])) (.bool _) Vv
   ·
    refine qT V V V V <| qS V <| qS V <| qS V <| qP V V V V <| qM V V V <| qT V V V V <| qS V <| qS V <| qS V <| qP V V V V <| qA V V V <| qN <| zL ?_
    exact zT (.inr V) zH1 V (.of_eq (by congr 1; rw [zF]; simp_all [bareF, numsK, textsK, clocksK, valuesK, Val.nv, Val.mv, Val.sv, Val.cv, Val.vv])) (.bool _) Vv
  ·
   refine qT V V V V <| qS V <| qS V <| qS V <| qP V V V V <| qM V V V <| qT V V V V <| qS V <| qS V <| qS V <| qP V V V V <| qM V V V <| qT V V V V <| qS V <| qS V <| qS V <| qP V V V V ?_
   refine qA V V V <| qN <| zL ?_
   exact zT (.inr V) zH1 V (.of_eq (by congr 1; rw [zF]; simp_all [bareF, numsK, textsK, clocksK, valuesK, Val.nv, Val.mv, Val.sv, Val.cv, Val.vv])) (.bool _) Vv
 ·
  refine zU zF5 V zS5 (zA V) ?_
  refine zB <| qR V <| qB V V V V V <| qA V V V <| qN <| zB <| qR V <| qM V V V <| qC V V V V V <| qM V V V <| qM V V V <| qC V V V V V <| qP V V V V <| qM V V V <| qM V V V <| qC V V V V V <| qP V V V V <| qA V V V ?_
  refine qN <| zB <| qR V <| qM V V V <| qC V V V V V <| qM V V V <| qS V <| qS V <| qP V V V V <| qM V V V <| qS V <| qS V <| qP V V V V <| qA V V V <| qN <| zB <| qR V <| qM V V V <| qC V V V V V <| qM V V V ?_
  refine qM V V V <| qC V V V V V <| qP V V V V <| qA V V V <| qN <| zB <| qR V <| qM V V V <| qC V V V V V <| qM V V V <| qM V V V <| qC V V V V V <| qP V V V V <| qM V V V <| qM V V V <| qC V V V V V <| qP V V V V ?_
  refine qA V V V <| qN <| zB <| qR V <| qM V V V <| qM V V V <| qF V V V zG4 <| qL V V V V ta25 V <| qC V V V V V <| qP V V V V <| qM V V V ?_
  refine zD0 (fun h51 => ?_) (fun h51 => ?_)
  ·
   refine qM V V V <| qC V V V V V <| qM V V V <| qF V V V zY4 <| qL V V V V ta25 V <| qC V V V V V <| qP V V V V <| qP V V V V <| qM V V V ?_
   refine zD0 (fun h60 => ?_) (fun h60 => ?_)
   ·
    refine qM V V V <| qM V V V <| qT V V V V <| qP V V V V <| qP V V V V <| qM V V V <| qM V V V <| qM V V V <| qF V V V zM1 <| qL V V V V ta27 V <| qE V V zN V <| qC V V V V V <| qP V V V V <| qP V V V V ?_
    refine qM V V V ?_
    refine zD0 (fun h78 => ?_) (fun h78 => ?_)
    ·
     refine qM V V V <| qM V V V <| qF V V V zZ0 <| qL V V V V ta28 V <| qE V V zE V ?_
     try rw [zO]
     refine qC V V V V V <| qP V V V V <| qP V V V V <| qA V V V <| qN <| zL ?_
     exact zT (.inr V) zH1 V (.of_eq (by congr 1; rw [zF]; simp_all [bareF, numsK, textsK, clocksK, valuesK, Val.nv, Val.mv, Val.sv, Val.cv, Val.vv])) (.bool _) Vv
    ·
     refine qT V V V V <| qS V <| qS V <| qS V <| qP V V V V <| qA V V V <| qN <| zL ?_
     exact zT (.inr V) zH1 V (.of_eq (by congr 1; rw [zF]; simp_all [bareF, numsK, textsK, clocksK, valuesK, Val.nv, Val.mv, Val.sv, Val.cv, Val.vv])) (.bool _) Vv
   ·
    refine qT V V V V <| qS V <| qS V <| qS V <| qP V V V V <| qM V V V <| qT V V V V <| qS V <| qS V <| qS V <| qP V V V V <| qM V V V <| qT V V V V <| qS V <| qS V <| qS V <| qP V V V V ?_
    refine qA V V V <| qN <| zL ?_
    exact zT (.inr V) zH1 V (.of_eq (by congr 1; rw [zF]; simp_all [bareF, numsK, textsK, clocksK, valuesK, Val.nv, Val.mv, Val.sv, Val.cv, Val.vv])) (.bool _) Vv
  ·
   refine qT V V V V <| qS V <| qS V <| qS V <| qP V V V V <| qM V V V <| qT V V V V <| qS V <| qS V <| qS V <| qP V V V V <| qM V V V <| qT V V V V <| qS V <| qS V <| qS V <| qP V V V V ?_
   refine qM V V V <| qT V V V V <| qS V <| qS V <| qS V <| qP V V V V <| qA V V V <| qN <| zL ?_
   exact zT (.inr V) zH1 V (.of_eq (by congr 1; rw [zF]; simp_all [bareF, numsK, textsK, clocksK, valuesK, Val.nv, Val.mv, Val.sv, Val.cv, Val.vv])) (.bool _) Vv
 ·
  refine zU zF5 V zS5 (zA V) ?_
  refine zB <| qR V <| qB V V V V V <| qA V V V <| qN <| zB <| qR V <| qM V V V <| qC V V V V V <| qM V V V <| qM V V V <| qC V V V V V <| qP V V V V <| qM V V V <| qM V V V <| qC V V V V V <| qP V V V V <| qA V V V ?_
  refine qN <| zB <| qR V <| qM V V V <| qC V V V V V <| qM V V V <| qM V V V <| qC V V V V V <| qP V V V V <| qM V V V <| qS V <| qS V <| qP V V V V <| qA V V V <| qN <| zB <| qR V <| qM V V V <| qC V V V V V ?_
  refine qM V V V <| qM V V V <| qC V V V V V <| qP V V V V <| qA V V V <| qN <| zB <| qR V <| qM V V V <| qC V V V V V <| qM V V V <| qS V <| qS V <| qP V V V V <| qM V V V <| qS V <| qS V <| qP V V V V <| qA V V V ?_
  refine qN <| zB <| qR V <| qM V V V <| qM V V V <| qF V V V zG4 <| qL V V V V ta25 V <| qC V V V V V <| qP V V V V <| qM V V V ?_
  refine zD0 (fun h51 => ?_) (fun h51 => ?_)
  ·
   refine qM V V V <| qC V V V V V <| qM V V V <| qF V V V zY4 <| qL V V V V ta25 V <| qC V V V V V <| qP V V V V <| qP V V V V <| qM V V V ?_
   refine zD0 (fun h60 => ?_) (fun h60 => ?_)
   ·
    refine qM V V V <| qM V V V <| qT V V V V <| qP V V V V <| qP V V V V <| qM V V V <| qM V V V <| qM V V V <| qF V V V zM1 <| qL V V V V ta27 V <| qE V V zN V <| qC V V V V V <| qP V V V V <| qP V V V V ?_
    refine qM V V V ?_
    refine zD0 (fun h78 => ?_) (fun h78 => ?_)
    ·
     refine qM V V V <| qM V V V <| qT V V V V <| qP V V V V <| qP V V V V <| qA V V V <| qN <| zL ?_
     exact zT (.inr V) zH1 V (.of_eq (by congr 1; rw [zF]; simp_all [bareF, numsK, textsK, clocksK, valuesK, Val.nv, Val.mv, Val.sv, Val.cv, Val.vv])) (.bool _) Vv
    ·
     refine qT V V V V <| qS V <| qS V <| qS V <| qP V V V V <| qA V V V <| qN <| zL ?_
     exact zT (.inr V) zH1 V (.of_eq (by congr 1; rw [zF]; simp_all [bareF, numsK, textsK, clocksK, valuesK, Val.nv, Val.mv, Val.sv, Val.cv, Val.vv])) (.bool _) Vv
   ·
    refine qT V V V V <| qS V <| qS V <| qS V <| qP V V V V <| qM V V V <| qT V V V V <| qS V <| qS V <| qS V <| qP V V V V <| qM V V V <| qT V V V V <| qS V <| qS V <| qS V <| qP V V V V ?_
    refine qA V V V <| qN <| zL ?_
    exact zT (.inr V) zH1 V (.of_eq (by congr 1; rw [zF]; simp_all [bareF, numsK, textsK, clocksK, valuesK, Val.nv, Val.mv, Val.sv, Val.cv, Val.vv])) (.bool _) Vv
  ·
   refine qT V V V V <| qS V <| qS V <| qS V <| qP V V V V <| qM V V V <| qT V V V V <| qS V <| qS V <| qS V <| qP V V V V <| qM V V V <| qT V V V V <| qS V <| qS V <| qS V <| qP V V V V ?_
   refine qM V V V <| qT V V V V <| qS V <| qS V <| qS V <| qP V V V V <| qA V V V <| qN <| zL ?_
   exact zT (.inr V) zH1 V (.of_eq (by congr 1; rw [zF]; simp_all [bareF, numsK, textsK, clocksK, valuesK, Val.nv, Val.mv, Val.sv, Val.cv, Val.vv])) (.bool _) Vv
 ·
  refine zU zF5 V zS5 (zA V) ?_
  refine zB <| qR V <| qB V V V V V <| qA V V V <| qN <| zB <| qR V <| qM V V V <| qC V V V V V <| qM V V V <| qM V V V <| qC V V V V V <| qP V V V V <| qM V V V <| qM V V V <| qC V V V V V <| qP V V V V <| qA V V V ?_
  refine qN <| zB <| qR V <| qM V V V <| qC V V V V V <| qM V V V <| qM V V V <| qC V V V V V <| qP V V V V <| qM V V V <| qM V V V <| qC V V V V V <| qP V V V V <| qA V V V <| qN <| zB <| qR V <| qM V V V ?_
  refine qC V V V V V <| qM V V V <| qM V V V <| qC V V V V V <| qP V V V V <| qA V V V <| qN <| zB <| qR V <| qM V V V <| qC V V V V V <| qM V V V <| qM V V V <| qC V V V V V <| qP V V V V <| qM V V V <| qS V ?_
  refine qS V <| qP V V V V <| qA V V V <| qN <| zB <| qR V <| qM V V V <| qM V V V <| qF V V V zG4 <| qL V V V V ta25 V <| qC V V V V V <| qP V V V V <| qM V V V ?_
  refine zD0 (fun h51 => ?_) (fun h51 => ?_)
  ·
   refine qM V V V <| qC V V V V V <| qM V V V <| qF V V V zY4 <| qL V V V V ta25 V <| qC V V V V V <| qP V V V V <| qP V V V V <| qM V V V ?_
   refine zD0 (fun h60 => ?_) (fun h60 => ?_)
   ·
    refine qM V V V <| qM V V V <| qF V V V zU1 <| qL V V V V ta26 V <| qE V V zX V <| qC V V V V V <| qP V V V V <| qP V V V V <| qM V V V ?_
    refine zD0 (fun h69 => ?_) (fun h69 => ?_)
    ·
     refine qM V V V <| qM V V V <| qF V V V zM1 <| qL V V V V ta27 V <| qE V V zN V <| qC V V V V V <| qP V V V V <| qP V V V V <| qM V V V ?_
     refine zD0 (fun h78 => ?_) (fun h78 => ?_)
     ·
      refine qM V V V <| qM V V V <| qT V V V V <| qP V V V V <| qP V V V V <| qA V V V <| qN <| zL ?_
      exact zT (.inr V) zH1 V (.of_eq (by congr 1; rw [zF]; simp_all [bareF, numsK, textsK, clocksK, valuesK, Val.nv, Val.mv, Val.sv, Val.cv, Val.vv])) (.bool _) Vv
     ·
      refine qT V V V V <| qS V <| qS V <| qS V <| qP V V V V <| qA V V V <| qN <| zL ?_
      exact zT (.inr V) zH1 V (.of_eq (by congr 1; rw [zF]; simp_all [bareF, numsK, textsK, clocksK, valuesK, Val.nv, Val.mv, Val.sv, Val.cv, Val.vv])) (.bool _) Vv
    ·
     refine qT V V V V <| qS V <| qS V <| qS V <| qP V V V V <| qM V V V <| qT V V V V <| qS V <| qS V <| qS V <| qP V V V V <| qA V V V <| qN <| zL ?_
     exact zT (.inr V) zH1 V (.of_eq (by congr 1; rw [zF]; simp_all [bareF, numsK, textsK, clocksK, valuesK, Val.nv, Val.mv, Val.sv, Val.cv, Val.vv])) (.bool _) Vv
   ·
    refine qT V V V V <| qS V <| qS V <| qS V <| qP V V V V <| qM V V V <| qT V V V V <| qS V <| qS V <| qS V <| qP V V V V <| qM V V V <| qT V V V V <| qS V <| qS V <| qS V <| qP V V V V ?_
    refine qA V V V <| qN <| zL ?_
    exact zT (.inr V) zH1 V (.of_eq (by congr 1; rw [zF]; simp_all [bareF, numsK, textsK, clocksK, valuesK, Val.nv, Val.mv, Val.sv, Val.cv, Val.vv])) (.bool _) Vv
  ·
   refine qT V V V V <| qS V <| qS V <| qS V <| qP V V V V <| qM V V V <| qT V V V V <| qS V <| qS V <| qS V <| qP V V V V <| qM V V V <| qT V V V V <| qS V <| qS V <| qS V <| qP V V V V ?_
   refine qM V V V <| qT V V V V <| qS V <| qS V <| qS V <| qP V V V V <| qA V V V <| qN <| zL ?_
   exact zT (.inr V) zH1 V (.of_eq (by congr 1; rw [zF]; simp_all [bareF, numsK, textsK, clocksK, valuesK, Val.nv, Val.mv, Val.sv, Val.cv, Val.vv])) (.bool _) Vv
 ·
  refine zU zF5 V zS5 (zA V) ?_
  refine zB <| qR V <| qB V V V V V <| qA V V V <| qN <| zB <| qR V <| qM V V V <| qC V V V V V <| qM V V V <| qM V V V <| qC V V V V V <| qP V V V V <| qM V V V <| qM V V V <| qC V V V V V <| qP V V V V <| qA V V V ?_
  refine qN <| zB <| qR V <| qM V V V <| qC V V V V V <| qM V V V <| qM V V V <| qC V V V V V <| qP V V V V <| qM V V V <| qM V V V <| qC V V V V V <| qP V V V V <| qA V V V <| qN <| zB <| qR V <| qM V V V ?_
  refine qC V V V V V <| qM V V V <| qM V V V <| qC V V V V V <| qP V V V V <| qA V V V <| qN <| zB <| qR V <| qM V V V <| qC V V V V V <| qM V V V <| qM V V V <| qC V V V V V <| qP V V V V <| qM V V V <| qM V V V ?_
  refine qC V V V V V <| qP V V V V <| qA V V V <| qN <| zB <| qR V <| qM V V V <| qM V V V <| qS V <| qS V <| qS V <| qP V V V V <| qM V V V <| qM V V V <| qC V V V V V <| qM V V V <| qS V <| qS V <| qS V <| qP V V V V ?_
  refine qP V V V V <| qM V V V <| qM V V V <| qM V V V <| qT V V V V <| qP V V V V <| qP V V V V <| qM V V V <| qM V V V <| qM V V V <| qF V V V zM1 <| qL V V V V ta27 V <| qE V V zN V <| qC V V V V V ?_
  refine qP V V V V <| qP V V V V <| qM V V V ?_
  refine zD0 (fun h78 => ?_) (fun h78 => ?_)
  ·
   refine qM V V V <| qM V V V <| qF V V V zZ0 <| qL V V V V ta28 V <| qE V V zE V ?_
   try rw [zO]
   refine qC V V V V V <| qP V V V V <| qP V V V V <| qA V V V <| qN <| zL ?_
   exact zT (.inr V) zH1 V (.of_eq (by congr 1; rw [zF]; simp_all [bareF, numsK, textsK, clocksK, valuesK, Val.nv, Val.mv, Val.sv, Val.cv, Val.vv])) (.bool _) Vv
  ·
   refine qT V V V V <| qS V <| qS V <| qS V <| qP V V V V <| qA V V V <| qN <| zL ?_
   exact zT (.inr V) zH1 V (.of_eq (by congr 1; rw [zF]; simp_all [bareF, numsK, textsK, clocksK, valuesK, Val.nv, Val.mv, Val.sv, Val.cv, Val.vv])) (.bool _) Vv
 ·
  refine zU zF5 V zS5 (zA V) ?_
  refine zB <| qR V <| qB V V V V V <| qA V V V <| qN <| zB <| qR V <| qM V V V <| qC V V V V V <| qM V V V <| qM V V V <| qC V V V V V <| qP V V V V <| qM V V V <| qM V V V <| qC V V V V V <| qP V V V V <| qA V V V ?_
  refine qN <| zB <| qR V <| qM V V V <| qC V V V V V <| qM V V V <| qM V V V <| qC V V V V V <| qP V V V V <| qM V V V <| qM V V V <| qC V V V V V <| qP V V V V <| qA V V V <| qN <| zB <| qR V <| qM V V V ?_
  refine qC V V V V V <| qM V V V <| qS V <| qS V <| qP V V V V <| qA V V V <| qN <| zB <| qR V <| qM V V V <| qC V V V V V <| qM V V V <| qM V V V <| qC V V V V V <| qP V V V V <| qM V V V <| qM V V V <| qC V V V V V ?_
  refine qP V V V V <| qA V V V <| qN <| zB <| qR V <| qM V V V <| qM V V V <| qF V V V zG4 <| qL V V V V ta25 V <| qC V V V V V <| qP V V V V <| qM V V V ?_
  refine zD0 (fun h51 => ?_) (fun h51 => ?_)
  ·
   refine qM V V V <| qC V V V V V <| qM V V V <| qF V V V zY4 <| qL V V V V ta25 V <| qC V V V V V <| qP V V V V <| qP V V V V <| qM V V V ?_
   refine zD0 (fun h60 => ?_) (fun h60 => ?_)
   ·
    refine qM V V V <| qM V V V <| qF V V V zU1 <| qL V V V V ta26 V <| qE V V zX V <| qC V V V V V <| qP V V V V <| qP V V V V <| qM V V V ?_
    refine zD0 (fun h69 => ?_) (fun h69 => ?_)
    ·
     refine qM V V V <| qM V V V <| qT V V V V <| qP V V V V <| qP V V V V <| qM V V V <| qM V V V <| qM V V V <| qF V V V zZ0 <| qL V V V V ta28 V <| qE V V zE V ?_
     try rw [zO]
     refine qC V V V V V <| qP V V V V <| qP V V V V <| qA V V V <| qN <| zL ?_
     exact zT (.inr V) zH1 V (.of_eq (by congr 1; rw [zF]; simp_all [bareF, numsK, textsK, clocksK, valuesK, Val.nv, Val.mv, Val.sv, Val.cv, Val.vv])) (.bool _) Vv
    ·
     refine qT V V V V <| qS V <| qS V <| qS V <| qP V V V V <| qM V V V <| qT V V V V <| qS V <| qS V <| qS V <| qP V V V V <| qA V V V <| qN <| zL ?_
     exact zT (.inr V) zH1 V (.of_eq (by congr 1; rw [zF]; simp_all [bareF, numsK, textsK, clocksK, valuesK, Val.nv, Val.mv, Val.sv, Val.cv, Val.vv])) (.bool _) Vv
   ·
    refine qT V V V V <| qS V <| qS V <| qS V <| qP V V V V <| qM V V V <| qT V V V V <| qS V <| qS V <| qS V <| qP V V V V <| qM V V V <| qT V V V V <| qS V <| qS V <| qS V <| qP V V V V ?_
    refine qA V V V <| qN <| zL ?_
    exact zT (.inr V) zH1 V (.of_eq (by congr 1; rw [zF]; simp_all [bareF, numsK, textsK, clocksK, valuesK, Val.nv, Val.mv, Val.sv, Val.cv, Val.vv])) (.bool _) Vv
  ·
   refine qT V V V V <| qS V <| qS V <| qS V <| qP V V V V <| qM V V V <| qT V V V V <| qS V <| qS V <| qS V <| qP V V V V <| qM V V V <| qT V V V V <| qS V <| qS V <| qS V <| qP V V V V ?_
   refine qM V V V <| qT V V V V <| qS V <| qS V <| qS V <| qP V V V V <| qA V V V <| qN <| zL ?_
   exact zT (.inr V) zH1 V (.of_eq (by congr 1; rw [zF]; simp_all [bareF, numsK, textsK, clocksK, valuesK, Val.nv, Val.mv, Val.sv, Val.cv, Val.vv])) (.bool _) Vv
 ·
  refine zU zF5 V zS5 (zA V) ?_
  refine zB <| qR V <| qB V V V V V <| qA V V V <| qN <| zB <| qR V <| qM V V V <| qC V V V V V <| qM V V V <| qM V V V <| qC V V V V V <| qP V V V V <| qM V V V <| qM V V V <| qC V V V V V <| qP V V V V <| qA V V V ?_
  refine qN <| zB <| qR V <| qM V V V <| qC V V V V V <| qM V V V <| qM V V V <| qC V V V V V <| qP V V V V <| qM V V V <| qM V V V <| qC V V V V V <| qP V V V V <| qA V V V <| qN <| zB <| qR V <| qM V V V ?_
  refine qC V V V V V <| qM V V V <| qM V V V <| qC V V V V V <| qP V V V V <| qA V V V <| qN <| zB <| qR V <| qM V V V <| qC V V V V V <| qM V V V <| qM V V V <| qC V V V V V <| qP V V V V <| qM V V V <| qM V V V ?_
  refine qC V V V V V <| qP V V V V <| qA V V V <| qN <| zB <| qR V <| qM V V V <| qM V V V <| qF V V V zG4 <| qL V V V V ta25 V <| qC V V V V V <| qP V V V V <| qM V V V ?_
  refine zD0 (fun h51 => ?_) (fun h51 => ?_)
  ·
   refine qM V V V <| qC V V V V V <| qM V V V <| qF V V V zY4 <| qL V V V V ta25 V <| qC V V V V V <| qP V V V V <| qP V V V V <| qM V V V ?_
   refine zD0 (fun h60 => ?_) (fun h60 => ?_)
   ·
    refine qM V V V <| qM V V V <| qF V V V zU1 <| qL V V V V ta26 V <| qE V V zX V <| qC V V V V V <| qP V V V V <| qP V V V V <| qM V V V ?_
    refine zD0 (fun h69 => ?_) (fun h69 => ?_)
    ·
     refine qM V V V <| qM V V V <| qT V V V V <| qP V V V V <| qP V V V V <| qM V V V <| qM V V V <| qM V V V <| qT V V V V <| qP V V V V <| qP V V V V <| qA V V V <| qN <| zL ?_
     exact zT (.inr V) zH1 V (.of_eq (by congr 1; rw [zF]; simp_all [bareF, numsK, textsK, clocksK, valuesK, Val.nv, Val.mv, Val.sv, Val.cv, Val.vv])) (.bool _) Vv
    ·
     refine qT V V V V <| qS V <| qS V <| qS V <| qP V V V V <| qM V V V <| qT V V V V <| qS V <| qS V <| qS V <| qP V V V V <| qA V V V <| qN <| zL ?_
     exact zT (.inr V) zH1 V (.of_eq (by congr 1; rw [zF]; simp_all [bareF, numsK, textsK, clocksK, valuesK, Val.nv, Val.mv, Val.sv, Val.cv, Val.vv])) (.bool _) Vv
   ·
    refine qT V V V V <| qS V <| qS V <| qS V <| qP V V V V <| qM V V V <| qT V V V V <| qS V <| qS V <| qS V <| qP V V V V <| qM V V V <| qT V V V V <| qS V <| qS V <| qS V <| qP V V V V ?_
    refine qA V V V <| qN <| zL ?_
    exact zT (.inr V) zH1 V (.of_eq (by congr 1; rw [zF]; simp_all [bareF, numsK, textsK, clocksK, valuesK, Val.nv, Val.mv, Val.sv, Val.cv, Val.vv])) (.bool _) Vv
  ·
   refine qT V V V V <| qS V <| qS V <| qS V <| qP V V V V <| qM V V V <| qT V V V V <| qS V <| qS V <| qS V <| qP V V V V <| qM V V V <| qT V V V V <| qS V <| qS V <| qS V <| qP V V V V ?_
   refine qM V V V <| qT V V V V <| qS V <| qS V <| qS V <| qP V V V V <| qA V V V <| qN <| zL ?_
   exact zT (.inr V) zH1 V (.of_eq (by congr 1; rw [zF]; simp_all [bareF, numsK, textsK, clocksK, valuesK, Val.nv, Val.mv, Val.sv, Val.cv, Val.vv])) (.bool _) Vv
theorem _root_.zP6 : type_of% @bare_spec := @bare_spec
theorem is1v_spec (k k1 : Int) (i1 rest : List Sch) (f : Val → Bool) (ih : ∀ x, okV x → ∀ S : MS, MCalls Tryz.prog 44 [encS (.mk k1 i1), encV x] S fun v σ' => v = .bool (f x) ∧ σ' = S) (x : Val) (hx : okV x) (id : Nat) (S : MS) (hS : S[id]? = some (.cells [.int .i64 k, .lst none 2 (encSs (.mk k1 i1 :: rest))])) : MCalls Tryz.prog 70 [encV x, .ref id 0] S fun v σ' => v = .bool (f x) ∧ σ' = S := by
 obtain ⟨n, m, s, c, w⟩ := x
 refine zU Tryz.func70 V Tryz.ntmps70 (zA V) ?_
 refine zB <| qR V <| qB V V V V V <| qA V V V <| qN <| zB ?_
 refine zV0 [] [_] mo (by decide) V V V V ?_
 refine dO V V V (zJ V V zR2 Vv) <| dO V V V (zD2 V V hS ta22 V Vv) <| dO V V V (zG V zJ0 sz24 (by decide) V V V (show _ = some (encS (.mk k1 i1)) from V) Vv) ?_
 refine dO V V V (zI V V ta24 V Vv) <| dO V V V (zE0 V V V ta30 V Vv) <| zV V V (.cons (zC1 V V V co44 (ih (.mk n m s c w) hx _)) .nil) <| dO V V V (zB1 V V Vv) <| zK0 <| zL ?_
 exact zT (.inr V) Tryz.results70 V (.of_eq (V)) (.bool _) Vv
theorem is2v_spec (k k1 : Int) (i1 rest : List Sch) (f : Val → Bool) (ih : ∀ x, okV x → ∀ S : MS, MCalls Tryz.prog 44 [encS (.mk k1 i1), encV x] S fun v σ' => v = .bool (f x) ∧ σ' = S) (x : Val) (hx : okV x) (ida ids : Nat) (S : MS) (hA : S[ida]? = some (.cells [.fn (.func 70) [] [.ref ids 0]])) (hS : S[ids]? = some (.cells [.int .i64 k, .lst none 2 (encSs (.mk k1 i1 :: rest))])) : MCalls Tryz.prog 73 [encV x, .ref ida 0, .ref ids 0] S fun v σ' => v = .bool (!f x || noneF (.mk k1 i1) x) ∧ σ' = S := by
 obtain ⟨n, m, s, c, w⟩ := x
 refine zU Tryz.func73 V Tryz.ntmps73 (zA V) ?_
 refine zB <| qR V <| qB V V V V V <| qA V V V <| qN <| zB ?_
 refine zV0 [] [_] mo (by decide) V V V V ?_
 refine zV V V (.cons (zD2 V V hA ta75 V Vv) .nil) ?_
 refine dO V V V (zE0 V V V ta30 V Vv) <| zV V V (.cons (zC1 V V V co70 (is1v_spec k k1 i1 rest f ih (.mk n m s c w) hx ids _ (zT0 hS))) .nil) <| dO V V V (zY0 V V Vv) <| dO V V V (zS V V Vv) ?_
 refine zF2 (fun h9 => ?_) (fun h9 => ?_)
 ·
  refine dS V V <| dS V V <| dS V V <| dS V V <| dS V V <| dS V V <| dO V V V (zD1 V V V Vv) <| dO V V V (zB1 V V Vv) <| zK0 <| zL ?_
  exact zT (.inr V) Tryz.results73 V (.of_eq (by simp_all)) (.bool _) Vv
 ·
  refine dO V V V (zJ V V zR2 Vv) <| dO V V V (zD2 V V hS ta22 V Vv) <| dO V V V (zG V zJ0 sz24 (by decide) V V V (show _ = some (encS (.mk k1 i1)) from V) Vv) ?_
  refine dO V V V (zI V V ta24 V Vv) <| dO V V V (zE0 V V V ta30 V Vv) <| zV V V (.cons (zC1 V V V co46 (zR5 (.mk k1 i1) (.mk n m s c w) _)) .nil) <| dO V V V (zD1 V V V Vv) <| dO V V V (zB1 V V Vv) <| zK0 <| zL ?_
  exact zT (.inr V) Tryz.results73 V (.of_eq (by simp_all)) (.bool _) Vv
theorem is3v_spec (k k1 : Int) (i1 rest : List Sch) (f : Val → Bool) (ih : ∀ x, okV x → ∀ S : MS, MCalls Tryz.prog 44 [encS (.mk k1 i1), encV x] S fun v σ' => v = .bool (f x) ∧ σ' = S) (x : Val) (hx : okV x) (ida ids : Nat) (S : MS) (hA : S[ida]? = some (.cells [.fn (.func 70) [] [.ref ids 0]])) (hS : S[ids]? = some (.cells [.int .i64 k, .lst none 2 (encSs (.mk k1 i1 :: rest))])) : MCalls Tryz.prog 77 [encV x, .ref ida 0] S fun v σ' => v = .bool (!f x) ∧ σ' = S := by
 obtain ⟨n, m, s, c, w⟩ := x
 refine zU Tryz.func77 V Tryz.ntmps77 (zA V) ?_
 refine zB <| qR V <| qB V V V V V <| qA V V V <| qN <| zB <| qR V <| qO V <| zD2 V V hA ta75 V <| qL V V V V ta30 V ?_
 refine qX V V V V co70 (is1v_spec k k1 i1 rest f ih (.mk n m s c w) hx ids _ (zT0 hS)) ?_
 refine qO V <| zY0 V V <| qA V V V <| qN <| zL ?_
 exact zT (.inr V) Tryz.results77 V (.of_eq (V)) (.bool _) Vv
theorem _root_.zT5 : type_of% @Tryz.ntmps44 := @Tryz.ntmps44
theorem _root_.zU0 : type_of% @Tryz.results44 := @Tryz.results44
theorem isV_spec (d : Nat) : ∀ (s : Sch), isF d s = true → ∀ x : Val, okV x → ∀ S : MS, MCalls Tryz.prog 44 [encS s, encV x] S fun v σ' => v = .bool (isVF s x) ∧ σ' = S := by
 induction d with
 | zero => intro s h; simp [isF] at h
 | succ d ih =>
 rintro ⟨k, ins⟩ hd ⟨n, m, s, c, w⟩ hv S
 rw [isF] at hd
 simp only [Bool.and_eq_true, List.all_eq_true, beq_iff_eq] at hd
 simp only [okV] at hv
 have hvs := okVs_iff.1 hv.2.2.2
 rcases k8_of hd.1 with rfl | rfl | rfl | rfl | rfl | rfl | rfl | rfl
 ·
  refine zU zE5 V zT5 (zA V) ?_
  refine zB <| qR V <| qB V V V V V <| qB V V V V V <| qA V V V <| qN <| zB <| zB <| qR V <| qF V V V zC2 <| qL V V V V ta3 V <| qL V V V V ta30 V ?_
  refine qX V V V V co69 (zP6 1 (by omega) n m s c w _) ?_
  refine qO V <| zY0 V V <| qM V V V ?_
  refine zD0 (fun h11 => ?_) (fun h11 => ?_)
  ·
   refine qT V V V V <| qP V V V V <| qM V V V <| qT V V V V <| qP V V V V <| qN <| zA0 V (V) <| zB <| qR V <| qA V V V <| qN <| zL ?_
   exact zT (.inr V) zU0 V (.of_eq (by rw [zW0 1]; congr 1; symm; first | (rw [show bareF 1 _ = false by simpa using h11]; rfl) | (rw [w40f]; simp; done) | (rw [c40f]; simp; done))) (.bool _) Vv
  ·
   refine qF V V V zZ0 <| qL V V V V ta28 V <| qE V V zE V <| qC V V V V V <| qP V V V V <| qM V V V ?_
   refine zD0 (fun h17 => ?_) (fun h17 => ?_)
   ·
    have w40f := decide_eq_false (by rw [zO] at h17; simp at h17; omega : ¬ w.length ≤ 40)
    refine qT V V V V <| qP V V V V <| qN <| zA0 V (V) <| zB <| qR V <| qA V V V <| qN <| zL ?_
    exact zT (.inr V) zU0 V (.of_eq (by rw [zW0 1]; congr 1; symm; first | (rw [show bareF 1 _ = false by simpa using h11]; rfl) | (rw [w40f]; simp; done) | (rw [c40f]; simp; done))) (.bool _) Vv
   ·
    have w40t := decide_eq_true (by rw [zO] at h17; simp at h17; omega : w.length ≤ 40)
    refine qF V V V zM1 <| qL V V V V ta27 V <| qE V V zN V <| qC V V V V V <| qP V V V V <| qN ?_
    refine zK V (fun h22 => ?_) (fun h22 => ?_)
    ·
     have c40f := decide_eq_false (by rw [zC] at h22; simp at h22; omega : ¬ c.length ≤ 40)
     refine zB <| qR V <| qA V V V <| qN <| zL ?_
     exact zT (.inr V) zU0 V (.of_eq (by rw [zW0 1]; congr 1; symm; first | (rw [show bareF 1 _ = false by simpa using h11]; rfl) | (rw [w40f]; simp; done) | (rw [c40f]; simp; done))) (.bool _) Vv
    ·
     have c40t := decide_eq_true (by rw [zC] at h22; simp at h22; omega : c.length ≤ 40)
     refine zY <| zB <| qR V <| qO V <| zB2 V V V <| qO V <| zL0 V zm75 V V <| qO V <| zG0 V V V V sz75 V V (zA V) V <| qN <| zB <| zB <| qR V <| qF V V V zC2 <| qL V V V V ta3 V <| qN <| zB0 <| zB <| qR V <| qC V V V V V <| qA V V V <| qN <| zA0 V (V) <| zB <| qR V <| qA V V V ?_
     refine qN <| zL ?_
     exact zT (.inr V) zU0 V (.of_eq (by rw [zW0 1]; rw [show bareF 1 _ = true by simpa using h11, w40t, c40t]; simp only [Bool.true_and, isVL, List.headD_cons, List.tail_cons]; rfl)) (.bool _) Vv
 ·
  refine zU zE5 V zT5 (zA V) ?_
  refine zB <| qR V <| qB V V V V V <| qB V V V V V <| qA V V V <| qN <| zB <| zB <| qR V <| qF V V V zC2 <| qL V V V V ta3 V <| qL V V V V ta30 V ?_
  refine qX V V V V co69 (zP6 2 (by omega) n m s c w _) ?_
  refine qO V <| zY0 V V <| qM V V V ?_
  refine zD0 (fun h11 => ?_) (fun h11 => ?_)
  ·
   refine qT V V V V <| qP V V V V <| qM V V V <| qT V V V V <| qP V V V V <| qN <| zA0 V (V) <| zB <| qR V <| qA V V V <| qN <| zL ?_
   exact zT (.inr V) zU0 V (.of_eq (by rw [zW0 2]; congr 1; symm; first | (rw [show bareF 2 _ = false by simpa using h11]; rfl) | (rw [w40f]; simp; done) | (rw [c40f]; simp; done))) (.bool _) Vv
  ·
   refine qF V V V zZ0 <| qL V V V V ta28 V <| qE V V zE V <| qC V V V V V <| qP V V V V <| qM V V V ?_
   refine zD0 (fun h17 => ?_) (fun h17 => ?_)
   ·
    have w40f := decide_eq_false (by rw [zO] at h17; simp at h17; omega : ¬ w.length ≤ 40)
    refine qT V V V V <| qP V V V V <| qN <| zA0 V (V) <| zB <| qR V <| qA V V V <| qN <| zL ?_
    exact zT (.inr V) zU0 V (.of_eq (by rw [zW0 2]; congr 1; symm; first | (rw [show bareF 2 _ = false by simpa using h11]; rfl) | (rw [w40f]; simp; done) | (rw [c40f]; simp; done))) (.bool _) Vv
   ·
    have w40t := decide_eq_true (by rw [zO] at h17; simp at h17; omega : w.length ≤ 40)
    refine qF V V V zM1 <| qL V V V V ta27 V <| qE V V zN V <| qC V V V V V <| qP V V V V <| qN ?_
    refine zK V (fun h22 => ?_) (fun h22 => ?_)
    ·
     have c40f := decide_eq_false (by rw [zC] at h22; simp at h22; omega : ¬ c.length ≤ 40)
     refine zB <| qR V <| qA V V V <| qN <| zL ?_
     exact zT (.inr V) zU0 V (.of_eq (by rw [zW0 2]; congr 1; symm; first | (rw [show bareF 2 _ = false by simpa using h11]; rfl) | (rw [w40f]; simp; done) | (rw [c40f]; simp; done))) (.bool _) Vv
    ·
     have c40t := decide_eq_true (by rw [zC] at h22; simp at h22; omega : c.length ≤ 40)
     refine zY <| zB <| qR V <| qO V <| zB2 V V V <| qO V <| zL0 V zm75 V V <| qO V <| zG0 V V V V sz75 V V (zA V) V <| qN <| zB <| zB <| qR V <| qF V V V zC2 <| qL V V V V ta3 V <| qN <| zB0 <| zB <| qR V <| qC V V V V V <| qA V V V <| qN <| zQ V (V) <| zB <| qR V <| qC V V V V V ?_
     refine qA V V V <| qN <| zA0 V (V) <| zB <| qR V <| qF V V V zG4 <| qL V V V V ta25 V <| qC V V V V V <| qA V V V <| qN <| zL ?_
     exact zT (.inr V) zU0 V (.of_eq (by rw [zW0 2]; rw [show bareF 2 _ = true by simpa using h11, w40t, c40t]; simp only [Bool.true_and, isVL, List.headD_cons, List.tail_cons]; rfl)) (.bool _) Vv
 ·
  refine zU zE5 V zT5 (zA V) ?_
  refine zB <| qR V <| qB V V V V V <| qB V V V V V <| qA V V V <| qN <| zB <| zB <| qR V <| qF V V V zC2 <| qL V V V V ta3 V <| qL V V V V ta30 V ?_
  refine qX V V V V co69 (zP6 3 (by omega) n m s c w _) ?_
  refine qO V <| zY0 V V <| qM V V V ?_
  refine zD0 (fun h11 => ?_) (fun h11 => ?_)
  ·
   refine qT V V V V <| qP V V V V <| qM V V V <| qT V V V V <| qP V V V V <| qN <| zA0 V (V) <| zB <| qR V <| qA V V V <| qN <| zL ?_
   exact zT (.inr V) zU0 V (.of_eq (by rw [zW0 3]; congr 1; symm; first | (rw [show bareF 3 _ = false by simpa using h11]; rfl) | (rw [w40f]; simp; done) | (rw [c40f]; simp; done))) (.bool _) Vv
  ·
   refine qF V V V zZ0 <| qL V V V V ta28 V <| qE V V zE V <| qC V V V V V <| qP V V V V <| qM V V V ?_
   refine zD0 (fun h17 => ?_) (fun h17 => ?_)
   ·
    have w40f := decide_eq_false (by rw [zO] at h17; simp at h17; omega : ¬ w.length ≤ 40)
    refine qT V V V V <| qP V V V V <| qN <| zA0 V (V) <| zB <| qR V <| qA V V V <| qN <| zL ?_
    exact zT (.inr V) zU0 V (.of_eq (by rw [zW0 3]; congr 1; symm; first | (rw [show bareF 3 _ = false by simpa using h11]; rfl) | (rw [w40f]; simp; done) | (rw [c40f]; simp; done))) (.bool _) Vv
   ·
    have w40t := decide_eq_true (by rw [zO] at h17; simp at h17; omega : w.length ≤ 40)
    refine qF V V V zM1 <| qL V V V V ta27 V <| qE V V zN V <| qC V V V V V <| qP V V V V <| qN ?_
    refine zK V (fun h22 => ?_) (fun h22 => ?_)
    ·
     have c40f := decide_eq_false (by rw [zC] at h22; simp at h22; omega : ¬ c.length ≤ 40)
     refine zB <| qR V <| qA V V V <| qN <| zL ?_
     exact zT (.inr V) zU0 V (.of_eq (by rw [zW0 3]; congr 1; symm; first | (rw [show bareF 3 _ = false by simpa using h11]; rfl) | (rw [w40f]; simp; done) | (rw [c40f]; simp; done))) (.bool _) Vv
    ·
     have c40t := decide_eq_true (by rw [zC] at h22; simp at h22; omega : c.length ≤ 40)
     refine zY <| zB <| qR V <| qO V <| zB2 V V V <| qO V <| zL0 V zm75 V V <| qO V <| zG0 V V V V sz75 V V (zA V) V <| qN <| zB <| zB <| qR V <| qF V V V zC2 <| qL V V V V ta3 V <| qN <| zB0 <| zB <| qR V <| qC V V V V V <| qA V V V <| qN <| zQ V (V) <| zB <| qR V <| qC V V V V V ?_
     refine qA V V V <| qN <| zQ V (V) <| zB <| qR V <| qC V V V V V <| qA V V V <| qN <| zA0 V (V) <| zB <| qR V <| qF V V V zU1 <| qL V V V V ta26 V ?_
     refine qX V V V V co71 (isRow_spec s _) ?_
     refine qA V V V <| qN <| zL ?_
     exact zT (.inr V) zU0 V (.of_eq (by rw [zW0 3]; rw [show bareF 3 _ = true by simpa using h11, w40t, c40t]; simp only [Bool.true_and, isVL, List.headD_cons, List.tail_cons]; rfl)) (.bool _) Vv
 ·
  obtain ⟨⟨k1, i1⟩, rfl⟩ := zX2 hd.1 (by decide)
  have ih1 := ih (.mk k1 i1) (hd.2 _ (by simp))
  refine zU zE5 V zT5 (zA V) ?_
  refine zB <| qR V <| qB V V V V V <| qB V V V V V <| qA V V V <| qN <| zB <| zB <| qR V <| qF V V V zC2 <| qL V V V V ta3 V <| qL V V V V ta30 V ?_
  refine qX V V V V co69 (zP6 4 (by omega) n m s c w _) ?_
  refine qO V <| zY0 V V <| qM V V V ?_
  refine zD0 (fun h11 => ?_) (fun h11 => ?_)
  ·
   refine qT V V V V <| qP V V V V <| qM V V V <| qT V V V V <| qP V V V V <| qN <| zA0 V (V) <| zB <| qR V <| qA V V V <| qN <| zL ?_
   exact zT (.inr V) zU0 V (.of_eq (by rw [zW0 4]; congr 1; symm; first | (rw [show bareF 4 _ = false by simpa using h11]; rfl) | (rw [w40f]; simp; done) | (rw [c40f]; simp; done))) (.bool _) Vv
  ·
   refine qF V V V zZ0 <| qL V V V V ta28 V <| qE V V zE V <| qC V V V V V <| qP V V V V <| qM V V V ?_
   refine zD0 (fun h17 => ?_) (fun h17 => ?_)
   ·
    have w40f := decide_eq_false (by rw [zO] at h17; simp at h17; omega : ¬ w.length ≤ 40)
    refine qT V V V V <| qP V V V V <| qN <| zA0 V (V) <| zB <| qR V <| qA V V V <| qN <| zL ?_
    exact zT (.inr V) zU0 V (.of_eq (by rw [zW0 4]; congr 1; symm; first | (rw [show bareF 4 _ = false by simpa using h11]; rfl) | (rw [w40f]; simp; done) | (rw [c40f]; simp; done))) (.bool _) Vv
   ·
    have w40t := decide_eq_true (by rw [zO] at h17; simp at h17; omega : w.length ≤ 40)
    refine qF V V V zM1 <| qL V V V V ta27 V <| qE V V zN V <| qC V V V V V <| qP V V V V <| qN ?_
    refine zK V (fun h22 => ?_) (fun h22 => ?_)
    ·
     have c40f := decide_eq_false (by rw [zC] at h22; simp at h22; omega : ¬ c.length ≤ 40)
     refine zB <| qR V <| qA V V V <| qN <| zL ?_
     exact zT (.inr V) zU0 V (.of_eq (by rw [zW0 4]; congr 1; symm; first | (rw [show bareF 4 _ = false by simpa using h11]; rfl) | (rw [w40f]; simp; done) | (rw [c40f]; simp; done))) (.bool _) Vv
    ·
     have c40t := decide_eq_true (by rw [zC] at h22; simp at h22; omega : c.length ≤ 40)
     refine zY <| zB <| qR V <| qO V <| zB2 V V V <| qO V <| zL0 V zm75 V V <| qO V <| zG0 V V V V sz75 V V (zA V) V <| qN <| zB <| zB <| qR V <| qF V V V zC2 <| qL V V V V ta3 V <| qN <| zB0 <| zB <| qR V <| qC V V V V V <| qA V V V <| qN <| zQ V (V) <| zB <| qR V <| qC V V V V V ?_
     refine qA V V V <| qN <| zQ V (V) <| zB <| qR V <| qC V V V V V <| qA V V V <| qN <| zQ V (V) <| zB <| qR V <| qC V V V V V <| qA V V V <| qN <| zA0 V (V) <| zB <| qR V <| qF V V V zU1 <| qL V V V V ta26 V ?_
     refine qX V V V V co71 (isRow_spec s _) ?_
     refine qM V V V ?_
     refine zD0 (fun h43 => ?_) (fun h43 => ?_)
     ·
      refine qF V V V zU1 <| qL V V V V ta26 V <| qE V V zX V <| qF V V V zZ0 <| qL V V V V ta28 V <| qE V V zE V <| qC V V V V V <| qP V V V V <| qM V V V ?_
      refine zD0 (fun h52 => ?_) (fun h52 => ?_)
      ·
       have hsl : s.length = w.length := by rw [zC, zO] at h52; simp at h52; omega
       refine qF V V V zZ0 <| qL V V V V ta28 V <| qO V <| zB2 V V V ?_
       refine qX V V V V co72 (vContains_spec _ w (fun x => !isVF (.mk k1 i1) x || noneF (.mk k1 i1) x) _ [] [.ref (S.length + 2) 0, .ref (S.length + 0) 0] co73 (fun x hx X => is2v_spec 4 k1 i1 [] (isVF (.mk k1 i1)) ih1 x (hvs x hx) _ _ _ (get_mid_ (k := 2) V) (get_mid_ (k := 0) V))) ?_
       refine qO V <| zY0 V V <| qP V V V V <| qA V V V <| qN <| zL ?_
       exact zT (.inr V) zU0 V (.of_eq (by rw [zW0 4]; rw [show bareF 4 _ = true by simpa using h11, w40t, c40t]; simp only [Bool.true_and, isVL, List.headD_cons, List.tail_cons]; congr 1; rw [zF]; simp_all [zO, any_all])) (.bool _) Vv
      ·
       have hsl : ¬ s.length = w.length := by rw [zC, zO] at h52; simp at h52; omega
       refine qT V V V V <| qS V <| qP V V V V <| qA V V V <| qN <| zL ?_
       exact zT (.inr V) zU0 V (.of_eq (by rw [zW0 4]; rw [show bareF 4 _ = true by simpa using h11, w40t, c40t]; simp only [Bool.true_and, isVL, List.headD_cons, List.tail_cons]; congr 1; rw [zF]; simp_all [zO, any_all])) (.bool _) Vv
     ·
      refine qT V V V V <| qS V <| qS V <| qS V <| qP V V V V <| qM V V V <| qT V V V V <| qS V <| qP V V V V <| qA V V V <| qN <| zL ?_
      exact zT (.inr V) zU0 V (.of_eq (by rw [zW0 4]; rw [show bareF 4 _ = true by simpa using h11, w40t, c40t]; simp only [Bool.true_and, isVL, List.headD_cons, List.tail_cons]; congr 1; rw [zF]; simp_all [zO, any_all])) (.bool _) Vv
 ·
  obtain ⟨⟨k1, i1⟩, ⟨k2, i2⟩, rfl⟩ := zQ5 hd.1
  have ih1 := ih (.mk k1 i1) (hd.2 _ (by simp))
  have ih2 := ih (.mk k2 i2) (hd.2 _ (by simp))
  refine zU zE5 V zT5 (zA V) ?_
  refine zB <| qR V <| qB V V V V V <| qB V V V V V <| qA V V V <| qN <| zB <| zB <| qR V <| qF V V V zC2 <| qL V V V V ta3 V <| qL V V V V ta30 V ?_
  refine qX V V V V co69 (zP6 5 (by omega) n m s c w _) ?_
  refine qO V <| zY0 V V <| qM V V V ?_
  refine zD0 (fun h11 => ?_) (fun h11 => ?_)
  ·
   refine qT V V V V <| qP V V V V <| qM V V V <| qT V V V V <| qP V V V V <| qN <| zA0 V (V) <| zB <| qR V <| qA V V V <| qN <| zL ?_
   exact zT (.inr V) zU0 V (.of_eq (by rw [zW0 5]; congr 1; symm; first | (rw [show bareF 5 _ = false by simpa using h11]; rfl) | (rw [w40f]; simp; done) | (rw [c40f]; simp; done))) (.bool _) Vv
  ·
   refine qF V V V zZ0 <| qL V V V V ta28 V <| qE V V zE V <| qC V V V V V <| qP V V V V <| qM V V V ?_
   refine zD0 (fun h17 => ?_) (fun h17 => ?_)
   ·
    have w40f := decide_eq_false (by rw [zO] at h17; simp at h17; omega : ¬ w.length ≤ 40)
    refine qT V V V V <| qP V V V V <| qN <| zA0 V (V) <| zB <| qR V <| qA V V V <| qN <| zL ?_
    exact zT (.inr V) zU0 V (.of_eq (by rw [zW0 5]; congr 1; symm; first | (rw [show bareF 5 _ = false by simpa using h11]; rfl) | (rw [w40f]; simp; done) | (rw [c40f]; simp; done))) (.bool _) Vv
   ·
    have w40t := decide_eq_true (by rw [zO] at h17; simp at h17; omega : w.length ≤ 40)
    refine qF V V V zM1 <| qL V V V V ta27 V <| qE V V zN V <| qC V V V V V <| qP V V V V <| qN ?_
    refine zK V (fun h22 => ?_) (fun h22 => ?_)
    ·
     have c40f := decide_eq_false (by rw [zC] at h22; simp at h22; omega : ¬ c.length ≤ 40)
     refine zB <| qR V <| qA V V V <| qN <| zL ?_
     exact zT (.inr V) zU0 V (.of_eq (by rw [zW0 5]; congr 1; symm; first | (rw [show bareF 5 _ = false by simpa using h11]; rfl) | (rw [w40f]; simp; done) | (rw [c40f]; simp; done))) (.bool _) Vv
    ·
     have c40t := decide_eq_true (by rw [zC] at h22; simp at h22; omega : c.length ≤ 40)
     refine zY <| zB <| qR V <| qO V <| zB2 V V V <| qO V <| zL0 V zm75 V V <| qO V <| zG0 V V V V sz75 V V (zA V) V <| qN <| zB <| zB <| qR V <| qF V V V zC2 <| qL V V V V ta3 V <| qN <| zB0 <| zB <| qR V <| qC V V V V V <| qA V V V <| qN <| zQ V (V) <| zB <| qR V <| qC V V V V V ?_
     refine qA V V V <| qN <| zQ V (V) <| zB <| qR V <| qC V V V V V <| qA V V V <| qN <| zQ V (V) <| zB <| qR V <| qC V V V V V <| qA V V V <| qN <| zQ V (V) <| zB <| qR V <| qC V V V V V <| qA V V V <| qN <| zA0 V (V) <| zB ?_
     refine zV0 [] [_] mo (by decide) V V V V ?_
     refine dO V V V (zJ V V zZ0 Vv) <| dO V V V (zE0 V V V ta28 V Vv) <| dO V V V (zP2 V zE V Vv) <| dO V V V (zQ2 V V V V Vv) <| dO V V V (zS V V Vv) ?_
     refine zF2 (fun h65 => ?_) (fun h65 => ?_)
     ·
      obtain ⟨⟨n1, m1, s1, c1, w1⟩, ⟨n2, m2, s2, c2, w2⟩, rfl⟩ := two_of' (by rw [zO] at h65; simp at h65; omega : w.length = 2)
      refine dO V V V (zJ V V zR2 Vv) <| dO V V V (zE0 V V V ta22 V Vv) <| dO V V V (zG V zJ0 sz24 (by decide) V V V (show _ = some (encS (.mk k1 i1)) from V) Vv) ?_
      refine dO V V V (zI V V ta24 V Vv) <| dO V V V (zJ V V zZ0 Vv) <| dO V V V (zE0 V V V ta28 V Vv) <| dO V V V (zG V zE sz30 (by decide) V V V (show _ = some (encV (.mk n1 m1 s1 c1 w1)) from V) Vv) ?_
      refine dO V V V (zI V V ta30 V Vv) <| zV V V (.cons (zC1 V V V co44 (ih1 (.mk n1 m1 s1 c1 w1) (hvs _ (by simp)) _)) .nil) ?_
      refine dO V V V (zD1 V V V Vv) <| dO V V V (zS V V Vv) ?_
      refine zF2 (fun h76 => ?_) (fun h76 => ?_)
      ·
       refine dO V V V (zJ V V zR2 Vv) <| dO V V V (zE0 V V V ta22 V Vv) <| dO V V V (zG V zJ0 sz24 (by decide) V V V (show _ = some (encS (.mk k2 i2)) from V) Vv) ?_
       refine dO V V V (zI V V ta24 V Vv) <| dO V V V (zJ V V zZ0 Vv) <| dO V V V (zE0 V V V ta28 V Vv) <| dO V V V (zG V zE sz30 (by decide) V V V (show _ = some (encV (.mk n2 m2 s2 c2 w2)) from V) Vv) ?_
       refine dO V V V (zI V V ta30 V Vv) <| zV V V (.cons (zC1 V V V co44 (ih2 (.mk n2 m2 s2 c2 w2) (hvs _ (by simp)) _)) .nil) ?_
       refine dO V V V (zD1 V V V Vv) <| dO V V V (zB1 V V Vv) <| zK0 <| zL ?_
       exact zT (.inr V) zU0 V (.of_eq (by rw [zW0 5]; rw [show bareF 5 _ = true by simpa using h11, w40t, c40t]; simp only [Bool.true_and, isVL, List.headD_cons, List.tail_cons]; first | (congr 1; symm; rw [if_neg (by decide), if_neg (by decide), if_neg (by decide), if_neg (by decide), if_pos True.intro]; exact hm2) | (congr 1; rw [zF]; simp_all [zO]))) (.bool _) Vv
      ·
       refine dS V V <| dS V V <| dS V V <| dS V V <| dS V V <| dS V V <| dS V V <| dS V V <| dS V V <| dO V V V (zD1 V V V Vv) <| dO V V V (zB1 V V Vv) <| zK0 <| zL ?_
       exact zT (.inr V) zU0 V (.of_eq (by rw [zW0 5]; rw [show bareF 5 _ = true by simpa using h11, w40t, c40t]; simp only [Bool.true_and, isVL, List.headD_cons, List.tail_cons]; first | (congr 1; symm; rw [if_neg (by decide), if_neg (by decide), if_neg (by decide), if_neg (by decide), if_pos True.intro]; exact hm2) | (congr 1; rw [zF]; simp_all [zO]))) (.bool _) Vv
     ·
      have hm2 := match2_no (f := isVF (.mk k1 i1)) (g := isVF (.mk k2 i2)) (by rw [zO] at h65; simp at h65; omega : w.length ≠ 2)
      refine dS V V <| dS V V <| dS V V <| dS V V <| dS V V <| dS V V <| dS V V <| dS V V <| dS V V <| dO V V V (zD1 V V V Vv) <| dO V V V (zS V V Vv) <| dS V V <| dS V V <| dS V V <| dS V V <| dS V V <| dS V V <| dS V V <| dS V V <| dS V V <| dO V V V (zD1 V V V Vv) <| dO V V V (zB1 V V Vv) <| zK0 <| zL ?_
      exact zT (.inr V) zU0 V (.of_eq (by rw [zW0 5]; rw [show bareF 5 _ = true by simpa using h11, w40t, c40t]; simp only [Bool.true_and, isVL, List.headD_cons, List.tail_cons]; first | (congr 1; symm; rw [if_neg (by decide), if_neg (by decide), if_neg (by decide), if_neg (by decide), if_pos True.intro]; exact hm2) | (congr 1; rw [zF]; simp_all [zO]))) (.bool _) Vv
 ·
  refine zU zE5 V zT5 (zA V) ?_
  refine zB <| qR V <| qB V V V V V <| qB V V V V V <| qA V V V <| qN <| zB <| zB <| qR V <| qF V V V zC2 <| qL V V V V ta3 V <| qL V V V V ta30 V ?_
  refine qX V V V V co69 (zP6 6 (by omega) n m s c w _) ?_
  refine qO V <| zY0 V V <| qM V V V ?_
  refine zD0 (fun h11 => ?_) (fun h11 => ?_)
  ·
   refine qT V V V V <| qP V V V V <| qM V V V <| qT V V V V <| qP V V V V <| qN <| zA0 V (V) <| zB <| qR V <| qA V V V <| qN <| zL ?_
   exact zT (.inr V) zU0 V (.of_eq (by rw [zW0 6]; congr 1; symm; first | (rw [show bareF 6 _ = false by simpa using h11]; rfl) | (rw [w40f]; simp; done) | (rw [c40f]; simp; done))) (.bool _) Vv
  ·
   refine qF V V V zZ0 <| qL V V V V ta28 V <| qE V V zE V <| qC V V V V V <| qP V V V V <| qM V V V ?_
   refine zD0 (fun h17 => ?_) (fun h17 => ?_)
   ·
    have w40f := decide_eq_false (by rw [zO] at h17; simp at h17; omega : ¬ w.length ≤ 40)
    refine qT V V V V <| qP V V V V <| qN <| zA0 V (V) <| zB <| qR V <| qA V V V <| qN <| zL ?_
    exact zT (.inr V) zU0 V (.of_eq (by rw [zW0 6]; congr 1; symm; first | (rw [show bareF 6 _ = false by simpa using h11]; rfl) | (rw [w40f]; simp; done) | (rw [c40f]; simp; done))) (.bool _) Vv
   ·
    have w40t := decide_eq_true (by rw [zO] at h17; simp at h17; omega : w.length ≤ 40)
    refine qF V V V zM1 <| qL V V V V ta27 V <| qE V V zN V <| qC V V V V V <| qP V V V V <| qN ?_
    refine zK V (fun h22 => ?_) (fun h22 => ?_)
    ·
     have c40f := decide_eq_false (by rw [zC] at h22; simp at h22; omega : ¬ c.length ≤ 40)
     refine zB <| qR V <| qA V V V <| qN <| zL ?_
     exact zT (.inr V) zU0 V (.of_eq (by rw [zW0 6]; congr 1; symm; first | (rw [show bareF 6 _ = false by simpa using h11]; rfl) | (rw [w40f]; simp; done) | (rw [c40f]; simp; done))) (.bool _) Vv
    ·
     have c40t := decide_eq_true (by rw [zC] at h22; simp at h22; omega : c.length ≤ 40)
     refine zY <| zB <| qR V <| qO V <| zB2 V V V <| qO V <| zL0 V zm75 V V <| qO V <| zG0 V V V V sz75 V V (zA V) V <| qN <| zB <| zB <| qR V <| qF V V V zC2 <| qL V V V V ta3 V <| qN <| zB0 <| zB <| qR V <| qC V V V V V <| qA V V V <| qN <| zQ V (V) <| zB <| qR V <| qC V V V V V ?_
     refine qA V V V <| qN <| zQ V (V) <| zB <| qR V <| qC V V V V V <| qA V V V <| qN <| zQ V (V) <| zB <| qR V <| qC V V V V V <| qA V V V <| qN <| zQ V (V) <| zB <| qR V <| qC V V V V V <| qA V V V <| qN <| zQ V (V) <| zB <| qR V ?_
     refine qC V V V V V <| qA V V V <| qN <| zA0 V (V) <| zB <| qR V <| qL V V V V ta30 V ?_
     refine qX V V V V co74 (isLast_spec n m s c w hv.1.1 hv.2.1.1 _) ?_
     refine qA V V V <| qN <| zL ?_
     exact zT (.inr V) zU0 V (.of_eq (by rw [zW0 6]; rw [show bareF 6 _ = true by simpa using h11, w40t, c40t]; simp only [Bool.true_and, isVL, List.headD_cons, List.tail_cons]; rfl)) (.bool _) Vv
 ·
  refine zU zE5 V zT5 (zA V) ?_
  refine zB <| qR V <| qB V V V V V <| qB V V V V V <| qA V V V <| qN <| zB <| zB <| qR V <| qF V V V zC2 <| qL V V V V ta3 V <| qL V V V V ta30 V ?_
  refine qX V V V V co69 (zP6 7 (by omega) n m s c w _) ?_
  refine qO V <| zY0 V V <| qM V V V ?_
  refine zD0 (fun h11 => ?_) (fun h11 => ?_)
  ·
   refine qT V V V V <| qP V V V V <| qM V V V <| qT V V V V <| qP V V V V <| qN <| zA0 V (V) <| zB <| qR V <| qA V V V <| qN <| zL ?_
   exact zT (.inr V) zU0 V (.of_eq (by rw [zW0 7]; congr 1; symm; first | (rw [show bareF 7 _ = false by simpa using h11]; rfl) | (rw [w40f]; simp; done) | (rw [c40f]; simp; done))) (.bool _) Vv
  ·
   refine qF V V V zZ0 <| qL V V V V ta28 V <| qE V V zE V <| qC V V V V V <| qP V V V V <| qM V V V ?_
   refine zD0 (fun h17 => ?_) (fun h17 => ?_)
   ·
    have w40f := decide_eq_false (by rw [zO] at h17; simp at h17; omega : ¬ w.length ≤ 40)
    refine qT V V V V <| qP V V V V <| qN <| zA0 V (V) <| zB <| qR V <| qA V V V <| qN <| zL ?_
    exact zT (.inr V) zU0 V (.of_eq (by rw [zW0 7]; congr 1; symm; first | (rw [show bareF 7 _ = false by simpa using h11]; rfl) | (rw [w40f]; simp; done) | (rw [c40f]; simp; done))) (.bool _) Vv
   ·
    have w40t := decide_eq_true (by rw [zO] at h17; simp at h17; omega : w.length ≤ 40)
    refine qF V V V zM1 <| qL V V V V ta27 V <| qE V V zN V <| qC V V V V V <| qP V V V V <| qN ?_
    refine zK V (fun h22 => ?_) (fun h22 => ?_)
    ·
     have c40f := decide_eq_false (by rw [zC] at h22; simp at h22; omega : ¬ c.length ≤ 40)
     refine zB <| qR V <| qA V V V <| qN <| zL ?_
     exact zT (.inr V) zU0 V (.of_eq (by rw [zW0 7]; congr 1; symm; first | (rw [show bareF 7 _ = false by simpa using h11]; rfl) | (rw [w40f]; simp; done) | (rw [c40f]; simp; done))) (.bool _) Vv
    ·
     have c40t := decide_eq_true (by rw [zC] at h22; simp at h22; omega : c.length ≤ 40)
     refine zY <| zB <| qR V <| qO V <| zB2 V V V <| qO V <| zL0 V zm75 V V <| qO V <| zG0 V V V V sz75 V V (zA V) V <| qN <| zB <| zB <| qR V <| qF V V V zC2 <| qL V V V V ta3 V <| qN <| zB0 <| zB <| qR V <| qC V V V V V <| qA V V V <| qN <| zQ V (V) <| zB <| qR V <| qC V V V V V ?_
     refine qA V V V <| qN <| zQ V (V) <| zB <| qR V <| qC V V V V V <| qA V V V <| qN <| zQ V (V) <| zB <| qR V <| qC V V V V V <| qA V V V <| qN <| zQ V (V) <| zB <| qR V <| qC V V V V V <| qA V V V <| qN <| zQ V (V) <| zB <| qR V ?_
     refine qC V V V V V <| qA V V V <| qN <| zQ V (V) <| zB <| qR V <| qC V V V V V <| qA V V V <| qN <| zA0 V (V) <| zB <| qR V <| qF V V V zM1 <| qL V V V V ta27 V <| qE V V zN V <| qC V V V V V <| qM V V V ?_
     refine zD0 (fun h97 => ?_) (fun h97 => ?_)
     ·
      refine qT V V V V <| qT V V V V <| qT V V V V <| qT V V V V <| qS V <| qS V <| qS V <| qP V V V V <| qA V V V <| qN <| zL ?_
      exact zT (.inr V) zU0 V (.of_eq (by rw [zW0 7]; rw [show bareF 7 _ = true by simpa using h11, w40t, c40t]; simp only [Bool.true_and, isVL, List.headD_cons, List.tail_cons]; first | (congr 1; symm; rw [if_neg (by decide), if_neg (by decide), if_neg (by decide), if_neg (by decide), if_neg (by decide), if_neg (by decide), if_pos True.intro]; exact hm2) | (congr 1; rw [zF]; simp_all))) (.bool _) Vv
     ·
      have hc0 : ¬ c = [] := by simpa using h97
      refine qF V V V zM1 <| qL V V V V ta27 V <| qE V V zN V <| qC V V V V V <| qM V V V ?_
      refine zD0 (fun h102 => ?_) (fun h102 => ?_)
      ·
       obtain ⟨c0, rfl⟩ := one_of (by rw [zC] at h102; simp at h102; omega : c.length = 1)
       refine qF V V V zM1 <| qL V V V V ta27 V <| qO V <| zG V zN sz55 (by decide) V V V (show _ = some (encC c0) from V) ?_
       refine qO V <| zI V V ta55 V <| qE V V zP V <| qC V V V V V <| qP V V V V <| qM V V V ?_
       refine zD0 (fun h110 => ?_) (fun h110 => ?_)
       ·
        refine qF V V V zM1 <| qL V V V V ta27 V <| qO V <| zG V zN sz55 (by decide) V V V (show _ = some (encC c0) from V) ?_
        refine qO V <| zI V V ta55 V ?_
        refine qX V V V V co75 (clkIs_spec c0 _) ?_
        refine qP V V V V <| qP V V V V <| qA V V V <| qN <| zL ?_
        exact zT (.inr V) zU0 V (.of_eq (by rw [zW0 7]; rw [show bareF 7 _ = true by simpa using h11, w40t, c40t]; simp only [Bool.true_and, isVL, List.headD_cons, List.tail_cons]; first | (congr 1; symm; rw [if_neg (by decide), if_neg (by decide), if_neg (by decide), if_neg (by decide), if_neg (by decide), if_neg (by decide), if_pos True.intro]; exact hm2) | (congr 1; rw [zF]; simp_all))) (.bool _) Vv
       ·
        refine qT V V V V <| qS V <| qP V V V V <| qP V V V V <| qA V V V <| qN <| zL ?_
        exact zT (.inr V) zU0 V (.of_eq (by rw [zW0 7]; rw [show bareF 7 _ = true by simpa using h11, w40t, c40t]; simp only [Bool.true_and, isVL, List.headD_cons, List.tail_cons]; first | (congr 1; symm; rw [if_neg (by decide), if_neg (by decide), if_neg (by decide), if_neg (by decide), if_neg (by decide), if_neg (by decide), if_pos True.intro]; exact hm2) | (congr 1; rw [zF]; simp_all))) (.bool _) Vv
      ·
       have hm2 := match1_no hc0 (by rw [zC] at h102; simp at h102; omega : c.length ≠ 1)
       refine qT V V V V <| qS V <| qS V <| qP V V V V <| qM V V V <| qT V V V V <| qS V <| qP V V V V <| qP V V V V <| qA V V V <| qN <| zL ?_
       exact zT (.inr V) zU0 V (.of_eq (by rw [zW0 7]; rw [show bareF 7 _ = true by simpa using h11, w40t, c40t]; simp only [Bool.true_and, isVL, List.headD_cons, List.tail_cons]; first | (congr 1; symm; rw [if_neg (by decide), if_neg (by decide), if_neg (by decide), if_neg (by decide), if_neg (by decide), if_neg (by decide), if_pos True.intro]; exact hm2) | (congr 1; rw [zF]; simp_all))) (.bool _) Vv
 ·
  obtain ⟨⟨k1, i1⟩, rfl⟩ := zX2 hd.1 (by decide)
  have ih1 := ih (.mk k1 i1) (hd.2 _ (by simp))
  refine zU zE5 V zT5 (zA V) ?_
  refine zB <| qR V <| qB V V V V V <| qB V V V V V <| qA V V V <| qN <| zB <| zB <| qR V <| qF V V V zC2 <| qL V V V V ta3 V <| qL V V V V ta30 V ?_
  refine qX V V V V co69 (zP6 8 (by omega) n m s c w _) ?_
  refine qO V <| zY0 V V <| qM V V V ?_
  refine zD0 (fun h11 => ?_) (fun h11 => ?_)
  ·
   refine qT V V V V <| qP V V V V <| qM V V V <| qT V V V V <| qP V V V V <| qN <| zA0 V (V) <| zB <| qR V <| qA V V V <| qN <| zL ?_
   exact zT (.inr V) zU0 V (.of_eq (by rw [zW0 8]; congr 1; symm; first | (rw [show bareF 8 _ = false by simpa using h11]; rfl) | (rw [w40f]; simp; done) | (rw [c40f]; simp; done))) (.bool _) Vv
  ·
   refine qF V V V zZ0 <| qL V V V V ta28 V <| qE V V zE V <| qC V V V V V <| qP V V V V <| qM V V V ?_
   refine zD0 (fun h17 => ?_) (fun h17 => ?_)
   ·
    have w40f := decide_eq_false (by rw [zO] at h17; simp at h17; omega : ¬ w.length ≤ 40)
    refine qT V V V V <| qP V V V V <| qN <| zA0 V (V) <| zB <| qR V <| qA V V V <| qN <| zL ?_
    exact zT (.inr V) zU0 V (.of_eq (by rw [zW0 8]; congr 1; symm; first | (rw [show bareF 8 _ = false by simpa using h11]; rfl) | (rw [w40f]; simp; done) | (rw [c40f]; simp; done))) (.bool _) Vv
   ·
    have w40t := decide_eq_true (by rw [zO] at h17; simp at h17; omega : w.length ≤ 40)
    refine qF V V V zM1 <| qL V V V V ta27 V <| qE V V zN V <| qC V V V V V <| qP V V V V <| qN ?_
    refine zK V (fun h22 => ?_) (fun h22 => ?_)
    ·
     have c40f := decide_eq_false (by rw [zC] at h22; simp at h22; omega : ¬ c.length ≤ 40)
     refine zB <| qR V <| qA V V V <| qN <| zL ?_
     exact zT (.inr V) zU0 V (.of_eq (by rw [zW0 8]; congr 1; symm; first | (rw [show bareF 8 _ = false by simpa using h11]; rfl) | (rw [w40f]; simp; done) | (rw [c40f]; simp; done))) (.bool _) Vv
    ·
     have c40t := decide_eq_true (by rw [zC] at h22; simp at h22; omega : c.length ≤ 40)
     refine zY <| zB <| qR V <| qO V <| zB2 V V V <| qO V <| zL0 V zm75 V V <| qO V <| zG0 V V V V sz75 V V (zA V) V <| qN <| zB <| zB <| qR V <| qF V V V zC2 <| qL V V V V ta3 V <| qN <| zB0 <| zB <| qR V <| qC V V V V V <| qA V V V <| qN <| zQ V (V) <| zB <| qR V <| qC V V V V V ?_
     refine qA V V V <| qN <| zQ V (V) <| zB <| qR V <| qC V V V V V <| qA V V V <| qN <| zQ V (V) <| zB <| qR V <| qC V V V V V <| qA V V V <| qN <| zQ V (V) <| zB <| qR V <| qC V V V V V <| qA V V V <| qN <| zQ V (V) <| zB <| qR V ?_
     refine qC V V V V V <| qA V V V <| qN <| zQ V (V) <| zB <| qR V <| qC V V V V V <| qA V V V <| qN <| zQ V (V) <| zY <| zB <| qR V <| qF V V V zM1 <| qL V V V V ta27 V <| qE V V zN V <| qF V V V zZ0 <| qL V V V V ta28 V <| qE V V zE V <| qC V V V V V ?_
     refine qM V V V ?_
     refine zD0 (fun h125 => ?_) (fun h125 => ?_)
     ·
      have hsl : c.length = w.length := by rw [zC, zO] at h125; simp at h125; omega
      refine qF V V V zM1 <| qL V V V V ta27 V ?_
      refine qX V V V V co76 (isCause_spec c _) ?_
      refine qP V V V V <| qM V V V ?_
      refine zD0 (fun h130 => ?_) (fun h130 => ?_)
      ·
       refine qF V V V zZ0 <| qL V V V V ta28 V <| qO V <| zB2 V V V ?_
       refine qX V V V V co72 (vContains_spec _ w (fun x => !isVF (.mk k1 i1) x) _ [] [.ref (S.length + 2) 0] co77 (fun x hx X => is3v_spec 8 k1 i1 [] (isVF (.mk k1 i1)) ih1 x (hvs x hx) _ _ _ (get_mid_ (k := 2) V) (get_mid_ (k := 0) V))) ?_
       refine qO V <| zY0 V V <| qP V V V V <| qA V V V <| qN <| zL ?_
       exact zT (.inr V) zU0 V (.of_eq (by rw [zW0 8]; rw [show bareF 8 _ = true by simpa using h11, w40t, c40t]; simp only [Bool.true_and, isVL, List.headD_cons, List.tail_cons]; congr 1; rw [zF]; simp_all [zO, any_all'])) (.bool _) Vv
      ·
       refine qT V V V V <| qS V <| qP V V V V <| qA V V V <| qN <| zL ?_
       exact zT (.inr V) zU0 V (.of_eq (by rw [zW0 8]; rw [show bareF 8 _ = true by simpa using h11, w40t, c40t]; simp only [Bool.true_and, isVL, List.headD_cons, List.tail_cons]; congr 1; rw [zF]; simp_all [zO, any_all'])) (.bool _) Vv
     ·
      have hsl : ¬ c.length = w.length := by rw [zC, zO] at h125; simp at h125; omega
      refine qS V <| qS V <| qS V <| qP V V V V <| qM V V V <| qT V V V V <| qS V <| qP V V V V <| qA V V V <| qN <| zL ?_
      exact zT (.inr V) zU0 V (.of_eq (by rw [zW0 8]; rw [show bareF 8 _ = true by simpa using h11, w40t, c40t]; simp only [Bool.true_and, isVL, List.headD_cons, List.tail_cons]; congr 1; rw [zF]; simp_all [zO, any_all'])) (.bool _) Vv
end Go.Proofs.YtnfcnpdpfgcchaaGreat
namespace Go.MV
open Go Go.RowKit
section
def IterOk2 (P : Program) (k : FuncId) (first caps : List MV) (ys : List (List MV)) (okT : MS → Prop) (okU : Nat → MS → MS → Prop) : Prop :=
 ∀ (id : Nat) (T U : Nat → MS) (m : Nat), (∀ j, okT (T j)) → (∀ j, j ≤ m → okU j (T j) (U j)) → (∀ j y, j < m → ys[j]? = some y → YStep P id y (U j) true (T (j + 1))) →
  (m = ys.length → MCalls P k (first ++ [.yld id] ++ caps) (T 0) fun _ σ' => σ' = T m) ∧
  (∀ y, ys[m]? = some y → YStep P id y (U m) false (T (m + 1)) → MCalls P k (first ++ [.yld id] ++ caps) (T 0) fun _ σ' => σ' = T (m + 1))
section
variable {P : Program} {rd : Option Nat} {N n : Nat} {Q : Exit → Env → MS → Prop} {env : Env} {S : MS}
theorem mwp_rangeC {f : Operand} {ps : Array Tmp} {assign body : Code} {k : FuncId} {first caps : List MV} {ys : List (List MV)} {okT : MS → Prop} {okU : Nat → MS → MS → Prop} {L0 : MS} (ex : Exit) (hex : ex = .ret ∨ ∃ x, ex = .exit x) (p : Nat → Bool) (L LU Ls : Nat → MS) (hlen : ∀ j, (L j).length = (L 0).length) (hlenu : ∀ j, (LU j).length = (L 0).length) (hlens : ∀ j, (Ls j).length = (L 0).length) (hL0 : L0 = L 0)
  (hcl : ∀ j o, o ∈ L j → ∀ n, (S ++ L 0).length ≤ n → o.cl n) (hclu : ∀ j o, o ∈ LU j → ∀ n, (S ++ L 0).length ≤ n → o.cl n) (hcls : ∀ j o, o ∈ Ls j → ∀ n, (S ++ L 0).length ≤ n → o.cl n)
  (hf : evo env f = some (.fn (.func k) first caps)) (hb : CallOk P k) (hrd : rd = none) (hN : N ≤ (S ++ L 0).length)
  (hit : IterOk2 P k first caps ys (fun σ => okT σ ∧ ClS σ) okU) (hok : ∀ j, okT ((S ++ L j) ++ [.loop .ready none ⟨ps, assign, body, env, n⟩])) (hoku : ∀ j, j ≤ ys.length → okU j ((S ++ L j) ++ [.loop .ready none ⟨ps, assign, body, env, n⟩]) ((S ++ LU j) ++ [.loop .ready none ⟨ps, assign, body, env, n⟩])) (hoks : ∀ j s q, okT ((S ++ Ls j) ++ [.loop s q ⟨ps, assign, body, env, n⟩])) (hpb : ps.toList.all (fun t => Nat.blt t n) = true) (hps : ∀ y ∈ ys, ps.size = y.length)
  (hround : ∀ j y, ys[j]? = some y → (∀ i, i < j → p i = true) → ∀ L' : MS, mwp P (some (S ++ L 0).length) ((S ++ LU j).length + 1 + L'.length) n assign (fun e env1 σ1 => e = .normal ∧ ∃ J, σ1 = ((S ++ LU j) ++ .loop .ready none ⟨ps, assign, body, env, n⟩ :: L') ++ J ∧
   mwp P (some (S ++ L 0).length) ((S ++ LU j).length + 1 + L'.length) n body (fun e2 env2 σ2 =>
    (p j = true ∧ e2 = .normal ∧ ∃ junk, σ2 = ((S ++ L (j + 1)) ++ .loop .busy none ⟨ps, assign, body, env, n⟩ :: L') ++ junk) ∨
    (p j = false ∧ e2 = ex ∧ ∃ junk, σ2 = ((S ++ Ls j) ++ .loop .busy none ⟨ps, assign, body, env, n⟩ :: L') ++ junk)) env1 (((S ++ LU j) ++ .loop .busy none ⟨ps, assign, body, env, n⟩ :: L') ++ J)) (bindPs ps.toList y env) ((S ++ LU j) ++ .loop .ready none ⟨ps, assign, body, env, n⟩ :: L'))
  (hend : (∀ j, j < ys.length → p j = true) → Q .normal env ((S ++ L ys.length) ++ [.gone]))
  (hstop : ∀ j y, ys[j]? = some y → p j = false → Q ex env ((S ++ Ls j) ++ [.gone])) : mwp P rd N n (.rangeFunc f ps assign body) Q env (S ++ L0) := by
 subst hL0 hrd
 have hid : ∀ j, (S ++ L j).length = (S ++ L 0).length := fun j => by simp [hlen j]
 have hidu : ∀ j, (S ++ LU j).length = (S ++ L 0).length := fun j => by simp [hlenu j]
 have hids : ∀ j, (S ++ Ls j).length = (S ++ L 0).length := fun j => by simp [hlens j]
 refine zV1 fun hce hcs => ?_
 have hc0 : ∀ s q, ClS ((S ++ L 0) ++ [.loop s q ⟨ps, assign, body, env, n⟩]) := fun s q => cls_loop hcs hce
 refine mwp_range hf hb (fun id h => by cases h) hN ?_
 have hstep : ∀ j y, ys[j]? = some y → (∀ i, i < j → p i = true) → ∀ (K : MV → MS → Prop) (L' : MS) (rd' : Option Nat) (o : Oper) (env' : Env) (f' : Operand) (args : Array Operand) (ts : Array TypeId), o.op = .call { callee := .value f', args := args, argTypes := ts } → evo env' f' = some (.yld (S ++ L 0).length) → evos env' args.toList = some y →
   (p j = true → K (.bool true) ((S ++ L (j + 1)) ++ .loop .ready none ⟨ps, assign, body, env, n⟩ :: L')) →
   (p j = false → K (.bool false) ((S ++ Ls j) ++ .loop .done (some (exCode ex)) ⟨ps, assign, body, env, n⟩ :: L')) →
   OpWp P rd' o env' ((S ++ LU j) ++ .loop .ready none ⟨ps, assign, body, env, n⟩ :: L') K := by
  intro j y hy hbef K L' rd' o env' f' args ts ho hf' hargs hk1 hk2
  have hsz : args.size = y.length := by
   have := evos_len _ _ hargs
   simpa using this
  have hget : ((S ++ LU j) ++ MObj.loop .ready none ⟨ps, assign, body, env, n⟩ :: L')[(S ++ L 0).length]? = some (.loop .ready none ⟨ps, assign, body, env, n⟩) := by
   rw [← hidu j]; exact zS4
  have hN' : ((S ++ LU j) ++ MObj.loop .ready none ⟨ps, assign, body, env, n⟩ :: L').length = (S ++ LU j).length + 1 + L'.length := by
   rw [zM, zW]; omega
  refine op_yield ho hf' hargs hget (by rw [hsz]; exact hps y (zC0 hy)) hpb ?_
  rw [hN']
  refine zV1 fun _ hcl0 => ?_
  refine mwp_mono (hround j y hy hbef L') ?_
  rintro e env1 σ1 ⟨rfl, J, rfl, h⟩
  refine ⟨rfl, none, zT0 hget, ?_⟩
  have hset : (((S ++ LU j) ++ MObj.loop .ready none ⟨ps, assign, body, env, n⟩ :: L') ++ J).set (S ++ L 0).length (.loop .busy none ⟨ps, assign, body, env, n⟩) = ((S ++ LU j) ++ .loop .busy none ⟨ps, assign, body, env, n⟩ :: L') ++ J := by
   rw [set_app hget, ← hidu j]; exact congrArg (· ++ J) zD6
  rw [hset]
  refine mwp_mono h ?_
  rintro e2 env2 σ2 (⟨hp, rfl, junk, rfl⟩ | ⟨hp, rfl, junk, rfl⟩)
  ·refine ⟨_, junk, none, ⟨ps, assign, body, env, n⟩, rfl, ?_, .inr (zG6 (hlenu j) (hlen (j + 1)) (hcl (j + 1)) (by simp) hcl0), ?_, ?_⟩
   ·have h1 := hid (j + 1)
    have h2 := hidu j
    simp only [zM, zW] at *
    omega
   ·rw [← hid (j + 1)]; exact zS4
   ·show K (.bool true) _
    rw [← hid (j + 1), zD6]
    exact hk1 hp
  ·refine ⟨_, junk, none, ⟨ps, assign, body, env, n⟩, rfl, ?_, .inr (zG6 (hlenu j) (hlens j) (hcls j) (by simp) hcl0), ?_, ?_⟩
   ·have h1 := hids j
    have h2 := hidu j
    simp only [zM, zW] at *
    omega
   ·rw [← hids j]; exact zS4
   ·rcases hex with rfl | ⟨x, rfl⟩
    ·show K (.bool false) _
     rw [← hids j, zD6]
     exact hk2 hp
    ·show K (.bool false) _
     rw [← hids j, zD6]
     exact hk2 hp
 have hgo : ∀ m, (∀ j, j < m → p j = true) → ∀ (T : Nat → MS), (∀ j, j ≤ m → T j = (S ++ L j) ++ [.loop .ready none ⟨ps, assign, body, env, n⟩]) → ∀ j y, j < m → ys[j]? = some y → YStep P (S ++ L 0).length y ((S ++ LU j) ++ [.loop .ready none ⟨ps, assign, body, env, n⟩]) true (T (j + 1)) := by
  intro m hm T hT j y hj hy L' rd' o env' f' args ts ho hf' hargs
  have e1 : ∀ (A : MS) (X : MObj), ((S ++ A) ++ [X]) ++ L' = (S ++ A) ++ X :: L' := fun i X => by simp
  rw [hT (j + 1) (by omega), e1, e1]
  exact hstep j y hy (fun i hi => hm i (by omega)) _ L' rd' o env' f' args ts ho hf' hargs (fun _ => ⟨rfl, rfl⟩) (fun h => by rw [hm j hj] at h; cases h)
 rcases first_bad p ys.length with hall | ⟨m, hm, hp, hbef⟩
 ·refine ((hit (S ++ L 0).length (fun j => (S ++ L j) ++ [.loop .ready none ⟨ps, assign, body, env, n⟩]) (fun j => (S ++ LU j) ++ [.loop .ready none ⟨ps, assign, body, env, n⟩]) ys.length (fun j => ⟨hok j, zG6 (hlen 0) (hlen j) (hcl j) V (hc0 .ready none)⟩) (fun j hj => hoku j hj) (hgo ys.length hall _ (fun j _ => V))).1 V).mono ?_
  rintro v σ' rfl
  refine ⟨.ready, none, by rw [← hid ys.length]; exact zS4, by simp, ?_⟩
  show Q .normal env _
  rw [← hid ys.length, zD6]
  exact hend hall
 ·obtain ⟨y, hy⟩ : ∃ y, ys[m]? = some y := ⟨_, zD hm⟩
  let q : Code := exCode ex
  let T : Nat → MS := fun j => if j ≤ m then (S ++ L j) ++ [.loop .ready none ⟨ps, assign, body, env, n⟩] else (S ++ Ls m) ++ [.loop .done (some q) ⟨ps, assign, body, env, n⟩]
  have hT : ∀ j, j ≤ m → T j = (S ++ L j) ++ [.loop .ready none ⟨ps, assign, body, env, n⟩] := fun j hj => by simp [T, hj]
  have hT1 : T (m + 1) = (S ++ Ls m) ++ [.loop .done (some q) ⟨ps, assign, body, env, n⟩] := by simp [T]
  have h0 : T 0 = (S ++ L 0) ++ [.loop .ready none ⟨ps, assign, body, env, n⟩] := hT 0 (by omega)
  have hokT : ∀ j, okT (T j) ∧ ClS (T j) := fun j => by
   by_cases hj : j ≤ m
   ·rw [hT j hj]; exact ⟨hok j, zG6 (hlen 0) (hlen j) (hcl j) rfl (hc0 .ready none)⟩
   ·simp only [T, if_neg hj]; exact ⟨hoks m _ _, zG6 (hlen 0) (hlens m) (hcls m) rfl (hc0 .ready none)⟩
  have := (hit (S ++ L 0).length T (fun j => (S ++ LU j) ++ [.loop .ready none ⟨ps, assign, body, env, n⟩]) m hokT (fun j hj => by rw [hT j hj]; exact hoku j (by omega)) (hgo m hbef T hT)).2 y hy (by
   intro L' rd' o env' f' args ts ho hf' hargs
   have e1 : ∀ (A : MS) (X : MObj), ((S ++ A) ++ [X]) ++ L' = (S ++ A) ++ X :: L' := fun i X => by simp
   rw [hT1, e1, e1]
   exact hstep m y hy hbef _ L' rd' o env' f' args ts ho hf' hargs (fun h => by rw [hp] at h; cases h) (fun _ => ⟨rfl, rfl⟩))
  rw [h0] at this
  refine this.mono ?_
  rintro v σ' rfl
  rw [hT1]
  refine ⟨.done, some q, by rw [← hids m]; exact zS4, by simp, ?_⟩
  rw [← hids m, zD6]
  rcases hex with rfl | ⟨x, rfl⟩
  ·exact hstop m y hy hp
  ·exact hstop m y hy hp
end
end
end Go.MV
namespace Go.Proofs.YtnfcnpdpfgcchaaGreat
open Go Go.MV
def bothX : List Bs → List Bs → List Bs
 | [], [] => []
 | x :: a, [] => x :: bothX a []
 | [], y :: b => y :: bothX [] b
 | x :: a, y :: b => if Op.bytesLess x y then x :: bothX a (y :: b) else if Op.bytesLess y x then y :: bothX (x :: a) b else x :: bothX a b
 termination_by a b => a.length + b.length
theorem len_snoc {α : Type} {l : List α} {x : α} : (l ++ [x]).length = l.length + 1 := by simp
theorem getDJ_of {α : Type} {l : List α} {i : Nat} {a d : α} (h : l[i]? = some a) : l.getD i d = a := by simp [h]
theorem _root_.zM2 : type_of% @getDJ_of := @getDJ_of
theorem drop_getD {l : List Bs} {i : Nat} (h : i < l.length) : l.drop i = l.getD i [] :: l.drop (i + 1) := by
 rw [List.drop_eq_getElem_cons h]; simp [h]
theorem both_end : bothX [] [] = [] := by rw [bothX]
theorem both_A {a b : List Bs} {i k : Nat} (hi : i < a.length) (hk : k ≤ b.length) (h : k = b.length ∨ Op.bytesLess (a.getD i []) (b.getD k []) = true) : bothX (a.drop i) (b.drop k) = a.getD i [] :: bothX (a.drop (i + 1)) (b.drop k) := by
 rw [drop_getD hi]
 by_cases e : k = b.length
 ·rw [e, List.drop_length, bothX]
 ·have hkb : k < b.length := by omega
  rw [drop_getD hkb, bothX, if_pos (h.resolve_left e)]
theorem both_B {a b : List Bs} {i k : Nat} (hk : k < b.length) (hi : i ≤ a.length) (h : i = a.length ∨ (Op.bytesLess (a.getD i []) (b.getD k []) = false ∧ Op.bytesLess (b.getD k []) (a.getD i []) = true)) : bothX (a.drop i) (b.drop k) = b.getD k [] :: bothX (a.drop i) (b.drop (k + 1)) := by
 rw [drop_getD hk]
 by_cases e : i = a.length
 ·rw [e, List.drop_length, bothX]
 ·have hia : i < a.length := by omega
  obtain ⟨h1, h2⟩ := h.resolve_left e
  rw [drop_getD hia, bothX, if_neg (fun hh => by rw [h1] at hh; cases hh), if_pos h2]
theorem both_C {a b : List Bs} {i k : Nat} (hi : i < a.length) (hk : k < b.length) (h1 : Op.bytesLess (a.getD i []) (b.getD k []) = false) (h2 : Op.bytesLess (b.getD k []) (a.getD i []) = false) : bothX (a.drop i) (b.drop k) = a.getD i [] :: bothX (a.drop (i + 1)) (b.drop (k + 1)) := by
 rw [drop_getD hi, drop_getD hk, bothX, if_neg (fun hh => by rw [h1] at hh; cases hh), if_neg (fun hh => by rw [h2] at hh; cases hh)]
theorem both_len : ∀ a b : List Bs, (bothX a b).length ≤ a.length + b.length := by
 intro a b
 induction a, b using bothX.induct with
 | case1 => simp [bothX]
 | case2 x a ih => rw [bothX]; simp at ih ⊢; omega
 | case3 y b ih => rw [bothX]; simp at ih ⊢; omega
 | case4 x a y b h ih => rw [bothX, if_pos h]; simp at ih ⊢; omega
 | case5 x a y b h h2 ih => rw [bothX, if_neg h, if_pos h2]; simp at ih ⊢; omega
 | case6 x a y b h h2 ih => rw [bothX, if_neg h, if_neg h2]; simp at ih ⊢; omega
theorem _root_.zA2 : type_of% @Tryz.results139 := @Tryz.results139
theorem with_iter (a b : List Bs) (hab : a.length + b.length ≤ 1000000) (ida idb l0 : Nat) : IterOk Tryz.prog 139 [] [.ref ida 0, .ref idb 0] ((bothX a b).map fun x => [encX x]) (fun σ => σ.length = l0 ∧ σ[ida]? = some (.cells [.lst none 1 (a.map encX)]) ∧ σ[idb]? = some (.cells [.lst none 1 (b.map encX)])) := by
 refine iterOk_of fun id T m hok hm hyt hyf => ?_
 have hml : ((bothX a b).map fun x => [encX x]).length = (bothX a b).length := zC ..
 refine zU Tryz.func139 V Tryz.ntmps139 (zA V) ?_
 rw [List.append_nil]
 show mwp _ _ _ _ _ _ _ (([] : MS) ++ T 0)
 refine zB <| qR V <| qA V V V <| qA V V V <| qN <| zB0 ?_
 refine zQ1 (α := Nat × Nat × Nat) [(0, _), (1, _), (2, _)] (fun x => [(4, .int .i64 (x.2.1 : Int)), (5, .int .i64 (x.2.2 : Int))]) (fun x => T x.1) (fun x => x.1 ≤ m ∧ x.2.1 ≤ a.length ∧ x.2.2 ≤ b.length ∧ bothX (a.drop x.2.1) (b.drop x.2.2) = (bothX a b).drop x.1) (fun x => a.length - x.2.1 + (b.length - x.2.2)) (⟨0, 0, 0⟩) (.keep V (.keep V (.keep V (.nil)))) (.keep V (.keep V (.nil))) (⟨by simp, by simp, by simp, rfl⟩) (V) ?_
 rintro ⟨j, i, k⟩ ⟨hj, hi, hk, he⟩
 dsimp only at hj hi hk he ⊢
 refine zB <| zB <| qR V <| qM V V V <| qO V <| zR V V ((hok _).2.1) ta125 V <| qE V V zH0 V <| qC V V V V V <| qM V V V ?_
 refine zD0 (fun h11 => ?_) (fun h11 => ?_)
 ·
  have hia : i < a.length := by rw [zC] at h11; simpa using h11
  refine qT V V V V <| qP V V V V <| qN <| zA0 V (V) <| zY <| zB0 <| zB <| qR V <| qA V V V <| qN <| zB <| zB0 <| zB ?_
  refine zV0 [] [_] mo (by decide) V V V V ?_
  refine dO V V V (zS V V Vv) <| dO V V V (zR V V ((hok _).2.2) ta125 V Vv) <| dO V V V (zP2 V zH0 V Vv) <| dO V V V (zQ2 V V V V Vv) <| dO V V V (zS V V Vv) ?_
  refine zF2 (fun h30 => ?_) (fun h30 => ?_)
  ·
   have hk2 : k = b.length := by rw [zC] at h30; simp at h30; omega
   refine dS V V <| dS V V <| dS V V <| dS V V <| dS V V <| dS V V <| dS V V <| dS V V <| dS V V <| dS V V <| dS V V <| dS V V <| dS V V <| dS V V <| dS V V <| dO V V V (zD1 V V V Vv) <| dO V V V (zB1 V V Vv) <| zK0 <| zA0 V (V) <| zB ?_
   obtain ⟨x, hs⟩ : ∃ q, a[i]? = some q := ⟨_, zD (by omega)⟩
   have hgx := zM2 (d := []) hs
   refine qR V <| qO V <| zR V V ((hok _).2.1) ta125 V <| qM V V V <| qO V <| zG V zH0 sz9 (by decide) V V V (zR0 hs) ?_
   refine qO V <| zI V V ta9 V <| qA V V V <| qN <| qR V <| qM V V V <| qO V <| zO0 V V V (wadd (a := i) (b := 1) V (by omega)) ?_
   refine qA V V V ?_
   have hnx := he
   rw [both_A (by omega) (by omega) (by first | exact .inl hk2 | exact .inr hlt), hgx] at hnx
   obtain ⟨hy, hnx⟩ := zE2 hnx
   replace hy : ((bothX a b).map fun x => [encX x])[j]? = some [encX x] := by rw [zN0, hy]; rfl
   have hjl := (zH.1 hy).1
   refine qN <| zB ?_
   rcases Nat.lt_or_eq_of_le hj with hjm | hjm
   ·
    refine qR V <| qM V V V <| qM V V V <| qO V <| ((hyt j _ hjm hy).at0 V V V).mono ?_
    rintro _ _ ⟨rfl, rfl⟩
    refine qO V <| zY0 V V <| qN <| zQ V (V) <| zY ?_
    refine ⟨⟨j + 1, _, _⟩, by dsimp only; omega, ⟨by dsimp only; omega, by dsimp only; omega, by dsimp only; omega, hnx⟩, rfl, (.keep V (.keep V (.keep V (.nil)))), (.eq V (V) (.eq V (V) (.nil)))⟩
   ·
    refine qR V <| qM V V V <| qM V V V <| qO V <| ((hyf j _ hjm hy).at0 V V V).mono ?_
    rintro _ _ ⟨rfl, rfl⟩
    refine qO V <| zY0 V V <| qN <| zA0 V (V) ?_
    refine zV1 fun hcv hcl => ?_
    refine zL ?_
    exact zS2 (S' := T (j + 1)) (by simp) zA2 (by rw [(hok _).1, (hok _).1]; exact Nat.le_refl _) hcl ⟨rfl, by rw [hjm, if_pos (by omega)]⟩
  ·
   have hk2 : ¬ k = b.length := by rw [zC] at h30; simp at h30; omega
   refine dO V V V (zS V V Vv) <| dO V V V (zR V V ((hok _).2.1) ta125 V Vv) <| dO V V V (zP2 V zH0 V Vv) <| dO V V V (zQ2 V V V V Vv) <| dO V V V (zS V V Vv) ?_
   refine zF2 (fun h35 => ?_) (fun h35 => ?_)
   ·
    have hia2 : i < a.length := by rw [zC] at h35; simpa using h35
    obtain ⟨x, hs⟩ : ∃ q, a[i]? = some q := ⟨_, zD (by omega)⟩
    have hgx := zM2 (d := []) hs
    obtain ⟨y, hs2⟩ : ∃ q, b[k]? = some q := ⟨_, zD (by omega)⟩
    have hgy := zM2 (d := []) hs2
    refine dO V V V (zR V V ((hok _).2.1) ta125 V Vv) <| dO V V V (zS V V Vv) <| dO V V V (zG V zH0 sz9 (by decide) V V V (zR0 hs) Vv) ?_
    refine dO V V V (zI V V ta9 V Vv) <| dO V V V (zR V V ((hok _).2.2) ta125 V Vv) <| dO V V V (zS V V Vv) <| dO V V V (zG V zH0 sz9 (by decide) V V V (zR0 hs2) Vv) ?_
    refine dO V V V (zI V V ta9 V Vv) <| dO V V V (zM3 V V V V Vv) <| dO V V V (zD1 V V V Vv) <| dO V V V (zD1 V V V Vv) <| dO V V V (zB1 V V Vv) <| zK0 ?_
    refine zK V (fun h25 => ?_) (fun h25 => ?_)
    ·
     have hlt : Op.bytesLess (a.getD i []) (b.getD k []) = true := by rw [hgx, hgy]; simpa using h25
     refine zB ?_
     obtain ⟨x, hs⟩ : ∃ q, a[i]? = some q := ⟨_, zD (by omega)⟩
     have hgx := zM2 (d := []) hs
     refine qR V <| qO V <| zR V V ((hok _).2.1) ta125 V <| qM V V V <| qO V <| zG V zH0 sz9 (by decide) V V V (zR0 hs) ?_
     refine qO V <| zI V V ta9 V <| qA V V V <| qN <| qR V <| qM V V V <| qO V <| zO0 V V V (wadd (a := i) (b := 1) V (by omega)) ?_
     refine qA V V V ?_
     have hnx := he
     rw [both_A (by omega) (by omega) (by first | exact .inl hk2 | exact .inr hlt), hgx] at hnx
     obtain ⟨hy, hnx⟩ := zE2 hnx
     replace hy : ((bothX a b).map fun x => [encX x])[j]? = some [encX x] := by rw [zN0, hy]; rfl
     have hjl := (zH.1 hy).1
     refine qN <| zB ?_
     rcases Nat.lt_or_eq_of_le hj with hjm | hjm
     ·
      refine qR V <| qM V V V <| qM V V V <| qO V <| ((hyt j _ hjm hy).at0 V V V).mono ?_
      rintro _ _ ⟨rfl, rfl⟩
      refine qO V <| zY0 V V <| qN <| zQ V (V) <| zY ?_
      refine ⟨⟨j + 1, _, _⟩, by dsimp only; omega, ⟨by dsimp only; omega, by dsimp only; omega, by dsimp only; omega, hnx⟩, rfl, (.keep V (.keep V (.keep V (.nil)))), (.eq V (V) (.eq V (V) (.nil)))⟩
     ·
      refine qR V <| qM V V V <| qM V V V <| qO V <| ((hyf j _ hjm hy).at0 V V V).mono ?_
      rintro _ _ ⟨rfl, rfl⟩
      refine qO V <| zY0 V V <| qN <| zA0 V (V) ?_
      refine zV1 fun hcv hcl => ?_
      refine zL ?_
      exact zS2 (S' := T (j + 1)) (by simp) zA2 (by rw [(hok _).1, (hok _).1]; exact Nat.le_refl _) hcl ⟨rfl, by rw [hjm, if_pos (by omega)]⟩
    ·
     have hlt : Op.bytesLess (a.getD i []) (b.getD k []) = false := by rw [hgx, hgy]; simpa using h25
     refine zB ?_
     refine zV0 [] [_] mo (by decide) V V V V ?_
     refine dO V V V (zS V V Vv) <| dO V V V (zR V V ((hok _).2.1) ta125 V Vv) <| dO V V V (zP2 V zH0 V Vv) <| dO V V V (zQ2 V V V V Vv) <| dO V V V (zS V V Vv) ?_
     refine zF2 (fun h58 => ?_) (fun h58 => ?_)
     ·
      have hia3 : i = a.length := by rw [zC] at h58; simp at h58; omega
      refine dS V V <| dS V V <| dS V V <| dS V V <| dS V V <| dS V V <| dS V V <| dS V V <| dS V V <| dO V V V (zD1 V V V Vv) <| dO V V V (zB1 V V Vv) <| zK0 <| zA0 V (V) <| zB ?_
      obtain ⟨y, hs2⟩ : ∃ q, b[k]? = some q := ⟨_, zD (by omega)⟩
      have hgy := zM2 (d := []) hs2
      refine qR V <| qO V <| zR V V ((hok _).2.2) ta125 V <| qM V V V <| qO V <| zG V zH0 sz9 (by decide) V V V (zR0 hs2) ?_
      refine qO V <| zI V V ta9 V <| qA V V V <| qN <| qR V <| qM V V V <| qO V <| zO0 V V V (wadd (a := k) (b := 1) V (by omega)) ?_
      refine qA V V V ?_
      have hnx := he
      rw [both_B (by omega) (by omega) (by first | exact .inl hia3 | exact .inr ⟨hlt, hgt⟩ | exact .inl (by omega)), hgy] at hnx
      obtain ⟨hy, hnx⟩ := zE2 hnx
      replace hy : ((bothX a b).map fun x => [encX x])[j]? = some [encX y] := by rw [zN0, hy]; rfl
      have hjl := (zH.1 hy).1
      refine qN <| zB ?_
      rcases Nat.lt_or_eq_of_le hj with hjm | hjm
      ·
       refine qR V <| qM V V V <| qM V V V <| qO V <| ((hyt j _ hjm hy).at0 V V V).mono ?_
       rintro _ _ ⟨rfl, rfl⟩
       refine qO V <| zY0 V V <| qN <| zQ V (V) <| zY ?_
       refine ⟨⟨j + 1, _, _⟩, by dsimp only; omega, ⟨by dsimp only; omega, by dsimp only; omega, by dsimp only; omega, hnx⟩, rfl, (.keep V (.keep V (.keep V (.nil)))), (.eq V (V) (.eq V (V) (.nil)))⟩
      ·
       refine qR V <| qM V V V <| qM V V V <| qO V <| ((hyf j _ hjm hy).at0 V V V).mono ?_
       rintro _ _ ⟨rfl, rfl⟩
       refine qO V <| zY0 V V <| qN <| zA0 V (V) ?_
       refine zV1 fun hcv hcl => ?_
       refine zL ?_
       exact zS2 (S' := T (j + 1)) (by simp) zA2 (by rw [(hok _).1, (hok _).1]; exact Nat.le_refl _) hcl ⟨rfl, by rw [hjm, if_pos (by omega)]⟩
     ·
      have hia3 : ¬ i = a.length := by rw [zC] at h58; simp at h58; omega
      obtain ⟨x, hs⟩ : ∃ q, a[i]? = some q := ⟨_, zD (by omega)⟩
      have hgx := zM2 (d := []) hs
      obtain ⟨y, hs2⟩ : ∃ q, b[k]? = some q := ⟨_, zD (by omega)⟩
      have hgy := zM2 (d := []) hs2
      refine dO V V V (zR V V ((hok _).2.2) ta125 V Vv) <| dO V V V (zS V V Vv) <| dO V V V (zG V zH0 sz9 (by decide) V V V (zR0 hs2) Vv) ?_
      refine dO V V V (zI V V ta9 V Vv) <| dO V V V (zR V V ((hok _).2.1) ta125 V Vv) <| dO V V V (zS V V Vv) <| dO V V V (zG V zH0 sz9 (by decide) V V V (zR0 hs) Vv) ?_
      refine dO V V V (zI V V ta9 V Vv) <| dO V V V (zM3 V V V V Vv) <| dO V V V (zD1 V V V Vv) <| dO V V V (zB1 V V Vv) <| zK0 ?_
      refine zK V (fun h53 => ?_) (fun h53 => ?_)
      ·
       have hgt : Op.bytesLess (b.getD k []) (a.getD i []) = true := by rw [hgx, hgy]; simpa using h53
       refine zB ?_
       obtain ⟨y, hs2⟩ : ∃ q, b[k]? = some q := ⟨_, zD (by omega)⟩
       have hgy := zM2 (d := []) hs2
       refine qR V <| qO V <| zR V V ((hok _).2.2) ta125 V <| qM V V V <| qO V <| zG V zH0 sz9 (by decide) V V V (zR0 hs2) ?_
       refine qO V <| zI V V ta9 V <| qA V V V <| qN <| qR V <| qM V V V <| qO V <| zO0 V V V (wadd (a := k) (b := 1) V (by omega)) ?_
       refine qA V V V ?_
       have hnx := he
       rw [both_B (by omega) (by omega) (by first | exact .inl hia3 | exact .inr ⟨hlt, hgt⟩ | exact .inl (by omega)), hgy] at hnx
       obtain ⟨hy, hnx⟩ := zE2 hnx
       replace hy : ((bothX a b).map fun x => [encX x])[j]? = some [encX y] := by rw [zN0, hy]; rfl
       have hjl := (zH.1 hy).1
       refine qN <| zB ?_
       rcases Nat.lt_or_eq_of_le hj with hjm | hjm
       ·
        refine qR V <| qM V V V <| qM V V V <| qO V <| ((hyt j _ hjm hy).at0 V V V).mono ?_
        rintro _ _ ⟨rfl, rfl⟩
        refine qO V <| zY0 V V <| qN <| zQ V (V) <| zY ?_
        refine ⟨⟨j + 1, _, _⟩, by dsimp only; omega, ⟨by dsimp only; omega, by dsimp only; omega, by dsimp only; omega, hnx⟩, rfl, (.keep V (.keep V (.keep V (.nil)))), (.eq V (V) (.eq V (V) (.nil)))⟩
       ·
        refine qR V <| qM V V V <| qM V V V <| qO V <| ((hyf j _ hjm hy).at0 V V V).mono ?_
        rintro _ _ ⟨rfl, rfl⟩
        refine qO V <| zY0 V V <| qN <| zA0 V (V) ?_
        refine zV1 fun hcv hcl => ?_
        refine zL ?_
        exact zS2 (S' := T (j + 1)) (by simp) zA2 (by rw [(hok _).1, (hok _).1]; exact Nat.le_refl _) hcl ⟨rfl, by rw [hjm, if_pos (by omega)]⟩
      ·
       have hgt : Op.bytesLess (b.getD k []) (a.getD i []) = false := by rw [hgx, hgy]; simpa using h53
       refine zB ?_
       obtain ⟨x, hs⟩ : ∃ q, a[i]? = some q := ⟨_, zD (by omega)⟩
       have hgx := zM2 (d := []) hs
       refine qR V <| qO V <| zR V V ((hok _).2.1) ta125 V <| qM V V V <| qO V <| zG V zH0 sz9 (by decide) V V V (zR0 hs) ?_
       refine qO V <| zI V V ta9 V <| qA V V V <| qN <| qR V <| qM V V V <| qO V <| zO0 V V V (wadd (a := i) (b := 1) V (by omega)) ?_
       refine qM V V V <| qO V <| zO0 V V V (wadd (a := k) (b := 1) V (by omega)) ?_
       refine qA V V V <| qA V V V ?_
       have hnx := he
       rw [both_C (by omega) (by omega) (by first | exact hlt | (exfalso; omega)) hgt, hgx] at hnx
       obtain ⟨hy, hnx⟩ := zE2 hnx
       replace hy : ((bothX a b).map fun x => [encX x])[j]? = some [encX x] := by rw [zN0, hy]; rfl
       have hjl := (zH.1 hy).1
       refine qN <| zB ?_
       rcases Nat.lt_or_eq_of_le hj with hjm | hjm
       ·
        refine qR V <| qM V V V <| qM V V V <| qO V <| ((hyt j _ hjm hy).at0 V V V).mono ?_
        rintro _ _ ⟨rfl, rfl⟩
        refine qO V <| zY0 V V <| qN <| zQ V (V) <| zY ?_
        refine ⟨⟨j + 1, _, _⟩, by dsimp only; omega, ⟨by dsimp only; omega, by dsimp only; omega, by dsimp only; omega, hnx⟩, rfl, (.keep V (.keep V (.keep V (.nil)))), (.eq V (V) (.eq V (V) (.nil)))⟩
       ·
        refine qR V <| qM V V V <| qM V V V <| qO V <| ((hyf j _ hjm hy).at0 V V V).mono ?_
        rintro _ _ ⟨rfl, rfl⟩
        refine qO V <| zY0 V V <| qN <| zA0 V (V) ?_
        refine zV1 fun hcv hcl => ?_
        refine zL ?_
        exact zS2 (S' := T (j + 1)) (by simp) zA2 (by rw [(hok _).1, (hok _).1]; exact Nat.le_refl _) hcl ⟨rfl, by rw [hjm, if_pos (by omega)]⟩
   ·
    have hia2 : ¬ i < a.length := by rw [zC] at h35; simp at h35; omega
    refine dS V V <| dS V V <| dS V V <| dS V V <| dS V V <| dS V V <| dS V V <| dS V V <| dS V V <| dO V V V (zD1 V V V Vv) <| dO V V V (zD1 V V V Vv) <| dO V V V (zB1 V V Vv) <| zK0 <| zQ V (V) <| zB ?_
    refine zV0 [] [_] mo (by decide) V V V V ?_
    refine dO V V V (zS V V Vv) <| dO V V V (zR V V ((hok _).2.1) ta125 V Vv) <| dO V V V (zP2 V zH0 V Vv) <| dO V V V (zQ2 V V V V Vv) <| dO V V V (zS V V Vv) ?_
    refine zF2 (fun h58 => ?_) (fun h58 => ?_)
    ·
     have hia3 : i = a.length := by rw [zC] at h58; simp at h58; omega
     refine dS V V <| dS V V <| dS V V <| dS V V <| dS V V <| dS V V <| dS V V <| dS V V <| dS V V <| dO V V V (zD1 V V V Vv) <| dO V V V (zB1 V V Vv) <| zK0 <| zA0 V (V) <| zB ?_
     obtain ⟨y, hs2⟩ : ∃ q, b[k]? = some q := ⟨_, zD (by omega)⟩
     have hgy := zM2 (d := []) hs2
     refine qR V <| qO V <| zR V V ((hok _).2.2) ta125 V <| qM V V V <| qO V <| zG V zH0 sz9 (by decide) V V V (zR0 hs2) ?_
     refine qO V <| zI V V ta9 V <| qA V V V <| qN <| qR V <| qM V V V <| qO V <| zO0 V V V (wadd (a := k) (b := 1) V (by omega)) ?_
     refine qA V V V ?_
     have hnx := he
     rw [both_B (by omega) (by omega) (by first | exact .inl hia3 | exact .inr ⟨hlt, hgt⟩ | exact .inl (by omega)), hgy] at hnx
     obtain ⟨hy, hnx⟩ := zE2 hnx
     replace hy : ((bothX a b).map fun x => [encX x])[j]? = some [encX y] := by rw [zN0, hy]; rfl
     have hjl := (zH.1 hy).1
     refine qN <| zB ?_
     rcases Nat.lt_or_eq_of_le hj with hjm | hjm
     ·
      refine qR V <| qM V V V <| qM V V V <| qO V <| ((hyt j _ hjm hy).at0 V V V).mono ?_
      rintro _ _ ⟨rfl, rfl⟩
      refine qO V <| zY0 V V <| qN <| zQ V (V) <| zY ?_
      refine ⟨⟨j + 1, _, _⟩, by dsimp only; omega, ⟨by dsimp only; omega, by dsimp only; omega, by dsimp only; omega, hnx⟩, rfl, (.keep V (.keep V (.keep V (.nil)))), (.eq V (V) (.eq V (V) (.nil)))⟩
     ·
      refine qR V <| qM V V V <| qM V V V <| qO V <| ((hyf j _ hjm hy).at0 V V V).mono ?_
      rintro _ _ ⟨rfl, rfl⟩
      refine qO V <| zY0 V V <| qN <| zA0 V (V) ?_
      refine zV1 fun hcv hcl => ?_
      refine zL ?_
      exact zS2 (S' := T (j + 1)) (by simp) zA2 (by rw [(hok _).1, (hok _).1]; exact Nat.le_refl _) hcl ⟨rfl, by rw [hjm, if_pos (by omega)]⟩
    ·
     have hia3 : ¬ i = a.length := by rw [zC] at h58; simp at h58; omega
     obtain ⟨x, hs⟩ : ∃ q, a[i]? = some q := ⟨_, zD (by omega)⟩
     have hgx := zM2 (d := []) hs
     obtain ⟨y, hs2⟩ : ∃ q, b[k]? = some q := ⟨_, zD (by omega)⟩
     have hgy := zM2 (d := []) hs2
     refine dO V V V (zR V V ((hok _).2.2) ta125 V Vv) <| dO V V V (zS V V Vv) <| dO V V V (zG V zH0 sz9 (by decide) V V V (zR0 hs2) Vv) ?_
     refine dO V V V (zI V V ta9 V Vv) <| dO V V V (zR V V ((hok _).2.1) ta125 V Vv) <| dO V V V (zS V V Vv) <| dO V V V (zG V zH0 sz9 (by decide) V V V (zR0 hs) Vv) ?_
     refine dO V V V (zI V V ta9 V Vv) <| dO V V V (zM3 V V V V Vv) <| dO V V V (zD1 V V V Vv) <| dO V V V (zB1 V V Vv) <| zK0 ?_
     refine zK V (fun h53 => ?_) (fun h53 => ?_)
     ·
      have hgt : Op.bytesLess (b.getD k []) (a.getD i []) = true := by rw [hgx, hgy]; simpa using h53
      refine zB ?_
      obtain ⟨y, hs2⟩ : ∃ q, b[k]? = some q := ⟨_, zD (by omega)⟩
      have hgy := zM2 (d := []) hs2
      refine qR V <| qO V <| zR V V ((hok _).2.2) ta125 V <| qM V V V <| qO V <| zG V zH0 sz9 (by decide) V V V (zR0 hs2) ?_
      refine qO V <| zI V V ta9 V <| qA V V V <| qN <| qR V <| qM V V V <| qO V <| zO0 V V V (wadd (a := k) (b := 1) V (by omega)) ?_
      refine qA V V V ?_
      have hnx := he
      rw [both_B (by omega) (by omega) (by first | exact .inl hia3 | exact .inr ⟨hlt, hgt⟩ | exact .inl (by omega)), hgy] at hnx
      obtain ⟨hy, hnx⟩ := zE2 hnx
      replace hy : ((bothX a b).map fun x => [encX x])[j]? = some [encX y] := by rw [zN0, hy]; rfl
      have hjl := (zH.1 hy).1
      refine qN <| zB ?_
      rcases Nat.lt_or_eq_of_le hj with hjm | hjm
      ·
       refine qR V <| qM V V V <| qM V V V <| qO V <| ((hyt j _ hjm hy).at0 V V V).mono ?_
       rintro _ _ ⟨rfl, rfl⟩
       refine qO V <| zY0 V V <| qN <| zQ V (V) <| zY ?_
       refine ⟨⟨j + 1, _, _⟩, by dsimp only; omega, ⟨by dsimp only; omega, by dsimp only; omega, by dsimp only; omega, hnx⟩, rfl, (.keep V (.keep V (.keep V (.nil)))), (.eq V (V) (.eq V (V) (.nil)))⟩
      ·
       refine qR V <| qM V V V <| qM V V V <| qO V <| ((hyf j _ hjm hy).at0 V V V).mono ?_
       rintro _ _ ⟨rfl, rfl⟩
       refine qO V <| zY0 V V <| qN <| zA0 V (V) ?_
       refine zV1 fun hcv hcl => ?_
       refine zL ?_
       exact zS2 (S' := T (j + 1)) (by simp) zA2 (by rw [(hok _).1, (hok _).1]; exact Nat.le_refl _) hcl ⟨rfl, by rw [hjm, if_pos (by omega)]⟩
     ·
      have hgt : Op.bytesLess (b.getD k []) (a.getD i []) = false := by rw [hgx, hgy]; simpa using h53
      refine zB ?_
      obtain ⟨x, hs⟩ : ∃ q, a[i]? = some q := ⟨_, zD (by omega)⟩
      have hgx := zM2 (d := []) hs
      refine qR V <| qO V <| zR V V ((hok _).2.1) ta125 V <| qM V V V <| qO V <| zG V zH0 sz9 (by decide) V V V (zR0 hs) ?_
      refine qO V <| zI V V ta9 V <| qA V V V <| qN <| qR V <| qM V V V <| qO V <| zO0 V V V (wadd (a := i) (b := 1) V (by omega)) ?_
      refine qM V V V <| qO V <| zO0 V V V (wadd (a := k) (b := 1) V (by omega)) ?_
      refine qA V V V <| qA V V V ?_
      have hnx := he
      rw [both_C (by omega) (by omega) (by first | exact hlt | (exfalso; omega)) hgt, hgx] at hnx
      obtain ⟨hy, hnx⟩ := zE2 hnx
      replace hy : ((bothX a b).map fun x => [encX x])[j]? = some [encX x] := by rw [zN0, hy]; rfl
      have hjl := (zH.1 hy).1
      refine qN <| zB ?_
      rcases Nat.lt_or_eq_of_le hj with hjm | hjm
      ·
       refine qR V <| qM V V V <| qM V V V <| qO V <| ((hyt j _ hjm hy).at0 V V V).mono ?_
       rintro _ _ ⟨rfl, rfl⟩
       refine qO V <| zY0 V V <| qN <| zQ V (V) <| zY ?_
       refine ⟨⟨j + 1, _, _⟩, by dsimp only; omega, ⟨by dsimp only; omega, by dsimp only; omega, by dsimp only; omega, hnx⟩, rfl, (.keep V (.keep V (.keep V (.nil)))), (.eq V (V) (.eq V (V) (.nil)))⟩
      ·
       refine qR V <| qM V V V <| qM V V V <| qO V <| ((hyf j _ hjm hy).at0 V V V).mono ?_
       rintro _ _ ⟨rfl, rfl⟩
       refine qO V <| zY0 V V <| qN <| zA0 V (V) ?_
       refine zV1 fun hcv hcl => ?_
       refine zL ?_
       exact zS2 (S' := T (j + 1)) (by simp) zA2 (by rw [(hok _).1, (hok _).1]; exact Nat.le_refl _) hcl ⟨rfl, by rw [hjm, if_pos (by omega)]⟩
 ·
  have hia : ¬ i < a.length := by rw [zC] at h11; simp at h11; omega
  refine qM V V V <| qO V <| zR V V ((hok _).2.2) ta125 V <| qE V V zH0 V <| qC V V V V V <| qP V V V V <| qN ?_
  refine zK V (fun h16 => ?_) (fun h16 => ?_)
  ·
   have hkb : k < b.length := by rw [zC] at h16; simpa using h16
   refine zY <| zB0 <| zB <| qR V <| qA V V V <| qN <| zB <| zB0 <| zB ?_
   refine zV0 [] [_] mo (by decide) V V V V ?_
   refine dO V V V (zS V V Vv) <| dO V V V (zR V V ((hok _).2.2) ta125 V Vv) <| dO V V V (zP2 V zH0 V Vv) <| dO V V V (zQ2 V V V V Vv) <| dO V V V (zS V V Vv) ?_
   refine zF2 (fun h30 => ?_) (fun h30 => ?_)
   ·
    have hk2 : k = b.length := by rw [zC] at h30; simp at h30; omega
    refine dS V V <| dS V V <| dS V V <| dS V V <| dS V V <| dS V V <| dS V V <| dS V V <| dS V V <| dS V V <| dS V V <| dS V V <| dS V V <| dS V V <| dS V V <| dO V V V (zD1 V V V Vv) <| dO V V V (zB1 V V Vv) <| zK0 <| zA0 V (V) <| zB ?_
    obtain ⟨x, hs⟩ : ∃ q, a[i]? = some q := ⟨_, zD (by omega)⟩
    have hgx := zM2 (d := []) hs
    refine qR V <| qO V <| zR V V ((hok _).2.1) ta125 V <| qM V V V <| qO V <| zG V zH0 sz9 (by decide) V V V (zR0 hs) ?_
    refine qO V <| zI V V ta9 V <| qA V V V <| qN <| qR V <| qM V V V <| qO V <| zO0 V V V (wadd (a := i) (b := 1) V (by omega)) ?_
    refine qA V V V ?_
    have hnx := he
    rw [both_A (by omega) (by omega) (by first | exact .inl hk2 | exact .inr hlt), hgx] at hnx
    obtain ⟨hy, hnx⟩ := zE2 hnx
    replace hy : ((bothX a b).map fun x => [encX x])[j]? = some [encX x] := by rw [zN0, hy]; rfl
    have hjl := (zH.1 hy).1
    refine qN <| zB ?_
    rcases Nat.lt_or_eq_of_le hj with hjm | hjm
    ·
     refine qR V <| qM V V V <| qM V V V <| qO V <| ((hyt j _ hjm hy).at0 V V V).mono ?_
     rintro _ _ ⟨rfl, rfl⟩
     refine qO V <| zY0 V V <| qN <| zQ V (V) <| zY ?_
     refine ⟨⟨j + 1, _, _⟩, by dsimp only; omega, ⟨by dsimp only; omega, by dsimp only; omega, by dsimp only; omega, hnx⟩, rfl, (.keep V (.keep V (.keep V (.nil)))), (.eq V (V) (.eq V (V) (.nil)))⟩
    ·
     refine qR V <| qM V V V <| qM V V V <| qO V <| ((hyf j _ hjm hy).at0 V V V).mono ?_
     rintro _ _ ⟨rfl, rfl⟩
     refine qO V <| zY0 V V <| qN <| zA0 V (V) ?_
     refine zV1 fun hcv hcl => ?_
     refine zL ?_
     exact zS2 (S' := T (j + 1)) (by simp) zA2 (by rw [(hok _).1, (hok _).1]; exact Nat.le_refl _) hcl ⟨rfl, by rw [hjm, if_pos (by omega)]⟩
   ·
    have hk2 : ¬ k = b.length := by rw [zC] at h30; simp at h30; omega
    refine dO V V V (zS V V Vv) <| dO V V V (zR V V ((hok _).2.1) ta125 V Vv) <| dO V V V (zP2 V zH0 V Vv) <| dO V V V (zQ2 V V V V Vv) <| dO V V V (zS V V Vv) ?_
    refine zF2 (fun h35 => ?_) (fun h35 => ?_)
    ·
     have hia2 : i < a.length := by rw [zC] at h35; simpa using h35
     obtain ⟨x, hs⟩ : ∃ q, a[i]? = some q := ⟨_, zD (by omega)⟩
     have hgx := zM2 (d := []) hs
     obtain ⟨y, hs2⟩ : ∃ q, b[k]? = some q := ⟨_, zD (by omega)⟩
     have hgy := zM2 (d := []) hs2
     refine dO V V V (zR V V ((hok _).2.1) ta125 V Vv) <| dO V V V (zS V V Vv) <| dO V V V (zG V zH0 sz9 (by decide) V V V (zR0 hs) Vv) ?_
     refine dO V V V (zI V V ta9 V Vv) <| dO V V V (zR V V ((hok _).2.2) ta125 V Vv) <| dO V V V (zS V V Vv) <| dO V V V (zG V zH0 sz9 (by decide) V V V (zR0 hs2) Vv) ?_
     refine dO V V V (zI V V ta9 V Vv) <| dO V V V (zM3 V V V V Vv) <| dO V V V (zD1 V V V Vv) <| dO V V V (zD1 V V V Vv) <| dO V V V (zB1 V V Vv) <| zK0 ?_
     refine zK V (fun h25 => ?_) (fun h25 => ?_)
     ·
      have hlt : Op.bytesLess (a.getD i []) (b.getD k []) = true := by rw [hgx, hgy]; simpa using h25
      refine zB ?_
      obtain ⟨x, hs⟩ : ∃ q, a[i]? = some q := ⟨_, zD (by omega)⟩
      have hgx := zM2 (d := []) hs
      refine qR V <| qO V <| zR V V ((hok _).2.1) ta125 V <| qM V V V <| qO V <| zG V zH0 sz9 (by decide) V V V (zR0 hs) ?_
      refine qO V <| zI V V ta9 V <| qA V V V <| qN <| qR V <| qM V V V <| qO V <| zO0 V V V (wadd (a := i) (b := 1) V (by omega)) ?_
      refine qA V V V ?_
      have hnx := he
      rw [both_A (by omega) (by omega) (by first | exact .inl hk2 | exact .inr hlt), hgx] at hnx
      obtain ⟨hy, hnx⟩ := zE2 hnx
      replace hy : ((bothX a b).map fun x => [encX x])[j]? = some [encX x] := by rw [zN0, hy]; rfl
      have hjl := (zH.1 hy).1
      refine qN <| zB ?_
      rcases Nat.lt_or_eq_of_le hj with hjm | hjm
      ·
       refine qR V <| qM V V V <| qM V V V <| qO V <| ((hyt j _ hjm hy).at0 V V V).mono ?_
       rintro _ _ ⟨rfl, rfl⟩
       refine qO V <| zY0 V V <| qN <| zQ V (V) <| zY ?_
       refine ⟨⟨j + 1, _, _⟩, by dsimp only; omega, ⟨by dsimp only; omega, by dsimp only; omega, by dsimp only; omega, hnx⟩, rfl, (.keep V (.keep V (.keep V (.nil)))), (.eq V (V) (.eq V (V) (.nil)))⟩
      ·
       refine qR V <| qM V V V <| qM V V V <| qO V <| ((hyf j _ hjm hy).at0 V V V).mono ?_
       rintro _ _ ⟨rfl, rfl⟩
       refine qO V <| zY0 V V <| qN <| zA0 V (V) ?_
       refine zV1 fun hcv hcl => ?_
       refine zL ?_
       exact zS2 (S' := T (j + 1)) (by simp) zA2 (by rw [(hok _).1, (hok _).1]; exact Nat.le_refl _) hcl ⟨rfl, by rw [hjm, if_pos (by omega)]⟩
     ·
      have hlt : Op.bytesLess (a.getD i []) (b.getD k []) = false := by rw [hgx, hgy]; simpa using h25
      refine zB ?_
      refine zV0 [] [_] mo (by decide) V V V V ?_
      refine dO V V V (zS V V Vv) <| dO V V V (zR V V ((hok _).2.1) ta125 V Vv) <| dO V V V (zP2 V zH0 V Vv) <| dO V V V (zQ2 V V V V Vv) <| dO V V V (zS V V Vv) ?_
      refine zF2 (fun h58 => ?_) (fun h58 => ?_)
      ·
       have hia3 : i = a.length := by rw [zC] at h58; simp at h58; omega
       refine dS V V <| dS V V <| dS V V <| dS V V <| dS V V <| dS V V <| dS V V <| dS V V <| dS V V <| dO V V V (zD1 V V V Vv) <| dO V V V (zB1 V V Vv) <| zK0 <| zA0 V (V) <| zB ?_
       obtain ⟨y, hs2⟩ : ∃ q, b[k]? = some q := ⟨_, zD (by omega)⟩
       have hgy := zM2 (d := []) hs2
       refine qR V <| qO V <| zR V V ((hok _).2.2) ta125 V <| qM V V V <| qO V <| zG V zH0 sz9 (by decide) V V V (zR0 hs2) ?_
       refine qO V <| zI V V ta9 V <| qA V V V <| qN <| qR V <| qM V V V <| qO V <| zO0 V V V (wadd (a := k) (b := 1) V (by omega)) ?_
       refine qA V V V ?_
       have hnx := he
       rw [both_B (by omega) (by omega) (by first | exact .inl hia3 | exact .inr ⟨hlt, hgt⟩ | exact .inl (by omega)), hgy] at hnx
       obtain ⟨hy, hnx⟩ := zE2 hnx
       replace hy : ((bothX a b).map fun x => [encX x])[j]? = some [encX y] := by rw [zN0, hy]; rfl
       have hjl := (zH.1 hy).1
       refine qN <| zB ?_
       rcases Nat.lt_or_eq_of_le hj with hjm | hjm
       ·
        refine qR V <| qM V V V <| qM V V V <| qO V <| ((hyt j _ hjm hy).at0 V V V).mono ?_
        rintro _ _ ⟨rfl, rfl⟩
        refine qO V <| zY0 V V <| qN <| zQ V (V) <| zY ?_
        refine ⟨⟨j + 1, _, _⟩, by dsimp only; omega, ⟨by dsimp only; omega, by dsimp only; omega, by dsimp only; omega, hnx⟩, rfl, (.keep V (.keep V (.keep V (.nil)))), (.eq V (V) (.eq V (V) (.nil)))⟩
       ·
        refine qR V <| qM V V V <| qM V V V <| qO V <| ((hyf j _ hjm hy).at0 V V V).mono ?_
        rintro _ _ ⟨rfl, rfl⟩
        refine qO V <| zY0 V V <| qN <| zA0 V (V) ?_
        refine zV1 fun hcv hcl => ?_
        refine zL ?_
        exact zS2 (S' := T (j + 1)) (by simp) zA2 (by rw [(hok _).1, (hok _).1]; exact Nat.le_refl _) hcl ⟨rfl, by rw [hjm, if_pos (by omega)]⟩
      ·
       have hia3 : ¬ i = a.length := by rw [zC] at h58; simp at h58; omega
       obtain ⟨x, hs⟩ : ∃ q, a[i]? = some q := ⟨_, zD (by omega)⟩
       have hgx := zM2 (d := []) hs
       obtain ⟨y, hs2⟩ : ∃ q, b[k]? = some q := ⟨_, zD (by omega)⟩
       have hgy := zM2 (d := []) hs2
       refine dO V V V (zR V V ((hok _).2.2) ta125 V Vv) <| dO V V V (zS V V Vv) <| dO V V V (zG V zH0 sz9 (by decide) V V V (zR0 hs2) Vv) ?_
       refine dO V V V (zI V V ta9 V Vv) <| dO V V V (zR V V ((hok _).2.1) ta125 V Vv) <| dO V V V (zS V V Vv) <| dO V V V (zG V zH0 sz9 (by decide) V V V (zR0 hs) Vv) ?_
       refine dO V V V (zI V V ta9 V Vv) <| dO V V V (zM3 V V V V Vv) <| dO V V V (zD1 V V V Vv) <| dO V V V (zB1 V V Vv) <| zK0 ?_
       refine zK V (fun h53 => ?_) (fun h53 => ?_)
       ·
        have hgt : Op.bytesLess (b.getD k []) (a.getD i []) = true := by rw [hgx, hgy]; simpa using h53
        refine zB ?_
        obtain ⟨y, hs2⟩ : ∃ q, b[k]? = some q := ⟨_, zD (by omega)⟩
        have hgy := zM2 (d := []) hs2
        refine qR V <| qO V <| zR V V ((hok _).2.2) ta125 V <| qM V V V <| qO V <| zG V zH0 sz9 (by decide) V V V (zR0 hs2) ?_
        refine qO V <| zI V V ta9 V <| qA V V V <| qN <| qR V <| qM V V V <| qO V <| zO0 V V V (wadd (a := k) (b := 1) V (by omega)) ?_
        refine qA V V V ?_
        have hnx := he
        rw [both_B (by omega) (by omega) (by first | exact .inl hia3 | exact .inr ⟨hlt, hgt⟩ | exact .inl (by omega)), hgy] at hnx
        obtain ⟨hy, hnx⟩ := zE2 hnx
        replace hy : ((bothX a b).map fun x => [encX x])[j]? = some [encX y] := by rw [zN0, hy]; rfl
        have hjl := (zH.1 hy).1
        refine qN <| zB ?_
        rcases Nat.lt_or_eq_of_le hj with hjm | hjm
        ·
         refine qR V <| qM V V V <| qM V V V <| qO V <| ((hyt j _ hjm hy).at0 V V V).mono ?_
         rintro _ _ ⟨rfl, rfl⟩
         refine qO V <| zY0 V V <| qN <| zQ V (V) <| zY ?_
         refine ⟨⟨j + 1, _, _⟩, by dsimp only; omega, ⟨by dsimp only; omega, by dsimp only; omega, by dsimp only; omega, hnx⟩, rfl, (.keep V (.keep V (.keep V (.nil)))), (.eq V (V) (.eq V (V) (.nil)))⟩
        ·
         refine qR V <| qM V V V <| qM V V V <| qO V <| ((hyf j _ hjm hy).at0 V V V).mono ?_
         rintro _ _ ⟨rfl, rfl⟩
         refine qO V <| zY0 V V <| qN <| zA0 V (V) ?_
         refine zV1 fun hcv hcl => ?_
         refine zL ?_
         exact zS2 (S' := T (j + 1)) (by simp) zA2 (by rw [(hok _).1, (hok _).1]; exact Nat.le_refl _) hcl ⟨rfl, by rw [hjm, if_pos (by omega)]⟩
       ·
        have hgt : Op.bytesLess (b.getD k []) (a.getD i []) = false := by rw [hgx, hgy]; simpa using h53
        refine zB ?_
        obtain ⟨x, hs⟩ : ∃ q, a[i]? = some q := ⟨_, zD (by omega)⟩
        have hgx := zM2 (d := []) hs
        refine qR V <| qO V <| zR V V ((hok _).2.1) ta125 V <| qM V V V <| qO V <| zG V zH0 sz9 (by decide) V V V (zR0 hs) ?_
        refine qO V <| zI V V ta9 V <| qA V V V <| qN <| qR V <| qM V V V <| qO V <| zO0 V V V (wadd (a := i) (b := 1) V (by omega)) ?_
        refine qM V V V <| qO V <| zO0 V V V (wadd (a := k) (b := 1) V (by omega)) ?_
        refine qA V V V <| qA V V V ?_
        have hnx := he
        rw [both_C (by omega) (by omega) (by first | exact hlt | (exfalso; omega)) hgt, hgx] at hnx
        obtain ⟨hy, hnx⟩ := zE2 hnx
        replace hy : ((bothX a b).map fun x => [encX x])[j]? = some [encX x] := by rw [zN0, hy]; rfl
        have hjl := (zH.1 hy).1
        refine qN <| zB ?_
        rcases Nat.lt_or_eq_of_le hj with hjm | hjm
        ·
         refine qR V <| qM V V V <| qM V V V <| qO V <| ((hyt j _ hjm hy).at0 V V V).mono ?_
         rintro _ _ ⟨rfl, rfl⟩
         refine qO V <| zY0 V V <| qN <| zQ V (V) <| zY ?_
         refine ⟨⟨j + 1, _, _⟩, by dsimp only; omega, ⟨by dsimp only; omega, by dsimp only; omega, by dsimp only; omega, hnx⟩, rfl, (.keep V (.keep V (.keep V (.nil)))), (.eq V (V) (.eq V (V) (.nil)))⟩
        ·
         refine qR V <| qM V V V <| qM V V V <| qO V <| ((hyf j _ hjm hy).at0 V V V).mono ?_
         rintro _ _ ⟨rfl, rfl⟩
         refine qO V <| zY0 V V <| qN <| zA0 V (V) ?_
         refine zV1 fun hcv hcl => ?_
         refine zL ?_
         exact zS2 (S' := T (j + 1)) (by simp) zA2 (by rw [(hok _).1, (hok _).1]; exact Nat.le_refl _) hcl ⟨rfl, by rw [hjm, if_pos (by omega)]⟩
    ·
     have hia2 : ¬ i < a.length := by rw [zC] at h35; simp at h35; omega
     refine dS V V <| dS V V <| dS V V <| dS V V <| dS V V <| dS V V <| dS V V <| dS V V <| dS V V <| dO V V V (zD1 V V V Vv) <| dO V V V (zD1 V V V Vv) <| dO V V V (zB1 V V Vv) <| zK0 <| zQ V (V) <| zB ?_
     refine zV0 [] [_] mo (by decide) V V V V ?_
     refine dO V V V (zS V V Vv) <| dO V V V (zR V V ((hok _).2.1) ta125 V Vv) <| dO V V V (zP2 V zH0 V Vv) <| dO V V V (zQ2 V V V V Vv) <| dO V V V (zS V V Vv) ?_
     refine zF2 (fun h58 => ?_) (fun h58 => ?_)
     ·
      have hia3 : i = a.length := by rw [zC] at h58; simp at h58; omega
      refine dS V V <| dS V V <| dS V V <| dS V V <| dS V V <| dS V V <| dS V V <| dS V V <| dS V V <| dO V V V (zD1 V V V Vv) <| dO V V V (zB1 V V Vv) <| zK0 <| zA0 V (V) <| zB ?_
      obtain ⟨y, hs2⟩ : ∃ q, b[k]? = some q := ⟨_, zD (by omega)⟩
      have hgy := zM2 (d := []) hs2
      refine qR V <| qO V <| zR V V ((hok _).2.2) ta125 V <| qM V V V <| qO V <| zG V zH0 sz9 (by decide) V V V (zR0 hs2) ?_
      refine qO V <| zI V V ta9 V <| qA V V V <| qN <| qR V <| qM V V V <| qO V <| zO0 V V V (wadd (a := k) (b := 1) V (by omega)) ?_
      refine qA V V V ?_
      have hnx := he
      rw [both_B (by omega) (by omega) (by first | exact .inl hia3 | exact .inr ⟨hlt, hgt⟩ | exact .inl (by omega)), hgy] at hnx
      obtain ⟨hy, hnx⟩ := zE2 hnx
      replace hy : ((bothX a b).map fun x => [encX x])[j]? = some [encX y] := by rw [zN0, hy]; rfl
      have hjl := (zH.1 hy).1
      refine qN <| zB ?_
      rcases Nat.lt_or_eq_of_le hj with hjm | hjm
      ·
       refine qR V <| qM V V V <| qM V V V <| qO V <| ((hyt j _ hjm hy).at0 V V V).mono ?_
       rintro _ _ ⟨rfl, rfl⟩
       refine qO V <| zY0 V V <| qN <| zQ V (V) <| zY ?_
       refine ⟨⟨j + 1, _, _⟩, by dsimp only; omega, ⟨by dsimp only; omega, by dsimp only; omega, by dsimp only; omega, hnx⟩, rfl, (.keep V (.keep V (.keep V (.nil)))), (.eq V (V) (.eq V (V) (.nil)))⟩
      ·
       refine qR V <| qM V V V <| qM V V V <| qO V <| ((hyf j _ hjm hy).at0 V V V).mono ?_
       rintro _ _ ⟨rfl, rfl⟩
       refine qO V <| zY0 V V <| qN <| zA0 V (V) ?_
       refine zV1 fun hcv hcl => ?_
       refine zL ?_
       exact zS2 (S' := T (j + 1)) (by simp) zA2 (by rw [(hok _).1, (hok _).1]; exact Nat.le_refl _) hcl ⟨rfl, by rw [hjm, if_pos (by omega)]⟩
     ·
      have hia3 : ¬ i = a.length := by rw [zC] at h58; simp at h58; omega
      obtain ⟨x, hs⟩ : ∃ q, a[i]? = some q := ⟨_, zD (by omega)⟩
      have hgx := zM2 (d := []) hs
      obtain ⟨y, hs2⟩ : ∃ q, b[k]? = some q := ⟨_, zD (by omega)⟩
      have hgy := zM2 (d := []) hs2
      refine dO V V V (zR V V ((hok _).2.2) ta125 V Vv) <| dO V V V (zS V V Vv) <| dO V V V (zG V zH0 sz9 (by decide) V V V (zR0 hs2) Vv) ?_
      refine dO V V V (zI V V ta9 V Vv) <| dO V V V (zR V V ((hok _).2.1) ta125 V Vv) <| dO V V V (zS V V Vv) <| dO V V V (zG V zH0 sz9 (by decide) V V V (zR0 hs) Vv) ?_
      refine dO V V V (zI V V ta9 V Vv) <| dO V V V (zM3 V V V V Vv) <| dO V V V (zD1 V V V Vv) <| dO V V V (zB1 V V Vv) <| zK0 ?_
      refine zK V (fun h53 => ?_) (fun h53 => ?_)
      ·
       have hgt : Op.bytesLess (b.getD k []) (a.getD i []) = true := by rw [hgx, hgy]; simpa using h53
       refine zB ?_
       obtain ⟨y, hs2⟩ : ∃ q, b[k]? = some q := ⟨_, zD (by omega)⟩
       have hgy := zM2 (d := []) hs2
       refine qR V <| qO V <| zR V V ((hok _).2.2) ta125 V <| qM V V V <| qO V <| zG V zH0 sz9 (by decide) V V V (zR0 hs2) ?_
       refine qO V <| zI V V ta9 V <| qA V V V <| qN <| qR V <| qM V V V <| qO V <| zO0 V V V (wadd (a := k) (b := 1) V (by omega)) ?_
       refine qA V V V ?_
       have hnx := he
       rw [both_B (by omega) (by omega) (by first | exact .inl hia3 | exact .inr ⟨hlt, hgt⟩ | exact .inl (by omega)), hgy] at hnx
       obtain ⟨hy, hnx⟩ := zE2 hnx
       replace hy : ((bothX a b).map fun x => [encX x])[j]? = some [encX y] := by rw [zN0, hy]; rfl
       have hjl := (zH.1 hy).1
       refine qN <| zB ?_
       rcases Nat.lt_or_eq_of_le hj with hjm | hjm
       ·
        refine qR V <| qM V V V <| qM V V V <| qO V <| ((hyt j _ hjm hy).at0 V V V).mono ?_
        rintro _ _ ⟨rfl, rfl⟩
        refine qO V <| zY0 V V <| qN <| zQ V (V) <| zY ?_
        refine ⟨⟨j + 1, _, _⟩, by dsimp only; omega, ⟨by dsimp only; omega, by dsimp only; omega, by dsimp only; omega, hnx⟩, rfl, (.keep V (.keep V (.keep V (.nil)))), (.eq V (V) (.eq V (V) (.nil)))⟩
       ·
        refine qR V <| qM V V V <| qM V V V <| qO V <| ((hyf j _ hjm hy).at0 V V V).mono ?_
        rintro _ _ ⟨rfl, rfl⟩
        refine qO V <| zY0 V V <| qN <| zA0 V (V) ?_
        refine zV1 fun hcv hcl => ?_
        refine zL ?_
        exact zS2 (S' := T (j + 1)) (by simp) zA2 (by rw [(hok _).1, (hok _).1]; exact Nat.le_refl _) hcl ⟨rfl, by rw [hjm, if_pos (by omega)]⟩
      ·
       have hgt : Op.bytesLess (b.getD k []) (a.getD i []) = false := by rw [hgx, hgy]; simpa using h53
       refine zB ?_
       obtain ⟨x, hs⟩ : ∃ q, a[i]? = some q := ⟨_, zD (by omega)⟩
       have hgx := zM2 (d := []) hs
       refine qR V <| qO V <| zR V V ((hok _).2.1) ta125 V <| qM V V V <| qO V <| zG V zH0 sz9 (by decide) V V V (zR0 hs) ?_
       refine qO V <| zI V V ta9 V <| qA V V V <| qN <| qR V <| qM V V V <| qO V <| zO0 V V V (wadd (a := i) (b := 1) V (by omega)) ?_
       refine qM V V V <| qO V <| zO0 V V V (wadd (a := k) (b := 1) V (by omega)) ?_
       refine qA V V V <| qA V V V ?_
       have hnx := he
       rw [both_C (by omega) (by omega) (by first | exact hlt | (exfalso; omega)) hgt, hgx] at hnx
       obtain ⟨hy, hnx⟩ := zE2 hnx
       replace hy : ((bothX a b).map fun x => [encX x])[j]? = some [encX x] := by rw [zN0, hy]; rfl
       have hjl := (zH.1 hy).1
       refine qN <| zB ?_
       rcases Nat.lt_or_eq_of_le hj with hjm | hjm
       ·
        refine qR V <| qM V V V <| qM V V V <| qO V <| ((hyt j _ hjm hy).at0 V V V).mono ?_
        rintro _ _ ⟨rfl, rfl⟩
        refine qO V <| zY0 V V <| qN <| zQ V (V) <| zY ?_
        refine ⟨⟨j + 1, _, _⟩, by dsimp only; omega, ⟨by dsimp only; omega, by dsimp only; omega, by dsimp only; omega, hnx⟩, rfl, (.keep V (.keep V (.keep V (.nil)))), (.eq V (V) (.eq V (V) (.nil)))⟩
       ·
        refine qR V <| qM V V V <| qM V V V <| qO V <| ((hyf j _ hjm hy).at0 V V V).mono ?_
        rintro _ _ ⟨rfl, rfl⟩
        refine qO V <| zY0 V V <| qN <| zA0 V (V) ?_
        refine zV1 fun hcv hcl => ?_
        refine zL ?_
        exact zS2 (S' := T (j + 1)) (by simp) zA2 (by rw [(hok _).1, (hok _).1]; exact Nat.le_refl _) hcl ⟨rfl, by rw [hjm, if_pos (by omega)]⟩
  ·
   have hkb : ¬ k < b.length := by rw [zC] at h16; simp at h16; omega
   rw [show i = a.length by omega, show k = b.length by omega, List.drop_length, List.drop_length, both_end] at he
   have hdl := drop_nil_len he
   have hjm : j = m := by omega
   refine zV1 fun hcv hcl => ?_
   refine zF1 ?_
   exact zS2 (S' := T j) (by simp) zA2 (by rw [(hok _).1, (hok _).1]; exact Nat.le_refl _) hcl ⟨rfl, by rw [hjm, if_neg (by omega)]⟩
theorem with_spec (a b : List Bs) (S : MS) : MCalls Tryz.prog 121 [.lst none 1 (a.map encX), .lst none 1 (b.map encX)] S fun v σ' => v = .fn (.func 139) [] [.ref S.length 0, .ref (S.length + 1) 0] ∧ σ' = S ++ [.cells [.lst none 1 (a.map encX)], .cells [.lst none 1 (b.map encX)]] := by
 refine zU Tryz.func121 V Tryz.ntmps121 (zA V) ?_
 refine zB <| qR V <| qB V V V V V <| qB V V V V V <| qA V V V <| qN <| zB <| qR V <| qO V <| zB2 V V V <| qA V V V <| qN ?_
 refine zV1 fun hcv hcl => ?_
 refine zL ?_
 exact ret_tmpT (.inr V) Tryz.results121 V (.refl _) (hcv 4 _ rfl) (by simp) hcl Vv
theorem bothL_cl {t d ty n : Nat} {xs a b : List Bs} {o : MObj} (ht : t < d) (ho : o ∈ [MObj.cells [.lst (some t) 1 (xs.map encX)], .cells [.lst none 1 (a.map encX)], .cells [.lst none 1 (b.map encX)], .row ty 1 n]) : o.cl d := by
 simp only [List.mem_cons, List.not_mem_nil, or_false] at ho
 rcases ho with rfl | rfl | rfl | rfl
 ·intro x hx
  simp at hx
  subst hx
  exact cl_lstT ht (cl_encX _) encX_one
 ·intro x hx
  simp at hx
  subst hx
  exact zW4 _ _
 ·intro x hx
  simp at hx
  subst hx
  exact zW4 _ _
 ·exact trivial
theorem get_b1 {A R : MS} {o a b c a' : MObj} : ((A ++ [o, a, b, c]) ++ R)[(A ++ [a']).length]? = some a := by rw [zM, zZ, getElem?_own]; rfl
theorem get_b2 {A R : MS} {o a b c a' : MObj} : ((A ++ [o, a, b, c]) ++ R)[(A ++ [a']).length + 1]? = some b := by rw [zM, zZ, Nat.add_assoc, getElem?_own]; rfl
theorem rowsBoth_spec (a b : List Bs) (hab : a.length + b.length ≤ 1000000) (S : MS) : MCalls Tryz.prog 101 [.lst none 1 (a.map encX), .lst none 1 (b.map encX)] S fun v σ' => v = .lst none 1 ((bothX a b).map encX) ∧ σ' = S := by
 refine zU Tryz.func101 V Tryz.ntmps101 (zA V) ?_
 refine zB <| qR V <| qA V V V <| qN <| zB <| qR V <| qO V <| zL0 V zm26 V V <| qN <| zB <| zB <| qR V <| qM V V V <| qM V V V ?_
 refine qX V V V V co121 (with_spec a b _) ?_
 rw [zZ S]
 refine qN <| zB0 <| mwp_cellrow 0 9 1 V (Nat.le_refl _) V V ?_
 refine mwp_rangeB (ok := fun σ => σ.length = S.length + 5 ∧ σ[(S ++ [MObj.cells [.lst0]]).length]? = some (.cells [.lst none 1 (a.map encX)]) ∧ σ[(S ++ [MObj.cells [.lst0]]).length + 1]? = some (.cells [.lst none 1 (b.map encX)])) (ys := (bothX a b).map fun x => [encX x]) .ret (.inl V) (fun j => true) (fun j => ([.cells [.lst (some (S.length + 3)) 1 (((bothX a b).take j).map encX)], .cells [.lst none 1 (a.map encX)], .cells [.lst none 1 (b.map encX)], .row 9 1 ((bothX a b).take j).length] : MS)) (fun j => ([.cells [.lst (some (S.length + 3)) 1 (((bothX a b).take j).map encX)], .cells [.lst none 1 (a.map encX)], .cells [.lst none 1 (b.map encX)], .row 9 1 ((bothX a b).take j).length] : MS)) (fun j => V) (fun j => V) V (fun j o ho n hn => bothL_cl (by simp at hn; omega) ho) (fun j o ho n hn => bothL_cl (by simp at hn; omega) ho) V co139 V (by simp) ((with_iter a b hab _ _ _).weak fun σ h => h.1) (fun j => ⟨by simp only [zM, zW, List.length_nil], get_b1, get_b2⟩) (fun j s q => ⟨by simp only [zM, zW, List.length_nil], get_b1, get_b2⟩) V (fun y hy => by obtain ⟨i, _, rfl⟩ := List.mem_map.1 hy; rfl) ?_ ?_ ?_
 ·
  intro j y hy hbef L'
  rw [zN0] at hy
  obtain ⟨x, hp, rfl⟩ := Option.map_eq_some_iff.1 hy
  have hjl := (zH.1 hp).1
  have hbl := both_len a b
  have htl : ((bothX a b).take j).length ≤ 1000000 := by rw [List.length_take]; omega
  refine qR V <| qA V V V <| qN ?_
  refine ⟨rfl, [], by rw [List.append_nil], ?_⟩
  rw [List.append_nil]
  refine zB0 <| qR V <| qO V <| op_load_mid V V V ta26 V <| qM V V V <| qO V <| zA1 V zX el9 V V (by decide) (by decide) V V ?_
  refine qO V <| op_append_mid V zX el9 V V V (by simp) (by simp only [zC, zW, List.length_nil]; omega) (by simp only [zC, zW, List.length_nil]; omega) V ?_
  refine qO V <| zP5 V V V V sz26 V V (zA V) V <| qN ?_
  exact .inl ⟨rfl, rfl, [], by rw [List.append_nil, List.take_add_one, hp, Option.toList_some, List.map_append, len_snoc]; rfl⟩
 ·
  intro _
  rw [zZ S]
  rw [zC]
  refine zB <| qR V <| qL V V V V ta26 V <| qA V V V <| qN <| zL ?_
  exact zT (.inr V) Tryz.results101 V (Sub.trans (.view _ _ _) (.of_eq (by rw [List.take_length]))) (zW4 _ _) Vv
 ·
  intro j y hy hp
  cases hp
end Go.Proofs.YtnfcnpdpfgcchaaGreat
namespace Go.MV
open Go Go.RowKit
section
section
variable {κ : Type} (cmp : κ → κ → Int)
abbrev REnt (κ : Type) := κ × Val
abbrev Ent (κ : Type) := κ × Val × Option Val
def mergeE : List (REnt κ) → List (REnt κ) → List (Ent κ)
 | [], [] => []
 | x :: a, [] => (x.1, x.2, none) :: mergeE a []
 | [], y :: b => (y.1, y.2, none) :: mergeE [] b
 | x :: a, y :: b => if cmp x.1 y.1 < 0 then (x.1, x.2, none) :: mergeE a (y :: b) else if cmp y.1 x.1 < 0 then (y.1, y.2, none) :: mergeE (x :: a) b else (x.1, x.2, some y.2) :: mergeE a b
 termination_by a b => a.length + b.length
def stepE : List (REnt κ) × List (REnt κ) → List (REnt κ) × List (REnt κ)
 | ([], []) => ([], [])
 | (_ :: a, []) => (a, [])
 | ([], _ :: b) => ([], b)
 | (x :: a, y :: b) => if cmp x.1 y.1 < 0 then (a, y :: b) else if cmp y.1 x.1 < 0 then (x :: a, b) else (a, b)
theorem step_len (p : List (REnt κ) × List (REnt κ)) : (stepE cmp p).1.length ≤ p.1.length ∧ (stepE cmp p).2.length ≤ p.2.length := by
 obtain ⟨a, b⟩ := p
 cases a <;> cases b <;> simp [stepE]
 split <;> (try split) <;> simp
end
section
variable {P : Program} {rd : Option Nat} {o : Oper} {env : Env} {K : MV → MS → Prop} {A J C : MS}
end
section
variable {P : Program} {fn : Func} {S S' L : MS} {R : MV → MS → Prop} {env : Env}
theorem ret_cell_tmp {e : Exit} {a t k off t2 : Nat} {l : List MV} {ta : Option Nat} {x y x2 y2 : MV} (he : e = .normal ∨ e = .ret) (hres : fn.results = #[.cell a t, .tmp t2]) (ha : get env a = some (.ref (S.length + k) off)) (hl : L[k]? = some (.cells l)) (ht : tyAgg P t = some ta) (hm : loadMV ta l off = some x) (hs : Sub x y) (hc : Cl S.length y)
  (hx2 : get env t2 = some x2) (hs2 : Sub x2 y2) (hc2 : Cl S.length y2) (hR : R (.tup [y, y2]) S) : BodyQ P fn S R e env (S ++ L) := by
 refine ⟨he, [x, x2], .tup [y, y2], S, L, ?_, .tup (.cons hs (.cons hs2 .nil)), .tup _ (fun z hz => ?_), rfl, Nat.le_refl _, .inl rfl, hR⟩
 ·rw [hres]
  exact .cell ha (by rw [getElem?_own]; exact hl) ht hm (.tmp hx2 .nil)
 ·simp only [List.mem_cons, List.not_mem_nil, or_false] at hz
  rcases hz with rfl | rfl
  ·exact hc
  ·exact hc2
theorem _root_.zR1 : type_of% @ret_cell_tmp := @ret_cell_tmp
theorem ret_cell_cell {e : Exit} {a t k off a2 t2 k2 off2 : Nat} {l l2 : List MV} {ta ta2 : Option Nat} {x y x2 y2 : MV} (he : e = .normal ∨ e = .ret) (hres : fn.results = #[.cell a t, .cell a2 t2]) (ha : get env a = some (.ref (S.length + k) off)) (hl : L[k]? = some (.cells l)) (ht : tyAgg P t = some ta) (hm : loadMV ta l off = some x) (hs : Sub x y) (hc : Cl S.length y)
  (ha2 : get env a2 = some (.ref (S.length + k2) off2)) (hl2 : L[k2]? = some (.cells l2)) (ht2 : tyAgg P t2 = some ta2) (hm2 : loadMV ta2 l2 off2 = some x2) (hs2 : Sub x2 y2) (hc2 : Cl S.length y2) (hR : R (.tup [y, y2]) S) : BodyQ P fn S R e env (S ++ L) := by
 refine ⟨he, [x, x2], .tup [y, y2], S, L, ?_, .tup (.cons hs (.cons hs2 .nil)), .tup _ (fun z hz => ?_), rfl, Nat.le_refl _, .inl rfl, hR⟩
 ·rw [hres]
  exact .cell ha (by rw [getElem?_own]; exact hl) ht hm (.cell ha2 (by rw [getElem?_own]; exact hl2) ht2 hm2 .nil)
 ·simp only [List.mem_cons, List.not_mem_nil, or_false] at hz
  rcases hz with rfl | rfl
  ·exact hc
  ·exact hc2
end
end
end Go.MV
namespace Go.Proofs.YtnfcnpdpfgcchaaGreat
open Go Go.MV
theorem eq_cons {α β : Type} {f : α → β} {x : α} {l : List α} : intCmp .eql (((((x :: l).map f).length : Nat)) : Int) 0 = some false := by simp [intCmp]; omega
theorem set_self_ {S : MS} {id : Nat} {o : MObj} (h : S[id]? = some o) : S.set id o = S := by
 obtain ⟨hlt, e⟩ := zH.1 h
 rw [← e]
 exact List.set_getElem_self hlt
theorem get_nil_app {A : MS} {i : Nat} {o : MObj} (h : A[i]? = some o) : (([] : MS) ++ A)[i]? = some o := h
theorem _root_.zS0 : type_of% @get_nil_app := @get_nil_app
end Go.Proofs.YtnfcnpdpfgcchaaGreat
namespace Go.MV
open Go Go.RowKit
section
section
variable {P : Program} {rd : Option Nat} {o : Oper} {env : Env} {σ : MS} {K : MV → MS → Prop}
theorem op_max3 {ts : Array TypeId} {x y z : Operand} {k : IntKind} {l m n r : Int} (ho : o.op = .call { callee := .builtin .max, args := #[x, y, z], argTypes := ts }) (hx : evo env x = some (.int k l)) (hy : evo env y = some (.int k m)) (hz : evo env z = some (.int k n)) (e : max (max l m) n = r) (h : K (.int k r) σ) : OpWp P rd o env σ K := by
 refine OpWp.of_run (by simp [ho]) fun g w a hr hop => ?_
 have e1 := (hop x (by simp [ho, Op.operands, Call.operands]) _ hx).inv_int
 have e2 := (hop y (by simp [ho, Op.operands, Call.operands]) _ hy).inv_int
 have e3 := (hop z (by simp [ho, Op.operands, Call.operands]) _ hz).inv_int
 have hm : ∀ a b : Int, (if b > a then b else a) = max a b := fun a b => by split <;> omega
 refine ⟨.int k r, w, ?_, .same h hr (.int _ _)⟩
 simp [execOp, ho, resolve, invoke, builtin, Builtin.max_, Builtin.max2, e1, e2, e3, hm, e]
end
abbrev cmpX (a b : Bs) : Int := Go.Lib.compareBytes a b
theorem cmpX_eq : ∀ a b : Bs, cmpX a b = if Op.bytesLess a b then -1 else if Op.bytesLess b a then 1 else 0
 | [], [] => rfl
 | [], _ :: _ => rfl
 | _ :: _, [] => rfl
 | x :: a, y :: b => by
  have ih := cmpX_eq a b
  have h1 : ∀ x y : UInt8, x < y → ¬ y < x := fun x y h h2 => absurd (UInt8.lt_trans h h2) (UInt8.lt_irrefl _)
  unfold cmpX at ih ⊢
  simp only [Go.Lib.compareBytes, Op.bytesLess]
  by_cases hxy : x < y
  ·simp [hxy]
  ·by_cases hyx : y < x
   ·have hne : ¬ x = y := fun e => by subst e; exact UInt8.lt_irrefl _ hyx
    simp [hxy, hyx, hne]
   ·have e : x = y := UInt8.le_antisymm (UInt8.not_lt.1 hyx) (UInt8.not_lt.1 hxy)
    subst e
    simp [hxy, ih]
end
end Go.MV
namespace Go.Proofs.YtnfcnpdpfgcchaaGreat
open Go Go.MV Go.RowKit
section
section
variable {κ : Type}
def ofE (f : Val → Val → Option Val) (e : Ent κ) : Option Val := match e.2.2 with | none => some e.2.1 | some w => f e.2.1 w
def goE (f : Val → Val → Option Val) : List (Ent κ) → Option (List (κ × Val))
 | [] => some []
 | e :: l => match ofE f e with | none => none | some v => (goE f l).map ((e.1, v) :: ·)
theorem goE_len {f : Val → Val → Option Val} : ∀ {a : List (Ent κ)} {x}, goE f a = some x → x.length = a.length
 | [], x, h => by simp [goE] at h; subst h; rfl
 | e :: a, x, h => by
  rw [goE] at h
  cases ho : ofE f e with
  | none => rw [ho] at h; cases h
  | some v =>
   rw [ho] at h
   cases hg : goE f a with
   | none => rw [hg] at h; cases h
   | some y => rw [hg] at h; simp at h; subst h; simp [goE_len hg]
theorem mergeE_mem (cmp : κ → κ → Int) : ∀ (a b : List (REnt κ)) (e : Ent κ), e ∈ mergeE cmp a b → ((e.1, e.2.1) ∈ a ∨ (e.1, e.2.1) ∈ b) ∧ ∀ y, e.2.2 = some y → (e.1, e.2.1) ∈ a ∧ ∃ k, (k, y) ∈ b := by
 intro a b
 induction a, b using mergeE.induct cmp with
 | case1 => intro e h; simp [mergeE] at h
 | case2 x a ih =>
  intro e h
  rw [mergeE, List.mem_cons] at h
  rcases h with rfl | h
  ·exact ⟨.inl (.head _), fun y h => by cases h⟩
  ·obtain ⟨h1, h2⟩ := ih e h
   refine ⟨h1.imp (.tail _) id, fun y hy => ?_⟩
   obtain ⟨p, k, q⟩ := h2 y hy
   exact ⟨.tail _ p, k, q⟩
 | case3 y b ih =>
  intro e h
  rw [mergeE, List.mem_cons] at h
  rcases h with rfl | h
  ·exact ⟨.inr (.head _), fun y h => by cases h⟩
  ·obtain ⟨h1, h2⟩ := ih e h
   refine ⟨h1.imp id (.tail _), fun y hy => ?_⟩
   obtain ⟨p, k, q⟩ := h2 y hy
   exact ⟨p, k, .tail _ q⟩
 | case4 x a y b hlt ih =>
  intro e h
  rw [mergeE, if_pos hlt, List.mem_cons] at h
  rcases h with rfl | h
  ·exact ⟨.inl (.head _), fun y h => by cases h⟩
  ·obtain ⟨h1, h2⟩ := ih e h
   refine ⟨h1.imp (.tail _) id, fun y hy => ?_⟩
   obtain ⟨p, k, q⟩ := h2 y hy
   exact ⟨.tail _ p, k, q⟩
 | case5 x a y b hlt hgt ih =>
  intro e h
  rw [mergeE, if_neg hlt, if_pos hgt, List.mem_cons] at h
  rcases h with rfl | h
  ·exact ⟨.inr (.head _), fun y h => by cases h⟩
  ·obtain ⟨h1, h2⟩ := ih e h
   refine ⟨h1.imp id (.tail _), fun y hy => ?_⟩
   obtain ⟨p, k, q⟩ := h2 y hy
   exact ⟨p, k, .tail _ q⟩
 | case6 x a y b hlt hgt ih =>
  intro e h
  rw [mergeE, if_neg hlt, if_neg hgt, List.mem_cons] at h
  rcases h with rfl | h
  ·exact ⟨.inl (.head _), fun z h => by cases h; exact ⟨.head _, y.1, .head _⟩⟩
  ·obtain ⟨h1, h2⟩ := ih e h
   refine ⟨h1.imp (.tail _) (.tail _), fun y hy => ?_⟩
   obtain ⟨p, k, q⟩ := h2 y hy
   exact ⟨.tail _ p, k, .tail _ q⟩
theorem _root_.zZ5 : type_of% @mergeE_mem := @mergeE_mem
end
def seenE (l : List (Ent (List Tk))) (e : Ent (List Tk)) : Bool := l.any fun o => decide (cmpF e.1 o.1 = -1)
def entC (v : Val) : List (REnt (List Tk)) := v.cv.zip v.vv
def entX (v : Val) : List (REnt Bs) := v.sv.zip v.vv
def mergedC (a b : Val) : List (Ent (List Tk)) := mergeE byTicksF (entC a) (entC b)
def mergedX (a b : Val) : List (Ent Bs) := mergeE cmpX (entX a) (entX b)
def causesF (f : Val → Val → Option Val) (a b : Val) : Option Val := (goE f ((mergedC a b).filter fun e => !seenE (mergedC a b) e)).map fun l => .mk 0 0 [] (l.map (·.1)) (l.map (·.2))
def mapsF (f : Val → Val → Option Val) (a b : Val) : Option Val := (goE f (mergedX a b)).map fun l => .mk 0 0 (l.map (·.1)) [] (l.map (·.2))
def goP : List (Val → Val → Option Val) → List Val → List Val → Option (List Val)
 | f :: fs, x :: a, y :: b => match f x y with | none => none | some v => (goP fs a b).map (v :: ·)
 | _, _, _ => some []
def pairF2 (fs : List (Val → Val → Option Val)) (a b : Val) : Option Val := (goP fs a.vv b.vv).map fun l => .mk 0 0 [] [] l
def laterC (a b : Val) : Int := if cmpI a.nv b.nv ≠ 0 then cmpI a.nv b.nv else if cmpI a.mv b.mv ≠ 0 then cmpI a.mv b.mv else cmpX (a.sv.headD []) (b.sv.headD [])
def laterF (a b : Val) : Val := if a.sv.length = 0 ∨ (0 < b.sv.length ∧ laterC a b < 0) then b else a
def clocksF (a b : Val) : Val := if a.cv.length = 0 then b else if b.cv.length = 0 then a else .mk 0 0 [] [joinF (a.cv.headD []) (b.cv.headD [])] []
def largeF (v : Val) : Bool := decide (40 < max (max v.sv.length v.cv.length) v.vv.length) || (match v.cv with | [c] => decide (40 < c.length) | _ => false)
def bothB (k : Int) (fs : List (Val → Val → Option Val)) (a b : Val) : Option Val :=
 if k = 1 ∨ k = 2 then some (.mk (max a.nv b.nv) 0 [] [] [])
 else if k = 3 then some (.mk 0 0 (bothX a.sv b.sv) [] [])
 else if k = 4 then mapsF (fs.headD fun _ _ => none) a b
 else if k = 5 then pairF2 fs a b
 else if k = 6 then some (laterF a b)
 else if k = 7 then some (clocksF a b)
 else causesF (fs.headD fun _ _ => none) a b
def capF (o : Option Val) : Option Val := o.bind fun v => if largeF v then none else some v
mutual
def bothF : Sch → Val → Val → Option Val
 | .mk k ins, a, b => capF (bothB k (bothL ins) a b)
def bothL : List Sch → List (Val → Val → Option Val)
 | [] => []
 | s :: l => bothF s :: bothL l
end
theorem bothF_mk (k : Int) (ins : List Sch) (a b : Val) : bothF (.mk k ins) a b = capF (bothB k (bothL ins) a b) := by rw [bothF]
theorem _root_.zH3 : type_of% @bothF_mk := @bothF_mk
theorem bothL_eq : ∀ l : List Sch, bothL l = l.map bothF
 | [] => by simp [bothL]
 | s :: l => by simp [bothL, bothL_eq l]
def encErr (n : Int) : MV := .iface 58 (.int .i64 n)
def errO : Option Val → MV
 | none => encErr 13
 | some _ => .iface0
theorem cl_errO (n : Nat) (o : Option Val) : Cl n (errO o) := by
 cases o
 ·exact .iface _ _ (.int _ _)
 ·exact .iface0
def encO (o : Option Val) : MV := .tup [encV (o.getD noV), errO o]
theorem encO_of (o : Option Val) : ∃ n m s c w, o.getD noV = .mk n m s c w := by
 cases o.getD noV with
 | mk n m s c w => exact ⟨n, m, s, c, w, rfl⟩
def encJ (o : Except Int Val) : MV := .tup [match o with | .error _ => encV noV | .ok v => encV v, match o with | .error n => encErr n | .ok _ => .iface0]
noncomputable def joinVF (s : Sch) (a b : Val) : Except Int Val :=
 if (isF 16 s && isVF s a) = true ∧ (isF 16 s && isVF s b) = true then (match bothF s a b with | some v => .ok v | none => .error 13) else .error 14
end
end Go.Proofs.YtnfcnpdpfgcchaaGreat
namespace Go.Proofs.YtnfcnpdpfgcchaaGreat
open Go Go.MV
theorem large_eq (n m : Int) (s : List Bs) (c : List (List Tk)) (w : List Val) : largeF (.mk n m s c w) = (decide (40 < max (max s.length c.length) w.length) || (decide (c.length = 1) && decide (40 < (c.headD []).length))) := by
 unfold largeF
 congr 1
 rcases c with _ | ⟨x, _ | ⟨y, c⟩⟩ <;> simp [Val.cv]
theorem _root_.zI3 : type_of% @large_eq := @large_eq
theorem isLarge_spec (n m : Int) (s : List Bs) (c : List (List Tk)) (w : List Val) (S : MS) : MCalls Tryz.prog 107 [encV (.mk n m s c w)] S fun v σ' => v = .bool (largeF (.mk n m s c w)) ∧ σ' = S := by
 refine zU Tryz.func107 V Tryz.ntmps107 (zA V) ?_
 refine zB <| qR V <| qB V V V V V <| qA V V V <| qN <| zB <| qR V <| qF V V V zU1 <| qL V V V V ta26 V <| qE V V zX V <| qF V V V zM1 <| qL V V V V ta27 V <| qE V V zN V <| qF V V V zZ0 <| qL V V V V ta28 V <| qE V V zE V ?_
 rw [zO, zC, zC]
 refine qO V <| op_max3 V V V V V <| qC V V V V V <| qM V V V ?_
 refine zD0 (fun h14 => ?_) (fun h14 => ?_)
 ·
  refine qT V V V V <| qT V V V V <| qT V V V V <| qP V V V V <| qA V V V <| qN <| zL ?_
  exact zT (.inr V) Tryz.results107 V (.of_eq (by rw [zI3]; congr 1; rw [zF]; first | (simp_all; done) | (simp_all; omega))) (.bool _) Vv
 ·
  refine qF V V V zM1 <| qL V V V V ta27 V <| qE V V zN V <| qC V V V V V <| qM V V V ?_
  refine zD0 (fun h19 => ?_) (fun h19 => ?_)
  ·
   obtain ⟨c0, rfl⟩ := one_of (by rw [zC] at h19; simp at h19; omega : c.length = 1)
   refine qF V V V zM1 <| qL V V V V ta27 V <| qO V <| zG V zN sz55 (by decide) V V V (show _ = some (encC c0) from V) ?_
   refine qO V <| zI V V ta55 V <| qE V V zP V <| qC V V V V V <| qP V V V V <| qP V V V V <| qA V V V <| qN <| zL ?_
   exact zT (.inr V) Tryz.results107 V (.of_eq (by rw [zI3]; congr 1; rw [zF]; first | (simp_all; done) | (simp_all; omega))) (.bool _) Vv
  ·
   refine qT V V V V <| qS V <| qS V <| qP V V V V <| qP V V V V <| qA V V V <| qN <| zL ?_
   exact zT (.inr V) Tryz.results107 V (.of_eq (by rw [zI3]; congr 1; rw [zF]; first | (simp_all; done) | (simp_all; omega))) (.bool _) Vv
section
theorem get_end {A A' R : MS} {c : MObj} (h : A'.length = A.length) : (A' ++ (R ++ [c]))[(A ++ R).length]? = some c := by
 rw [zM, ← h, getElem?_own]
 exact zS4 (B := [])
section
variable {κ : Type}
end
theorem clo_V (n : Nat) (v : Val) : (MObj.cells (encV v).cells).cl n := by
 have h := zT1 n v
 cases v with
 | mk a b c d e => cases h with
  | agg _ h => exact h
theorem clo_S (n : Nat) (s : Sch) : (MObj.cells (encS s).cells).cl n := by
 have h := cl_encS n s
 cases s with
 | mk a b => cases h with
  | agg _ h => exact h
theorem clo_1 {n : Nat} {x : MV} (h : Cl n x) : (MObj.cells [x]).cl n := fun y hy => by
 rw [List.mem_singleton] at hy; subst hy; exact h
theorem clo_Z (n : Nat) : (MObj.cells [.int .u64 0, .int .u64 0, .lst0, .lst0, .lst0]).cl n := fun y hy => by
 simp only [List.mem_cons, List.not_mem_nil, or_false] at hy
 rcases hy with rfl | rfl | rfl | rfl | rfl
 ·exact .int _ _
 ·exact .int _ _
 ·exact .lst0
 ·exact .lst0
 ·exact .lst0
end
theorem _root_.zE4 : type_of% @Tryz.results63 := @Tryz.results63
theorem arity_spec (k : Int) (S : MS) : MCalls Tryz.prog 63 [.int .i64 k] S fun v σ' => v = .int .i64 (partsF k) ∧ σ' = S := by
 refine zU Tryz.func63 V Tryz.ntmps63 (zA V) ?_
 refine zB <| qR V <| qA V V V <| qN <| zB <| zB <| qR V <| qM V V V <| qN <| zB0 <| zB <| zB <| qR V <| qC V V V V V <| qA V V V <| qN ?_
 refine zK V (fun h4 => ?_) (fun h4 => ?_)
 ·
  refine zY <| zA0 V h4 <| zB <| qR V <| qA V V V <| qN <| zL ?_
  exact zT (.inr V) zE4 V (.refl _) (.int _ _) ⟨by simp_all [partsF], rfl⟩
 ·
  refine zB <| qR V <| qC V V V V V <| qA V V V <| qN ?_
  refine zK V (fun h4 => ?_) (fun h4 => ?_)
  ·
   refine zY <| zA0 V h4 <| zB <| qR V <| qA V V V <| qN <| zL ?_
   exact zT (.inr V) zE4 V (.refl _) (.int _ _) ⟨by simp_all [partsF], rfl⟩
  ·
   refine zB <| qR V <| qC V V V V V <| qA V V V <| qN ?_
   refine zK V (fun h4 => ?_) (fun h4 => ?_)
   ·
    refine zY <| zA0 V h4 <| zB <| qR V <| qA V V V <| qN <| zL ?_
    exact zT (.inr V) zE4 V (.refl _) (.int _ _) ⟨by simp_all [partsF], rfl⟩
   ·
    refine zB <| qR V <| qC V V V V V <| qA V V V <| qN ?_
    refine zK V (fun h4 => ?_) (fun h4 => ?_)
    ·
     refine zY <| zA0 V h4 <| zB <| qR V <| qA V V V <| qN <| zL ?_
     exact zT (.inr V) zE4 V (.refl _) (.int _ _) ⟨by simp_all [partsF], rfl⟩
    ·
     refine qR V <| qC V V V V V <| qA V V V <| qN ?_
     refine zK V (fun h4 => ?_) (fun h4 => ?_)
     ·
      refine zB <| qR V <| qA V V V <| qN <| zL ?_
      exact zT (.inr V) zE4 V (.refl _) (.int _ _) ⟨by simp_all [partsF], rfl⟩
     ·
      refine zB <| zB <| qR V <| qC V V V V V <| qA V V V <| qN ?_
      refine zK V (fun h10 => ?_) (fun h10 => ?_)
      ·
       refine zY <| zA0 V h10 <| zB <| qR V <| qA V V V <| qN <| zL ?_
       exact zT (.inr V) zE4 V (.refl _) (.int _ _) ⟨by simp_all [partsF], rfl⟩
      ·
       refine qR V <| qC V V V V V <| qA V V V <| qN ?_
       refine zK V (fun h10 => ?_) (fun h10 => ?_)
       ·
        refine zB <| qR V <| qA V V V <| qN <| zL ?_
        exact zT (.inr V) zE4 V (.refl _) (.int _ _) ⟨by simp_all [partsF], rfl⟩
       ·
        refine zB <| qR V <| qC V V V V V <| qA V V V <| qN ?_
        refine zK V (fun h13 => ?_) (fun h13 => ?_)
        ·
         refine zB <| qR V <| qA V V V <| qN <| zL ?_
         exact zT (.inr V) zE4 V (.refl _) (.int _ _) ⟨by simp_all [partsF], rfl⟩
        ·
         refine zY <| zB <| qR V <| qA V V V <| qN <| zL ?_
         exact zT (.inr V) zE4 V (.refl _) (.int _ _) ⟨by simp_all [partsF], rfl⟩
theorem rIs_spec (d : Nat) : d < 1000 → ∀ (s : Sch) (S : MS), MCalls Tryz.prog 37 [encS s, .int .i64 (d : Int)] S fun v σ' => v = .bool (isF d s) ∧ σ' = S := by
 induction d with
 | zero =>
  rintro - ⟨k, ins⟩ S
  refine zU Tryz.func37 V Tryz.ntmps37 (zA V) ?_
  refine zB <| qR V <| qB V V V V V <| qA V V V <| qN <| zB <| zB ?_
  refine zV0 [] [_] mo (by decide) V V V V ?_
  refine dO V V V (zS V V Vv) <| dO V V V (zQ2 V V V V Vv) <| dO V V V (zS V V Vv) <| dS V V <| dS V V <| dS V V <| dS V V <| dS V V <| dS V V <| dS V V <| dO V V V (zD1 V V V Vv) <| zK0 <| zA0 V (V) <| zB <| qR V <| qA V V V <| qN <| zL ?_
  exact zT (.inr V) Tryz.results37 V (.refl _) (.bool _) ⟨by simp [isF], rfl⟩
 | succ d ih =>
  rintro hd ⟨k, ins⟩ S
  have h0 : decide (((d + 1 : Nat) : Int) ≤ 0) = false := by simp <;> omega
  have hsub : IntKind.i64.wrap (((d + 1 : Nat) : Int) - 1) = (d : Int) := by rw [wrap_i64 (by omega)]; omega
  refine zU Tryz.func37 V Tryz.ntmps37 (zA V) ?_
  refine zB <| qR V <| qB V V V V V <| qA V V V <| qN <| zB <| zB ?_
  refine zV0 [] [_] mo (by decide) V V V V ?_
  refine dO V V V (zS V V Vv) <| dO V V V (zQ2 V V V V Vv) ?_
  rw [h0]
  refine dO V V V (zS V V Vv) <| dO V V V (zJ V V zR2 Vv) <| dO V V V (zE0 V V V ta22 V Vv) <| dO V V V (zP2 V zJ0 V Vv) <| dO V V V (zJ V V zC2 Vv) <| dO V V V (zE0 V V V ta3 V Vv) <| zV V V (.cons (zC1 V V V co63 (arity_spec _ _)) .nil) <| dO V V V (zQ2 V V V V Vv) <| dO V V V (zD1 V V V Vv) <| zK0 ?_
  refine zK V (fun h16 => ?_) (fun h16 => ?_)
  ·
   refine zB <| qR V <| qA V V V <| qN <| zL ?_
   exact zT (.inr V) Tryz.results37 V (.refl _) (.bool _) ⟨by rw [zV3] at h16; simp at h16; simp [isF]; try (intro h; exact absurd h.symm h16), rfl⟩
  ·
   refine zI2 (t := 10) V fun hlen => ?_
   rw [zV3] at hlen
   refine zY <| zB <| zB <| qR V <| qA V V V <| qN <| zB0 ?_
   refine mwp_loop0 (α := Nat) (fun i => [(1, .int .i64 ((d + 1 : Nat) : Int)), (2, .ref (S.length + 0) 0), (5, .int .i64 (i : Int))]) (fun i => [.cells [.int .i64 k, .lst none 2 (encSs ins)]]) (fun i => i ≤ ins.length ∧ (ins.take i).all (isF d) = true) (fun i => ins.length - i) (0) ⟨by omega, rfl⟩ V (.keep V (.keep V (.keep V .nil))) ?_
   rintro i ⟨hi, hall⟩
   refine zB <| zB <| qR V <| qM V V V <| qF V V V zR2 <| qL V V V V ta22 V <| qE V V zJ0 V <| qC V V V V V <| qN ?_
   refine zK V (fun h21 => ?_) (fun h21 => ?_)
   ·
    have hlt : i < ins.length := by rw [zV3] at h21; simpa using h21
    obtain ⟨⟨k2, ins2⟩, hs⟩ : ∃ s, ins[i]? = some s := ⟨_, zD hlt⟩
    refine zY <| zB <| zB0 <| zB <| qR V <| qF V V V zR2 <| qL V V V V ta22 V <| qM V V V <| qO V <| zG V zJ0 sz24 (by decide) V V V (encSs_get hs) ?_
    refine qO V <| zI V V ta24 V <| qM V V V <| qO V <| zO0 V V V V ?_
    rw [hsub]
    refine qX V V V V co37 (ih (by omega) (.mk k2 ins2) _) ?_
    refine qO V <| zY0 V V <| qN ?_
    refine zK V (fun h32 => ?_) (fun h32 => ?_)
    ·
     refine zB <| qR V <| qA V V V <| qN <| zL ?_
     exact zT (.inr V) Tryz.results37 V (.refl _) (.bool _) ⟨by simp only [isF]; rw [List.all_eq_false.2 ⟨_, zC0 hs, by simpa using h32⟩]; simp, rfl⟩
    ·
     refine zY <| qR V <| qM V V V <| qO V <| zO0 V V V V <| qA V V V <| qN ?_
     refine ⟨i + 1, by omega, ⟨by omega, ?_⟩, rfl, .keep V (.keep V (.eq V (zK1 hlt hlen) .nil))⟩
     rw [List.take_add_one, hs]
     simp [hall]
     simpa using h32
   ·
    have hge : i = ins.length := by rw [zV3] at h21; simp at h21; omega
    refine zF1 <| zB <| qR V <| qA V V V <| qN <| zL ?_
    exact zT (.inr V) Tryz.results37 V (.refl _) (.bool _) ⟨by rw [hge, List.take_length] at hall; rw [zV3] at h16; simp at h16; simp [isF, hall, h16], rfl⟩
theorem rIsSchema_spec (s : Sch) (S : MS) : MCalls Tryz.prog 21 [encS s] S fun v σ' => v = .bool (isF 16 s) ∧ σ' = S := by
 obtain ⟨k, ins⟩ := s
 refine zU Tryz.func21 V Tryz.ntmps21 (zA V) ?_
 refine zB <| qR V <| qB V V V V V <| qA V V V <| qN <| zB <| qR V <| qL V V V V ta24 V ?_
 refine qX V V V V co37 (rIs_spec 16 (by omega) (.mk k ins) _) ?_
 refine qA V V V <| qN <| zL ?_
 exact zT (.inr V) Tryz.results21 V (.refl _) (.bool _) Vv
theorem withF_t (w n : Int) (t : Tk) (c : List Tk) : withF w n true (t :: c) = t :: withF w n true c := by rw [withF]
theorem withF_f (w n : Int) (t : Tk) (c : List Tk) : withF w n false (t :: c) = if w ≤ t.1 then (if t.1 = w then (w, if t.2 > n then t.2 else n) :: withF w n true c else (w, n) :: t :: withF w n true c) else t :: withF w n false c := by rw [withF]
theorem drop_cons {α : Type} {l : List α} {i : Nat} {a : α} (h : l[i]? = some a) : l.drop i = a :: l.drop (i + 1) := by
 obtain ⟨hlt, e⟩ := zH.1 h
 rw [List.drop_eq_getElem_cons hlt, e]
theorem rIsClock_spec (c : List Tk) (S : MS) : MCalls Tryz.prog 41 [.lst none 2 (c.map encT)] S fun v σ' => v = .bool (isClockF c) ∧ σ' = S := by
 refine zU Tryz.func41 V Tryz.ntmps41 (zA V) ?_
 refine zI2 (t := 0) V fun hlen => ?_
 rw [zC] at hlen
 refine zB <| qR V <| qA V V V <| qN <| zB <| zB <| qR V <| qA V V V <| qN <| zB0 ?_
 refine zQ1 (α := Nat) [(0, _)] (fun i => [(3, .int .i64 (i : Int))]) (fun i => []) (fun i => i ≤ c.length ∧ ∀ j, j < i → okAt c j = true) (fun i => c.length - i) (0) (.keep V (.nil)) (.keep V (.nil)) (⟨by omega, fun j hj => by omega⟩) (V) ?_
 rintro i ⟨hi, hall⟩
 refine zB <| zB <| qR V <| qM V V V <| qM V V V <| qE V V zP V <| qC V V V V V <| qN ?_
 refine zK V (fun h7 => ?_) (fun h7 => ?_)
 ·
  have hlt : i < c.length := by simpa using h7
  obtain ⟨t, hs⟩ : ∃ q_, c[i]? = some q_ := ⟨_, zD hlt⟩
  refine zY <| zB <| zB0 <| zB ?_
  refine zV0 [] [_] mo (by decide) V V V V ?_
  refine dO V V V (zS V V Vv) <| dO V V V (zS V V Vv) <| dO V V V (zG V zP sz54 (by decide) V V V (zR0 hs) Vv) ?_
  refine dO V V V (zE1 V V zB4 Vv) <| dO V V V (zI V V ta3 V Vv) <| dO V V V (zQ2 V V V V Vv) <| dO V V V (zS V V Vv) ?_
  refine zF2 (fun h16 => ?_) (fun h16 => ?_)
  ·
   refine dS V V <| dS V V <| dS V V <| dS V V <| dS V V <| dS V V <| dO V V V (zD1 V V V Vv) <| dO V V V (zS V V Vv) <| dS V V <| dS V V <| dS V V <| dS V V <| dS V V <| dS V V <| dO V V V (zD1 V V V Vv) <| dO V V V (zS V V Vv) <| dS V V <| dS V V <| dS V V <| dS V V <| dS V V <| dS V V <| dS V V <| dS V V <| dS V V <| dS V V <| dS V V <| dS V V <| dS V V <| dS V V ?_
   refine dS V V <| dS V V <| dO V V V (zD1 V V V Vv) <| zK0 <| zA0 V (V) <| zB <| qR V <| qA V V V <| qN <| zL ?_
   exact zT (.inr V) Tryz.results41 V (.of_eq (by rw [zL4 hlt (by simp_all [okAt] <;> omega)])) (.bool _) Vv
  ·
   refine dO V V V (zS V V Vv) <| dO V V V (zS V V Vv) <| dO V V V (zG V zP sz54 (by decide) V V V (zR0 hs) Vv) ?_
   refine dO V V V (zE1 V V zB4 Vv) <| dO V V V (zI V V ta3 V Vv) <| dO V V V (zQ2 V V V V Vv) <| dO V V V (zD1 V V V Vv) <| dO V V V (zS V V Vv) ?_
   refine zF2 (fun h24 => ?_) (fun h24 => ?_)
   ·
    refine dS V V <| dS V V <| dS V V <| dS V V <| dS V V <| dS V V <| dO V V V (zD1 V V V Vv) <| dO V V V (zS V V Vv) <| dS V V <| dS V V <| dS V V <| dS V V <| dS V V <| dS V V <| dS V V <| dS V V <| dS V V <| dS V V <| dS V V <| dS V V <| dS V V <| dS V V <| dS V V <| dS V V <| dO V V V (zD1 V V V Vv) <| zK0 <| zA0 V (V) <| zB <| qR V <| qA V V V ?_
    refine qN <| zL ?_
    exact zT (.inr V) Tryz.results41 V (.of_eq (by rw [zL4 hlt (by simp_all [okAt] <;> omega)])) (.bool _) Vv
   ·
    refine dO V V V (zS V V Vv) <| dO V V V (zS V V Vv) <| dO V V V (zG V zP sz54 (by decide) V V V (zR0 hs) Vv) ?_
    refine dO V V V (zE1 V V zX5 Vv) <| dO V V V (zI V V ta25 V Vv) <| dO V V V (zQ2 V V V V Vv) <| dO V V V (zD1 V V V Vv) <| dO V V V (zS V V Vv) ?_
    refine zF2 (fun h32 => ?_) (fun h32 => ?_)
    ·
     refine dS V V <| dS V V <| dS V V <| dS V V <| dS V V <| dS V V <| dS V V <| dS V V <| dS V V <| dS V V <| dS V V <| dS V V <| dS V V <| dS V V <| dS V V <| dS V V <| dO V V V (zD1 V V V Vv) <| zK0 <| zA0 V (V) <| zB <| qR V <| qA V V V <| qN <| zL ?_
     exact zT (.inr V) Tryz.results41 V (.of_eq (by rw [zL4 hlt (by simp_all [okAt] <;> omega)])) (.bool _) Vv
    ·
     refine dO V V V (zS V V Vv) <| dO V V V (zQ2 V V V V Vv) <| dO V V V (zS V V Vv) ?_
     refine zF2 (fun h35 => ?_) (fun h35 => ?_)
     ·
      have hi0 : 0 < i := by simpa using h35
      obtain ⟨p, hp⟩ : ∃ a, c[i - 1]? = some a := ⟨_, zD (by omega)⟩
      refine dO V V V (zS V V Vv) <| dO V V V (zS V V Vv) <| dO V V V (zO0 V V V (wsub (a := i) (b := 1) (c := i - 1) (by omega) (by simp only [maxLen] at hlen; omega)) Vv) ?_
      refine dO V V V (zG V zP sz54 (by decide) V V V (zR0 hp) Vv) ?_
      refine dO V V V (zE1 V V zB4 Vv) <| dO V V V (zI V V ta3 V Vv) <| dO V V V (zS V V Vv) <| dO V V V (zS V V Vv) <| dO V V V (zG V zP sz54 (by decide) V V V (zR0 hs) Vv) ?_
      refine dO V V V (zE1 V V zB4 Vv) <| dO V V V (zI V V ta3 V Vv) <| dO V V V (zQ2 V V V V Vv) <| dO V V V (zD1 V V V Vv) <| dO V V V (zD1 V V V Vv) <| zK0 ?_
      refine zK V (fun h49 => ?_) (fun h49 => ?_)
      ·
       refine zB <| qR V <| qA V V V <| qN <| zL ?_
       exact zT (.inr V) Tryz.results41 V (.of_eq (by rw [zL4 hlt (by simp_all [okAt] <;> omega)])) (.bool _) Vv
      ·
       refine zY <| qR V <| qM V V V <| qO V <| zO0 V V V V <| qA V V V <| qN ?_
       refine ⟨i + 1, by omega, ⟨by omega, fun j hj => ?_⟩, rfl, (.keep V (.nil)), (.eq V (zK1 hlt hlen) (.nil))⟩
       by_cases e : j = i
       ·subst e; simp_all [okAt]
       ·exact hall j (by omega)
     ·
      refine dS V V <| dS V V <| dS V V <| dS V V <| dS V V <| dS V V <| dS V V <| dS V V <| dS V V <| dS V V <| dS V V <| dS V V <| dO V V V (zD1 V V V Vv) <| dO V V V (zD1 V V V Vv) <| zK0 <| zQ V (V) <| zY <| qR V <| qM V V V <| qO V <| zO0 V V V V <| qA V V V <| qN ?_
      refine ⟨i + 1, by omega, ⟨by omega, fun j hj => ?_⟩, rfl, (.keep V (.nil)), (.eq V (zK1 hlt hlen) (.nil))⟩
      by_cases e : j = i
      ·subst e; simp_all [okAt]
      ·exact hall j (by omega)
 ·
  have hge : i = c.length := by simp at h7; omega
  refine zF1 <| zB <| qR V <| qM V V V <| qE V V zP V <| qC V V V V V <| qA V V V <| qN <| zL ?_
  exact zT (.inr V) Tryz.results41 V (.of_eq (by rw [isClock_end (fun j hj => hall j (by omega)), zC])) (.bool _) Vv
theorem rOf_spec (c : List Tk) (w : Int) (S : MS) : MCalls Tryz.prog 111 [.lst none 2 (c.map encT), .int .i64 w] S fun v σ' => v = .int .u64 (ofF c w) ∧ σ' = S := by
 refine zU Tryz.func111 V Tryz.ntmps111 (zA V) ?_
 refine zI2 (t := 0) V fun hlen => ?_
 rw [zC] at hlen
 refine zB <| qR V <| qA V V V <| qN <| zB <| zB <| qR V <| qA V V V <| qN <| zB0 ?_
 refine zQ1 (α := Nat) [(0, _), (1, _)] (fun i => [(5, .int .i64 (i : Int))]) (fun i => []) (fun i => i ≤ c.length ∧ ∀ j, j < i → ∀ t, c[j]? = some t → t.1 ≠ w) (fun i => c.length - i) (0) (.keep V (.keep V (.nil))) (.keep V (.nil)) (⟨by omega, fun j hj => by omega⟩) (V) ?_
 rintro i ⟨hi, hall⟩
 refine zB <| zB <| qR V <| qM V V V <| qM V V V <| qE V V zP V <| qC V V V V V <| qN ?_
 refine zK V (fun h9 => ?_) (fun h9 => ?_)
 ·
  have hlt : i < c.length := by simpa using h9
  obtain ⟨t, hs⟩ : ∃ q_, c[i]? = some q_ := ⟨_, zD hlt⟩
  refine zY <| zB <| zB0 <| zB <| qR V <| qM V V V <| qM V V V <| qO V <| zG V zP sz54 (by decide) V V V (zR0 hs) ?_
  refine qO V <| zE1 V V zB4 <| qO V <| zI V V ta3 V <| qM V V V <| qC V V V V V <| qN ?_
  refine zK V (fun h18 => ?_) (fun h18 => ?_)
  ·
   refine zB <| qR V <| qM V V V <| qM V V V <| qO V <| zG V zP sz54 (by decide) V V V (zR0 hs) ?_
   refine qO V <| zE1 V V zX5 <| qO V <| zI V V ta25 V <| qA V V V <| qN <| zL ?_
   exact zT (.inr V) Tryz.results111 V (.of_eq (by rw [← of_drop hall, drop_cons hs, ofF, if_pos (by simpa using h18)])) (.int _ _) Vv
  ·
   refine zY <| qR V <| qM V V V <| qO V <| zO0 V V V V <| qA V V V <| qN ?_
   refine ⟨i + 1, by omega, ⟨by omega, fun j hj s hj2 => ?_⟩, rfl, (.keep V (.keep V (.nil))), (.eq V (zK1 hlt hlen) (.nil))⟩
   by_cases e : j = i
   ·subst e; rw [hs] at hj2; injection hj2 with hj2; subst hj2; simpa using h18
   ·exact hall j (by omega) s hj2
 ·
  have hge : i = c.length := by simp at h9; omega
  refine zF1 <| zB <| qR V <| qA V V V <| qN <| zL ?_
  exact zT (.inr V) Tryz.results111 V (.of_eq (by rw [← of_drop hall, hge, List.drop_length]; rfl)) (.int _ _) Vv
theorem rSameC_spec (a b : List Tk) (S : MS) : MCalls Tryz.prog 28 [.lst none 2 (a.map encT), .lst none 2 (b.map encT)] S fun v σ' => v = .bool (decide (a = b)) ∧ σ' = S := by
 refine zU Tryz.func28 V Tryz.ntmps28 (zA V) ?_
 refine zI2 (t := 0) V fun hlen => ?_
 rw [zC] at hlen
 refine zB <| qR V <| qA V V V <| qN <| zB <| zB <| qR V <| qM V V V <| qE V V zP V <| qM V V V <| qE V V zP V <| qC V V V V V <| qN ?_
 refine zK V (fun h10 => ?_) (fun h10 => ?_)
 ·
  refine zB <| qR V <| qA V V V <| qN <| zL ?_
  exact zT (.inr V) Tryz.results28 V (.of_eq (by congr 1; symm; rw [decide_eq_false_iff_not]; intro e; subst e; simp at h10)) (.bool _) Vv
 ·
  have hab : a.length = b.length := by simp at h10; omega
  refine zY <| zB <| zB <| qR V <| qA V V V <| qN <| zB0 ?_
  refine zQ1 (α := Nat) [(0, _), (1, _)] (fun i => [(5, .int .i64 (i : Int))]) (fun i => []) (fun i => i ≤ a.length ∧ a.take i = b.take i) (fun i => a.length - i) (0) (.keep V (.keep V (.nil))) (.keep V (.nil)) (⟨by omega, rfl⟩) (V) ?_
  rintro i ⟨hi, heq⟩
  refine zB <| zB <| qR V <| qM V V V <| qM V V V <| qE V V zP V <| qC V V V V V <| qN ?_
  refine zK V (fun h14 => ?_) (fun h14 => ?_)
  ·
   have hlt : i < a.length := by simpa using h14
   obtain ⟨x, hs⟩ : ∃ q_, a[i]? = some q_ := ⟨_, zD hlt⟩
   obtain ⟨y, hs2⟩ : ∃ s, b[i]? = some s := ⟨_, zD (by omega)⟩
   refine zY <| zB <| zB0 <| zB ?_
   refine zV0 [] [_] mo (by decide) V V V V ?_
   refine dO V V V (zS V V Vv) <| dO V V V (zS V V Vv) <| dO V V V (zG V zP sz54 (by decide) V V V (zR0 hs) Vv) ?_
   refine dO V V V (zI V V ta54 V Vv) <| dO V V V (zS V V Vv) <| dO V V V (zS V V Vv) <| dO V V V (zG V zP sz54 (by decide) V V V (zR0 hs2) Vv) ?_
   refine dO V V V (zI V V ta54 V Vv) <| zV V V (.cons (op_eqstruct V (by kernel_rfl) V V V (.inr Vv) Vv) .nil) ?_
   refine zK0 ?_
   refine zK V (fun h25 => ?_) (fun h25 => ?_)
   ·
    refine zB <| qR V <| qA V V V <| qN <| zL ?_
    exact zT (.inr V) Tryz.results28 V (.of_eq (by congr 1; symm; rw [decide_eq_false_iff_not]; intro e; subst e; rw [hs2] at hs; injection hs with hs; subst hs; simp at h25)) (.bool _) Vv
   ·
    refine zY <| qR V <| qM V V V <| qO V <| zO0 V V V V <| qA V V V <| qN ?_
    refine ⟨i + 1, by omega, ⟨by omega, ?_⟩, rfl, (.keep V (.keep V (.nil))), (.eq V (zK1 hlt hlen) (.nil))⟩
    rw [List.take_add_one, List.take_add_one, hs, hs2, heq]
    obtain ⟨x1, x2⟩ := x; obtain ⟨y1, y2⟩ := y
    simp at h25
    rw [h25.1, h25.2]
  ·
   have hge : i = a.length := by simp at h14; omega
   refine zF1 <| zB <| qR V <| qA V V V <| qN <| zL ?_
   exact zT (.inr V) Tryz.results28 V (.of_eq (by congr 1; symm; rw [decide_eq_true_iff]; rw [hge, List.take_length, hab, List.take_length] at heq; exact heq)) (.bool _) Vv
theorem rwith_spec (c : List Tk) (w n : Int) (hc : c.length + 3 ≤ 1000000) (S : MS) : MCalls Tryz.prog 82 [.lst none 2 (c.map encT), .int .i64 w, .int .u64 n] S fun v σ' => v = .lst none 2 ((rwith c w n).map encT) ∧ σ' = S := by
 refine zU Tryz.func82 V Tryz.ntmps82 (zA V) ?_
 refine zI2 (t := 0) V fun hlen => ?_
 rw [zC] at hlen
 refine zB <| qR V <| qA V V V <| qN <| zB <| qR V <| qA V V V <| qN <| zB <| qR V <| qM V V V <| qC V V V V V <| qA V V V <| qN <| zB <| zB <| qR V <| qA V V V <| qN <| zB0 <| mwp_row0 7 54 2 V (Nat.le_refl _) V V ?_
 refine mwp_loopKJ (α := Nat × Bool × List Tk) [(0, _), (1, _), (2, _)] (fun x => [(9, .int .i64 (x.1 : Int)), (8, .bool x.2.1), (7, .lst (some (S.length + 0)) 2 (x.2.2.map encT))]) (fun x => [.row 54 2 x.2.2.length]) (fun x => x.1 ≤ c.length ∧ x.2.2 ++ withF w n x.2.1 (c.drop x.1) = withF w n (n == 0) c) (fun x => c.length - x.1) (⟨0, n == 0, []⟩) (Nat.le_refl _) (.keep V (.keep V (.keep V (.nil)))) (.keep V (.keep V (.keep V (.nil)))) (⟨by simp, rfl⟩) (V) ?_
 rintro ⟨i, dn, out⟩ ⟨hi, he⟩
 dsimp only at hi he ⊢
 have hol : out.length ≤ c.length + 1 := by have h1 := congrArg List.length he; have h2 := with_len w n (n == 0) c; rw [zM] at h1; omega
 refine zB <| zB <| qR V <| qM V V V <| qM V V V <| qE V V zP V <| qC V V V V V <| qN ?_
 refine zK V (fun h16 => ?_) (fun h16 => ?_)
 ·
  have hlt : i < c.length := by simpa using h16
  obtain ⟨t, hs⟩ : ∃ q_, c[i]? = some q_ := ⟨_, zD hlt⟩
  have hdr := drop_cons hs
  refine zY <| zB <| zB0 <| zB <| zB ?_
  cases hd : dn
  ·
   rw [hd] at he
   refine qR V <| qM V V V <| qO V <| zY0 V V <| qM V V V <| qM V V V <| qM V V V <| qO V <| zG V zP sz54 (by decide) V V V (zR0 hs) ?_
   refine qO V <| zE1 V V zB4 <| qO V <| zI V V ta3 V <| qM V V V <| qC V V V V V <| qP V V V V <| qN ?_
   refine zK V (fun h29 => ?_) (fun h29 => ?_)
   ·
    refine zB <| qR V <| qM V V V <| qM V V V <| qO V <| zZ1 V zO6 zm54 (.cons zB4 sz3 V V (zA V) (.cons zX5 sz25 V V (zA V) .nil)) (by kernel_rfl) ?_
    refine qO V <| zL0 V zm54 V V <| qO V <| zG0 V V V V sz54 V V (zA V) V <| qN <| zB <| zB <| qR V <| qM V V V <| qM V V V <| qO V <| zG V zP sz54 (by decide) V V V (zR0 hs) ?_
    refine qO V <| zE1 V V zB4 <| qO V <| zI V V ta3 V <| qM V V V <| qC V V V V V <| qN ?_
    refine zK V (fun h39 => ?_) (fun h39 => ?_)
    ·
     refine qR V <| qM V V V <| qM V V V <| qM V V V <| qO V <| zG V zP sz54 (by decide) V V V (zR0 hs) ?_
     refine qO V <| zE1 V V zX5 <| qO V <| zI V V ta25 V <| qO V <| op_max2 V V V <| qF V V V zX5 <| qO V <| zG0 V V V V sz25 V V (zA V) V <| qN <| zB <| qR V <| qM V V V <| qL V V V V ta54 V <| qO V <| zA1 V zP el54 V V (by decide) (by decide) V V ?_
     refine qO V <| zG2 V zP el54 V V V (by simp) (by simp only [zW, List.length_nil, zC, zM]; omega) (by simp only [zW, List.length_nil, zC, zM]; omega) V ?_
     refine qA V V V <| qA V V V <| qN <| zB <| qR V <| qM V V V <| qM V V V <| qO V <| zG V zP sz54 (by decide) V V V (zR0 hs) ?_
     refine qO V <| zE1 V V zB4 <| qO V <| zI V V ta3 V <| qM V V V <| qC V V V V V <| qN <| zA0 V (h39) <| zF1 <| qR V <| qM V V V <| qO V <| zO0 V V V V <| qA V V V <| qN ?_
     simp only [decide_eq_true_eq, beq_iff_eq] at h29 h39
     refine ⟨⟨i + 1, true, out ++ [(w, if t.2 > n then t.2 else n)]⟩, _, by dsimp only; omega, ⟨by dsimp only; omega, by dsimp only; rw [← he, hdr, withF_f, if_pos h29, if_pos h39]; simp⟩, by rw [zM]; rfl, .new trivial .nil, (.old V V (.old V V (.old V V (.nil)))), (.new' V (zK1 hlt hlen) (.int _ _) (.new' V (V) (.bool _) (.new' V (by rw [List.map_append]; rfl) (cl_lstT (by simp) (cl_encT _) encT_agg) (.nil))))⟩
    ·
     refine zY <| zB <| qR V <| qM V V V <| qL V V V V ta54 V <| qO V <| zA1 V zP el54 V V (by decide) (by decide) V V ?_
     refine qO V <| zG2 V zP el54 V V V (by simp) (by simp only [zW, List.length_nil, zC, zM]; omega) (by simp only [zW, List.length_nil, zC, zM]; omega) V ?_
     refine qA V V V <| qA V V V <| qN <| zB <| qR V <| qM V V V <| qM V V V <| qO V <| zG V zP sz54 (by decide) V V V (zR0 hs) ?_
     refine qO V <| zE1 V V zB4 <| qO V <| zI V V ta3 V <| qM V V V <| qC V V V V V <| qN <| zQ V (h39) <| zY <| qR V <| qM V V V <| qM V V V <| qM V V V <| qO V <| zG V zP sz54 (by decide) V V V (zR0 hs) ?_
     refine qO V <| zI V V ta54 V <| qO V <| zA1 V zP el54 V V (by decide) (by decide) V V ?_
     refine qO V <| zG2 V zP el54 V V V (by simp) (by simp only [zW, List.length_nil, zC, zM]; omega) (by simp only [zW, List.length_nil, zC, zM]; omega) V ?_
     refine qA V V V <| qN <| qR V <| qM V V V <| qO V <| zO0 V V V V <| qA V V V <| qN ?_
     simp only [decide_eq_true_eq, beq_eq_false_iff_ne] at h29 h39
     refine ⟨⟨i + 1, true, (out ++ [(w, n)]) ++ [t]⟩, _, by dsimp only; omega, ⟨by dsimp only; omega, by dsimp only; rw [← he, hdr, withF_f, if_pos h29, if_neg h39]; simp⟩, by rw [zM, zM]; rfl, .new trivial .nil, (.old V V (.old V V (.old V V (.nil)))), (.new' V (zK1 hlt hlen) (.int _ _) (.new' V (V) (.bool _) (.new' V (by rw [List.map_append, List.map_append]; rfl) (cl_lstT (by simp) (cl_encT _) encT_agg) (.nil))))⟩
   ·
    refine zY <| qR V <| qM V V V <| qM V V V <| qM V V V <| qO V <| zG V zP sz54 (by decide) V V V (zR0 hs) ?_
    refine qO V <| zI V V ta54 V <| qO V <| zA1 V zP el54 V V (by decide) (by decide) V V ?_
    refine qO V <| zG2 V zP el54 V V V (by simp) (by simp only [zW, List.length_nil, zC, zM]; omega) (by simp only [zW, List.length_nil, zC, zM]; omega) V ?_
    refine qA V V V <| qN <| qR V <| qM V V V <| qO V <| zO0 V V V V <| qA V V V <| qN ?_
    simp only [decide_eq_false_iff_not] at h29
    refine ⟨⟨i + 1, false, out ++ [t]⟩, _, by dsimp only; omega, ⟨by dsimp only; omega, by dsimp only; rw [← he, hdr, withF_f, if_neg h29]; simp⟩, by rw [zM]; rfl, .new trivial .nil, (.old V V (.old V V (.old V V (.nil)))), (.new' V (zK1 hlt hlen) (.int _ _) (.new' V (V) (.bool _) (.new' V (by rw [List.map_append]; rfl) (cl_lstT (by simp) (cl_encT _) encT_agg) (.nil))))⟩
  ·
   rw [hd] at he
   refine qR V <| qM V V V <| qO V <| zY0 V V <| qM V V V <| qT V V V V <| qS V <| qS V <| qS V <| qP V V V V <| qN <| zQ V (V) <| zY <| qR V <| qM V V V <| qM V V V <| qM V V V <| qO V <| zG V zP sz54 (by decide) V V V (zR0 hs) ?_
   refine qO V <| zI V V ta54 V <| qO V <| zA1 V zP el54 V V (by decide) (by decide) V V ?_
   refine qO V <| zG2 V zP el54 V V V (by simp) (by simp only [zW, List.length_nil, zC, zM]; omega) (by simp only [zW, List.length_nil, zC, zM]; omega) V ?_
   refine qA V V V <| qN <| qR V <| qM V V V <| qO V <| zO0 V V V V <| qA V V V <| qN ?_
   refine ⟨⟨i + 1, true, out ++ [t]⟩, _, by dsimp only; omega, ⟨by dsimp only; omega, by dsimp only; rw [← he, hdr, withF_t]; simp⟩, by rw [zM]; rfl, .new trivial .nil, (.old V V (.old V V (.old V V (.nil)))), (.new' V (zK1 hlt hlen) (.int _ _) (.new' V (V) (.bool _) (.new' V (by rw [List.map_append]; rfl) (cl_lstT (by simp) (cl_encT _) encT_agg) (.nil))))⟩
 ·
  have hge : i = c.length := by simp at h16; omega
  refine zF1 <| zB <| zB <| qR V <| qM V V V <| qO V <| zY0 V V <| qN ?_
  refine zK V (fun h67 => ?_) (fun h67 => ?_)
  ·
   refine qR V <| qM V V V <| qM V V V <| qM V V V <| qO V <| zZ1 V zO6 zm54 (.cons zB4 sz3 V V (zA V) (.cons zX5 sz25 V V (zA V) .nil)) (by kernel_rfl) ?_
   refine qO V <| zA1 V zP el54 V V (by decide) (by decide) V V ?_
   refine qO V <| zG2 V zP el54 V V V (by simp) (by simp only [zW, List.length_nil, zC, zM]; omega) (by simp only [zW, List.length_nil, zC, zM]; omega) V ?_
   refine qA V V V <| qN <| zB <| qR V <| qM V V V <| qA V V V <| qN <| zL ?_
   have hd : dn = false := by simpa using h67
   exact zT (.inr V) Tryz.results82 V (Sub.trans (.view _ _ _) (.of_eq (by show _ = MV.lst none 2 ((withF w n (n == 0) c).map encT); rw [← he, hd, hge, List.drop_length, withF, List.map_append]; rfl))) (cl_clock _ _) Vv
  ·
   refine zY <| zB <| qR V <| qM V V V <| qA V V V <| qN <| zL ?_
   have hd : dn = true := by simpa using h67
   exact zT (.inr V) Tryz.results82 V (Sub.trans (.view _ _ _) (.of_eq (by show _ = MV.lst none 2 ((withF w n (n == 0) c).map encT); rw [← he, hd, hge, List.drop_length, withF, List.append_nil]))) (cl_clock _ _) Vv
theorem rJoinC_spec (a b : List Tk) (hab : a.length + b.length + 3 ≤ 1000000) (S : MS) : MCalls Tryz.prog 56 [.lst none 2 (a.map encT), .lst none 2 (b.map encT)] S fun v σ' => v = .lst none 2 ((rjoinF a b).map encT) ∧ σ' = S := by
 refine zU Tryz.func56 V Tryz.ntmps56 (zA V) ?_
 refine zI2 (t := 1) V fun hlen => ?_
 rw [zC] at hlen
 refine zB <| qR V <| qA V V V <| qN <| zB <| qR V <| qM V V V <| qO V <| zB5 V zP el54 V V (by rw [zC]; omega) (by rw [zC]; omega) V V ?_
 refine qA V V V <| qN <| zB <| zB <| qR V <| qA V V V <| qN <| zB0 ?_
 refine zQ1 (α := Nat × List Tk) [(1, _)] (fun x => [(6, .int .i64 (x.1 : Int)), (5, .lst none 2 (x.2.map encT))]) (fun x => [.row 54 2 (a.map encT).length]) (fun x => x.1 ≤ b.length ∧ x.2.length ≤ a.length + x.1 ∧ rjoinF x.2 (b.drop x.1) = rjoinF a b) (fun x => b.length - x.1) (⟨0, a⟩) (.keep V (.nil)) (.keep V (.cons V (.view _ _ _) (.nil))) (⟨by simp, by simp, rfl⟩) (V) ?_
 rintro ⟨i, out⟩ ⟨hi, hol, he⟩
 dsimp only at hi hol he ⊢
 refine zB <| zB <| qR V <| qM V V V <| qM V V V <| qE V V zP V <| qC V V V V V <| qN ?_
 refine zK V (fun h12 => ?_) (fun h12 => ?_)
 ·
  have hlt : i < b.length := by simpa using h12
  obtain ⟨t, hs⟩ : ∃ q_, b[i]? = some q_ := ⟨_, zD hlt⟩
  refine zY <| zB <| zB0 ?_
  refine zV0 [] [_] mo (by decide) V V V V ?_
  refine dO V V V (zS V V Vv) <| dO V V V (zS V V Vv) <| dO V V V (zS V V Vv) <| dO V V V (zG V zP sz54 (by decide) V V V (zR0 hs) Vv) ?_
  refine dO V V V (zE1 V V zB4 Vv) <| dO V V V (zI V V ta3 V Vv) <| dO V V V (zS V V Vv) <| dO V V V (zS V V Vv) <| dO V V V (zG V zP sz54 (by decide) V V V (zR0 hs) Vv) ?_
  refine dO V V V (zE1 V V zX5 Vv) <| dO V V V (zI V V ta25 V Vv) <| zV V V (.cons (zC1 V V V co82 (rwith_spec out t.1 t.2 (by omega) _)) .nil) ?_
  refine dO V V V (zB1 V V Vv) <| zK0 <| qR V <| qM V V V <| qO V <| zO0 V V V V <| qA V V V <| qN ?_
  refine ⟨⟨i + 1, rwith out t.1 t.2⟩, by dsimp only; omega, ⟨by dsimp only; omega, by have := rwith_len out t.1 t.2; dsimp only; omega, by dsimp only; rw [← he, drop_cons hs]; rfl⟩, rfl, (.keep V (.nil)), (.eq V (zK1 hlt hlen) (.eq V (V) (.nil)))⟩
 ·
  have hge : i = b.length := by simp at h12; omega
  refine zF1 <| zB <| qR V <| qM V V V <| qA V V V <| qN <| zL ?_
  exact zT (.inr V) Tryz.results56 V (.of_eq (by rw [← he, hge, List.drop_length]; rfl)) (cl_clock _ _) Vv
theorem _root_.zG5 : type_of% @rJoinC_spec := @rJoinC_spec
theorem rUnder_spec (a b : List Tk) (S : MS) : MCalls Tryz.prog 90 [.lst none 2 (a.map encT), .lst none 2 (b.map encT)] S fun v σ' => v = .bool (underF a b) ∧ σ' = S := by
 refine zU Tryz.func90 V Tryz.ntmps90 (zA V) ?_
 refine zI2 (t := 0) V fun hlen => ?_
 rw [zC] at hlen
 refine zB <| qR V <| qA V V V <| qN <| zB <| zB <| qR V <| qA V V V <| qN <| zB0 ?_
 refine zQ1 (α := Nat) [(0, _), (1, _)] (fun i => [(5, .int .i64 (i : Int))]) (fun i => []) (fun i => i ≤ a.length ∧ (a.take i).all (fun t => !decide (t.2 > ofF b t.1)) = true) (fun i => a.length - i) (0) (.keep V (.keep V (.nil))) (.keep V (.nil)) (⟨by omega, rfl⟩) (V) ?_
 rintro i ⟨hi, hall⟩
 refine zB <| zB <| qR V <| qM V V V <| qM V V V <| qE V V zP V <| qC V V V V V <| qN ?_
 refine zK V (fun h9 => ?_) (fun h9 => ?_)
 ·
  have hlt : i < a.length := by simpa using h9
  obtain ⟨t, hs⟩ : ∃ q_, a[i]? = some q_ := ⟨_, zD hlt⟩
  refine zY <| zB <| zB0 <| zB ?_
  refine zV0 [] [_] mo (by decide) V V V V ?_
  refine dO V V V (zS V V Vv) <| dO V V V (zS V V Vv) <| dO V V V (zG V zP sz54 (by decide) V V V (zR0 hs) Vv) ?_
  refine dO V V V (zE1 V V zX5 Vv) <| dO V V V (zI V V ta25 V Vv) <| dO V V V (zS V V Vv) <| dO V V V (zS V V Vv) <| dO V V V (zS V V Vv) <| dO V V V (zG V zP sz54 (by decide) V V V (zR0 hs) Vv) ?_
  refine dO V V V (zE1 V V zB4 Vv) <| dO V V V (zI V V ta3 V Vv) <| zV V V (.cons (zC1 V V V co111 (rOf_spec b t.1 _)) .nil) <| dO V V V (zQ2 V V V V Vv) <| zK0 ?_
  refine zK V (fun h24 => ?_) (fun h24 => ?_)
  ·
   refine zB <| qR V <| qA V V V <| qN <| zL ?_
   exact zT (.inr V) Tryz.results90 V (.of_eq (by unfold underF; rw [List.all_eq_false.2 ⟨t, zC0 hs, by simpa using h24⟩])) (.bool _) Vv
  ·
   refine zY <| qR V <| qM V V V <| qO V <| zO0 V V V V <| qA V V V <| qN ?_
   refine ⟨i + 1, by omega, ⟨by omega, ?_⟩, rfl, (.keep V (.keep V (.nil))), (.eq V (zK1 hlt hlen) (.nil))⟩
   rw [List.take_add_one, hs, List.all_append, hall]
   simpa using h24
 ·
  have hge : i = a.length := by simp at h9; omega
  refine zF1 <| zB <| qR V <| qA V V V <| qN <| zL ?_
  exact zT (.inr V) Tryz.results90 V (.of_eq (by rw [hge, List.take_length] at hall; unfold underF; rw [hall])) (.bool _) Vv
theorem _root_.zM5 : type_of% @Tryz.results67 := @Tryz.results67
theorem rCmpC_spec (a b : List Tk) (S : MS) : MCalls Tryz.prog 67 [.lst none 2 (a.map encT), .lst none 2 (b.map encT)] S fun v σ' => v = .int .i64 (rcmpF a b) ∧ σ' = S := by
 refine zU Tryz.func67 V Tryz.ntmps67 (zA V) ?_
 refine zB <| qR V <| qA V V V <| qN <| zB <| qR V <| qM V V V <| qM V V V ?_
 refine qX V V V V co90 (rUnder_spec a b _) ?_
 refine qM V V V <| qM V V V ?_
 refine qX V V V V co90 (rUnder_spec b a _) ?_
 refine qA V V V <| qA V V V <| qN <| zB <| zB0 <| zB <| qR V <| qM V V V <| qM V V V ?_
 refine zD0 (fun h15 => ?_) (fun h15 => ?_)
 ·
  refine qM V V V <| qP V V V V <| qA V V V <| qN ?_
  refine zK V (fun h13 => ?_) (fun h13 => ?_)
  ·
   refine zB <| qR V <| qA V V V <| qN <| zL ?_
   exact zT (.inr V) zM5 V (.of_eq (by unfold rcmpF; simp_all)) (.int _ _) Vv
  ·
   refine zB <| qR V <| qM V V V <| qA V V V <| qN ?_
   refine zK V (fun h18 => ?_) (fun h18 => ?_)
   ·
    refine zB <| qR V <| qA V V V <| qN <| zL ?_
    exact zT (.inr V) zM5 V (.of_eq (by unfold rcmpF; simp_all)) (.int _ _) Vv
   ·
    refine zB <| qR V <| qM V V V <| qA V V V <| qN ?_
    refine zK V (fun h20 => ?_) (fun h20 => ?_)
    ·
     refine zB <| qR V <| qA V V V <| qN <| zL ?_
     exact zT (.inr V) zM5 V (.of_eq (by unfold rcmpF; simp_all)) (.int _ _) Vv
    ·
     refine zY <| zB <| qR V <| qA V V V <| qN <| zL ?_
     exact zT (.inr V) zM5 V (.of_eq (by unfold rcmpF; simp_all)) (.int _ _) Vv
 ·
  refine qS V <| qP V V V V <| qA V V V <| qN <| zQ V (V) <| zB <| qR V <| qM V V V <| qA V V V <| qN ?_
  refine zK V (fun h18 => ?_) (fun h18 => ?_)
  ·
   refine zB <| qR V <| qA V V V <| qN <| zL ?_
   exact zT (.inr V) zM5 V (.of_eq (by unfold rcmpF; simp_all)) (.int _ _) Vv
  ·
   refine zB <| qR V <| qM V V V <| qA V V V <| qN ?_
   refine zK V (fun h20 => ?_) (fun h20 => ?_)
   ·
    refine zB <| qR V <| qA V V V <| qN <| zL ?_
    exact zT (.inr V) zM5 V (.of_eq (by unfold rcmpF; simp_all)) (.int _ _) Vv
   ·
    refine zY <| zB <| qR V <| qA V V V <| qN <| zL ?_
    exact zT (.inr V) zM5 V (.of_eq (by unfold rcmpF; simp_all)) (.int _ _) Vv
theorem valIs_spec (s : Sch) (x : Val) (hx : okV x) (S : MS) : MCalls Tryz.prog 23 [encS s, encV x] S fun v σ' => v = .bool (isF 16 s && isVF s x) ∧ σ' = S := by
 obtain ⟨k, ins⟩ := s
 obtain ⟨n, m, s, c, w⟩ := x
 refine zU Tryz.func23 V Tryz.ntmps23 (zA V) ?_
 refine zB <| qR V <| qB V V V V V <| qB V V V V V <| qA V V V <| qN <| zB <| qR V <| qL V V V V ta24 V ?_
 refine qX V V V V co43 (Is_spec (.mk k ins) _) ?_
 refine qM V V V ?_
 refine zD0 (fun h7 => ?_) (fun h7 => ?_)
 ·
  refine qL V V V V ta24 V <| qL V V V V ta30 V ?_
  refine qX V V V V co44 (isV_spec 16 (.mk k ins) h7 (.mk n m s c w) hx _) ?_
  refine qP V V V V <| qA V V V <| qN <| zL ?_
  exact zT (.inr V) Tryz.results23 V (.of_eq (by simp_all)) (.bool _) Vv
 ·
  refine qS V <| qS V <| qS V <| qP V V V V <| qA V V V <| qN <| zL ?_
  exact zT (.inr V) Tryz.results23 V (.of_eq (by simp_all)) (.bool _) Vv
theorem values_iter (l : List Val) (hlen : l.length ≤ maxLen) (bid l0 : Nat) : IterOk Tryz.prog 89 [] [.ref bid 0] (l.map fun x => [encV x]) (fun σ => (σ.length = l0 ∧ σ[bid]? = some (.cells [.lst none 5 (encVs l)])) ∧ ClS σ) := by
 refine iterOk_of fun id T m hok hm hyt hyf => ?_
 have hml : (l.map fun x => [encV x]).length = l.length := zC ..
 refine zU Tryz.func89 V Tryz.ntmps89 (zA V) ?_
 rw [List.append_nil]
 show mwp _ _ _ _ _ _ _ (([] : MS) ++ T 0)
 refine zB <| qR V <| qO V <| zR V V (hok _).1.2 ta28 V <| qE V V zE V <| qM V V V <| qN <| zB0 ?_
 refine zQ1 (α := Nat × MS) [(0, _), (5, _), (6, _)] (fun x => [(7, .int .i64 (x.1 : Int))]) (fun x => T x.1 ++ x.2) (fun x => x.1 ≤ m) (fun x => l.length - x.1) (⟨0, []⟩) (.keep V (.keep V (.keep V (.nil)))) (.keep V (.nil)) (by simp) (by rw [List.append_nil]) ?_
 rintro ⟨j, J⟩ hj
 dsimp only at hj ⊢
 refine zB <| qR V <| qC V V V V V <| qN <| zB ?_
 refine zK V (fun h8 => ?_) (fun h8 => ?_)
 ·
  rw [zO] at h8
  have hlt : j < l.length := by simpa using h8
  obtain ⟨⟨n1, m1, s1, c1, w1⟩, hs⟩ : ∃ x, l[j]? = some x := ⟨_, zD hlt⟩
  have hy : (l.map fun x => [encV x])[j]? = some [encV (.mk n1 m1 s1 c1 w1)] := by rw [zN0, hs]; rfl
  refine zY <| zB <| zB0 <| zB <| qR V <| qO V <| zG V zE sz30 (by decide) V V V (zN1 hs) ?_
  refine qO V <| zI V V ta30 V <| qO V <| zJ5 V zm30 <| qO V <| zM4 V V V sz30 V V (zA V) <| qN <| zB ?_
  rcases Nat.lt_or_eq_of_le hj with hjm | hjm
  ·
   refine qR V <| qM V V V <| qO V <| op_load_last V V ta30 V <| qO V <| (hyt j _ hjm hy).at2 V V V <| qO V <| zY0 V V <| qN <| zQ V (V) <| zY <| qR V <| qO V <| zO0 V V V V <| qM V V V <| qN ?_
   refine ⟨⟨j + 1, J ++ [_]⟩, by dsimp only; omega, by dsimp only; omega, zZ .., (.keep V (.keep V (.keep V (.nil)))), (.eq V (zK1 hlt hlen) (.nil))⟩
  ·
   refine qR V <| qM V V V <| qO V <| op_load_last V V ta30 V <| qO V <| (hyf j _ hjm hy).at2 V V V <| qO V <| zY0 V V <| qN <| zA0 V (V) <| zL ?_
   rw [zZ]
   exact zR3 (S' := T (j + 1)) (by simp) Tryz.results89 (by rw [(hok _).1.1, (hok _).1.1]; exact Nat.le_refl _) (hok _).2 ⟨rfl, by rw [hjm, if_pos (by omega)]⟩
 ·
  rw [zO] at h8
  have hge : j = l.length := by simp at h8; omega
  have hjm : j = m := by omega
  refine zF1 ?_
  exact zR3 (S' := T j) (by simp) Tryz.results89 (by rw [(hok _).1.1, (hok _).1.1]; exact Nat.le_refl _) (hok _).2 ⟨rfl, by rw [hjm, if_neg (by omega)]⟩
theorem values_spec (l : List Val) (S : MS) : MCalls Tryz.prog 61 [.lst none 5 (encVs l)] S fun v σ' => v = .fn (.func 89) [] [.ref S.length 0] ∧ σ' = S ++ [.cells [.lst none 5 (encVs l)]] := by
 refine zU Tryz.func61 V Tryz.ntmps61 (zA V) ?_
 refine zB <| qR V <| qB V V V V V <| qA V V V <| qN <| zB <| qR V <| qO V <| zB2 V V V <| qA V V V <| qN ?_
 refine zV1 fun hcv hcl => ?_
 refine zL ?_
 exact ret_tmpT (.inr V) Tryz.results61 V (.refl _) (hcv 2 _ rfl) (by simp) hcl Vv
theorem xSame_spec (a b : List Bs) (S : MS) : MCalls Tryz.prog 27 [.lst none 1 (a.map encX), .lst none 1 (b.map encX)] S fun v σ' => v = .bool (decide (a = b)) ∧ σ' = S := by
 refine zU Tryz.func27 V Tryz.ntmps27 (zA V) ?_
 refine zI2 (t := 0) V fun hlen => ?_
 rw [zC] at hlen
 refine zB <| qR V <| qA V V V <| qN <| zB <| zB <| qR V <| qM V V V <| qE V V zX V <| qM V V V <| qE V V zX V <| qC V V V V V <| qN ?_
 refine zK V (fun h10 => ?_) (fun h10 => ?_)
 ·
  refine zB <| qR V <| qA V V V <| qN <| zL ?_
  exact zT (.inr V) Tryz.results27 V (.of_eq (by congr 1; symm; rw [decide_eq_false_iff_not]; intro e; subst e; simp at h10)) (.bool _) Vv
 ·
  have hab : a.length = b.length := by simp at h10; omega
  refine zY <| zB <| zB <| qR V <| qA V V V <| qN <| zB0 ?_
  refine zQ1 (α := Nat) [(0, _), (1, _)] (fun i => [(5, .int .i64 (i : Int))]) (fun i => []) (fun i => i ≤ a.length ∧ a.take i = b.take i) (fun i => a.length - i) (0) (.keep V (.keep V (.nil))) (.keep V (.nil)) (⟨by omega, rfl⟩) (V) ?_
  rintro i ⟨hi, heq⟩
  refine zB <| zB <| qR V <| qM V V V <| qM V V V <| qE V V zX V <| qC V V V V V <| qN ?_
  refine zK V (fun h14 => ?_) (fun h14 => ?_)
  ·
   have hlt : i < a.length := by simpa using h14
   obtain ⟨x, hs⟩ : ∃ q_, a[i]? = some q_ := ⟨_, zD hlt⟩
   obtain ⟨y, hs2⟩ : ∃ s, b[i]? = some s := ⟨_, zD (by omega)⟩
   refine zY <| zB <| zB0 <| zB ?_
   refine zV0 [] [_] mo (by decide) V V V V ?_
   refine dO V V V (zS V V Vv) <| dO V V V (zS V V Vv) <| dO V V V (zG V zX sz9 (by decide) V V V (zR0 hs) Vv) ?_
   refine dO V V V (zI V V ta9 V Vv) <| dO V V V (zS V V Vv) <| dO V V V (zS V V Vv) <| dO V V V (zG V zX sz9 (by decide) V V V (zR0 hs2) Vv) ?_
   refine dO V V V (zI V V ta9 V Vv) <| dO V V V (zM3 V V V V Vv) <| zK0 ?_
   refine zK V (fun h25 => ?_) (fun h25 => ?_)
   ·
    refine zB <| qR V <| qA V V V <| qN <| zL ?_
    exact zT (.inr V) Tryz.results27 V (.of_eq (by congr 1; symm; rw [decide_eq_false_iff_not]; intro e; subst e; rw [hs2] at hs; injection hs with hs; subst hs; simp at h25)) (.bool _) Vv
   ·
    refine zY <| qR V <| qM V V V <| qO V <| zO0 V V V V <| qA V V V <| qN ?_
    refine ⟨i + 1, by omega, ⟨by omega, ?_⟩, rfl, (.keep V (.keep V (.nil))), (.eq V (zK1 hlt hlen) (.nil))⟩
    rw [List.take_add_one, List.take_add_one, hs, hs2, heq]
    simp at h25
    rw [h25]
  ·
   have hge : i = a.length := by simp at h14; omega
   refine zF1 <| zB <| qR V <| qA V V V <| qN <| zL ?_
   exact zT (.inr V) Tryz.results27 V (.of_eq (by congr 1; symm; rw [decide_eq_true_iff]; rw [hge, List.take_length, hab, List.take_length] at heq; exact heq)) (.bool _) Vv
theorem _root_.zP4 : type_of% @Tryz.results12 := @Tryz.results12
theorem rvSame_spec (d : Nat) : ∀ (a b : Val), vdepth a ≤ d → ∀ S : MS, MCalls Tryz.prog 12 [encV a, encV b] S fun v σ' => v = .bool (decide (a = b)) ∧ σ' = S := by
 induction d with
 | zero => rintro ⟨n, m, s, c, w⟩ b h; simp [vdepth] at h
 | succ d ih =>
 rintro ⟨n, m, s, c, w⟩ ⟨n2, m2, s2, c2, w2⟩ hd S
 have hmem : ∀ x ∈ w, vdepth x ≤ d := fun x hx => by have := vdepth_mem hx; rw [vdepth] at hd; omega
 refine zU Tryz.func12 V Tryz.ntmps12 (zA V) ?_
 refine zB <| qR V <| qB V V V V V <| qB V V V V V <| qA V V V <| qN <| zB <| zB <| qR V <| qF V V V zG4 <| qL V V V V ta25 V <| qF V V V zG4 <| qL V V V V ta25 V <| qC V V V V V <| qM V V V ?_
 refine zD0 (fun h12 => ?_) (fun h12 => ?_)
 ·
  refine qT V V V V <| qS V <| qP V V V V <| qM V V V <| qT V V V V <| qS V <| qS V <| qP V V V V <| qM V V V <| qT V V V V <| qS V <| qS V <| qS V <| qP V V V V <| qM V V V ?_
  refine qT V V V V <| qS V <| qS V <| qS V <| qP V V V V <| qN <| zA0 V (V) <| zB <| qR V <| qA V V V <| qN <| zL ?_
  exact zT (.inr V) zP4 V (.of_eq (by congr 1; rw [zF]; simp_all <;> (intros; simp_all))) (.bool _) Vv
 ·
  refine qF V V V zY4 <| qL V V V V ta25 V <| qF V V V zY4 <| qL V V V V ta25 V <| qC V V V V V <| qP V V V V <| qM V V V ?_
  refine zD0 (fun h19 => ?_) (fun h19 => ?_)
  ·
   refine qT V V V V <| qS V <| qS V <| qP V V V V <| qM V V V <| qT V V V V <| qS V <| qS V <| qS V <| qP V V V V <| qM V V V <| qT V V V V <| qS V <| qS V <| qS V <| qP V V V V ?_
   refine qN <| zA0 V (V) <| zB <| qR V <| qA V V V <| qN <| zL ?_
   exact zT (.inr V) zP4 V (.of_eq (by congr 1; rw [zF]; simp_all <;> (intros; simp_all))) (.bool _) Vv
  ·
   refine qF V V V zU1 <| qL V V V V ta26 V <| qF V V V zU1 <| qL V V V V ta26 V ?_
   refine qX V V V V co27 (xSame_spec s s2 _) ?_
   refine qO V <| zY0 V V <| qP V V V V <| qM V V V ?_
   refine zD0 (fun h27 => ?_) (fun h27 => ?_)
   ·
    refine qT V V V V <| qS V <| qS V <| qS V <| qP V V V V <| qM V V V <| qT V V V V <| qS V <| qS V <| qS V <| qP V V V V <| qN <| zA0 V (V) <| zB <| qR V <| qA V V V <| qN <| zL ?_
    exact zT (.inr V) zP4 V (.of_eq (by congr 1; rw [zF]; simp_all <;> (intros; simp_all))) (.bool _) Vv
   ·
    refine qF V V V zM1 <| qL V V V V ta27 V <| qE V V zN V <| qF V V V zM1 <| qL V V V V ta27 V <| qE V V zN V <| qC V V V V V <| qP V V V V <| qM V V V ?_
    refine zD0 (fun h36 => ?_) (fun h36 => ?_)
    ·
     have hcne : ¬ c = c2 := by intro e; subst e; simp at h36
     refine qT V V V V <| qS V <| qS V <| qS V <| qP V V V V <| qN <| zA0 V (V) <| zB <| qR V <| qA V V V <| qN <| zL ?_
     exact zT (.inr V) zP4 V (.of_eq (by congr 1; rw [zF]; simp_all <;> (intros; simp_all))) (.bool _) Vv
    ·
     have hcc : c.length = c2.length := by rw [zC, zC] at h36; simp at h36; omega
     refine qF V V V zZ0 <| qL V V V V ta28 V <| qE V V zE V <| qF V V V zZ0 <| qL V V V V ta28 V <| qE V V zE V <| qC V V V V V <| qP V V V V <| qN ?_
     refine zK V (fun h44 => ?_) (fun h44 => ?_)
     ·
      have hwne : ¬ w = w2 := by intro e; subst e; simp at h44
      refine zB <| qR V <| qA V V V <| qN <| zL ?_
      exact zT (.inr V) zP4 V (.of_eq (by congr 1; rw [zF]; simp_all <;> (intros; simp_all))) (.bool _) Vv
     ·
      have hww : w.length = w2.length := by rw [zO, zO] at h44; simp at h44; omega
      refine zI2 (t := 29) V fun hlc => ?_
      refine zI2 (t := 38) V fun hlw => ?_
      rw [zC] at hlc
      rw [zO] at hlw
      refine zY <| zB <| zB <| qR V <| qA V V V <| qN <| zB0 ?_
      refine zQ1 (α := Nat) [(2, _), (3, _)] (fun i => [(5, .int .i64 (i : Int))]) (fun i => [.cells (encV (.mk n m s c w)).cells, .cells (encV (.mk n2 m2 s2 c2 w2)).cells]) (fun i => i ≤ c.length ∧ c.take i = c2.take i) (fun i => c.length - i) (0) (.keep V (.keep V (.nil))) (.keep V (.nil)) (⟨by omega, rfl⟩) (V) ?_
      rintro i ⟨hi, heq⟩
      refine zB <| zB <| qR V <| qM V V V <| qF V V V zM1 <| qL V V V V ta27 V <| qE V V zN V <| qC V V V V V <| qN ?_
      refine zK V (fun h49 => ?_) (fun h49 => ?_)
      ·
       have hlt : i < c.length := by simpa using h49
       obtain ⟨x, hs⟩ : ∃ q_, c[i]? = some q_ := ⟨_, zD hlt⟩
       obtain ⟨y, hs2⟩ : ∃ s, c2[i]? = some s := ⟨_, zD (by omega)⟩
       refine zY <| zB <| zB0 <| zB ?_
       refine zV0 [] [_] mo (by decide) V V V V ?_
       refine dO V V V (zJ V V zM1 Vv) <| dO V V V (zE0 V V V ta27 V Vv) <| dO V V V (zS V V Vv) <| dO V V V (zG V zN sz55 (by decide) V V V (zR0 hs) Vv) ?_
       refine dO V V V (zI V V ta55 V Vv) <| dO V V V (zJ V V zM1 Vv) <| dO V V V (zE0 V V V ta27 V Vv) <| dO V V V (zS V V Vv) <| dO V V V (zG V zN sz55 (by decide) V V V (zR0 hs2) Vv) ?_
       refine dO V V V (zI V V ta55 V Vv) <| zV V V (.cons (zC1 V V V co28 (rSameC_spec x y _)) .nil) <| dO V V V (zY0 V V Vv) <| zK0 ?_
       refine zK V (fun h63 => ?_) (fun h63 => ?_)
       ·
        refine zB <| qR V <| qA V V V <| qN <| zL ?_
        exact zT (.inr V) zP4 V (.of_eq (by congr 1; symm; rw [decide_eq_false_iff_not]; intro e; injection e with e1 e2 e3 e4 e5; subst e4; rw [hs2] at hs; injection hs with hs; subst hs; simp at h63)) (.bool _) Vv
       ·
        refine zY <| qR V <| qM V V V <| qO V <| zO0 V V V V <| qA V V V <| qN ?_
        refine ⟨i + 1, by omega, ⟨by omega, ?_⟩, rfl, (.keep V (.keep V (.nil))), (.eq V (zK1 hlt hlc) (.nil))⟩
        rw [List.take_add_one, List.take_add_one, hs, hs2, heq, not_dec h63]
      ·
       have hge : i = c.length := by simp at h49; omega
       rw [hge, List.take_length, hcc, List.take_length] at heq
       refine zF1 <| zB <| zB <| qR V <| qA V V V <| qN <| zB0 ?_
       refine zQ1 (α := Nat) [(2, _), (3, _)] (fun k => [(6, .int .i64 (k : Int))]) (fun k => [.cells (encV (.mk n m s c w)).cells, .cells (encV (.mk n2 m2 s2 c2 w2)).cells]) (fun k => k ≤ w.length ∧ w.take k = w2.take k) (fun k => w.length - k) (0) (.keep V (.keep V (.nil))) (.keep V (.nil)) (⟨by omega, rfl⟩) (V) ?_
       rintro k ⟨hk, heq2⟩
       refine zB <| zB <| qR V <| qM V V V <| qF V V V zZ0 <| qL V V V V ta28 V <| qE V V zE V <| qC V V V V V <| qN ?_
       refine zK V (fun h68 => ?_) (fun h68 => ?_)
       ·
        rw [zO] at h68
        have hlt2 : k < w.length := by simpa using h68
        obtain ⟨⟨n3, m3, s3, c3, w3⟩, hs3⟩ : ∃ q, w[k]? = some q := ⟨_, zD hlt2⟩
        obtain ⟨⟨n4, m4, s4, c4, w4⟩, hs4⟩ : ∃ q, w2[k]? = some q := ⟨_, zD (by omega)⟩
        refine zY <| zB <| zB0 <| zB ?_
        refine zV0 [] [_] mo (by decide) V V V V ?_
        refine dO V V V (zJ V V zZ0 Vv) <| dO V V V (zE0 V V V ta28 V Vv) <| dO V V V (zS V V Vv) <| dO V V V (zG V zE sz30 (by decide) V V V (zN1 hs3) Vv) ?_
        refine dO V V V (zI V V ta30 V Vv) <| dO V V V (zJ V V zZ0 Vv) <| dO V V V (zE0 V V V ta28 V Vv) <| dO V V V (zS V V Vv) <| dO V V V (zG V zE sz30 (by decide) V V V (zN1 hs4) Vv) ?_
        refine dO V V V (zI V V ta30 V Vv) <| zV V V (.cons (zC1 V V V co12 (ih (.mk n3 m3 s3 c3 w3) (.mk n4 m4 s4 c4 w4) (hmem _ (zC0 hs3)) _)) .nil) <| dO V V V (zY0 V V Vv) <| zK0 ?_
        refine zK V (fun h82 => ?_) (fun h82 => ?_)
        ·
         refine zB <| qR V <| qA V V V <| qN <| zL ?_
         exact zT (.inr V) zP4 V (.of_eq (by congr 1; symm; rw [decide_eq_false_iff_not]; intro e; injection e with e1 e2 e3 e4 e5; subst e5; rw [hs4] at hs3; injection hs3 with hs3; rw [hs3] at h82; simp at h82)) (.bool _) Vv
        ·
         refine zY <| qR V <| qM V V V <| qO V <| zO0 V V V V <| qA V V V <| qN ?_
         refine ⟨k + 1, by omega, ⟨by omega, ?_⟩, rfl, (.keep V (.keep V (.nil))), (.eq V (zK1 hlt2 hlw) (.nil))⟩
         rw [List.take_add_one, List.take_add_one, hs3, hs4, heq2, not_dec h82]
       ·
        rw [zO] at h68
        have hge2 : k = w.length := by simp at h68; omega
        rw [hge2, List.take_length, hww, List.take_length] at heq2
        refine zF1 <| zB <| qR V <| qA V V V <| qN <| zL ?_
        exact zT (.inr V) zP4 V (.of_eq (by congr 1; rw [zF]; simp_all)) (.bool _) Vv
theorem rSame_spec (a b : Val) (S : MS) : MCalls Tryz.prog 12 [encV a, encV b] S fun v σ' => v = .bool (decide (a = b)) ∧ σ' = S := rvSame_spec _ a b (Nat.le_refl _) S
theorem cap_t {v : Val} (h : largeF v = true) : capF (some v) = none := by simp [capF, h]
theorem cap_f {v : Val} (h : largeF v = false) : capF (some v) = some v := by simp [capF, h]
theorem isV3 {ins : List Sch} {n m : Int} {s : List Bs} {c : List (List Tk)} {w : List Val} (h : isVF (.mk 3 ins) (.mk n m s c w) = true) : s.length ≤ 40 := by
 rw [zW0 3] at h; simp [isRowF] at h; omega
end Go.Proofs.YtnfcnpdpfgcchaaGreat
