/-
  Clocks as rows of pairs: what the program's and the document's clocks come to; that they are the same. No program.
-/
import Derived.Test.YtihpnfpdocnniaaLp
set_option linter.unusedVariables false
set_option linter.unusedSimpArgs false
namespace Go.MV
open Go Go.RowKit

abbrev Tk := Int × Int
def encT (t : Tk) : MV := .agg [.int .i64 t.1, .int .u64 t.2]
theorem encT_agg (t : Tk) : encT t = .agg (encT t).cells ∨ [encT t] = (encT t).cells := .inl rfl
theorem cl_encT (n : Nat) (t : Tk) : Cl n (encT t) := .agg _ fun x hx => by
  simp only [List.mem_cons, List.not_mem_nil, or_false] at hx
  rcases hx with rfl | rfl
  · exact .int _ _
  · exact .int _ _
theorem cl_clock (n : Nat) (c : List Tk) : Cl n (.lst none 2 (c.map encT)) := cl_lst (cl_encT n) encT_agg

def okAt (c : List Tk) (j : Nat) : Bool := match c[j]? with
  | none => true
  | some t => !decide (t.1 < 0) && !decide (1000000 < t.1) && !(t.2 == 0) && (j == 0 || (match c[j - 1]? with | some p => !decide (t.1 ≤ p.1) | none => true))
def isClockF (c : List Tk) : Bool := decide (∀ j, j < c.length → okAt c j = true) && decide (c.length ≤ 40)
theorem isClock_false {c : List Tk} {i : Nat} (hi : i < c.length) (h : okAt c i = false) : isClockF c = false := by
  unfold isClockF
  rw [Bool.and_eq_false_iff]
  left
  rw [decide_eq_false_iff_not]
  intro hc
  rw [hc i hi] at h
  cases h
theorem isClock_end {c : List Tk} (h : ∀ j, j < c.length → okAt c j = true) : isClockF c = decide ((c.length : Int) ≤ 40) := by
  unfold isClockF
  rw [decide_eq_true h, Bool.true_and]
  simp only [decide_eq_decide]
  omega

def ofF : List Tk → Int → Int
  | [], _ => 0
  | t :: c, w => if t.1 = w then t.2 else ofF c w
theorem of_drop {c : List Tk} {w : Int} : ∀ {i : Nat}, (∀ j, j < i → ∀ t, c[j]? = some t → t.1 ≠ w) → ofF (c.drop i) w = ofF c w := by
  induction c with
  | nil => intro i h; simp
  | cons t c ih =>
    intro i h
    cases i with
    | zero => rfl
    | succ i =>
      have h0 := h 0 (by omega) t rfl
      rw [List.drop_succ_cons, ofF, if_neg h0]
      exact ih fun j hj t ht => h (j + 1) (by omega) t ht

def mergeF {α : Type} (cmp : α → α → Int) (bo : α → α → α) : List α → List α → List α
  | [], b => b
  | a, [] => a
  | x :: a, y :: b => if cmp x y < 0 then x :: mergeF cmp bo a (y :: b) else if cmp x y > 0 then y :: mergeF cmp bo (x :: a) b else bo x y :: mergeF cmp bo a b
  termination_by a b => a.length + b.length
theorem merge_nil {α : Type} {cmp : α → α → Int} {bo : α → α → α} (a : List α) : mergeF cmp bo a [] = a := by
  cases a <;> simp [mergeF]
theorem nil_merge {α : Type} {cmp : α → α → Int} {bo : α → α → α} (a : List α) : mergeF cmp bo [] a = a := by simp [mergeF]
theorem merge_len {α : Type} {cmp : α → α → Int} {bo : α → α → α} : ∀ (n : Nat) (a b : List α), a.length + b.length ≤ n → (mergeF cmp bo a b).length ≤ a.length + b.length := by
  intro n
  induction n with
  | zero =>
    intro a b h
    cases a <;> cases b <;> simp_all [mergeF]
  | succ n ih =>
    intro a b h
    cases a with
    | nil => simp [mergeF]
    | cons x a =>
      cases b with
      | nil => simp [mergeF]
      | cons y b =>
        rw [mergeF]
        simp only [List.length_cons] at h
        split
        · have := ih a (y :: b) (by simp only [List.length_cons]; omega)
          simp only [List.length_cons] at *
          omega
        · split
          · have := ih (x :: a) b (by simp only [List.length_cons]; omega)
            simp only [List.length_cons] at *
            omega
          · have := ih a b (by omega)
            simp only [List.length_cons] at *
            omega
def cmpI (a b : Int) : Int := if a < b then -1 else if b < a then 1 else 0
def bothT (x y : Tk) : Tk := (x.1, if y.2 > x.2 then y.2 else x.2)
def joinF (a b : List Tk) : List Tk := mergeF (fun x y => cmpI x.1 y.1) bothT a b
theorem join_len (a b : List Tk) : (joinF a b).length ≤ a.length + b.length := merge_len _ a b (Nat.le_refl _)
theorem join_cons (x : Tk) (a : List Tk) (y : Tk) (b : List Tk) : joinF (x :: a) (y :: b) = if x.1 < y.1 then x :: joinF a (y :: b) else if y.1 < x.1 then y :: joinF (x :: a) b else bothT x y :: joinF a b := by
  unfold joinF
  rw [mergeF]
  unfold cmpI
  by_cases h1 : x.1 < y.1
  · simp [h1]
  · by_cases h2 : y.1 < x.1
    · simp [h1, h2]
    · simp [h1, h2]
theorem join_nil (a : List Tk) : joinF a [] = a := merge_nil a
theorem nil_join (a : List Tk) : joinF [] a = a := nil_merge a
def nextF (n : Int) : Int := if IntKind.u64.wrap (n + 1) > n then IntKind.u64.wrap (n + 1) else n
def upF (c : List Tk) (w : Int) : List Tk := joinF c [(w, nextF (ofF c w))]
def cmpF (a b : List Tk) : Int := if a = b then 0 else if joinF a b = b then -1 else if joinF a b = a then 1 else 2

def withF (w n : Int) : Bool → List Tk → List Tk
  | false, [] => [(w, n)]
  | true, [] => []
  | true, t :: c => t :: withF w n true c
  | false, t :: c => if w ≤ t.1 then (if t.1 = w then (w, if t.2 > n then t.2 else n) :: withF w n true c else (w, n) :: t :: withF w n true c) else t :: withF w n false c
theorem with_true (w n : Int) : ∀ c, withF w n true c = c
  | [] => rfl
  | t :: c => by rw [withF, with_true w n c]
theorem with_len (w n : Int) : ∀ b c, (withF w n b c).length ≤ c.length + 1
  | true, c => by rw [with_true]; omega
  | false, [] => by simp [withF]
  | false, t :: c => by
    have := with_len w n false c
    rw [withF, with_true]
    split
    · split <;> simp
    · simp only [List.length_cons]; omega
def rwith (c : List Tk) (w n : Int) : List Tk := withF w n (n == 0) c
def rupF (c : List Tk) (w : Int) : List Tk := if IntKind.u64.wrap (ofF c w + 1) = 0 then rwith c w (ofF c w) else rwith c w (IntKind.u64.wrap (ofF c w + 1))
def rjoinF (a b : List Tk) : List Tk := b.foldl (fun c t => rwith c t.1 t.2) a
theorem rwith_len (c : List Tk) (w n : Int) : (rwith c w n).length ≤ c.length + 1 := with_len w n _ c
theorem rjoin_len : ∀ (b a : List Tk), (rjoinF a b).length ≤ a.length + b.length
  | [], a => by simp [rjoinF]
  | t :: b, a => by
    have h1 := rjoin_len b (rwith a t.1 t.2)
    have h2 := rwith_len a t.1 t.2
    simp only [rjoinF, List.foldl_cons, List.length_cons] at *
    omega
def underF (a b : List Tk) : Bool := a.all fun t => !decide (t.2 > ofF b t.1)
def rcmpF (a b : List Tk) : Int := if underF a b = true then (if underF b a = true then 0 else -1) else if underF b a = true then 1 else 2

/-! ### Right clocks -/

def Up (c : List Tk) : Prop := c.Pairwise fun x y => x.1 < y.1
def Pos (c : List Tk) : Prop := ∀ t ∈ c, 0 < t.2 ∧ t.2 < 18446744073709551616
theorem of_pos {c : List Tk} (h : Pos c) (w : Int) : 0 ≤ ofF c w ∧ ofF c w < 18446744073709551616 := by
  induction c with
  | nil => simp [ofF]
  | cons t c ih =>
    rw [ofF]
    split
    · have := h t (List.mem_cons_self ..); omega
    · exact ih fun t ht => h t (List.mem_cons_of_mem _ ht)
theorem of_absent {c : List Tk} {w : Int} (h : ∀ t ∈ c, t.1 ≠ w) : ofF c w = 0 := by
  induction c with
  | nil => rfl
  | cons t c ih =>
    rw [ofF, if_neg (h t (List.mem_cons_self ..))]
    exact ih fun t ht => h t (List.mem_cons_of_mem _ ht)
theorem of_mem {c : List Tk} (hs : Up c) {t : Tk} (h : t ∈ c) : ofF c t.1 = t.2 := by
  induction c with
  | nil => cases h
  | cons s c ih =>
    have hs' := List.pairwise_cons.1 hs
    rcases List.mem_cons.1 h with rfl | h
    · rw [ofF, if_pos rfl]
    · have := hs'.1 t h
      rw [ofF, if_neg (by omega)]
      exact ih hs'.2 h
theorem of_low {c : List Tk} {w : Int} {x : Tk} (hs : Up (x :: c)) (h : w ≤ x.1) : ofF c w = 0 :=
  of_absent fun t ht => by have := (List.pairwise_cons.1 hs).1 t ht; omega
theorem clock_ext {a : List Tk} : ∀ {b : List Tk}, Up a → Up b → Pos a → Pos b → (∀ w, ofF a w = ofF b w) → a = b := by
  induction a with
  | nil =>
    intro b _ _ _ pb h
    cases b with
    | nil => rfl
    | cons t b =>
      have := h t.1
      rw [ofF, ofF, if_pos rfl] at this
      have := pb t (List.mem_cons_self ..)
      omega
  | cons s a ih =>
    intro b ha hb pa pb h
    cases b with
    | nil =>
      have := h s.1
      rw [ofF, ofF, if_pos rfl] at this
      have := pa s (List.mem_cons_self ..)
      omega
    | cons t b =>
      have ps := pa s (List.mem_cons_self ..)
      have pt := pb t (List.mem_cons_self ..)
      have e1 : s.1 = t.1 := by
        rcases Int.lt_trichotomy s.1 t.1 with hlt | heq | hgt
        · have h1 := h s.1
          rw [ofF, if_pos rfl, ofF, if_neg (by omega), of_low hb (by omega)] at h1
          omega
        · exact heq
        · have h1 := h t.1
          rw [ofF, if_neg (by omega), of_low ha (by omega), ofF, if_pos rfl] at h1
          omega
      have e2 : s.2 = t.2 := by
        have h1 := h s.1
        rw [ofF, if_pos rfl, ofF, if_pos e1.symm] at h1
        exact h1
      have e : s = t := Prod.ext e1 e2
      subst e
      congr 1
      refine ih (List.pairwise_cons.1 ha).2 (List.pairwise_cons.1 hb).2 (fun t ht => pa t (List.mem_cons_of_mem _ ht)) (fun t ht => pb t (List.mem_cons_of_mem _ ht)) fun w => ?_
      by_cases hw : s.1 = w
      · rw [of_low ha (by omega), of_low hb (by omega)]
      · have h1 := h w
        rw [ofF, if_neg hw, ofF, if_neg hw] at h1
        exact h1

theorem join_mem : ∀ (n : Nat) {a b : List Tk}, a.length + b.length ≤ n → ∀ t ∈ joinF a b, (∃ s ∈ a, s.1 = t.1) ∨ ∃ s ∈ b, s.1 = t.1 := by
  intro n
  induction n with
  | zero =>
    intro a b h t ht
    cases a <;> cases b <;> simp_all [joinF, mergeF]
  | succ n ih =>
    intro a b h t ht
    cases a with
    | nil => rw [nil_join] at ht; exact .inr ⟨t, ht, rfl⟩
    | cons x a =>
      cases b with
      | nil => rw [join_nil] at ht; exact .inl ⟨t, ht, rfl⟩
      | cons y b =>
        simp only [List.length_cons] at h
        rw [join_cons] at ht
        split at ht
        · rcases List.mem_cons.1 ht with rfl | ht
          · exact .inl ⟨_, List.mem_cons_self .., rfl⟩
          · rcases ih (by simp only [List.length_cons]; omega) t ht with ⟨s, h1, h2⟩ | ⟨s, h1, h2⟩
            · exact .inl ⟨s, List.mem_cons_of_mem _ h1, h2⟩
            · exact .inr ⟨s, h1, h2⟩
        · split at ht
          · rcases List.mem_cons.1 ht with rfl | ht
            · exact .inr ⟨_, List.mem_cons_self .., rfl⟩
            · rcases ih (by simp only [List.length_cons]; omega) t ht with ⟨s, h1, h2⟩ | ⟨s, h1, h2⟩
              · exact .inl ⟨s, h1, h2⟩
              · exact .inr ⟨s, List.mem_cons_of_mem _ h1, h2⟩
          · rcases List.mem_cons.1 ht with rfl | ht
            · exact .inl ⟨_, List.mem_cons_self .., rfl⟩
            · rcases ih (by omega) t ht with ⟨s, h1, h2⟩ | ⟨s, h1, h2⟩
              · exact .inl ⟨s, List.mem_cons_of_mem _ h1, h2⟩
              · exact .inr ⟨s, List.mem_cons_of_mem _ h1, h2⟩
theorem join_laws : ∀ (n : Nat) {a b : List Tk}, a.length + b.length ≤ n → Up a → Up b → Pos a → Pos b → Up (joinF a b) ∧ Pos (joinF a b) ∧ ∀ w, ofF (joinF a b) w = max (ofF a w) (ofF b w) := by
  intro n
  induction n with
  | zero =>
    intro a b h ha hb pa pb
    cases a <;> cases b <;> simp_all [joinF, mergeF, ofF]
  | succ n ih =>
    intro a b h ha hb pa pb
    cases a with
    | nil =>
      rw [nil_join]
      refine ⟨hb, pb, fun w => ?_⟩
      have := of_pos pb w
      simp only [ofF]
      omega
    | cons x a =>
      cases b with
      | nil =>
        rw [join_nil]
        refine ⟨ha, pa, fun w => ?_⟩
        have := of_pos pa w
        simp only [ofF] at *
        omega
      | cons y b =>
        simp only [List.length_cons] at h
        have ha' := List.pairwise_cons.1 ha
        have hb' := List.pairwise_cons.1 hb
        have pa' : Pos a := fun t ht => pa t (List.mem_cons_of_mem _ ht)
        have pb' : Pos b := fun t ht => pb t (List.mem_cons_of_mem _ ht)
        have px := pa x (List.mem_cons_self ..)
        have py := pb y (List.mem_cons_self ..)
        rw [join_cons]
        split
        · rename_i hlt
          obtain ⟨h1, h2, h3⟩ := ih (a := a) (b := y :: b) (by simp only [List.length_cons]; omega) ha'.2 hb pa' pb
          refine ⟨List.pairwise_cons.2 ⟨fun t ht => ?_, h1⟩, fun t ht => ?_, fun w => ?_⟩
          · rcases join_mem _ (Nat.le_refl _) t ht with ⟨s, hs, e⟩ | ⟨s, hs, e⟩
            · have := ha'.1 s hs; omega
            · rcases List.mem_cons.1 hs with rfl | hs
              · omega
              · have := hb'.1 s hs; omega
          · rcases List.mem_cons.1 ht with rfl | ht
            · exact px
            · exact h2 t ht
          · rw [ofF]
            split
            · rename_i hw
              rw [ofF, if_pos hw]
              have : ofF (y :: b) w = 0 := of_absent fun t ht => by
                rcases List.mem_cons.1 ht with rfl | ht
                · omega
                · have := hb'.1 t ht; omega
              omega
            · rename_i hw
              have e : ofF (x :: a) w = ofF a w := by rw [ofF, if_neg hw]
              rw [h3, e]
        · split
          · rename_i hnl hlt
            obtain ⟨h1, h2, h3⟩ := ih (a := x :: a) (b := b) (by simp only [List.length_cons]; omega) ha hb'.2 pa pb'
            refine ⟨List.pairwise_cons.2 ⟨fun t ht => ?_, h1⟩, fun t ht => ?_, fun w => ?_⟩
            · rcases join_mem _ (Nat.le_refl _) t ht with ⟨s, hs, e⟩ | ⟨s, hs, e⟩
              · rcases List.mem_cons.1 hs with rfl | hs
                · omega
                · have := ha'.1 s hs; omega
              · have := hb'.1 s hs; omega
            · rcases List.mem_cons.1 ht with rfl | ht
              · exact py
              · exact h2 t ht
            · rw [ofF]
              split
              · rename_i hw
                have e : ofF (y :: b) w = y.2 := by rw [ofF, if_pos hw]
                have : ofF (x :: a) w = 0 := of_absent fun t ht => by
                  rcases List.mem_cons.1 ht with rfl | ht
                  · omega
                  · have := ha'.1 t ht; omega
                omega
              · rename_i hw
                have e : ofF (y :: b) w = ofF b w := by rw [ofF, if_neg hw]
                rw [h3, e]
          · rename_i hn1 hn2
            have exy : x.1 = y.1 := by omega
            obtain ⟨h1, h2, h3⟩ := ih (a := a) (b := b) (by omega) ha'.2 hb'.2 pa' pb'
            refine ⟨List.pairwise_cons.2 ⟨fun t ht => ?_, h1⟩, fun t ht => ?_, fun w => ?_⟩
            · show x.1 < t.1
              rcases join_mem _ (Nat.le_refl _) t ht with ⟨s, hs, e⟩ | ⟨s, hs, e⟩
              · have := ha'.1 s hs; omega
              · have := hb'.1 s hs; omega
            · rcases List.mem_cons.1 ht with rfl | ht
              · simp only [bothT]; split <;> omega
              · exact h2 t ht
            · by_cases hw : x.1 = w
              · have e1 : ofF (x :: a) w = x.2 := by rw [ofF, if_pos hw]
                have e2 : ofF (y :: b) w = y.2 := by rw [ofF, if_pos (by omega)]
                rw [e1, e2, ofF, if_pos (show (bothT x y).1 = w from hw)]
                simp only [bothT]
                split <;> omega
              · have e1 : ofF (x :: a) w = ofF a w := by rw [ofF, if_neg hw]
                have e2 : ofF (y :: b) w = ofF b w := by rw [ofF, if_neg (by omega)]
                rw [e1, e2, ofF, if_neg (show ¬ (bothT x y).1 = w from hw), h3]

theorem with_laws {w n : Int} (hn : 0 < n ∧ n < 18446744073709551616) : ∀ {c : List Tk}, Up c → Pos c → Up (withF w n false c) ∧ Pos (withF w n false c) ∧ (∀ t ∈ withF w n false c, t.1 = w ∨ ∃ s ∈ c, s.1 = t.1) ∧ ∀ v, ofF (withF w n false c) v = if v = w then max (ofF c w) n else ofF c v
  | [], _, _ => by
    refine ⟨by simp [withF, Up], fun t ht => by simp [withF] at ht; subst ht; exact hn, fun t ht => by simp [withF] at ht; subst ht; exact .inl rfl, fun v => ?_⟩
    simp only [withF, ofF]
    by_cases h : v = w
    · subst h; simp only [if_true]; omega
    · rw [if_neg (fun e => h e.symm), if_neg h]
  | t :: c, hs, hp => by
    have hs' := List.pairwise_cons.1 hs
    have hp' : Pos c := fun t ht => hp t (List.mem_cons_of_mem _ ht)
    have pt := hp t (List.mem_cons_self ..)
    rw [withF, with_true]
    split
    · rename_i hle
      split
      · rename_i e
        refine ⟨List.pairwise_cons.2 ⟨fun s hs => by have := hs'.1 s hs; show w < s.1; omega, hs'.2⟩, fun s hs => ?_, fun s hs => ?_, fun v => ?_⟩
        · rcases List.mem_cons.1 hs with rfl | hs
          · dsimp only; split <;> omega
          · exact hp' s hs
        · rcases List.mem_cons.1 hs with rfl | hs
          · exact .inl rfl
          · exact .inr ⟨s, List.mem_cons_of_mem _ hs, rfl⟩
        · have e0 : ofF (t :: c) w = t.2 := by rw [ofF, if_pos e]
          by_cases h : v = w
          · subst h
            rw [ofF, if_pos rfl, if_pos rfl, e0]
            dsimp only
            split <;> omega
          · rw [ofF, if_neg (fun e => h e.symm), if_neg h, ofF, if_neg (by omega)]
      · rename_i hne
        refine ⟨List.pairwise_cons.2 ⟨fun s hs => ?_, hs⟩, fun s hs => ?_, fun s hs => ?_, fun v => ?_⟩
        · show w < s.1
          rcases List.mem_cons.1 hs with rfl | hs
          · omega
          · have := hs'.1 s hs; omega
        · rcases List.mem_cons.1 hs with rfl | hs
          · exact hn
          · exact hp s hs
        · rcases List.mem_cons.1 hs with rfl | hs
          · exact .inl rfl
          · exact .inr ⟨s, hs, rfl⟩
        · have e0 : ofF (t :: c) w = 0 := of_absent fun s hs => by
            rcases List.mem_cons.1 hs with rfl | hs
            · omega
            · have := hs'.1 s hs; omega
          by_cases h : v = w
          · subst h
            rw [ofF, if_pos rfl, if_pos rfl, e0]
            omega
          · rw [ofF, if_neg (fun e => h e.symm), if_neg h]
    · rename_i hlt
      obtain ⟨h1, h2, h3, h4⟩ := with_laws (w := w) hn hs'.2 hp'
      refine ⟨List.pairwise_cons.2 ⟨fun s hs => ?_, h1⟩, fun s hs => ?_, fun s hs => ?_, fun v => ?_⟩
      · rcases h3 s hs with e | ⟨r, hr, e⟩
        · omega
        · have := hs'.1 r hr; omega
      · rcases List.mem_cons.1 hs with rfl | hs
        · exact pt
        · exact h2 s hs
      · rcases List.mem_cons.1 hs with rfl | hs
        · exact .inr ⟨_, List.mem_cons_self .., rfl⟩
        · rcases h3 s hs with e | ⟨r, hr, e⟩
          · exact .inl e
          · exact .inr ⟨r, List.mem_cons_of_mem _ hr, e⟩
      · have e0 : ofF (t :: c) w = ofF c w := by rw [ofF, if_neg (by omega)]
        by_cases h : v = w
        · subst h
          rw [ofF, if_neg (by omega), h4, if_pos rfl, if_pos rfl, e0]
        · rw [ofF, if_neg h, h4, if_neg h, ofF]
theorem rwith_laws {c : List Tk} {w n : Int} (hn : 0 ≤ n ∧ n < 18446744073709551616) (hs : Up c) (hp : Pos c) : Up (rwith c w n) ∧ Pos (rwith c w n) ∧ ∀ v, ofF (rwith c w n) v = if v = w then max (ofF c w) n else ofF c v := by
  unfold rwith
  by_cases h : n = 0
  · subst h
    simp only [beq_self_eq_true, with_true]
    refine ⟨hs, hp, fun v => ?_⟩
    have := of_pos hp w
    split
    · rename_i e; subst e; omega
    · rfl
  · have : (n == 0) = false := by simpa using h
    rw [this]
    obtain ⟨h1, h2, _, h4⟩ := with_laws (w := w) (n := n) (by omega) hs hp
    exact ⟨h1, h2, h4⟩
theorem rjoin_laws {a : List Tk} : ∀ {b : List Tk}, Up a → Pos a → Up b → Pos b → Up (rjoinF a b) ∧ Pos (rjoinF a b) ∧ ∀ w, ofF (rjoinF a b) w = max (ofF a w) (ofF b w) := by
  intro b
  induction b generalizing a with
  | nil =>
    intro ha pa _ _
    refine ⟨ha, pa, fun w => ?_⟩
    have := of_pos pa w
    simp only [rjoinF, List.foldl_nil, ofF]
    omega
  | cons t b ih =>
    intro ha pa hb pb
    have pt := pb t (List.mem_cons_self ..)
    have hb' := List.pairwise_cons.1 hb
    obtain ⟨h1, h2, h3⟩ := rwith_laws (w := t.1) (n := t.2) (by omega) ha pa
    obtain ⟨k1, k2, k3⟩ := ih h1 h2 hb'.2 (fun s hs => pb s (List.mem_cons_of_mem _ hs))
    refine ⟨k1, k2, fun w => ?_⟩
    show ofF (rjoinF (rwith a t.1 t.2) b) w = _
    rw [k3, h3]
    by_cases hw : t.1 = w
    · have e1 : ofF (t :: b) w = t.2 := by rw [ofF, if_pos hw]
      have e2 : ofF b w = 0 := of_low hb (by omega)
      have := of_pos pa w
      rw [if_pos hw.symm, hw, e1, e2]
      omega
    · rw [if_neg (fun e => hw e.symm), ofF, if_neg hw]

theorem okAt_spec {c : List Tk} (h : ∀ j, j < c.length → okAt c j = true) (hu : ∀ t ∈ c, 0 ≤ t.2 ∧ t.2 < 18446744073709551616) : Up c ∧ Pos c := by
  refine ⟨?_, fun t ht => ?_⟩
  · have hadj : ∀ j, (hj : j + 1 < c.length) → (c[j]'(by omega)).1 < (c[j + 1]).1 := by
      intro j hj
      have := h (j + 1) hj
      unfold okAt at this
      rw [List.getElem?_eq_getElem hj] at this
      simp only [Nat.add_sub_cancel, List.getElem?_eq_getElem (show j < c.length by omega)] at this
      simp only [Bool.and_eq_true, Bool.or_eq_true, Bool.not_eq_true', decide_eq_false_iff_not] at this
      rcases this.2 with h0 | h0
      · simp at h0
      · omega
    unfold Up
    rw [List.pairwise_iff_getElem]
    intro i j hi hj hij
    obtain ⟨d, rfl⟩ : ∃ d, j = i + d + 1 := ⟨j - i - 1, by omega⟩
    clear hij
    induction d with
    | zero => exact hadj i hj
    | succ d ih => exact Int.lt_trans (ih (by omega)) (hadj (i + d + 1) hj)
  · obtain ⟨j, hj⟩ := List.getElem?_of_mem ht
    have hlt := (List.getElem?_eq_some_iff.1 hj).1
    have := h j hlt
    unfold okAt at this
    rw [hj] at this
    simp only [Bool.and_eq_true, Bool.not_eq_true', beq_eq_false_iff_ne] at this
    have h2 := hu t ht
    have h3 := this.1.2
    omega
theorem isClock_spec {c : List Tk} (h : isClockF c = true) (hu : ∀ t ∈ c, 0 ≤ t.2 ∧ t.2 < 18446744073709551616) : Up c ∧ Pos c ∧ c.length ≤ 40 := by
  unfold isClockF at h
  simp only [Bool.and_eq_true, decide_eq_true_eq] at h
  exact ⟨(okAt_spec h.1 hu).1, (okAt_spec h.1 hu).2, h.2⟩

theorem join_eq {a b : List Tk} (ha : Up a) (hb : Up b) (pa : Pos a) (pb : Pos b) : joinF a b = rjoinF a b := by
  obtain ⟨h1, h2, h3⟩ := join_laws _ (Nat.le_refl _) ha hb pa pb
  obtain ⟨k1, k2, k3⟩ := rjoin_laws ha pa hb pb
  exact clock_ext h1 k1 h2 k2 fun w => by rw [h3, k3]
theorem u64_next {n : Int} (h : 0 ≤ n ∧ n < 18446744073709551616) : IntKind.u64.wrap (n + 1) = if n = 18446744073709551615 then 0 else n + 1 := by
  split
  · rename_i e; subst e; rfl
  · exact wrap_u64 (by omega)
theorem up_eq {a : List Tk} (ha : Up a) (pa : Pos a) (w : Int) : upF a w = rupF a w := by
  have hp := of_pos pa w
  have hnx := u64_next hp
  unfold upF rupF nextF
  rw [hnx]
  have hone : ∀ n : Int, 0 < n ∧ n < 18446744073709551616 → joinF a [(w, n)] = rwith a w n := fun n hn => by
    have h := join_eq ha (b := [(w, n)]) (by simp [Up]) pa (fun t ht => by simp at ht; subst ht; exact hn)
    rw [h]
    rfl
  by_cases e : ofF a w = 18446744073709551615
  · simp only [if_pos e]
    rw [if_neg (by omega), if_true]
    exact hone _ (by omega)
  · simp only [if_neg e]
    rw [if_pos (by omega), if_neg (by omega)]
    exact hone _ (by omega)
theorem under_iff {a b : List Tk} (ha : Up a) (pb : Pos b) : underF a b = true ↔ ∀ w, ofF a w ≤ ofF b w := by
  unfold underF
  simp only [List.all_eq_true, Bool.not_eq_true', decide_eq_false_iff_not]
  constructor
  · intro h w
    by_cases hw : ∃ t ∈ a, t.1 = w
    · obtain ⟨t, ht, rfl⟩ := hw
      have := h t ht
      rw [of_mem ha ht]
      omega
    · rw [of_absent fun t ht e => hw ⟨t, ht, e⟩]
      exact (of_pos pb w).1
  · intro h t ht
    have := h t.1
    rw [of_mem ha ht] at this
    omega
theorem cmp_eq {a b : List Tk} (ha : Up a) (hb : Up b) (pa : Pos a) (pb : Pos b) : cmpF a b = rcmpF a b := by
  obtain ⟨h1, h2, h3⟩ := join_laws _ (Nat.le_refl _) ha hb pa pb
  have e1 : joinF a b = b ↔ underF a b = true := by
    rw [under_iff ha pb]
    constructor
    · intro e w
      have := h3 w
      rw [e] at this
      omega
    · intro h
      exact clock_ext h1 hb h2 pb fun w => by rw [h3]; have := h w; omega
  have e2 : joinF a b = a ↔ underF b a = true := by
    rw [under_iff hb pa]
    constructor
    · intro e w
      have := h3 w
      rw [e] at this
      omega
    · intro h
      exact clock_ext h1 ha h2 pa fun w => by rw [h3]; have := h w; omega
  have e3 : a = b ↔ underF a b = true ∧ underF b a = true := by
    rw [under_iff ha pb, under_iff hb pa]
    constructor
    · rintro rfl
      exact ⟨fun w => Int.le_refl _, fun w => Int.le_refl _⟩
    · rintro ⟨x, y⟩
      exact clock_ext ha hb pa pb fun w => Int.le_antisymm (x w) (y w)
  unfold cmpF rcmpF
  by_cases x : underF a b = true <;> by_cases y : underF b a = true
  · rw [if_pos (e3.2 ⟨x, y⟩), if_pos x, if_pos y]
  · rw [if_neg (fun e => y (e3.1 e).2), if_pos (e1.2 x), if_pos x, if_neg y]
  · rw [if_neg (fun e => x (e3.1 e).1), if_neg (fun e => x (e1.1 e)), if_pos (e2.2 y), if_neg x, if_pos y]
  · rw [if_neg (fun e => x (e3.1 e).1), if_neg (fun e => x (e1.1 e)), if_neg (fun e => y (e2.1 e)), if_neg x, if_neg y]
end Go.MV
