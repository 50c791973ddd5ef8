/-
  Steps of clocks: what one more step makes of a right clock. And the rules for places of an array of the call's own. No program.
-/
import Derived.Test.YtiocekmiaediiaaClkP
set_option linter.unusedVariables false
set_option linter.unusedSimpArgs false
namespace Go.MV
open Go Go.RowKit

section
variable {P : Program} {rd : Option Nat} {o : Oper} {env : Env} {σ : MS} {K : MV → MS → Prop}
theorem op_indexAddr_arr {t e : TypeId} {len sz id off i : Nat} {x y : Operand} {k : IntKind} {n : Int} (ho : o.op = .indexAddr t x y) (hu : P.underlying t = some (.array len e)) (hs : szOf P e = some sz) (hx : evo env x = some (.ref id off)) (hy : evo env y = some (.int k n)) (hn : n = (i : Int)) (hi : i < len) (h : K (.ref id (off + i * sz)) σ) : OpWp P rd o env σ K := by
  subst hn
  refine OpWp.of_run (by simp [ho]) fun g w a hr hop => ?_
  obtain ⟨b, hb, e1⟩ := (hop x (by simp [ho, Op.operands]) _ hx).inv_ref
  have e2 := (hop y (by simp [ho, Op.operands]) _ hy).inv_int
  refine ⟨.pointer (some ⟨b, off + i * sz, none⟩), w, ?_, .same h hr (.ref _ _ b hb)⟩
  simp [execOp, ho, Instr.indexAt, e1, e2, asIntOf, run_underlying hu, Instr.sureAddr, hi, szOf_run hs, add_off]
end
theorem setMany_one {l : List MV} {i : Nat} {v : MV} (h : i < l.length) : setMany l i [v] = l.set i v := by
  unfold setMany
  rw [List.set_eq_take_append_cons_drop, if_pos h]
  simp
theorem set_cells {α : Type} {en : α → MV} {l : List α} {i j : Nat} {a : α} (hj : j = i) (h : i < l.length) : setMany (l.map en) j [en a] = (l.set i a).map en := by
  subst hj
  rw [setMany_one (by simpa using h), List.map_set]

def sumF (c : List Tk) : Int := (c.map (·.2)).sum
theorem with_sum {w n : Int} (hn : 0 ≤ n) : ∀ {c : List Tk}, Up c → Pos c → sumF (withF w n false c) = sumF c - ofF c w + max (ofF c w) n
  | [], _, _ => by simp [withF, sumF, ofF]; omega
  | t :: c, hs, hp => by
    have hs' := List.pairwise_cons.1 hs
    have hp' : Pos c := fun t ht => hp t (List.mem_cons_of_mem _ ht)
    rw [withF, with_true]
    split
    · rename_i hle
      split
      · rename_i e
        have e0 : ofF (t :: c) w = t.2 := by rw [ofF, if_pos e]
        rw [e0]
        simp only [sumF, List.map_cons, List.sum_cons]
        split <;> omega
      · rename_i hne
        have e0 : ofF (t :: c) w = 0 := of_absent fun s hs => by
          rcases List.mem_cons.1 hs with rfl | hs
          · omega
          · have := hs'.1 s hs; omega
        rw [e0]
        simp only [sumF, List.map_cons, List.sum_cons]
        omega
    · rename_i hlt
      have ih := with_sum (w := w) hn hs'.2 hp'
      have e0 : ofF (t :: c) w = ofF c w := by rw [ofF, if_neg (by omega)]
      rw [e0]
      simp only [sumF, List.map_cons, List.sum_cons] at ih ⊢
      omega
theorem up_width : ∀ {c : List Tk} {a b : Int}, Up c → (∀ t ∈ c, a ≤ t.1 ∧ t.1 < b) → (c.length : Int) ≤ max (b - a) 0
  | [], a, b, _, _ => by simp; omega
  | t :: c, a, b, hs, h => by
    have hs' := List.pairwise_cons.1 hs
    have ht := h t (List.mem_cons_self ..)
    have := up_width (a := t.1 + 1) (b := b) hs'.2 (fun s hsm => ⟨by have := hs'.1 s hsm; omega, (h s (List.mem_cons_of_mem _ hsm)).2⟩)
    simp only [List.length_cons]
    omega
theorem isClock_of {c : List Tk} (hu : Up c) (hp : Pos c) (hw : ∀ t ∈ c, 0 ≤ t.1 ∧ t.1 ≤ 1000000) (hl : c.length ≤ 40) : isClockF c = true := by
  unfold isClockF
  rw [decide_eq_true hl, Bool.and_true, decide_eq_true_iff]
  intro j hj
  have hm : c[j] ∈ c := List.getElem_mem hj
  have h1 := hw _ hm
  have h2 := hp _ hm
  unfold okAt
  rw [List.getElem?_eq_getElem hj]
  have e1 : decide (c[j].1 < 0) = false := by simp; omega
  have e2 : decide (1000000 < c[j].1) = false := by simp; omega
  have e3 : (c[j].2 == 0) = false := by simp; omega
  simp only [e1, e2, e3, Bool.not_false, Bool.true_and]
  cases j with
  | zero => rfl
  | succ j =>
    simp only [Nat.add_sub_cancel, List.getElem?_eq_getElem (show j < c.length by omega)]
    have := (List.pairwise_iff_getElem.1 hu) j (j + 1) (by omega) hj (by omega)
    have e4 : decide (c[j + 1].1 ≤ c[j].1) = false := by simp; omega
    rw [e4]
    rfl
/-- What a clock of steps is. -/
structure StepC (c : List Tk) (ns : List Int) (i : Nat) : Prop where
  up : Up c
  pos : Pos c
  who : ∀ t ∈ c, 0 ≤ t.1 ∧ t.1 < 8
  len : ns.length = 8
  of : ∀ k : Nat, k < 8 → ∀ n, ns[k]? = some n → ofF c (k : Int) = n ∧ 0 ≤ n ∧ n ≤ (i : Int)
  sum : sumF c = (i : Int)
theorem step_next {c : List Tk} {ns : List Int} {i k : Nat} (h : StepC c ns i) (hi : i ≤ 1000) (hk : k < 8) {n : Int} (hn : ns[k]? = some n) :
    StepC (upF c (k : Int)) (ns.set k (n + 1)) (i + 1) ∧ cmpF c (upF c (k : Int)) = -1 ∧ isClockF (upF c (k : Int)) = true ∧ ofF (upF c (k : Int)) (k : Int) = n + 1 := by
  obtain ⟨ho, h0, h1⟩ := h.of k hk n hn
  have hnx := u64_next (of_pos h.pos (k : Int))
  have e : upF c (k : Int) = withF (k : Int) (n + 1) false c := by
    rw [up_eq h.up h.pos]
    unfold rupF
    rw [hnx, ho, if_neg (by omega), if_neg (by omega)]
    unfold rwith
    rw [show (n + 1 == 0) = false by simp; omega]
  obtain ⟨w1, w2, w3, w4⟩ := with_laws (w := (k : Int)) (n := n + 1) (by omega) h.up h.pos
  have hwho : ∀ t ∈ withF (k : Int) (n + 1) false c, 0 ≤ t.1 ∧ t.1 < 8 := fun t ht => by
    rcases w3 t ht with e | ⟨s, hs, e⟩
    · omega
    · have := h.who s hs; omega
  have hlen := up_width w1 hwho
  rw [e]
  refine ⟨⟨w1, w2, hwho, by rw [List.length_set]; exact h.len, fun j hj m hm => ?_, ?_⟩, ?_, ?_, ?_⟩
  · rw [List.getElem?_set] at hm
    rw [w4]
    by_cases ejk : k = j
    · subst ejk
      rw [if_pos rfl, if_pos (by rw [h.len]; exact hk)] at hm
      injection hm with hm
      rw [if_pos rfl, ho]
      omega
    · rw [if_neg ejk] at hm
      rw [if_neg (by omega)]
      have := h.of j hj m hm
      omega
  · rw [with_sum (by omega) h.up h.pos, h.sum, ho]
    omega
  · rw [cmp_eq h.up w1 h.pos w2]
    unfold rcmpF
    have h1 : underF c (withF (k : Int) (n + 1) false c) = true := by
      rw [under_iff h.up w2]
      intro v
      rw [w4]
      split
      · rename_i e; subst e; omega
      · exact Int.le_refl _
    have h2 : ¬ underF (withF (k : Int) (n + 1) false c) c = true := by
      rw [under_iff w1 h.pos]
      intro hc
      have := hc (k : Int)
      rw [w4, if_pos rfl, ho] at this
      omega
    rw [if_pos h1, if_neg h2]
  · exact isClock_of w1 w2 (fun t ht => by have := hwho t ht; omega) (by omega)
  · rw [w4, if_pos rfl, ho]
    omega
theorem sum_take {c : List Tk} (hp : Pos c) (i : Nat) : 0 ≤ sumF (c.take i) ∧ sumF (c.take i) ≤ sumF c := by
  induction c generalizing i with
  | nil => simp [sumF]
  | cons t c ih =>
    have pt := hp t (List.mem_cons_self ..)
    cases i with
    | zero =>
      have := ih (fun t ht => hp t (List.mem_cons_of_mem _ ht)) c.length
      rw [List.take_length] at this
      simp only [sumF, List.take_zero, List.map_nil, List.sum_nil, List.map_cons, List.sum_cons] at this ⊢
      omega
    | succ i =>
      have := ih (fun t ht => hp t (List.mem_cons_of_mem _ ht)) i
      simp only [sumF, List.take_succ_cons, List.map_cons, List.sum_cons] at this ⊢
      omega
theorem sum_next {c : List Tk} {i : Nat} {t : Tk} (h : c[i]? = some t) : sumF (c.take (i + 1)) = sumF (c.take i) + t.2 := by
  rw [List.take_add_one, h]
  simp [sumF]
end Go.MV
