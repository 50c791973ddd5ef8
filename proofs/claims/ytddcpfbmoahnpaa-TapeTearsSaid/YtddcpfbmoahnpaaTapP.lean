/-
  Records as bytes: what the program's tape comes to; that whole records are read back, and a beginning of one is not. No program.
-/
import Derived.Test.YtddcpfbmoahnpaaStr
set_option linter.unusedVariables false
set_option linter.unusedSimpArgs false
namespace Go.MV
open Go Go.RowKit

def numB (n : Nat) : Bs := if h : n < 128 then [UInt8.ofNat n] else UInt8.ofNat (n % 128 + 128) :: numB (n / 128)
  termination_by n
  decreasing_by omega
def textB (s : Bs) : Bs := numB s.length ++ s
def xorI (h : Int) (b : UInt8) : Int := IntKind.u64.wrap (BitVec.ofInt IntKind.u64.bits h ^^^ BitVec.ofInt IntKind.u64.bits (b.toNat : Int)).toNat
def hashStep (h : Int) (b : UInt8) : Int := IntKind.u64.wrap (xorI h b * 1099511628211)
def hashB (l : Bs) : Int := l.foldl hashStep 14695981039346656037
def leB : Nat → Int → Bs
  | 0, _ => []
  | k + 1, h => UInt8.ofNat (IntKind.u8.wrap h).toNat :: leB k (h.fdiv (2 ^ min (8 : Int).toNat IntKind.u64.bits))
theorem leB_len : ∀ k h, (leB k h).length = k
  | 0, _ => rfl
  | k + 1, h => by rw [leB, List.length_cons, leB_len k]
def laidB (r : Bs) : Bs := textB r ++ leB 8 (hashB (textB r))
def numGo (at_ n i : Nat) : Bs → Nat × Nat
  | [] => (0, 0)
  | c :: r => if at_ ≤ 100000 then (if c.toNat < 128 then (n + c.toNat % 128 * at_, i + 1) else numGo (at_ * 128) (n + c.toNat % 128 * at_) (i + 1) r) else (0, 0)
def numF (b : Bs) : Nat × Nat := numGo 1 0 0 b
def recsS : Nat → Nat → Bs → List (Bs × Nat)
  | 0, _, _ => []
  | k + 1, off, b =>
    if b = [] then [] else
    let n := (numF b).1
    let fr := (numF b).2
    if fr = 0 ∨ fr + n + 8 > b.length then [] else
    let r := (b.drop fr).take n
    if laidB r ≠ b.take (fr + n + 8) then [] else (r, off + (fr + n + 8)) :: recsS k (off + (fr + n + 8)) (b.drop (fr + n + 8))
def recsF (b : Bs) : List (Bs × Nat) := recsS b.length 0 b

theorem numB_len {n : Nat} (h : n < 2097152) : 1 ≤ (numB n).length ∧ (numB n).length ≤ 3 := by
  rw [numB]
  split
  · simp
  · rw [numB]
    split
    · simp
    · rw [numB]
      split
      · simp
      · omega
theorem u8_toNat {n : Nat} (h : n < 256) : (UInt8.ofNat n).toNat = n := by simp [UInt8.toNat_ofNat']; omega
theorem numGo_last {a n i v : Nat} {c : UInt8} {r : Bs} (ha : a ≤ 100000) (hc : c.toNat = v) (hv : v < 128) : numGo a n i (c :: r) = (n + v * a, i + 1) := by
  rw [numGo, if_pos ha, hc, if_pos hv, Nat.mod_eq_of_lt hv]
theorem numGo_more {a n i v : Nat} {c : UInt8} {r : Bs} (ha : a ≤ 100000) (hc : c.toNat = v + 128) (hv : v < 128) : numGo a n i (c :: r) = numGo (a * 128) (n + v * a) (i + 1) r := by
  rw [numGo, if_pos ha, hc, if_neg (by omega), Nat.add_mod_right, Nat.mod_eq_of_lt hv]
theorem numF_numB {n : Nat} (h : n < 2097152) (rest : Bs) : numF (numB n ++ rest) = (n, (numB n).length) := by
  unfold numF
  rw [numB]
  split
  · rename_i h1
    rw [List.cons_append, numGo_last (by omega) (u8_toNat (by omega)) h1, Nat.zero_add, Nat.mul_one]
    rfl
  · rename_i h1
    rw [List.cons_append, numGo_more (by omega) (u8_toNat (show n % 128 + 128 < 256 by omega)) (by omega), numB]
    split
    · rename_i h2
      rw [List.cons_append, numGo_last (by omega) (u8_toNat (by omega)) h2]
      exact Prod.ext (by show 0 + n % 128 * 1 + n / 128 * 128 = n; omega) rfl
    · rename_i h2
      rw [List.cons_append, numGo_more (by omega) (u8_toNat (show n / 128 % 128 + 128 < 256 by omega)) (by omega), numB]
      split
      · rename_i h3
        rw [List.cons_append, numGo_last (by omega) (u8_toNat (by omega)) h3]
        exact Prod.ext (by show 0 + n % 128 * 1 + n / 128 % 128 * 128 + n / 128 / 128 * 16384 = n; omega) rfl
      · omega
/-- A beginning of a number is none. -/
theorem numF_part {n : Nat} (h : n < 2097152) {p q : Bs} (hq : q ≠ []) (e : numB n = p ++ q) : numF p = (0, 0) := by
  unfold numF
  rw [numB] at e
  split at e
  · cases p with
    | nil => rfl
    | cons c p => simp at e; exact absurd e.2.2 hq
  · rename_i h1
    cases p with
    | nil => rfl
    | cons c p =>
      rw [List.cons_append] at e
      injection e with ec e
      subst ec
      rw [numGo_more (by omega) (u8_toNat (show n % 128 + 128 < 256 by omega)) (by omega)]
      rw [numB] at e
      split at e
      · cases p with
        | nil => rfl
        | cons c p => simp at e; exact absurd e.2.2 hq
      · rename_i h2
        cases p with
        | nil => rfl
        | cons c p =>
          rw [List.cons_append] at e
          injection e with ec e
          subst ec
          rw [numGo_more (by omega) (u8_toNat (show n / 128 % 128 + 128 < 256 by omega)) (by omega)]
          rw [numB] at e
          split at e
          · cases p with
            | nil => rfl
            | cons c p => simp at e; exact absurd e.2.2 hq
          · omega

def laids (rs : List Bs) : Bs := rs.flatMap laidB
def endsF : Nat → List Bs → List (Bs × Nat)
  | _, [] => []
  | off, r :: rs => (r, off + (laidB r).length) :: endsF (off + (laidB r).length) rs
theorem laidB_len (r : Bs) : (laidB r).length = (numB r.length).length + r.length + 8 := by
  simp only [laidB, textB, leB_len, List.length_append]
theorem numF_laid {r : Bs} (h : r.length < 2097152) (rest : Bs) : numF (laidB r ++ rest) = (r.length, (numB r.length).length) := by
  unfold laidB textB
  rw [List.append_assoc, List.append_assoc]
  exact numF_numB h _
theorem recs_one {k off : Nat} {r : Bs} (h : r.length < 2097152) (rest : Bs) : recsS (k + 1) off (laidB r ++ rest) = (r, off + (laidB r).length) :: recsS k (off + (laidB r).length) rest := by
  have hl := laidB_len r
  have hn := numB_len h
  have hne : laidB r ++ rest ≠ [] := fun e => by
    have := congrArg List.length e
    simp only [List.length_append, List.length_nil] at this
    omega
  have e1 : ((laidB r ++ rest).drop (numB r.length).length).take r.length = r := by
    unfold laidB textB
    simp
  have e2 : (numB r.length).length + r.length + 8 = (laidB r).length := hl.symm
  have e3 : (laidB r ++ rest).take (laidB r).length = laidB r := by simp
  have e4 : (laidB r ++ rest).drop (laidB r).length = rest := by simp
  rw [recsS, if_neg hne]
  simp only [numF_laid h]
  rw [e2, if_neg (by simp only [List.length_append]; omega), e1, e3, if_neg (by simp), e4]
theorem recs_part {k off : Nat} {r p q : Bs} (h : r.length < 2097152) (hq : q ≠ []) (e : laidB r = p ++ q) : recsS k off p = [] := by
  cases k with
  | zero => rfl
  | succ k =>
    rw [recsS]
    split
    · rfl
    · have hl := laidB_len r
      have hql : 0 < q.length := by cases q with | nil => exact absurd rfl hq | cons _ _ => simp
      have hlen := congrArg List.length e
      rw [List.length_append] at hlen
      have e' : numB r.length ++ (r ++ leB 8 (hashB (textB r))) = p ++ q := by rw [← e]; simp [laidB, textB]
      rcases Nat.lt_or_ge p.length (numB r.length).length with hlt | hge
      · have h1 : numB r.length = p ++ (numB r.length).drop p.length := by
          have h2 := congrArg (List.take p.length) e'
          rw [List.take_append_of_le_length (by omega), List.take_left'  rfl] at h2
          exact (List.take_append_drop p.length (numB r.length)).symm.trans (by rw [h2])
        have h0 := numF_part h (fun hd => by have := congrArg List.length hd; simp at this; omega) h1
        simp only [h0]
        simp
      · obtain ⟨p', rfl⟩ : ∃ p', p = numB r.length ++ p' := by
          refine ⟨p.drop (numB r.length).length, ?_⟩
          have h2 := congrArg (List.take (numB r.length).length) e'
          rw [List.take_left' rfl, List.take_append_of_le_length hge] at h2
          exact (List.take_append_drop (numB r.length).length p).symm.trans (by rw [← h2])
        simp only [numF_numB h]
        rw [if_pos (.inr (by omega))]
theorem recs_all {off : Nat} : ∀ {rs : List Bs} {p : Bs} {k : Nat}, (∀ r ∈ rs, r.length < 2097152) → rs.length ≤ k → (∀ j o, recsS j o p = []) → recsS k off (laids rs ++ p) = endsF off rs := by
  intro rs
  induction rs generalizing off with
  | nil => intro p k _ _ hp; exact hp k off
  | cons r rs ih =>
    intro p k h hk hp
    cases k with
    | zero => simp at hk
    | succ k =>
      have e : laids (r :: rs) ++ p = laidB r ++ (laids rs ++ p) := by simp [laids]
      rw [e, recs_one (h r (List.mem_cons_self ..)), endsF, ih (fun s hs => h s (List.mem_cons_of_mem _ hs)) (by simpa using hk) hp]
theorem laids_len (rs : List Bs) : rs.length ≤ (laids rs).length := by
  induction rs with
  | nil => simp
  | cons r rs ih =>
    have e : (laids (r :: rs)).length = (laidB r).length + (laids rs).length := by simp [laids]
    have := laidB_len r
    rw [e, List.length_cons]
    omega
theorem recsF_all {rs : List Bs} {p : Bs} (h : ∀ r ∈ rs, r.length < 2097152) (hp : ∀ j o, recsS j o p = []) : recsF (laids rs ++ p) = endsF 0 rs := by
  refine recs_all h ?_ hp
  have := laids_len rs
  rw [List.length_append]
  omega
theorem ends_fst : ∀ (off : Nat) (rs : List Bs), (endsF off rs).map (·.1) = rs
  | _, [] => rfl
  | off, r :: rs => by rw [endsF, List.map_cons, ends_fst]
theorem ends_last : ∀ (off : Nat) (rs : List Bs) (d : Nat), ((endsF off rs).map (·.2)).getLastD d = if rs = [] then d else off + (laids rs).length
  | _, [], d => rfl
  | off, r :: rs, d => by
    have ih := ends_last (off + (laidB r).length) rs (off + (laidB r).length)
    rw [endsF, List.map_cons, List.getLastD_cons, ih]
    have e : (laids (r :: rs)).length = (laidB r).length + (laids rs).length := by simp [laids]
    rw [if_neg (by simp : ¬ r :: rs = []), e]
    by_cases h : rs = []
    · rw [if_pos h]; subst h; simp [laids]
    · rw [if_neg h]; omega
/-- Wherever it tears: whole records, and a beginning of one. -/
theorem cut_laids : ∀ (rs : List Bs) (n : Nat), (∀ r ∈ rs, r.length < 2097152) → ∃ k p, k ≤ rs.length ∧ (laids rs).take n = laids (rs.take k) ++ p ∧ (∀ j o, recsS j o p = []) ∧ (n < (laids rs).length → (laids (rs.take k)).length ≤ n) ∧ (∀ i, i ≤ rs.length → (laids (rs.take i)).length ≤ n → i ≤ k)
  | [], n, _ => ⟨0, [], by simp, by simp [laids], fun j o => by cases j <;> simp [recsS], by simp [laids], fun i hi _ => by simpa using hi⟩
  | r :: rs, n, h => by
    have e : laids (r :: rs) = laidB r ++ laids rs := by simp [laids]
    rcases Nat.lt_or_ge n (laidB r).length with hlt | hge
    · refine ⟨0, (laidB r).take n, by simp, ?_, fun j o => recs_part (h r (List.mem_cons_self ..)) (q := (laidB r).drop n) (fun hd => by have := congrArg List.length hd; simp at this; omega) (by simp), by simp [laids], fun i hi hle => ?_⟩
      · rw [e, List.take_append_of_le_length (by omega)]
        simp [laids]
      · cases i with
        | zero => omega
        | succ i =>
          exfalso
          have e2 : (laids ((r :: rs).take (i + 1))).length = (laidB r).length + (laids (rs.take i)).length := by simp [laids]
          omega
    · obtain ⟨k, p, h1, h2, h3, h4, h5⟩ := cut_laids rs (n - (laidB r).length) (fun s hs => h s (List.mem_cons_of_mem _ hs))
      have e2 : ∀ i, (laids ((r :: rs).take (i + 1))) = laidB r ++ (laids (rs.take i)) := fun i => by simp [laids]
      refine ⟨k + 1, p, by simp; omega, ?_, h3, fun hn => ?_, fun i hi hle => ?_⟩
      · rw [e2, e, List.take_append, h2, List.take_of_length_le hge, List.append_assoc]
      · rw [e, List.length_append] at hn
        rw [e2, List.length_append]
        have := h4 (by omega)
        omega
      · cases i with
        | zero => omega
        | succ i =>
          rw [e2, List.length_append] at hle
          have := h5 i (by simpa using hi) (by omega)
          omega
end Go.MV
