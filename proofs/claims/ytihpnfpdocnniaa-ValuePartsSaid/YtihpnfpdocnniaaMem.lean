/-
  Abstract memory: Go values as pure trees (MV), what it means that a value in a world reads as one (Rd), the state of the blocks that a call owns (MObj, Rel), and how worlds grow (Le). Plain definitions and lemmas over the model; no program.
-/
import Derived.OrdersIn
import Derived.RangeFuncLeaves
import Derived.RangeFuncCalls
import Derived.Below
import Derived.Laws.AppendOwn
import Derived.Laws.OwnMore
import Derived.Deep.Draws
import Derived.Deep.AppendLies
import Derived.Maps.AppendAt
import Derived.OwnWalk
set_option linter.unusedVariables false
set_option linter.unusedSimpArgs false
namespace Go.MV
open Go Go.RowKit

inductive MV where
  | bool (b : Bool)
  | int (k : IntKind) (n : Int)
  | str (s : ByteArray)
  | ptr0
  | ref (id off : Nat)
  | yld (id : Nat)
  | sptr (cells : List MV)
  | lst0
  | lst (tok : Option Nat) (sz : Nat) (xs : List MV)
  | fn (f : Fn) (first caps : List MV)
  | fn0
  | iface (t : TypeId) (v : MV)
  | iface0
  | agg (cs : List MV)
  | tup (vs : List MV)
  deriving Inhabited

def MV.cells : MV → List MV
  | .agg l => l
  | x => [x]

def flat (xs : List MV) : List MV := xs.flatMap MV.cells

theorem flat_nil : flat [] = [] := rfl
theorem flat_cons (x : MV) (xs : List MV) : flat (x :: xs) = x.cells ++ flat xs := rfl
theorem flat_append (xs ys : List MV) : flat (xs ++ ys) = flat xs ++ flat ys := by simp [flat]
theorem flat_length {sz : Nat} : ∀ {xs : List MV}, (∀ x ∈ xs, x.cells.length = sz) → (flat xs).length = xs.length * sz
  | [], _ => by simp [flat]
  | x :: xs, h => by
    rw [flat_cons, List.length_append, flat_length (fun y hy => h y (List.mem_cons_of_mem _ hy)), h x (List.mem_cons_self ..), List.length_cons, Nat.add_mul, Nat.one_mul, Nat.add_comm]
theorem flat_at {sz : Nat} : ∀ {xs : List MV}, (∀ x ∈ xs, x.cells.length = sz) → ∀ {i : Nat} {x : MV}, xs[i]? = some x → ∀ j, j < sz → (flat xs)[i * sz + j]? = x.cells[j]?
  | [], _, i, x, hx, j, hj => by simp at hx
  | y :: ys, h, 0, x, hx, j, hj => by
    simp at hx
    subst hx
    rw [flat_cons, List.getElem?_append_left (by rw [h y (List.mem_cons_self ..)]; omega)]
    simp
  | y :: ys, h, i + 1, x, hx, j, hj => by
    have hy := h y (List.mem_cons_self ..)
    rw [flat_cons, List.getElem?_append_right (by rw [hy, Nat.add_mul]; omega), hy]
    have e : (i + 1) * sz + j - sz = i * sz + j := by rw [Nat.add_mul]; omega
    rw [e]
    exact flat_at (fun z hz => h z (List.mem_cons_of_mem _ hz)) (by simpa using hx) j hj

/-- What is known of memory beside the state: B, w0: the world when the law was called; st: how many cells of a block never change any more; bk: the block of an object; lg: the slice value of a row at a length. -/
structure Gh where
  B : Nat
  w0 : World
  st : Nat → Nat
  bk : Nat → Option Nat
  lg : Nat → Nat → Option Value

def Stab (g : Gh) (w : World) (ad : Addr) (k : Nat) (v : Value) : Prop :=
  (ad.add k).off < g.st (ad.add k).block ∧ w.cell? (ad.add k) = some v ∧ v.oneCell' = true

inductive Rd (g : Gh) (w : World) : MV → Value → Prop where
  | bool (b) : Rd g w (.bool b) (.bool b)
  | int (k n) : Rd g w (.int k n) (.int k n)
  | str (s) : Rd g w (.str s) (.string s)
  | ptr0 : Rd g w .ptr0 (.pointer none)
  | ref (id off b) : g.bk id = some b → Rd g w (.ref id off) (.pointer (some ⟨b, off, none⟩))
  | yld (id b) : g.bk id = some b → Rd g w (.yld id) (.func (.yield b) #[] #[])
  | sptr (cs : List MV) (ad : Addr) (us : List Value) : us.length = cs.length → (∀ (j : Nat) (u : Value), us[j]? = some u → Stab g w ad j u) → (∀ (j : Nat) (y : MV) (u : Value), cs[j]? = some y → us[j]? = some u → Rd g w y u) → Rd g w (.sptr cs) (.pointer (some ad))
  | lst0 : Rd g w .lst0 (.slice none 0 0)
  | lst (tok : Option Nat) (sz : Nat) (xs : List MV) (a : Option Addr) (c : Nat) (us : List Value) : xs.length ≤ c → c ≤ maxLen → (∀ x ∈ xs, x.cells.length = sz) → us.length = (flat xs).length →
      (∀ (j : Nat) (u : Value), us[j]? = some u → ∃ ad, a = some ad ∧ Stab g w ad j u) → (∀ (j : Nat) (y : MV) (u : Value), (flat xs)[j]? = some y → us[j]? = some u → Rd g w y u) →
      (∀ t, tok = some t → g.lg t xs.length = some (.slice a xs.length c)) → Rd g w (.lst tok sz xs) (.slice a xs.length c)
  | fn (f : Fn) (xs ys : List MV) (us vs : List Value) : us.length = xs.length → (∀ (j : Nat) (y : MV) (u : Value), xs[j]? = some y → us[j]? = some u → Rd g w y u) → vs.length = ys.length → (∀ (j : Nat) (y : MV) (u : Value), ys[j]? = some y → vs[j]? = some u → Rd g w y u) →
      Rd g w (.fn f xs ys) (.func f us.toArray vs.toArray)
  | fn0 : Rd g w .fn0 .nilFunc
  | iface (t x v) : Rd g w x v → Rd g w (.iface t x) (.iface t v)
  | iface0 : Rd g w .iface0 .nilIface
  | agg (xs : List MV) (us : List Value) : us.length = xs.length → (∀ (j : Nat) (y : MV) (u : Value), xs[j]? = some y → us[j]? = some u → Rd g w y u) → Rd g w (.agg xs) (.agg us.toArray)
  | tup (xs : List MV) (us : List Value) : us.length = xs.length → (∀ (j : Nat) (y : MV) (u : Value), xs[j]? = some y → us[j]? = some u → Rd g w y u) → Rd g w (.tup xs) (.tuple us.toArray)

/-- A row of values reads as a row. -/
def Rds (g : Gh) (w : World) (xs : List MV) (us : List Value) : Prop := us.length = xs.length ∧ ∀ (j : Nat) (y : MV) (u : Value), xs[j]? = some y → us[j]? = some u → Rd g w y u

theorem Rds.nil (g : Gh) (w : World) : Rds g w [] [] := ⟨rfl, fun j y u h => by simp at h⟩
theorem Rds.cons {g : Gh} {w : World} {x : MV} {u : Value} {xs : List MV} {us : List Value} (h : Rd g w x u) (hs : Rds g w xs us) : Rds g w (x :: xs) (u :: us) := by
  refine ⟨by simp [hs.1], fun j y v hy hv => ?_⟩
  cases j with
  | zero => simp at hy hv; subst hy; subst hv; exact h
  | succ j => exact hs.2 j y v (by simpa using hy) (by simpa using hv)
theorem Rds.uncons {g : Gh} {w : World} {x : MV} {xs : List MV} {us : List Value} (h : Rds g w (x :: xs) us) : ∃ u us', us = u :: us' ∧ Rd g w x u ∧ Rds g w xs us' := by
  obtain ⟨hl, h⟩ := h
  match us, hl with
  | u :: us', hl => exact ⟨u, us', rfl, h 0 x u rfl rfl, by simpa using hl, fun j y v hy hv => h (j + 1) y v (by simpa using hy) (by simpa using hv)⟩
theorem Rds.get {g : Gh} {w : World} {xs : List MV} {us : List Value} (h : Rds g w xs us) {j : Nat} {y : MV} (hy : xs[j]? = some y) : ∃ u, us[j]? = some u ∧ Rd g w y u := by
  have hj : j < xs.length := (List.getElem?_eq_some_iff.1 hy).1
  have hj' : j < us.length := by rw [h.1]; exact hj
  exact ⟨us[j], List.getElem?_eq_getElem hj', h.2 j y _ hy (List.getElem?_eq_getElem hj')⟩
theorem Rds.append {g : Gh} {w : World} {xs ys : List MV} {us vs : List Value} (h : Rds g w xs us) (k : Rds g w ys vs) : Rds g w (xs ++ ys) (us ++ vs) := by
  refine ⟨by simp [h.1, k.1], fun j y u hy hu => ?_⟩
  by_cases hj : j < xs.length
  · rw [List.getElem?_append_left hj] at hy
    rw [List.getElem?_append_left (by rw [h.1]; exact hj)] at hu
    exact h.2 j y u hy hu
  · rw [List.getElem?_append_right (by omega)] at hy
    rw [List.getElem?_append_right (by rw [h.1]; omega), h.1] at hu
    exact k.2 _ y u hy hu
theorem Rds.drop {g : Gh} {w : World} {xs : List MV} {us : List Value} (h : Rds g w xs us) (n : Nat) : Rds g w (xs.drop n) (us.drop n) :=
  ⟨by simp [h.1], fun j y u hy hu => h.2 (n + j) y u (by simpa using hy) (by simpa using hu)⟩
theorem Rds.take {g : Gh} {w : World} {xs : List MV} {us : List Value} (h : Rds g w xs us) (n : Nat) : Rds g w (xs.take n) (us.take n) := by
  refine ⟨by simp [h.1], fun j y u hy hu => ?_⟩
  rw [List.getElem?_take] at hy hu
  split at hy
  · rename_i hj
    rw [if_pos hj] at hu
    exact h.2 j y u hy hu
  · cases hy
theorem Rds.set {g : Gh} {w : World} {xs : List MV} {us : List Value} (h : Rds g w xs us) (n : Nat) {x : MV} {u : Value} (hx : Rd g w x u) : Rds g w (xs.set n x) (us.set n u) := by
  refine ⟨by simp [h.1], fun j y v hy hv => ?_⟩
  rw [List.getElem?_set] at hy hv
  by_cases hn : n = j
  · subst hn
    simp only [if_true] at hy hv
    split at hy
    · split at hv
      · injection hy with e; injection hv with e'; subst e; subst e'; exact hx
      · cases hv
    · cases hy
  · rw [if_neg hn] at hy hv
    exact h.2 j y v hy hv

theorem Rd.agg' {g : Gh} {w : World} {xs : List MV} {us : List Value} (h : Rds g w xs us) : Rd g w (.agg xs) (.agg us.toArray) := .agg xs us h.1 h.2
theorem Rd.tup' {g : Gh} {w : World} {xs : List MV} {us : List Value} (h : Rds g w xs us) : Rd g w (.tup xs) (.tuple us.toArray) := .tup xs us h.1 h.2
theorem Rd.fn' {g : Gh} {w : World} {f : Fn} {xs ys : List MV} {us vs : List Value} (h : Rds g w xs us) (k : Rds g w ys vs) : Rd g w (.fn f xs ys) (.func f us.toArray vs.toArray) := .fn f xs ys us vs h.1 h.2 k.1 k.2

section inv
variable {g : Gh} {w : World} {v : Value}
theorem Rd.inv_bool {b : Bool} (h : Rd g w (.bool b) v) : v = .bool b := by cases h; rfl
theorem Rd.inv_int {k : IntKind} {n : Int} (h : Rd g w (.int k n) v) : v = .int k n := by cases h; rfl
theorem Rd.inv_str {s : ByteArray} (h : Rd g w (.str s) v) : v = .string s := by cases h; rfl
theorem Rd.inv_ptr0 (h : Rd g w .ptr0 v) : v = .pointer none := by cases h; rfl
theorem Rd.inv_lst0 (h : Rd g w .lst0 v) : v = .slice none 0 0 := by cases h; rfl
theorem Rd.inv_fn0 (h : Rd g w .fn0 v) : v = .nilFunc := by cases h; rfl
theorem Rd.inv_iface0 (h : Rd g w .iface0 v) : v = .nilIface := by cases h; rfl
theorem Rd.inv_iface {t : TypeId} {x : MV} (h : Rd g w (.iface t x) v) : ∃ u, v = .iface t u ∧ Rd g w x u := by cases h with | iface _ _ u hu => exact ⟨u, rfl, hu⟩
theorem Rd.inv_ref {id off : Nat} (h : Rd g w (.ref id off) v) : ∃ b, g.bk id = some b ∧ v = .pointer (some ⟨b, off, none⟩) := by cases h with | ref _ _ b hb => exact ⟨b, hb, rfl⟩
theorem Rd.inv_yld {id : Nat} (h : Rd g w (.yld id) v) : ∃ b, g.bk id = some b ∧ v = .func (.yield b) #[] #[] := by cases h with | yld _ b hb => exact ⟨b, hb, rfl⟩
theorem Rd.inv_agg {xs : List MV} (h : Rd g w (.agg xs) v) : ∃ us, v = .agg us.toArray ∧ Rds g w xs us := by cases h with | agg _ us h1 h2 => exact ⟨us, rfl, h1, h2⟩
theorem Rd.inv_tup {xs : List MV} (h : Rd g w (.tup xs) v) : ∃ us, v = .tuple us.toArray ∧ Rds g w xs us := by cases h with | tup _ us h1 h2 => exact ⟨us, rfl, h1, h2⟩
theorem Rd.inv_fn {f : Fn} {xs ys : List MV} (h : Rd g w (.fn f xs ys) v) : ∃ us vs, v = .func f us.toArray vs.toArray ∧ Rds g w xs us ∧ Rds g w ys vs := by
  cases h with | fn _ _ _ us vs h1 h2 h3 h4 => exact ⟨us, vs, rfl, ⟨h1, h2⟩, ⟨h3, h4⟩⟩
theorem Rd.inv_sptr {cs : List MV} (h : Rd g w (.sptr cs) v) : ∃ ad us, v = .pointer (some ad) ∧ Rds g w cs us ∧ ∀ (j : Nat) (u : Value), us[j]? = some u → Stab g w ad j u := by
  cases h with | sptr _ ad us h1 h2 h3 => exact ⟨ad, us, rfl, ⟨h1, h3⟩, h2⟩
theorem Rd.inv_lst {tok : Option Nat} {sz : Nat} {xs : List MV} (h : Rd g w (.lst tok sz xs) v) : ∃ a c us, v = .slice a xs.length c ∧ xs.length ≤ c ∧ c ≤ maxLen ∧ (∀ x ∈ xs, x.cells.length = sz) ∧ Rds g w (flat xs) us ∧
    (∀ (j : Nat) (u : Value), us[j]? = some u → ∃ ad, a = some ad ∧ Stab g w ad j u) ∧ (∀ t, tok = some t → g.lg t xs.length = some v) := by
  cases h with | lst _ _ _ a c us h1 h2 h3 h4 h5 h6 h7 => exact ⟨a, c, us, rfl, h1, h2, h3, ⟨h4, h6⟩, h5, h7⟩
end inv

/-- Worlds and what is known of them grow. -/
structure Le0 (g : Gh) (w : World) (g' : Gh) (w' : World) : Prop where
  B : g'.B = g.B
  w0 : g'.w0 = g.w0
  st : ∀ b k, k < g.st b → k < g'.st b ∧ w'.cell? ⟨b, k, none⟩ = w.cell? ⟨b, k, none⟩
  bk : ∀ id b, g.bk id = some b → g'.bk id = some b
  lg : ∀ t n v, g.lg t n = some v → g'.lg t n = some v
  size : w.heap.size ≤ w'.heap.size
structure Le (g : Gh) (w : World) (g' : Gh) (w' : World) : Prop extends Le0 g w g' w' where
  kept : ∀ (b : Nat) (x : Option (List Deferred)), w.heap[b]? = some (Obj.deferred x) → w'.heap[b]? = some (Obj.deferred x)

theorem Le0.refl (g : Gh) (w : World) : Le0 g w g w := ⟨rfl, rfl, fun _ _ h => ⟨h, rfl⟩, fun _ _ h => h, fun _ _ _ h => h, Nat.le_refl _⟩
theorem Le0.trans {g g' g'' : Gh} {w w' w'' : World} (h : Le0 g w g' w') (k : Le0 g' w' g'' w'') : Le0 g w g'' w'' :=
  ⟨k.B.trans h.B, k.w0.trans h.w0, fun b i hi => let ⟨a, e⟩ := h.st b i hi; let ⟨a', e'⟩ := k.st b i a; ⟨a', e'.trans e⟩, fun id b hb => k.bk _ _ (h.bk _ _ hb), fun t n v hv => k.lg _ _ _ (h.lg _ _ _ hv), Nat.le_trans h.size k.size⟩
theorem Le.refl (g : Gh) (w : World) : Le g w g w := ⟨.refl g w, fun _ _ h => h⟩
theorem Le.trans {g g' g'' : Gh} {w w' w'' : World} (h : Le g w g' w') (k : Le g' w' g'' w'') : Le g w g'' w'' :=
  ⟨h.toLe0.trans k.toLe0, fun b x hx => k.kept _ _ (h.kept _ _ hx)⟩

theorem cell_spot {w : World} {a : Addr} {v : Value} (h : w.cell? a = some v) : a = ⟨a.block, a.off, none⟩ := by
  obtain ⟨b, o, s⟩ := a
  unfold World.cell? at h
  split at h
  · cases s with
    | none => rfl
    | some x => simp at h
  · cases h

theorem Stab.mono {g g' : Gh} {w w' : World} (hl : Le0 g w g' w') {ad : Addr} {k : Nat} {v : Value} (h : Stab g w ad k v) : Stab g' w' ad k v := by
  obtain ⟨h1, h2, h3⟩ := h
  have e := cell_spot h2
  obtain ⟨a, b⟩ := hl.st _ _ h1
  refine ⟨a, ?_, h3⟩
  rw [e] at h2 ⊢
  exact b.trans h2

theorem Rd.mono0 {g g' : Gh} {w w' : World} (hl : Le0 g w g' w') {x : MV} {v : Value} (h : Rd g w x v) : Rd g' w' x v := by
  induction h with
  | bool b => exact .bool b
  | int k n => exact .int k n
  | str s => exact .str s
  | ptr0 => exact .ptr0
  | ref id off b h => exact .ref id off b (hl.bk _ _ h)
  | yld id b h => exact .yld id b (hl.bk _ _ h)
  | sptr cs ad us h1 h2 h3 ih => exact .sptr cs ad us h1 (fun j u hu => (h2 j u hu).mono hl) ih
  | lst0 => exact .lst0
  | lst tok sz xs a c us h1 h2 h3 h4 h5 h6 h7 ih =>
    exact .lst tok sz xs a c us h1 h2 h3 h4 (fun j u hu => let ⟨ad, e, hs⟩ := h5 j u hu; ⟨ad, e, hs.mono hl⟩) ih (fun t ht => hl.lg _ _ _ (h7 t ht))
  | fn f xs ys us vs h1 h2 h3 h4 ih1 ih2 => exact .fn f xs ys us vs h1 ih1 h3 ih2
  | fn0 => exact .fn0
  | iface t x v h ih => exact .iface t x v ih
  | iface0 => exact .iface0
  | agg xs us h1 h2 ih => exact .agg xs us h1 ih
  | tup xs us h1 h2 ih => exact .tup xs us h1 ih

theorem Rds.mono0 {g g' : Gh} {w w' : World} (hl : Le0 g w g' w') {xs : List MV} {us : List Value} (h : Rds g w xs us) : Rds g' w' xs us := ⟨h.1, fun j y u hy hu => (h.2 j y u hy hu).mono0 hl⟩
theorem Rd.mono {g g' : Gh} {w w' : World} (hl : Le g w g' w') {x : MV} {v : Value} (h : Rd g w x v) : Rd g' w' x v := h.mono0 hl.toLe0
theorem Rds.mono {g g' : Gh} {w w' : World} (hl : Le g w g' w') {xs : List MV} {us : List Value} (h : Rds g w xs us) : Rds g' w' xs us := h.mono0 hl.toLe0

/-- No object from n on is named in a value. -/
inductive Cl (n : Nat) : MV → Prop where
  | bool (b) : Cl n (.bool b)
  | int (k i) : Cl n (.int k i)
  | str (s) : Cl n (.str s)
  | ptr0 : Cl n .ptr0
  | ref (id off) : id < n → Cl n (.ref id off)
  | yld (id) : id < n → Cl n (.yld id)
  | sptr (cs : List MV) : (∀ x ∈ cs, Cl n x) → Cl n (.sptr cs)
  | lst0 : Cl n .lst0
  | lst (tok : Option Nat) (sz : Nat) (xs : List MV) : (∀ t, tok = some t → t < n) → (∀ x ∈ flat xs, Cl n x) → Cl n (.lst tok sz xs)
  | fn (f : Fn) (xs ys : List MV) : (∀ x ∈ xs, Cl n x) → (∀ x ∈ ys, Cl n x) → Cl n (.fn f xs ys)
  | fn0 : Cl n .fn0
  | iface (t x) : Cl n x → Cl n (.iface t x)
  | iface0 : Cl n .iface0
  | agg (xs : List MV) : (∀ x ∈ xs, Cl n x) → Cl n (.agg xs)
  | tup (xs : List MV) : (∀ x ∈ xs, Cl n x) → Cl n (.tup xs)

theorem Cl.mono {n m : Nat} (hnm : n ≤ m) {x : MV} (h : Cl n x) : Cl m x := by
  induction h with
  | bool b => exact .bool b
  | int k n => exact .int k n
  | str s => exact .str s
  | ptr0 => exact .ptr0
  | ref id off h => exact .ref id off (by omega)
  | yld id h => exact .yld id (by omega)
  | sptr cs h ih => exact .sptr cs ih
  | lst0 => exact .lst0
  | lst tok sz xs h1 h2 ih => exact .lst tok sz xs (fun t ht => by have := h1 t ht; omega) ih
  | fn f xs ys h1 h2 ih1 ih2 => exact .fn f xs ys ih1 ih2
  | fn0 => exact .fn0
  | iface t x h ih => exact .iface t x ih
  | iface0 => exact .iface0
  | agg xs h ih => exact .agg xs ih
  | tup xs h ih => exact .tup xs ih

/-- The knowledge g, cut to the objects below n. -/
def Gh.cut (g : Gh) (n : Nat) : Gh := { g with bk := fun id => if id < n then g.bk id else none, lg := fun t k => if t < n then g.lg t k else none }

theorem Rd.cut {g : Gh} {w : World} {x : MV} {v : Value} (h : Rd g w x v) {n : Nat} (hc : Cl n x) : Rd (g.cut n) w x v := by
  induction h with
  | bool b => exact .bool b
  | int k n => exact .int k n
  | str s => exact .str s
  | ptr0 => exact .ptr0
  | ref id off b h => cases hc with | ref _ _ hi => exact .ref id off b (by simp [Gh.cut, hi, h])
  | yld id b h => cases hc with | yld _ hi => exact .yld id b (by simp [Gh.cut, hi, h])
  | sptr cs ad us h1 h2 h3 ih => cases hc with | sptr _ hi => exact .sptr cs ad us h1 h2 (fun j y u hy hu => ih j y u hy hu (hi y (List.mem_of_getElem? hy)))
  | lst0 => exact .lst0
  | lst tok sz xs a c us h1 h2 h3 h4 h5 h6 h7 ih =>
    cases hc with | lst _ _ _ k1 k2 => exact .lst tok sz xs a c us h1 h2 h3 h4 h5 (fun j y u hy hu => ih j y u hy hu (k2 y (List.mem_of_getElem? hy))) (fun t ht => by simp [Gh.cut, k1 t ht, h7 t ht])
  | fn f xs ys us vs h1 h2 h3 h4 ih1 ih2 =>
    cases hc with | fn _ _ _ k1 k2 => exact .fn f xs ys us vs h1 (fun j y u hy hu => ih1 j y u hy hu (k1 y (List.mem_of_getElem? hy))) h3 (fun j y u hy hu => ih2 j y u hy hu (k2 y (List.mem_of_getElem? hy)))
  | fn0 => exact .fn0
  | iface t x v h ih => cases hc with | iface _ _ k => exact .iface t x v (ih k)
  | iface0 => exact .iface0
  | agg xs us h1 h2 ih => cases hc with | agg _ k => exact .agg xs us h1 (fun j y u hy hu => ih j y u hy hu (k y (List.mem_of_getElem? hy)))
  | tup xs us h1 h2 ih => cases hc with | tup _ k => exact .tup xs us h1 (fun j y u hy hu => ih j y u hy hu (k y (List.mem_of_getElem? hy)))

/-- x may be taken for y. -/
def Sub (x y : MV) : Prop := ∀ g w v, Rd g w x v → Rd g w y v
theorem Sub.refl (x : MV) : Sub x x := fun _ _ _ h => h
theorem Sub.trans {x y z : MV} (h : Sub x y) (k : Sub y z) : Sub x z := fun g w v hx => k g w v (h g w v hx)
inductive Subs : List MV → List MV → Prop where
  | nil : Subs [] []
  | cons {x y : MV} {xs ys : List MV} : Sub x y → Subs xs ys → Subs (x :: xs) (y :: ys)
theorem Subs.refl : ∀ xs : List MV, Subs xs xs
  | [] => .nil
  | x :: xs => .cons (.refl x) (Subs.refl xs)
theorem Subs.rds {xs ys : List MV} (h : Subs xs ys) {g : Gh} {w : World} : ∀ {us : List Value}, Rds g w xs us → Rds g w ys us := by
  induction h with
  | nil => exact fun h => h
  | cons h1 h2 ih =>
    intro us h
    obtain ⟨u, us', rfl, hu, hs⟩ := h.uncons
    exact .cons (h1 _ _ _ hu) (ih hs)
theorem Subs.length {xs ys : List MV} (h : Subs xs ys) : ys.length = xs.length := by
  induction h with
  | nil => rfl
  | cons _ _ ih => simp [ih]
theorem Sub.agg {xs ys : List MV} (h : Subs xs ys) : Sub (.agg xs) (.agg ys) := fun g w v hx => by
  obtain ⟨us, rfl, hu⟩ := hx.inv_agg
  exact .agg' (h.rds hu)
theorem Sub.tup {xs ys : List MV} (h : Subs xs ys) : Sub (.tup xs) (.tup ys) := fun g w v hx => by
  obtain ⟨us, rfl, hu⟩ := hx.inv_tup
  exact .tup' (h.rds hu)
theorem Sub.fn {f : Fn} {xs ys xs' ys' : List MV} (h : Subs xs ys) (h' : Subs xs' ys') : Sub (.fn f xs xs') (.fn f ys ys') := fun g w v hx => by
  obtain ⟨us, vs, rfl, hu, hv⟩ := hx.inv_fn
  exact .fn' (h.rds hu) (h'.rds hv)
theorem Sub.iface {t : TypeId} {x y : MV} (h : Sub x y) : Sub (.iface t x) (.iface t y) := fun g w v hx => by
  obtain ⟨u, rfl, hu⟩ := hx.inv_iface
  exact .iface _ _ _ (h _ _ _ hu)
theorem Rd.lst' {g : Gh} {w : World} {tok : Option Nat} {sz : Nat} {xs : List MV} {a : Option Addr} {c n : Nat} {us : List Value} (hn : xs.length = n) (h1 : n ≤ c) (h2 : c ≤ maxLen) (h3 : ∀ x ∈ xs, x.cells.length = sz) (h4 : Rds g w (flat xs) us)
    (h5 : ∀ (j : Nat) (u : Value), us[j]? = some u → ∃ ad, a = some ad ∧ Stab g w ad j u) (h7 : ∀ t, tok = some t → g.lg t n = some (.slice a n c)) : Rd g w (.lst tok sz xs) (.slice a n c) := by
  subst hn
  exact .lst tok sz xs a c us h1 h2 h3 h4.1 h5 h4.2 h7
theorem Sub.view (tok : Option Nat) (sz : Nat) (xs : List MV) : Sub (.lst tok sz xs) (.lst none sz xs) := fun g w v hx => by
  obtain ⟨a, c, us, rfl, h1, h2, h3, h4, h5, _⟩ := hx.inv_lst
  exact .lst' rfl h1 h2 h3 h4 h5 (fun t ht => by cases ht)
theorem Sub.nil (sz : Nat) : Sub .lst0 (.lst none sz []) := fun g w v hx => by
  rw [hx.inv_lst0]
  exact .lst' (us := []) rfl (by simp) (by simp [maxLen]) (by simp) (.nil _ _) (by simp) (fun t ht => by cases ht)
theorem Sub.lstOf {tok : Option Nat} {sz : Nat} {xs ys : List MV} (hs : Subs (flat xs) (flat ys)) (hl : ys.length = xs.length) (hc : ∀ y ∈ ys, y.cells.length = sz) : Sub (.lst tok sz xs) (.lst tok sz ys) := fun g w v hx => by
  obtain ⟨a, c, us, rfl, h1, h2, h3, h4, h5, h6⟩ := hx.inv_lst
  exact .lst' hl h1 h2 hc (hs.rds h4) h5 h6

end Go.MV
