/-
  Texts on which the proof of PostOrders leans: part 1.
-/
import Derived.OrdersIn
import Derived.RangeFuncLeaves
import Derived.RangeFuncCalls
import Derived.Below
import Derived.Laws.AppendOwn
import Derived.Laws.OwnMore
import Derived.Deep.Draws
import Derived.Deep.AppendLies
import Derived.Maps.AppendAt
import Derived.OwnWalk
import Derived.WalkKit
import Derived.WalkLawsBesides
import Derived.Great.BuildSlice
set_option linter.unusedVariables false
set_option linter.unusedSimpArgs false
set_option maxRecDepth 20000
set_option maxHeartbeats 8000000
namespace Go.MV
open Go Go.RowKit
section
theorem _root_.V.{u} {α : Sort u} {a : α} : a = a := rfl
theorem _root_.Vv.{u, v} {α : Sort u} {β : Sort v} {a : α} {b : β} : a = a ∧ b = b := ⟨rfl, rfl⟩
inductive MV where
 | bool (b : Bool)
 | int (k : IntKind) (n : Int)
 | str (s : ByteArray)
 | ptr0
 | ref (id off : Nat)
 | yld (id : Nat)
 | vec (id off sz n c : Nat)
 | map0
 | map (id : Nat)
 | ow (id sz n : Nat)
 | orf (id n off : Nat)
 | sptr (cells : List MV)
 | lst0
 | lst (tok : Option Nat) (sz : Nat) (xs : List MV)
 | fn (f : Fn) (first caps : List MV)
 | fn0
 | iface (t : TypeId) (v : MV)
 | iface0
 | agg (cs : List MV)
 | tup (vs : List MV)
 deriving Inhabited
def MV.cells : MV → List MV
 | .agg l => l
 | x => [x]
def flat (xs : List MV) : List MV := xs.flatMap MV.cells
theorem flat_nil : flat [] = [] := rfl
theorem flat_cons (x : MV) (xs : List MV) : flat (x :: xs) = x.cells ++ flat xs := rfl
theorem _root_.zW5 : type_of% @flat_cons := @flat_cons
theorem flat_append (xs ys : List MV) : flat (xs ++ ys) = flat xs ++ flat ys := by simp [flat]
theorem _root_.zG : type_of% @List.length_append := @List.length_append
theorem _root_.zA2 : type_of% @List.mem_cons_of_mem := @List.mem_cons_of_mem
theorem _root_.zH2 : type_of% @List.mem_cons_self := @List.mem_cons_self
theorem _root_.zF0 : type_of% @List.length_cons := @List.length_cons
theorem flat_length {sz : Nat} : ∀ {xs : List MV}, (∀ x ∈ xs, x.cells.length = sz) → (flat xs).length = xs.length * sz
 | [], _ => by simp [flat]
 | x :: xs, h => by
  rw [zW5, zG, flat_length (fun y hy => h y (zA2 _ hy)), h x (zH2 ..), zF0, Nat.add_mul, Nat.one_mul, Nat.add_comm]
theorem _root_.zA6 : type_of% @flat_length := @flat_length
theorem flat_at {sz : Nat} : ∀ {xs : List MV}, (∀ x ∈ xs, x.cells.length = sz) → ∀ {i : Nat} {x : MV}, xs[i]? = some x → ∀ j, j < sz → (flat xs)[i * sz + j]? = x.cells[j]?
 | [], _, i, x, hx, j, hj => by simp at hx
 | y :: ys, h, 0, x, hx, j, hj => by
  simp at hx
  subst hx
  rw [zW5, List.getElem?_append_left (by rw [h y (zH2 ..)]; omega)]
  simp
 | y :: ys, h, i + 1, x, hx, j, hj => by
  have hy := h y (zH2 ..)
  rw [zW5, List.getElem?_append_right (by rw [hy, Nat.add_mul]; omega), hy]
  have e : (i + 1) * sz + j - sz = i * sz + j := by rw [Nat.add_mul]; omega
  rw [e]
  exact flat_at (fun z hz => h z (zA2 _ hz)) (by simpa using hx) j hj
structure Gh where
 B : Nat
 w0 : World
 st : Nat → Nat
 bk : Nat → Option Nat
 lg : Nat → Nat → Option Value
def Stab (g : Gh) (w : World) (ad : Addr) (k : Nat) (v : Value) : Prop :=
 (ad.add k).off < g.st (ad.add k).block ∧ w.cell? (ad.add k) = some v ∧ v.oneCell' = true
inductive Rd (g : Gh) (w : World) : MV → Value → Prop where
 | bool (b) : Rd g w (.bool b) (.bool b)
 | int (k n) : Rd g w (.int k n) (.int k n)
 | str (s) : Rd g w (.str s) (.string s)
 | ptr0 : Rd g w .ptr0 (.pointer none)
 | ref (id off b) : g.bk id = some b → Rd g w (.ref id off) (.pointer (some ⟨b, off, none⟩))
 | yld (id b) : g.bk id = some b → Rd g w (.yld id) (.func (.yield b) #[] #[])
 | vec (id off sz n c b) : g.bk id = some b → n ≤ c → c ≤ maxLen → Rd g w (.vec id off sz n c) (.slice (some ⟨b, off, none⟩) n c)
 | map0 : Rd g w .map0 (.map none)
 | map (id b) : g.bk id = some b → Rd g w (.map id) (.map (some b))
 | ow (id sz n v) : g.lg id n = some v → v.cells = #[v] → v.oneCell' = true → Rd g w (.ow id sz n) v
 | orf (id n off b c) : g.lg id n = some (.slice (some ⟨b, 0, none⟩) n c) → Rd g w (.orf id n off) (.pointer (some ⟨b, off, none⟩))
 | sptr (cs : List MV) (ad : Addr) (us : List Value) : us.length = cs.length → (∀ (j : Nat) (u : Value), us[j]? = some u → Stab g w ad j u) → (∀ (j : Nat) (y : MV) (u : Value), cs[j]? = some y → us[j]? = some u → Rd g w y u) → Rd g w (.sptr cs) (.pointer (some ad))
 | lst0 : Rd g w .lst0 (.slice none 0 0)
 | lst (tok : Option Nat) (sz : Nat) (xs : List MV) (a : Option Addr) (c : Nat) (us : List Value) : xs.length ≤ c → c ≤ maxLen → (∀ x ∈ xs, x.cells.length = sz) → us.length = (flat xs).length →
   (∀ (j : Nat) (u : Value), us[j]? = some u → ∃ ad, a = some ad ∧ Stab g w ad j u) → (∀ (j : Nat) (y : MV) (u : Value), (flat xs)[j]? = some y → us[j]? = some u → Rd g w y u) →
   (∀ t, tok = some t → g.lg t xs.length = some (.slice a xs.length c)) → Rd g w (.lst tok sz xs) (.slice a xs.length c)
 | fn (f : Fn) (xs ys : List MV) (us vs : List Value) : us.length = xs.length → (∀ (j : Nat) (y : MV) (u : Value), xs[j]? = some y → us[j]? = some u → Rd g w y u) → vs.length = ys.length → (∀ (j : Nat) (y : MV) (u : Value), ys[j]? = some y → vs[j]? = some u → Rd g w y u) →
   Rd g w (.fn f xs ys) (.func f us.toArray vs.toArray)
 | fn0 : Rd g w .fn0 .nilFunc
 | iface (t x v) : Rd g w x v → Rd g w (.iface t x) (.iface t v)
 | iface0 : Rd g w .iface0 .nilIface
 | agg (xs : List MV) (us : List Value) : us.length = xs.length → (∀ (j : Nat) (y : MV) (u : Value), xs[j]? = some y → us[j]? = some u → Rd g w y u) → Rd g w (.agg xs) (.agg us.toArray)
 | tup (xs : List MV) (us : List Value) : us.length = xs.length → (∀ (j : Nat) (y : MV) (u : Value), xs[j]? = some y → us[j]? = some u → Rd g w y u) → Rd g w (.tup xs) (.tuple us.toArray)
def Rds (g : Gh) (w : World) (xs : List MV) (us : List Value) : Prop := us.length = xs.length ∧ ∀ (j : Nat) (y : MV) (u : Value), xs[j]? = some y → us[j]? = some u → Rd g w y u
theorem Rds.nil (g : Gh) (w : World) : Rds g w [] [] := ⟨rfl, fun j y u h => by simp at h⟩
theorem Rds.cons {g : Gh} {w : World} {x : MV} {u : Value} {xs : List MV} {us : List Value} (h : Rd g w x u) (hs : Rds g w xs us) : Rds g w (x :: xs) (u :: us) := by
 refine ⟨by simp [hs.1], fun j y v hy hv => ?_⟩
 cases j with
 | zero => simp at hy hv; subst hy; subst hv; exact h
 | succ j => exact hs.2 j y v (by simpa using hy) (by simpa using hv)
theorem Rds.uncons {g : Gh} {w : World} {x : MV} {xs : List MV} {us : List Value} (h : Rds g w (x :: xs) us) : ∃ u us', us = u :: us' ∧ Rd g w x u ∧ Rds g w xs us' := by
 obtain ⟨hl, h⟩ := h
 match us, hl with
 | u :: us', hl => exact ⟨u, us', rfl, h 0 x u rfl rfl, by simpa using hl, fun j y v hy hv => h (j + 1) y v (by simpa using hy) (by simpa using hv)⟩
theorem _root_.zD : type_of% @List.getElem?_eq_some_iff := @List.getElem?_eq_some_iff
theorem _root_.zC : type_of% @List.getElem?_eq_getElem := @List.getElem?_eq_getElem
theorem Rds.get {g : Gh} {w : World} {xs : List MV} {us : List Value} (h : Rds g w xs us) {j : Nat} {y : MV} (hy : xs[j]? = some y) : ∃ u, us[j]? = some u ∧ Rd g w y u := by
 have hj : j < xs.length := (zD.1 hy).1
 have hj' : j < us.length := by rw [h.1]; exact hj
 exact ⟨us[j], zC hj', h.2 j y _ hy (zC hj')⟩
theorem Rds.append {g : Gh} {w : World} {xs ys : List MV} {us vs : List Value} (h : Rds g w xs us) (k : Rds g w ys vs) : Rds g w (xs ++ ys) (us ++ vs) := by
 refine ⟨by simp [h.1, k.1], fun j y u hy hu => ?_⟩
 by_cases hj : j < xs.length
 ·rw [List.getElem?_append_left hj] at hy
  rw [List.getElem?_append_left (by rw [h.1]; exact hj)] at hu
  exact h.2 j y u hy hu
 ·rw [List.getElem?_append_right (by omega)] at hy
  rw [List.getElem?_append_right (by rw [h.1]; omega), h.1] at hu
  exact k.2 _ y u hy hu
theorem Rds.drop {g : Gh} {w : World} {xs : List MV} {us : List Value} (h : Rds g w xs us) (n : Nat) : Rds g w (xs.drop n) (us.drop n) :=
 ⟨by simp [h.1], fun j y u hy hu => h.2 (n + j) y u (by simpa using hy) (by simpa using hu)⟩
theorem Rds.take {g : Gh} {w : World} {xs : List MV} {us : List Value} (h : Rds g w xs us) (n : Nat) : Rds g w (xs.take n) (us.take n) := by
 refine ⟨by simp [h.1], fun j y u hy hu => ?_⟩
 rw [List.getElem?_take] at hy hu
 split at hy
 ·rename_i hj
  rw [if_pos hj] at hu
  exact h.2 j y u hy hu
 ·cases hy
theorem Rds.set {g : Gh} {w : World} {xs : List MV} {us : List Value} (h : Rds g w xs us) (n : Nat) {x : MV} {u : Value} (hx : Rd g w x u) : Rds g w (xs.set n x) (us.set n u) := by
 refine ⟨by simp [h.1], fun j y v hy hv => ?_⟩
 rw [List.getElem?_set] at hy hv
 by_cases hn : n = j
 ·subst hn
  simp only [if_true] at hy hv
  split at hy
  ·split at hv
   ·injection hy with e; injection hv with e'; subst e; subst e'; exact hx
   ·cases hv
  ·cases hy
 ·rw [if_neg hn] at hy hv
  exact h.2 j y v hy hv
theorem Rd.agg' {g : Gh} {w : World} {xs : List MV} {us : List Value} (h : Rds g w xs us) : Rd g w (.agg xs) (.agg us.toArray) := .agg xs us h.1 h.2
theorem Rd.tup' {g : Gh} {w : World} {xs : List MV} {us : List Value} (h : Rds g w xs us) : Rd g w (.tup xs) (.tuple us.toArray) := .tup xs us h.1 h.2
theorem Rd.fn' {g : Gh} {w : World} {f : Fn} {xs ys : List MV} {us vs : List Value} (h : Rds g w xs us) (k : Rds g w ys vs) : Rd g w (.fn f xs ys) (.func f us.toArray vs.toArray) := .fn f xs ys us vs h.1 h.2 k.1 k.2
section inv
variable {g : Gh} {w : World} {v : Value}
theorem Rd.inv_bool {b : Bool} (h : Rd g w (.bool b) v) : v = .bool b := by cases h; rfl
theorem Rd.inv_int {k : IntKind} {n : Int} (h : Rd g w (.int k n) v) : v = .int k n := by cases h; rfl
theorem Rd.inv_str {s : ByteArray} (h : Rd g w (.str s) v) : v = .string s := by cases h; rfl
theorem Rd.inv_ptr0 (h : Rd g w .ptr0 v) : v = .pointer none := by cases h; rfl
theorem Rd.inv_lst0 (h : Rd g w .lst0 v) : v = .slice none 0 0 := by cases h; rfl
theorem Rd.inv_iface0 (h : Rd g w .iface0 v) : v = .nilIface := by cases h; rfl
theorem Rd.inv_iface {t : TypeId} {x : MV} (h : Rd g w (.iface t x) v) : ∃ u, v = .iface t u ∧ Rd g w x u := by cases h with | iface _ _ u hu => exact ⟨u, rfl, hu⟩
theorem Rd.inv_ref {id off : Nat} (h : Rd g w (.ref id off) v) : ∃ b, g.bk id = some b ∧ v = .pointer (some ⟨b, off, none⟩) := by cases h with | ref _ _ b hb => exact ⟨b, hb, rfl⟩
theorem Rd.inv_yld {id : Nat} (h : Rd g w (.yld id) v) : ∃ b, g.bk id = some b ∧ v = .func (.yield b) #[] #[] := by cases h with | yld _ b hb => exact ⟨b, hb, rfl⟩
theorem Rd.inv_vec {id off sz n c : Nat} (h : Rd g w (.vec id off sz n c) v) : ∃ b, g.bk id = some b ∧ n ≤ c ∧ c ≤ maxLen ∧ v = .slice (some ⟨b, off, none⟩) n c := by cases h with | vec _ _ _ _ _ b h1 h2 h3 => exact ⟨b, h1, h2, h3, rfl⟩
theorem Rd.inv_map {id : Nat} (h : Rd g w (.map id) v) : ∃ b, g.bk id = some b ∧ v = .map (some b) := by cases h with | map _ b hb => exact ⟨b, hb, rfl⟩
theorem Rd.inv_ow {id sz n : Nat} (h : Rd g w (.ow id sz n) v) : g.lg id n = some v := by cases h with | ow _ _ _ _ h => exact h
theorem Rd.inv_orf {id n off : Nat} (h : Rd g w (.orf id n off) v) : ∃ b c, g.lg id n = some (.slice (some ⟨b, 0, none⟩) n c) ∧ v = .pointer (some ⟨b, off, none⟩) := by cases h with | orf _ _ _ b c h => exact ⟨b, c, h, rfl⟩
theorem Rd.inv_agg {xs : List MV} (h : Rd g w (.agg xs) v) : ∃ us, v = .agg us.toArray ∧ Rds g w xs us := by cases h with | agg _ us h1 h2 => exact ⟨us, rfl, h1, h2⟩
theorem Rd.inv_tup {xs : List MV} (h : Rd g w (.tup xs) v) : ∃ us, v = .tuple us.toArray ∧ Rds g w xs us := by cases h with | tup _ us h1 h2 => exact ⟨us, rfl, h1, h2⟩
theorem Rd.inv_fn {f : Fn} {xs ys : List MV} (h : Rd g w (.fn f xs ys) v) : ∃ us vs, v = .func f us.toArray vs.toArray ∧ Rds g w xs us ∧ Rds g w ys vs := by
 cases h with | fn _ _ _ us vs h1 h2 h3 h4 => exact ⟨us, vs, rfl, ⟨h1, h2⟩, ⟨h3, h4⟩⟩
theorem Rd.inv_sptr {cs : List MV} (h : Rd g w (.sptr cs) v) : ∃ ad us, v = .pointer (some ad) ∧ Rds g w cs us ∧ ∀ (j : Nat) (u : Value), us[j]? = some u → Stab g w ad j u := by
 cases h with | sptr _ ad us h1 h2 h3 => exact ⟨ad, us, rfl, ⟨h1, h3⟩, h2⟩
theorem Rd.inv_lst {tok : Option Nat} {sz : Nat} {xs : List MV} (h : Rd g w (.lst tok sz xs) v) : ∃ a c us, v = .slice a xs.length c ∧ xs.length ≤ c ∧ c ≤ maxLen ∧ (∀ x ∈ xs, x.cells.length = sz) ∧ Rds g w (flat xs) us ∧
  (∀ (j : Nat) (u : Value), us[j]? = some u → ∃ ad, a = some ad ∧ Stab g w ad j u) ∧ (∀ t, tok = some t → g.lg t xs.length = some v) := by
 cases h with | lst _ _ _ a c us h1 h2 h3 h4 h5 h6 h7 => exact ⟨a, c, us, rfl, h1, h2, h3, ⟨h4, h6⟩, h5, h7⟩
end inv
structure Le0 (g : Gh) (w : World) (g' : Gh) (w' : World) : Prop where
 B : g'.B = g.B
 w0 : g'.w0 = g.w0
 st : ∀ b k, k < g.st b → k < g'.st b ∧ w'.cell? ⟨b, k, none⟩ = w.cell? ⟨b, k, none⟩
 bk : ∀ id b, g.bk id = some b → g'.bk id = some b
 lg : ∀ t n v, g.lg t n = some v → g'.lg t n = some v
 size : w.heap.size ≤ w'.heap.size
structure Le (g : Gh) (w : World) (g' : Gh) (w' : World) : Prop extends Le0 g w g' w' where
 kept : ∀ (b : Nat) (x : Option (List Deferred)), w.heap[b]? = some (Obj.deferred x) → w'.heap[b]? = some (Obj.deferred x)
theorem Le0.refl (g : Gh) (w : World) : Le0 g w g w := ⟨rfl, rfl, fun _ _ h => ⟨h, rfl⟩, fun _ _ h => h, fun _ _ _ h => h, Nat.le_refl _⟩
theorem Le0.trans {g g' g'' : Gh} {w w' w'' : World} (h : Le0 g w g' w') (k : Le0 g' w' g'' w'') : Le0 g w g'' w'' :=
 ⟨k.B.trans h.B, k.w0.trans h.w0, fun b i hi => let ⟨a, e⟩ := h.st b i hi; let ⟨a', e'⟩ := k.st b i a; ⟨a', e'.trans e⟩, fun id b hb => k.bk _ _ (h.bk _ _ hb), fun t n v hv => k.lg _ _ _ (h.lg _ _ _ hv), Nat.le_trans h.size k.size⟩
theorem Le.refl (g : Gh) (w : World) : Le g w g w := ⟨.refl g w, fun _ _ h => h⟩
theorem Le.trans {g g' g'' : Gh} {w w' w'' : World} (h : Le g w g' w') (k : Le g' w' g'' w'') : Le g w g'' w'' :=
 ⟨h.toLe0.trans k.toLe0, fun b x hx => k.kept _ _ (h.kept _ _ hx)⟩
theorem cell_spot {w : World} {a : Addr} {v : Value} (h : w.cell? a = some v) : a = ⟨a.block, a.off, none⟩ := by
 obtain ⟨b, o, s⟩ := a
 unfold World.cell? at h
 split at h
 ·cases s with
  | none => rfl
  | some x => simp at h
 ·cases h
theorem Stab.mono {g g' : Gh} {w w' : World} (hl : Le0 g w g' w') {ad : Addr} {k : Nat} {v : Value} (h : Stab g w ad k v) : Stab g' w' ad k v := by
 obtain ⟨h1, h2, h3⟩ := h
 have e := cell_spot h2
 obtain ⟨a, b⟩ := hl.st _ _ h1
 refine ⟨a, ?_, h3⟩
 rw [e] at h2 ⊢
 exact b.trans h2
theorem Rd.mono0 {g g' : Gh} {w w' : World} (hl : Le0 g w g' w') {x : MV} {v : Value} (h : Rd g w x v) : Rd g' w' x v := by
 induction h with
 | bool b => exact .bool b
 | int k n => exact .int k n
 | str s => exact .str s
 | ptr0 => exact .ptr0
 | ref id off b h => exact .ref id off b (hl.bk _ _ h)
 | yld id b h => exact .yld id b (hl.bk _ _ h)
 | vec id off sz n c b h h2 h3 => exact .vec id off sz n c b (hl.bk _ _ h) h2 h3
 | map0 => exact .map0
 | map id b h => exact .map id b (hl.bk _ _ h)
 | ow id sz n v h h1 h2 => exact .ow id sz n v (hl.lg _ _ _ h) h1 h2
 | orf id n off b c h => exact .orf id n off b c (hl.lg _ _ _ h)
 | sptr cs ad us h1 h2 h3 ih => exact .sptr cs ad us h1 (fun j u hu => (h2 j u hu).mono hl) ih
 | lst0 => exact .lst0
 | lst tok sz xs a c us h1 h2 h3 h4 h5 h6 h7 ih =>
  exact .lst tok sz xs a c us h1 h2 h3 h4 (fun j u hu => let ⟨ad, e, hs⟩ := h5 j u hu; ⟨ad, e, hs.mono hl⟩) ih (fun t ht => hl.lg _ _ _ (h7 t ht))
 | fn f xs ys us vs h1 h2 h3 h4 ih1 ih2 => exact .fn f xs ys us vs h1 ih1 h3 ih2
 | fn0 => exact .fn0
 | iface t x v h ih => exact .iface t x v ih
 | iface0 => exact .iface0
 | agg xs us h1 h2 ih => exact .agg xs us h1 ih
 | tup xs us h1 h2 ih => exact .tup xs us h1 ih
theorem Rds.mono0 {g g' : Gh} {w w' : World} (hl : Le0 g w g' w') {xs : List MV} {us : List Value} (h : Rds g w xs us) : Rds g' w' xs us := ⟨h.1, fun j y u hy hu => (h.2 j y u hy hu).mono0 hl⟩
theorem Rd.mono {g g' : Gh} {w w' : World} (hl : Le g w g' w') {x : MV} {v : Value} (h : Rd g w x v) : Rd g' w' x v := h.mono0 hl.toLe0
theorem Rds.mono {g g' : Gh} {w w' : World} (hl : Le g w g' w') {xs : List MV} {us : List Value} (h : Rds g w xs us) : Rds g' w' xs us := h.mono0 hl.toLe0
inductive Cl (n : Nat) : MV → Prop where
 | bool (b) : Cl n (.bool b)
 | int (k i) : Cl n (.int k i)
 | str (s) : Cl n (.str s)
 | ptr0 : Cl n .ptr0
 | ref (id off) : id < n → Cl n (.ref id off)
 | yld (id) : id < n → Cl n (.yld id)
 | vec (id off sz k c) : id < n → Cl n (.vec id off sz k c)
 | map0 : Cl n .map0
 | map (id) : id < n → Cl n (.map id)
 | ow (id sz k) : id < n → Cl n (.ow id sz k)
 | orf (id k off) : id < n → Cl n (.orf id k off)
 | sptr (cs : List MV) : (∀ x ∈ cs, Cl n x) → Cl n (.sptr cs)
 | lst0 : Cl n .lst0
 | lst (tok : Option Nat) (sz : Nat) (xs : List MV) : (∀ t, tok = some t → t < n) → (∀ x ∈ flat xs, Cl n x) → Cl n (.lst tok sz xs)
 | fn (f : Fn) (xs ys : List MV) : (∀ x ∈ xs, Cl n x) → (∀ x ∈ ys, Cl n x) → Cl n (.fn f xs ys)
 | fn0 : Cl n .fn0
 | iface (t x) : Cl n x → Cl n (.iface t x)
 | iface0 : Cl n .iface0
 | agg (xs : List MV) : (∀ x ∈ xs, Cl n x) → Cl n (.agg xs)
 | tup (xs : List MV) : (∀ x ∈ xs, Cl n x) → Cl n (.tup xs)
theorem Cl.mono {n m : Nat} (hnm : n ≤ m) {x : MV} (h : Cl n x) : Cl m x := by
 induction h with
 | bool b => exact .bool b
 | int k n => exact .int k n
 | str s => exact .str s
 | ptr0 => exact .ptr0
 | ref id off h => exact .ref id off (by omega)
 | yld id h => exact .yld id (by omega)
 | vec id off sz k c h => exact .vec id off sz k c (by omega)
 | map0 => exact .map0
 | map id h => exact .map id (by omega)
 | ow id sz k h => exact .ow id sz k (by omega)
 | orf id k off h => exact .orf id k off (by omega)
 | sptr cs h ih => exact .sptr cs ih
 | lst0 => exact .lst0
 | lst tok sz xs h1 h2 ih => exact .lst tok sz xs (fun t ht => by have := h1 t ht; omega) ih
 | fn f xs ys h1 h2 ih1 ih2 => exact .fn f xs ys ih1 ih2
 | fn0 => exact .fn0
 | iface t x h ih => exact .iface t x ih
 | iface0 => exact .iface0
 | agg xs h ih => exact .agg xs ih
 | tup xs h ih => exact .tup xs ih
def Gh.cut (g : Gh) (n : Nat) : Gh := { g with bk := fun id => if id < n then g.bk id else none, lg := fun t k => if t < n then g.lg t k else none }
theorem _root_.zW : type_of% @List.mem_of_getElem? := @List.mem_of_getElem?
theorem Rd.cut {g : Gh} {w : World} {x : MV} {v : Value} (h : Rd g w x v) {n : Nat} (hc : Cl n x) : Rd (g.cut n) w x v := by
 induction h with
 | bool b => exact .bool b
 | int k n => exact .int k n
 | str s => exact .str s
 | ptr0 => exact .ptr0
 | ref id off b h => cases hc with | ref _ _ hi => exact .ref id off b (by simp [Gh.cut, hi, h])
 | yld id b h => cases hc with | yld _ hi => exact .yld id b (by simp [Gh.cut, hi, h])
 | vec id off sz k c b h h2 h3 => cases hc with | vec _ _ _ _ _ hi => exact .vec id off sz k c b (by simp [Gh.cut, hi, h]) h2 h3
 | map0 => exact .map0
 | map id b h => cases hc with | map _ hi => exact .map id b (by simp [Gh.cut, hi, h])
 | ow id sz k v h h1 h2 => cases hc with | ow _ _ _ hi => exact .ow id sz k v (by simp [Gh.cut, hi, h]) h1 h2
 | orf id k off b c h => cases hc with | orf _ _ _ hi => exact .orf id k off b c (by simp [Gh.cut, hi, h])
 | sptr cs ad us h1 h2 h3 ih => cases hc with | sptr _ hi => exact .sptr cs ad us h1 h2 (fun j y u hy hu => ih j y u hy hu (hi y (zW hy)))
 | lst0 => exact .lst0
 | lst tok sz xs a c us h1 h2 h3 h4 h5 h6 h7 ih =>
  cases hc with | lst _ _ _ k1 k2 => exact .lst tok sz xs a c us h1 h2 h3 h4 h5 (fun j y u hy hu => ih j y u hy hu (k2 y (zW hy))) (fun t ht => by simp [Gh.cut, k1 t ht, h7 t ht])
 | fn f xs ys us vs h1 h2 h3 h4 ih1 ih2 =>
  cases hc with | fn _ _ _ k1 k2 => exact .fn f xs ys us vs h1 (fun j y u hy hu => ih1 j y u hy hu (k1 y (zW hy))) h3 (fun j y u hy hu => ih2 j y u hy hu (k2 y (zW hy)))
 | fn0 => exact .fn0
 | iface t x v h ih => cases hc with | iface _ _ k => exact .iface t x v (ih k)
 | iface0 => exact .iface0
 | agg xs us h1 h2 ih => cases hc with | agg _ k => exact .agg xs us h1 (fun j y u hy hu => ih j y u hy hu (k y (zW hy)))
 | tup xs us h1 h2 ih => cases hc with | tup _ k => exact .tup xs us h1 (fun j y u hy hu => ih j y u hy hu (k y (zW hy)))
def Sub (x y : MV) : Prop := ∀ g w v, Rd g w x v → Rd g w y v
theorem Sub.refl (x : MV) : Sub x x := fun _ _ _ h => h
theorem Sub.trans {x y z : MV} (h : Sub x y) (k : Sub y z) : Sub x z := fun g w v hx => k g w v (h g w v hx)
inductive Subs : List MV → List MV → Prop where
 | nil : Subs [] []
 | cons {x y : MV} {xs ys : List MV} : Sub x y → Subs xs ys → Subs (x :: xs) (y :: ys)
theorem Subs.refl : ∀ xs : List MV, Subs xs xs
 | [] => .nil
 | x :: xs => .cons (.refl x) (Subs.refl xs)
theorem Subs.rds {xs ys : List MV} (h : Subs xs ys) {g : Gh} {w : World} : ∀ {us : List Value}, Rds g w xs us → Rds g w ys us := by
 induction h with
 | nil => exact fun h => h
 | cons h1 h2 ih =>
  intro us h
  obtain ⟨u, us', rfl, hu, hs⟩ := h.uncons
  exact .cons (h1 _ _ _ hu) (ih hs)
theorem Subs.length {xs ys : List MV} (h : Subs xs ys) : ys.length = xs.length := by
 induction h with
 | nil => rfl
 | cons _ _ ih => simp [ih]
theorem Sub.agg {xs ys : List MV} (h : Subs xs ys) : Sub (.agg xs) (.agg ys) := fun g w v hx => by
 obtain ⟨us, rfl, hu⟩ := hx.inv_agg
 exact .agg' (h.rds hu)
theorem Sub.tup {xs ys : List MV} (h : Subs xs ys) : Sub (.tup xs) (.tup ys) := fun g w v hx => by
 obtain ⟨us, rfl, hu⟩ := hx.inv_tup
 exact .tup' (h.rds hu)
theorem Sub.fn {f : Fn} {xs ys xs' ys' : List MV} (h : Subs xs ys) (h' : Subs xs' ys') : Sub (.fn f xs xs') (.fn f ys ys') := fun g w v hx => by
 obtain ⟨us, vs, rfl, hu, hv⟩ := hx.inv_fn
 exact .fn' (h.rds hu) (h'.rds hv)
theorem Sub.iface {t : TypeId} {x y : MV} (h : Sub x y) : Sub (.iface t x) (.iface t y) := fun g w v hx => by
 obtain ⟨u, rfl, hu⟩ := hx.inv_iface
 exact .iface _ _ _ (h _ _ _ hu)
theorem Rd.lst' {g : Gh} {w : World} {tok : Option Nat} {sz : Nat} {xs : List MV} {a : Option Addr} {c n : Nat} {us : List Value} (hn : xs.length = n) (h1 : n ≤ c) (h2 : c ≤ maxLen) (h3 : ∀ x ∈ xs, x.cells.length = sz) (h4 : Rds g w (flat xs) us)
  (h5 : ∀ (j : Nat) (u : Value), us[j]? = some u → ∃ ad, a = some ad ∧ Stab g w ad j u) (h7 : ∀ t, tok = some t → g.lg t n = some (.slice a n c)) : Rd g w (.lst tok sz xs) (.slice a n c) := by
 subst hn
 exact .lst tok sz xs a c us h1 h2 h3 h4.1 h5 h4.2 h7
theorem Sub.view (tok : Option Nat) (sz : Nat) (xs : List MV) : Sub (.lst tok sz xs) (.lst none sz xs) := fun g w v hx => by
 obtain ⟨a, c, us, rfl, h1, h2, h3, h4, h5, _⟩ := hx.inv_lst
 exact .lst' rfl h1 h2 h3 h4 h5 (fun t ht => by cases ht)
theorem Sub.nil (sz : Nat) : Sub .lst0 (.lst none sz []) := fun g w v hx => by
 rw [hx.inv_lst0]
 exact .lst' (us := []) rfl (by simp) (by simp [maxLen]) (by simp) (.nil _ _) (by simp) (fun t ht => by cases ht)
theorem Sub.lstOf {tok : Option Nat} {sz : Nat} {xs ys : List MV} (hs : Subs (flat xs) (flat ys)) (hl : ys.length = xs.length) (hc : ∀ y ∈ ys, y.cells.length = sz) : Sub (.lst tok sz xs) (.lst tok sz ys) := fun g w v hx => by
 obtain ⟨a, c, us, rfl, h1, h2, h3, h4, h5, h6⟩ := hx.inv_lst
 exact .lst' hl h1 h2 hc (hs.rds h4) h5 h6
end
section
abbrev Env := List (Nat × MV)
def get : Env → Nat → Option MV
 | [], _ => none
 | (s, x) :: e, t => match Nat.beq s t with | true => some x | false => get e t
def EnvRd (g : Gh) (w : World) (env : Env) (tmps : Array Value) : Prop := ∀ t x, get env t = some x → ∃ v, tmps[t]? = some v ∧ Rd g w x v
theorem get_cons_self (t : Nat) (x : MV) (e : Env) : get ((t, x) :: e) t = some x := by simp [get, Nat.beq_eq_true_eq]
theorem _root_.zX4 : type_of% @get_cons_self := @get_cons_self
theorem get_cons_ne {s t : Nat} (x : MV) (e : Env) (h : s ≠ t) : get ((s, x) :: e) t = get e t := by
 simp only [get]
 cases hb : Nat.beq s t with
 | true => exact absurd (Nat.eq_of_beq_eq_true hb) h
 | false => rfl
theorem _root_.zS4 : type_of% @get_cons_ne := @get_cons_ne
theorem EnvRd.mono0 {g g' : Gh} {w w' : World} (hl : Le0 g w g' w') {env : Env} {tmps : Array Value} (h : EnvRd g w env tmps) : EnvRd g' w' env tmps :=
 fun t x hx => let ⟨v, hv, hr⟩ := h t x hx; ⟨v, hv, hr.mono0 hl⟩
theorem EnvRd.mono {g g' : Gh} {w w' : World} (hl : Le g w g' w') {env : Env} {tmps : Array Value} (h : EnvRd g w env tmps) : EnvRd g' w' env tmps := h.mono0 hl.toLe0
theorem EnvRd.put {g : Gh} {w : World} {env : Env} {tmps : Array Value} (h : EnvRd g w env tmps) {d : Nat} (hd : d < tmps.size) {x : MV} {v : Value} (hx : Rd g w x v) : EnvRd g w ((d, x) :: env) (tmps.setIfInBounds d v) := by
 intro t y hy
 by_cases e : d = t
 ·subst e
  rw [zX4] at hy
  injection hy with hy
  subst hy
  exact ⟨v, by simp [hd], hx⟩
 ·rw [zS4 _ _ e] at hy
  obtain ⟨u, hu, hr⟩ := h t y hy
  exact ⟨u, by rw [Array.getElem?_setIfInBounds_ne e]; exact hu, hr⟩
theorem EnvRd.of_sub {g : Gh} {w : World} {env env' : Env} {tmps : Array Value} (h : EnvRd g w env tmps) (hs : ∀ t y, get env' t = some y → ∃ x, get env t = some x ∧ Sub x y) : EnvRd g w env' tmps := fun t y hy => by
 obtain ⟨x, hx, hsub⟩ := hs t y hy
 obtain ⟨v, hv, hr⟩ := h t x hx
 exact ⟨v, hv, hsub _ _ _ hr⟩
structure LS where
 params : Array Tmp
 assign : Code
 body : Code
 env : Env
 n : Nat
inductive MObj where
 | cells (l : List MV)
 | row (ty : TypeId) (sz n : Nat)
 | loop (s : LoopState) (p : Option Code) (l : LS)
 | mp (clk : Nat) (es : List (ByteArray × MV × Nat))
 | mit (m since : Nat) (seen : List Nat) (last : Nat)
 | pin (ty : TypeId) (l : List UInt8)
 | tcells (ty : TypeId) (l : List MV)
 | fixed (ad : Addr) (v : Value)
 | orow (ty : TypeId) (sz n : Nat) (l : List MV)
 | shut (ty : TypeId) (l : List UInt8)
 | gone
abbrev MS := List MObj
def FrOk (fr : Nat × Nat) (n : Nat) : Prop := fr = (0, 0) ∨ n ≤ fr.1
def MapRel (g : Gh) (w : World) (es : List (ByteArray × MV × Nat)) (ents : List MapEntry) : Prop := ents.length = es.length ∧ ∀ (j : Nat) (e : ByteArray × MV × Nat) (x : MapEntry), es[j]? = some e → ents[j]? = some x → (x.key = .string e.1 ∧ x.born = e.2.2) ∧ Rd g w e.2.1 x.val
def ObjRel (g : Gh) (w : World) (ob : Option Nat) (id : Nat) : MObj → Prop
 | .cells l => ∃ b us ty, ob = some b ∧ g.bk id = some b ∧ g.st b = 0 ∧ (∃ fr, w.heap[b]? = some (.cells us.toArray ty fr) ∧ FrOk fr us.length) ∧ Rds g w l us
 | .row ty sz n => ∃ v us, g.lg id n = some v ∧ w.ownsRow g.B ty sz v n us ∧ v.ownBlock = ob ∧ (∀ b, ob = some b → g.st b = n * sz) ∧ ∀ k, n < k → g.lg id k = none
 | .loop s p ls => ∃ b l, ob = some b ∧ g.bk id = some b ∧ w.heap[b]? = some (.loop l) ∧ l.state = s ∧ l.pending = p ∧ l.params = ls.params ∧ l.assign = ls.assign ∧ l.body = ls.body ∧ l.tmps.size = ls.n ∧ EnvRd g w ls.env l.tmps
 | .mp clk es => ∃ (b : Nat) (ents : Array MapEntry), ob = some b ∧ g.bk id = some b ∧ g.st b = 0 ∧ w.heap[b]? = some (.map ents clk) ∧ MapRel g w es ents.toList
 | .mit m since seen last => ∃ b bm : Nat, ob = some b ∧ g.bk id = some b ∧ g.st b = 0 ∧ g.bk m = some bm ∧ w.heap[b]? = some (.mapIter (some bm) since seen.toArray last)
 | .pin ty l => ∃ (b : Nat) (cur : Array Value), ob = some b ∧ g.bk id = some b ∧ g.st b = l.length ∧ w.heap[b]? = some (.cells cur ty (0, 0)) ∧ l.length ≤ cur.size ∧ ∀ (j : Nat) (c : UInt8), l[j]? = some c → cur[j]? = some (Value.int .u8 (c.toNat : Int))
 | .tcells ty l => ∃ (b : Nat) (us : List Value), ob = some b ∧ g.bk id = some b ∧ g.st b = 0 ∧ w.heap[b]? = some (.cells us.toArray ty (0, 0)) ∧ Rds g w l us
 | .orow ty sz n l => ∃ v us, g.lg id n = some v ∧ w.ownsRow g.B ty sz v n us ∧ v.ownBlock = ob ∧ (∀ b, ob = some b → g.st b = 0) ∧ (∀ k, n < k → g.lg id k = none) ∧ Rds g w l us
 | .shut ty l => ∃ (b c : Nat) (cur : Array Value) (fr : Nat × Nat), ob = some b ∧ g.lg id l.length = some (.slice (some ⟨b, 0, none⟩) l.length c) ∧ g.st b = l.length ∧ w.heap[b]? = some (.cells cur ty fr) ∧ l.length ≤ cur.size ∧ ∀ (j : Nat) (x : UInt8), l[j]? = some x → cur[j]? = some (Value.int .u8 (x.toNat : Int))
 | .fixed ad v => ob = none ∧ Stab g w ad 0 v
 | .gone => ob = none
structure Owns (g : Gh) (σ : MS) (w : World) (own : Nat → Option Nat) : Prop where
 obj : ∀ id o, σ[id]? = some o → ObjRel g w (own id) id o
 inj : ∀ i j b, own i = some b → own j = some b → i = j
 lt : ∀ id b, own id = some b → id < σ.length ∧ g.B ≤ b ∧ b < w.heap.size
structure Rel (g : Gh) (σ : MS) (w : World) : Prop where
 below : Below g.B g.w0 w
 base : g.B ≤ g.w0.heap.size
 fresh : ∀ b, w.heap.size ≤ b → g.st b = 0
 bkn : ∀ id, σ.length ≤ id → g.bk id = none
 lgn : ∀ t n, σ.length ≤ t → g.lg t n = none
 ex : ∃ own, Owns g σ w own
theorem Rel.size {g : Gh} {σ : MS} {w : World} (h : Rel g σ w) : g.B ≤ w.heap.size := Nat.le_trans h.base h.below.size
def Gets (g : Gh) (w : World) (K : MV → MS → Prop) (v : Value) (w' : World) : Prop := ∃ x σ' g', K x σ' ∧ Rel g' σ' w' ∧ Rd g' w' x v ∧ Le g w g' w'
theorem Gets.mono {g : Gh} {w : World} {K K' : MV → MS → Prop} {v : Value} {w' : World} (h : Gets g w K v w') (hk : ∀ x σ', K x σ' → K' x σ') : Gets g w K' v w' :=
 let ⟨x, σ', g', a, b⟩ := h; ⟨x, σ', g', hk _ _ a, b⟩
theorem Gets.le {g g1 : Gh} {w w1 : World} (hl : Le g w g1 w1) {K : MV → MS → Prop} {v : Value} {w' : World} (h : Gets g1 w1 K v w') : Gets g w K v w' :=
 let ⟨x, σ', g', a, b, c, d⟩ := h; ⟨x, σ', g', a, b, c, hl.trans d⟩
def MCalls (P : Program) (f : FuncId) (args : List MV) (σ : MS) (R : MV → MS → Prop) : Prop :=
 ∀ (g : Gh) (w : World) (vs : List Value), Rel g σ w → Rds g w args vs → CallsIn Fence.wide 0 P f vs.toArray w fun e w' => ∃ v, e = .returned v ∧ Gets g w R v w'
theorem MCalls.mono {P : Program} {f : FuncId} {args : List MV} {σ : MS} {R R' : MV → MS → Prop} (h : MCalls P f args σ R) (hr : ∀ x σ', R x σ' → R' x σ') : MCalls P f args σ R' :=
 fun g w vs hrel hrd => (h g w vs hrel hrd).mono fun e w' ⟨v, he, hg⟩ => ⟨v, he, hg.mono hr⟩
theorem MCalls.sub {P : Program} {f : FuncId} {args args' : List MV} {σ : MS} {R : MV → MS → Prop} (h : MCalls P f args' σ R) (hs : Subs args args') : MCalls P f args σ R :=
 fun g w vs hrel hrd => h g w vs hrel (hs.rds hrd)
def FOk (g : Gh) (rd : Option Nat) (F : Fence) : Prop :=
 match rd with
 | none => F = Fence.wide
 | some id => ∃ b, g.bk id = some b ∧ F = Fence.wide.inRound b
theorem FOk.mono {g g' : Gh} {w w' : World} (hl : Le g w g' w') {rd : Option Nat} {F : Fence} (h : FOk g rd F) : FOk g' rd F := by
 cases rd with
 | none => exact h
 | some id => obtain ⟨b, hb, e⟩ := h; exact ⟨b, hl.bk _ _ hb, e⟩
theorem FOk.fn {g : Gh} {rd : Option Nat} {F : Fence} (h : FOk g rd F) (f : FuncId) : F.fn f := by
 cases rd with
 | none => rw [show F = Fence.wide from h]; trivial
 | some id => obtain ⟨b, _, e⟩ := h; rw [e]; trivial
theorem FOk.depth {g : Gh} {rd : Option Nat} {F : Fence} (h : FOk g rd F) {n m : Nat} : F.depth.isSome = true → n ≤ m := by
 cases rd with
 | none => rw [show F = Fence.wide from h]; intro h; cases h
 | some id => obtain ⟨b, _, e⟩ := h; rw [e]; intro h; cases h
theorem FOk.calls {g : Gh} {rd : Option Nat} {F : Fence} (h : FOk g rd F) {n m : Nat} {P : Program} {f : FuncId} {args : Array Value} {w : World} {R : Ending → World → Prop} (hc : CallsIn Fence.wide n P f args w R) : CallsIn F m P f args w R := by
 have hm : CallsIn Fence.wide m P f args w R := callsIn_wide.2 (callsIn_wide.1 hc)
 cases rd with
 | none => rw [show F = Fence.wide from h]; exact hm
 | some id => obtain ⟨b, _, e⟩ := h; rw [e]; exact hm.inRound b
structure LeN (N : Nat) (g : Gh) (w : World) (g' : Gh) (w' : World) : Prop where
 B : g'.B = g.B
 w0 : g'.w0 = g.w0
 st : ∀ b k, k < g.st b → k < g'.st b ∧ w'.cell? ⟨b, k, none⟩ = w.cell? ⟨b, k, none⟩
 bk : ∀ id b, id < N → g.bk id = some b → g'.bk id = some b
 lg : ∀ t n v, t < N → g.lg t n = some v → g'.lg t n = some v
 size : w.heap.size ≤ w'.heap.size
 kept : ∀ (b : Nat) (x : Option (List Deferred)), w.heap[b]? = some (Obj.deferred x) → w'.heap[b]? = some (Obj.deferred x)
theorem Le.toN {g g' : Gh} {w w' : World} (h : Le g w g' w') (N : Nat) : LeN N g w g' w' := ⟨h.B, h.w0, h.st, fun id b _ => h.bk id b, fun t n v _ => h.lg t n v, h.size, h.kept⟩
theorem LeN.refl (N : Nat) (g : Gh) (w : World) : LeN N g w g w := (Le.refl g w).toN N
theorem LeN.trans {N : Nat} {g g' g'' : Gh} {w w' w'' : World} (h : LeN N g w g' w') (k : LeN N g' w' g'' w'') : LeN N g w g'' w'' :=
  ⟨k.B.trans h.B, k.w0.trans h.w0, fun b i hi => let ⟨a, e⟩ := h.st b i hi; let ⟨a', e'⟩ := k.st b i a; ⟨a', e'.trans e⟩, fun id b hid hb => k.bk _ _ hid (h.bk _ _ hid hb), fun t n v ht hv => k.lg _ _ _ ht (h.lg _ _ _ ht hv), Nat.le_trans h.size k.size,
   fun b x hx => k.kept _ _ (h.kept _ _ hx)⟩
theorem LeN.le {N : Nat} {g g' : Gh} {w w' : World} (h : LeN N g w g' w') (hb : ∀ id, N ≤ id → g.bk id = none) (hlg : ∀ t k, N ≤ t → g.lg t k = none) : Le g w g' w' :=
 ⟨⟨h.B, h.w0, h.st, fun id b e => (Nat.lt_or_ge id N).elim (fun hl => h.bk id b hl e) (fun hg => by rw [hb id hg] at e; cases e), fun t k v e => (Nat.lt_or_ge t N).elim (fun hl => h.lg t k v hl e) (fun hg => by rw [hlg t k hg] at e; cases e), h.size⟩, h.kept⟩
theorem LeN.mono {N M : Nat} (hN : M ≤ N) {g g' : Gh} {w w' : World} (h : LeN N g w g' w') : LeN M g w g' w' := ⟨h.B, h.w0, h.st, fun id b hid => h.bk id b (by omega), fun t n v ht => h.lg t n v (by omega), h.size, h.kept⟩
def FOkN (N : Nat) (g : Gh) (rd : Option Nat) (F : Fence) : Prop :=
 match rd with
 | none => F = Fence.wide
 | some id => id < N ∧ ∃ b, g.bk id = some b ∧ F = Fence.wide.inRound b
theorem FOkN.mono {N : Nat} {g g' : Gh} {w w' : World} (hl : LeN N g w g' w') {rd : Option Nat} {F : Fence} (h : FOkN N g rd F) : FOkN N g' rd F := by
 cases rd with
 | none => exact h
 | some id => obtain ⟨hid, b, hb, e⟩ := h; exact ⟨hid, b, hl.bk _ _ hid hb, e⟩
theorem FOkN.ok {N : Nat} {g : Gh} {rd : Option Nat} {F : Fence} (h : FOkN N g rd F) : FOk g rd F := by
 cases rd with
 | none => exact h
 | some id => exact h.2
def constMV1 : Value → Option MV
 | .bool b => some (.bool b)
 | .int k n => some (.int k n)
 | .string s => some (.str s)
 | .pointer none => some .ptr0
 | .slice none 0 0 => some .lst0
 | .nilFunc => some .fn0
 | .map none => some .map0
 | .nilIface => some .iface0
 | .iface t (.int k n) => some (.iface t (.int k n))
 | .iface t (.string s) => some (.iface t (.str s))
 | _ => none
theorem constMV1_rd (g : Gh) (w : World) {v : Value} {x : MV} (h : constMV1 v = some x) : Rd g w x v := by
 unfold constMV1 at h
 split at h <;> first
  | (injection h with h; subst h; first | exact .bool _ | exact .int _ _ | exact .str _ | exact .ptr0 | exact .lst0 | exact .fn0 | exact .map0 | exact .iface0 | exact .iface _ _ _ (.int _ _) | exact .iface _ _ _ (.str _))
  | cases h
def constsMV : List Value → Option (List MV)
 | [] => some []
 | v :: vs => match constMV1 v, constsMV vs with
  | some x, some xs => some (x :: xs)
  | _, _ => none
theorem constsMV_rd (g : Gh) (w : World) : ∀ {vs : List Value} {xs : List MV}, constsMV vs = some xs → Rds g w xs vs
 | [], xs, h => by
  injection h with h
  subst h
  exact .nil _ _
 | v :: vs, xs, h => by
  simp only [constsMV] at h
  split at h
  ·rename_i x ys h1 h2
   injection h with h
   subst h
   exact .cons (constMV1_rd g w h1) (constsMV_rd g w h2)
  ·cases h
def constMV : Value → Option MV
 | .agg cs => match constsMV cs.toList with
  | some xs => some (.agg xs)
  | none => none
 | v => constMV1 v
theorem constMV_rd (g : Gh) (w : World) {v : Value} {x : MV} (h : constMV v = some x) : Rd g w x v := by
 unfold constMV at h
 split at h
 ·rename_i cs
  split at h
  ·rename_i xs hx
   injection h with h
   subst h
   have := Rd.agg' (constsMV_rd g w hx)
   simpa using this
  ·cases h
 ·exact constMV1_rd g w h
theorem _root_.zZ5 : type_of% @constMV_rd := @constMV_rd
def evo (env : Env) : Operand → Option MV
 | .tmp t => get env t
 | .const v => constMV v
 | .func f => some (.fn (.func f) [] [])
 | .global _ => none
theorem evo_rd {g : Gh} {w : World} {env : Env} {a : Act} (h : EnvRd g w env a.tmps) {o : Operand} {x : MV} (hx : evo env o = some x) : Rd g w x (a.eval o) := by
 cases o with
 | tmp t =>
  obtain ⟨v, hv, hr⟩ := h t x hx
  simp only [Act.eval, Array.getD_eq_getD_getElem?, hv, Option.getD_some]
  exact hr
 | const v => exact zZ5 _ _ hx
 | func f =>
  injection hx with hx
  subst hx
  exact .fn' (.nil _ _) (.nil _ _)
 | global _ => cases hx
def OpWp (P : Program) (rd : Option Nat) (o : Oper) (env : Env) (σ : MS) (K : MV → MS → Prop) : Prop :=
 ∀ (g : Gh) (w : World) (a : Act) (F : Fence), FOk g rd F → Rel g σ w → (∀ x ∈ o.op.operands, ∀ m, evo env x = some m → Rd g w m (a.eval x)) →
  o.wpIn F 0 P a w (fun a' w' => ∃ v, a' = a.put o.dst v ∧ Gets g w K v w') (fun _ _ _ => False)
theorem OpWp.mono {P : Program} {rd : Option Nat} {o : Oper} {env : Env} {σ : MS} {K K' : MV → MS → Prop} (h : OpWp P rd o env σ K) (hk : ∀ x σ', K x σ' → K' x σ') : OpWp P rd o env σ K' :=
 fun g w a F hF hr ho => Oper.wpIn_mono (fun a' w' ⟨v, e, hg⟩ => ⟨v, e, hg.mono hk⟩) (h g w a F hF hr ho)
def Marks (m0 : Nat) (w : World) (ds : List Deferred) : Prop := m0 ≤ w.heap.size ∧ (∀ d ∈ ds, ∃ r, m0 ≤ r ∧ d = { target := .collected r, args := #[] } ∧ w.heap[r]? = some (Obj.deferred (some []))) ∧ ds.Pairwise fun d e => ∀ r s, d.target = .collected r → e.target = .collected s → r ≠ s
theorem Marks.nil (w : World) : Marks w.heap.size w [] := ⟨Nat.le_refl _, fun d h => (by cases h), List.Pairwise.nil⟩
theorem Marks.mono {g g' : Gh} {w w' : World} (hl : Le g w g' w') {m0 : Nat} {ds : List Deferred} (h : Marks m0 w ds) : Marks m0 w' ds :=
 ⟨Nat.le_trans h.1 hl.size, fun d hd => let ⟨r, hm, e, hr⟩ := h.2.1 d hd; ⟨r, hm, e, hl.kept _ _ hr⟩, h.2.2⟩
def Left_ (N : Nat) (g : Gh) (w : World) (n m0 : Nat) (Q : Exit → Env → MS → Prop) (e : Exit) (a : Act) (w' : World) : Prop :=
 ∃ env σ g', Q e env σ ∧ Rel g' σ w' ∧ EnvRd g' w' env a.tmps ∧ LeN N g w g' w' ∧ a.tmps.size = n ∧ Marks m0 w' a.defers
def mwp (P : Program) (rd : Option Nat) (N n : Nat) (c : Code) (Q : Exit → Env → MS → Prop) (env : Env) (σ : MS) : Prop :=
 ∀ (g : Gh) (w : World) (a : Act) (F : Fence) (m0 : Nat), FOkN N g rd F → Rel g σ w → EnvRd g w env a.tmps → a.tmps.size = n → Marks m0 w a.defers → c.wpIn F 0 P (Left_ N g w n m0 Q) a w
section rules
variable {P : Program} {rd : Option Nat} {N n : Nat} {Q : Exit → Env → MS → Prop} {env : Env} {σ : MS}
theorem Left_.le {m0 : Nat} {g g1 : Gh} {w w1 : World} (hl : LeN N g w g1 w1) {e : Exit} {a : Act} {w' : World} (h : Left_ N g1 w1 n m0 Q e a w') : Left_ N g w n m0 Q e a w' :=
 let ⟨env, σ, g', h1, h2, h3, h4, h5, h6⟩ := h; ⟨env, σ, g', h1, h2, h3, hl.trans h4, h5, h6⟩
theorem mwp_mono {c : Code} {Q' : Exit → Env → MS → Prop} (h : mwp P rd N n c Q env σ) (hq : ∀ e env σ, Q e env σ → Q' e env σ) : mwp P rd N n c Q' env σ :=
 fun g w a F m0 hF hr he hn hm => wpIn_mono (h g w a F m0 hF hr he hn hm) fun e a' w' ⟨env', σ', g', hQ, rest⟩ => ⟨env', σ', g', hq _ _ _ hQ, rest⟩
theorem mwp_skip (h : Q .normal env σ) : mwp P rd N n .skip Q env σ := fun g w a F m0 hF hr he hn hm => wpIn_skip ⟨env, σ, g, h, hr, he, .refl _ _ _, hn, hm⟩
theorem _root_.zQ : type_of% @mwp_skip := @mwp_skip
theorem mwp_ret (h : Q .ret env σ) : mwp P rd N n .ret Q env σ := fun g w a F m0 hF hr he hn hm => wpIn_ret ⟨env, σ, g, h, hr, he, .refl _ _ _, hn, hm⟩
theorem _root_.zI : type_of% @mwp_ret := @mwp_ret
theorem mwp_exit {id : Nat} (h : Q (.exit id) env σ) : mwp P rd N n (.exit id) Q env σ := fun g w a F m0 hF hr he hn hm => wpIn_exit ⟨env, σ, g, h, hr, he, .refl _ _ _, hn, hm⟩
theorem _root_.zM1 : type_of% @mwp_exit := @mwp_exit
@[reducible] def ThenM (N : Env → MS → Prop) (Q : Exit → Env → MS → Prop) : Exit → Env → MS → Prop
 | .normal, env, σ => N env σ
 | e, env, σ => Q e env σ
theorem mwp_seq {x y : Code} (h : mwp P rd N n x (ThenM (mwp P rd N n y Q) Q) env σ) : mwp P rd N n (.seq x y) Q env σ := by
 intro g w a F m0 hF hr he hn hm
 refine wpIn_seq (wpIn_mono (h g w a F m0 hF hr he hn hm) ?_)
 rintro e a' w' ⟨env', σ', g', hQ, hr', he', hl, hn', hm'⟩
 cases e with
 | normal => exact wpIn_mono (hQ g' w' a' F m0 (hF.mono hl) hr' he' hn' hm') (fun e a w h => h.le hl)
 | exit id => exact ⟨env', σ', g', hQ, hr', he', hl, hn', hm'⟩
 | goto l => exact ⟨env', σ', g', hQ, hr', he', hl, hn', hm'⟩
 | ret => exact ⟨env', σ', g', hQ, hr', he', hl, hn', hm'⟩
 | panic c => exact ⟨env', σ', g', hQ, hr', he', hl, hn', hm'⟩
 | outgrown => exact ⟨env', σ', g', hQ, hr', he', hl, hn', hm'⟩
theorem _root_.zB : type_of% @mwp_seq := @mwp_seq
theorem mwp_cond {c : Operand} {x y : Code} {t : Bool} (hc : evo env c = some (.bool t)) (h : mwp P rd N n (if t then x else y) Q env σ) : mwp P rd N n (.cond c x y) Q env σ :=
 fun g w a F m0 hF hr he hn hm => wpIn_cond (t := t) ((evo_rd he hc).inv_bool) (h g w a F m0 hF hr he hn hm)
theorem mwp_cond_split {c : Operand} {x y : Code} {t : Bool} (hc : evo env c = some (.bool t)) (ht : t = true → mwp P rd N n x Q env σ) (hf : t = false → mwp P rd N n y Q env σ) : mwp P rd N n (.cond c x y) Q env σ := by
 cases t with
 | true => exact mwp_cond hc (ht rfl)
 | false => exact mwp_cond hc (hf rfl)
theorem _root_.zJ : type_of% @mwp_cond_split := @mwp_cond_split
@[reducible] def BlockM (id : Nat) (Q : Exit → Env → MS → Prop) : Exit → Env → MS → Prop
 | .exit id', env, σ => match Nat.beq id' id with | true => Q .normal env σ | false => Q (.exit id') env σ
 | e, env, σ => Q e env σ
theorem mwp_block {id : Nat} {c : Code} (h : mwp P rd N n c (BlockM id Q) env σ) : mwp P rd N n (.block id c) Q env σ := by
 intro g w a F m0 hF hr he hn hm
 refine wpIn_block (wpIn_mono (h g w a F m0 hF hr he hn hm) ?_)
 rintro e a' w' ⟨env', σ', g', hQ, rest⟩
 cases e with
 | exit id' =>
  simp only [BlockM] at hQ
  simp only [Exit.inBlock]
  split
  ·rename_i e; rw [e, Nat.beq_refl] at hQ; exact ⟨env', σ', g', hQ, rest⟩
  ·rename_i e
   have : Nat.beq id' id = false := by
    cases hb : Nat.beq id' id with
    | true => exact absurd (Nat.eq_of_beq_eq_true hb) e
    | false => rfl
   rw [this] at hQ; exact ⟨env', σ', g', hQ, rest⟩
 | normal => exact ⟨env', σ', g', hQ, rest⟩
 | goto l => exact ⟨env', σ', g', hQ, rest⟩
 | ret => exact ⟨env', σ', g', hQ, rest⟩
 | panic c => exact ⟨env', σ', g', hQ, rest⟩
 | outgrown => exact ⟨env', σ', g', hQ, rest⟩
theorem _root_.zX : type_of% @mwp_block := @mwp_block
theorem mwp_ghost {c : Code} {env' : Env} {σ' : MS} (hg : ∀ g w (tmps : Array Value), Rel g σ w → EnvRd g w env tmps → ∃ g', Rel g' σ' w ∧ EnvRd g' w env' tmps ∧ LeN N g w g' w ∧ ∀ F, FOkN N g rd F → FOkN N g' rd F) (h : mwp P rd N n c Q env' σ') : mwp P rd N n c Q env σ := by
 intro g w a F m0 hF hr he hn hm
 obtain ⟨g', hr', he', hl, hf⟩ := hg g w a.tmps hr he
 exact wpIn_mono (h g' w a F m0 (hf F hF) hr' he' hn hm) (fun e a w h => h.le hl)
theorem mwp_env {c : Code} {env' : Env} (hs : ∀ t y, get env' t = some y → ∃ x, get env t = some x ∧ Sub x y) (h : mwp P rd N n c Q env' σ) : mwp P rd N n c Q env σ :=
 mwp_ghost (fun g w tmps hr he => ⟨g, hr, he.of_sub hs, .refl _ _ _, fun _ h => h⟩) h
theorem exists_least (p : Nat → Prop) (h : ∃ n, p n) : ∃ n, p n ∧ ∀ m, m < n → ¬ p m := by
 obtain ⟨n, hn⟩ := h
 induction n using Nat.strongRecOn with
 | _ n ih =>
  by_cases hm : ∃ m, m < n ∧ p m
  ·obtain ⟨m, hlt, hp⟩ := hm
   exact ih m hlt hp
  ·exact ⟨n, hn, fun m hlt hp => hm ⟨m, hlt, hp⟩⟩
theorem mwp_loop {c : Code} {α : Type} (I : α → Env → MS → Prop) (m : α → Nat) (x₀ : α) (h₀ : I x₀ env σ)
  (round : ∀ x env σ, I x env σ → mwp P rd N n c (ThenM (fun env' σ' => ∃ y, m y < m x ∧ I y env' σ') Q) env σ) : mwp P rd N n (.loop c) Q env σ := by
 classical
 intro g w a F m0 hF hr he hn hm
 let J : Act → World → Nat → Prop := fun a' w' k => ∃ x env' σ' g', m x = k ∧ I x env' σ' ∧ Rel g' σ' w' ∧ EnvRd g' w' env' a'.tmps ∧ LeN N g w g' w' ∧ a'.tmps.size = n ∧ Marks m0 w' a'.defers
 let μ : Act → World → Nat := fun a' w' => if h : ∃ k, J a' w' k then Classical.choose (exists_least _ h) else 0
 have hμ : ∀ a' w' k, J a' w' k → J a' w' (μ a' w') ∧ μ a' w' ≤ k := by
  intro a' w' k hk
  have hex : ∃ k, J a' w' k := ⟨k, hk⟩
  have hs := Classical.choose_spec (exists_least _ hex)
  have e : μ a' w' = Classical.choose (exists_least _ hex) := by simp only [μ]; rw [dif_pos hex]
  rw [e]
  exact ⟨hs.1, Nat.le_of_not_lt fun hlt => hs.2 k hlt hk⟩
 refine wpIn_loop (fun a' w' => ∃ k, J a' w' k) μ ⟨_, x₀, env, σ, g, rfl, h₀, hr, he, .refl _ _ _, hn, hm⟩ ?_
 rintro a1 w1 ⟨k1, hk1⟩
 obtain ⟨⟨x, env1, σ1, g1, hx, hI, hr1, he1, hl1, hn1, hm1⟩, _⟩ := hμ a1 w1 k1 hk1
 refine wpIn_mono (round x env1 σ1 hI g1 w1 a1 F m0 (hF.mono hl1) hr1 he1 hn1 hm1) ?_
 rintro e a2 w2 ⟨env2, σ2, g2, hQ, hr2, he2, hl2, hn2, hm2⟩
 cases e with
 | normal =>
  obtain ⟨y, hy, hIy⟩ := hQ
  have hJ : J a2 w2 (m y) := ⟨y, env2, σ2, g2, rfl, hIy, hr2, he2, hl1.trans hl2, hn2, hm2⟩
  have := hμ a2 w2 _ hJ
  exact ⟨⟨_, hJ⟩, by omega⟩
 | exit id => exact ⟨env2, σ2, g2, hQ, hr2, he2, hl1.trans hl2, hn2, hm2⟩
 | goto l => exact ⟨env2, σ2, g2, hQ, hr2, he2, hl1.trans hl2, hn2, hm2⟩
 | ret => exact ⟨env2, σ2, g2, hQ, hr2, he2, hl1.trans hl2, hn2, hm2⟩
 | panic ch => exact ⟨env2, σ2, g2, hQ, hr2, he2, hl1.trans hl2, hn2, hm2⟩
 | outgrown => exact ⟨env2, σ2, g2, hQ, hr2, he2, hl1.trans hl2, hn2, hm2⟩
end rules
end
section
def guardOk (ops : Array Oper) (env : Env) (o : Oper) : Option Bool :=
 match o.guard with
 | none => some true
 | some (j, want) =>
  match (ops[j]?).bind (·.dst) with
  | some d => match get env d with | some (.bool b) => some (b == want) | some (.tup []) => some false | _ => none
  | none => none
def putd (dst : Option Nat) (x : MV) (env : Env) : Env := match dst with | some d => (d, x) :: env | none => env
def dstsOk (n : Nat) (ops : Array Oper) : Bool := ops.toList.all fun o => match o.dst with | some d => Nat.blt d n | none => true
theorem dstsOk_at {n : Nat} {ops : Array Oper} (h : dstsOk n ops = true) {i : Nat} {o : Oper} (hi : ops[i]? = some o) {d : Nat} (hd : o.dst = some d) : d < n := by
 simp only [dstsOk, List.all_eq_true] at h
 have hm : o ∈ ops.toList := by
  rw [← Array.getElem?_toList] at hi
  exact zW hi
 have := h o hm
 rw [hd] at this
 simpa using this
theorem EnvRd.putd {g : Gh} {w : World} {env : Env} {a : Act} (h : EnvRd g w env a.tmps) {dst : Option Nat} (hd : ∀ d, dst = some d → d < a.tmps.size) {x : MV} {v : Value} (hx : Rd g w x v) : EnvRd g w (putd dst x env) (a.put dst v).tmps := by
 cases dst with
 | none => exact h
 | some d => exact EnvRd.put h (hd d rfl) hx
theorem size_put (a : Act) (dst : Option Nat) (v : Value) : (a.put dst v).tmps.size = a.tmps.size := by cases dst <;> simp [Act.put]
theorem defers_put (a : Act) (dst : Option Nat) (v : Value) : (a.put dst v).defers = a.defers := by cases dst <;> rfl
theorem guardOk_wanted {g : Gh} {w : World} {ops : Array Oper} {env : Env} {o : Oper} {b : Bool} (h : guardOk ops env o = some b) {tmps : Array Value}
  (he : ∀ j want d x, o.guard = some (j, want) → (ops[j]?).bind (·.dst) = some d → get env d = some x → ∃ v, tmps[d]? = some v ∧ Rd g w x v) : Region.wanted o (yielded ops tmps) = b := by
 unfold guardOk at h
 unfold Region.wanted
 cases hg : o.guard with
 | none => rw [hg] at h; simpa using h
 | some p =>
  obtain ⟨j, want⟩ := p
  rw [hg] at h
  simp only at h ⊢
  cases hd : (ops[j]?).bind (·.dst) with
  | none => rw [hd] at h; cases h
  | some d =>
   rw [hd] at h
   simp only at h
   cases hx : get env d with
   | none => rw [hx] at h; cases h
   | some x =>
    obtain ⟨v, hv, hr⟩ := he j want d x hg hd hx
    rw [hx] at h
    cases x with
    | bool c =>
     have hv' := hr.inv_bool
     subst hv'
     simp only [Option.some.injEq] at h
     simp only [yielded, hd, Option.bind_some, hv]
     rw [← h]
     cases c <;> cases want <;> rfl
    | tup l =>
     cases l with
     | nil =>
      obtain ⟨us, e, hu⟩ := hr.inv_tup
      subst e
      simp only [Option.some.injEq] at h
      subst h
      simp only [yielded, hd, Option.bind_some, hv]
      rfl
     | cons _ _ => cases h
    | _ => cases h
def wOps (P : Program) (rd : Option Nat) (ops : Array Oper) (Q : Env → MS → Prop) : List Oper → Env → MS → Prop
 | [], env, σ => Q env σ
 | o :: rest, env, σ =>
  match guardOk ops env o with
  | some true => OpWp P rd o env σ fun x σ' => wOps P rd ops Q rest (putd o.dst x env) σ'
  | some false => wOps P rd ops Q rest (putd o.dst (.tup []) env) σ
  | none => False
section
variable {P : Program} {rd : Option Nat} {N n : Nat} {ops : Array Oper} {Q : Exit → Env → MS → Prop} {env : Env} {σ : MS}
theorem wOps_op {Q : Env → MS → Prop} {o : Oper} {rest : List Oper} (hg : guardOk ops env o = some true) (h : OpWp P rd o env σ fun x σ' => wOps P rd ops Q rest (putd o.dst x env) σ') : wOps P rd ops Q (o :: rest) env σ := by
 simp only [wOps, hg]; exact h
theorem _root_.zM5 : type_of% @wOps_op := @wOps_op
theorem wOps_skip {Q : Env → MS → Prop} {o : Oper} {rest : List Oper} (hg : guardOk ops env o = some false) (h : wOps P rd ops Q rest (putd o.dst (.tup []) env) σ) : wOps P rd ops Q (o :: rest) env σ := by
 simp only [wOps, hg]; exact h
theorem rd_undef (g : Gh) (w : World) : Rd g w (.tup []) undef := .tup' (.nil _ _)
theorem wOps_sound (hb : dstsOk n ops = true) {g : Gh} {w0 : World} {F : Fence} {m0 : Nat} : ∀ (l : List Oper) (k : Nat) (env : Env) (σ : MS) (g1 : Gh) (w : World) (a : Act), (∀ j, l[j]? = ops[k + j]?) → wOps P rd ops (fun env σ => Q .normal env σ) l env σ →
  FOkN N g1 rd F → Rel g1 σ w → EnvRd g1 w env a.tmps → a.tmps.size = n → Marks m0 w a.defers → LeN N g w0 g1 w → wpOpsIn F 0 P ops (Left_ N g w0 n m0 Q) (List.range' k l.length) a w
 | [], k, env, σ, g1, w, a, hl, h, hF, hr, he, hn, hm, hle => ⟨env, σ, g1, h, hr, he, hle, hn, hm⟩
 | o :: l, k, env, σ, g1, w, a, hl, h, hF, hr, he, hn, hm, hle => by
  have ho : ops[k]? = some o := by simpa using (hl 0).symm
  have hl' : ∀ j, l[j]? = ops[k + 1 + j]? := fun j => by
   have := hl (j + 1)
   rw [List.getElem?_cons_succ] at this
   rw [this, show k + (j + 1) = k + 1 + j by omega]
  have hdst : ∀ d, o.dst = some d → d < a.tmps.size := fun d hd => by rw [hn]; exact dstsOk_at hb ho hd
  rw [zF0, List.range'_succ]
  simp only [wpOpsIn, ho]
  simp only [wOps] at h
  split at h
  ·rename_i hg
   have hw : Region.wanted o (yielded ops a.tmps) = true := guardOk_wanted hg (fun j want d x _ _ hx => he d x hx)
   rw [if_pos hw]
   have := h g1 w a F hF.ok hr (fun x _ m hx => evo_rd he hx)
   have h2 := Oper.wpIn_mono (K' := wpOpsIn F 0 P ops (Left_ N g w0 n m0 Q) (List.range' (k + 1) l.length)) ?_ this
   ·refine ⟨h2.1, ?_⟩
    have h3 := h2.2
    revert h3
    generalize (o.semAt F.round a.eval).run P w = r
    intro h3
    cases r with
    | ok x w' =>
     cases x with
     | value v => exact h3
     | skip => exact h3
     | defer d => exact h3
     | enter f args =>
      refine ⟨h3.1, h3.2.mono ?_⟩
      rintro (⟨v⟩ | ⟨c⟩ | _) w'' hx
      ·exact hx
      ·exact hx.elim
      ·obtain ⟨_, _, hx⟩ := hx; exact hx.elim
     | row r' args => exact h3
     | round l f t b c =>
      refine ⟨h3.1, h3.2.mono ?_⟩
      rintro (⟨v⟩ | ⟨c⟩ | _) w'' hx
      ·exact hx
      ·exact hx.elim
      ·obtain ⟨_, _, hx⟩ := hx; exact hx.elim
     | _ => exact h3.elim
    | halt x w' =>
     cases x with
     | panic v => exact h3.elim
     | _ => exact h3.elim
   ·rintro a' w' ⟨v, rfl, x, σ', g', hK, hr', hx, hl2⟩
    exact wOps_sound hb l (k + 1) _ σ' g' w' _ hl' hK (hF.mono (hl2.toN N)) hr' ((he.mono hl2).putd hdst hx) (by rw [size_put]; exact hn) (by rw [defers_put]; exact hm.mono hl2) (hle.trans (hl2.toN N))
  ·rename_i hg
   have hw : Region.wanted o (yielded ops a.tmps) = false := guardOk_wanted hg (fun j want d x _ _ hx => he d x hx)
   rw [if_neg (by rw [hw]; simp)]
   exact ⟨fun f _ => hF.ok.fn f, wOps_sound hb l (k + 1) _ σ g1 w _ hl' h hF hr (he.putd hdst (rd_undef _ _)) (by rw [size_put]; exact hn) (by rw [defers_put]; exact hm) hle⟩
  ·exact h.elim
theorem mwp_region {id : Nat} (hb : dstsOk n ops = true) (h : wOps P rd ops (fun env σ => Q .normal env σ) ops.toList env σ) : mwp P rd N n (.region id ops false) Q env σ := by
 intro g w a F m0 hF hr he hn hm
 refine wpIn_region ?_
 have := wOps_sound (P := P) (rd := rd) (N := N) (n := n) (ops := ops) (Q := Q) hb (g := g) (w0 := w) (F := F) (m0 := m0) ops.toList 0 env σ g w a (fun j => by simp) h hF hr he hn hm (.refl _ _ _)
 rw [Array.length_toList] at this
 rw [List.range_eq_range']
 exact this
def tyAgg (P : Program) (t : TypeId) : Option (Option Nat) :=
 match P.underlying t with
 | some (.struct _) | some (.array _ _) => match P.info? t with | some i => some (some i.size) | none => none
 | some _ => some none
 | none => none
def loadMV (ta : Option Nat) (l : List MV) (off : Nat) : Option MV :=
 match ta with
 | some k => if off + k ≤ l.length then some (.agg ((l.drop off).take k)) else none
 | none => l[off]?
end
end
theorem ownsRow_congr {w w' : World} {B : Nat} {e : TypeId} {sz n : Nat} {v : Value} {us : List Value} (h : w.ownsRow B e sz v n us) (hk : ∀ b, v.ownBlock = some b → w'.heap[b]? = w.heap[b]?) : w'.ownsRow B e sz v n us := by
 refine ⟨h.1, ?_⟩
 rcases h.2 with h0 | ⟨b, cap, cur, hv, hb, hh, rest⟩
 ·exact .inl h0
 ·exact .inr ⟨b, cap, cur, hv, hb, (hk b (by rw [hv]; rfl)).trans hh, rest⟩
theorem ObjRel.keep0 {g g' : Gh} {w w' : World} (hl : Le0 g w g' w') {ob : Option Nat} {id : Nat} {o : MObj} (hb : ∀ b, ob = some b → w'.heap[b]? = w.heap[b]? ∧ g'.st b = g.st b) (hlg : ∀ k, g'.lg id k = g.lg id k) (h : ObjRel g w ob id o) : ObjRel g' w' ob id o := by
 cases o with
 | cells l =>
  obtain ⟨b, us, ty, h1, h2, h3, h4, h5⟩ := h
  obtain ⟨fr, h4, h6⟩ := h4
  exact ⟨b, us, ty, h1, hl.bk _ _ h2, (hb b h1).2.trans h3, ⟨fr, (hb b h1).1.trans h4, h6⟩, h5.mono0 hl⟩
 | row ty sz n =>
  obtain ⟨v, us, h1, h2, h3, h4, h5⟩ := h
  exact ⟨v, us, hl.lg _ _ _ h1, by rw [hl.B]; exact ownsRow_congr h2 (fun b hv => (hb b (h3 ▸ hv)).1), h3, fun b hob => (hb b hob).2.trans (h4 b hob), fun k hk => (hlg k).trans (h5 k hk)⟩
 | loop s p ls =>
  obtain ⟨b, l, h1, h2, h3, h4, h5, h6, h7, h8, h9, h10⟩ := h
  exact ⟨b, l, h1, hl.bk _ _ h2, (hb b h1).1.trans h3, h4, h5, h6, h7, h8, h9, h10.mono0 hl⟩
 | mp clk es =>
  obtain ⟨b, ents, h1, h2, h3, h4, h5, h6⟩ := h
  exact ⟨b, ents, h1, hl.bk _ _ h2, (hb b h1).2.trans h3, (hb b h1).1.trans h4, h5, fun j e x he hx => ⟨(h6 j e x he hx).1, (h6 j e x he hx).2.mono0 hl⟩⟩
 | mit m since seen last =>
  obtain ⟨b, bm, h1, h2, h3, h4, h5⟩ := h
  exact ⟨b, bm, h1, hl.bk _ _ h2, (hb b h1).2.trans h3, hl.bk _ _ h4, (hb b h1).1.trans h5⟩
 | pin ty l =>
  obtain ⟨b, cur, h1, h2, h3, h4, h5⟩ := h
  exact ⟨b, cur, h1, hl.bk _ _ h2, (hb b h1).2.trans h3, (hb b h1).1.trans h4, h5⟩
 | tcells ty l =>
  obtain ⟨b, us, h1, h2, h3, h4, h5⟩ := h
  exact ⟨b, us, h1, hl.bk _ _ h2, (hb b h1).2.trans h3, (hb b h1).1.trans h4, h5.mono0 hl⟩
 | orow ty sz n l =>
  obtain ⟨v, us, h1, h2, h3, h4, h5, h6⟩ := h
  exact ⟨v, us, hl.lg _ _ _ h1, by rw [hl.B]; exact ownsRow_congr h2 (fun b hv => (hb b (h3 ▸ hv)).1), h3, fun b hob => (hb b hob).2.trans (h4 b hob), fun k hk => (hlg k).trans (h5 k hk), h6.mono0 hl⟩
 | shut ty l =>
  obtain ⟨b, c, cur, fr, h1, h2, h3, h4, h5⟩ := h
  exact ⟨b, c, cur, fr, h1, hl.lg _ _ _ h2, (hb b h1).2.trans h3, (hb b h1).1.trans h4, h5⟩
 | fixed ad v => exact ⟨h.1, h.2.mono hl⟩
 | gone => exact h
theorem Owns.keep0 {g g' : Gh} {w w' : World} {σ : MS} {own : Nat → Option Nat} (hl : Le0 g w g' w') (hb : ∀ id b, own id = some b → w'.heap[b]? = w.heap[b]? ∧ g'.st b = g.st b) (hlg : ∀ id k, g'.lg id k = g.lg id k) (h : Owns g σ w own) : Owns g' σ w' own :=
 ⟨fun id o ho => (h.obj id o ho).keep0 hl (fun b e => hb id b e) (hlg id), h.inj, fun id b e => ⟨(h.lt id b e).1, by rw [hl.B]; exact (h.lt id b e).2.1, Nat.lt_of_lt_of_le (h.lt id b e).2.2 hl.size⟩⟩
theorem Owns.keep {g g' : Gh} {w w' : World} {σ : MS} {own : Nat → Option Nat} (hl : Le g w g' w') (hb : ∀ id b, own id = some b → w'.heap[b]? = w.heap[b]? ∧ g'.st b = g.st b) (hlg : ∀ id k, g'.lg id k = g.lg id k) (h : Owns g σ w own) : Owns g' σ w' own := h.keep0 hl.toLe0 hb hlg
theorem Le.drew (g : Gh) (w : World) : Le g w g w.drew := ⟨⟨rfl, rfl, fun _ _ h => ⟨h, rfl⟩, fun _ _ h => h, fun _ _ _ h => h, Nat.le_refl _⟩, fun _ _ h => h⟩
theorem Rel.drew {g : Gh} {σ : MS} {w : World} (h : Rel g σ w) : Rel g σ w.drew :=
 ⟨h.below.drew, h.base, h.fresh, h.bkn, h.lgn, h.ex.imp fun own ho => ho.keep (Le.drew g w) (fun _ _ _ => ⟨rfl, rfl⟩) (fun _ _ => rfl)⟩
theorem Rel.st_lt {g : Gh} {σ : MS} {w : World} (h : Rel g σ w) {b k : Nat} (hk : k < g.st b) : b < w.heap.size := by
 rcases Nat.lt_or_ge b w.heap.size with hlt | hge
 ·exact hlt
 ·rw [h.fresh b hge] at hk; omega
def Gh.stab (g : Gh) (b k : Nat) : Gh := { g with st := fun c => if c = b then k else g.st c }
def Gh.bind (g : Gh) (id b : Nat) : Gh := { g with bk := fun i => if i = id then some b else g.bk i }
def Gh.log (g : Gh) (t n : Nat) (v : Value) : Gh := { g with lg := fun i m => if i = t ∧ m = n then some v else g.lg i m }
theorem Le.alloc_stab {g : Gh} {σ : MS} {w : World} (h : Rel g σ w) (o : Obj) (k : Nat) : Le g w (g.stab w.heap.size k) (w.alloc o) := by
 refine ⟨⟨rfl, rfl, fun b i hi => ?_, fun _ _ h => h, fun _ _ _ h => h, by simp⟩, fun b x hx => ?_⟩
 ·have hlt := h.st_lt hi
  refine ⟨?_, World.cell?_of_block (w := w) (a := ⟨b, i, none⟩) (Below.heap_alloc w o b hlt)⟩
  simp only [Gh.stab]
  rw [if_neg (by omega)]
  exact hi
 ·have hlt : b < w.heap.size := (Array.getElem?_eq_some_iff.1 hx).1
  exact (Below.heap_alloc w o b hlt).trans hx
theorem Rel.alloc_stab {g : Gh} {σ : MS} {w : World} (h : Rel g σ w) (o : Obj) (k : Nat) : Rel (g.stab w.heap.size k) σ (w.alloc o) := by
 refine ⟨h.below.alloc h.size o, h.base, fun b hb => ?_, h.bkn, h.lgn, ?_⟩
 ·simp at hb
  simp only [Gh.stab]
  rw [if_neg (by omega)]
  exact h.fresh b (by omega)
 ·obtain ⟨own, ho⟩ := h.ex
  refine ⟨own, ho.keep (Le.alloc_stab h o k) (fun id b e => ?_) (fun _ _ => V)⟩
  have hlt := (ho.lt id b e).2.2
  refine ⟨Below.heap_alloc w o b hlt, ?_⟩
  simp only [Gh.stab]
  rw [if_neg (by omega)]
theorem heap_new (w : World) (o : Obj) : (w.alloc o).heap[w.heap.size]? = some o := by
 show (w.heap.push o)[w.heap.size]? = _
 simp
theorem cell_new (w : World) (us : List Value) (ty : TypeId) (j : Nat) : (w.alloc (.cells us.toArray ty)).cell? ((⟨w.heap.size, 0, none⟩ : Addr).add j) = us[j]? := by
 have e : (⟨w.heap.size, 0, none⟩ : Addr).add j = ⟨w.heap.size, j, none⟩ := by unfold Addr.add; split <;> simp_all
 rw [e]
 simp only [World.cell?, heap_new]
 simp
theorem stab_new (g : Gh) (w : World) (us : List Value) (ty : TypeId) {j : Nat} {u : Value} (hu : us[j]? = some u) (h1 : u.oneCell' = true) : Stab (g.stab w.heap.size us.length) (w.alloc (.cells us.toArray ty)) ⟨w.heap.size, 0, none⟩ j u := by
 refine ⟨?_, (cell_new w us ty j).trans hu, h1⟩
 have e : (⟨w.heap.size, 0, none⟩ : Addr).add j = ⟨w.heap.size, j, none⟩ := by unfold Addr.add; split <;> simp_all
 rw [e]
 simp only [Gh.stab, if_true]
 exact (zD.1 hu).1
theorem Le.bind {g : Gh} {w : World} {id b : Nat} (h : g.bk id = none) : Le g w (g.bind id b) w := by
 refine ⟨⟨rfl, rfl, fun _ _ h => ⟨h, rfl⟩, fun i c hc => ?_, fun _ _ _ h => h, Nat.le_refl _⟩, fun _ _ h => h⟩
 simp only [Gh.bind]
 rw [if_neg (fun e => by subst e; rw [h] at hc; cases hc)]
 exact hc
theorem Rel.alloc_objF {g : Gh} {σ : MS} {w : World} (h : Rel g σ w) {l : List MV} {us : List Value} (hl : Rds g w l us) (ty : TypeId) (fr : Nat × Nat) (hfr : FrOk fr us.length) :
  ∃ g', Rel g' (σ ++ [.cells l]) (w.alloc (.cells us.toArray ty fr)) ∧ Le g w g' (w.alloc (.cells us.toArray ty fr)) ∧ g'.bk σ.length = some w.heap.size := by
 have l1 := Le.alloc_stab h (.cells us.toArray ty fr) 0
 have r1 := h.alloc_stab (.cells us.toArray ty fr) 0
 have l2 : Le (g.stab w.heap.size 0) (w.alloc (.cells us.toArray ty fr)) ((g.stab w.heap.size 0).bind σ.length w.heap.size) (w.alloc (.cells us.toArray ty fr)) := Le.bind (r1.bkn σ.length (Nat.le_refl _))
 refine ⟨(g.stab w.heap.size 0).bind σ.length w.heap.size, ⟨r1.below, r1.base, r1.fresh, fun id hid => ?_, fun t n ht => r1.lgn t n (by simp at ht; omega), ?_⟩, l1.trans l2, by simp [Gh.bind]⟩
 ·simp at hid
  simp only [Gh.bind]
  rw [if_neg (by omega)]
  exact r1.bkn id (by omega)
 ·obtain ⟨own, ho⟩ := r1.ex
  have ho' := ho.keep l2 (fun _ _ _ => ⟨rfl, rfl⟩) (fun _ _ => rfl)
  have hold : ∀ id b, own id = some b → b < w.heap.size := by
   intro id b e
   obtain ⟨h1, h2, h3⟩ := ho.lt id b e
   rcases Nat.lt_or_ge b w.heap.size with hlt | hge
   ·exact hlt
   ·obtain ⟨own0, ho0⟩ := h.ex
    simp at h3
    have hb : b = w.heap.size := by omega
    subst hb
    have hob := ho.obj id _ (zC h1)
    cases hσ : σ[id] with
    | cells l' =>
     rw [hσ] at hob
     obtain ⟨b', us', ty', e1, e2, _⟩ := hob
     have hob0 := ho0.obj id _ (zC h1)
     rw [hσ] at hob0
     obtain ⟨b0, us0, ty0, f1, f2, _⟩ := hob0
     have hb0 := (ho0.lt id b0 f1).2.2
     have : (g.stab w.heap.size 0).bk id = g.bk id := rfl
     rw [this, f2] at e2
     injection e2 with e2
     rw [e] at e1
     injection e1 with e1
     omega
    | row ty' sz n =>
     rw [hσ] at hob
     obtain ⟨v, us', e1, e2, e3, _⟩ := hob
     have hob0 := ho0.obj id _ (zC h1)
     rw [hσ] at hob0
     obtain ⟨v0, us0, f1, f2, f3, _⟩ := hob0
     have : (g.stab w.heap.size 0).lg id n = g.lg id n := rfl
     rw [this, f1] at e1
     injection e1 with e1
     subst e1
     have hb0 := (ho0.lt id w.heap.size (by rw [← f3, e3, e])).2.2
     omega
    | loop s p ls =>
     rw [hσ] at hob
     obtain ⟨b', l', e1, e2, _⟩ := hob
     have hob0 := ho0.obj id _ (zC h1)
     rw [hσ] at hob0
     obtain ⟨b0, l0, f1, f2, _⟩ := hob0
     have hb0 := (ho0.lt id b0 f1).2.2
     have : (g.stab w.heap.size 0).bk id = g.bk id := rfl
     rw [this, f2] at e2
     injection e2 with e2
     rw [e] at e1
     injection e1 with e1
     omega
    | mp clk es =>
     rw [hσ] at hob
     obtain ⟨b', ents', e1, e2, _⟩ := hob
     have hob0 := ho0.obj id _ (zC h1)
     rw [hσ] at hob0
     obtain ⟨b0, ents0, f1, f2, _⟩ := hob0
     have hb0 := (ho0.lt id b0 f1).2.2
     have : (g.stab w.heap.size 0).bk id = g.bk id := rfl
     rw [this, f2] at e2
     injection e2 with e2
     rw [e] at e1
     injection e1 with e1
     omega
    | mit m since seen last =>
     rw [hσ] at hob
     obtain ⟨b', bm', e1, e2, _⟩ := hob
     have hob0 := ho0.obj id _ (zC h1)
     rw [hσ] at hob0
     obtain ⟨b0, bm0, f1, f2, _⟩ := hob0
     have hb0 := (ho0.lt id b0 f1).2.2
     have : (g.stab w.heap.size 0).bk id = g.bk id := rfl
     rw [this, f2] at e2
     injection e2 with e2
     rw [e] at e1
     injection e1 with e1
     omega
    | pin ty l =>
     rw [hσ] at hob
     obtain ⟨b', cur', e1, e2, _⟩ := hob
     have hob0 := ho0.obj id _ (zC h1)
     rw [hσ] at hob0
     obtain ⟨b0, cur0, f1, f2, _⟩ := hob0
     have hb0 := (ho0.lt id b0 f1).2.2
     have : (g.stab w.heap.size 0).bk id = g.bk id := rfl
     rw [this, f2] at e2
     injection e2 with e2
     rw [e] at e1
     injection e1 with e1
     omega
    | tcells ty l =>
     rw [hσ] at hob
     obtain ⟨b', cur', e1, e2, _⟩ := hob
     have hob0 := ho0.obj id _ (zC h1)
     rw [hσ] at hob0
     obtain ⟨b0, cur0, f1, f2, _⟩ := hob0
     have hb0 := (ho0.lt id b0 f1).2.2
     have : (g.stab w.heap.size 0).bk id = g.bk id := rfl
     rw [this, f2] at e2
     injection e2 with e2
     rw [e] at e1
     injection e1 with e1
     omega
    | orow ty' sz n l' =>
     rw [hσ] at hob
     obtain ⟨v, us', e1, e2, e3, _⟩ := hob
     have hob0 := ho0.obj id _ (zC h1)
     rw [hσ] at hob0
     obtain ⟨v0, us0, f1, f2, f3, _⟩ := hob0
     have : (g.stab w.heap.size 0).lg id n = g.lg id n := rfl
     rw [this, f1] at e1
     injection e1 with e1
     subst e1
     have hb0 := (ho0.lt id w.heap.size (by rw [← f3, e3, e])).2.2
     omega
    | shut ty' l' =>
     rw [hσ] at hob
     obtain ⟨b', c', cur', fr', e1, e2, _⟩ := hob
     have hob0 := ho0.obj id _ (zC h1)
     rw [hσ] at hob0
     obtain ⟨b0, c0, cur0, fr0, f1, f2, _⟩ := hob0
     have hb0 := (ho0.lt id b0 f1).2.2
     have : (g.stab w.heap.size 0).lg id l'.length = g.lg id l'.length := rfl
     rw [this, f2] at e2
     injection e2 with e2
     injection e2 with e2
     injection e2 with e2
     injection e2 with e2
     rw [e] at e1
     injection e1 with e1
     omega
    | fixed ad v =>
     rw [hσ] at hob
     rw [hob.1] at e
     cases e
    | gone =>
     rw [hσ] at hob
     rw [show own id = none from hob] at e
     cases e
  refine ⟨fun id => if id = σ.length then some w.heap.size else own id, ⟨fun id o hid => ?_, fun i j b hi hj => ?_, fun id b hid => ?_⟩⟩
  ·by_cases e : id = σ.length
   ·subst e
    rw [List.getElem?_append_right (Nat.le_refl _)] at hid
    simp at hid
    subst hid
    simp only [if_true]
    refine ⟨w.heap.size, us, ty, rfl, by simp [Gh.bind], by simp [Gh.bind, Gh.stab], ⟨fr, heap_new _ _, hfr⟩, (hl.mono l1).mono l2⟩
   ·rw [if_neg e]
    have hlt : id < σ.length := by
     have := (zD.1 hid).1
     simp at this
     omega
    rw [List.getElem?_append_left hlt] at hid
    exact ho'.obj id o hid
  ·by_cases ei : i = σ.length <;> by_cases ej : j = σ.length
   ·omega
   ·simp only [ei, if_true] at hi
    simp only [ej, if_false] at hj
    have := hold j b hj
    injection hi with hi
    omega
   ·simp only [ej, if_true] at hj
    simp only [ei, if_false] at hi
    have := hold i b hi
    injection hj with hj
    omega
   ·simp only [ei, ej, if_false] at hi hj
    exact ho.inj i j b hi hj
  ·by_cases e : id = σ.length
   ·simp only [e, if_true] at hid
    injection hid with hid
    subst hid
    exact ⟨by simp [e], h.size, by simp⟩
   ·simp only [e, if_false] at hid
    obtain ⟨h1, h2, h3⟩ := ho'.lt id b hid
    exact ⟨by simp; omega, h2, h3⟩
theorem Rel.alloc_obj {g : Gh} {σ : MS} {w : World} (h : Rel g σ w) {l : List MV} {us : List Value} (hl : Rds g w l us) (ty : TypeId) :
  ∃ g', Rel g' (σ ++ [.cells l]) (w.alloc (.cells us.toArray ty)) ∧ Le g w g' (w.alloc (.cells us.toArray ty)) ∧ g'.bk σ.length = some w.heap.size := h.alloc_objF hl ty (0, 0) (.inl rfl)
theorem Rel.cut {g : Gh} {σ junk : MS} {w : World} (h : Rel g (σ ++ junk) w) (hcl : ∀ (id : Nat) (o : MObj), σ[id]? = some o → match o with | .cells l => ∀ x ∈ l, Cl σ.length x | .loop _ _ ls => ∀ (t : Nat) (x : MV), get ls.env t = some x → Cl σ.length x | .mp _ es => ∀ e ∈ es, Cl σ.length e.2.1 | .mit m _ _ _ => m < σ.length | .tcells _ l => ∀ x ∈ l, Cl σ.length x | .orow _ _ _ l => ∀ x ∈ l, Cl σ.length x | _ => True) : Rel (g.cut σ.length) σ w := by
 refine ⟨h.below, h.base, h.fresh, fun id hid => ?_, fun t n ht => ?_, ?_⟩
 ·simp only [Gh.cut]; rw [if_neg (by omega)]
 ·simp only [Gh.cut]; rw [if_neg (by omega)]
 ·obtain ⟨own, ho⟩ := h.ex
  refine ⟨fun id => if id < σ.length then own id else none, ⟨fun id o hid => ?_, fun i j b hi hj => ?_, fun id b hid => ?_⟩⟩
  ·have hlt : id < σ.length := (zD.1 hid).1
   simp only [hlt, if_true]
   have hob := ho.obj id o (by rw [List.getElem?_append_left hlt]; exact hid)
   have hc := hcl id o hid
   cases o with
   | cells l =>
    obtain ⟨b, us, ty, h1, h2, h3, h4, h5⟩ := hob
    exact ⟨b, us, ty, h1, by simp [Gh.cut, hlt, h2], h3, h4, h5.1, fun j y u hy hu => (h5.2 j y u hy hu).cut (hc y (zW hy))⟩
   | row ty sz n =>
    obtain ⟨v, us, h1, h2, h3, h4, h5⟩ := hob
    exact ⟨v, us, by simp [Gh.cut, hlt, h1], h2, h3, h4, fun k hk => by simp [Gh.cut, hlt, h5 k hk]⟩
   | loop s p ls =>
    obtain ⟨b, l, h1, h2, h3, h4, h5, h6, h7, h8, h9, h10⟩ := hob
    exact ⟨b, l, h1, by simp [Gh.cut, hlt, h2], h3, h4, h5, h6, h7, h8, h9, fun t x hx => let ⟨v, hv, hr⟩ := h10 t x hx; ⟨v, hv, hr.cut (hc t x hx)⟩⟩
   | mp clk es =>
    obtain ⟨b, ents, h1, h2, h3, h4, h5, h6⟩ := hob
    exact ⟨b, ents, h1, by simp [Gh.cut, hlt, h2], h3, h4, h5, fun j e x he hx => ⟨(h6 j e x he hx).1, (h6 j e x he hx).2.cut (hc e (zW he))⟩⟩
   | mit m since seen last =>
    obtain ⟨b, bm, h1, h2, h3, h4, h5⟩ := hob
    have hm : m < σ.length := hc
    exact ⟨b, bm, h1, by simp [Gh.cut, hlt, h2], h3, by simp [Gh.cut, hm, h4], h5⟩
   | pin ty l =>
    obtain ⟨b, cur, h1, h2, h3, h4, h5⟩ := hob
    exact ⟨b, cur, h1, by simp [Gh.cut, hlt, h2], h3, h4, h5⟩
   | tcells ty l =>
    obtain ⟨b, us, h1, h2, h3, h4, h5⟩ := hob
    exact ⟨b, us, h1, by simp [Gh.cut, hlt, h2], h3, h4, h5.1, fun j y u hy hu => (h5.2 j y u hy hu).cut (hc y (zW hy))⟩
   | orow ty sz n l =>
    obtain ⟨v, us, h1, h2, h3, h4, h5, h6⟩ := hob
    exact ⟨v, us, by simp [Gh.cut, hlt, h1], h2, h3, h4, fun k hk => by simp [Gh.cut, hlt, h5 k hk], h6.1, fun j y u hy hu => (h6.2 j y u hy hu).cut (hc y (zW hy))⟩
   | shut ty l =>
    obtain ⟨b, c, cur, fr, h1, h2, h3⟩ := hob
    exact ⟨b, c, cur, fr, h1, by simp [Gh.cut, hlt, h2], h3⟩
   | fixed ad v => exact hob
   | gone => exact hob
  ·split at hi
   ·split at hj
    ·exact ho.inj i j b hi hj
    ·cases hj
   ·cases hi
  ·split at hid
   ·rename_i hlt
    exact ⟨hlt, (ho.lt id b hid).2⟩
   ·cases hid
theorem Le.cut {g g' : Gh} {w w' : World} (h : Le g w g' w') {n : Nat} (hb : ∀ id, n ≤ id → g.bk id = none) (hlg : ∀ t k, n ≤ t → g.lg t k = none) : Le g w (g'.cut n) w' := by
 refine ⟨⟨h.B, h.w0, h.st, fun id b e => ?_, fun t k v e => ?_, h.size⟩, h.kept⟩
 ·have hlt : id < n := by
   rcases Nat.lt_or_ge id n with hlt | hge
   ·exact hlt
   ·rw [hb id hge] at e; cases e
  simp only [Gh.cut]; rw [if_pos hlt]; exact h.bk _ _ e
 ·have hlt : t < n := by
   rcases Nat.lt_or_ge t n with hlt | hge
   ·exact hlt
   ·rw [hlg t k hge] at e; cases e
  simp only [Gh.cut]; rw [if_pos hlt]; exact h.lg _ _ _ e
theorem Rd.cl {g : Gh} {w : World} {n : Nat} (hb : ∀ id, n ≤ id → g.bk id = none) (hlg : ∀ t k, n ≤ t → g.lg t k = none) {x : MV} {v : Value} (h : Rd g w x v) : Cl n x := by
 induction h with
 | bool b => exact .bool b
 | int k n => exact .int k n
 | str s => exact .str s
 | ptr0 => exact .ptr0
 | ref id off b h =>
  refine .ref id off ?_
  rcases Nat.lt_or_ge id n with hlt | hge
  ·exact hlt
  ·rw [hb id hge] at h; cases h
 | yld id b h =>
  refine .yld id ?_
  rcases Nat.lt_or_ge id n with hlt | hge
  ·exact hlt
  ·rw [hb id hge] at h; cases h
 | vec id off sz k c b h h2 h3 =>
  refine .vec id off sz k c ?_
  rcases Nat.lt_or_ge id n with hlt | hge
  ·exact hlt
  ·rw [hb id hge] at h; cases h
 | map0 => exact .map0
 | map id b h =>
  refine .map id ?_
  rcases Nat.lt_or_ge id n with hlt | hge
  ·exact hlt
  ·rw [hb id hge] at h; cases h
 | ow id sz k v h h1 h2 =>
  refine .ow id sz k ?_
  rcases Nat.lt_or_ge id n with hlt | hge
  ·exact hlt
  ·rw [hlg id k hge] at h; cases h
 | orf id k off b c h =>
  refine .orf id k off ?_
  rcases Nat.lt_or_ge id n with hlt | hge
  ·exact hlt
  ·rw [hlg id k hge] at h; cases h
 | sptr cs ad us h1 h2 h3 ih =>
  refine .sptr cs fun x hx => ?_
  obtain ⟨j, hj⟩ := List.getElem?_of_mem hx
  obtain ⟨u, hu, _⟩ := Rds.get ⟨h1, h3⟩ hj
  exact ih j x u hj hu
 | lst0 => exact .lst0
 | lst tok sz xs a c us h1 h2 h3 h4 h5 h6 h7 ih =>
  refine .lst tok sz xs (fun t ht => ?_) fun x hx => ?_
  ·rcases Nat.lt_or_ge t n with hlt | hge
   ·exact hlt
   ·have := h7 t ht; rw [hlg t _ hge] at this; cases this
  ·obtain ⟨j, hj⟩ := List.getElem?_of_mem hx
   obtain ⟨u, hu, _⟩ := Rds.get ⟨h4, h6⟩ hj
   exact ih j x u hj hu
 | fn f xs ys us vs h1 h2 h3 h4 ih1 ih2 =>
  refine .fn f xs ys (fun x hx => ?_) fun x hx => ?_
  ·obtain ⟨j, hj⟩ := List.getElem?_of_mem hx
   obtain ⟨u, hu, _⟩ := Rds.get ⟨h1, h2⟩ hj
   exact ih1 j x u hj hu
  ·obtain ⟨j, hj⟩ := List.getElem?_of_mem hx
   obtain ⟨u, hu, _⟩ := Rds.get ⟨h3, h4⟩ hj
   exact ih2 j x u hj hu
 | fn0 => exact .fn0
 | iface t x v h ih => exact .iface t x ih
 | iface0 => exact .iface0
 | agg xs us h1 h2 ih =>
  refine .agg xs fun x hx => ?_
  obtain ⟨j, hj⟩ := List.getElem?_of_mem hx
  obtain ⟨u, hu, _⟩ := Rds.get ⟨h1, h2⟩ hj
  exact ih j x u hj hu
 | tup xs us h1 h2 ih =>
  refine .tup xs fun x hx => ?_
  obtain ⟨j, hj⟩ := List.getElem?_of_mem hx
  obtain ⟨u, hu, _⟩ := Rds.get ⟨h1, h2⟩ hj
  exact ih j x u hj hu
def MObj.cl (n : Nat) : MObj → Prop
 | .cells l => ∀ x ∈ l, Cl n x
 | .loop _ _ ls => ∀ (t : Nat) (x : MV), get ls.env t = some x → Cl n x
 | .mp _ es => ∀ e ∈ es, Cl n e.2.1
 | .mit m _ _ _ => m < n
 | .tcells _ l => ∀ x ∈ l, Cl n x
 | .orow _ _ _ l => ∀ x ∈ l, Cl n x
 | _ => True
def ClS (σ : MS) : Prop := ∀ (id : Nat) (o : MObj), σ[id]? = some o → o.cl σ.length
theorem Rel.cls {g : Gh} {σ : MS} {w : World} (h : Rel g σ w) : ClS σ := by
 intro id o ho
 obtain ⟨own, hown⟩ := h.ex
 have hob := hown.obj id o ho
 cases o with
 | cells l =>
  obtain ⟨b, us, ty, h1, h2, h3, h4, h5⟩ := hob
  intro x hx
  obtain ⟨j, hj⟩ := List.getElem?_of_mem hx
  obtain ⟨u, hu, hr⟩ := h5.get hj
  exact hr.cl h.bkn h.lgn
 | row ty sz n => trivial
 | loop s p ls =>
  obtain ⟨b, l, h1, h2, h3, h4, h5, h6, h7, h8, h9, h10⟩ := hob
  intro t x hx
  obtain ⟨v, hv, hr⟩ := h10 t x hx
  exact hr.cl h.bkn h.lgn
 | mit m since seen last =>
  obtain ⟨b, bm, h1, h2, h3, h4, h5⟩ := hob
  show m < σ.length
  rcases Nat.lt_or_ge m σ.length with hlt | hge
  ·exact hlt
  ·rw [h.bkn m hge] at h4; cases h4
 | mp clk es =>
  obtain ⟨b, ents, h1, h2, h3, h4, h5, h6⟩ := hob
  intro e he
  obtain ⟨j, hj⟩ := List.getElem?_of_mem he
  have hlt : j < ents.toList.length := by rw [h5]; exact (zD.1 hj).1
  exact (h6 j e _ hj (zC hlt)).2.cl h.bkn h.lgn
 | pin ty l => trivial
 | tcells ty l =>
  obtain ⟨b, us, h1, h2, h3, h4, h5⟩ := hob
  intro x hx
  obtain ⟨j, hj⟩ := List.getElem?_of_mem hx
  obtain ⟨u, hu, hr⟩ := h5.get hj
  exact hr.cl h.bkn h.lgn
 | orow ty sz k l =>
  obtain ⟨v, us, h1, h2, h3, h4, h5, h6⟩ := hob
  intro x hx
  obtain ⟨j, hj⟩ := List.getElem?_of_mem hx
  obtain ⟨u, hu, hr⟩ := h6.get hj
  exact hr.cl h.bkn h.lgn
 | shut ty l => trivial
 | fixed ad v => trivial
 | gone => trivial
theorem Rel.cut' {g : Gh} {σ junk : MS} {w : World} (h : Rel g (σ ++ junk) w) (hc : ClS σ) : Rel (g.cut σ.length) σ w := by
 refine h.cut fun id o ho => ?_
 have := hc id o ho
 cases o <;> exact this
theorem add_off (b o j : Nat) : (⟨b, o, none⟩ : Addr).add j = ⟨b, o + j, none⟩ := by unfold Addr.add; split <;> simp_all
theorem _root_.zB4 : type_of% @add_off := @add_off
theorem run_isAgg {P : Program} {t : TypeId} {ta : Option Nat} (h : tyAgg P t = some ta) (w : World) : (isAgg t).run P w = .ok ta.isSome w ∧ ∀ k, ta = some k → (sizeOf t).run P w = .ok k w := by
 unfold tyAgg at h
 split at h
 ·rename_i fs hu
  split at h
  ·rename_i i hi
   injection h with h
   subst h
   refine ⟨by simp [isAgg, run_underlying hu], fun k hk => ?_⟩
   injection hk with hk
   subst hk
   simp [sizeOf, typeInfo, hi]
  ·cases h
 ·rename_i n e hu
  split at h
  ·rename_i i hi
   injection h with h
   subst h
   refine ⟨by simp [isAgg, run_underlying hu], fun k hk => ?_⟩
   injection hk with hk
   subst hk
   simp [sizeOf, typeInfo, hi]
  ·cases h
 ·rename_i d hd1 hd2 hu
  injection h with h
  subst h
  refine ⟨?_, fun k hk => by cases hk⟩
  simp only [isAgg, Sem.run_bind, run_underlying hu, Result.andThen_ok]
  cases d <;> first | rfl | (exfalso; first | exact hd1 _ rfl | exact hd2 _ _ rfl)
 ·cases h
theorem run_loadVar_at {P : Program} {t : TypeId} {ta : Option Nat} (h : tyAgg P t = some ta) {g : Gh} {w : World} {ad : Addr} {l : List MV} {us : List Value} (hr : Rds g w l us) (hc : ∀ (j : Nat) (u : Value), us[j]? = some u → w.cell? (ad.add j) = some u) {m : MV}
  (hm : loadMV ta l 0 = some m) : ∃ v, (loadVar t ad).run P w = .ok v w ∧ Rd g w m v := by
 obtain ⟨h1, h2⟩ := run_isAgg h w
 cases ta with
 | none =>
  simp only [loadMV] at hm
  obtain ⟨u, hu, hx⟩ := hr.get hm
  refine ⟨u, ?_, hx⟩
  have hcell := hc 0 u hu
  rw [show ad.add 0 = ad from by unfold Addr.add; simp] at hcell
  simp only [loadVar, Sem.run_bind, h1, Result.andThen_ok, Option.isSome_none, Bool.false_eq_true, if_false]
  simp [hcell]
 | some k =>
  simp only [loadMV] at hm
  split at hm
  ·rename_i hk
   injection hm with hm
   subst hm
   have hrun := run_loadCells_list (P := P) (w := w) ad (us.take k) (fun j v hv => by
    rw [List.getElem?_take] at hv
    split at hv
    ·exact hc j v hv
    ·cases hv)
   have hlen : (us.take k).length = k := by rw [List.length_take, hr.1]; omega
   rw [hlen] at hrun
   refine ⟨.agg (us.take k).toArray, ?_, .agg' ((hr.drop 0).take k)⟩
   simp only [loadVar, Sem.run_bind, h1, h2 k rfl, Result.andThen_ok, Option.isSome_some, if_true, hrun, Sem.run_pure]
  ·cases hm
theorem _root_.zR6 : type_of% @run_loadVar_at := @run_loadVar_at
theorem loadMV_drop {ta : Option Nat} {l : List MV} {off : Nat} {m : MV} (h : loadMV ta l off = some m) : loadMV ta (l.drop off) 0 = some m := by
 cases ta with
 | none => simp only [loadMV] at h ⊢; rw [List.getElem?_drop]; simpa using h
 | some k =>
  simp only [loadMV] at h ⊢
  split at h
  ·rename_i hk
   rw [if_pos (by rw [List.length_drop]; omega)]
   simpa using h
  ·cases h
theorem cells_at {w : World} {b : Nat} {us : List Value} {ty : TypeId} {fr : Nat × Nat} (h : w.heap[b]? = some (.cells us.toArray ty fr)) (off j : Nat) {u : Value} (hu : (us.drop off)[j]? = some u) : w.cell? ((⟨b, off, none⟩ : Addr).add j) = some u := by
 rw [zB4]
 rw [List.getElem?_drop] at hu
 simp [World.cell?, h, hu]
inductive ResIs (P : Program) (env : Env) (σ : MS) : List ResultVar → List MV → Prop where
 | nil : ResIs P env σ [] []
 | tmp {t : Tmp} {x : MV} {rs : List ResultVar} {xs : List MV} : get env t = some x → ResIs P env σ rs xs → ResIs P env σ (.tmp t :: rs) (x :: xs)
 | cell {a : Tmp} {t : TypeId} {id off : Nat} {l : List MV} {ta : Option Nat} {x : MV} {rs : List ResultVar} {xs : List MV} : get env a = some (.ref id off) → σ[id]? = some (.cells l) → tyAgg P t = some ta → loadMV ta l off = some x →
   ResIs P env σ rs xs → ResIs P env σ (.cell a t :: rs) (x :: xs)
def resMV : List MV → MV
 | [x] => x
 | xs => .tup xs
def resSem (tmps : Array Value) : ResultVar → Sem Value
 | .tmp t => pure (tmps.getD t undef)
 | .cell a t => do loadVar t (← asAddr (tmps.getD a undef))
theorem results_eq (fn : Func) (tmps : Array Value) : results fn tmps = (fn.results.mapM (resSem tmps)).bind fun vs => Sem.pure (if h : vs.size = 1 then vs[0] else .tuple vs) := by
 unfold results
 refine congrArg (fun (m : Sem (Array Value)) => m.bind fun vs => Sem.pure (if h : vs.size = 1 then vs[0] else .tuple vs)) (congrArg (fun f => Array.mapM f fn.results) (funext fun r => ?_))
 cases r <;> rfl
theorem resIs_run {P : Program} {env : Env} {σ : MS} {g : Gh} {w : World} {tmps : Array Value} (hr : Rel g σ w) (he : EnvRd g w env tmps) : ∀ {rs : List ResultVar} {xs : List MV}, ResIs P env σ rs xs →
  ∃ us, Rds g w xs us ∧ (rs.mapM (resSem tmps)).run P w = .ok us w := by
 intro rs xs h
 induction h with
 | nil => exact ⟨[], .nil _ _, rfl⟩
 | tmp ht _ ih =>
  obtain ⟨us, h1, h2⟩ := ih
  obtain ⟨v, hv, hx⟩ := he _ _ ht
  refine ⟨v :: us, .cons hx h1, ?_⟩
  rw [List.mapM_cons]
  simp only [Sem.run_bind, resSem, Array.getD_eq_getD_getElem?, hv, Option.getD_some, Sem.run_pure, Result.andThen_ok, h2]
 | cell ha hσ hta hm _ ih =>
  obtain ⟨us, h1, h2⟩ := ih
  obtain ⟨v, hv, hx⟩ := he _ _ ha
  obtain ⟨b, hb, rfl⟩ := hx.inv_ref
  obtain ⟨own, hown⟩ := hr.ex
  obtain ⟨b', us', ty, e1, e2, e3, e4, e5⟩ := hown.obj _ _ hσ
  rw [hb] at e2
  injection e2 with e2
  subst e2
  obtain ⟨fr, e4, efr⟩ := e4
  obtain ⟨u, hu, hy⟩ := zR6 hta (e5.drop _) (fun j u hu => cells_at e4 _ j hu) (loadMV_drop hm)
  refine ⟨u :: us, .cons hy h1, ?_⟩
  rw [List.mapM_cons]
  rename_i a0 t0 id0 off0 l0 ta0 x0 rs0 xs0 _
  have ha : (asAddr (tmps.getD a0 undef)) = pure ⟨b, off0, none⟩ := by simp only [Array.getD_eq_getD_getElem?, hv, Option.getD_some, asAddr]
  simp only [Sem.run_bind, resSem, ha, Sem.run_pure, Result.andThen_ok, hu, h2]
theorem results_run {P : Program} {env : Env} {σ : MS} {g : Gh} {w : World} {tmps : Array Value} (hr : Rel g σ w) (he : EnvRd g w env tmps) {fn : Func} {xs : List MV} (h : ResIs P env σ fn.results.toList xs) :
  ∃ u, (results fn tmps).run P w = .ok u w ∧ Rd g w (resMV xs) u := by
 obtain ⟨us, h1, h2⟩ := resIs_run (P := P) hr he h
 have h3 : (fn.results.mapM (resSem tmps)).run P w = .ok us.toArray w := by
  rw [Array.mapM_eq_mapM_toList, map_eq_pure_bind]
  simp only [Sem.run_bind, h2, Result.andThen_ok, Function.comp, Sem.run_pure]
 rw [results_eq]
 have hl := h1.1
 match xs, us, hl with
 | [x], [u], _ =>
  obtain ⟨u', us', e, hx, _⟩ := h1.uncons
  injection e with e1 e2
  subst e1
  refine ⟨u, ?_, hx⟩
  simp only [Sem.run_bind', h3, Result.andThen_ok]
  simp [Sem.run]
 | [], [], _ =>
  refine ⟨.tuple #[], ?_, .tup' (.nil _ _)⟩
  simp only [Sem.run_bind', h3, Result.andThen_ok]
  simp [Sem.run]
 | x :: y :: xs, u :: v :: us, _ =>
  refine ⟨.tuple (u :: v :: us).toArray, ?_, .tup' h1⟩
  simp only [Sem.run_bind', h3, Result.andThen_ok]
  simp [Sem.run]
def argEnv : Nat → List MV → Env
 | _, [] => []
 | k, x :: xs => (k, x) :: argEnv (k + 1) xs
theorem argEnv_get : ∀ (xs : List MV) (k t : Nat) (x : MV), get (argEnv k xs) t = some x → k ≤ t ∧ xs[t - k]? = some x
 | [], k, t, x, h => by cases h
 | y :: xs, k, t, x, h => by
  by_cases e : k = t
  ·subst e
   rw [argEnv, zX4] at h
   simp [h]
  ·rw [argEnv, zS4 _ _ e] at h
   obtain ⟨h1, h2⟩ := argEnv_get xs (k + 1) t x h
   refine ⟨by omega, ?_⟩
   rw [show t - k = (t - (k + 1)) + 1 by omega, List.getElem?_cons_succ]
   exact h2
def BodyQ (P : Program) (fn : Func) (σ : MS) (R : MV → MS → Prop) (e : Exit) (env : Env) (σf : MS) : Prop :=
 (e = .normal ∨ e = .ret) ∧ ∃ xs y σ' junk, ResIs P env σf fn.results.toList xs ∧ Sub (resMV xs) y ∧ Cl σ'.length y ∧ σf = σ' ++ junk ∧ σ.length ≤ σ'.length ∧ (σ' = σ ∨ ClS σ') ∧ R y σ'
theorem takeDeferred_run (P : Program) (w : World) (r : Nat) (h : w.heap[r]? = some (Obj.deferred (some []))) : (Instr.takeDeferred r).run P w = .ok [] { w with heap := w.heap.setIfInBounds r (Obj.deferred none) } := by
 simp [Instr.takeDeferred, getObj, setObj, Sem.run, h, bind, Sem.bind, pure]
theorem rel_deferred {g : Gh} {σ : MS} {w : World} (h : Rel g σ w) {r : Nat} (hr : w.heap[r]? = some (Obj.deferred (some []))) (hB : g.B ≤ r) : Rel g σ { w with heap := w.heap.setIfInBounds r (Obj.deferred none) } ∧
  Le0 g w g { w with heap := w.heap.setIfInBounds r (Obj.deferred none) } ∧ ∀ b, b ≠ r → ({ w with heap := w.heap.setIfInBounds r (Obj.deferred none) } : World).heap[b]? = w.heap[b]? := by
 have hne : ∀ b, b ≠ r → ({ w with heap := w.heap.setIfInBounds r (Obj.deferred none) } : World).heap[b]? = w.heap[b]? := fun b hb => by
  show (w.heap.setIfInBounds r _)[b]? = _
  rw [Array.getElem?_setIfInBounds_ne (fun e => hb e.symm)]
 have hcell : ∀ a : Addr, ({ w with heap := w.heap.setIfInBounds r (Obj.deferred none) } : World).cell? a = w.cell? a := by
  intro a
  by_cases e : a.block = r
  ·have hlt : r < w.heap.size := (Array.getElem?_eq_some_iff.1 hr).1
   simp [World.cell?, e, hr, Array.getElem?_setIfInBounds_self_of_lt hlt]
  ·exact World.cell?_of_block (w := w) (hne _ e)
 have hl : Le0 g w g { w with heap := w.heap.setIfInBounds r (Obj.deferred none) } := ⟨rfl, rfl, fun b k hk => ⟨hk, hcell _⟩, fun _ _ h => h, fun _ _ _ h => h, by simp⟩
 refine ⟨⟨⟨h.below.os, h.below.tape, h.below.output, by simpa using h.below.size, fun k hk => (hne k (by omega)).trans (h.below.block k hk)⟩, h.base, fun b hb => h.fresh b (by simpa using hb), h.bkn, h.lgn, ?_⟩, hl, hne⟩
 obtain ⟨own, ho⟩ := h.ex
 refine ⟨own, ho.keep0 hl (fun id b e => ⟨hne b ?_, rfl⟩) (fun _ _ => V)⟩
 intro eb
 subst eb
 obtain ⟨h1, _, _⟩ := ho.lt id b e
 have hob := ho.obj id _ (zC h1)
 cases hσ : σ[id] with
 | cells l =>
  rw [hσ] at hob
  obtain ⟨b', us, ty, e1, e2, e3, ⟨fr, e4, _⟩, e5⟩ := hob
  rw [e] at e1; injection e1 with e1; subst e1
  rw [hr] at e4; cases e4
 | row ty sz n =>
  rw [hσ] at hob
  obtain ⟨v, us, e1, e2, e3, e4⟩ := hob
  rcases e2.2 with ⟨hv, _⟩ | ⟨b', cap, cur, hv, hb', hh, _⟩
  ·rw [hv, e] at e3; cases e3
  ·rw [hv, e] at e3
   injection e3 with e3
   subst e3
   rw [hr] at hh; cases hh
 | loop s p ls =>
  rw [hσ] at hob
  obtain ⟨b', l, e1, e2, e3, _⟩ := hob
  rw [e] at e1; injection e1 with e1; subst e1
  rw [hr] at e3; cases e3
 | mp clk es =>
  rw [hσ] at hob
  obtain ⟨b', ents, e1, e2, e3, e4, _⟩ := hob
  rw [e] at e1; injection e1 with e1; subst e1
  rw [hr] at e4; cases e4
 | mit m since seen last =>
  rw [hσ] at hob
  obtain ⟨b', bm, e1, e2, e3, e5, e4⟩ := hob
  rw [e] at e1; injection e1 with e1; subst e1
  rw [hr] at e4; cases e4
 | pin ty l =>
  rw [hσ] at hob
  obtain ⟨b', cur, e1, e2, e3, e4, _⟩ := hob
  rw [e] at e1; injection e1 with e1; subst e1
  rw [hr] at e4; cases e4
 | tcells ty l =>
  rw [hσ] at hob
  obtain ⟨b', cur, e1, e2, e3, e4, _⟩ := hob
  rw [e] at e1; injection e1 with e1; subst e1
  rw [hr] at e4; cases e4
 | orow ty sz k l =>
  rw [hσ] at hob
  obtain ⟨v, us, e1, e2, e3, _⟩ := hob
  rcases e2.2 with ⟨hv, _⟩ | ⟨b', cap, cur, hv, hb', hh, _⟩
  ·rw [hv, e] at e3; cases e3
  ·rw [hv, e] at e3
   injection e3 with e3
   subst e3
   rw [hr] at hh; cases hh
 | shut ty l =>
  rw [hσ] at hob
  obtain ⟨b', c', cur, fr, e1, e2, e3, e4, _⟩ := hob
  rw [e] at e1; injection e1 with e1; subst e1
  rw [hr] at e4; cases e4
 | fixed ad v =>
  rw [hσ] at hob
  rw [hob.1] at e
  cases e
 | gone =>
  rw [hσ] at hob
  rw [show own id = none from hob] at e
  cases e
theorem _root_.zN5 : type_of% @List.pairwise_cons := @List.pairwise_cons
theorem leaves_marks {P : Program} {fn : Func} {tmps : Array Value} {g0 g : Gh} {w0 : World} {σ : MS} {env : Env} {xs : List MV} {y : MV} {R : MV → MS → Prop} {σ' junk : MS} (hres : ResIs P env σ fn.results.toList xs) (hsub : Sub (resMV xs) y) (hcl : Cl σ'.length y) (hσ : σ = σ' ++ junk) (hlen : ∀ id, σ'.length ≤ id → g0.bk id = none)
  (hlen2 : ∀ t k, σ'.length ≤ t → g0.lg t k = none) (hcs : ClS σ') (hR : R y σ') : ∀ (ds : List Deferred) (w : World), Rel g σ w → EnvRd g w env tmps → Le0 g0 w0 g w → (∀ (b : Nat) (x : Option (List Deferred)), w0.heap[b]? = some (Obj.deferred x) → w.heap[b]? = some (Obj.deferred x)) →
  (∀ d ∈ ds, ∃ r, w0.heap.size ≤ r ∧ d = { target := .collected r, args := #[] } ∧ w.heap[r]? = some (Obj.deferred (some []))) → (ds.Pairwise fun d e => ∀ r s, d.target = .collected r → e.target = .collected s → r ≠ s) → g.B ≤ w0.heap.size →
  LeavesInM Fence.wide 0 P fn tmps (fun e w' => ∃ v, e = .returned v ∧ Gets g0 w0 R v w') ds .returning w
 | [], w, hr, he, hl, hk, hd, hp, hB => by
  obtain ⟨u, hu, hx⟩ := results_run hr he hres
  subst hσ
  exact ⟨u, hu, u, rfl, y, σ', g.cut σ'.length, hR, hr.cut' hcs, (hsub _ _ _ hx).cut hcl, Le.cut ⟨hl, hk⟩ hlen hlen2⟩
 | d :: ds, w, hr, he, hl, hk, hd, hp, hB => by
  obtain ⟨r, hr0, rfl, hrw⟩ := hd d (zH2 ..)
  obtain ⟨hrel, hle, hne⟩ := rel_deferred hr hrw (Nat.le_trans hB hr0)
  have hpc := zN5.1 hp
  refine ⟨by simp, .inl ⟨r, _, rfl, takeDeferred_run P w r hrw, ?_⟩⟩
  refine leaves_marks hres hsub hcl hσ hlen hlen2 hcs hR ds _ hrel (he.mono0 hle) (hl.trans hle) (fun b x hx => ?_) (fun d hd' => ?_) hpc.2 hB
  ·have hlt : b < w0.heap.size := (Array.getElem?_eq_some_iff.1 hx).1
   exact (hne b (by omega)).trans (hk b x hx)
  ·obtain ⟨s, hs0, rfl, hsw⟩ := hd d (zA2 _ hd')
   have := hpc.1 _ hd' r s rfl rfl
   exact ⟨s, hs0, rfl, (hne s (fun e => this e.symm)).trans hsw⟩
theorem mcalls_of_body {P : Program} {f : FuncId} {fn : Func} {c : Code} {args : List MV} {σ : MS} {R : MV → MS → Prop} {n : Nat} (hf : P.funcs[f]? = some fn) (hb : fn.body = some c) (hn : fn.ntmps = n) (ha : args.length ≤ n)
  (h : mwp P none σ.length n c (BodyQ P fn σ R) (argEnv 0 args) σ) : MCalls P f args σ R := by
 intro g w vs hrel hrd
 refine callsIn_of_wp_marks hf hb trivial ?_ rfl
 have hsz : vs.toArray.size = args.length := by simpa using hrd.1
 refine wpIn_mono (h g w { tmps := vs.toArray ++ Array.replicate (fn.ntmps - vs.toArray.size) undef, defers := [] } Fence.wide w.heap.size V hrel ?_ ?_ (Marks.nil w)) ?_
 ·intro t x hx
  obtain ⟨_, hx⟩ := argEnv_get args 0 t x hx
  obtain ⟨v, hv, hr⟩ := hrd.get (by simpa using hx)
  refine ⟨v, ?_, hr⟩
  have hlt : t < vs.toArray.size := by simpa using (zD.1 hv).1
  show (vs.toArray ++ _)[t]? = _
  rw [Array.getElem?_append_left hlt]
  simpa using hv
 ·simp only [Array.size_append, Array.size_replicate, hsz, hn]
  omega
 ·rintro e a' w' ⟨env', σf, g', ⟨he, xs, y, σ', junk, h1, h2, h3, h4, h5, h6, h7⟩, hrel', henv, hle, hsize, hmarks⟩
  have hle := hle.le hrel.bkn hrel.lgn
  have key : LeavesInM Fence.wide 0 P fn a'.tmps (fun e w' => ∃ v, e = .returned v ∧ Gets g w R v w') a'.defers .returning w' :=
   leaves_marks h1 h2 h3 h4 (fun id hid => hrel.bkn id (by omega)) (fun t k ht => hrel.lgn t k (by omega)) (by
    rcases h6 with e | h6
    ·rw [e]; exact hrel.cls
    ·exact h6) h7 a'.defers w' hrel' henv hle.toLe0 hle.kept hmarks.2.1 hmarks.2.2 (by rw [hle.B]; exact hrel.size)
  rcases he with rfl | rfl
  ·exact key
  ·exact key
section
def opTmps (l : List Operand) : List Nat := l.filterMap fun | .tmp t => some t | _ => none
def readsOf (ops : Array Oper) (o : Oper) : List Nat :=
 opTmps o.op.operands.toList ++ (match o.guard with | some (j, _) => ((ops[j]?).bind (·.dst)).toList | none => [])
def natMem (x : Nat) : List Nat → Bool
 | [] => false
 | y :: l => match Nat.beq x y with | true => true | false => natMem x l
def nodupB : List Nat → Bool
 | [] => true
 | x :: l => !natMem x l && nodupB l
def lexAt (ops : Array Oper) (i : Nat) (o : Oper) : Bool :=
 o.after.toList.all (fun e => !Region.binds .any e || Nat.blt e.on i) &&
 (readsOf ops o).all fun t => ops.toList.zipIdx.all fun p =>
  match p.1.dst with
  | some d => !Nat.beq d t || (Nat.blt p.2 i && o.after.toList.any fun e => Region.binds .any e && Nat.beq e.on p.2) || (Nat.blt i p.2 && p.1.after.toList.any fun e => Region.binds .any e && Nat.beq e.on i) || (Nat.beq i p.2 && !natMem t (match o.guard with | some (j, _) => ((ops[j]?).bind (·.dst)).toList | none => []))
  | none => true
def lexOk (n : Nat) (ops : Array Oper) : Bool := dstsOk n ops && nodupB (ops.toList.filterMap (·.dst)) && ops.toList.zipIdx.all fun p => lexAt ops p.2 p.1
theorem natMem_iff {x : Nat} : ∀ {l : List Nat}, natMem x l = true ↔ x ∈ l
 | [] => by simp [natMem]
 | y :: l => by
  simp only [natMem]
  cases h : Nat.beq x y with
  | true => simp [Nat.eq_of_beq_eq_true h]
  | false =>
   have : x ≠ y := fun e => by subst e; rw [Nat.beq_refl] at h; cases h
   simp [natMem_iff, this]
theorem nodupB_iff : ∀ {l : List Nat}, nodupB l = true → l.Nodup
 | [], _ => List.nodup_nil
 | x :: l, h => by
  simp only [nodupB, Bool.and_eq_true, Bool.not_eq_true'] at h
  refine List.nodup_cons.2 ⟨fun hm => ?_, nodupB_iff h.2⟩
  rw [natMem_iff.2 hm] at h
  exact absurd h.1 (by simp)
structure LexS (n : Nat) (ops : Array Oper) : Prop where
 lt : ∀ (i : Nat) (o : Oper) (d : Nat), ops[i]? = some o → o.dst = some d → d < n
 inj : ∀ (i j : Nat) (o p : Oper) (d : Nat), ops[i]? = some o → ops[j]? = some p → o.dst = some d → p.dst = some d → i = j
 back : ∀ (i : Nat) (o : Oper) (e : Edge), ops[i]? = some o → e ∈ o.after → Region.binds .any e = true → e.on < i
 dep : ∀ (i j : Nat) (o p : Oper) (t : Nat), ops[i]? = some o → ops[j]? = some p → t ∈ readsOf ops o → p.dst = some t → (j < i ∧ ∃ e ∈ o.after, Region.binds .any e = true ∧ e.on = j) ∨ (i < j ∧ ∃ e ∈ p.after, Region.binds .any e = true ∧ e.on = i) ∨ i = j
theorem nodup_filterMap_inj : ∀ (l : List Oper), (l.filterMap (·.dst)).Nodup → ∀ (i j : Nat) (o p : Oper) (d : Nat), l[i]? = some o → l[j]? = some p → o.dst = some d → p.dst = some d → i = j
 | [], _, i, j, o, p, d, hi, _, _, _ => by simp at hi
 | q :: l, h, i, j, o, p, d, hi, hj, ho, hp => by
  have hl : (l.filterMap (·.dst)).Nodup := by
   rw [List.filterMap_cons] at h
   cases hq : q.dst with
   | none => rw [hq] at h; exact h
   | some x => rw [hq] at h; exact (List.nodup_cons.1 h).2
  have hno : ∀ (k : Nat) (r : Oper), l[k]? = some r → r.dst = some d → q.dst ≠ some d := by
   intro k r hk hr hq
   rw [List.filterMap_cons, hq] at h
   exact (List.nodup_cons.1 h).1 (List.mem_filterMap.2 ⟨r, zW hk, hr⟩)
  cases i with
  | zero =>
   cases j with
   | zero => rfl
   | succ j =>
    simp at hi
    subst hi
    exact absurd ho (hno j p (by simpa using hj) hp)
  | succ i =>
   cases j with
   | zero =>
    simp at hj
    subst hj
    exact absurd hp (hno i o (by simpa using hi) ho)
   | succ j => exact congrArg (· + 1) (nodup_filterMap_inj l hl i j o p d (by simpa using hi) (by simpa using hj) ho hp)
theorem lexOk_spec {n : Nat} {ops : Array Oper} (h : lexOk n ops = true) : LexS n ops := by
 simp only [lexOk, Bool.and_eq_true] at h
 obtain ⟨⟨h1, h2⟩, h3⟩ := h
 have hat : ∀ (i : Nat) (o : Oper), ops[i]? = some o → lexAt ops i o = true := by
  intro i o hi
  rw [List.all_eq_true] at h3
  have : (o, i) ∈ ops.toList.zipIdx := by
   rw [List.mem_zipIdx_iff_getElem?]
   simpa using hi
  exact h3 _ this
 refine ⟨fun i o d hi hd => dstsOk_at h1 hi hd, fun i j o p d hi hj ho hp => ?_, fun i o e hi he hb => ?_, fun i j o p t hi hj ht hp => ?_⟩
 ·exact nodup_filterMap_inj ops.toList (nodupB_iff h2) i j o p d (by simpa using hi) (by simpa using hj) ho hp
 ·have := hat i o hi
  simp only [lexAt, Bool.and_eq_true, List.all_eq_true] at this
  have := this.1 e (by simpa using he)
  rw [hb] at this
  simpa using this
 ·have := hat i o hi
  simp only [lexAt, Bool.and_eq_true, List.all_eq_true] at this
  have hm : (p, j) ∈ ops.toList.zipIdx := by
   rw [List.mem_zipIdx_iff_getElem?]
   simpa using hj
  have := this.2 t ht (p, j) hm
  rw [hp] at this
  simp only [Nat.beq_refl, Bool.not_true, Bool.false_or, Bool.or_eq_true, Bool.and_eq_true, List.any_eq_true] at this
  rcases this with (⟨hlt, e, he, hb, hon⟩ | ⟨hlt, e, he, hb, hon⟩) | ⟨heq, _⟩
  ·exact .inl ⟨by simpa using hlt, e, by simpa using he, hb, Nat.eq_of_beq_eq_true hon⟩
  ·exact .inr (.inl ⟨by simpa using hlt, e, by simpa using he, hb, Nat.eq_of_beq_eq_true hon⟩)
  ·exact .inr (.inr (Nat.eq_of_beq_eq_true heq))
def bindsOn (o : Oper) (j : Nat) : Bool := o.after.toList.any fun e => Region.binds .any e && Nat.beq e.on j
def loOf (ops : Array Oper) (o : Oper) : List Nat → Nat → Nat → Nat
 | [], _, acc => acc
 | e :: es, k, acc => loOf ops o es (k + 1) (match bindsOn o e with | true => k + 1 | false => acc)
def hiOf (ops : Array Oper) (i : Nat) : List Nat → Nat → Nat
 | [], k => k
 | e :: es, k => match (match ops[e]? with | some p => bindsOn p i | none => false) with | true => k | false => hiOf ops i es (k + 1)
def effAt (i : Nat) : List Nat → Nat → Option Nat
 | [], _ => none
 | e :: es, k => match Nat.beq e i with | true => some k | false => effAt i es (k + 1)
def effChain (ops : Array Oper) : List Nat → Bool
 | e :: f :: es => (match ops[f]? with | some p => bindsOn p e | none => false) && Nat.blt e f && effChain ops (f :: es)
 | _ => true
theorem bindsOn_iff {o : Oper} {j : Nat} : bindsOn o j = true ↔ ∃ e ∈ o.after, Region.binds .any e = true ∧ e.on = j := by
 simp only [bindsOn, List.any_eq_true, Bool.and_eq_true]
 constructor
 ·rintro ⟨e, he, hb, hon⟩
  exact ⟨e, by simpa using he, hb, Nat.eq_of_beq_eq_true hon⟩
 ·rintro ⟨e, he, hb, rfl⟩
  exact ⟨e, by simpa using he, hb, Nat.beq_refl _⟩
theorem effAt_some {i : Nat} : ∀ {l : List Nat} {k j : Nat}, effAt i l k = some j → ∃ d, j = k + d ∧ l[d]? = some i
 | [], k, j, h => by cases h
 | e :: es, k, j, h => by
  simp only [effAt] at h
  split at h
  ·rename_i hb
   injection h with h
   exact ⟨0, by omega, by simp [Nat.eq_of_beq_eq_true hb]⟩
  ·obtain ⟨d, hd, hl⟩ := effAt_some h
   exact ⟨d + 1, by omega, by simpa using hl⟩
theorem effAt_none {i : Nat} : ∀ {l : List Nat} {k : Nat}, effAt i l k = none → ∀ d : Nat, l[d]? ≠ some i
 | [], k, h, d, hd => by simp at hd
 | e :: es, k, h, d, hd => by
  simp only [effAt] at h
  split at h
  ·cases h
  ·rename_i hb
   cases d with
   | zero =>
    simp at hd
    subst hd
    rw [Nat.beq_refl] at hb
    cases hb
   | succ d => exact effAt_none h d (by simpa using hd)
theorem loOf_le {ops : Array Oper} {o : Oper} {c : Nat} : ∀ {l : List Nat} {k acc : Nat}, acc ≤ c → (∀ (d e : Nat), l[d]? = some e → bindsOn o e = true → k + d + 1 ≤ c) → loOf ops o l k acc ≤ c
 | [], k, acc, ha, _ => ha
 | e :: es, k, acc, ha, h => by
  simp only [loOf]
  refine loOf_le ?_ fun d f hf hb => ?_
  ·split
   ·rename_i hb; have := h 0 e rfl hb; omega
   ·exact ha
  ·have := h (d + 1) f (by simpa using hf) hb; omega
theorem hiOf_ge {ops : Array Oper} {i c : Nat} : ∀ {l : List Nat} {k : Nat}, c ≤ k + l.length → (∀ (d e : Nat) (p : Oper), l[d]? = some e → ops[e]? = some p → bindsOn p i = true → c ≤ k + d) → c ≤ hiOf ops i l k
 | [], k, hc, _ => hc
 | e :: es, k, hc, h => by
  simp only [hiOf]
  split
  ·rename_i hb
   split at hb
   ·rename_i p hp; exact h 0 e p rfl hp hb
   ·cases hb
  ·refine hiOf_ge (by simp at hc; omega) fun d f p hf hp hb => ?_
   have := h (d + 1) f p (by simpa using hf) hp hb; omega
def OpTo (P : Program) (rd : Option Nat) (o : Oper) (env : Env) (σ : MS) (x : MV) : Prop := OpWp P rd o env σ fun x' σ' => x' = x ∧ σ' = σ
inductive AllTo (P : Program) (rd : Option Nat) (o : Oper) (env : Env) (x : MV) : List MS → Prop where
 | nil : AllTo P rd o env x []
 | cons {s : MS} {l : List MS} : (OpWp P rd o env s fun x' σ' => x' = x ∧ σ' = s) → AllTo P rd o env x l → AllTo P rd o env x (s :: l)
theorem AllTo.of_mem {P : Program} {rd : Option Nat} {o : Oper} {env : Env} {x : MV} {L : List MS} (h : AllTo P rd o env x L) : ∀ s ∈ L, OpTo P rd o env s x := by
 induction h with
 | nil => exact fun s hs => by cases hs
 | cons h1 _ ih =>
  intro s hs
  rcases List.mem_cons.1 hs with rfl | hs
  ·exact h1
  ·exact ih s hs
def span_ (Ss : List MS) (lo hi : Nat) : List MS := (Ss.drop lo).take (hi + 1 - lo)
def dOps (P : Program) (rd : Option Nat) (ops : Array Oper) (eff : List Nat) (Ss : List MS) (Q : Env → Prop) : List Oper → Nat → Env → Prop
 | [], _, env => Q env
 | o :: rest, i, env =>
  match guardOk ops env o with
  | some true => ∃ x, (match effAt i eff 0 with
    | some k => ∃ s s', Ss[k]? = some s ∧ Ss[k + 1]? = some s' ∧ OpWp P rd o env s fun x' σ' => x' = x ∧ σ' = s'
    | none => AllTo P rd o env x (span_ Ss (loOf ops o eff 0 0) (hiOf ops i eff 0))) ∧ dOps P rd ops eff Ss Q rest (i + 1) (putd o.dst x env)
  | some false => effAt i eff 0 = none ∧ dOps P rd ops eff Ss Q rest (i + 1) (putd o.dst (.tup []) env)
  | none => False
section
variable {P : Program} {rd : Option Nat} {N n : Nat} {ops : Array Oper} {env : Env} {σ : MS} {eff : List Nat} {Ss : List MS}
theorem dOps_op {Q : Env → Prop} {o : Oper} {rest : List Oper} {i : Nat} {x : MV} (hg : guardOk ops env o = some true) (he : effAt i eff 0 = none) (h : AllTo P rd o env x (span_ Ss (loOf ops o eff 0 0) (hiOf ops i eff 0))) (hr : dOps P rd ops eff Ss Q rest (i + 1) (putd o.dst x env)) : dOps P rd ops eff Ss Q (o :: rest) i env := by
 simp only [dOps, hg, he]; exact ⟨x, h, hr⟩
theorem _root_.zU : type_of% @dOps_op := @dOps_op
theorem dOps_eff {Q : Env → Prop} {o : Oper} {rest : List Oper} {i k : Nat} {x : MV} {s s' : MS} (hg : guardOk ops env o = some true) (he : effAt i eff 0 = some k) (h1 : Ss[k]? = some s) (h2 : Ss[k + 1]? = some s') (h : OpWp P rd o env s fun x' σ' => x' = x ∧ σ' = s') (hr : dOps P rd ops eff Ss Q rest (i + 1) (putd o.dst x env)) : dOps P rd ops eff Ss Q (o :: rest) i env := by
 simp only [dOps, hg, he]; exact ⟨x, ⟨s, s', h1, h2, h⟩, hr⟩
theorem _root_.zB1 : type_of% @dOps_eff := @dOps_eff
theorem dOps_skip {Q : Env → Prop} {o : Oper} {rest : List Oper} {i : Nat} (hg : guardOk ops env o = some false) (he : effAt i eff 0 = none) (hr : dOps P rd ops eff Ss Q rest (i + 1) (putd o.dst (.tup []) env)) : dOps P rd ops eff Ss Q (o :: rest) i env := by
 simp only [dOps, hg]; exact ⟨he, hr⟩
theorem dOps_nil {Q : Env → Prop} {i : Nat} (h : Q env) : dOps P rd ops eff Ss Q [] i env := h
theorem _root_.zP0 : type_of% @dOps_nil := @dOps_nil
structure Row (P : Program) (rd : Option Nat) (ops : Array Oper) (eff : List Nat) (Ss : List MS) (E : Nat → Env) (X : Nat → MV) (B : Nat → Bool) (from_ n : Nat) : Prop where
 step : ∀ (i : Nat) (o : Oper), from_ ≤ i → ops[i]? = some o → guardOk ops (E i) o = some (B i) ∧
  (B i = true → (∀ k, effAt i eff 0 = some k → ∃ s s', Ss[k]? = some s ∧ Ss[k + 1]? = some s' ∧ OpWp P rd o (E i) s fun x' σ' => x' = X i ∧ σ' = s') ∧ (effAt i eff 0 = none → AllTo P rd o (E i) (X i) (span_ Ss (loOf ops o eff 0 0) (hiOf ops i eff 0)))) ∧
  (B i = false → effAt i eff 0 = none ∧ X i = .tup []) ∧ E (i + 1) = putd o.dst (X i) (E i)
theorem dOps_row {Q : Env → Prop} : ∀ (l : List Oper) (k : Nat) (env : Env), (∀ j, l[j]? = ops[k + j]?) → dOps P rd ops eff Ss Q l k env → ∃ E X B, Row P rd ops eff Ss E X B k ops.size ∧ E k = env ∧ Q (E (k + l.length))
 | [], k, env, hl, h => ⟨fun _ => env, fun _ => .tup [], fun _ => false, ⟨fun i o hi ho => by
   have := hl (i - k)
   rw [show k + (i - k) = i by omega, ho] at this
   cases this⟩, rfl, h⟩
 | o :: l, k, env, hl, h => by
  have ho : ops[k]? = some o := by simpa using (hl 0).symm
  have hl' : ∀ j, l[j]? = ops[k + 1 + j]? := fun j => by
   have := hl (j + 1)
   rw [List.getElem?_cons_succ] at this
   rw [this, show k + (j + 1) = k + 1 + j by omega]
  simp only [dOps] at h
  have build : ∀ (x : MV) (b : Bool), guardOk ops env o = some b → (b = true → (∀ j, effAt k eff 0 = some j → ∃ s s', Ss[j]? = some s ∧ Ss[j + 1]? = some s' ∧ OpWp P rd o env s fun x' σ' => x' = x ∧ σ' = s') ∧ (effAt k eff 0 = none → AllTo P rd o env x (span_ Ss (loOf ops o eff 0 0) (hiOf ops k eff 0)))) →
    (b = false → effAt k eff 0 = none ∧ x = .tup []) → dOps P rd ops eff Ss Q l (k + 1) (putd o.dst x env) →
    ∃ E X B, Row P rd ops eff Ss E X B k ops.size ∧ E k = env ∧ Q (E (k + (o :: l).length)) := by
   intro x b hg hx hx' hr
   obtain ⟨E, X, B, hrow, hE, hQ⟩ := dOps_row l (k + 1) _ hl' hr
   refine ⟨fun i => if i = k then env else E i, fun i => if i = k then x else X i, fun i => if i = k then b else B i, ⟨fun i p hi hp => ?_⟩, by simp, ?_⟩
   ·by_cases e : i = k
    ·subst e
     rw [ho] at hp
     injection hp with hp
     subst hp
     simp only [if_true]
     refine ⟨hg, hx, hx', ?_⟩
     rw [if_neg (by omega)]
     exact hE
    ·simp only [if_neg e]
     rw [if_neg (by omega)]
     exact hrow.step i p (by omega) hp
   ·show Q (if k + (o :: l).length = k then env else E (k + (o :: l).length))
    rw [if_neg (by rw [zF0]; omega)]
    rw [zF0, show k + (l.length + 1) = k + 1 + l.length by omega]
    exact hQ
  split at h
  ·rename_i hg
   obtain ⟨x, hx, hr⟩ := h
   refine build x true hg (fun _ => ⟨fun j hj => ?_, fun hj => ?_⟩) (fun h => by cases h) hr
   ·rw [hj] at hx; exact hx
   ·rw [hj] at hx; exact hx
  ·rename_i hg
   exact build _ false hg (fun h => by cases h) (fun _ => ⟨h.1, rfl⟩) h.2
  ·exact h.elim
theorem row_get {E : Nat → Env} {X : Nat → MV} {B : Nat → Bool} (hx : LexS n ops) (hrow : Row P rd ops eff Ss E X B 0 ops.size) : ∀ (i : Nat), i ≤ ops.size → ∀ t,
  (∀ (j : Nat) (p : Oper), j < i → ops[j]? = some p → p.dst = some t → get (E i) t = some (X j)) ∧ ((∀ (j : Nat) (p : Oper), j < i → ops[j]? = some p → p.dst ≠ some t) → get (E i) t = get (E 0) t)
 | 0, _, t => ⟨fun j p hj => by omega, fun _ => rfl⟩
 | i + 1, hi, t => by
  obtain ⟨h1, h2⟩ := row_get hx hrow i (by omega) t
  have ho : ops[i]? = some ops[i] := Array.getElem?_eq_getElem (by omega)
  obtain ⟨_, _, _, hE⟩ := hrow.step i _ (Nat.zero_le _) ho
  rw [hE]
  refine ⟨fun j p hj hp hd => ?_, fun hno => ?_⟩
  ·by_cases e : j = i
   ·subst e
    rw [ho] at hp
    injection hp with hp
    subst hp
    rw [hd]
    exact zX4 _ _ _
   ·have hne : ops[i].dst ≠ some t := fun hd' => e (hx.inj j i p _ t hp ho hd hd')
    cases hdo : ops[i].dst with
    | none => exact h1 j p (by omega) hp hd
    | some d =>
     rw [hdo] at hne
     show get ((d, X i) :: E i) t = _
     rw [zS4 _ _ (fun e => hne (by rw [e]))]
     exact h1 j p (by omega) hp hd
  ·have hne := hno i _ (by omega) ho
   have hold := h2 fun j p hj => hno j p (by omega)
   cases hdo : ops[i].dst with
   | none => exact hold
   | some d =>
    rw [hdo] at hne
    show get ((d, X i) :: E i) t = _
    rw [zS4 _ _ (fun e => hne (by rw [e]))]
    exact hold
structure DInv (P : Program) (rd : Option Nat) (N n m0 : Nat) (ops : Array Oper) (eff : List Nat) (Ss : List MS) (E : Nat → Env) (X : Nat → MV) (g0 : Gh) (w0 : World) (F : Fence) (listed : Array Bool) (a : Act) (w : World) (g : Gh) (c : Nat) (s : MS) : Prop where
 fok : FOkN N g rd F
 rel : Rel g s w
 cur : Ss[c]? = some s
 cle : c ≤ eff.length
 effs : ∀ (d e : Nat), eff[d]? = some e → (listed.getD e false = true ↔ d < c)
 le : LeN N g0 w0 g w
 sz : a.tmps.size = n
 marks : Marks m0 w a.defers
 old : ∀ t x, get (E 0) t = some x → (∀ (j : Nat) (p : Oper), ops[j]? = some p → p.dst = some t → listed.getD j true = false) → ∃ v, a.tmps[t]? = some v ∧ Rd g w x v
 new : ∀ (j : Nat) (p : Oper) (d : Nat), listed.getD j false = true → ops[j]? = some p → p.dst = some d → ∃ v, a.tmps[d]? = some v ∧ Rd g w (X j) v
 lsz : listed.size = ops.size
theorem getD_ff {listed : Array Bool} {m i : Nat} (hs : listed.size = m) (hi : i < m) : listed.getD i true = listed.getD i false := by
 have hs : i < listed.size := by omega
 simp only [Array.getD_eq_getD_getElem?, Array.getElem?_eq_getElem hs, Option.getD_some]
theorem DInv.reads {m0 c : Nat} {s : MS} {E : Nat → Env} {X : Nat → MV} {B : Nat → Bool} {g0 : Gh} {w0 : World} {F : Fence} {listed : Array Bool} {a : Act} {w : World} {g : Gh} (hx : LexS n ops) (hrow : Row P rd ops eff Ss E X B 0 ops.size) (hI : DInv P rd N n m0 ops eff Ss E X g0 w0 F listed a w g c s)
  {i : Nat} {o : Oper} (hi : ops[i]? = some o) (hnl : listed.getD i true = false) (hdep : ∀ e ∈ o.after, Region.binds .any e = true → listed.getD e.on false = true)
  (hcl : ∀ (j : Nat) (p : Oper), ops[j]? = some p → listed.getD j false = true → ∀ e ∈ p.after, Region.binds .any e = true → listed.getD e.on false = true) {t : Nat} (ht : t ∈ readsOf ops o) {x : MV} (hg : get (E i) t = some x) : ∃ v, a.tmps[t]? = some v ∧ Rd g w x v := by
 have hlt : i < ops.size := (Array.getElem?_eq_some_iff.1 hi).1
 obtain ⟨h1, h2⟩ := row_get hx hrow i (by omega) t
 by_cases hex : ∃ (j : Nat) (p : Oper), j < i ∧ ops[j]? = some p ∧ p.dst = some t
 ·obtain ⟨j, p, hji, hp, hd⟩ := hex
  rcases hx.dep i j o p t hi hp ht hd with ⟨_, e, he, hb, hon⟩ | ⟨hij, _⟩ | hij
  ·rw [h1 j p hji hp hd] at hg
   injection hg with hg
   subst hg
   exact hI.new j p t (by rw [← hon]; exact hdep e he hb) hp hd
  ·omega
  ·omega
 ·have hno : ∀ (j : Nat) (p : Oper), j < i → ops[j]? = some p → p.dst ≠ some t := fun j p hj hp hd => hex ⟨j, p, hj, hp, hd⟩
  rw [h2 hno] at hg
  refine hI.old t x hg fun j p hp hd => ?_
  have hjs : j < ops.size := (Array.getElem?_eq_some_iff.1 hp).1
  have hji : ¬ j < i := fun hj => hno j p hj hp hd
  rcases hx.dep i j o p t hi hp ht hd with ⟨hj, _⟩ | ⟨hij, e, he, hb, hon⟩ | hij
  ·omega
  ·cases hl : listed.getD j true with
   | false => rfl
   | true =>
    rw [getD_ff hI.lsz hjs] at hl
    have := hcl j p hp hl e he hb
    rw [hon, ← getD_ff hI.lsz hlt, hnl] at this
    cases this
  ·subst hij; exact hnl
theorem _root_.zV2 : type_of% @List.mem_append := @List.mem_append
theorem draw_sound {m0 : Nat} {s1 : MS} {E : Nat → Env} {X : Nat → MV} {B : Nat → Bool} {g0 : Gh} {w0 : World} {F : Fence} {Q : Exit → Env → MS → Prop} (hx : LexS n ops) (hch : effChain ops eff = true) (hes : ∀ (d e : Nat), eff[d]? = some e → e < ops.size) (hS1 : Ss[eff.length]? = some s1) (hrow : Row P rd ops eff Ss E X B 0 ops.size) (hQ : Q .normal (E ops.size) s1) :
  ∀ (fuel : Nat) (listed : Array Bool) (a : Act) (w : World) (g : Gh) (c : Nat) (s : MS), DInv P rd N n m0 ops eff Ss E X g0 w0 F listed a w g c s → (∀ (j : Nat) (p : Oper), ops[j]? = some p → listed.getD j false = true → ∀ e ∈ p.after, Region.binds .any e = true → listed.getD e.on false = true) →
   (List.range ops.size).countP (fun i => !listed.getD i true) ≤ fuel → wpAnyIn F 0 P .any ops (Left_ N g0 w0 n m0 Q) fuel listed a w := by
 have hmono : ∀ (l : List Nat) (d : Nat), effChain ops l = true → ∀ (e f : Nat), l[d]? = some e → l[d + 1]? = some f → e < f ∧ ∃ p, ops[f]? = some p ∧ bindsOn p e = true := by
  intro l
  induction l with
  | nil => intro d _ e f he; simp at he
  | cons a l ih =>
   intro d hc e f he hf
   cases l with
   | nil => simp at hf
   | cons b l =>
    simp only [effChain, Bool.and_eq_true] at hc
    cases d with
    | zero =>
     simp at he hf
     subst he; subst hf
     refine ⟨by simpa using hc.1.2, ?_⟩
     have h1 := hc.1.1
     split at h1
     ·rename_i p hp; exact ⟨p, hp, h1⟩
     ·cases h1
    | succ d => exact ih d hc.2 e f (by simpa using he) (by simpa using hf)
 have hlts : ∀ (k d e f : Nat), eff[d]? = some e → eff[d + 1 + k]? = some f → e < f := by
  intro k
  induction k with
  | zero => intro d e f he hf; exact (hmono eff d hch e f he hf).1
  | succ k ih =>
   intro d e f he hf
   have hlen : d + 1 + (k + 1) < eff.length := (zD.1 hf).1
   have hm : eff[d + 1 + k]? = some eff[d + 1 + k] := zC (by omega)
   have h1 := ih d e _ he hm
   have h2 := (hmono eff (d + 1 + k) hch _ f hm hf).1
   omega
 have hinj : ∀ (d d' e : Nat), eff[d]? = some e → eff[d']? = some e → d = d' := by
  intro d d' e h1 h2
  rcases Nat.lt_trichotomy d d' with h | h | h
  ·have := hlts (d' - d - 1) d e e h1 (by rw [show d + 1 + (d' - d - 1) = d' by omega]; exact h2); omega
  ·exact h
  ·have := hlts (d - d' - 1) d' e e h2 (by rw [show d' + 1 + (d - d' - 1) = d by omega]; exact h1); omega
 have hend : ∀ (listed : Array Bool) (a : Act) (w : World) (g : Gh) (c : Nat) (s : MS), DInv P rd N n m0 ops eff Ss E X g0 w0 F listed a w g c s → (∀ i, i < ops.size → listed.getD i true = true) → Left_ N g0 w0 n m0 Q .normal a w := by
  intro listed a w g c s hI hall
  have hallf : ∀ i, i < ops.size → listed.getD i false = true := fun i hi => by rw [← getD_ff hI.lsz hi]; exact hall i hi
  have hc : c = eff.length := by
   rcases Nat.lt_or_ge c eff.length with hlt | hge
   ·have he : eff[c]? = some eff[c] := zC hlt
    have := (hI.effs c _ he).1 (hallf _ (hes c _ he))
    omega
   ·have := hI.cle; omega
  have hs : s = s1 := by
   have := hI.cur
   rw [hc, hS1] at this
   injection this with this
   exact this.symm
  subst hs
  refine ⟨E ops.size, s, g, hQ, hI.rel, fun t x hg => ?_, hI.le, hI.sz, hI.marks⟩
  obtain ⟨h1, h2⟩ := row_get hx hrow ops.size (Nat.le_refl _) t
  by_cases hex : ∃ (j : Nat) (p : Oper), ops[j]? = some p ∧ p.dst = some t
  ·obtain ⟨j, p, hp, hd⟩ := hex
   have hlt : j < ops.size := (Array.getElem?_eq_some_iff.1 hp).1
   rw [h1 j p hlt hp hd] at hg
   injection hg with hg
   subst hg
   exact hI.new j p t (hallf j hlt) hp hd
  ·have hno : ∀ (j : Nat) (p : Oper), ops[j]? = some p → p.dst ≠ some t := fun j p hp hd => hex ⟨j, p, hp, hd⟩
   rw [h2 fun j p _ hp => hno j p hp] at hg
   exact hI.old t x hg fun j p hp hd => absurd hd (hno j p hp)
 have hready : ∀ (listed : Array Bool), listed.size = ops.size → Region.ready .any ops listed = [] → ∀ i, i < ops.size → listed.getD i true = true := by
  intro listed hls hnil i
  induction i using Nat.strongRecOn with
  | _ i ih =>
   intro hi
   cases hli : listed.getD i true with
   | true => rfl
   | false =>
    exfalso
    have ho : ops[i]? = some ops[i] := Array.getElem?_eq_getElem hi
    have hm : i ∈ Region.ready .any ops listed := by
     simp only [Region.ready, List.mem_filter, List.mem_range, Bool.and_eq_true]
     refine ⟨hi, by rw [hli]; rfl, ?_⟩
     rw [ho]
     simp only [Option.map_some, Option.getD_some, Array.all_eq_true_iff_forall_mem, Bool.or_eq_true, Bool.not_eq_true']
     intro e he
     cases hb : Region.binds .any e with
     | false => exact .inl rfl
     | true =>
      right
      have hlt := hx.back i _ e ho he hb
      rw [← getD_ff hls (show e.on < ops.size by omega)]
      exact ih e.on hlt (by omega)
    rw [hnil] at hm
    cases hm
 intro fuel
 induction fuel with
 | zero =>
  intro listed a w g c s hI hcl hc
  have hall : ∀ i, i < ops.size → listed.getD i true = true := by
   intro i hi
   have h0 : (List.range ops.size).countP (fun i => !listed.getD i true) = 0 := by omega
   rw [List.countP_eq_zero] at h0
   have := h0 i (List.mem_range.2 hi)
   simpa using this
  refine ⟨?_, hend listed a w g c s hI hall⟩
  simp only [Region.ready, List.filter_eq_nil_iff, List.mem_range, Bool.and_eq_true, not_and]
  intro i hi hf
  rw [hall i hi] at hf
  cases hf
 | succ fuel ih =>
  intro listed a w g c s hI hcl hc
  refine ⟨fun hnil => hend listed a w g c s hI (hready listed hI.lsz hnil), fun i hi => ?_⟩
  obtain ⟨hlt, hnl, hdep⟩ : i < ops.size ∧ listed.getD i true = false ∧ ∀ (o : Oper), ops[i]? = some o → ∀ e ∈ o.after, Region.binds .any e = true → listed.getD e.on false = true := by
   simp only [Region.ready, List.mem_filter, List.mem_range, Bool.and_eq_true, Bool.not_eq_true'] at hi
   refine ⟨hi.1, hi.2.1, fun o ho e he hb => ?_⟩
   have := hi.2.2
   rw [ho] at this
   simp only [Option.map_some, Option.getD_some, Array.all_eq_true_iff_forall_mem, Bool.or_eq_true, Bool.not_eq_true'] at this
   rcases this e he with h | h
   ·rw [hb] at h; cases h
   ·exact h
  have ho : ops[i]? = some ops[i] := Array.getElem?_eq_getElem hlt
  obtain ⟨hg, hT, hF, hE⟩ := hrow.step i _ (Nat.zero_le _) ho
  have hil : i < listed.size := by rw [hI.lsz]; exact hlt
  have hnlf : listed.getD i false = false := by rw [← getD_ff hI.lsz hlt]; exact hnl
  have hwant : Region.wanted ops[i] (yielded ops a.tmps) = B i := by
   refine guardOk_wanted (g := g) (w := w) hg fun j want d x hgd hjd hx' => ?_
   refine hI.reads hx hrow ho hnl (hdep _ ho) hcl ?_ hx'
   simp only [readsOf, hgd, hjd, Option.toList_some]
   simp
  have hset : ∀ j, j ≠ i → (listed.setIfInBounds i true).getD j false = listed.getD j false := fun j hj => getD_set_ne _ (fun h => hj h.symm)
  have hseti : (listed.setIfInBounds i true).getD i false = true := by simp [Array.getD_eq_getD_getElem?, Array.getElem?_setIfInBounds_self_of_lt hil]
  have next : ∀ (v : Value) (w' : World) (g' : Gh) (c' : Nat) (s' : MS), Rel g' s' w' → Ss[c']? = some s' → c' ≤ eff.length → (∀ (d e : Nat), eff[d]? = some e → ((listed.setIfInBounds i true).getD e false = true ↔ d < c')) → Rd g' w' (X i) v → Le g w g' w' →
    wpAnyIn F 0 P .any ops (Left_ N g0 w0 n m0 Q) fuel (listed.setIfInBounds i true) (a.put ops[i].dst v) w' := by
   intro v w' g' c' s' hr' hc1 hc2 hc3 hv hl
   refine ih _ _ w' g' c' s' ⟨hI.fok.mono (hl.toN N), hr', hc1, hc2, hc3, hI.le.trans (hl.toN N), by rw [size_put]; exact hI.sz, by rw [defers_put]; exact hI.marks.mono hl, fun t x hgt hno => ?_, fun j p d hj hp hd => ?_, by simpa using hI.lsz⟩ (fun j p hp hj e he hb => ?_) ?_
   ·have hnoi : ops[i].dst ≠ some t := fun hd => by
     have := hno i _ ho hd
     simp [Array.getD_eq_getD_getElem?, Array.getElem?_setIfInBounds_self_of_lt hil] at this
    obtain ⟨u, hu, hr⟩ := hI.old t x hgt fun j p hp hd => by
     have hji : j ≠ i := fun e => by
      subst e
      rw [ho] at hp
      injection hp with hp
      subst hp
      exact hnoi hd
     have := hno j p hp hd
     rw [getD_set_ne _ (fun h => hji h.symm)] at this
     exact this
    refine ⟨u, ?_, hr.mono hl⟩
    cases hd : ops[i].dst with
    | none => exact hu
    | some d =>
     rw [hd] at hnoi
     show (a.tmps.setIfInBounds d v)[t]? = _
     rw [Array.getElem?_setIfInBounds_ne (fun e => hnoi (by rw [e]))]
     exact hu
   ·by_cases e : j = i
    ·subst e
     rw [ho] at hp
     injection hp with hp
     subst hp
     refine ⟨v, ?_, hv⟩
     rw [hd]
     show (a.tmps.setIfInBounds d v)[d]? = _
     have := hx.lt j _ d ho hd
     simp [Array.getElem?_setIfInBounds_self_of_lt (show d < a.tmps.size by rw [hI.sz]; exact this)]
    ·rw [hset j e] at hj
     obtain ⟨u, hu, hr⟩ := hI.new j p d hj hp hd
     refine ⟨u, ?_, hr.mono hl⟩
     cases hdi : ops[i].dst with
     | none => exact hu
     | some d' =>
      show (a.tmps.setIfInBounds d' v)[d]? = _
      rw [Array.getElem?_setIfInBounds_ne (fun ed => e (hx.inj j i p _ d hp ho hd (by rw [hdi, ed])))]
      exact hu
   ·have hon : listed.getD e.on false = true := by
     by_cases ej : j = i
     ·subst ej
      rw [ho] at hp
      injection hp with hp
      subst hp
      exact hdep _ ho e he hb
     ·rw [hset j ej] at hj
      exact hcl j p hp hj e he hb
    exact getD_set_true hon
   ·have hlt2 : (List.range ops.size).countP (fun k => !(listed.setIfInBounds i true).getD k true) < (List.range ops.size).countP (fun k => !listed.getD k true) := by
     have hsplit : ∀ (l : List Nat), i ∈ l → l.countP (fun k => !(listed.setIfInBounds i true).getD k true) < l.countP (fun k => !listed.getD k true) := by
      have hle : ∀ (l : List Nat), l.countP (fun k => !(listed.setIfInBounds i true).getD k true) ≤ l.countP (fun k => !listed.getD k true) := by
       intro l
       refine List.countP_mono_left fun k _ hk => ?_
       by_cases e : k = i
       ·subst e
        simp [Array.getD_eq_getD_getElem?, Array.getElem?_setIfInBounds_self_of_lt hil] at hk
       ·rw [getD_set_ne _ (fun h => e h.symm)] at hk
        exact hk
      intro l
      induction l with
      | nil => intro h; cases h
      | cons k l ihl =>
       intro hm
       rw [List.countP_cons, List.countP_cons]
       by_cases e : k = i
       ·subst e
        have e1 : (!(listed.setIfInBounds k true).getD k true) = false := by simp [Array.getD_eq_getD_getElem?, Array.getElem?_setIfInBounds_self_of_lt hil]
        rw [e1, hnl]
        have := hle l
        simp only [Bool.not_false, if_true, Bool.false_eq_true, if_false]
        omega
       ·have hm' : i ∈ l := by
         rcases List.mem_cons.1 hm with h | h
         ·exact absurd h.symm e
         ·exact h
        have := ihl hm'
        rw [getD_set_ne _ (fun h => e h.symm)]
        omega
     exact hsplit _ (List.mem_range.2 hlt)
    omega
  have heffno : effAt i eff 0 = none → ∀ (d e : Nat), eff[d]? = some e → ((listed.setIfInBounds i true).getD e false = true ↔ d < c) := by
   intro hne d e he
   rw [hset e (fun h => effAt_none hne d (by rw [he, h]))]
   exact hI.effs d e he
  have hopd : ∀ x ∈ ops[i].op.operands, ∀ m, evo (E i) x = some m → Rd g w m (a.eval x) := fun x hxo m hm => by
   cases x with
   | tmp t =>
    obtain ⟨v, hv, hr⟩ := hI.reads hx hrow ho hnl (hdep _ ho) hcl (t := t) (by
     simp only [readsOf, zV2]
     left
     simp only [opTmps, List.mem_filterMap]
     exact ⟨.tmp t, by simpa using hxo, rfl⟩) hm
    simp only [Act.eval, Array.getD_eq_getD_getElem?, hv, Option.getD_some]
    exact hr
   | const v => exact zZ5 _ _ hm
   | func f =>
    injection hm with hm
    subst hm
    exact .fn' (.nil _ _) (.nil _ _)
   | global _ => cases hm
  unfold wpOpIn
  rw [ho]
  simp only
  rw [hwant]
  cases hB : B i with
  | true =>
   simp only [if_true]
   obtain ⟨hT1, hT2⟩ := hT hB
   have go : ∀ (c' : Nat) (s' : MS), Ss[c']? = some s' → c' ≤ eff.length → (∀ (d e : Nat), eff[d]? = some e → ((listed.setIfInBounds i true).getD e false = true ↔ d < c')) → OpWp P rd ops[i] (E i) s (fun x' σ' => x' = X i ∧ σ' = s') →
     Oper.wpIn F 0 P ops[i] a w (wpAnyIn F 0 P .any ops (Left_ N g0 w0 n m0 Q) fuel (listed.setIfInBounds i true)) (Left_ N g0 w0 n m0 Q) := by
    intro c' s' h1 h2 h3 hop
    have hop := hop g w a F hI.fok.ok hI.rel hopd
    have h2 := Oper.wpIn_mono (K' := wpAnyIn F 0 P .any ops (Left_ N g0 w0 n m0 Q) fuel (listed.setIfInBounds i true)) ?_ hop
    ·refine ⟨h2.1, ?_⟩
     have h3 := h2.2
     revert h3
     generalize (Oper.semAt F.round a.eval ops[i]).run P w = r
     intro h3
     cases r with
     | ok x w' =>
      cases x with
      | value v => exact h3
      | skip => exact h3
      | defer d => exact h3
      | enter f args =>
       refine ⟨h3.1, h3.2.mono ?_⟩
       rintro (⟨v⟩ | ⟨c⟩ | _) w'' hx
       ·exact hx
       ·exact hx.elim
       ·obtain ⟨_, _, hx⟩ := hx; exact hx.elim
      | row r' args => exact h3
      | round l f t b c =>
       refine ⟨h3.1, h3.2.mono ?_⟩
       rintro (⟨v⟩ | ⟨c⟩ | _) w'' hx
       ·exact hx
       ·exact hx.elim
       ·obtain ⟨_, _, hx⟩ := hx; exact hx.elim
      | _ => exact h3.elim
     | halt x w' =>
      cases x with
      | panic v => exact h3.elim
      | _ => exact h3.elim
    ·rintro a' w' ⟨v, rfl, x, σ', g', ⟨rfl, rfl⟩, hr', hv, hl⟩
     exact next v w' g' c' σ' hr' h1 (by assumption) h3 hv hl
   cases hea : effAt i eff 0 with
   | none =>
    have hall := hT2 hea
    refine go c s hI.cur hI.cle (heffno hea) (hall.of_mem s ?_)
    have hlo : loOf ops ops[i] eff 0 0 ≤ c := by
     refine loOf_le (Nat.zero_le _) fun d e he hb => ?_
     obtain ⟨ed, hed, hbd, hon⟩ := bindsOn_iff.1 hb
     have := hdep _ ho ed hed hbd
     rw [hon] at this
     have := (hI.effs d e he).1 this
     omega
    have hhi : c ≤ hiOf ops i eff 0 := by
     refine hiOf_ge (by rw [Nat.zero_add]; exact hI.cle) fun d e p he hp hb => ?_
     obtain ⟨ed, hed, hbd, hon⟩ := bindsOn_iff.1 hb
     rcases Nat.lt_or_ge d c with hdc | hdc
     ·have hl := (hI.effs d e he).2 hdc
      have := hcl e p hp hl ed hed hbd
      rw [hon, hnlf] at this
      cases this
     ·omega
    have hlen : c < Ss.length := (zD.1 hI.cur).1
    refine zW (i := c - loOf ops ops[i] eff 0 0) ?_
    rw [span_, List.getElem?_take, if_pos (by omega), List.getElem?_drop, show loOf ops ops[i] eff 0 0 + (c - loOf ops ops[i] eff 0 0) = c by omega]
    exact hI.cur
   | some k =>
    obtain ⟨s0, s', hk1, hk2, hop⟩ := hT1 k hea
    obtain ⟨d, hd, hdi⟩ := effAt_some hea
    have hkd : k = d := by omega
    subst hkd
    have hkc : k = c := by
     rcases Nat.lt_trichotomy k c with h | h | h
     ·have := (hI.effs k i hdi).2 h
      rw [hnlf] at this; cases this
     ·exact h
     ·have hlen : k < eff.length := (zD.1 hdi).1
      have hprev : eff[k - 1]? = some eff[k - 1] := zC (by omega)
      obtain ⟨_, p, hp, hb⟩ := hmono eff (k - 1) hch _ i hprev (by rw [show k - 1 + 1 = k by omega]; exact hdi)
      rw [ho] at hp
      injection hp with hp
      subst hp
      obtain ⟨ed, hed, hbd, hon⟩ := bindsOn_iff.1 hb
      have := hdep _ ho ed hed hbd
      rw [hon] at this
      have := (hI.effs (k - 1) _ hprev).1 this
      omega
    subst hkc
    have hs0 : s0 = s := by
     have := hI.cur
     rw [hk1] at this
     injection this with this
    subst hs0
    have hlen : k < eff.length := (zD.1 hdi).1
    refine go (k + 1) s' hk2 (by omega) (fun d e he => ?_) hop
    by_cases hei : e = i
    ·subst hei
     rw [hseti]
     have := hinj d k e he hdi
     subst this
     simp
    ·rw [hset e hei]
     have hdk : d ≠ k := fun h => by
      subst h
      rw [hdi] at he
      injection he with he
      exact hei he.symm
     rw [hI.effs d e he]
     omega
  | false =>
   simp only [Bool.false_eq_true, if_false]
   obtain ⟨hne, hX⟩ := hF hB
   refine ⟨fun f _ => hI.fok.ok.fn f, next undef w g c s hI.rel hI.cur hI.cle (heffno hne) ?_ (.refl _ _)⟩
   rw [hX]
   exact rd_undef _ _
theorem mwp_draw {Q : Exit → Env → MS → Prop} {id : Nat} (eff : List Nat) (Ss : List MS) {s1 : MS} (hm : P.follows .mixedOrders = true) (hb : lexOk n ops = true) (hch : effChain ops eff = true) (hes : eff.all (fun e => Nat.blt e ops.size) = true) (h0 : Ss[0]? = some σ) (h1 : Ss[eff.length]? = some s1)
  (h : dOps P rd ops eff Ss (fun env => Q .normal env s1) ops.toList 0 env) : mwp P rd N n (.region id ops true) Q env σ := by
 intro g w a F m0 hF hr he hn hmk
 have hx := lexOk_spec hb
 obtain ⟨E, X, B, hrow, hE, hQ⟩ := dOps_row (P := P) (rd := rd) ops.toList 0 env (fun j => by simp) h
 rw [Nat.zero_add, Array.length_toList] at hQ
 refine wpIn_region_any hm ?_
 have hl := Le.drew g w
 have hrep : ∀ (b : Bool) (j : Nat), j < ops.size → (Array.replicate ops.size false).getD j b = false := fun b j hj => by
  simp [Array.getD_eq_getD_getElem?, Array.getElem?_replicate, hj]
 have hrepf : ∀ (j : Nat), (Array.replicate ops.size false).getD j false = false := fun j => by
  simp only [Array.getD_eq_getD_getElem?, Array.getElem?_replicate]
  split <;> rfl
 refine draw_sound hx hch (fun d e hd => ?_) h1 hrow hQ ops.size _ a w.drew g 0 σ ⟨hF.mono (hl.toN N), hr.drew, h0, Nat.zero_le _, fun d e hd => ?_, hl.toN N, hn, hmk.mono hl, fun t x hg hno => ?_, fun j p d hj hp hd => ?_, by simp⟩ (fun j p hp hj => ?_) ?_
 ·rw [List.all_eq_true] at hes
  simpa using hes e (zW hd)
 ·rw [hrepf]; simp
 ·rw [hE] at hg
  obtain ⟨v, hv, hrd⟩ := he t x hg
  exact ⟨v, hv, hrd.mono hl⟩
 ·rw [hrepf] at hj; cases hj
 ·rw [hrepf] at hj; cases hj
 ·have := List.countP_le_length (p := fun i => !(Array.replicate ops.size false).getD i true) (l := List.range ops.size)
  rw [List.length_range] at this
  exact this
theorem _root_.zX0 : type_of% @mwp_draw := @mwp_draw
end
end
section
section
variable {P : Program} {rd : Option Nat} {o : Oper} {env : Env} {σ : MS} {K : MV → MS → Prop}
def Opd (g : Gh) (w : World) (a : Act) (env : Env) (o : Oper) : Prop := ∀ x ∈ o.op.operands, ∀ m, evo env x = some m → Rd g w m (a.eval x)
theorem OpWp.of_run (hd : ∀ c, o.op ≠ .defer c) (h : ∀ (g : Gh) (w : World) (a : Act), Rel g σ w → Opd g w a env o → ∃ v w', (execOp a.eval o).run P w = .ok (.value v) w' ∧ Gets g w K v w') : OpWp P rd o env σ K := by
 intro g w a F hF hr ho
 obtain ⟨v, w', hrun, hg⟩ := h g w a hr ho
 refine ⟨fun f _ => hF.fn f, ?_⟩
 rw [Oper.semAt_eq _ _ _ hd, hrun]
 exact ⟨v, rfl, hg⟩
theorem OpWp.of_skip (hd : ∀ c, o.op ≠ .defer c) (h : ∀ (g : Gh) (w : World) (a : Act), Rel g σ w → Opd g w a env o → ∃ w', (execOp a.eval o).run P w = .ok .skip w' ∧ Gets g w K undef w') : OpWp P rd o env σ K := by
 intro g w a F hF hr ho
 obtain ⟨w', hrun, hg⟩ := h g w a hr ho
 refine ⟨fun f _ => hF.fn f, ?_⟩
 rw [Oper.semAt_eq _ _ _ hd, hrun]
 exact ⟨undef, rfl, hg⟩
theorem Gets.same {g : Gh} {w : World} {v : Value} {m : MV} (h : K m σ) (hr : Rel g σ w) (hx : Rd g w m v) : Gets g w K v w := ⟨m, σ, g, h, hr, hx, .refl _ _⟩
theorem op_move {x : Operand} {m : MV} (ho : o.op = .move x) (hx : evo env x = some m) (h : K m σ) : OpWp P rd o env σ K := by
 refine OpWp.of_run (by simp [ho]) fun g w a hr hop => ⟨a.eval x, w, ?_, .same h hr (hop x (by simp [ho, Op.operands]) m hx)⟩
 simp only [execOp, ho, Sem.run_pure]
theorem _root_.zY : type_of% @op_move := @op_move
theorem op_assign {x : Operand} {m : MV} (ho : o.op = .assign x) (hx : evo env x = some m) (h : K m σ) : OpWp P rd o env σ K := by
 refine OpWp.of_run (by simp [ho]) fun g w a hr hop => ⟨a.eval x, w, ?_, .same h hr (hop x (by simp [ho, Op.operands]) m hx)⟩
 simp only [execOp, ho, Sem.run_pure]
theorem _root_.zF1 : type_of% @op_assign := @op_assign
theorem op_pick {c x y : Operand} {b : Bool} {m : MV} (ho : o.op = .pick c x y) (hc : evo env c = some (.bool b)) (hm : evo env (if b then x else y) = some m) (h : K m σ) : OpWp P rd o env σ K := by
 refine OpWp.of_run (by simp [ho]) fun g w a hr hop => ⟨a.eval (if b then x else y), w, ?_, .same h hr (hop _ (by cases b <;> simp [ho, Op.operands]) m hm)⟩
 have e := (hop c (by simp [ho, Op.operands]) _ hc).inv_bool
 simp only [execOp, ho, e]
 cases b <;> simp [asBool]
theorem _root_.zO1 : type_of% @op_pick := @op_pick
theorem op_load_ref {t : TypeId} {x : Operand} {id off : Nat} {l : List MV} {ta : Option Nat} {m : MV} (ho : o.op = .load t x) (hx : evo env x = some (.ref id off)) (hσ : σ[id]? = some (.cells l)) (ht : tyAgg P t = some ta) (hm : loadMV ta l off = some m) (h : K m σ) : OpWp P rd o env σ K := by
 refine OpWp.of_run (by simp [ho]) fun g w a hr hop => ?_
 obtain ⟨b, hb, e⟩ := (hop x (by simp [ho, Op.operands]) _ hx).inv_ref
 obtain ⟨own, hown⟩ := hr.ex
 obtain ⟨b', us, ty, e1, e2, e3, ⟨fr, e4, _⟩, e5⟩ := hown.obj _ _ hσ
 rw [hb] at e2
 injection e2 with e2
 subst e2
 obtain ⟨v, hv, hy⟩ := zR6 ht (e5.drop off) (fun j u hu => cells_at e4 off j hu) (loadMV_drop hm)
 refine ⟨v, w, ?_, .same h hr hy⟩
 simp [execOp, ho, e, Instr.loadAt, Instr.sureAddr, hv]
theorem _root_.zP : type_of% @op_load_ref := @op_load_ref
theorem op_load_sptr {t : TypeId} {x : Operand} {l : List MV} {ta : Option Nat} {m : MV} (ho : o.op = .load t x) (hx : evo env x = some (.sptr l)) (ht : tyAgg P t = some ta) (hm : loadMV ta l 0 = some m) (h : K m σ) : OpWp P rd o env σ K := by
 refine OpWp.of_run (by simp [ho]) fun g w a hr hop => ?_
 obtain ⟨ad, us, e, h1, h2⟩ := (hop x (by simp [ho, Op.operands]) _ hx).inv_sptr
 obtain ⟨v, hv, hy⟩ := zR6 ht h1 (fun j u hu => (h2 j u hu).2.1) hm
 refine ⟨v, w, ?_, .same h hr hy⟩
 simp [execOp, ho, e, Instr.loadAt, Instr.sureAddr, hv]
theorem _root_.zO : type_of% @op_load_sptr := @op_load_sptr
def fieldOff (P : Program) (t : TypeId) (f : Nat) : Option (Nat × TypeId) :=
 match P.underlying t with
 | some (.struct fs) => match fs[f]? with
  | some x => match P.info? x.type with
   | some i => match i.size with
    | 0 => none
    | _ + 1 => some (x.offset, x.type)
   | none => none
  | none => none
 | _ => none
theorem fieldOff_some {t : TypeId} {f off : Nat} {ft : TypeId} (h : fieldOff P t f = some (off, ft)) : ∃ fs fd i, P.underlying t = some (.struct fs) ∧ fs[f]? = some fd ∧ fd.offset = off ∧ fd.type = ft ∧ P.info? ft = some i ∧ i.size ≠ 0 := by
 unfold fieldOff at h
 split at h
 ·rename_i fs hu
  split at h
  ·rename_i fd hf
   split at h
   ·rename_i i hi
    split at h
    ·cases h
    ·rename_i k hk
     simp only [Option.some.injEq, Prod.mk.injEq] at h
     exact ⟨fs, fd, i, hu, hf, h.1, h.2, h.2 ▸ hi, by omega⟩
   ·cases h
  ·cases h
 ·cases h
theorem op_fieldAddr_ref {t : TypeId} {x : Operand} {f id off fo : Nat} {ft : TypeId} (ho : o.op = .fieldAddr t x f) (hx : evo env x = some (.ref id off)) (hf : fieldOff P t f = some (fo, ft)) (h : K (.ref id (off + fo)) σ) : OpWp P rd o env σ K := by
 refine OpWp.of_run (by simp [ho]) fun g w a hr hop => ?_
 obtain ⟨b, hb, e⟩ := (hop x (by simp [ho, Op.operands]) _ hx).inv_ref
 obtain ⟨fs, fd, i, h1, h2, h3, h4, h5, h6⟩ := fieldOff_some hf
 refine ⟨.pointer (some ⟨b, off + fo, none⟩), w, ?_, .same h hr (.ref _ _ b hb)⟩
 simp [execOp, ho, e, Instr.fieldAt, Instr.sureAddr, run_underlying h1, h2, fieldPlace, sizeOf, typeInfo, h4, h5, h6, h3, zB4]
theorem _root_.zE : type_of% @op_fieldAddr_ref := @op_fieldAddr_ref
theorem op_fieldAddr_sptr {t : TypeId} {x : Operand} {f fo : Nat} {ft : TypeId} {l : List MV} (ho : o.op = .fieldAddr t x f) (hx : evo env x = some (.sptr l)) (hf : fieldOff P t f = some (fo, ft)) (h : K (.sptr (l.drop fo)) σ) : OpWp P rd o env σ K := by
 refine OpWp.of_run (by simp [ho]) fun g w a hr hop => ?_
 obtain ⟨ad, us, e, k1, k2⟩ := (hop x (by simp [ho, Op.operands]) _ hx).inv_sptr
 obtain ⟨fs, fd, i, h1, h2, h3, h4, h5, h6⟩ := fieldOff_some hf
 refine ⟨.pointer (some (ad.add fo)), w, ?_, .same h hr (.sptr _ _ (us.drop fo) (k1.drop fo).1 (fun j u hu => ?_) (k1.drop fo).2)⟩
 ·simp [execOp, ho, e, Instr.fieldAt, Instr.sureAddr, run_underlying h1, h2, fieldPlace, sizeOf, typeInfo, h4, h5, h6, h3]
 ·rw [List.getElem?_drop] at hu
  have := k2 _ _ hu
  have e2 : (ad.add fo).add j = ad.add (fo + j) := by
   unfold Addr.add
   by_cases h1 : fo = 0 <;> by_cases h2 : j = 0 <;> simp [h1, h2, Nat.add_assoc]
  unfold Stab at this ⊢
  rw [e2]
  exact this
theorem _root_.zG1 : type_of% @op_fieldAddr_sptr := @op_fieldAddr_sptr
theorem rds_cells {g : Gh} {w : World} {m : MV} {v : Value} (h : Rd g w m v) : ∃ us, v.cells = us.toArray ∧ Rds g w m.cells us := by
 cases h with
 | agg xs us h1 h2 => exact ⟨us, rfl, h1, h2⟩
 | bool b => exact ⟨[_], rfl, .cons (.bool b) (.nil _ _)⟩
 | int k n => exact ⟨[_], rfl, .cons (.int k n) (.nil _ _)⟩
 | str s => exact ⟨[_], rfl, .cons (.str s) (.nil _ _)⟩
 | ptr0 => exact ⟨[_], rfl, .cons .ptr0 (.nil _ _)⟩
 | ref id off b hb => exact ⟨[_], rfl, .cons (.ref id off b hb) (.nil _ _)⟩
 | yld id b hb => exact ⟨[_], rfl, .cons (.yld id b hb) (.nil _ _)⟩
 | vec id off sz n c b hb h2 h3 => exact ⟨[_], rfl, .cons (.vec id off sz n c b hb h2 h3) (.nil _ _)⟩
 | map0 => exact ⟨[_], rfl, .cons .map0 (.nil _ _)⟩
 | map id b hb => exact ⟨[_], rfl, .cons (.map id b hb) (.nil _ _)⟩
 | ow id sz n v h h1 h2 => exact ⟨[_], h1, .cons (.ow id sz n v h h1 h2) (.nil _ _)⟩
 | orf id n off b c h => exact ⟨[_], rfl, .cons (.orf id n off b c h) (.nil _ _)⟩
 | sptr cs ad us h1 h2 h3 => exact ⟨[_], rfl, .cons (.sptr cs ad us h1 h2 h3) (.nil _ _)⟩
 | lst0 => exact ⟨[_], rfl, .cons .lst0 (.nil _ _)⟩
 | lst tok sz xs a c us h1 h2 h3 h4 h5 h6 h7 => exact ⟨[_], rfl, .cons (.lst tok sz xs a c us h1 h2 h3 h4 h5 h6 h7) (.nil _ _)⟩
 | fn f xs ys us vs h1 h2 h3 h4 => exact ⟨[_], rfl, .cons (.fn f xs ys us vs h1 h2 h3 h4) (.nil _ _)⟩
 | fn0 => exact ⟨[_], rfl, .cons .fn0 (.nil _ _)⟩
 | iface t x v h => exact ⟨[_], rfl, .cons (.iface t x v h) (.nil _ _)⟩
 | iface0 => exact ⟨[_], rfl, .cons .iface0 (.nil _ _)⟩
 | tup xs us h1 h2 => exact ⟨[_], rfl, .cons (.tup xs us h1 h2) (.nil _ _)⟩
theorem _root_.zW6 : type_of% @rds_cells := @rds_cells
theorem gets_new {g : Gh} {w : World} (hr : Rel g σ w) {l : List MV} {us : List Value} (hl : Rds g w l us) (ty : TypeId) (h : K (.ref σ.length 0) (σ ++ [.cells l])) : Gets g w K (.pointer (some ⟨w.heap.size, 0, none⟩)) (w.alloc (.cells us.toArray ty)) := by
 obtain ⟨g', h1, h2, h3⟩ := hr.alloc_obj hl ty
 exact ⟨_, _, g', h, h1, .ref _ _ _ h3, h2⟩
theorem op_box {t : TypeId} {x : Operand} {m : MV} (ho : o.op = .box t x) (hx : evo env x = some m) (h : K (.ref σ.length 0) (σ ++ [.cells m.cells])) : OpWp P rd o env σ K := by
 refine OpWp.of_run (by simp [ho]) fun g w a hr hop => ?_
 obtain ⟨us, e, k1⟩ := zW6 (hop x (by simp [ho, Op.operands]) _ hx)
 refine ⟨.pointer (some ⟨w.heap.size, 0, none⟩), w.alloc (.cells us.toArray t), ?_, gets_new hr k1 t h⟩
 simp [execOp, ho, Instr.box, newVar, newRow, e]
def zeroMV (P : Program) (t : TypeId) : Option (List MV) :=
 match P.info? t with
 | some i => match i.zero with
  | some z => z.cells.toList.mapM constMV
  | none => none
 | none => none
theorem mapM_const {g : Gh} {w : World} : ∀ {us : List Value} {l : List MV}, us.mapM constMV = some l → Rds g w l us
 | [], l, h => by simp at h; subst h; exact .nil _ _
 | u :: us, l, h => by
  rw [List.mapM_cons] at h
  cases hu : constMV u with
  | none => rw [hu] at h; simp at h
  | some m =>
   rw [hu] at h
   cases hs : us.mapM constMV with
   | none => rw [hs] at h; simp at h
   | some ms =>
    rw [hs] at h
    simp at h
    subst h
    exact .cons (zZ5 _ _ hu) (mapM_const hs)
theorem zeroMV_some {t : TypeId} {l : List MV} (h : zeroMV P t = some l) : ∃ z, (∀ w, (zeroValue t).run P w = .ok z w) ∧ ∀ g w, Rds g w l z.cells.toList := by
 unfold zeroMV at h
 split at h
 ·rename_i i hi
  split at h
  ·rename_i z hz
   exact ⟨z, fun w => by simp [zeroValue, typeInfo, hi, hz], fun g w => mapM_const h⟩
  ·cases h
 ·cases h
theorem op_alloc {t : TypeId} {l : List MV} (ho : o.op = .alloc t) (hz : zeroMV P t = some l) (h : K (.ref σ.length 0) (σ ++ [.cells l])) : OpWp P rd o env σ K := by
 refine OpWp.of_run (by simp [ho]) fun g w a hr hop => ?_
 obtain ⟨z, k0, k1⟩ := zeroMV_some hz
 refine ⟨.pointer (some ⟨w.heap.size, 0, none⟩), w.alloc (.cells z.cells.toList.toArray t), ?_, gets_new hr (k1 g w) t h⟩
 simp [execOp, ho, Instr.alloc, k0, newVar, newRow]
theorem _root_.zA4 : type_of% @op_alloc := @op_alloc
def evos (env : Env) : List Operand → Option (List MV)
 | [] => some []
 | x :: xs => match evo env x with
  | some m => match evos env xs with
   | some ms => some (m :: ms)
   | none => none
  | none => none
theorem evos_rds {g : Gh} {w : World} {a : Act} : ∀ {xs : List Operand} {ms : List MV}, (∀ x ∈ xs, ∀ m, evo env x = some m → Rd g w m (a.eval x)) → evos env xs = some ms → Rds g w ms (xs.map a.eval)
 | [], ms, _, h => by injection h with h; subst h; exact .nil _ _
 | x :: xs, ms, ho, h => by
  simp only [evos] at h
  split at h
  ·rename_i m hm
   split at h
   ·rename_i ms' hms
    injection h with h
    subst h
    exact .cons (ho x (zH2 ..) m hm) (evos_rds (fun y hy => ho y (zA2 _ hy)) hms)
   ·cases h
  ·cases h
theorem op_makeFunc {f : Fn} {first caps : Array Operand} {xs ys : List MV} (ho : o.op = .makeFunc f first caps) (hx : evos env first.toList = some xs) (hy : evos env caps.toList = some ys) (h : K (.fn f xs ys) σ) : OpWp P rd o env σ K := by
 refine OpWp.of_run (by simp [ho]) fun g w a hr hop => ?_
 have k1 : Rds g w xs (first.toList.map a.eval) := evos_rds (fun x hx m hm => hop x (by simp [ho, Op.operands]; exact .inl (by simpa using hx)) m hm) hx
 have k2 : Rds g w ys (caps.toList.map a.eval) := evos_rds (fun x hx m hm => hop x (by simp [ho, Op.operands]; exact .inr (by simpa using hx)) m hm) hy
 refine ⟨.func f (first.map a.eval) (caps.map a.eval), w, ?_, .same h hr ?_⟩
 ·simp [execOp, ho, Instr.makeFunc]
 ·have e1 : (first.map a.eval) = (first.toList.map a.eval).toArray := by apply Array.ext'; simp
  have e2 : (caps.map a.eval) = (caps.toList.map a.eval).toArray := by apply Array.ext'; simp
  rw [e1, e2]
  exact .fn' k1 k2
theorem _root_.zO2 : type_of% @op_makeFunc := @op_makeFunc
theorem op_extract {x : Operand} {i : Nat} {l : List MV} {m : MV} (ho : o.op = .extract x i) (hx : evo env x = some (.tup l)) (hm : l[i]? = some m) (h : K m σ) : OpWp P rd o env σ K := by
 refine OpWp.of_run (by simp [ho]) fun g w a hr hop => ?_
 obtain ⟨us, e, k1⟩ := (hop x (by simp [ho, Op.operands]) _ hx).inv_tup
 obtain ⟨u, hu, hy⟩ := k1.get hm
 refine ⟨u, w, ?_, .same h hr hy⟩
 simp [execOp, ho, e, Instr.extract, hu]
theorem _root_.zJ0 : type_of% @op_extract := @op_extract
theorem op_makeInterface {t : TypeId} {x : Operand} {m : MV} {d : TypeDesc} (ho : o.op = .makeInterface t x) (hx : evo env x = some m) (hu : P.underlying t = some d) (hd : ∀ ms, d ≠ .interface ms) (h : K (.iface t m) σ) : OpWp P rd o env σ K := by
 refine OpWp.of_run (by simp [ho]) fun g w a hr hop => ⟨.iface t (a.eval x), w, ?_, .same h hr (.iface _ _ _ (hop x (by simp [ho, Op.operands]) m hx))⟩
 simp only [execOp, ho, Instr.makeInterface, Sem.run_bind, run_underlying hu, Result.andThen_ok]
 cases d <;> first | rfl | exact absurd rfl (hd _)
theorem _root_.zR1 : type_of% @op_makeInterface := @op_makeInterface
def CallOk (P : Program) (k : FuncId) : Prop := ∃ fn c, P.funcs[k]? = some fn ∧ (fn.name == "runtime.NumGoroutine") = false ∧ fn.body = some c
theorem CallOk.run {k : FuncId} (h : CallOk P k) (args : Array Value) (w : World) : (callFunc k args).run P w = .ok (.enter k args) w := by
 obtain ⟨fn, c, h1, h2, h3⟩ := h
 have h2' : fn.name ≠ "runtime.NumGoroutine" := by simpa using h2
 simp [callFunc, h1, h2', h3]
theorem op_call {f : Operand} {args : Array Operand} {ts : Array TypeId} {k : FuncId} {first caps xs : List MV} (ho : o.op = .call { callee := .value f, args := args, argTypes := ts }) (hf : evo env f = some (.fn (.func k) first caps)) (hx : evos env args.toList = some xs)
  (hb : CallOk P k) (h : MCalls P k (first ++ xs ++ caps) σ K) : OpWp P rd o env σ K := by
 intro g w a F hF hr hop
 refine ⟨fun f _ => hF.fn f, ?_⟩
 rw [Oper.semAt_eq _ _ _ (by simp [ho])]
 obtain ⟨us, vs, e, k1, k2⟩ := (hop f (by simp [ho, Op.operands, Call.operands]) _ hf).inv_fn
 have k3 : Rds g w xs (args.toList.map a.eval) := evos_rds (fun x hx m hm => hop x (by simp [ho, Op.operands, Call.operands]; exact .inr (by simpa using hx)) m hm) hx
 have hc := h g w (us ++ args.toList.map a.eval ++ vs) hr ((k1.append k3).append k2)
 have hrun : (execOp a.eval o).run P w = .ok (.enter k (us ++ args.toList.map a.eval ++ vs).toArray) w := by
  simp [execOp, ho, resolve, e, Deferred.ofValue, invoke, hb.run]
 rw [hrun]
 refine ⟨fun h => hF.depth h, (hF.calls hc).mono ?_⟩
 rintro e w' ⟨v, rfl, hg⟩
 exact ⟨v, rfl, hg⟩
theorem _root_.zD1 : type_of% @op_call := @op_call
theorem op_len_lst {x : Operand} {tok : Option Nat} {sz : Nat} {xs : List MV} {t e : TypeId} (ho : o.op = .call { callee := .builtin .len, args := #[x], argTypes := #[t] }) (hu : P.underlying t = some (.slice e)) (hx : evo env x = some (.lst tok sz xs))
  (h : K (.int .i64 (xs.length : Int)) σ) : OpWp P rd o env σ K := by
 refine OpWp.of_run (by simp [ho]) fun g w a hr hop => ?_
 obtain ⟨ad, c, us, hv, _⟩ := (hop x (by simp [ho, Op.operands, Call.operands]) _ hx).inv_lst
 refine ⟨.int .i64 xs.length, w, ?_, .same h hr (.int _ _)⟩
 simp [execOp, ho, resolve, invoke, builtin, Builtin.len_, run_underlying hu, hv, goInt]
theorem _root_.zW1 : type_of% @op_len_lst := @op_len_lst
theorem op_len_lst0 {x : Operand} {t e : TypeId} (ho : o.op = .call { callee := .builtin .len, args := #[x], argTypes := #[t] }) (hu : P.underlying t = some (.slice e)) (hx : evo env x = some .lst0)
  (h : K (.int .i64 0) σ) : OpWp P rd o env σ K := by
 refine OpWp.of_run (by simp [ho]) fun g w a hr hop => ?_
 have hv := (hop x (by simp [ho, Op.operands, Call.operands]) _ hx).inv_lst0
 refine ⟨.int .i64 0, w, ?_, .same h hr (.int _ _)⟩
 simp [execOp, ho, resolve, invoke, builtin, Builtin.len_, run_underlying hu, hv, goInt]
theorem op_len_str {x : Operand} {s : ByteArray} {t : TypeId} (ho : o.op = .call { callee := .builtin .len, args := #[x], argTypes := #[t] }) (hu : P.underlying t = some .string) (hx : evo env x = some (.str s))
  (h : K (.int .i64 (s.size : Int)) σ) : OpWp P rd o env σ K := by
 refine OpWp.of_run (by simp [ho]) fun g w a hr hop => ?_
 have hv := (hop x (by simp [ho, Op.operands, Call.operands]) _ hx).inv_str
 refine ⟨.int .i64 s.size, w, ?_, .same h hr (.int _ _)⟩
 simp [execOp, ho, resolve, invoke, builtin, Builtin.len_, run_underlying hu, hv, goInt]
theorem op_bin {b : BinOp} {t t' : TypeId} {x y : Operand} {mx my mz : MV} {vx vy vz : Value} (ho : o.op = .binOp b t x y t') (hx : evo env x = some mx) (hy : evo env y = some my) (ex : ∀ g w v, Rd g w mx v → v = vx) (ey : ∀ g w v, Rd g w my v → v = vy)
  (hrun : ∀ w, Sem.run P (do eqGuard b t x y vx vy; binOp b t vx vy) w = .ok vz w) (hz : constMV vz = some mz) (h : K mz σ) : OpWp P rd o env σ K := by
 refine OpWp.of_run (by simp [ho]) fun g w a hr hop => ?_
 have e1 := ex _ _ _ (hop x (by simp [ho, Op.operands]) _ hx)
 have e2 := ey _ _ _ (hop y (by simp [ho, Op.operands]) _ hy)
 refine ⟨vz, w, ?_, .same h hr (zZ5 _ _ hz)⟩
 have := hrun w
 simp only [Sem.run_bind] at this
 simp only [execOp, ho, e1, e2, Sem.run_bind, Sem.run_pure]
 rw [this]
 rfl
theorem op_un {b : UnOp} {t : TypeId} {x : Operand} {mx mz : MV} {vx vz : Value} (ho : o.op = .unOp b t x) (hx : evo env x = some mx) (ex : ∀ g w v, Rd g w mx v → v = vx)
  (hrun : ∀ w, Sem.run P (Op.unary b vx) w = .ok vz w) (hz : constMV vz = some mz) (h : K mz σ) : OpWp P rd o env σ K := by
 refine OpWp.of_run (by simp [ho]) fun g w a hr hop => ?_
 have e1 := ex _ _ _ (hop x (by simp [ho, Op.operands]) _ hx)
 refine ⟨vz, w, ?_, .same h hr (zZ5 _ _ hz)⟩
 simp only [execOp, ho, e1, Sem.run_bind, hrun w, Result.andThen_ok, Sem.run_pure]
end
end
section
abbrev Bs := List UInt8
def bs (l : Bs) : ByteArray := ⟨l.toArray⟩
def strL (s : ByteArray) : Bs := s.data.toList
@[simp] theorem strL_bs (l : Bs) : strL (bs l) = l := by simp [strL, bs]
theorem bs_strL (s : ByteArray) : bs (strL s) = s := by simp [strL, bs]
theorem bs_size (l : Bs) : (bs l).size = l.length := by simp [bs, ByteArray.size]
def intCmp : BinOp → Int → Int → Option Bool
 | .eql, a, b => some (a == b)
 | .neq, a, b => some (a != b)
 | .lss, a, b => some (decide (a < b))
 | .leq, a, b => some (decide (a ≤ b))
 | .gtr, a, b => some (decide (b < a))
 | .geq, a, b => some (decide (b ≤ a))
 | _, _, _ => none
def intArith : BinOp → IntKind → Int → Int → Option Int
 | .add, k, a, b => some (k.wrap (a + b))
 | .sub, k, a, b => some (k.wrap (a - b))
 | .mul, k, a, b => some (k.wrap (a * b))
 | _, _, _, _ => none
def strCmp : BinOp → Bs → Bs → Option Bool
 | .eql, a, b => some (a == b)
 | .neq, a, b => some (!(a == b))
 | .lss, a, b => some (Op.bytesLess a b)
 | .leq, a, b => some (Op.bytesLess a b || a == b)
 | .gtr, a, b => some (!(Op.bytesLess a b || a == b))
 | .geq, a, b => some (!Op.bytesLess a b)
 | _, _, _ => none
section
variable {P : Program} {rd : Option Nat} {o : Oper} {env : Env} {σ : MS} {K : MV → MS → Prop}
theorem op_cmp {b : BinOp} {t t' : TypeId} {x y : Operand} {k : IntKind} {m n : Int} {r : Bool} (ho : o.op = .binOp b t x y t') (hx : evo env x = some (.int k m)) (hy : evo env y = some (.int k n)) (hr : intCmp b m n = some r) (h : K (.bool r) σ) : OpWp P rd o env σ K := by
 refine op_bin ho hx hy (fun _ _ _ h => h.inv_int) (fun _ _ _ h => h.inv_int) (vz := .bool r) (fun w => ?_) V h
 cases b <;> simp only [intCmp, Option.some.injEq] at hr <;> first | (cases hr; done) | (subst hr; simp [go_sem, eqGuard, binOp, Op.intCmp]; done)
theorem _root_.zW2 : type_of% @op_cmp := @op_cmp
theorem op_arith {b : BinOp} {t t' : TypeId} {x y : Operand} {k : IntKind} {m n r : Int} (ho : o.op = .binOp b t x y t') (hx : evo env x = some (.int k m)) (hy : evo env y = some (.int k n)) (hr : intArith b k m n = some r) (h : K (.int k r) σ) : OpWp P rd o env σ K := by
 refine op_bin ho hx hy (fun _ _ _ h => h.inv_int) (fun _ _ _ h => h.inv_int) (vz := .int k r) (fun w => ?_) V h
 cases b <;> simp only [intArith, Option.some.injEq] at hr <;> first | (cases hr; done) | (subst hr; simp [eqGuard, binOp, Op.intArith]; done)
theorem _root_.zT0 : type_of% @op_arith := @op_arith
theorem op_strcmp {b : BinOp} {t t' : TypeId} {x y : Operand} {s u : Bs} {r : Bool} (ho : o.op = .binOp b t x y t') (hx : evo env x = some (.str (bs s))) (hy : evo env y = some (.str (bs u))) (hr : strCmp b s u = some r) (h : K (.bool r) σ) : OpWp P rd o env σ K := by
 refine op_bin ho hx hy (fun _ _ _ h => h.inv_str) (fun _ _ _ h => h.inv_str) (vz := .bool r) (fun w => ?_) V h
 have e : ∀ l : Bs, (bs l).toList = l := fun l => by simp [bs]
 cases b <;> simp only [strCmp, Option.some.injEq] at hr <;> first | (cases hr; done) | (subst hr; simp [eqGuard, binOp, Op.stringOp, e]; done)
theorem _root_.zS2 : type_of% @op_strcmp := @op_strcmp
theorem op_not {t : TypeId} {x : Operand} {b : Bool} (ho : o.op = .unOp .not t x) (hx : evo env x = some (.bool b)) (h : K (.bool (!b)) σ) : OpWp P rd o env σ K :=
 op_un ho hx (fun _ _ _ h => h.inv_bool) (vz := .bool (!b)) (fun w => by simp [Op.unary]) rfl h
theorem _root_.zC1 : type_of% @op_not := @op_not
def szOf (P : Program) (t : TypeId) : Option Nat := match P.info? t with | some i => some i.size | none => none
theorem szOf_run {t : TypeId} {k : Nat} (h : szOf P t = some k) (w : World) : (sizeOf t).run P w = .ok k w := by
 unfold szOf at h
 split at h
 ·rename_i i hi
  injection h with h
  subst h
  simp [sizeOf, typeInfo, hi]
 ·cases h
theorem _root_.zO5 : type_of% @szOf_run := @szOf_run
theorem op_indexAddr {t e : TypeId} {x y : Operand} {tok : Option Nat} {sz : Nat} {xs : List MV} {k : IntKind} {n : Int} {i : Nat} {m : MV} (ho : o.op = .indexAddr t x y) (hu : P.underlying t = some (.slice e)) (hs : szOf P e = some sz) (hsz : 0 < sz)
  (hx : evo env x = some (.lst tok sz xs)) (hy : evo env y = some (.int k n)) (hn : n = (i : Int)) (hm : xs[i]? = some m) (h : K (.sptr m.cells) σ) : OpWp P rd o env σ K := by
 refine OpWp.of_run (by simp [ho]) fun g w a hr hop => ?_
 subst hn
 obtain ⟨ad, c, us, hv, h1, h2, h3, h4, h5, _⟩ := (hop x (by simp [ho, Op.operands]) _ hx).inv_lst
 have hv2 := (hop y (by simp [ho, Op.operands]) _ hy).inv_int
 have hlt : i < xs.length := (zD.1 hm).1
 have hmm : m.cells.length = sz := h3 m (zW hm)
 have hcell : ∀ j, j < sz → (flat xs)[i * sz + j]? = m.cells[j]? := fun j hj => flat_at h3 hm j hj
 have hfl : (flat xs).length = xs.length * sz := zA6 h3
 have hle : i * sz + sz ≤ xs.length * sz := by
  have : (i + 1) * sz ≤ xs.length * sz := Nat.mul_le_mul_right sz hlt
  rw [Nat.add_mul, Nat.one_mul] at this
  exact this
 have hrd : Rds g w m.cells ((us.drop (i * sz)).take sz) := by
  have := (h4.drop (i * sz)).take sz
  have e2 : ((flat xs).drop (i * sz)).take sz = m.cells := by
   apply List.ext_getElem?
   intro j
   rw [List.getElem?_take]
   split
   ·rename_i hj
    rw [List.getElem?_drop, hcell j hj]
   ·rw [List.getElem?_eq_none (by omega)]
  rw [e2] at this
  exact this
 cases ad with
 | none =>
  exfalso
  have hp : 0 < us.length := by
   rw [h4.1, hfl]
   exact Nat.mul_pos (by omega) hsz
  obtain ⟨ad, ha, _⟩ := h5 0 us[0] (zC hp)
  cases ha
 | some ad =>
  refine ⟨.pointer (some (ad.add (i * sz))), w, ?_, .same h hr (.sptr _ _ _ hrd.1 (fun j u hu => ?_) hrd.2)⟩
  ·simp [execOp, ho, Instr.indexAt, hv, hv2, asIntOf, run_underlying hu, hlt, zO5 hs]
  ·rw [List.getElem?_take] at hu
   split at hu
   ·rw [List.getElem?_drop] at hu
    obtain ⟨ad', ea, hst⟩ := h5 _ _ hu
    injection ea with ea
    subst ea
    have e2 : (ad.add (i * sz)).add j = ad.add (i * sz + j) := by
     unfold Addr.add
     by_cases h1 : i * sz = 0 <;> by_cases h2 : j = 0 <;> simp [h1, h2, Nat.add_assoc]
    unfold Stab at hst ⊢
    rw [e2]
    exact hst
   ·cases hu
theorem _root_.zK : type_of% @op_indexAddr := @op_indexAddr
end
end
section
theorem getElem?_own (S L : MS) (k : Nat) : (S ++ L)[S.length + k]? = L[k]? := by
 rw [List.getElem?_append_right (by omega)]
 congr 1
 omega
theorem set_own (S L : MS) (k : Nat) (o : MObj) : (S ++ L).set (S.length + k) o = S ++ L.set k o := by
 rw [List.set_append_right _ _ (by omega)]
 congr 2
 omega
theorem _root_.zP5 : type_of% @set_own := @set_own
section
variable {P : Program} {rd : Option Nat} {o : Oper} {env : Env} {S L : MS} {K : MV → MS → Prop}
theorem _root_.zN : type_of% @List.append_assoc := @List.append_assoc
theorem op_box' {t : TypeId} {x : Operand} {m : MV} {k : Nat} {L' : MS} (ho : o.op = .box t x) (hx : evo env x = some m) (hk : L.length = k) (hL : L ++ [.cells m.cells] = L') (h : K (.ref (S.length + k) 0) (S ++ L')) : OpWp P rd o env (S ++ L) K := by
 refine op_box ho hx ?_
 subst hk; subst hL
 rw [zG, zN]
 exact h
theorem op_alloc' {t : TypeId} {l : List MV} {k : Nat} {L' : MS} (ho : o.op = .alloc t) (hz : zeroMV P t = some l) (hk : L.length = k) (hL : L ++ [.cells l] = L') (h : K (.ref (S.length + k) 0) (S ++ L')) : OpWp P rd o env (S ++ L) K := by
 refine zA4 ho hz ?_
 subst hk; subst hL
 rw [zG, zN]
 exact h
theorem _root_.zN0 : type_of% @op_alloc' := @op_alloc'
theorem op_load' {t : TypeId} {x : Operand} {k off : Nat} {l : List MV} {ta : Option Nat} {m : MV} (ho : o.op = .load t x) (hx : evo env x = some (.ref (S.length + k) off)) (hσ : L[k]? = some (.cells l)) (ht : tyAgg P t = some ta) (hm : loadMV ta l off = some m) (h : K m (S ++ L)) : OpWp P rd o env (S ++ L) K :=
 zP ho hx (by rw [getElem?_own]; exact hσ) ht hm h
theorem _root_.zO0 : type_of% @op_load' := @op_load'
theorem op_load_far {t : TypeId} {x : Operand} {id off : Nat} {l : List MV} {ta : Option Nat} {m : MV} (ho : o.op = .load t x) (hx : evo env x = some (.ref id off)) (hσ : S[id]? = some (.cells l)) (ht : tyAgg P t = some ta) (hm : loadMV ta l off = some m) (h : K m (S ++ L)) : OpWp P rd o env (S ++ L) K :=
 zP ho hx (by rw [List.getElem?_append_left (zD.1 hσ).1]; exact hσ) ht hm h
theorem _root_.zP1 : type_of% @op_load_far := @op_load_far
def setMany (l : List MV) (off : Nat) (cs : List MV) : List MV := l.take off ++ cs ++ l.drop (off + cs.length)
def MV.one : MV → Bool
 | .agg _ | .tup _ => false
 | _ => true
theorem one_cell {g : Gh} {w : World} {m : MV} {v : Value} (h : Rd g w m v) (h1 : m.one = true) : v.oneCell' = true := by
 cases h <;> first | rfl | (cases h1; done) | assumption
theorem frOk_no {w : World} {g : Nat} {cur : Array Value} {t : TypeId} {fr : Nat × Nat} (hg : w.heap[g]? = some (.cells cur t fr)) {n k : Nat} (hf : FrOk fr n) (hk : k < n) : w.frozen? ⟨g, k, none⟩ = false := by
 obtain ⟨lo, hi⟩ := fr
 simp only [World.frozen?, hg]
 rcases hf with hf | hf
 ·injection hf with h1 h2
  subst h1 h2
  simp
 ·simp only at hf
  simp
  omega
theorem run_storeCells_fr (P : Program) (g o : Nat) (t : TypeId) (fr : Nat × Nat) : ∀ (vs : List Value) (i : Nat) (cur : Array Value) (w : World), w.heap[g]? = some (.cells cur t fr) → FrOk fr cur.size → o + i + vs.length ≤ cur.size → (∀ v ∈ vs, v.oneCell' = true) →
  (storeCells ⟨g, o, none⟩ vs i).run P w = .ok () (w.setRow g (cur.toList.take (o + i) ++ vs ++ cur.toList.drop (o + i + vs.length)).toArray)
 | [], i, cur, w, hg, _, _, _ => by
  simp only [storeCells, List.append_nil, List.length_nil, Nat.add_zero, List.take_append_drop, Array.toArray_toList]
  rw [setRow_self w g cur t fr hg]
  rfl
 | v :: rest, i, cur, w, hg, hf, hl, h1 => by
  have hi : o + i < cur.size := by simp at hl; omega
  have hadd : (⟨g, o, none⟩ : Addr).add i = ⟨g, o + i, none⟩ := by unfold Addr.add; split <;> simp_all
  have hcell : w.cell? ⟨g, o + i, none⟩ = some cur[o + i] := by simp [World.cell?, hg, hi]
  have hfro : w.frozen? ⟨g, o + i, none⟩ = false := frOk_no hg hf hi
  have hst : (Go.store ((⟨g, o, none⟩ : Addr).add i) v).run P w = .ok () (w.setRow g (cur.setIfInBounds (o + i) v)) := by
   rw [hadd, run_store P w _ v _ (h1 v (by simp)), hcell]
   simp [hfro, setCell_eq_setRow w g (o + i) cur t fr v hg]
  have ih := run_storeCells_fr P g o t fr rest (i + 1) (cur.setIfInBounds (o + i) v) (w.setRow g (cur.setIfInBounds (o + i) v)) (setRow_heap w g cur _ t _ hg) (by simpa using hf) (by simp at hl ⊢; omega) (fun x hx => h1 x (by simp [hx]))
  simp only [storeCells, Sem.run_bind, hst, Result.andThen_ok, ih, setRow_setRow]
  congr 3
  have e := list_seg_step cur.toList (o + i) v rest (by simp at hl ⊢; omega)
  simpa [Array.toList_setIfInBounds, Nat.add_assoc] using e
theorem _root_.zX6 : type_of% @run_storeCells_fr := @run_storeCells_fr
theorem Rel.store {g : Gh} {σ : MS} {w : World} (h : Rel g σ w) {id : Nat} {l cs : List MV} {us : List Value} {off : Nat} (hσ : σ[id]? = some (.cells l)) (hr : Rds g w cs us) (hle : off + cs.length ≤ l.length) {b : Nat} (hb : g.bk id = some b) {old : List Value} {ty : TypeId} {fr : Nat × Nat} (hold : w.heap[b]? = some (.cells old.toArray ty fr)) :
  Rel g (σ.set id (.cells (setMany l off cs))) (w.setRow b (old.take off ++ us ++ old.drop (off + us.length)).toArray) ∧
  Le g w g (w.setRow b (old.take off ++ us ++ old.drop (off + us.length)).toArray) := by
 obtain ⟨own, hown⟩ := h.ex
 have hob := hown.obj id _ hσ
 obtain ⟨b', us', ty', e1, e2, e3, ⟨fr', e4, hfr⟩, e5⟩ := hob
 rw [hb] at e2; injection e2 with e2; subst e2
 rw [hold] at e4
 injection e4 with e4
 injection e4 with e4 ety efr
 subst ety efr
 have e4' : old = us' := by simpa using congrArg Array.toList e4
 subst e4'
 have hblt : b < w.heap.size := (Array.getElem?_eq_some_iff.1 hold).1
 have hne : ∀ c, c ≠ b → (w.setRow b (old.take off ++ us ++ old.drop (off + us.length)).toArray).heap[c]? = w.heap[c]? := fun c hc => by
  simp only [World.setRow, Array.getElem?_modify]
  rw [if_neg (fun e => hc e.symm)]
 have hbB : g.B ≤ b := (hown.lt id b e1).2.1
 have hl : Le g w g (w.setRow b (old.take off ++ us ++ old.drop (off + us.length)).toArray) := by
  refine ⟨⟨rfl, rfl, fun c k hk => ⟨hk, ?_⟩, fun _ _ h => h, fun _ _ _ h => h, by simp [World.setRow]⟩, fun c x hx => ?_⟩
  ·have : c ≠ b := fun e => by subst e; omega
   exact World.cell?_of_block (w := w) (a := ⟨c, k, none⟩) (hne c this)
  ·have : c ≠ b := fun e => by subst e; rw [hold] at hx; cases hx
   exact (hne c this).trans hx
 refine ⟨⟨⟨h.below.os, h.below.tape, h.below.output, by simpa [World.setRow] using h.below.size, fun k hk => (hne k (by omega)).trans (h.below.block k hk)⟩, h.base, fun c hc => h.fresh c (by simpa [World.setRow] using hc), fun i hi => h.bkn i (by simpa using hi), fun t k ht => h.lgn t k (by simpa using ht), own, ⟨fun i ob hi => ?_, hown.inj, fun i c hc => ?_⟩⟩, hl⟩
 ·rw [List.getElem?_set] at hi
  by_cases e : id = i
  ·subst e
   rw [if_pos rfl] at hi
   split at hi
   ·injection hi with hi
    subst hi
    refine ⟨b, old.take off ++ us ++ old.drop (off + us.length), ty, e1, hb, e3, ?_, ?_⟩
    ·refine ⟨fr, setRow_heap w b _ _ ty _ hold, ?_⟩
     have hul : (old.take off ++ us ++ old.drop (off + us.length)).length = old.length := by
      have := hr.1
      have := e5.1
      simp
      omega
     rw [hul]
     exact hfr
    ·have h1 := (e5.mono hl).take off
     have h2 := (e5.mono hl).drop (off + us.length)
     have h3 := hr.mono hl
     have := (h1.append h3).append h2
     rw [setMany, ← hr.1]
     exact this
   ·cases hi
  ·rw [if_neg e] at hi
   refine (hown.obj i ob hi).keep0 hl.toLe0 (fun c hc => ⟨hne c (fun ec => ?_), rfl⟩) (fun _ => V)
   subst ec
   exact e (hown.inj _ _ _ e1 hc)
 ·obtain ⟨h1, h2, h3⟩ := hown.lt i c hc
  exact ⟨by simpa using h1, h2, by simpa [World.setRow] using h3⟩
theorem op_store {σ : MS} {t : TypeId} {x y : Operand} {id off : Nat} {l : List MV} {m : MV} {k : Nat} (ho : o.op = .store t x y) (hx : evo env x = some (.ref id off)) (hy : evo env y = some m) (hσ : σ[id]? = some (.cells l)) (hk : szOf P t = some k) (hm : m.cells.length = k)
  (h1 : m.cells.all MV.one = true) (hle : off + k ≤ l.length) (h : K (.tup []) (σ.set id (.cells (setMany l off m.cells)))) : OpWp P rd o env σ K := by
 refine OpWp.of_skip (by simp [ho]) fun g w a hr hop => ?_
 obtain ⟨b, hb, e⟩ := (hop x (by simp [ho, Op.operands]) _ hx).inv_ref
 have hrd := hop y (by simp [ho, Op.operands]) _ hy
 obtain ⟨us, hus, hrds⟩ := zW6 hrd
 obtain ⟨own, hown⟩ := hr.ex
 obtain ⟨b', old, ty, e1, e2, e3, e4, e5⟩ := hown.obj _ _ hσ
 rw [hb] at e2; injection e2 with e2; subst e2
 have hlen : us.length = k := by rw [hrds.1, hm]
 have hone : ∀ v ∈ us, v.oneCell' = true := by
  intro v hv
  obtain ⟨j, hj⟩ := List.getElem?_of_mem hv
  have hjl : j < m.cells.length := by rw [hm, ← hlen]; exact (zD.1 hj).1
  have := hrds.2 j _ v (zC hjl) hj
  rw [List.all_eq_true] at h1
  exact one_cell this (h1 _ (List.getElem_mem hjl))
 obtain ⟨fr, e4, hfr⟩ := e4
 have hrun := zX6 P b off ty fr us 0 old.toArray w e4 (by simpa using hfr) (by rw [hlen]; simpa [e5.1] using hle) hone
 obtain ⟨hrel, hl⟩ := hr.store hσ hrds (by rw [hm]; exact hle) hb e4
 refine ⟨_, ?_, .tup [], _, g, h, hrel, rd_undef _ _, hl⟩
 have hsz : (a.eval y).cells.size = k := by rw [hus]; simpa using hlen
 have hst : (storeVar t ⟨b, off, none⟩ (a.eval y)).run P w = (storeCells ⟨b, off, none⟩ us).run P w := by
  simp [storeVar, zO5 hk, hsz, hus, hlen]
 simp only [execOp, ho, e, Instr.storeAt, Instr.sureAddr, Sem.run_bind, Sem.run_pure, Result.andThen_ok, hst, hrun, Nat.add_zero]
theorem _root_.zQ5 : type_of% @op_store := @op_store
theorem op_store' {t : TypeId} {x y : Operand} {i off : Nat} {l : List MV} {m : MV} {k : Nat} {L' : MS} (ho : o.op = .store t x y) (hx : evo env x = some (.ref (S.length + i) off)) (hy : evo env y = some m) (hσ : L[i]? = some (.cells l)) (hk : szOf P t = some k) (hm : m.cells.length = k)
  (h1 : m.cells.all MV.one = true) (hle : off + k ≤ l.length) (hL : L.set i (.cells (setMany l off m.cells)) = L') (h : K (.tup []) (S ++ L')) : OpWp P rd o env (S ++ L) K := by
 refine zQ5 ho hx hy (by rw [getElem?_own]; exact hσ) hk hm h1 hle ?_
 rw [zP5, hL]
 exact h
theorem _root_.zC0 : type_of% @op_store' := @op_store'
end
inductive EnvSub (env : Env) : Env → Prop where
 | nil : EnvSub env []
 | cons {t : Nat} {x y : MV} {E : Env} : get env t = some x → Sub x y → EnvSub env E → EnvSub env ((t, y) :: E)
theorem EnvSub.get_ {env E : Env} (h : EnvSub env E) : ∀ t y, get E t = some y → ∃ x, get env t = some x ∧ Sub x y := by
 induction h with
 | nil => exact fun t y hy => by cases hy
 | cons h1 h2 _ ih =>
  rename_i t x y E _
  intro s z hz
  by_cases e : t = s
  ·subst e
   rw [zX4] at hz
   injection hz with hz
   subst hz
   exact ⟨x, h1, h2⟩
  ·rw [zS4 _ _ e] at hz
   exact ih s z hz
theorem EnvSub.keep {env E : Env} {t : Nat} {x : MV} (h : get env t = some x) (hs : EnvSub env E) : EnvSub env ((t, x) :: E) := .cons h (.refl x) hs
theorem EnvSub.eq {env E : Env} {t : Nat} {x y : MV} (h : get env t = some x) (e : x = y) (hs : EnvSub env E) : EnvSub env ((t, y) :: E) := .cons h (e ▸ .refl x) hs
inductive EnvTo (n : Nat) (env E0 : Env) : Env → Prop where
 | nil : EnvTo n env E0 []
 | old {t : Nat} {x : MV} {E : Env} : get env t = some x → get E0 t = some x → EnvTo n env E0 E → EnvTo n env E0 ((t, x) :: E)
 | new {t : Nat} {x y : MV} {E : Env} : get env t = some x → Sub x y → Cl n y → EnvTo n env E0 E → EnvTo n env E0 ((t, y) :: E)
theorem EnvTo.new' {n : Nat} {env E0 E : Env} {t : Nat} {x y : MV} (h : get env t = some x) (e : x = y) (hc : Cl n y) (hs : EnvTo n env E0 E) : EnvTo n env E0 ((t, y) :: E) := .new h (e ▸ .refl x) hc hs
theorem EnvTo.sub {n : Nat} {env E0 E : Env} (h : EnvTo n env E0 E) : EnvSub env E := by
 induction h with
 | nil => exact .nil
 | old h1 h2 _ ih => exact .keep h1 ih
 | new h1 h2 h3 _ ih => exact .cons h1 h2 ih
theorem EnvTo.cl {n : Nat} {env E0 E : Env} (h : EnvTo n env E0 E) (h0 : ∀ t x, get E0 t = some x → Cl n x) : ∀ t x, get E t = some x → Cl n x := by
 induction h with
 | nil => exact fun t y hy => by cases hy
 | old h1 h2 _ ih =>
  rename_i t x E _
  intro s z hz
  by_cases e : t = s
  ·subst e
   rw [zX4] at hz
   injection hz with hz
   subst hz
   exact h0 _ _ h2
  ·rw [zS4 _ _ e] at hz
   exact ih s z hz
 | new h1 h2 h3 _ ih =>
  rename_i t x y E _
  intro s z hz
  by_cases e : t = s
  ·subst e
   rw [zX4] at hz
   injection hz with hz
   subst hz
   exact h3
  ·rw [zS4 _ _ e] at hz
   exact ih s z hz
inductive LTo (n : Nat) : MS → MS → Prop where
 | nil : LTo n [] []
 | same {o : MObj} {L L' : MS} : LTo n L L' → LTo n (o :: L) (o :: L')
 | new {o o' : MObj} {L L' : MS} : o'.cl n → LTo n L L' → LTo n (o :: L) (o' :: L')
theorem LTo.refl (n : Nat) : ∀ L : MS, LTo n L L
 | [] => .nil
 | o :: L => .same (LTo.refl n L)
theorem LTo.length {n : Nat} {L L' : MS} (h : LTo n L L') : L'.length = L.length := by
 induction h with
 | nil => rfl
 | same _ ih => simp [ih]
 | new _ _ ih => simp [ih]
theorem LTo.cl {n : Nat} {L L' : MS} (h : LTo n L L') (h0 : ∀ (k : Nat) (o : MObj), L[k]? = some o → o.cl n) : ∀ (k : Nat) (o : MObj), L'[k]? = some o → o.cl n := by
 induction h with
 | nil => exact fun k o ho => by simp at ho
 | same _ ih =>
  intro k o ho
  cases k with
  | zero => exact h0 0 o ho
  | succ k => exact ih (fun j p hp => h0 (j + 1) p (by simpa using hp)) k o (by simpa using ho)
 | new h1 _ ih =>
  intro k o ho
  cases k with
  | zero => simp at ho; subst ho; exact h1
  | succ k => exact ih (fun j p hp => h0 (j + 1) p (by simpa using hp)) k o (by simpa using ho)
section
variable {P : Program} {rd : Option Nat} {N n : Nat} {Q : Exit → Env → MS → Prop} {env : Env} {σ S : MS} {c : Code}
theorem mwp_facts (h : (∀ t x, get env t = some x → Cl σ.length x) → ClS σ → mwp P rd N n c Q env σ) : mwp P rd N n c Q env σ := by
 intro g w a F m0 hF hr he hn hm
 refine h (fun t x hx => ?_) hr.cls g w a F m0 hF hr he hn hm
 obtain ⟨v, _, hrd⟩ := he t x hx
 exact hrd.cl hr.bkn hr.lgn
theorem _root_.zW0 : type_of% @mwp_facts := @mwp_facts
def EnvSubG (env E : Env) : Prop := ∀ t y, get E t = some y → ∃ x, get env t = some x ∧ Sub x y
theorem mwp_cut {junk : MS} {env' : Env} (hN : N ≤ σ.length) (hs : EnvSubG env env') (hc : ∀ t x, get env' t = some x → Cl σ.length x) (hcs : ClS σ) (h : mwp P rd N n c Q env' σ) : mwp P rd N n c Q env (σ ++ junk) := by
 refine mwp_ghost (fun g w tmps hr he => ⟨g.cut σ.length, hr.cut' hcs, fun t y hy => ?_, ?_, fun F hF => ?_⟩) h
 ·obtain ⟨x, hx, hsub⟩ := hs t y hy
  obtain ⟨v, hv, hr⟩ := he t x hx
  exact ⟨v, hv, (hsub _ _ _ hr).cut (hc t y hy)⟩
 ·exact ⟨rfl, rfl, fun _ _ h => ⟨h, rfl⟩, fun id b hid hb => by simp only [Gh.cut]; rw [if_pos (by omega)]; exact hb, fun t n v ht hv => by simp only [Gh.cut]; rw [if_pos (by omega)]; exact hv, Nat.le_refl _, fun _ _ h => h⟩
 ·cases rd with
  | none => exact hF
  | some id =>
   obtain ⟨hid, b, hb, e⟩ := hF
   exact ⟨hid, b, by simp only [Gh.cut]; rw [if_pos (by omega)]; exact hb, e⟩
theorem mwp_cond_t {x : Operand} {a b : Code} {t : Bool} (hc : evo env x = some (.bool t)) (ht : t = true) (h : mwp P rd N n a Q env σ) : mwp P rd N n (.cond x a b) Q env σ := by
 subst ht; exact mwp_cond hc h
theorem _root_.zT : type_of% @mwp_cond_t := @mwp_cond_t
theorem mwp_cond_f {x : Operand} {a b : Code} {t : Bool} (hc : evo env x = some (.bool t)) (ht : t = false) (h : mwp P rd N n b Q env σ) : mwp P rd N n (.cond x a b) Q env σ := by
 subst ht; exact mwp_cond hc h
theorem _root_.zL : type_of% @mwp_cond_f := @mwp_cond_f
theorem mwp_loop0 {α : Type} {L0 : MS} (E : α → Env) (L : α → MS) (I : α → Prop) (m : α → Nat) (x₀ : α) (h₀ : I x₀) (hL : L0 = L x₀) (hE : EnvSub env (E x₀))
  (round : ∀ x, I x → mwp P rd N n c (ThenM (fun env' σ' => ∃ y, m y < m x ∧ I y ∧ σ' = S ++ L y ∧ EnvSub env' (E y)) Q) (E x) (S ++ L x)) : mwp P rd N n (.loop c) Q env (S ++ L0) := by
 subst hL
 refine mwp_loop (fun x env' σ' => I x ∧ σ' = S ++ L x ∧ EnvSub env' (E x)) m x₀ ⟨h₀, rfl, hE⟩ ?_
 rintro x env' σ' ⟨hI, rfl, hE⟩
 exact mwp_env hE.get_ (round x hI)
theorem mwp_loopJ {α : Type} {L0 : MS} (E : α → Env) (L : α → MS) (I : α → Prop) (m : α → Nat) (x₀ : α) (hN : N ≤ S.length) (h₀ : I x₀) (hL : L0 = L x₀) (hE : EnvSub env (E x₀))
  (round : ∀ x, I x → mwp P rd N n c (ThenM (fun env' σ' => ∃ y junk, m y < m x ∧ I y ∧ σ' = S ++ (L y ++ junk) ∧ LTo (S.length + (L x).length) (L x) (L y) ∧ EnvTo (S.length + (L x).length) env' (E x) (E y)) Q) (E x) (S ++ L x)) : mwp P rd N n (.loop c) Q env (S ++ L0) := by
 subst hL
 refine mwp_env hE.get_ ?_
 refine zW0 fun hc hcs => ?_
 refine mwp_loop (fun x env' σ' => I x ∧ ∃ junk, σ' = S ++ (L x ++ junk) ∧ EnvSubG env' (E x) ∧ (∀ t y, get (E x) t = some y → Cl (S ++ L x).length y) ∧ ClS (S ++ L x)) m x₀ ⟨h₀, [], by simp, fun t y hy => ⟨y, hy, .refl y⟩, hc, hcs⟩ ?_
 ·rintro x env' σ' ⟨hI, junk, rfl, hE, hcl, hcs⟩
  rw [← zN]
  refine mwp_cut (by simp; omega) hE hcl hcs (mwp_mono (round x hI) ?_)
  rintro e env2 σ2 hq
  cases e with
  | normal =>
   obtain ⟨y, junk, h1, h2, h3, h4, h5⟩ := hq
   have hlen : (S ++ L y).length = (S ++ L x).length := by simp [h4.length]
   have hlx : (S ++ L x).length = S.length + (L x).length := by simp
   refine ⟨y, h1, h2, junk, h3, h5.sub.get_, ?_, ?_⟩
   ·rw [hlen, hlx]
    exact h5.cl (by rw [← hlx]; exact hcl)
   ·intro id o ho
    rw [hlen]
    rcases Nat.lt_or_ge id S.length with hlt | hge
    ·rw [List.getElem?_append_left hlt] at ho
     exact hcs id o (by rw [List.getElem?_append_left hlt]; exact ho)
    ·rw [List.getElem?_append_right hge] at ho
     rw [hlx]
     refine h4.cl (fun k p hp => ?_) _ o ho
     rw [← hlx]
     exact hcs (S.length + k) p (by rw [getElem?_own]; exact hp)
  | exit id => exact hq
  | goto l => exact hq
  | ret => exact hq
  | panic ch => exact hq
  | outgrown => exact hq
end
end
section
section
variable {P : Program} {rd : Option Nat} {o : Oper} {env : Env} {σ : MS} {K : MV → MS → Prop}
def elemOk (P : Program) (e sz bytes : Nat) : Bool :=
 match P.info? e with
 | some i => match i.zero with
  | some z => Nat.beq i.size sz && Nat.beq i.bytes bytes && Nat.beq z.cells.size sz && Nat.blt 0 sz
  | none => false
 | none => false
theorem elemOk_spec {e sz bytes : Nat} (h : elemOk P e sz bytes = true) : ∃ i z, P.info? e = some i ∧ i.zero = some z ∧ i.size = sz ∧ i.bytes = bytes ∧ z.cells.size = sz ∧ 0 < sz := by
 unfold elemOk at h
 split at h
 ·rename_i i hi
  split at h
  ·rename_i z hz
   simp only [Bool.and_eq_true] at h
   exact ⟨i, z, hi, hz, Nat.eq_of_beq_eq_true h.1.1.1, Nat.eq_of_beq_eq_true h.1.1.2, Nat.eq_of_beq_eq_true h.1.2, by simpa using h.2⟩
  ·cases h
 ·cases h
theorem flat_drop {sz : Nat} : ∀ (xs : List MV) (k : Nat), (∀ x ∈ xs, x.cells.length = sz) → flat (xs.drop k) = (flat xs).drop (k * sz)
 | xs, 0, _ => by simp
 | [], k + 1, _ => by simp [flat]
 | x :: xs, k + 1, h => by
  rw [List.drop_succ_cons, flat_drop xs k (fun y hy => h y (zA2 _ hy)), zW5]
  have hx := h x (zH2 ..)
  rw [show (k + 1) * sz = x.cells.length + k * sz by rw [hx, Nat.add_mul]; omega, ← List.drop_drop, List.drop_left]
theorem flat_take {sz : Nat} : ∀ (xs : List MV) (k : Nat), (∀ x ∈ xs, x.cells.length = sz) → flat (xs.take k) = (flat xs).take (k * sz)
 | xs, 0, _ => by simp [flat]
 | [], k + 1, _ => by simp [flat]
 | x :: xs, k + 1, h => by
  have hx := h x (zH2 ..)
  have e1 : x.cells.take ((k + 1) * sz) = x.cells := List.take_of_length_le (by rw [hx, Nat.add_mul]; omega)
  have e2 : (k + 1) * sz - x.cells.length = k * sz := by rw [hx, Nat.add_mul]; omega
  rw [List.take_succ_cons, zW5, zW5, flat_take xs k (fun y hy => h y (zA2 _ hy)), List.take_append, e1, e2]
inductive OptInt (env : Env) (d : Nat) : Option Operand → Nat → Prop where
 | none : OptInt env d none d
 | some {x : Operand} {k : IntKind} {n : Int} {m : Nat} : evo env x = some (.int k n) → n = (m : Int) → OptInt env d (some x) m
theorem add_add (a : Addr) (i j : Nat) : (a.add i).add j = a.add (i + j) := by
 unfold Addr.add
 by_cases h1 : i = 0 <;> by_cases h2 : j = 0 <;> simp [h1, h2, Nat.add_assoc]
theorem rd_cut {g : Gh} {w : World} {tok : Option Nat} {sz : Nat} {xs : List MV} {v : Value} (h : Rd g w (.lst tok sz xs) v) {l h' : Nat} (hl : l ≤ h') (hh : h' ≤ xs.length) :
  ∃ a c, v = .slice a xs.length c ∧ xs.length ≤ c ∧ Rd g w (.lst none sz ((xs.drop l).take (h' - l))) (.slice (if c = l then a else a.map (·.add (l * sz))) (h' - l) (c - l)) := by
 obtain ⟨a, c, us, rfl, h1, h2, h3, h4, h5, h6⟩ := h.inv_lst
 refine ⟨a, c, rfl, h1, ?_⟩
 have hmem : ∀ x ∈ (xs.drop l).take (h' - l), x.cells.length = sz := fun x hx => h3 x (List.mem_of_mem_drop (List.mem_of_mem_take hx))
 have hflat : flat ((xs.drop l).take (h' - l)) = ((flat xs).drop (l * sz)).take ((h' - l) * sz) := by
  rw [flat_take _ _ (fun x hx => h3 x (List.mem_of_mem_drop hx)), flat_drop _ _ h3]
 refine .lst' (by simp; omega) (by omega) (by omega) hmem (us := (us.drop (l * sz)).take ((h' - l) * sz)) ?_ (fun j u hu => ?_) (fun t ht => by cases ht)
 ·rw [hflat]
  exact (h4.drop _).take _
 ·rw [List.getElem?_take] at hu
  split at hu
  ·rename_i hj
   rw [List.getElem?_drop] at hu
   obtain ⟨ad, ha, hs⟩ := h5 _ _ hu
   subst ha
   have hcl : c ≠ l := fun e => by
    have : h' - l = 0 := by omega
    rw [this] at hj
    omega
   refine ⟨ad.add (l * sz), by rw [if_neg hcl]; rfl, ?_⟩
   unfold Stab at hs ⊢
   rw [add_add]
   exact hs
  ·cases hu
theorem op_slice {t e : TypeId} {x : Operand} {lo hi : Option Operand} {tok : Option Nat} {sz l h' : Nat} {xs : List MV} (ho : o.op = .slice t x lo hi none) (hu : P.underlying t = some (.slice e)) (hs : szOf P e = some sz) (hx : evo env x = some (.lst tok sz xs))
  (hlo : OptInt env 0 lo l) (hhi : OptInt env xs.length hi h') (hl : l ≤ h') (hh : h' ≤ xs.length) (h : K (.lst none sz ((xs.drop l).take (h' - l))) σ) : OpWp P rd o env σ K := by
 refine OpWp.of_run (by simp [ho]) fun g w a hr hop => ?_
 obtain ⟨ad, c, hv, hc, hrd⟩ := rd_cut (hop x (by simp [ho, Op.operands]) _ hx) hl hh
 refine ⟨_, w, ?_, .same h hr hrd⟩
 have e1 : ∀ (x' : Operand) (k : IntKind) (n : Int), lo = some x' → evo env x' = some (.int k n) → a.eval x' = .int k n := fun x' k n e he => (hop x' (by simp [ho, Op.operands, e]) _ he).inv_int
 have e2 : ∀ (x' : Operand) (k : IntKind) (n : Int), hi = some x' → evo env x' = some (.int k n) → a.eval x' = .int k n := fun x' k n e he => (hop x' (by simp [ho, Op.operands, e]) _ he).inv_int
 have hhc : h' ≤ c := by omega
 cases hlo with
 | none =>
  cases hhi with
  | none => simp [execOp, ho, Instr.sliceAt, Instr.slice, run_underlying hu, hv, Instr.sliceBounds, zO5 hs]
  | some he en =>
   subst en
   simp [execOp, ho, Instr.sliceAt, Instr.slice, run_underlying hu, hv, Instr.sliceBounds, Instr.sliceBound, asIntOf, e2 _ _ _ rfl he, hhc, zO5 hs]
 | some he en =>
  subst en
  cases hhi with
  | none => simp [execOp, ho, Instr.sliceAt, Instr.slice, run_underlying hu, hv, Instr.sliceBounds, Instr.sliceBound, asIntOf, e1 _ _ _ rfl he, hl, zO5 hs]
  | some he' en' =>
   subst en'
   simp [execOp, ho, Instr.sliceAt, Instr.slice, run_underlying hu, hv, Instr.sliceBounds, Instr.sliceBound, asIntOf, e1 _ _ _ rfl he, e2 _ _ _ rfl he', hhc, hl, zO5 hs]
theorem _root_.zL2 : type_of% @op_slice := @op_slice
def partsOf (env : Env) : Nat → List (Nat × Operand) → Option (List MV)
 | _, [] => some []
 | k, (i, x) :: ps => match Nat.beq i k with
  | true => match evo env x with
   | some m => match partsOf env (k + 1) ps with
    | some ms => some (m :: ms)
    | none => none
   | none => none
  | false => none
theorem fold_set (off : Nat) : ∀ (cs : List Value) (k : Nat) (acc : Array Value), off + k + cs.length ≤ acc.size →
  ((cs.zipIdx k).foldl (fun a (p : Value × Nat) => a.setIfInBounds (off + p.2) p.1) acc).toList = acc.toList.take (off + k) ++ cs ++ acc.toList.drop (off + k + cs.length)
 | [], k, acc, _ => by simp
 | c :: cs, k, acc, h => by
  rw [List.zipIdx_cons, List.foldl_cons, fold_set off cs (k + 1) _ (by simp at h ⊢; omega)]
  simp only [Array.toList_setIfInBounds]
  have hk : off + k < acc.toList.length := by simp at h ⊢; omega
  have e1 : (acc.toList.set (off + k) c).take (off + (k + 1)) = acc.toList.take (off + k) ++ [c] := by
   rw [show off + (k + 1) = off + k + 1 by omega, List.take_succ_eq_append_getElem (by simpa using hk), List.take_set_of_le (by omega)]
   simp
  have e2 : (acc.toList.set (off + k) c).drop (off + (k + 1) + cs.length) = acc.toList.drop (off + k + (c :: cs).length) := by
   rw [List.drop_set_of_lt (by omega), zF0]
   congr 1
   omega
  rw [e1, e2]
  simp
theorem fill_all {sz : Nat} : ∀ (vs : List Value) (k : Nat) (acc : Array Value), (∀ v ∈ vs, v.cells.size = sz) → k * sz + vs.length * sz ≤ acc.size →
  ∃ res, Instr.fill (fun i => some (i * sz, sz)) acc (vs.zipIdx k |>.map fun p => (p.2, p.1)) = some res ∧ res.toList = acc.toList.take (k * sz) ++ vs.flatMap (fun v => v.cells.toList) ++ acc.toList.drop (k * sz + vs.length * sz)
 | [], k, acc, _, _ => ⟨acc, rfl, by simp⟩
 | v :: vs, k, acc, h, hl => by
  have hv := h v (zH2 ..)
  rw [zF0, Nat.add_mul, Nat.one_mul] at hl
  have hstep : ((v.cells.zipIdx).foldl (fun cs (c, j) => cs.setIfInBounds (k * sz + j) c) acc).toList = acc.toList.take (k * sz) ++ v.cells.toList ++ acc.toList.drop (k * sz + sz) := by
   rw [← Array.foldl_toList, Array.toList_zipIdx]
   have := fold_set (k * sz) v.cells.toList 0 acc (by simp [hv]; omega)
   simp only [Nat.add_zero, Array.length_toList, hv] at this
   exact this
  have hsize : ((v.cells.zipIdx).foldl (fun cs (c, j) => cs.setIfInBounds (k * sz + j) c) acc).size = acc.size := by
   rw [← Array.length_toList, hstep]
   simp [hv]
   omega
  obtain ⟨res, h1, h2⟩ := fill_all vs (k + 1) _ (fun u hu => h u (zA2 _ hu)) (by rw [hsize, Nat.add_mul]; omega)
  refine ⟨res, ?_, ?_⟩
  ·rw [List.zipIdx_cons, List.map_cons]
   simp only [Instr.fill]
   rw [if_neg (by simp [hv]; omega)]
   exact h1
  ·rw [h2, hstep]
   have e1 : (acc.toList.take (k * sz) ++ v.cells.toList ++ acc.toList.drop (k * sz + sz)).take ((k + 1) * sz) = acc.toList.take (k * sz) ++ v.cells.toList := by
    rw [List.take_append_of_le_length (by simp [hv, Nat.add_mul]; omega), List.take_of_length_le (by simp [hv, Nat.add_mul]; omega)]
   have e2 : (acc.toList.take (k * sz) ++ v.cells.toList ++ acc.toList.drop (k * sz + sz)).drop ((k + 1) * sz + vs.length * sz) = acc.toList.drop (k * sz + (v :: vs).length * sz) := by
    have hlen : (acc.toList.take (k * sz) ++ v.cells.toList).length = (k + 1) * sz := by simp [hv, Nat.add_mul]; omega
    rw [List.drop_append, hlen, List.drop_eq_nil_of_le (by rw [hlen]; omega), List.nil_append, List.drop_drop]
    congr 1
    rw [zF0, Nat.add_mul, Nat.add_mul]
    omega
   rw [e1, e2, List.flatMap_cons]
   simp
theorem partsOf_some {a : Act} : ∀ {k : Nat} {ps : List (Nat × Operand)} {ms : List MV}, partsOf env k ps = some ms →
  (∀ {g : Gh} {w : World}, (∀ p ∈ ps, ∀ m, evo env p.2 = some m → Rd g w m (a.eval p.2)) → Rds g w ms (ps.map fun p => a.eval p.2)) ∧ ps.map (fun p => (p.1, a.eval p.2)) = ((ps.map fun p => a.eval p.2).zipIdx k).map fun p => (p.2, p.1)
 | k, [], ms, h => by injection h with h; subst h; exact ⟨fun _ => .nil _ _, rfl⟩
 | k, (i, x) :: ps, ms, h => by
  simp only [partsOf] at h
  split at h
  ·rename_i hb
   split at h
   ·rename_i m hm
    split at h
    ·rename_i ms' hms
     injection h with h
     subst h
     obtain ⟨h1, h2⟩ := partsOf_some (a := a) hms
     have hik := Nat.eq_of_beq_eq_true hb
     subst hik
     refine ⟨fun ho => .cons (ho _ (zH2 ..) m hm) (h1 fun p hp => ho p (zA2 _ hp)), ?_⟩
     simp only [List.map_cons, List.zipIdx_cons, h2]
    ·cases h
   ·cases h
  ·cases h
theorem flat_rds {g : Gh} {w : World} : ∀ {ms : List MV} {us : List Value}, Rds g w ms us → Rds g w (flat ms) (us.flatMap fun v => v.cells.toList)
 | [], us, h => by
  have : us = [] := List.eq_nil_of_length_eq_zero h.1
  subst this
  exact .nil _ _
 | m :: ms, us, h => by
  obtain ⟨u, us', rfl, h1, h2⟩ := h.uncons
  obtain ⟨cs, hc, hr⟩ := zW6 h1
  rw [zW5, List.flatMap_cons, hc]
  exact hr.append (flat_rds h2)
def allOne (xs : List MV) : Bool := xs.all fun x => x.cells.all MV.one
theorem allOne_flat {xs : List MV} (h : allOne xs = true) : ∀ y ∈ flat xs, y.one = true := by
 intro y hy
 simp only [flat, List.mem_flatMap] at hy
 obtain ⟨x, hx, hy⟩ := hy
 simp only [allOne, List.all_eq_true] at h
 exact h x hx y hy
theorem rds_one {g : Gh} {w : World} {xs : List MV} {us : List Value} (h : Rds g w xs us) (h1 : ∀ y ∈ xs, y.one = true) : ∀ u ∈ us, u.oneCell' = true := by
 intro u hu
 obtain ⟨j, hj⟩ := List.getElem?_of_mem hu
 have hlt : j < xs.length := by rw [← h.1]; exact (zD.1 hj).1
 exact one_cell (h.2 j _ u (zC hlt) hj) (h1 _ (List.getElem_mem hlt))
theorem gets_stable {g : Gh} {w : World} (hr : Rel g σ w) {ms : List MV} {us : List Value} {sz n : Nat} (ty : TypeId) (hsz : ∀ x ∈ ms, x.cells.length = sz) (hus : Rds g w (flat ms) us) (h1 : ∀ u ∈ us, u.oneCell' = true) (hn : ms.length = n) (hm : n ≤ maxLen) (h : K (.lst none sz ms) σ) :
  Gets g w K (.slice (some ⟨w.heap.size, 0, none⟩) n n) (w.alloc (.cells us.toArray ty)) := by
 have hl := Le.alloc_stab hr (.cells us.toArray ty) us.length
 refine ⟨_, σ, g.stab w.heap.size us.length, h, hr.alloc_stab _ _, .lst' hn (Nat.le_refl _) hm hsz (hus.mono hl) (fun j u hu => ⟨_, rfl, stab_new g w us ty hu (h1 u (zW hu))⟩) (fun t ht => by cases ht), hl⟩
def allSz (sz : Nat) (ms : List MV) : Bool := ms.all fun x => Nat.beq x.cells.length sz
theorem allSz_spec {sz : Nat} {ms : List MV} (h : allSz sz ms = true) : ∀ x ∈ ms, x.cells.length = sz := fun x hx => by
 simp only [allSz, List.all_eq_true] at h
 exact Nat.eq_of_beq_eq_true (h x hx)
inductive SubE : List MV → List MV → Prop where
 | nil : SubE [] []
 | agg {l l' xs ys : List MV} : Subs l l' → SubE xs ys → SubE (.agg l :: xs) (.agg l' :: ys)
 | same {x : MV} {xs ys : List MV} : SubE xs ys → SubE (x :: xs) (x :: ys)
theorem Subs.append {a b c d : List MV} (h : Subs a b) (k : Subs c d) : Subs (a ++ c) (b ++ d) := by
 induction h with
 | nil => exact k
 | cons h1 _ ih => exact .cons h1 ih
theorem SubE.flat_ {xs ys : List MV} (h : SubE xs ys) : Subs (flat xs) (flat ys) ∧ ys.length = xs.length := by
 induction h with
 | nil => exact ⟨.nil, rfl⟩
 | agg h1 _ ih => exact ⟨h1.append ih.1, by simp [ih.2]⟩
 | same _ ih => exact ⟨(Subs.refl _).append ih.1, by simp [ih.2]⟩
theorem Sub.lstE {tok : Option Nat} {sz : Nat} {xs ys : List MV} (h : SubE xs ys) (hc : allSz sz ys = true) : Sub (.lst tok sz xs) (.lst tok sz ys) := Sub.lstOf h.flat_.1 h.flat_.2 (allSz_spec hc)
theorem op_buildSlice {t e n sz bytes : Nat} {parts : Array (Nat × Operand)} {ms : List MV} (ho : o.op = .buildSlice t n parts) (hu : P.underlying t = some (.slice e)) (he : elemOk P e sz bytes = true) (hp : partsOf env 0 parts.toList = some ms) (hn : ms.length = n) (hn0 : 0 < n) (hsm : n * sz ≤ 16777216)
  (hsz : allSz sz ms = true) (h1 : allOne ms = true) (h : K (.lst none sz ms) σ) : OpWp P rd o env σ K := by
 replace hsz := allSz_spec hsz
 refine OpWp.of_run (by simp [ho]) fun g w a hr hop => ?_
 obtain ⟨i, z, hi, hz, hs, hb, hzs, hpos⟩ := elemOk_spec he
 obtain ⟨k1, k2⟩ := partsOf_some (a := a) hp
 have hrds : Rds g w ms (parts.toList.map fun p => a.eval p.2) := k1 fun p hpm m hm => hop p.2 (by simp only [ho, Op.operands, List.mem_toArray, List.mem_map]; simp; exact ⟨p.1, by simpa using hpm⟩) m hm
 have hcs : ∀ v ∈ (parts.toList.map fun p => a.eval p.2), v.cells.size = sz := by
  intro v hv
  obtain ⟨j, hj⟩ := List.getElem?_of_mem hv
  have hlt : j < ms.length := by rw [← hrds.1]; exact (zD.1 hj).1
  obtain ⟨cs, hc, hr⟩ := zW6 (hrds.2 j _ v (zC hlt) hj)
  rw [hc]
  simp only [List.size_toArray, hr.1]
  exact hsz _ (List.getElem_mem hlt)
 have hlen : (parts.toList.map fun p => a.eval p.2).length = n := by rw [hrds.1, hn]
 obtain ⟨res, f1, f2⟩ := fill_all (sz := sz) (parts.toList.map fun p => a.eval p.2) 0 ((Array.range (n * sz)).map (z.cells[· % z.cells.size]!)) hcs (by rw [hlen]; simp)
 rw [hlen] at f2
 simp only [Nat.zero_mul, List.take_zero, List.nil_append, Nat.zero_add] at f2
 have f3 : ((Array.range (n * sz)).map (z.cells[· % z.cells.size]!)).toList.drop (n * sz) = [] := List.drop_eq_nil_of_le (by simp)
 rw [f3, List.append_nil] at f2
 have hres : res = ((parts.toList.map fun p => a.eval p.2).flatMap fun v => v.cells.toList).toArray := by
  rw [← f2]
 have hflat := flat_rds hrds
 have hnz : 0 < n * sz := Nat.mul_pos hn0 hpos
 refine ⟨_, _, ?_, gets_stable hr e hsz hflat (rds_one hflat (allOne_flat h1)) hn (by
  have : n * 1 ≤ n * sz := Nat.mul_le_mul_left n hpos
  simp only [maxLen]; omega) h⟩
 have hrun := run_buildSlice (P := P) w t e n (parts.map fun (i, x) => (i, a.eval x)) res i z hu hi hz (by rw [hs]; omega) (by rw [hs]; omega) (by
  rw [hs, ← f1]
  congr 1
  rw [← k2]
  simp)
 simp only [execOp, ho, Sem.run_bind, hrun, Result.andThen_ok, Sem.run_pure, hres]
theorem _root_.zJ1 : type_of% @op_buildSlice := @op_buildSlice
inductive BuildIs (P : Program) (env : Env) (t : TypeId) : List (Nat × Operand) → List MV → List MV → Prop where
 | nil {z : List MV} : BuildIs P env t [] z z
 | cons {i off k : Nat} {ft : TypeId} {x : Operand} {m : MV} {ps : List (Nat × Operand)} {z l : List MV} : fieldOff P t i = some (off, ft) → szOf P ft = some k → evo env x = some m → m.cells.length = k → off + k ≤ z.length → BuildIs P env t ps (setMany z off m.cells) l → BuildIs P env t ((i, x) :: ps) z l
theorem fill_build {t : TypeId} {g : Gh} {w : World} {a : Act} {place : Nat → Option (Nat × Nat)} (hpl : ∀ i off ft k, fieldOff P t i = some (off, ft) → szOf P ft = some k → place i = some (off, k)) {ps : List (Nat × Operand)} {z l : List MV} (h : BuildIs P env t ps z l) :
  (∀ p ∈ ps, ∀ m, evo env p.2 = some m → Rd g w m (a.eval p.2)) → ∀ (acc : Array Value), Rds g w z acc.toList → ∃ res, Instr.fill place acc (ps.map fun p => (p.1, a.eval p.2)) = some res ∧ Rds g w l res.toList := by
 induction h with
 | nil => exact fun _ acc hz => ⟨acc, rfl, hz⟩
 | cons h1 h2 h3 h4 h5 _ ih =>
  rename_i i off k ft x m ps z l _
  intro ho acc hz
  obtain ⟨us, hus, hr⟩ := zW6 (ho _ (zH2 ..) m h3)
  have hsz : (a.eval x).cells.size = k := by rw [hus, List.size_toArray, hr.1, h4]
  have hacc : acc.size = z.length := by rw [← Array.length_toList, hz.1]
  have hstep : (((a.eval x).cells.zipIdx).foldl (fun cs (c, j) => cs.setIfInBounds (off + j) c) acc).toList = acc.toList.take off ++ us ++ acc.toList.drop (off + us.length) := by
   rw [← Array.foldl_toList, Array.toList_zipIdx, hus]
   have := fold_set off us 0 acc (by rw [Nat.add_zero, hacc, hr.1, h4]; exact h5)
   simp only [Nat.add_zero] at this
   exact this
  obtain ⟨res, f1, f2⟩ := ih (fun p hp => ho p (zA2 _ hp)) _ (by
   rw [hstep, setMany, ← hr.1]
   exact ((hz.take off).append hr).append (hz.drop _))
  refine ⟨res, ?_, f2⟩
  rw [List.map_cons]
  simp only [Instr.fill, hpl _ _ _ _ h1 h2]
  rw [if_neg (by simp [hsz, hacc]; omega)]
  exact f1
theorem op_build {t : TypeId} {fs : Array Field} {parts : Array (Nat × Operand)} {z l : List MV} (ho : o.op = .build t parts) (hu : P.underlying t = some (.struct fs)) (hz : zeroMV P t = some z) (hb : BuildIs P env t parts.toList z l) (hall : fs.toList.all (fun f => (szOf P f.type).isSome) = true) (h : K (.agg l) σ) : OpWp P rd o env σ K := by
 refine OpWp.of_run (by simp [ho]) fun g w a hr hop => ?_
 obtain ⟨zv, hzr, hzd⟩ := zeroMV_some hz
 have hpl : ∀ i off ft k, fieldOff P t i = some (off, ft) → szOf P ft = some k → ((fs.map fun f => (f.offset, (szOf P f.type).getD 0))[i]?) = some (off, k) := by
  intro i off ft k h1 h2
  obtain ⟨fs', fd, ti, e1, e2, e3, e4, _⟩ := fieldOff_some h1
  rw [hu] at e1
  injection e1 with e1
  injection e1 with e1
  subst e1
  rw [Array.getElem?_map, e2]
  simp [e3, e4, h2]
 obtain ⟨res, f1, f2⟩ := fill_build (a := a) hpl hb (fun p hp m hm => hop p.2 (by simp only [ho, Op.operands, List.mem_toArray, List.mem_map]; exact ⟨p, hp, rfl⟩) m hm) zv.cells (hzd g w)
 have hmap : (fs.mapM (m := Sem) fun f => do pure (f.offset, ← sizeOf f.type)).run P w = .ok (fs.map fun f => (f.offset, (szOf P f.type).getD 0)) w := by
  rw [Array.mapM_eq_mapM_toList, map_eq_pure_bind]
  have : ∀ l : List Field, l.all (fun f => (szOf P f.type).isSome) = true → (l.mapM (m := Sem) fun f => do pure (f.offset, ← sizeOf f.type)).run P w = .ok (l.map fun f => (f.offset, (szOf P f.type).getD 0)) w := by
   intro l
   induction l with
   | nil => exact fun _ => rfl
   | cons f l ih =>
    intro hl
    simp only [List.all_cons, Bool.and_eq_true, Option.isSome_iff_exists] at hl
    obtain ⟨⟨k, hk⟩, hl⟩ := hl
    rw [List.mapM_cons]
    simp only [Sem.run_bind, zO5 hk, Result.andThen_ok, Sem.run_pure, ih hl, List.map_cons, hk, Option.getD_some]
  simp only [Sem.run_bind, this _ hall, Result.andThen_ok, Function.comp, Sem.run_pure]
  congr 1
  apply Array.ext'
  simp
 have hparts : (parts.map fun (i, x) => (i, a.eval x)).toList = parts.toList.map fun p => (p.1, a.eval p.2) := by simp
 refine ⟨.agg res, w, ?_, .same h hr ?_⟩
 ·simp only [execOp, ho, Instr.build, Sem.run_bind, hzr, Result.andThen_ok, run_underlying hu, hmap, hparts, f1, Sem.run_pure]
 ·have : res = res.toList.toArray := by simp
  rw [this]
  exact .agg' f2
theorem _root_.zA1 : type_of% @op_build := @op_build
theorem op_max2 {ts : Array TypeId} {x y : Operand} {k : IntKind} {m n : Int} (ho : o.op = .call { callee := .builtin .max, args := #[x, y], argTypes := ts }) (hx : evo env x = some (.int k m)) (hy : evo env y = some (.int k n)) (h : K (.int k (if n > m then n else m)) σ) : OpWp P rd o env σ K := by
 refine OpWp.of_run (by simp [ho]) fun g w a hr hop => ?_
 have e1 := (hop x (by simp [ho, Op.operands, Call.operands]) _ hx).inv_int
 have e2 := (hop y (by simp [ho, Op.operands, Call.operands]) _ hy).inv_int
 refine ⟨.int k (if n > m then n else m), w, ?_, .same h hr (.int _ _)⟩
 simp [execOp, ho, resolve, invoke, builtin, Builtin.max_, Builtin.max2, e1, e2]
theorem op_min2 {ts : Array TypeId} {x y : Operand} {k : IntKind} {m n : Int} (ho : o.op = .call { callee := .builtin .min, args := #[x, y], argTypes := ts }) (hx : evo env x = some (.int k m)) (hy : evo env y = some (.int k n)) (h : K (.int k (if n < m then n else m)) σ) : OpWp P rd o env σ K := by
 refine OpWp.of_run (by simp [ho]) fun g w a hr hop => ?_
 have e1 := (hop x (by simp [ho, Op.operands, Call.operands]) _ hx).inv_int
 have e2 := (hop y (by simp [ho, Op.operands, Call.operands]) _ hy).inv_int
 refine ⟨.int k (if n < m then n else m), w, ?_, .same h hr (.int _ _)⟩
 simp [execOp, ho, resolve, invoke, builtin, Builtin.min_, Builtin.min2, e1, e2]
end
end
section
theorem tok_new {g : Gh} {σ : MS} {w : World} (h : Rel g σ w) (ty sz : Nat) : Rel (g.log σ.length 0 (.slice none 0 0)) (σ ++ [.row ty sz 0]) w ∧ Le g w (g.log σ.length 0 (.slice none 0 0)) w ∧ Rd (g.log σ.length 0 (.slice none 0 0)) w (.lst (some σ.length) sz []) (.slice none 0 0) := by
 have hl : Le g w (g.log σ.length 0 (.slice none 0 0)) w := by
  refine ⟨⟨rfl, rfl, fun _ _ h => ⟨h, rfl⟩, fun _ _ h => h, fun t n v hv => ?_, Nat.le_refl _⟩, fun _ _ h => h⟩
  simp only [Gh.log]
  rw [if_neg (fun e => by rw [h.lgn t n (by omega)] at hv; cases hv)]
  exact hv
 refine ⟨⟨h.below, h.base, h.fresh, fun id hid => h.bkn id (by simp at hid; omega), fun t n ht => ?_, ?_⟩, hl, .lst' (us := []) V (by simp) (by simp [maxLen]) (by simp) (.nil _ _) (by simp) (fun t ht => ?_)⟩
 ·simp at ht
  simp only [Gh.log]
  rw [if_neg (by omega)]
  exact h.lgn t n (by omega)
 ·obtain ⟨own, ho⟩ := h.ex
  refine ⟨fun id => if id = σ.length then none else own id, ⟨fun id o hid => ?_, fun i j b hi hj => ?_, fun id b hid => ?_⟩⟩
  ·by_cases e : id = σ.length
   ·subst e
    rw [List.getElem?_append_right (Nat.le_refl _)] at hid
    simp at hid
    subst hid
    simp only [if_true]
    refine ⟨.slice none 0 0, [], by simp [Gh.log], World.ownsRow_nil _ _ _ _, rfl, fun b hb => (by cases hb), fun k hk => ?_⟩
    simp only [Gh.log]
    rw [if_neg (by omega)]
    exact h.lgn _ _ (Nat.le_refl _)
   ·rw [if_neg e]
    have hlt : id < σ.length := by
     have := (zD.1 hid).1
     simp at this
     omega
    rw [List.getElem?_append_left hlt] at hid
    refine (ho.obj id o hid).keep0 hl.toLe0 (fun b _ => Vv) fun k => ?_
    simp only [Gh.log]
    rw [if_neg (by omega)]
  ·split at hi
   ·cases hi
   ·split at hj
    ·cases hj
    ·exact ho.inj i j b hi hj
  ·split at hid
   ·cases hid
   ·obtain ⟨h1, h2, h3⟩ := ho.lt id b hid
    exact ⟨by simp; omega, h2, h3⟩
 ·injection ht with ht
  subst ht
  simp [Gh.log]
section
variable {P : Program} {rd : Option Nat} {o : Oper} {env : Env} {σ : MS} {K : MV → MS → Prop}
theorem Rel.row_set {g g' : Gh} {σ : MS} {w w' : World} (h : Rel g σ w) {t ty sz n n' : Nat} (hσ : σ[t]? = some (.row ty sz n)) {own : Nat → Option Nat} (ho : Owns g σ w own) (hl : Le g w g' w') (hb : Below g.B g.w0 w') (hfr : ∀ b, w'.heap.size ≤ b → g'.st b = 0) (hbk : g'.bk = g.bk)
  (hlg : ∀ id k, id ≠ t → g'.lg id k = g.lg id k) (hst : ∀ id b, id ≠ t → own id = some b → w'.heap[b]? = w.heap[b]? ∧ g'.st b = g.st b) {ob : Option Nat} (hob : ObjRel g' w' ob t (.row ty sz n')) (hne : ∀ id b, id ≠ t → own id = some b → ob ≠ some b) (hblt : ∀ b, ob = some b → g.B ≤ b ∧ b < w'.heap.size) :
  Rel g' (σ.set t (.row ty sz n')) w' := by
 have htl : t < σ.length := (zD.1 hσ).1
 refine ⟨by rw [hl.B, hl.w0]; exact hb, by rw [hl.B, hl.w0]; exact h.base, hfr, fun id hid => by rw [hbk]; exact h.bkn id (by simpa using hid), fun s k hs => by rw [hlg s k (by simp at hs; omega)]; exact h.lgn s k (by simpa using hs), fun id => if id = t then ob else own id, ⟨fun id o hid => ?_, fun i j b hi hj => ?_, fun id b hid => ?_⟩⟩
 ·by_cases e : id = t
  ·subst e
   simp only [if_true]
   rw [List.getElem?_set_self htl] at hid
   injection hid with hid
   subst hid
   exact hob
  ·rw [if_neg e]
   rw [List.getElem?_set_ne (fun h => e h.symm)] at hid
   exact (ho.obj id o hid).keep0 hl.toLe0 (fun b hb => hst id b e hb) fun k => hlg id k e
 ·by_cases ei : i = t
  ·by_cases ej : j = t
   ·omega
   ·simp only [ei, if_true] at hi
    simp only [ej, if_false] at hj
    exact absurd hi (hne j b ej hj)
  ·by_cases ej : j = t
   ·simp only [ej, if_true] at hj
    simp only [ei, if_false] at hi
    exact absurd hj (hne i b ei hi)
   ·simp only [ei, ej, if_false] at hi hj
    exact ho.inj i j b hi hj
 ·by_cases e : id = t
  ·subst e
   simp only [if_true] at hid
   obtain ⟨h1, h2⟩ := hblt b hid
   exact ⟨by simpa using htl, by rw [hl.B]; exact h1, h2⟩
  ·simp only [e, if_false] at hid
   obtain ⟨h1, h2, h3⟩ := ho.lt id b hid
   exact ⟨by simpa using h1, by rw [hl.B]; exact h2, Nat.lt_of_lt_of_le h3 hl.size⟩
theorem set_self {σ : MS} {t : Nat} {o : MObj} (h : σ[t]? = some o) : σ.set t o = σ := by
 apply List.ext_getElem?
 intro i
 rw [List.getElem?_set]
 split
 ·rename_i e
  subst e
  rw [if_pos (zD.1 h).1, h]
 ·rfl
theorem gets_append {g : Gh} {w : World} (hr : Rel g σ w) {tt ty' e sz bytes t n : Nat} (hu : P.underlying tt = some (.slice e)) (he : elemOk P e sz bytes = true) (hσ : σ[t]? = some (.row e sz n)) {xs ys : List MV} {tok : Option Nat} {v vy : Value} (hx : Rd g w (.lst (some t) sz xs) v) (hn : xs.length = n)
  (hy : Rd g w (.lst tok sz ys) vy) (hbound : (n + ys.length) * bytes ≤ 140737488355328) (hml : n + ys.length ≤ 4611686018427387904) (hK : K (.lst (some t) sz (xs ++ ys)) (σ.set t (.row e sz (n + ys.length)))) :
  ∃ v' w', (Builtin.append_ #[tt, tt] ty' #[v, vy]).run P w = .ok v' w' ∧ Gets g w K v' w' := by
 obtain ⟨i, z, hi, hz, hs, hb, hzs, hpos⟩ := elemOk_spec he
 obtain ⟨a, c, us, hv, h1, h2, h3, h4, h5, h6⟩ := hx.inv_lst
 obtain ⟨a', c', us', hvy, k1, k2, k3, k4, k5, _⟩ := hy.inv_lst
 have hsmall : n + ys.length ≤ maxLen := by simp only [maxLen]; omega
 have hlen' : us'.length = ys.length * i.size := by rw [hs, k4.1, zA6 k3]
 have hlen : us.length = n * i.size := by rw [hs, h4.1, zA6 h3, hn]
 by_cases hm : ys = []
 ·subst hm
  simp only [List.append_nil, List.length_nil, Nat.add_zero] at hK
  rw [set_self hσ] at hK
  refine ⟨v, w, ?_, .same hK hr hx⟩
  subst hv hvy
  have e0 : ∀ ad : Addr, (loadCells ad 0).run P w = .ok #[] w := fun ad => rfl
  cases a with
  | none => cases a' <;> simp [Builtin.append_, run_underlying hu, sizeOf, typeInfo, hi, Builtin.lenOf, Builtin.firstCells, h1, e0]
  | some ad => cases a' <;> simp [Builtin.append_, run_underlying hu, sizeOf, typeInfo, hi, Builtin.lenOf, Builtin.firstCells, h1, e0, storeCells]
 have hmpos : 0 < ys.length := List.length_pos_iff.2 hm
 have hp' : 0 < us'.length := by rw [hlen', hs]; exact Nat.mul_pos hmpos hpos
 obtain ⟨ad', rfl, _⟩ := k5 0 us'[0] (zC hp')
 have hnews : ∀ (j : Nat) (u : Value), us'[j]? = some u → w.cell? (ad'.add j) = some u := fun j u hj => by
  obtain ⟨ad2, e2, hst⟩ := k5 j u hj
  injection e2 with e2
  subst e2
  exact hst.2.1
 have hone : ∀ u ∈ us', u.oneCell' = true := fun u hmem => by
  obtain ⟨j, hj⟩ := List.getElem?_of_mem hmem
  obtain ⟨_, _, hst⟩ := k5 j u hj
  exact hst.2.2
 have hone0 : ∀ u ∈ us, u.oneCell' = true := fun u hmem => by
  obtain ⟨j, hj⟩ := List.getElem?_of_mem hmem
  obtain ⟨_, _, hst⟩ := h5 j u hj
  exact hst.2.2
 have holds : ∀ (j : Nat) (u : Value), us[j]? = some u → ∃ ad, a = some ad ∧ w.cell? (ad.add j) = some u := fun j u hj => by
  obtain ⟨ad2, e2, hst⟩ := h5 j u hj
  exact ⟨ad2, e2, hst.2.1⟩
 obtain ⟨own, ho⟩ := hr.ex
 obtain ⟨v0, us0, f1, f2, f3, f4, f5⟩ := ho.obj t _ hσ
 have hvv : v0 = v := by
  have := h6 t rfl
  rw [hn, f1] at this
  injection this
 subst hvv
 have hall3 : ∀ x ∈ xs ++ ys, x.cells.length = sz := fun x hx => by
  rcases zV2.1 hx with h | h
  ·exact h3 x h
  ·exact k3 x h
 have hallone : ∀ u ∈ us ++ us', u.oneCell' = true := fun u hu => by
  rcases zV2.1 hu with h | h
  ·exact hone0 u h
  ·exact hone u h
 have hfl : flat (xs ++ ys) = flat xs ++ flat ys := flat_append xs ys
 have hlenx : (xs ++ ys).length = n + ys.length := by rw [zG, hn]
 have fresh_case : ∀ (cap : Nat) (rest : Array Value), n + ys.length ≤ cap → cap ≤ maxLen → rest.size = (cap - (n + ys.length)) * sz →
   Gets g w K (.slice (some ⟨w.heap.size, 0, none⟩) (n + ys.length) cap) (w.drew.alloc (.cells (us.toArray ++ us'.toArray ++ rest) e)) := by
  intro cap rest hcap hcm hrest
  have harr : us.toArray ++ us'.toArray ++ rest = (us ++ us' ++ rest.toList).toArray := by
   apply Array.ext'
   simp
  rw [harr]
  have hr1 := hr.drew
  have l1 := Le.drew g w
  have l2 := Le.alloc_stab hr1 (.cells (us ++ us' ++ rest.toList).toArray e) ((n + ys.length) * sz)
  have r2 := hr1.alloc_stab (.cells (us ++ us' ++ rest.toList).toArray e) ((n + ys.length) * sz)
  generalize hg1 : g.stab w.drew.heap.size ((n + ys.length) * sz) = g1 at l2 r2
  generalize hw1 : w.drew.alloc (.cells (us ++ us' ++ rest.toList).toArray e) = w1 at l2 r2
  have ho1 : Owns g1 σ w1 own := by
   refine ho.keep (l1.trans l2) (fun id b e => ?_) (fun _ _ => by rw [← hg1]; rfl)
   have hlt := (ho.lt id b e).2.2
   rw [← hg1, ← hw1]
   refine ⟨Below.heap_alloc w.drew _ b hlt, ?_⟩
   simp only [Gh.stab]
   exact if_neg (Nat.ne_of_lt hlt)
  have l3 : Le g1 w1 (g1.log t (n + ys.length) (.slice (some ⟨w.heap.size, 0, none⟩) (n + ys.length) cap)) w1 := by
   refine ⟨⟨rfl, rfl, fun _ _ h => ⟨h, rfl⟩, fun _ _ h => h, fun s k u hv => ?_, Nat.le_refl _⟩, fun _ _ h => h⟩
   simp only [Gh.log]
   rw [if_neg]
   ·exact hv
   ·rintro ⟨rfl, rfl⟩
    have : g1.lg s (n + ys.length) = g.lg s (n + ys.length) := by rw [← hg1]; rfl
    rw [this, f5 _ (by omega)] at hv
    cases hv
  have hheap : w1.heap[w.heap.size]? = some (.cells (us ++ us' ++ rest.toList).toArray e (0, 0)) := by rw [← hw1]; exact heap_new w.drew _
  have hsz : w1.heap.size = w.heap.size + 1 := by rw [← hw1]; simp
  have hcurlen : (us ++ us' ++ rest.toList).length = cap * sz := by
   simp only [zG, hlen, hlen', hs, Array.length_toList, hrest]
   rw [← Nat.add_mul, ← Nat.add_mul]
   congr 1
   omega
  have hlall : (us ++ us').length = (n + ys.length) * sz := by rw [zG, hlen, hlen', hs, Nat.add_mul]
  have lall := l1.trans (l2.trans l3)
  refine ⟨_, _, g1.log t (n + ys.length) (.slice (some ⟨w.heap.size, 0, none⟩) (n + ys.length) cap), hK, ?_, ?_, lall⟩
  ·refine Rel.row_set r2 hσ ho1 l3 r2.below r2.fresh V (fun id k hid => ?_) (fun id b hid hb => Vv) (ob := some w.heap.size) ?_ (fun id b hid hb e => ?_) (fun b hb => ?_)
   ·simp only [Gh.log]; rw [if_neg (fun h => hid h.1)]
   ·refine ⟨.slice (some ⟨w.heap.size, 0, none⟩) (n + ys.length) cap, us ++ us', by simp [Gh.log], ?_, rfl, fun b hb => ?_, fun k hk => ?_⟩
    ·refine ⟨hlall, .inr ⟨w.heap.size, cap, _, rfl, ?_, hheap, hcap, hcm, by simpa using hcurlen, ?_⟩⟩
     ·have : (g1.log t (n + ys.length) (.slice (some ⟨w.heap.size, 0, none⟩) (n + ys.length) cap)).B = g.B := lall.B
      rw [this]
      exact hr.size
     ·rw [← hlall]
      exact List.take_left
    ·injection hb with hb
     subst hb
     rw [← hg1]
     simp only [Gh.log, Gh.stab]
     exact if_pos rfl
    ·simp only [Gh.log]
     rw [if_neg (by omega), ← hg1]
     exact f5 k (by omega)
   ·have := (ho.lt id b hb).2.2
    injection e with e
    omega
   ·injection hb with hb
    subst hb
    refine ⟨?_, by omega⟩
    rw [← hg1]
    exact hr.size
  ·refine .lst' hlenx hcap hcm hall3 (us := us ++ us') ?_ (fun j u hj => ⟨⟨w.heap.size, 0, none⟩, rfl, ?_⟩) (fun s hs => ?_)
   ·rw [hfl]
    exact (h4.mono lall).append (k4.mono lall)
   ·have hjl : j < (us ++ us').length := (zD.1 hj).1
    refine ⟨?_, ?_, hallone u (zW hj)⟩
    ·rw [zB4]
     show 0 + j < (g1.log t _ _).st w.heap.size
     rw [← hg1]
     simp only [Gh.log, Gh.stab]
     have : (if w.heap.size = w.drew.heap.size then (n + ys.length) * sz else g.st w.heap.size) = (n + ys.length) * sz := if_pos rfl
     rw [this]
     omega
    ·rw [zB4]
     simp only [World.cell?, hheap]
     simp only [Nat.zero_add, Option.isSome_none, Bool.false_eq_true, if_false]
     rw [List.getElem?_toArray, List.getElem?_append_left hjl]
     exact hj
   ·injection hs with hs
    subst hs
    simp [Gh.log]
 rcases f2.2 with ⟨hv0, hn0⟩ | ⟨b, cap, cur, hv0, hbB, hheap, hnc, hcm, hcs, htake⟩
 ·
  rw [hv0] at hv
  injection hv with ea en ec
  subst hv0
  have hus : us = [] := List.eq_nil_of_length_eq_zero (by rw [hlen, hn0]; simp)
  have hrun := run_append_nil (P := P) w tt ty' e i z hu hi hz ad' ys.length c' us' hlen' hnews hmpos (by omega) (by rw [hb]; rw [hn0] at hbound; simp only [Nat.zero_add] at hbound; omega)
  have hfc := fresh_case (grownCap w ys.length 0 e) (Builtin.zeroCells z.cells (grownCap w ys.length 0 e - ys.length)) (by rw [hn0, Nat.zero_add]; exact grownCap_ge w _ _ _) (grownCap_le_maxLen w _ _ _ (by rw [hn0] at hsmall; omega)) (by rw [size_zeroCells, hzs, hn0]; simp)
  rw [hus, hn0] at hfc
  simp only [Nat.zero_add, Array.empty_append] at hfc
  refine ⟨_, _, by rw [hvy]; exact hrun, ?_⟩
  have e1 : #[] ++ us'.toArray = us'.toArray := Array.empty_append
  exact hfc
 ·have hvb : a = some ⟨b, 0, none⟩ ∧ c = cap := by
   rw [hv0] at hv
   injection hv with e1 e2 e3
   exact ⟨e1.symm, e3.symm⟩
  obtain ⟨rfl, rfl⟩ := hvb
  have holds' : ∀ (j : Nat) (u : Value), us[j]? = some u → w.cell? ((⟨b, 0, none⟩ : Addr).add j) = some u := fun j u hj => by
   obtain ⟨ad2, e2, h⟩ := holds j u hj
   injection e2 with e2
   subst e2
   exact h
  by_cases hroom : n + ys.length ≤ c
  ·
   have hfit : n * i.size + us'.length ≤ cur.size := by rw [hlen', hcs, hs, ← Nat.add_mul]; exact Nat.mul_le_mul_right _ hroom
   have hrun := run_append_room (P := P) w tt ty' e i hu hi b n c cur hheap ad' ys.length c' us' hlen' hnews hone hroom hfit
   generalize hnc' : (cur.toList.take (n * i.size) ++ us' ++ cur.toList.drop (n * i.size + us'.length)).toArray = ncur at hrun
   have hob : own t = some b := by rw [← f3, hv0]; rfl
   have hstb : g.st b = n * sz := f4 b hob
   have hbl := ho.lt t b hob
   have hus0 : us0 = us := by
    have e1 : us0 = cur.toList.take (n * sz) := htake.symm
    apply List.ext_getElem?
    intro j
    by_cases hj : j < n * sz
    ·have hjl : j < us.length := by rw [hlen, hs]; exact hj
     have hc := holds' j us[j] (zC hjl)
     rw [zB4] at hc
     simp only [World.cell?, hheap, Nat.zero_add, Option.isSome_none, Bool.false_eq_true, if_false] at hc
     rw [e1, List.getElem?_take, if_pos hj, zC hjl, ← hc]
     simp
    ·rw [List.getElem?_eq_none (by rw [f2.1]; omega), List.getElem?_eq_none (by rw [hlen, hs]; omega)]
   subst hus0
   have hheap' : (w.setRow b ncur).heap[b]? = some (.cells ncur e (0, 0)) := setRow_heap w b cur ncur e _ hheap
   have hother : ∀ k, k ≠ b → (w.setRow b ncur).heap[k]? = w.heap[k]? := fun k hk => setRow_other w b k ncur hk
   have hncur : ncur.toList = us0 ++ us' ++ cur.toList.drop ((n + ys.length) * sz) := by
    rw [← hnc', hs, htake, hlen', hs, ← Nat.add_mul]
   have hlall : (us0 ++ us').length = (n + ys.length) * sz := by rw [zG, hlen, hlen', hs, Nat.add_mul]
   have hcell : ∀ j, j < (n + ys.length) * sz → (w.setRow b ncur).cell? ⟨b, j, none⟩ = (us0 ++ us')[j]? := fun j hj => by
    simp only [World.cell?, hheap', Option.isSome_none, Bool.false_eq_true, if_false]
    rw [← Array.getElem?_toList, hncur, List.getElem?_append_left (by omega)]
   let g1 : Gh := (g.stab b ((n + ys.length) * sz)).log t (n + ys.length) (.slice (some ⟨b, 0, none⟩) (n + ys.length) c)
   have hlall2 : n * sz ≤ (n + ys.length) * sz := Nat.mul_le_mul_right _ (by omega)
   have hl : Le g w g1 (w.setRow b ncur) := by
    refine ⟨⟨rfl, rfl, fun k j hj => ?_, fun _ _ h => h, fun s k u hu => ?_, by simp⟩, fun k x hx => ?_⟩
    ·by_cases ek : k = b
     ·subst ek
      refine ⟨?_, ?_⟩
      ·show j < if k = k then (n + ys.length) * sz else g.st k
       rw [if_pos rfl]
       omega
      ·rw [hstb] at hj
       rw [hcell j (by omega), List.getElem?_append_left (by rw [hlen, hs]; exact hj)]
       have hjl : j < us0.length := by rw [hlen, hs]; exact hj
       have := holds' j us0[j] (zC hjl)
       rw [zB4, Nat.zero_add] at this
       rw [this, zC hjl]
     ·refine ⟨?_, World.cell?_of_block (w := w) (a := ⟨k, j, none⟩) (hother k ek)⟩
      show j < if k = b then (n + ys.length) * sz else g.st k
      rw [if_neg ek]
      exact hj
    ·show (if s = t ∧ k = n + ys.length then _ else g.lg s k) = _
     rw [if_neg]
     ·exact hu
     ·rintro ⟨rfl, rfl⟩
      rw [f5 _ (by omega)] at hu
      cases hu
    ·have : k ≠ b := fun e => by subst e; rw [hheap] at hx; cases hx
     exact (hother k this).trans hx
   refine ⟨_, _, by rw [hv0, hvy]; exact hrun, _, _, g1, hK, ?_, ?_, hl⟩
   ·refine Rel.row_set hr hσ ho hl (hr.below.trans ⟨rfl, rfl, rfl, by simp, fun k hk => hother k (by omega)⟩) (fun k hk => ?_) V (fun id k hid => ?_) (fun id k hid hk => ?_) (ob := some b) ?_ (fun id k hid hk e => ?_) (fun k hk => ?_)
    ·simp only [setRow_size] at hk
     show (if k = b then _ else g.st k) = 0
     rw [if_neg (by omega)]
     exact hr.fresh k hk
    ·show (if id = t ∧ k = n + ys.length then _ else g.lg id k) = _
     rw [if_neg (fun h => hid h.1)]
    ·have hkb : k ≠ b := fun e => by subst e; exact hid (ho.inj _ _ _ hk hob)
     refine ⟨hother k hkb, ?_⟩
     show (if k = b then _ else g.st k) = _
     rw [if_neg hkb]
    ·refine ⟨.slice (some ⟨b, 0, none⟩) (n + ys.length) c, us0 ++ us', ?_, ⟨hlall, .inr ⟨b, c, ncur, rfl, hbB, hheap', hroom, hcm, ?_, ?_⟩⟩, rfl, fun k hk => ?_, fun k hk => ?_⟩
     ·show (if t = t ∧ n + ys.length = n + ys.length then _ else _) = _
      rw [if_pos ⟨rfl, rfl⟩]
     ·have hcl : cur.toList.length = c * sz := by rw [Array.length_toList, hcs]
      have : (n + ys.length) * sz ≤ c * sz := Nat.mul_le_mul_right _ hroom
      rw [← Array.length_toList, hncur, zG, hlall, List.length_drop, hcl]
      omega
     ·rw [hncur, ← hlall, zN, ← zN us0 us']
      exact List.take_left
     ·injection hk with hk
      subst hk
      show (if b = b then _ else _) = _
      rw [if_pos rfl]
     ·show (if t = t ∧ k = n + ys.length then _ else g.lg t k) = none
      rw [if_neg (by omega)]
      exact f5 k (by omega)
    ·injection e with e
     subst e
     exact hid (ho.inj _ _ _ hk hob)
    ·injection hk with hk
     subst hk
     exact ⟨hbl.2.1, by simpa using hbl.2.2⟩
   ·refine .lst' hlenx hroom hcm hall3 (us := us0 ++ us') ?_ (fun j u hj => ⟨⟨b, 0, none⟩, rfl, ?_⟩) (fun s hs => ?_)
    ·rw [hfl]
     exact (h4.mono hl).append (k4.mono hl)
    ·have hjl : j < (us0 ++ us').length := (zD.1 hj).1
     refine ⟨?_, ?_, hallone u (zW hj)⟩
     ·rw [zB4]
      show 0 + j < if b = b then (n + ys.length) * sz else g.st b
      rw [if_pos rfl]
      omega
     ·rw [zB4, Nat.zero_add, hcell j (by omega)]
      exact hj
    ·injection hs with hs
     subst hs
     show (if t = t ∧ n + ys.length = n + ys.length then _ else _) = _
     rw [if_pos ⟨rfl, rfl⟩]
  ·
   have hrun := run_append_grow (P := P) w tt ty' e i z hu hi hz ⟨b, 0, none⟩ n c us hlen holds' ad' ys.length c' us' hlen' hnews (by omega) (by omega) (growslice_fits (by omega) (by rw [hb]; exact hbound))
   refine ⟨_, _, by rw [hv0, hvy]; exact hrun, fresh_case _ _ (grownCap_ge w _ _ _) (grownCap_le_maxLen w _ _ _ hsmall) (by rw [size_zeroCells, hzs])⟩
theorem op_append {t e sz bytes id n : Nat} {x y : Operand} {tok : Option Nat} {xs ys : List MV} (ho : o.op = .call { callee := .builtin .append, args := #[x, y], argTypes := #[t, t] }) (hu : P.underlying t = some (.slice e)) (he : elemOk P e sz bytes = true)
  (hx : evo env x = some (.lst (some id) sz xs)) (hy : evo env y = some (.lst tok sz ys)) (hσ : σ[id]? = some (.row e sz n)) (hn : xs.length = n) (hb : (n + ys.length) * bytes ≤ 140737488355328) (hml : n + ys.length ≤ 4611686018427387904)
  (hK : K (.lst (some id) sz (xs ++ ys)) (σ.set id (.row e sz (n + ys.length)))) : OpWp P rd o env σ K := by
 refine OpWp.of_run (by simp [ho]) fun g w a hr hop => ?_
 obtain ⟨v', w', hrun, hg⟩ := gets_append (ty' := o.type) hr hu he hσ (hop x (by simp [ho, Op.operands, Call.operands]) _ hx) hn (hop y (by simp [ho, Op.operands, Call.operands]) _ hy) hb hml hK
 refine ⟨v', w', ?_, hg⟩
 simp [execOp, ho, resolve, invoke, builtin, hrun]
theorem op_append' {S L L' : MS} {t e sz bytes k n : Nat} {x y : Operand} {tok : Option Nat} {xs ys : List MV} (ho : o.op = .call { callee := .builtin .append, args := #[x, y], argTypes := #[t, t] }) (hu : P.underlying t = some (.slice e)) (he : elemOk P e sz bytes = true)
  (hx : evo env x = some (.lst (some (S.length + k)) sz xs)) (hy : evo env y = some (.lst tok sz ys)) (hσ : L[k]? = some (.row e sz n)) (hn : xs.length = n) (hb : (n + ys.length) * bytes ≤ 140737488355328) (hml : n + ys.length ≤ 4611686018427387904)
  (hL : L.set k (.row e sz (n + ys.length)) = L') (hK : K (.lst (some (S.length + k)) sz (xs ++ ys)) (S ++ L')) : OpWp P rd o env (S ++ L) K :=
 op_append ho hu he hx hy (by rw [getElem?_own]; exact hσ) hn hb hml (by rw [zP5, hL]; exact hK)
theorem _root_.zN3 : type_of% @op_append' := @op_append'
end
end
end Go.MV
