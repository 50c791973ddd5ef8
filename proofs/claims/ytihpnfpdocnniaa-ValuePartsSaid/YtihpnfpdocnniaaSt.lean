/-
  How a state follows the world: a draw, a new block (an owned object, a stable block), a store, an append; the body of a function. No program.
-/
import Derived.Test.YtihpnfpdocnniaaReg
set_option linter.unusedVariables false
set_option linter.unusedSimpArgs false
namespace Go.MV
open Go Go.RowKit

theorem ownsRow_congr {w w' : World} {B : Nat} {e : TypeId} {sz n : Nat} {v : Value} {us : List Value} (h : w.ownsRow B e sz v n us) (hk : ∀ b, v.ownBlock = some b → w'.heap[b]? = w.heap[b]?) : w'.ownsRow B e sz v n us := by
  refine ⟨h.1, ?_⟩
  rcases h.2 with h0 | ⟨b, cap, cur, hv, hb, hh, rest⟩
  · exact .inl h0
  · exact .inr ⟨b, cap, cur, hv, hb, (hk b (by rw [hv]; rfl)).trans hh, rest⟩

theorem ObjRel.keep0 {g g' : Gh} {w w' : World} (hl : Le0 g w g' w') {ob : Option Nat} {id : Nat} {o : MObj} (hb : ∀ b, ob = some b → w'.heap[b]? = w.heap[b]? ∧ g'.st b = g.st b) (hlg : ∀ k, g'.lg id k = g.lg id k) (h : ObjRel g w ob id o) : ObjRel g' w' ob id o := by
  cases o with
  | cells l =>
    obtain ⟨b, us, ty, h1, h2, h3, h4, h5⟩ := h
    exact ⟨b, us, ty, h1, hl.bk _ _ h2, (hb b h1).2.trans h3, (hb b h1).1.trans h4, h5.mono0 hl⟩
  | row ty sz n =>
    obtain ⟨v, us, h1, h2, h3, h4, h5⟩ := h
    exact ⟨v, us, hl.lg _ _ _ h1, by rw [hl.B]; exact ownsRow_congr h2 (fun b hv => (hb b (h3 ▸ hv)).1), h3, fun b hob => (hb b hob).2.trans (h4 b hob), fun k hk => (hlg k).trans (h5 k hk)⟩
  | loop s p ls =>
    obtain ⟨b, l, h1, h2, h3, h4, h5, h6, h7, h8, h9, h10⟩ := h
    exact ⟨b, l, h1, hl.bk _ _ h2, (hb b h1).1.trans h3, h4, h5, h6, h7, h8, h9, h10.mono0 hl⟩
  | gone => exact h

theorem Owns.keep0 {g g' : Gh} {w w' : World} {σ : MS} {own : Nat → Option Nat} (hl : Le0 g w g' w') (hb : ∀ id b, own id = some b → w'.heap[b]? = w.heap[b]? ∧ g'.st b = g.st b) (hlg : ∀ id k, g'.lg id k = g.lg id k) (h : Owns g σ w own) : Owns g' σ w' own :=
  ⟨fun id o ho => (h.obj id o ho).keep0 hl (fun b e => hb id b e) (hlg id), h.inj, fun id b e => ⟨(h.lt id b e).1, by rw [hl.B]; exact (h.lt id b e).2.1, Nat.lt_of_lt_of_le (h.lt id b e).2.2 hl.size⟩⟩

theorem Owns.keep {g g' : Gh} {w w' : World} {σ : MS} {own : Nat → Option Nat} (hl : Le g w g' w') (hb : ∀ id b, own id = some b → w'.heap[b]? = w.heap[b]? ∧ g'.st b = g.st b) (hlg : ∀ id k, g'.lg id k = g.lg id k) (h : Owns g σ w own) : Owns g' σ w' own := h.keep0 hl.toLe0 hb hlg

theorem Le.drew (g : Gh) (w : World) : Le g w g w.drew := ⟨⟨rfl, rfl, fun _ _ h => ⟨h, rfl⟩, fun _ _ h => h, fun _ _ _ h => h, Nat.le_refl _⟩, fun _ _ h => h⟩
theorem Rel.drew {g : Gh} {σ : MS} {w : World} (h : Rel g σ w) : Rel g σ w.drew :=
  ⟨h.below.drew, h.base, h.fresh, h.bkn, h.lgn, h.ex.imp fun own ho => ho.keep (Le.drew g w) (fun _ _ _ => ⟨rfl, rfl⟩) (fun _ _ => rfl)⟩

theorem cell_alloc_lt {w : World} {o : Obj} {a : Addr} {v : Value} (h : w.cell? a = some v) : (w.alloc o).cell? a = some v := by
  have hb := World.block_lt_of_cell? w a h
  exact (World.cell?_of_block (w := w) (Below.heap_alloc w o a.block hb)).trans h

/-- The stable cells of a world lie in blocks that are there. -/
theorem Rel.st_lt {g : Gh} {σ : MS} {w : World} (h : Rel g σ w) {b k : Nat} (hk : k < g.st b) : b < w.heap.size := by
  rcases Nat.lt_or_ge b w.heap.size with hlt | hge
  · exact hlt
  · rw [h.fresh b hge] at hk; omega

/-- A new block, k of whose first cells are stable. -/
def Gh.stab (g : Gh) (b k : Nat) : Gh := { g with st := fun c => if c = b then k else g.st c }
def Gh.bind (g : Gh) (id b : Nat) : Gh := { g with bk := fun i => if i = id then some b else g.bk i }
def Gh.log (g : Gh) (t n : Nat) (v : Value) : Gh := { g with lg := fun i m => if i = t ∧ m = n then some v else g.lg i m }

theorem Le.alloc_stab {g : Gh} {σ : MS} {w : World} (h : Rel g σ w) (o : Obj) (k : Nat) : Le g w (g.stab w.heap.size k) (w.alloc o) := by
  refine ⟨⟨rfl, rfl, fun b i hi => ?_, fun _ _ h => h, fun _ _ _ h => h, by simp⟩, fun b x hx => ?_⟩
  · have hlt := h.st_lt hi
    refine ⟨?_, World.cell?_of_block (w := w) (a := ⟨b, i, none⟩) (Below.heap_alloc w o b hlt)⟩
    simp only [Gh.stab]
    rw [if_neg (by omega)]
    exact hi
  · have hlt : b < w.heap.size := (Array.getElem?_eq_some_iff.1 hx).1
    exact (Below.heap_alloc w o b hlt).trans hx

theorem Rel.alloc_stab {g : Gh} {σ : MS} {w : World} (h : Rel g σ w) (o : Obj) (k : Nat) : Rel (g.stab w.heap.size k) σ (w.alloc o) := by
  refine ⟨h.below.alloc h.size o, h.base, fun b hb => ?_, h.bkn, h.lgn, ?_⟩
  · simp at hb
    simp only [Gh.stab]
    rw [if_neg (by omega)]
    exact h.fresh b (by omega)
  · obtain ⟨own, ho⟩ := h.ex
    refine ⟨own, ho.keep (Le.alloc_stab h o k) (fun id b e => ?_) (fun _ _ => rfl)⟩
    have hlt := (ho.lt id b e).2.2
    refine ⟨Below.heap_alloc w o b hlt, ?_⟩
    simp only [Gh.stab]
    rw [if_neg (by omega)]

theorem heap_new (w : World) (o : Obj) : (w.alloc o).heap[w.heap.size]? = some o := by
  show (w.heap.push o)[w.heap.size]? = _
  simp

theorem cell_new (w : World) (us : List Value) (ty : TypeId) (j : Nat) : (w.alloc (.cells us.toArray ty)).cell? ((⟨w.heap.size, 0, none⟩ : Addr).add j) = us[j]? := by
  have e : (⟨w.heap.size, 0, none⟩ : Addr).add j = ⟨w.heap.size, j, none⟩ := by unfold Addr.add; split <;> simp_all
  rw [e]
  simp only [World.cell?, heap_new]
  simp

/-- A new stable block: its cells are stable. -/
theorem stab_new (g : Gh) (w : World) (us : List Value) (ty : TypeId) {j : Nat} {u : Value} (hu : us[j]? = some u) (h1 : u.oneCell' = true) : Stab (g.stab w.heap.size us.length) (w.alloc (.cells us.toArray ty)) ⟨w.heap.size, 0, none⟩ j u := by
  refine ⟨?_, (cell_new w us ty j).trans hu, h1⟩
  have e : (⟨w.heap.size, 0, none⟩ : Addr).add j = ⟨w.heap.size, j, none⟩ := by unfold Addr.add; split <;> simp_all
  rw [e]
  simp only [Gh.stab, if_true]
  exact (List.getElem?_eq_some_iff.1 hu).1

theorem Le.bind {g : Gh} {w : World} {id b : Nat} (h : g.bk id = none) : Le g w (g.bind id b) w := by
  refine ⟨⟨rfl, rfl, fun _ _ h => ⟨h, rfl⟩, fun i c hc => ?_, fun _ _ _ h => h, Nat.le_refl _⟩, fun _ _ h => h⟩
  simp only [Gh.bind]
  rw [if_neg (fun e => by subst e; rw [h] at hc; cases hc)]
  exact hc

/-- A new object. -/
theorem Rel.alloc_obj {g : Gh} {σ : MS} {w : World} (h : Rel g σ w) {l : List MV} {us : List Value} (hl : Rds g w l us) (ty : TypeId) :
    ∃ g', Rel g' (σ ++ [.cells l]) (w.alloc (.cells us.toArray ty)) ∧ Le g w g' (w.alloc (.cells us.toArray ty)) ∧ g'.bk σ.length = some w.heap.size := by
  have l1 := Le.alloc_stab h (.cells us.toArray ty) 0
  have r1 := h.alloc_stab (.cells us.toArray ty) 0
  have l2 : Le (g.stab w.heap.size 0) (w.alloc (.cells us.toArray ty)) ((g.stab w.heap.size 0).bind σ.length w.heap.size) (w.alloc (.cells us.toArray ty)) := Le.bind (r1.bkn σ.length (Nat.le_refl _))
  refine ⟨(g.stab w.heap.size 0).bind σ.length w.heap.size, ⟨r1.below, r1.base, r1.fresh, fun id hid => ?_, fun t n ht => r1.lgn t n (by simp at ht; omega), ?_⟩, l1.trans l2, by simp [Gh.bind]⟩
  · simp at hid
    simp only [Gh.bind]
    rw [if_neg (by omega)]
    exact r1.bkn id (by omega)
  · obtain ⟨own, ho⟩ := r1.ex
    have ho' := ho.keep l2 (fun _ _ _ => ⟨rfl, rfl⟩) (fun _ _ => rfl)
    have hold : ∀ id b, own id = some b → b < w.heap.size := by
      intro id b e
      obtain ⟨h1, h2, h3⟩ := ho.lt id b e
      rcases Nat.lt_or_ge b w.heap.size with hlt | hge
      · exact hlt
      · obtain ⟨own0, ho0⟩ := h.ex
        simp at h3
        have hb : b = w.heap.size := by omega
        subst hb
        have hob := ho.obj id _ (List.getElem?_eq_getElem h1)
        cases hσ : σ[id] with
        | cells l' =>
          rw [hσ] at hob
          obtain ⟨b', us', ty', e1, e2, _⟩ := hob
          have hob0 := ho0.obj id _ (List.getElem?_eq_getElem h1)
          rw [hσ] at hob0
          obtain ⟨b0, us0, ty0, f1, f2, _⟩ := hob0
          have hb0 := (ho0.lt id b0 f1).2.2
          have : (g.stab w.heap.size 0).bk id = g.bk id := rfl
          rw [this, f2] at e2
          injection e2 with e2
          rw [e] at e1
          injection e1 with e1
          omega
        | row ty' sz n =>
          rw [hσ] at hob
          obtain ⟨v, us', e1, e2, e3, _⟩ := hob
          have hob0 := ho0.obj id _ (List.getElem?_eq_getElem h1)
          rw [hσ] at hob0
          obtain ⟨v0, us0, f1, f2, f3, _⟩ := hob0
          have : (g.stab w.heap.size 0).lg id n = g.lg id n := rfl
          rw [this, f1] at e1
          injection e1 with e1
          subst e1
          have hb0 := (ho0.lt id w.heap.size (by rw [← f3, e3, e])).2.2
          omega
        | loop s p ls =>
          rw [hσ] at hob
          obtain ⟨b', l', e1, e2, _⟩ := hob
          have hob0 := ho0.obj id _ (List.getElem?_eq_getElem h1)
          rw [hσ] at hob0
          obtain ⟨b0, l0, f1, f2, _⟩ := hob0
          have hb0 := (ho0.lt id b0 f1).2.2
          have : (g.stab w.heap.size 0).bk id = g.bk id := rfl
          rw [this, f2] at e2
          injection e2 with e2
          rw [e] at e1
          injection e1 with e1
          omega
        | gone =>
          rw [hσ] at hob
          rw [show own id = none from hob] at e
          cases e
    refine ⟨fun id => if id = σ.length then some w.heap.size else own id, ⟨fun id o hid => ?_, fun i j b hi hj => ?_, fun id b hid => ?_⟩⟩
    · by_cases e : id = σ.length
      · subst e
        rw [List.getElem?_append_right (Nat.le_refl _)] at hid
        simp at hid
        subst hid
        simp only [if_true]
        refine ⟨w.heap.size, us, ty, rfl, by simp [Gh.bind], by simp [Gh.bind, Gh.stab], heap_new _ _, (hl.mono l1).mono l2⟩
      · rw [if_neg e]
        have hlt : id < σ.length := by
          have := (List.getElem?_eq_some_iff.1 hid).1
          simp at this
          omega
        rw [List.getElem?_append_left hlt] at hid
        exact ho'.obj id o hid
    · by_cases ei : i = σ.length <;> by_cases ej : j = σ.length
      · omega
      · simp only [ei, if_true] at hi
        simp only [ej, if_false] at hj
        have := hold j b hj
        injection hi with hi
        omega
      · simp only [ej, if_true] at hj
        simp only [ei, if_false] at hi
        have := hold i b hi
        injection hj with hj
        omega
      · simp only [ei, ej, if_false] at hi hj
        exact ho.inj i j b hi hj
    · by_cases e : id = σ.length
      · simp only [e, if_true] at hid
        injection hid with hid
        subst hid
        exact ⟨by simp [e], h.size, by simp⟩
      · simp only [e, if_false] at hid
        obtain ⟨h1, h2, h3⟩ := ho'.lt id b hid
        exact ⟨by simp; omega, h2, h3⟩

/-- Objects at the end are forgotten. -/
theorem Rel.cut {g : Gh} {σ junk : MS} {w : World} (h : Rel g (σ ++ junk) w) (hcl : ∀ (id : Nat) (o : MObj), σ[id]? = some o → match o with | .cells l => ∀ x ∈ l, Cl σ.length x | .loop _ _ ls => ∀ (t : Nat) (x : MV), get ls.env t = some x → Cl σ.length x | _ => True) : Rel (g.cut σ.length) σ w := by
  refine ⟨h.below, h.base, h.fresh, fun id hid => ?_, fun t n ht => ?_, ?_⟩
  · simp only [Gh.cut]; rw [if_neg (by omega)]
  · simp only [Gh.cut]; rw [if_neg (by omega)]
  · obtain ⟨own, ho⟩ := h.ex
    refine ⟨fun id => if id < σ.length then own id else none, ⟨fun id o hid => ?_, fun i j b hi hj => ?_, fun id b hid => ?_⟩⟩
    · have hlt : id < σ.length := (List.getElem?_eq_some_iff.1 hid).1
      simp only [hlt, if_true]
      have hob := ho.obj id o (by rw [List.getElem?_append_left hlt]; exact hid)
      have hc := hcl id o hid
      cases o with
      | cells l =>
        obtain ⟨b, us, ty, h1, h2, h3, h4, h5⟩ := hob
        exact ⟨b, us, ty, h1, by simp [Gh.cut, hlt, h2], h3, h4, h5.1, fun j y u hy hu => (h5.2 j y u hy hu).cut (hc y (List.mem_of_getElem? hy))⟩
      | row ty sz n =>
        obtain ⟨v, us, h1, h2, h3, h4, h5⟩ := hob
        exact ⟨v, us, by simp [Gh.cut, hlt, h1], h2, h3, h4, fun k hk => by simp [Gh.cut, hlt, h5 k hk]⟩
      | loop s p ls =>
        obtain ⟨b, l, h1, h2, h3, h4, h5, h6, h7, h8, h9, h10⟩ := hob
        exact ⟨b, l, h1, by simp [Gh.cut, hlt, h2], h3, h4, h5, h6, h7, h8, h9, fun t x hx => let ⟨v, hv, hr⟩ := h10 t x hx; ⟨v, hv, hr.cut (hc t x hx)⟩⟩
      | gone => exact hob
    · split at hi
      · split at hj
        · exact ho.inj i j b hi hj
        · cases hj
      · cases hi
    · split at hid
      · rename_i hlt
        exact ⟨hlt, (ho.lt id b hid).2⟩
      · cases hid

theorem Le.cut {g g' : Gh} {w w' : World} (h : Le g w g' w') {n : Nat} (hb : ∀ id, n ≤ id → g.bk id = none) (hlg : ∀ t k, n ≤ t → g.lg t k = none) : Le g w (g'.cut n) w' := by
  refine ⟨⟨h.B, h.w0, h.st, fun id b e => ?_, fun t k v e => ?_, h.size⟩, h.kept⟩
  · have hlt : id < n := by
      rcases Nat.lt_or_ge id n with hlt | hge
      · exact hlt
      · rw [hb id hge] at e; cases e
    simp only [Gh.cut]; rw [if_pos hlt]; exact h.bk _ _ e
  · have hlt : t < n := by
      rcases Nat.lt_or_ge t n with hlt | hge
      · exact hlt
      · rw [hlg t k hge] at e; cases e
    simp only [Gh.cut]; rw [if_pos hlt]; exact h.lg _ _ _ e
end Go.MV
