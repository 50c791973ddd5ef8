/-
  The rule for append to a row of the call's own. No program.
-/
import Derived.Test.YtihpnfpdocnniaaRow
set_option linter.unusedVariables false
set_option linter.unusedSimpArgs false
namespace Go.MV
open Go Go.RowKit

/-- A row of nothing may be taken for one of the call's own. -/
theorem tok_new {g : Gh} {σ : MS} {w : World} (h : Rel g σ w) (ty sz : Nat) : Rel (g.log σ.length 0 (.slice none 0 0)) (σ ++ [.row ty sz 0]) w ∧ Le g w (g.log σ.length 0 (.slice none 0 0)) w ∧ Rd (g.log σ.length 0 (.slice none 0 0)) w (.lst (some σ.length) sz []) (.slice none 0 0) := by
  have hl : Le g w (g.log σ.length 0 (.slice none 0 0)) w := by
    refine ⟨⟨rfl, rfl, fun _ _ h => ⟨h, rfl⟩, fun _ _ h => h, fun t n v hv => ?_, Nat.le_refl _⟩, fun _ _ h => h⟩
    simp only [Gh.log]
    rw [if_neg (fun e => by rw [h.lgn t n (by omega)] at hv; cases hv)]
    exact hv
  refine ⟨⟨h.below, h.base, h.fresh, fun id hid => h.bkn id (by simp at hid; omega), fun t n ht => ?_, ?_⟩, hl, .lst' (us := []) rfl (by simp) (by simp [maxLen]) (by simp) (.nil _ _) (by simp) (fun t ht => ?_)⟩
  · simp at ht
    simp only [Gh.log]
    rw [if_neg (by omega)]
    exact h.lgn t n (by omega)
  · obtain ⟨own, ho⟩ := h.ex
    refine ⟨fun id => if id = σ.length then none else own id, ⟨fun id o hid => ?_, fun i j b hi hj => ?_, fun id b hid => ?_⟩⟩
    · by_cases e : id = σ.length
      · subst e
        rw [List.getElem?_append_right (Nat.le_refl _)] at hid
        simp at hid
        subst hid
        simp only [if_true]
        refine ⟨.slice none 0 0, [], by simp [Gh.log], World.ownsRow_nil _ _ _ _, rfl, fun b hb => (by cases hb), fun k hk => ?_⟩
        simp only [Gh.log]
        rw [if_neg (by omega)]
        exact h.lgn _ _ (Nat.le_refl _)
      · rw [if_neg e]
        have hlt : id < σ.length := by
          have := (List.getElem?_eq_some_iff.1 hid).1
          simp at this
          omega
        rw [List.getElem?_append_left hlt] at hid
        refine (ho.obj id o hid).keep0 hl.toLe0 (fun b _ => ⟨rfl, rfl⟩) fun k => ?_
        simp only [Gh.log]
        rw [if_neg (by omega)]
    · split at hi
      · cases hi
      · split at hj
        · cases hj
        · exact ho.inj i j b hi hj
    · split at hid
      · cases hid
      · obtain ⟨h1, h2, h3⟩ := ho.lt id b hid
        exact ⟨by simp; omega, h2, h3⟩
  · injection ht with ht
    subst ht
    simp [Gh.log]

section
variable {P : Program} {rd : Option Nat} {o : Oper} {env : Env} {σ : MS} {K : MV → MS → Prop}

theorem Rel.row_set {g g' : Gh} {σ : MS} {w w' : World} (h : Rel g σ w) {t ty sz n n' : Nat} (hσ : σ[t]? = some (.row ty sz n)) {own : Nat → Option Nat} (ho : Owns g σ w own) (hl : Le g w g' w') (hb : Below g.B g.w0 w') (hfr : ∀ b, w'.heap.size ≤ b → g'.st b = 0) (hbk : g'.bk = g.bk)
    (hlg : ∀ id k, id ≠ t → g'.lg id k = g.lg id k) (hst : ∀ id b, id ≠ t → own id = some b → w'.heap[b]? = w.heap[b]? ∧ g'.st b = g.st b) {ob : Option Nat} (hob : ObjRel g' w' ob t (.row ty sz n')) (hne : ∀ id b, id ≠ t → own id = some b → ob ≠ some b) (hblt : ∀ b, ob = some b → g.B ≤ b ∧ b < w'.heap.size) :
    Rel g' (σ.set t (.row ty sz n')) w' := by
  have htl : t < σ.length := (List.getElem?_eq_some_iff.1 hσ).1
  refine ⟨by rw [hl.B, hl.w0]; exact hb, by rw [hl.B, hl.w0]; exact h.base, hfr, fun id hid => by rw [hbk]; exact h.bkn id (by simpa using hid), fun s k hs => by rw [hlg s k (by simp at hs; omega)]; exact h.lgn s k (by simpa using hs), fun id => if id = t then ob else own id, ⟨fun id o hid => ?_, fun i j b hi hj => ?_, fun id b hid => ?_⟩⟩
  · by_cases e : id = t
    · subst e
      simp only [if_true]
      rw [List.getElem?_set_self htl] at hid
      injection hid with hid
      subst hid
      exact hob
    · rw [if_neg e]
      rw [List.getElem?_set_ne (fun h => e h.symm)] at hid
      exact (ho.obj id o hid).keep0 hl.toLe0 (fun b hb => hst id b e hb) fun k => hlg id k e
  · by_cases ei : i = t
    · by_cases ej : j = t
      · omega
      · simp only [ei, if_true] at hi
        simp only [ej, if_false] at hj
        exact absurd hi (hne j b ej hj)
    · by_cases ej : j = t
      · simp only [ej, if_true] at hj
        simp only [ei, if_false] at hi
        exact absurd hj (hne i b ei hi)
      · simp only [ei, ej, if_false] at hi hj
        exact ho.inj i j b hi hj
  · by_cases e : id = t
    · subst e
      simp only [if_true] at hid
      obtain ⟨h1, h2⟩ := hblt b hid
      exact ⟨by simpa using htl, by rw [hl.B]; exact h1, h2⟩
    · simp only [e, if_false] at hid
      obtain ⟨h1, h2, h3⟩ := ho.lt id b hid
      exact ⟨by simpa using h1, by rw [hl.B]; exact h2, Nat.lt_of_lt_of_le h3 hl.size⟩

theorem set_self {σ : MS} {t : Nat} {o : MObj} (h : σ[t]? = some o) : σ.set t o = σ := by
  apply List.ext_getElem?
  intro i
  rw [List.getElem?_set]
  split
  · rename_i e
    subst e
    rw [if_pos (List.getElem?_eq_some_iff.1 h).1, h]
  · rfl

theorem gets_append {g : Gh} {w : World} (hr : Rel g σ w) {tt ty' e sz bytes t n : Nat} (hu : P.underlying tt = some (.slice e)) (he : elemOk P e sz bytes = true) (hσ : σ[t]? = some (.row e sz n)) {xs ys : List MV} {tok : Option Nat} {v vy : Value} (hx : Rd g w (.lst (some t) sz xs) v) (hn : xs.length = n)
    (hy : Rd g w (.lst tok sz ys) vy) (hbound : (n + ys.length) * bytes ≤ 140737488355328) (hml : n + ys.length ≤ 4611686018427387904) (hK : K (.lst (some t) sz (xs ++ ys)) (σ.set t (.row e sz (n + ys.length)))) :
    ∃ v' w', (Builtin.append_ #[tt, tt] ty' #[v, vy]).run P w = .ok v' w' ∧ Gets g w K v' w' := by
  obtain ⟨i, z, hi, hz, hs, hb, hzs, hpos⟩ := elemOk_spec he
  obtain ⟨a, c, us, hv, h1, h2, h3, h4, h5, h6⟩ := hx.inv_lst
  obtain ⟨a', c', us', hvy, k1, k2, k3, k4, k5, _⟩ := hy.inv_lst
  have hsmall : n + ys.length ≤ maxLen := by simp only [maxLen]; omega
  have hlen' : us'.length = ys.length * i.size := by rw [hs, k4.1, flat_length k3]
  have hlen : us.length = n * i.size := by rw [hs, h4.1, flat_length h3, hn]
  by_cases hm : ys = []
  · subst hm
    simp only [List.append_nil, List.length_nil, Nat.add_zero] at hK
    rw [set_self hσ] at hK
    refine ⟨v, w, ?_, .same hK hr hx⟩
    subst hv hvy
    have e0 : ∀ ad : Addr, (loadCells ad 0).run P w = .ok #[] w := fun ad => rfl
    cases a with
    | none => cases a' <;> simp [Builtin.append_, run_underlying hu, sizeOf, typeInfo, hi, Builtin.lenOf, Builtin.firstCells, h1, e0]
    | some ad => cases a' <;> simp [Builtin.append_, run_underlying hu, sizeOf, typeInfo, hi, Builtin.lenOf, Builtin.firstCells, h1, e0, storeCells]
  have hmpos : 0 < ys.length := List.length_pos_iff.2 hm
  have hp' : 0 < us'.length := by rw [hlen', hs]; exact Nat.mul_pos hmpos hpos
  obtain ⟨ad', rfl, _⟩ := k5 0 us'[0] (List.getElem?_eq_getElem hp')
  have hnews : ∀ (j : Nat) (u : Value), us'[j]? = some u → w.cell? (ad'.add j) = some u := fun j u hj => by
    obtain ⟨ad2, e2, hst⟩ := k5 j u hj
    injection e2 with e2
    subst e2
    exact hst.2.1
  have hone : ∀ u ∈ us', u.oneCell' = true := fun u hmem => by
    obtain ⟨j, hj⟩ := List.getElem?_of_mem hmem
    obtain ⟨_, _, hst⟩ := k5 j u hj
    exact hst.2.2
  have hone0 : ∀ u ∈ us, u.oneCell' = true := fun u hmem => by
    obtain ⟨j, hj⟩ := List.getElem?_of_mem hmem
    obtain ⟨_, _, hst⟩ := h5 j u hj
    exact hst.2.2
  have holds : ∀ (j : Nat) (u : Value), us[j]? = some u → ∃ ad, a = some ad ∧ w.cell? (ad.add j) = some u := fun j u hj => by
    obtain ⟨ad2, e2, hst⟩ := h5 j u hj
    exact ⟨ad2, e2, hst.2.1⟩
  obtain ⟨own, ho⟩ := hr.ex
  obtain ⟨v0, us0, f1, f2, f3, f4, f5⟩ := ho.obj t _ hσ
  have hvv : v0 = v := by
    have := h6 t rfl
    rw [hn, f1] at this
    injection this
  subst hvv
  have hall3 : ∀ x ∈ xs ++ ys, x.cells.length = sz := fun x hx => by
    rcases List.mem_append.1 hx with h | h
    · exact h3 x h
    · exact k3 x h
  have hallone : ∀ u ∈ us ++ us', u.oneCell' = true := fun u hu => by
    rcases List.mem_append.1 hu with h | h
    · exact hone0 u h
    · exact hone u h
  have hfl : flat (xs ++ ys) = flat xs ++ flat ys := flat_append xs ys
  have hlenx : (xs ++ ys).length = n + ys.length := by rw [List.length_append, hn]
  -- a new block
  have fresh_case : ∀ (cap : Nat) (rest : Array Value), n + ys.length ≤ cap → cap ≤ maxLen → rest.size = (cap - (n + ys.length)) * sz →
      Gets g w K (.slice (some ⟨w.heap.size, 0, none⟩) (n + ys.length) cap) (w.drew.alloc (.cells (us.toArray ++ us'.toArray ++ rest) e)) := by
    intro cap rest hcap hcm hrest
    have harr : us.toArray ++ us'.toArray ++ rest = (us ++ us' ++ rest.toList).toArray := by
      apply Array.ext'
      simp
    rw [harr]
    have hr1 := hr.drew
    have l1 := Le.drew g w
    have l2 := Le.alloc_stab hr1 (.cells (us ++ us' ++ rest.toList).toArray e) ((n + ys.length) * sz)
    have r2 := hr1.alloc_stab (.cells (us ++ us' ++ rest.toList).toArray e) ((n + ys.length) * sz)
    generalize hg1 : g.stab w.drew.heap.size ((n + ys.length) * sz) = g1 at l2 r2
    generalize hw1 : w.drew.alloc (.cells (us ++ us' ++ rest.toList).toArray e) = w1 at l2 r2
    have ho1 : Owns g1 σ w1 own := by
      refine ho.keep (l1.trans l2) (fun id b e => ?_) (fun _ _ => by rw [← hg1]; rfl)
      have hlt := (ho.lt id b e).2.2
      rw [← hg1, ← hw1]
      refine ⟨Below.heap_alloc w.drew _ b hlt, ?_⟩
      simp only [Gh.stab]
      exact if_neg (Nat.ne_of_lt hlt)
    have l3 : Le g1 w1 (g1.log t (n + ys.length) (.slice (some ⟨w.heap.size, 0, none⟩) (n + ys.length) cap)) w1 := by
      refine ⟨⟨rfl, rfl, fun _ _ h => ⟨h, rfl⟩, fun _ _ h => h, fun s k u hv => ?_, Nat.le_refl _⟩, fun _ _ h => h⟩
      simp only [Gh.log]
      rw [if_neg]
      · exact hv
      · rintro ⟨rfl, rfl⟩
        have : g1.lg s (n + ys.length) = g.lg s (n + ys.length) := by rw [← hg1]; rfl
        rw [this, f5 _ (by omega)] at hv
        cases hv
    have hheap : w1.heap[w.heap.size]? = some (.cells (us ++ us' ++ rest.toList).toArray e (0, 0)) := by rw [← hw1]; exact heap_new w.drew _
    have hsz : w1.heap.size = w.heap.size + 1 := by rw [← hw1]; simp
    have hcurlen : (us ++ us' ++ rest.toList).length = cap * sz := by
      simp only [List.length_append, hlen, hlen', hs, Array.length_toList, hrest]
      rw [← Nat.add_mul, ← Nat.add_mul]
      congr 1
      omega
    have hlall : (us ++ us').length = (n + ys.length) * sz := by rw [List.length_append, hlen, hlen', hs, Nat.add_mul]
    have lall := l1.trans (l2.trans l3)
    refine ⟨_, _, g1.log t (n + ys.length) (.slice (some ⟨w.heap.size, 0, none⟩) (n + ys.length) cap), hK, ?_, ?_, lall⟩
    · refine Rel.row_set r2 hσ ho1 l3 r2.below r2.fresh rfl (fun id k hid => ?_) (fun id b hid hb => ⟨rfl, rfl⟩) (ob := some w.heap.size) ?_ (fun id b hid hb e => ?_) (fun b hb => ?_)
      · simp only [Gh.log]; rw [if_neg (fun h => hid h.1)]
      · refine ⟨.slice (some ⟨w.heap.size, 0, none⟩) (n + ys.length) cap, us ++ us', by simp [Gh.log], ?_, rfl, fun b hb => ?_, fun k hk => ?_⟩
        · refine ⟨hlall, .inr ⟨w.heap.size, cap, _, rfl, ?_, hheap, hcap, hcm, by simpa using hcurlen, ?_⟩⟩
          · have : (g1.log t (n + ys.length) (.slice (some ⟨w.heap.size, 0, none⟩) (n + ys.length) cap)).B = g.B := lall.B
            rw [this]
            exact hr.size
          · rw [← hlall]
            exact List.take_left
        · injection hb with hb
          subst hb
          rw [← hg1]
          simp only [Gh.log, Gh.stab]
          exact if_pos rfl
        · simp only [Gh.log]
          rw [if_neg (by omega), ← hg1]
          exact f5 k (by omega)
      · have := (ho.lt id b hb).2.2
        injection e with e
        omega
      · injection hb with hb
        subst hb
        refine ⟨?_, by omega⟩
        rw [← hg1]
        exact hr.size
    · refine .lst' hlenx hcap hcm hall3 (us := us ++ us') ?_ (fun j u hj => ⟨⟨w.heap.size, 0, none⟩, rfl, ?_⟩) (fun s hs => ?_)
      · rw [hfl]
        exact (h4.mono lall).append (k4.mono lall)
      · have hjl : j < (us ++ us').length := (List.getElem?_eq_some_iff.1 hj).1
        refine ⟨?_, ?_, hallone u (List.mem_of_getElem? hj)⟩
        · rw [add_off]
          show 0 + j < (g1.log t _ _).st w.heap.size
          rw [← hg1]
          simp only [Gh.log, Gh.stab]
          have : (if w.heap.size = w.drew.heap.size then (n + ys.length) * sz else g.st w.heap.size) = (n + ys.length) * sz := if_pos rfl
          rw [this]
          omega
        · rw [add_off]
          simp only [World.cell?, hheap]
          simp only [Nat.zero_add, Option.isSome_none, Bool.false_eq_true, if_false]
          rw [List.getElem?_toArray, List.getElem?_append_left hjl]
          exact hj
      · injection hs with hs
        subst hs
        simp [Gh.log]
  rcases f2.2 with ⟨hv0, hn0⟩ | ⟨b, cap, cur, hv0, hbB, hheap, hnc, hcm, hcs, htake⟩
  · -- nothing yet
    rw [hv0] at hv
    injection hv with ea en ec
    subst hv0
    have hus : us = [] := List.eq_nil_of_length_eq_zero (by rw [hlen, hn0]; simp)
    have hrun := run_append_nil (P := P) w tt ty' e i z hu hi hz ad' ys.length c' us' hlen' hnews hmpos (by omega) (by rw [hb]; rw [hn0] at hbound; simp only [Nat.zero_add] at hbound; omega)
    have hfc := fresh_case (grownCap w ys.length 0 e) (Builtin.zeroCells z.cells (grownCap w ys.length 0 e - ys.length)) (by rw [hn0, Nat.zero_add]; exact grownCap_ge w _ _ _) (grownCap_le_maxLen w _ _ _ (by rw [hn0] at hsmall; omega)) (by rw [size_zeroCells, hzs, hn0]; simp)
    rw [hus, hn0] at hfc
    simp only [Nat.zero_add, Array.empty_append] at hfc
    refine ⟨_, _, by rw [hvy]; exact hrun, ?_⟩
    have e1 : #[] ++ us'.toArray = us'.toArray := Array.empty_append
    exact hfc
  · have hvb : a = some ⟨b, 0, none⟩ ∧ c = cap := by
      rw [hv0] at hv
      injection hv with e1 e2 e3
      exact ⟨e1.symm, e3.symm⟩
    obtain ⟨rfl, rfl⟩ := hvb
    have holds' : ∀ (j : Nat) (u : Value), us[j]? = some u → w.cell? ((⟨b, 0, none⟩ : Addr).add j) = some u := fun j u hj => by
      obtain ⟨ad2, e2, h⟩ := holds j u hj
      injection e2 with e2
      subst e2
      exact h
    by_cases hroom : n + ys.length ≤ c
    · -- there is room
      have hfit : n * i.size + us'.length ≤ cur.size := by rw [hlen', hcs, hs, ← Nat.add_mul]; exact Nat.mul_le_mul_right _ hroom
      have hrun := run_append_room (P := P) w tt ty' e i hu hi b n c cur hheap ad' ys.length c' us' hlen' hnews hone hroom hfit
      generalize hnc' : (cur.toList.take (n * i.size) ++ us' ++ cur.toList.drop (n * i.size + us'.length)).toArray = ncur at hrun
      have hob : own t = some b := by rw [← f3, hv0]; rfl
      have hstb : g.st b = n * sz := f4 b hob
      have hbl := ho.lt t b hob
      have hus0 : us0 = us := by
        have e1 : us0 = cur.toList.take (n * sz) := htake.symm
        apply List.ext_getElem?
        intro j
        by_cases hj : j < n * sz
        · have hjl : j < us.length := by rw [hlen, hs]; exact hj
          have hc := holds' j us[j] (List.getElem?_eq_getElem hjl)
          rw [add_off] at hc
          simp only [World.cell?, hheap, Nat.zero_add, Option.isSome_none, Bool.false_eq_true, if_false] at hc
          rw [e1, List.getElem?_take, if_pos hj, List.getElem?_eq_getElem hjl, ← hc]
          simp
        · rw [List.getElem?_eq_none (by rw [f2.1]; omega), List.getElem?_eq_none (by rw [hlen, hs]; omega)]
      subst hus0
      have hheap' : (w.setRow b ncur).heap[b]? = some (.cells ncur e (0, 0)) := setRow_heap w b cur ncur e _ hheap
      have hother : ∀ k, k ≠ b → (w.setRow b ncur).heap[k]? = w.heap[k]? := fun k hk => setRow_other w b k ncur hk
      have hncur : ncur.toList = us0 ++ us' ++ cur.toList.drop ((n + ys.length) * sz) := by
        rw [← hnc', hs, htake, hlen', hs, ← Nat.add_mul]
      have hlall : (us0 ++ us').length = (n + ys.length) * sz := by rw [List.length_append, hlen, hlen', hs, Nat.add_mul]
      have hcell : ∀ j, j < (n + ys.length) * sz → (w.setRow b ncur).cell? ⟨b, j, none⟩ = (us0 ++ us')[j]? := fun j hj => by
        simp only [World.cell?, hheap', Option.isSome_none, Bool.false_eq_true, if_false]
        rw [← Array.getElem?_toList, hncur, List.getElem?_append_left (by omega)]
      let g1 : Gh := (g.stab b ((n + ys.length) * sz)).log t (n + ys.length) (.slice (some ⟨b, 0, none⟩) (n + ys.length) c)
      have hlall2 : n * sz ≤ (n + ys.length) * sz := Nat.mul_le_mul_right _ (by omega)
      have hl : Le g w g1 (w.setRow b ncur) := by
        refine ⟨⟨rfl, rfl, fun k j hj => ?_, fun _ _ h => h, fun s k u hu => ?_, by simp⟩, fun k x hx => ?_⟩
        · by_cases ek : k = b
          · subst ek
            refine ⟨?_, ?_⟩
            · show j < if k = k then (n + ys.length) * sz else g.st k
              rw [if_pos rfl]
              omega
            · rw [hstb] at hj
              rw [hcell j (by omega), List.getElem?_append_left (by rw [hlen, hs]; exact hj)]
              have hjl : j < us0.length := by rw [hlen, hs]; exact hj
              have := holds' j us0[j] (List.getElem?_eq_getElem hjl)
              rw [add_off, Nat.zero_add] at this
              rw [this, List.getElem?_eq_getElem hjl]
          · refine ⟨?_, World.cell?_of_block (w := w) (a := ⟨k, j, none⟩) (hother k ek)⟩
            show j < if k = b then (n + ys.length) * sz else g.st k
            rw [if_neg ek]
            exact hj
        · show (if s = t ∧ k = n + ys.length then _ else g.lg s k) = _
          rw [if_neg]
          · exact hu
          · rintro ⟨rfl, rfl⟩
            rw [f5 _ (by omega)] at hu
            cases hu
        · have : k ≠ b := fun e => by subst e; rw [hheap] at hx; cases hx
          exact (hother k this).trans hx
      refine ⟨_, _, by rw [hv0, hvy]; exact hrun, _, _, g1, hK, ?_, ?_, hl⟩
      · refine Rel.row_set hr hσ ho hl (hr.below.trans ⟨rfl, rfl, rfl, by simp, fun k hk => hother k (by omega)⟩) (fun k hk => ?_) rfl (fun id k hid => ?_) (fun id k hid hk => ?_) (ob := some b) ?_ (fun id k hid hk e => ?_) (fun k hk => ?_)
        · simp only [setRow_size] at hk
          show (if k = b then _ else g.st k) = 0
          rw [if_neg (by omega)]
          exact hr.fresh k hk
        · show (if id = t ∧ k = n + ys.length then _ else g.lg id k) = _
          rw [if_neg (fun h => hid h.1)]
        · have hkb : k ≠ b := fun e => by subst e; exact hid (ho.inj _ _ _ hk hob)
          refine ⟨hother k hkb, ?_⟩
          show (if k = b then _ else g.st k) = _
          rw [if_neg hkb]
        · refine ⟨.slice (some ⟨b, 0, none⟩) (n + ys.length) c, us0 ++ us', ?_, ⟨hlall, .inr ⟨b, c, ncur, rfl, hbB, hheap', hroom, hcm, ?_, ?_⟩⟩, rfl, fun k hk => ?_, fun k hk => ?_⟩
          · show (if t = t ∧ n + ys.length = n + ys.length then _ else _) = _
            rw [if_pos ⟨rfl, rfl⟩]
          · have hcl : cur.toList.length = c * sz := by rw [Array.length_toList, hcs]
            have : (n + ys.length) * sz ≤ c * sz := Nat.mul_le_mul_right _ hroom
            rw [← Array.length_toList, hncur, List.length_append, hlall, List.length_drop, hcl]
            omega
          · rw [hncur, ← hlall, List.append_assoc, ← List.append_assoc us0 us']
            exact List.take_left
          · injection hk with hk
            subst hk
            show (if b = b then _ else _) = _
            rw [if_pos rfl]
          · show (if t = t ∧ k = n + ys.length then _ else g.lg t k) = none
            rw [if_neg (by omega)]
            exact f5 k (by omega)
        · injection e with e
          subst e
          exact hid (ho.inj _ _ _ hk hob)
        · injection hk with hk
          subst hk
          exact ⟨hbl.2.1, by simpa using hbl.2.2⟩
      · refine .lst' hlenx hroom hcm hall3 (us := us0 ++ us') ?_ (fun j u hj => ⟨⟨b, 0, none⟩, rfl, ?_⟩) (fun s hs => ?_)
        · rw [hfl]
          exact (h4.mono hl).append (k4.mono hl)
        · have hjl : j < (us0 ++ us').length := (List.getElem?_eq_some_iff.1 hj).1
          refine ⟨?_, ?_, hallone u (List.mem_of_getElem? hj)⟩
          · rw [add_off]
            show 0 + j < if b = b then (n + ys.length) * sz else g.st b
            rw [if_pos rfl]
            omega
          · rw [add_off, Nat.zero_add, hcell j (by omega)]
            exact hj
        · injection hs with hs
          subst hs
          show (if t = t ∧ n + ys.length = n + ys.length then _ else _) = _
          rw [if_pos ⟨rfl, rfl⟩]
    · -- a greater block
      have hrun := run_append_grow (P := P) w tt ty' e i z hu hi hz ⟨b, 0, none⟩ n c us hlen holds' ad' ys.length c' us' hlen' hnews (by omega) (by omega) (growslice_fits (by omega) (by rw [hb]; exact hbound))
      refine ⟨_, _, by rw [hv0, hvy]; exact hrun, fresh_case _ _ (grownCap_ge w _ _ _) (grownCap_le_maxLen w _ _ _ hsmall) (by rw [size_zeroCells, hzs])⟩

theorem op_append {t e sz bytes id n : Nat} {x y : Operand} {tok : Option Nat} {xs ys : List MV} (ho : o.op = .call { callee := .builtin .append, args := #[x, y], argTypes := #[t, t] }) (hu : P.underlying t = some (.slice e)) (he : elemOk P e sz bytes = true)
    (hx : evo env x = some (.lst (some id) sz xs)) (hy : evo env y = some (.lst tok sz ys)) (hσ : σ[id]? = some (.row e sz n)) (hn : xs.length = n) (hb : (n + ys.length) * bytes ≤ 140737488355328) (hml : n + ys.length ≤ 4611686018427387904)
    (hK : K (.lst (some id) sz (xs ++ ys)) (σ.set id (.row e sz (n + ys.length)))) : OpWp P rd o env σ K := by
  refine OpWp.of_run (by simp [ho]) fun g w a hr hop => ?_
  obtain ⟨v', w', hrun, hg⟩ := gets_append (ty' := o.type) hr hu he hσ (hop x (by simp [ho, Op.operands, Call.operands]) _ hx) hn (hop y (by simp [ho, Op.operands, Call.operands]) _ hy) hb hml hK
  refine ⟨v', w', ?_, hg⟩
  simp [execOp, ho, resolve, invoke, builtin, hrun]

/-- append to nil: a new row. -/
theorem op_append0 {t e sz bytes : Nat} {x y : Operand} {tok : Option Nat} {ys : List MV} (ho : o.op = .call { callee := .builtin .append, args := #[x, y], argTypes := #[t, t] }) (hu : P.underlying t = some (.slice e)) (he : elemOk P e sz bytes = true)
    (hx : evo env x = some .lst0) (hy : evo env y = some (.lst tok sz ys)) (hb : ys.length * bytes ≤ 140737488355328) (hml : ys.length ≤ 4611686018427387904)
    (hK : K (.lst (some σ.length) sz ys) (σ ++ [.row e sz ys.length])) : OpWp P rd o env σ K := by
  refine OpWp.of_run (by simp [ho]) fun g w a hr hop => ?_
  have hv := (hop x (by simp [ho, Op.operands, Call.operands]) _ hx).inv_lst0
  obtain ⟨r1, l1, d1⟩ := tok_new hr e sz
  obtain ⟨v', w', hrun, hg⟩ := gets_append (P := P) (K := K) (ty' := o.type) (t := σ.length) (n := 0) r1 hu he (by simp) d1 rfl ((hop y (by simp [ho, Op.operands, Call.operands]) _ hy).mono l1) (by simpa using hb) (by simpa using hml) (by simpa using hK)
  refine ⟨v', w', ?_, hg.le l1⟩
  simp [execOp, ho, resolve, invoke, builtin, hv, hrun]

theorem op_append' {S L L' : MS} {t e sz bytes k n : Nat} {x y : Operand} {tok : Option Nat} {xs ys : List MV} (ho : o.op = .call { callee := .builtin .append, args := #[x, y], argTypes := #[t, t] }) (hu : P.underlying t = some (.slice e)) (he : elemOk P e sz bytes = true)
    (hx : evo env x = some (.lst (some (S.length + k)) sz xs)) (hy : evo env y = some (.lst tok sz ys)) (hσ : L[k]? = some (.row e sz n)) (hn : xs.length = n) (hb : (n + ys.length) * bytes ≤ 140737488355328) (hml : n + ys.length ≤ 4611686018427387904)
    (hL : L.set k (.row e sz (n + ys.length)) = L') (hK : K (.lst (some (S.length + k)) sz (xs ++ ys)) (S ++ L')) : OpWp P rd o env (S ++ L) K :=
  op_append ho hu he hx hy (by rw [getElem?_own]; exact hσ) hn hb hml (by rw [set_own, hL]; exact hK)
theorem op_append0' {S L L' : MS} {t e sz bytes k : Nat} {x y : Operand} {tok : Option Nat} {ys : List MV} (ho : o.op = .call { callee := .builtin .append, args := #[x, y], argTypes := #[t, t] }) (hu : P.underlying t = some (.slice e)) (he : elemOk P e sz bytes = true)
    (hx : evo env x = some .lst0) (hy : evo env y = some (.lst tok sz ys)) (hb : ys.length * bytes ≤ 140737488355328) (hml : ys.length ≤ 4611686018427387904) (hk : L.length = k) (hL : L ++ [.row e sz ys.length] = L')
    (hK : K (.lst (some (S.length + k)) sz ys) (S ++ L')) : OpWp P rd o env (S ++ L) K := by
  refine op_append0 ho hu he hx hy hb hml ?_
  subst hk hL
  rw [List.length_append, List.append_assoc]
  exact hK
end
end Go.MV
