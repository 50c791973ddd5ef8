/-
  Texts on which the proof of OrderTells leans: part 6.
-/
import Derived.Test.YtnfcnpdpfgcchaaGreatDoorOrderTellsE
import Derived.WalkKit
import Derived.LaidEql
import Derived.RowKitTokens
set_option linter.unusedVariables false
set_option linter.unusedSimpArgs false
set_option maxRecDepth 20000
set_option maxHeartbeats 8000000
namespace Go.MV
open Go Go.RowKit
section
theorem Rel.obj_set {g g' : Gh} {σ : MS} {w w' : World} (h : Rel g σ w) {t : Nat} {mo : MObj} (htl : t < σ.length) {own : Nat → Option Nat} (ho : Owns g σ w own) (hl : Le g w g' w') (hb : Below g.B g.w0 w') (hfr : ∀ b, w'.heap.size ≤ b → g'.st b = 0) (hbk : g'.bk = g.bk)
    (hlg : ∀ id k, id ≠ t → g'.lg id k = g.lg id k) (hst : ∀ id b, id ≠ t → own id = some b → w'.heap[b]? = w.heap[b]? ∧ g'.st b = g.st b) {ob : Option Nat} (hob : ObjRel g' w' ob t mo) (hne : ∀ id b, id ≠ t → own id = some b → ob ≠ some b) (hblt : ∀ b, ob = some b → g.B ≤ b ∧ b < w'.heap.size) :
    Rel g' (σ.set t mo) w' := by
  refine ⟨by rw [hl.B, hl.w0]; exact hb, by rw [hl.B, hl.w0]; exact h.base, hfr, fun id hid => by rw [hbk]; exact h.bkn id (by simpa using hid), fun s k hs => by rw [hlg s k (by simp at hs; omega)]; exact h.lgn s k (by simpa using hs), fun id => if id = t then ob else own id, ⟨fun id o hid => ?_, fun i j b hi hj => ?_, fun id b hid => ?_⟩⟩
  · by_cases e : id = t
    · subst e
      simp only [if_true]
      rw [List.getElem?_set_self htl] at hid
      injection hid with hid
      subst hid
      exact hob
    · rw [if_neg e]
      rw [List.getElem?_set_ne (fun h => e h.symm)] at hid
      exact (ho.obj id o hid).keep0 hl.toLe0 (fun b hb => hst id b e hb) fun k => hlg id k e
  · by_cases ei : i = t
    · by_cases ej : j = t
      · omega
      · simp only [ei, if_true] at hi
        simp only [ej, if_false] at hj
        exact absurd hi (hne j b ej hj)
    · by_cases ej : j = t
      · simp only [ej, if_true] at hj
        simp only [ei, if_false] at hi
        exact absurd hj (hne i b ei hi)
      · simp only [ei, ej, if_false] at hi hj
        exact ho.inj i j b hi hj
  · by_cases e : id = t
    · subst e
      simp only [if_true] at hid
      obtain ⟨h1, h2⟩ := hblt b hid
      exact ⟨by simpa using htl, by rw [hl.B]; exact h1, h2⟩
    · simp only [e, if_false] at hid
      obtain ⟨h1, h2, h3⟩ := ho.lt id b hid
      exact ⟨by simpa using h1, by rw [hl.B]; exact h2, Nat.lt_of_lt_of_le h3 hl.size⟩
section
variable {P : Program} {rd : Option Nat} {o : Oper} {env : Env} {σ : MS} {K : MV → MS → Prop}
theorem gets_append_ow {g : Gh} {w : World} (hr : Rel g σ w) {tt ty' e sz bytes t n : Nat} {l : List MV} (hu : P.underlying tt = some (.slice e)) (he : elemOk P e sz bytes = true) (hσ : σ[t]? = some (.orow e sz n l)) {ys : List MV} {tok : Option Nat} {v vy : Value} (hx : Rd g w (.ow t sz n) v)
    (hy : Rd g w (.lst tok sz ys) vy) (hbound : (n + ys.length) * bytes ≤ 140737488355328) (hml : n + ys.length ≤ 4611686018427387904) (hK : K (.ow t sz (n + ys.length)) (σ.set t (.orow e sz (n + ys.length) (l ++ flat ys)))) :
    ∃ v' w', (Builtin.append_ #[tt, tt] ty' #[v, vy]).run P w = .ok v' w' ∧ Gets g w K v' w' := by
  obtain ⟨i, z, hi, hz, hs, hb, hzs, hpos⟩ := elemOk_spec he
  have hlv := hx.inv_ow
  obtain ⟨a', c', us', hvy, k1, k2, k3, k4, k5, _⟩ := hy.inv_lst
  have hsmall : n + ys.length ≤ maxLen := by simp only [maxLen]; omega
  have hlen' : us'.length = ys.length * i.size := by rw [hs, k4.1, flat_length k3]
  obtain ⟨own, ho⟩ := hr.ex
  obtain ⟨v0, us, f1, f2, f3, f4, f5, f6⟩ := ho.obj t _ hσ
  have hvv : v0 = v := by
    rw [hlv] at f1
    injection f1 with f1
    exact f1.symm
  subst hvv
  have htl : t < σ.length := (zI.1 hσ).1
  have hlen : us.length = n * i.size := by rw [hs]; exact f2.1
  by_cases hm : ys = []
  · subst hm
    simp only [List.length_nil, Nat.add_zero, flat_nil, List.append_nil] at hK
    rw [set_self hσ] at hK
    refine ⟨v0, w, ?_, .same hK hr hx⟩
    subst hvy
    have e0 : ∀ ad : Addr, (loadCells ad 0).run P w = .ok #[] w := fun ad => rfl
    rcases f2.2 with ⟨rfl, rfl⟩ | ⟨b, cap, cur, rfl, _, _, hnc, _⟩
    · cases a' <;> simp [Builtin.append_, run_underlying hu, sizeOf, typeInfo, hi, Builtin.lenOf, Builtin.firstCells, e0]
    · cases a' <;> simp [Builtin.append_, run_underlying hu, sizeOf, typeInfo, hi, Builtin.lenOf, Builtin.firstCells, hnc, e0, storeCells]
  have hmpos : 0 < ys.length := List.length_pos_iff.2 hm
  have hp' : 0 < us'.length := by rw [hlen', hs]; exact Nat.mul_pos hmpos hpos
  obtain ⟨ad', rfl, _⟩ := k5 0 us'[0] (zD hp')
  have hnews : ∀ (j : Nat) (u : Value), us'[j]? = some u → w.cell? (ad'.add j) = some u := fun j u hj => by
    obtain ⟨ad2, e2, hst⟩ := k5 j u hj
    injection e2 with e2
    subst e2
    exact hst.2.1
  have hone : ∀ u ∈ us', u.oneCell' = true := fun u hmem => by
    obtain ⟨j, hj⟩ := List.getElem?_of_mem hmem
    obtain ⟨_, _, hst⟩ := k5 j u hj
    exact hst.2.2
  have fresh_case : ∀ (cap : Nat) (rest : Array Value), n + ys.length ≤ cap → cap ≤ maxLen → rest.size = (cap - (n + ys.length)) * sz →
      Gets g w K (.slice (some ⟨w.heap.size, 0, none⟩) (n + ys.length) cap) (w.drew.alloc (.cells (us.toArray ++ us'.toArray ++ rest) e)) := by
    intro cap rest hcap hcm hrest
    have harr : us.toArray ++ us'.toArray ++ rest = (us ++ us' ++ rest.toList).toArray := by
      apply Array.ext'
      simp
    rw [harr]
    have hr1 := hr.drew
    have l1 := Le.drew g w
    have l2 := Le.alloc_stab hr1 (.cells (us ++ us' ++ rest.toList).toArray e) 0
    have r2 := hr1.alloc_stab (.cells (us ++ us' ++ rest.toList).toArray e) 0
    generalize hg1 : g.stab w.drew.heap.size 0 = g1 at l2 r2
    generalize hw1 : w.drew.alloc (.cells (us ++ us' ++ rest.toList).toArray e) = w1 at l2 r2
    have ho1 : Owns g1 σ w1 own := by
      refine ho.keep (l1.trans l2) (fun id b e => ?_) (fun _ _ => by rw [← hg1]; rfl)
      have hlt := (ho.lt id b e).2.2
      rw [← hg1, ← hw1]
      refine ⟨Below.heap_alloc w.drew _ b hlt, ?_⟩
      simp only [Gh.stab]
      exact if_neg (Nat.ne_of_lt hlt)
    have l3 : Le g1 w1 (g1.log t (n + ys.length) (.slice (some ⟨w.heap.size, 0, none⟩) (n + ys.length) cap)) w1 := by
      refine ⟨⟨rfl, rfl, fun _ _ h => ⟨h, rfl⟩, fun _ _ h => h, fun s k u hv => ?_, Nat.le_refl _⟩, fun _ _ h => h⟩
      simp only [Gh.log]
      rw [if_neg]
      · exact hv
      · rintro ⟨rfl, rfl⟩
        have : g1.lg s (n + ys.length) = g.lg s (n + ys.length) := by rw [← hg1]; rfl
        rw [this, f5 _ (by omega)] at hv
        cases hv
    have hheap : w1.heap[w.heap.size]? = some (.cells (us ++ us' ++ rest.toList).toArray e (0, 0)) := by rw [← hw1]; exact heap_new w.drew _
    have hsz : w1.heap.size = w.heap.size + 1 := by rw [← hw1]; simp
    have hcurlen : (us ++ us' ++ rest.toList).length = cap * sz := by
      simp only [zN, hlen, hlen', hs, Array.length_toList, hrest]
      rw [← Nat.add_mul, ← Nat.add_mul]
      congr 1
      omega
    have hlall : (us ++ us').length = (n + ys.length) * sz := by rw [zN, hlen, hlen', hs, Nat.add_mul]
    have lall := l1.trans (l2.trans l3)
    refine ⟨_, _, g1.log t (n + ys.length) (.slice (some ⟨w.heap.size, 0, none⟩) (n + ys.length) cap), hK, ?_, ?_, lall⟩
    · refine Rel.obj_set r2 htl ho1 l3 r2.below r2.fresh rfl (fun id k hid => ?_) (fun id b hid hb => ⟨rfl, rfl⟩) (ob := some w.heap.size) ?_ (fun id b hid hb e => ?_) (fun b hb => ?_)
      · simp only [Gh.log]; rw [if_neg (fun h => hid h.1)]
      · refine ⟨.slice (some ⟨w.heap.size, 0, none⟩) (n + ys.length) cap, us ++ us', by simp [Gh.log], ?_, rfl, fun b hb => ?_, fun k hk => ?_, (f6.mono lall).append (k4.mono lall)⟩
        · refine ⟨hlall, .inr ⟨w.heap.size, cap, _, rfl, ?_, hheap, hcap, hcm, by simpa using hcurlen, ?_⟩⟩
          · have : (g1.log t (n + ys.length) (.slice (some ⟨w.heap.size, 0, none⟩) (n + ys.length) cap)).B = g.B := lall.B
            rw [this]
            exact hr.size
          · rw [← hlall]
            exact List.take_left
        · injection hb with hb
          subst hb
          rw [← hg1]
          simp only [Gh.log, Gh.stab]
          exact if_pos rfl
        · simp only [Gh.log]
          rw [if_neg (by omega), ← hg1]
          exact f5 k (by omega)
      · have := (ho.lt id b hb).2.2
        injection e with e
        omega
      · injection hb with hb
        subst hb
        refine ⟨?_, by omega⟩
        rw [← hg1]
        exact hr.size
    · exact .ow _ _ _ _ (by simp [Gh.log]) rfl rfl
  rcases f2.2 with ⟨hv0, hn0⟩ | ⟨b, cap, cur, hv0, hbB, hheap, hnc, hcm, hcs, htake⟩
  ·
    subst hv0
    have hus : us = [] := List.eq_nil_of_length_eq_zero (by rw [hlen, hn0]; simp)
    have hrun := run_append_nil (P := P) w tt ty' e i z hu hi hz ad' ys.length c' us' hlen' hnews hmpos (by omega) (by rw [hb]; rw [hn0] at hbound; simp only [Nat.zero_add] at hbound; omega)
    have hfc := fresh_case (grownCap w ys.length 0 e) (Builtin.zeroCells z.cells (grownCap w ys.length 0 e - ys.length)) (by rw [hn0, Nat.zero_add]; exact grownCap_ge w _ _ _) (grownCap_le_maxLen w _ _ _ (by rw [hn0] at hsmall; omega)) (by rw [size_zeroCells, hzs, hn0]; simp)
    rw [hus, hn0] at hfc
    simp only [Nat.zero_add, Array.empty_append] at hfc
    exact ⟨_, _, by rw [hvy]; exact hrun, hfc⟩
  · subst hv0
    have holds' : ∀ (j : Nat) (u : Value), us[j]? = some u → w.cell? ((⟨b, 0, none⟩ : Addr).add j) = some u := fun j u hj => by
      have hjl : j < n * sz := by rw [← hs, ← hlen]; exact (zI.1 hj).1
      rw [zA6]
      simp only [World.cell?, hheap, Nat.zero_add, Option.isSome_none, Bool.false_eq_true, if_false]
      rw [← htake, List.getElem?_take, if_pos hjl] at hj
      simpa using hj
    by_cases hroom : n + ys.length ≤ cap
    ·
      have hfit : n * i.size + us'.length ≤ cur.size := by rw [hlen', hcs, hs, ← Nat.add_mul]; exact Nat.mul_le_mul_right _ hroom
      have hrun := run_append_room (P := P) w tt ty' e i hu hi b n cap cur hheap ad' ys.length c' us' hlen' hnews hone hroom hfit
      generalize hnc' : (cur.toList.take (n * i.size) ++ us' ++ cur.toList.drop (n * i.size + us'.length)).toArray = ncur at hrun
      have hob : own t = some b := by rw [← f3]; rfl
      have hstb : g.st b = 0 := f4 b hob
      have hbl := ho.lt t b hob
      have hheap' : (w.setRow b ncur).heap[b]? = some (.cells ncur e (0, 0)) := setRow_heap w b cur ncur e _ hheap
      have hother : ∀ k, k ≠ b → (w.setRow b ncur).heap[k]? = w.heap[k]? := fun k hk => setRow_other w b k ncur hk
      have hncur : ncur.toList = us ++ us' ++ cur.toList.drop ((n + ys.length) * sz) := by
        rw [← hnc', hs, htake, hlen', hs, ← Nat.add_mul]
      have hlall : (us ++ us').length = (n + ys.length) * sz := by rw [zN, hlen, hlen', hs, Nat.add_mul]
      let g1 : Gh := g.log t (n + ys.length) (.slice (some ⟨b, 0, none⟩) (n + ys.length) cap)
      have hl : Le g w g1 (w.setRow b ncur) := by
        refine ⟨⟨rfl, rfl, fun k j hj => ?_, fun _ _ h => h, fun s k u hu => ?_, by simp⟩, fun k x hxk => ?_⟩
        · by_cases ek : k = b
          · rw [ek, hstb] at hj
            exact absurd hj (Nat.not_lt_zero _)
          · exact ⟨hj, World.cell?_of_block (w := w) (a := ⟨k, j, none⟩) (hother k ek)⟩
        · show (if s = t ∧ k = n + ys.length then _ else g.lg s k) = _
          rw [if_neg]
          · exact hu
          · rintro ⟨rfl, rfl⟩
            rw [f5 _ (by omega)] at hu
            cases hu
        · have : k ≠ b := fun e => by rw [e, hheap] at hxk; cases hxk
          exact (hother k this).trans hxk
      refine ⟨_, _, by rw [hvy]; exact hrun, _, _, g1, hK, ?_, ?_, hl⟩
      · refine Rel.obj_set hr htl ho hl (hr.below.trans ⟨rfl, rfl, rfl, by simp, fun k hk => hother k (by omega)⟩) (fun k hk => ?_) rfl (fun id k hid => ?_) (fun id k hid hk => ?_) (ob := some b) ?_ (fun id k hid hk e => ?_) (fun k hk => ?_)
        · simp only [setRow_size] at hk
          exact hr.fresh k hk
        · show (if id = t ∧ k = n + ys.length then _ else g.lg id k) = _
          rw [if_neg (fun h => hid h.1)]
        · have hkb : k ≠ b := fun e => by subst e; exact hid (ho.inj _ _ _ hk hob)
          exact ⟨hother k hkb, rfl⟩
        · refine ⟨.slice (some ⟨b, 0, none⟩) (n + ys.length) cap, us ++ us', ?_, ⟨hlall, .inr ⟨b, cap, ncur, rfl, hbB, hheap', hroom, hcm, ?_, ?_⟩⟩, rfl, fun k hk => ?_, fun k hk => ?_, (f6.mono hl).append (k4.mono hl)⟩
          · show (if t = t ∧ n + ys.length = n + ys.length then _ else _) = _
            rw [if_pos ⟨rfl, rfl⟩]
          · have hcl : cur.toList.length = cap * sz := by rw [Array.length_toList, hcs]
            have : (n + ys.length) * sz ≤ cap * sz := Nat.mul_le_mul_right _ hroom
            rw [← Array.length_toList, hncur, zN, hlall, List.length_drop, hcl]
            omega
          · rw [hncur, ← hlall, zC0, ← zC0 us us']
            exact List.take_left
          · injection hk with hk
            subst hk
            exact hstb
          · show (if t = t ∧ k = n + ys.length then _ else g.lg t k) = none
            rw [if_neg (by omega)]
            exact f5 k (by omega)
        · injection e with e
          subst e
          exact hid (ho.inj _ _ _ hk hob)
        · injection hk with hk
          subst hk
          exact ⟨hbl.2.1, by simpa using hbl.2.2⟩
      · refine .ow _ _ _ _ ?_ rfl rfl
        show (if t = t ∧ n + ys.length = n + ys.length then _ else _) = _
        rw [if_pos ⟨rfl, rfl⟩]
    ·
      have hrun := run_append_grow (P := P) w tt ty' e i z hu hi hz ⟨b, 0, none⟩ n cap us hlen holds' ad' ys.length c' us' hlen' hnews (by omega) (by omega) (growslice_fits (by omega) (by rw [hb]; exact hbound))
      exact ⟨_, _, by rw [hvy]; exact hrun, fresh_case _ _ (grownCap_ge w _ _ _) (grownCap_le_maxLen w _ _ _ hsmall) (by rw [size_zeroCells, hzs])⟩
theorem op_append_ow {t e sz bytes id n : Nat} {x y : Operand} {tok : Option Nat} {l ys : List MV} (ho : o.op = .call { callee := .builtin .append, args := #[x, y], argTypes := #[t, t] }) (hu : P.underlying t = some (.slice e)) (he : elemOk P e sz bytes = true)
    (hx : evo env x = some (.ow id sz n)) (hy : evo env y = some (.lst tok sz ys)) (hσ : σ[id]? = some (.orow e sz n l)) (hb : (n + ys.length) * bytes ≤ 140737488355328) (hml : n + ys.length ≤ 4611686018427387904)
    (hK : K (.ow id sz (n + ys.length)) (σ.set id (.orow e sz (n + ys.length) (l ++ flat ys)))) : OpWp P rd o env σ K := by
  refine OpWp.of_run (by simp [ho]) fun g w a hr hop => ?_
  obtain ⟨v', w', hrun, hg⟩ := gets_append_ow (ty' := o.type) hr hu he hσ (hop x (by simp [ho, Op.operands, Call.operands]) _ hx) (hop y (by simp [ho, Op.operands, Call.operands]) _ hy) hb hml hK
  refine ⟨v', w', ?_, hg⟩
  simp [execOp, ho, resolve, invoke, builtin, hrun]
theorem ow_new {g : Gh} {σ : MS} {w : World} (h : Rel g σ w) (ty sz : Nat) : Rel (g.log σ.length 0 (.slice none 0 0)) (σ ++ [.orow ty sz 0 []]) w ∧ Le g w (g.log σ.length 0 (.slice none 0 0)) w ∧ Rd (g.log σ.length 0 (.slice none 0 0)) w (.ow σ.length sz 0) (.slice none 0 0) := by
  obtain ⟨r1, l1, d1⟩ := tok_new h ty sz
  refine ⟨?_, l1, .ow _ _ _ _ (by simp [Gh.log]) rfl rfl⟩
  obtain ⟨own, hown⟩ := r1.ex
  obtain ⟨v, us, e1, e2, e3, e4, e5⟩ := hown.obj σ.length (.row ty sz 0) (by simp)
  have hv : v = .slice none 0 0 := by
    simp [Gh.log] at e1
    exact e1.symm
  subst hv
  have hno : own σ.length = none := e3.symm
  have hus : us = [] := List.eq_nil_of_length_eq_zero (by rw [e2.1]; simp)
  subst hus
  have := Rel.obj_set r1 (t := σ.length) (mo := .orow ty sz 0 []) (by simp) hown (Le.refl _ _) r1.below r1.fresh rfl (fun _ _ _ => rfl) (fun _ _ _ _ => ⟨rfl, rfl⟩) (ob := none) ⟨_, [], e1, e2, rfl, fun b hb => (by cases hb), e5, .nil _ _⟩ (fun _ _ _ _ e => by cases e) (fun b hb => by cases hb)
  simpa using this
theorem op_append0_ow {t e sz bytes : Nat} {x y : Operand} {tok : Option Nat} {ys : List MV} (ho : o.op = .call { callee := .builtin .append, args := #[x, y], argTypes := #[t, t] }) (hu : P.underlying t = some (.slice e)) (he : elemOk P e sz bytes = true)
    (hx : evo env x = some .lst0) (hy : evo env y = some (.lst tok sz ys)) (hb : ys.length * bytes ≤ 140737488355328) (hml : ys.length ≤ 4611686018427387904)
    (hK : K (.ow σ.length sz ys.length) (σ ++ [.orow e sz ys.length (flat ys)])) : OpWp P rd o env σ K := by
  refine OpWp.of_run (by simp [ho]) fun g w a hr hop => ?_
  have hv := (hop x (by simp [ho, Op.operands, Call.operands]) _ hx).inv_lst0
  obtain ⟨r1, l1, d1⟩ := ow_new hr e sz
  obtain ⟨v', w', hrun, hg⟩ := gets_append_ow (P := P) (K := K) (ty' := o.type) (t := σ.length) (n := 0) (l := []) r1 hu he (by simp) d1 ((hop y (by simp [ho, Op.operands, Call.operands]) _ hy).mono l1) (by simpa using hb) (by simpa using hml) (by simpa using hK)
  refine ⟨v', w', ?_, hg.le l1⟩
  simp [execOp, ho, resolve, invoke, builtin, hv, hrun]
theorem op_indexAddr_ow {t e : TypeId} {x y : Operand} {id sz n i : Nat} {k : IntKind} {m : Int} {l : List MV} (ho : o.op = .indexAddr t x y) (hu : P.underlying t = some (.slice e)) (hs : szOf P e = some sz) (hx : evo env x = some (.ow id sz n)) (hy : evo env y = some (.int k m)) (hm : m = (i : Int)) (hi : i < n)
    (hσ : σ[id]? = some (.orow e sz n l)) (h : K (.orf id n (i * sz)) σ) : OpWp P rd o env σ K := by
  subst hm
  refine OpWp.of_run (by simp [ho]) fun g w a hr hop => ?_
  have hlv := (hop x (by simp [ho, Op.operands]) _ hx).inv_ow
  have e2 := (hop y (by simp [ho, Op.operands]) _ hy).inv_int
  obtain ⟨own, hown⟩ := hr.ex
  obtain ⟨v0, us, f1, f2, _⟩ := hown.obj id _ hσ
  rw [hlv] at f1
  injection f1 with f1
  rcases f2.2 with ⟨_, h0⟩ | ⟨b, cap, cur, hv0, _⟩
  · omega
  · rw [hv0] at f1
    rw [f1] at hlv
    refine ⟨_, w, ?_, .same h hr (.orf _ _ _ b cap hlv)⟩
    simp [execOp, ho, Instr.indexAt, f1, e2, asIntOf, run_underlying hu, hi, szOf_run hs, zA6]
theorem op_load_orf {t ty : TypeId} {x : Operand} {id sz n off : Nat} {l : List MV} {ta : Option Nat} {m : MV} (ho : o.op = .load t x) (hx : evo env x = some (.orf id n off)) (hσ : σ[id]? = some (.orow ty sz n l)) (ht : tyAgg P t = some ta) (hm : loadMV ta l off = some m) (h : K m σ) : OpWp P rd o env σ K := by
  refine OpWp.of_run (by simp [ho]) fun g w a hr hop => ?_
  obtain ⟨b, c, hlv, e⟩ := (hop x (by simp [ho, Op.operands]) _ hx).inv_orf
  obtain ⟨own, hown⟩ := hr.ex
  obtain ⟨v0, us, f1, f2, f3, f4, f5, f6⟩ := hown.obj id _ hσ
  rw [hlv] at f1
  injection f1 with f1
  subst f1
  rcases f2.2 with ⟨hv0, _⟩ | ⟨b', cap, cur, hv0, hbB, hheap, hnc, hcm, hcs, htake⟩
  · cases hv0
  · injection hv0 with e1 e2 e3
    injection e1 with e1
    injection e1 with e1
    subst e1
    obtain ⟨v, hrun, hrd⟩ := run_loadVar_at (P := P) ht (f6.drop off) (ad := ⟨b, off, none⟩) (w := w) (fun j u hj => by
      rw [List.getElem?_drop] at hj
      have hjl : off + j < n * sz := by rw [← f2.1]; exact (zI.1 hj).1
      rw [zA6]
      simp only [World.cell?, hheap, Option.isSome_none, Bool.false_eq_true, if_false]
      rw [← htake, List.getElem?_take, if_pos hjl] at hj
      simpa using hj) (loadMV_drop hm)
    refine ⟨v, w, ?_, .same h hr hrd⟩
    simp [execOp, ho, e, Instr.loadAt, Instr.sureAddr, hrun]
theorem op_store_orf {t ty : TypeId} {x y : Operand} {id sz n off : Nat} {l : List MV} {m : MV} {k : Nat} (ho : o.op = .store t x y) (hx : evo env x = some (.orf id n off)) (hy : evo env y = some m) (hσ : σ[id]? = some (.orow ty sz n l)) (hk : szOf P t = some k) (hm : m.cells.length = k)
    (h1 : m.cells.all MV.one = true) (hle : off + k ≤ l.length) (h : K (.tup []) (σ.set id (.orow ty sz n (setMany l off m.cells)))) : OpWp P rd o env σ K := by
  refine OpWp.of_skip (by simp [ho]) fun g w a hr hop => ?_
  obtain ⟨b, c, hlv, e⟩ := (hop x (by simp [ho, Op.operands]) _ hx).inv_orf
  have hrd := hop y (by simp [ho, Op.operands]) _ hy
  obtain ⟨us, hus, hrds⟩ := rds_cells hrd
  obtain ⟨own, hown⟩ := hr.ex
  obtain ⟨v0, old, f1, f2, f3, f4, f5, f6⟩ := hown.obj id _ hσ
  rw [hlv] at f1
  injection f1 with f1
  subst f1
  have htl : id < σ.length := (zI.1 hσ).1
  rcases f2.2 with ⟨hv0, _⟩ | ⟨b', cap, cur, hv0, hbB, hheap, hnc, hcm, hcs, htake⟩
  · cases hv0
  injection hv0 with e1 e2 e3
  injection e1 with e1
  injection e1 with e1
  subst e1
  have hlen : us.length = k := by rw [hrds.1, hm]
  have hold : old.length = l.length := f6.1
  have hone : ∀ v ∈ us, v.oneCell' = true := by
    intro v hv
    obtain ⟨j, hj⟩ := List.getElem?_of_mem hv
    have hjl : j < m.cells.length := by rw [hm, ← hlen]; exact (zI.1 hj).1
    have := hrds.2 j _ v (zD hjl) hj
    rw [List.all_eq_true] at h1
    exact one_cell this (h1 _ (List.getElem_mem hjl))
  have hsz : n * sz ≤ cur.size := by rw [hcs]; exact Nat.mul_le_mul_right _ hnc
  have hon : old.length = n * sz := f2.1
  have hcure : cur.toList = old ++ cur.toList.drop (n * sz) := by rw [← htake]; exact (List.take_append_drop _ _).symm
  have hrun := run_storeCells_fr P b off ty (0, 0) us 0 cur w hheap (.inl rfl) (by rw [hlen]; simp; omega) hone
  have hst : (storeVar t ⟨b, off, none⟩ (a.eval y)).run P w = (storeCells ⟨b, off, none⟩ us).run P w := by
    have hsz' : (a.eval y).cells.size = k := by rw [hus]; simpa using hlen
    simp [storeVar, szOf_run hk, hsz', hus, hlen]
  generalize hnc' : (cur.toList.take (off + 0) ++ us ++ cur.toList.drop (off + 0 + us.length)).toArray = ncur at hrun
  have hob : own id = some b := by rw [← f3]; rfl
  have hstb : g.st b = 0 := f4 b hob
  have hbl := hown.lt id b hob
  have hheap' : (w.setRow b ncur).heap[b]? = some (.cells ncur ty (0, 0)) := setRow_heap w b cur ncur ty _ hheap
  have hother : ∀ k, k ≠ b → (w.setRow b ncur).heap[k]? = w.heap[k]? := fun k hk => setRow_other w b k ncur hk
  have hncur : ncur.toList = (old.take off ++ us ++ old.drop (off + us.length)) ++ cur.toList.drop (n * sz) := by
    rw [← hnc', Nat.add_zero]
    show cur.toList.take off ++ us ++ cur.toList.drop (off + us.length) = _
    rw [hcure, List.take_append_of_le_length (by omega), List.drop_append_of_le_length (by omega), ← hcure, zC0, zC0, zC0]
  have hl : Le g w g (w.setRow b ncur) := by
    refine ⟨⟨rfl, rfl, fun k j hj => ?_, fun _ _ h => h, fun s k u hu => hu, by simp⟩, fun k x hxk => ?_⟩
    · by_cases ek : k = b
      · rw [ek, hstb] at hj
        exact absurd hj (Nat.not_lt_zero _)
      · exact ⟨hj, World.cell?_of_block (w := w) (a := ⟨k, j, none⟩) (hother k ek)⟩
    · have : k ≠ b := fun e => by rw [e, hheap] at hxk; cases hxk
      exact (hother k this).trans hxk
  have hnl : (old.take off ++ us ++ old.drop (off + us.length)).length = n * sz := by simp; omega
  refine ⟨w.setRow b ncur, ?_, .tup [], _, g, h, ?_, rd_undef _ _, hl⟩
  · simp only [execOp, ho, e, Instr.storeAt, Instr.sureAddr, Sem.run_bind, Sem.run_pure, Result.andThen_ok, hst, hrun]
  · refine Rel.obj_set hr htl hown hl (hr.below.trans ⟨rfl, rfl, rfl, by simp, fun k hk => hother k (by omega)⟩) (fun k hk => ?_) rfl (fun _ _ _ => rfl) (fun i k hid hk => ?_) (ob := some b) ?_ (fun i k hid hk e => ?_) (fun k hk => ?_)
    · simp only [setRow_size] at hk
      exact hr.fresh k hk
    · have hkb : k ≠ b := fun e => by subst e; exact hid (hown.inj _ _ _ hk hob)
      exact ⟨hother k hkb, rfl⟩
    · refine ⟨_, old.take off ++ us ++ old.drop (off + us.length), hlv, ⟨hnl, .inr ⟨b, cap, ncur, by rw [e3], hbB, hheap', hnc, hcm, ?_, ?_⟩⟩, rfl, fun k hk => ?_, f5, ?_⟩
      · rw [← Array.length_toList, hncur, zN, hnl, List.length_drop, Array.length_toList, hcs]
        rw [hcs] at hsz
        omega
      · rw [hncur, ← hnl]
        exact List.take_left
      · injection hk with hk
        subst hk
        exact hstb
      · unfold setMany
        rw [hm, ← hlen]
        exact (((f6.mono hl).take off).append (hrds.mono hl)).append ((f6.mono hl).drop _)
    · injection e with e
      subst e
      exact hid (hown.inj _ _ _ hk hob)
    · injection hk with hk
      subst hk
      exact ⟨hbl.2.1, by simpa using hbl.2.2⟩
end
theorem Rel.ow_freeze {g : Gh} {σ : MS} {w : World} (h : Rel g σ w) {id ty sz n : Nat} {l xs : List MV} (hσ : σ[id]? = some (.orow ty sz n l)) (hxs : flat xs = l) (hn : xs.length = n) (hsz : ∀ x ∈ xs, x.cells.length = sz) (h1 : ∀ y ∈ l, y.one = true) :
    ∃ g', Rel g' (σ.set id (.row ty sz n)) w ∧ Le g w g' w ∧ ∀ v, Rd g w (.ow id sz n) v → Rd g' w (.lst (some id) sz xs) v := by
  obtain ⟨own, hown⟩ := h.ex
  obtain ⟨v0, us, f1, f2, f3, f4, f5, f6⟩ := hown.obj id _ hσ
  have htl : id < σ.length := (zI.1 hσ).1
  rcases f2.2 with ⟨hv0, h0⟩ | ⟨b, cap, cur, hv0, hbB, hheap, hnc, hcm, hcs, htake⟩
  · subst hv0
    subst h0
    have hxn : xs = [] := List.eq_nil_of_length_eq_zero hn
    subst hxn
    have hno : own id = none := f3.symm
    refine ⟨g, ?_, .refl _ _, fun v hv => ?_⟩
    · exact Rel.obj_set h htl hown (.refl _ _) h.below h.fresh rfl (fun _ _ _ => rfl) (fun _ _ _ _ => ⟨rfl, rfl⟩) (ob := none) ⟨_, us, f1, f2, rfl, fun b hb => (by cases hb), f5⟩ (fun _ _ _ _ e => by cases e) (fun b hb => by cases hb)
    · have := hv.inv_ow
      rw [f1] at this
      injection this with this
      subst this
      exact .lst' (us := []) rfl (by simp) (by simp [maxLen]) (by simp) (.nil _ _) (by simp) (fun t ht => by injection ht with ht; subst ht; rw [f1])
  · subst hv0
    have hob : own id = some b := by rw [← f3]; rfl
    have hstb : g.st b = 0 := f4 b hob
    have hbl := hown.lt id b hob
    have hl : Le g w (g.stab b (n * sz)) w := by
      refine ⟨⟨rfl, rfl, fun k j hj => ⟨?_, rfl⟩, fun _ _ h => h, fun _ _ _ h => h, Nat.le_refl _⟩, fun _ _ h => h⟩
      simp only [Gh.stab]
      split
      · rename_i ek
        rw [ek, hstb] at hj
        exact absurd hj (Nat.not_lt_zero _)
      · exact hj
    have hcell : ∀ j u, us[j]? = some u → w.cell? ⟨b, j, none⟩ = some u := fun j u hj => by
      have hjl : j < n * sz := by rw [← f2.1]; exact (zI.1 hj).1
      simp only [World.cell?, hheap, Option.isSome_none, Bool.false_eq_true, if_false]
      rw [← htake, List.getElem?_take, if_pos hjl] at hj
      simpa using hj
    refine ⟨g.stab b (n * sz), ?_, hl, fun v hv => ?_⟩
    · refine Rel.obj_set h htl hown hl h.below (fun k hk => ?_) rfl (fun _ _ _ => rfl) (fun i k hid hk => ?_) (ob := some b) ⟨_, us, f1, f2, rfl, fun k hk => ?_, f5⟩ (fun i k hid hk e => ?_) (fun k hk => ?_)
      · simp only [Gh.stab]
        rw [if_neg (by omega)]
        exact h.fresh k hk
      · have hkb : k ≠ b := fun e => by subst e; exact hid (hown.inj _ _ _ hk hob)
        refine ⟨rfl, ?_⟩
        simp only [Gh.stab]
        rw [if_neg hkb]
      · injection hk with hk
        subst hk
        simp [Gh.stab]
      · injection e with e
        subst e
        exact hid (hown.inj _ _ _ hk hob)
      · injection hk with hk
        subst hk
        exact hbl.2
    · have := hv.inv_ow
      rw [f1] at this
      injection this with this
      subst this
      refine .lst' (us := us) hn hnc hcm hsz ?_ (fun j u hj => ⟨⟨b, 0, none⟩, rfl, ?_, ?_, ?_⟩) (fun t ht => by injection ht with ht; subst ht; exact f1)
      · rw [hxs]; exact f6.mono hl
      · rw [zA6]
        have hjl : j < n * sz := by rw [← f2.1]; exact (zI.1 hj).1
        simp [Gh.stab]
        exact hjl
      · rw [zA6, Nat.zero_add]
        exact hcell j u hj
      · have hjl : j < l.length := by rw [← f6.1]; exact (zI.1 hj).1
        exact one_cell (f6.2 j _ u (zD hjl) hj) (h1 _ (List.getElem_mem hjl))
theorem mwp_owfreeze {P : Program} {rd : Option Nat} {N n : Nat} {c : Code} {Q : Exit → Env → MS → Prop} {env : Env} {σ : MS} (k i : Nat) {id ty sz m : Nat} {cs l xs : List MV} (hk : σ[k]? = some (.cells cs)) (hi : cs[i]? = some (.ow id sz m)) (hσ : σ[id]? = some (.orow ty sz m l)) (hxs : flat xs = l) (hn : xs.length = m) (hsz : ∀ x ∈ xs, x.cells.length = sz) (h1 : ∀ y ∈ l, y.one = true)
    (h : mwp P rd N n c Q env ((σ.set id (.row ty sz m)).set k (.cells (cs.set i (.lst (some id) sz xs))))) : mwp P rd N n c Q env σ := by
  refine zZ5 (fun g w tmps hr he => ?_) h
  obtain ⟨g', r1, l1, hv⟩ := hr.ow_freeze hσ hxs hn hsz h1
  have hne : id ≠ k := fun e => by subst e; rw [hk] at hσ; cases hσ
  refine ⟨g', ?_, he.mono l1, l1.toN N, fun F hF => hF.mono (l1.toN N)⟩
  obtain ⟨own, hown⟩ := hr.ex
  obtain ⟨b, us0, ty0, e1, e2, e3, e4, e5⟩ := hown.obj k _ hk
  obtain ⟨u, hu, hrd⟩ := e5.get hi
  have hk' : (σ.set id (.row ty sz m))[k]? = some (.cells cs) := by rw [List.getElem?_set_ne hne]; exact hk
  refine r1.recell hk' fun us hus => ?_
  obtain ⟨u2, hu2, hrd2⟩ := hus.get hi
  have hs := hus.set i (x := .lst (some id) sz xs) (u := u2) ?_
  · obtain ⟨hul, hue⟩ := zI.1 hu2
    rwa [show us.set i u2 = us by rw [← hue]; exact List.set_getElem_self hul] at hs
  · have e7 := hrd2.inv_ow
    have e8 := hrd.inv_ow
    have : u2 = u := by
      have := l1.lg _ _ _ e8
      rw [e7] at this
      injection this
    subst this
    exact hv _ hrd
theorem mwp_cellow {P : Program} {rd : Option Nat} {N n : Nat} {c : Code} {Q : Exit → Env → MS → Prop} {env : Env} {S L L' : MS} (k i ty sz : Nat) {m : Nat} {l : List MV} (hk : L[k]? = some (.cells l)) (hi : l[i]? = some .lst0) (hm : L.length = m) (hL : L.set k (.cells (l.set i (.ow (S.length + m) sz 0))) ++ [.orow ty sz 0 []] = L') (h : mwp P rd N n c Q env (S ++ L')) : mwp P rd N n c Q env (S ++ L) := by
  subst hm hL
  refine zZ5 (fun g w tmps hr he => ?_) h
  obtain ⟨r1, l1, d1⟩ := ow_new hr ty sz
  have hlen : (S ++ L).length = S.length + L.length := zN
  refine ⟨_, ?_, he.mono l1, l1.toN N, fun F hF => hF.mono (l1.toN N)⟩
  have hlt := (zI.1 hk).1
  have e : S ++ (L.set k (.cells (l.set i (.ow (S.length + L.length) sz 0))) ++ [.orow ty sz 0 []]) = ((S ++ L) ++ [MObj.orow ty sz 0 []]).set (S.length + k) (.cells (l.set i (.ow (S.length + L.length) sz 0))) := by
    rw [zC0, zM4, List.set_append_left _ _ hlt]
  rw [e]
  refine r1.recell (l := l) (by rw [zC0, getElem?_own, List.getElem?_append_left hlt]; exact hk) fun us hus => ?_
  obtain ⟨u, hu, hrd⟩ := hus.get hi
  have hs := hus.set i (x := .ow (S.length + L.length) sz 0) (u := u) (by rw [hrd.inv_lst0, ← hlen]; exact d1)
  obtain ⟨hul, hue⟩ := zI.1 hu
  rwa [show us.set i u = us by rw [← hue]; exact List.set_getElem_self hul] at hs
end
section
def OkD (ops : Array Oper) (i : Nat) (o : Oper) (D : Nat → Bool) : Prop := D i = false ∧ (∀ e, bindsOn o e = true → D e = true) ∧ ∀ (j : Nat) (p : Oper), ops[j]? = some p → D j = true → ∀ e, bindsOn p e = true → D e = true
def updD (D : Nat → Bool) (i : Nat) : Nat → Bool := fun j => if j = i then true else D j
def dOpsS (P : Program) (rd : Option Nat) (ops : Array Oper) (st : (Nat → Bool) → MS) (Q : Env → Prop) : List Oper → Nat → Env → Prop
  | [], _, env => Q env
  | o :: rest, i, env =>
    match guardOk ops env o with
    | some true => ∃ x, (∀ D, OkD ops i o D → OpWp P rd o env (st D) fun x' σ' => x' = x ∧ σ' = st (updD D i)) ∧ dOpsS P rd ops st Q rest (i + 1) (putd o.dst x env)
    | some false => (∀ D, st (updD D i) = st D) ∧ dOpsS P rd ops st Q rest (i + 1) (putd o.dst (.tup []) env)
    | none => False
section
variable {P : Program} {rd : Option Nat} {N n : Nat} {ops : Array Oper} {env : Env} {σ : MS} {st : (Nat → Bool) → MS}
theorem dOpsS_op {Q : Env → Prop} {o : Oper} {rest : List Oper} {i : Nat} {x : MV} (hg : guardOk ops env o = some true) (h : ∀ D, OkD ops i o D → OpWp P rd o env (st D) fun x' σ' => x' = x ∧ σ' = st (updD D i)) (hr : dOpsS P rd ops st Q rest (i + 1) (putd o.dst x env)) : dOpsS P rd ops st Q (o :: rest) i env := by
  simp only [dOpsS, hg]; exact ⟨x, h, hr⟩
theorem _root_.zK4 : type_of% @dOpsS_op := @dOpsS_op
theorem dOpsS_nil {Q : Env → Prop} {i : Nat} (h : Q env) : dOpsS P rd ops st Q [] i env := h
structure RowS (P : Program) (rd : Option Nat) (ops : Array Oper) (st : (Nat → Bool) → MS) (E : Nat → Env) (X : Nat → MV) (B : Nat → Bool) (from_ n : Nat) : Prop where
  step : ∀ (i : Nat) (o : Oper), from_ ≤ i → ops[i]? = some o → guardOk ops (E i) o = some (B i) ∧
    (B i = true → ∀ D, OkD ops i o D → OpWp P rd o (E i) (st D) fun x' σ' => x' = X i ∧ σ' = st (updD D i)) ∧
    (B i = false → (∀ D, st (updD D i) = st D) ∧ X i = .tup []) ∧ E (i + 1) = putd o.dst (X i) (E i)
theorem dOpsS_row {Q : Env → Prop} : ∀ (l : List Oper) (k : Nat) (env : Env), (∀ j, l[j]? = ops[k + j]?) → dOpsS P rd ops st Q l k env → ∃ E X B, RowS P rd ops st E X B k ops.size ∧ E k = env ∧ Q (E (k + l.length))
  | [], k, env, hl, h => ⟨fun _ => env, fun _ => .tup [], fun _ => false, ⟨fun i o hi ho => by
      have := hl (i - k)
      rw [show k + (i - k) = i by omega, ho] at this
      cases this⟩, rfl, h⟩
  | o :: l, k, env, hl, h => by
    have ho : ops[k]? = some o := by simpa using (hl 0).symm
    have hl' : ∀ j, l[j]? = ops[k + 1 + j]? := fun j => by
      have := hl (j + 1)
      rw [List.getElem?_cons_succ] at this
      rw [this, show k + (j + 1) = k + 1 + j by omega]
    simp only [dOpsS] at h
    have build : ∀ (x : MV) (b : Bool), guardOk ops env o = some b → (b = true → ∀ D, OkD ops k o D → OpWp P rd o env (st D) fun x' σ' => x' = x ∧ σ' = st (updD D k)) →
        (b = false → (∀ D, st (updD D k) = st D) ∧ x = .tup []) → dOpsS P rd ops st Q l (k + 1) (putd o.dst x env) →
        ∃ E X B, RowS P rd ops st E X B k ops.size ∧ E k = env ∧ Q (E (k + (o :: l).length)) := by
      intro x b hg hx hx' hr
      obtain ⟨E, X, B, hrow, hE, hQ⟩ := dOpsS_row l (k + 1) _ hl' hr
      refine ⟨fun i => if i = k then env else E i, fun i => if i = k then x else X i, fun i => if i = k then b else B i, ⟨fun i p hi hp => ?_⟩, by simp, ?_⟩
      · by_cases e : i = k
        · subst e
          rw [ho] at hp
          injection hp with hp
          subst hp
          simp only [if_true]
          refine ⟨hg, hx, hx', ?_⟩
          rw [if_neg (by omega)]
          exact hE
        · simp only [if_neg e]
          rw [if_neg (by omega)]
          exact hrow.step i p (by omega) hp
      · show Q (if k + (o :: l).length = k then env else E (k + (o :: l).length))
        rw [if_neg (by rw [zY]; omega)]
        rw [zY, show k + (l.length + 1) = k + 1 + l.length by omega]
        exact hQ
    split at h
    · rename_i hg
      obtain ⟨x, hx, hr⟩ := h
      exact build x true hg (fun _ => hx) (fun h => by cases h) hr
    · rename_i hg
      exact build _ false hg (fun h => by cases h) (fun _ => ⟨h.1, rfl⟩) h.2
    · exact h.elim
theorem rowS_get {E : Nat → Env} {X : Nat → MV} {B : Nat → Bool} (hx : LexS n ops) (hrow : RowS P rd ops st E X B 0 ops.size) : ∀ (i : Nat), i ≤ ops.size → ∀ t,
    (∀ (j : Nat) (p : Oper), j < i → ops[j]? = some p → p.dst = some t → get (E i) t = some (X j)) ∧ ((∀ (j : Nat) (p : Oper), j < i → ops[j]? = some p → p.dst ≠ some t) → get (E i) t = get (E 0) t)
  | 0, _, t => ⟨fun j p hj => by omega, fun _ => rfl⟩
  | i + 1, hi, t => by
    obtain ⟨h1, h2⟩ := rowS_get hx hrow i (by omega) t
    have ho : ops[i]? = some ops[i] := Array.getElem?_eq_getElem (by omega)
    obtain ⟨_, _, _, hE⟩ := hrow.step i _ (Nat.zero_le _) ho
    rw [hE]
    refine ⟨fun j p hj hp hd => ?_, fun hno => ?_⟩
    · by_cases e : j = i
      · subst e
        rw [ho] at hp
        injection hp with hp
        subst hp
        rw [hd]
        exact zY3 _ _ _
      · have hne : ops[i].dst ≠ some t := fun hd' => e (hx.inj j i p _ t hp ho hd hd')
        cases hdo : ops[i].dst with
        | none => exact h1 j p (by omega) hp hd
        | some d =>
          rw [hdo] at hne
          show get ((d, X i) :: E i) t = _
          rw [zU3 _ _ (fun e => hne (by rw [e]))]
          exact h1 j p (by omega) hp hd
    · have hne := hno i _ (by omega) ho
      have hold := h2 fun j p hj => hno j p (by omega)
      cases hdo : ops[i].dst with
      | none => exact hold
      | some d =>
        rw [hdo] at hne
        show get ((d, X i) :: E i) t = _
        rw [zU3 _ _ (fun e => hne (by rw [e]))]
        exact hold
structure DInvS (P : Program) (rd : Option Nat) (N n m0 : Nat) (ops : Array Oper) (st : (Nat → Bool) → MS) (E : Nat → Env) (X : Nat → MV) (g0 : Gh) (w0 : World) (F : Fence) (listed : Array Bool) (a : Act) (w : World) (g : Gh) : Prop where
  fok : FOkN N g rd F
  rel : Rel g (st fun j => listed.getD j false) w
  le : LeN N g0 w0 g w
  sz : a.tmps.size = n
  marks : Marks m0 w a.defers
  old : ∀ t x, get (E 0) t = some x → (∀ (j : Nat) (p : Oper), ops[j]? = some p → p.dst = some t → listed.getD j true = false) → ∃ v, a.tmps[t]? = some v ∧ Rd g w x v
  new : ∀ (j : Nat) (p : Oper) (d : Nat), listed.getD j false = true → ops[j]? = some p → p.dst = some d → ∃ v, a.tmps[d]? = some v ∧ Rd g w (X j) v
  lsz : listed.size = ops.size
theorem DInvS.reads {m0 : Nat} {E : Nat → Env} {X : Nat → MV} {B : Nat → Bool} {g0 : Gh} {w0 : World} {F : Fence} {listed : Array Bool} {a : Act} {w : World} {g : Gh} (hx : LexS n ops) (hrow : RowS P rd ops st E X B 0 ops.size) (hI : DInvS P rd N n m0 ops st E X g0 w0 F listed a w g)
    {i : Nat} {o : Oper} (hi : ops[i]? = some o) (hnl : listed.getD i true = false) (hdep : ∀ e ∈ o.after, Region.binds .any e = true → listed.getD e.on false = true)
    (hcl : ∀ (j : Nat) (p : Oper), ops[j]? = some p → listed.getD j false = true → ∀ e ∈ p.after, Region.binds .any e = true → listed.getD e.on false = true) {t : Nat} (ht : t ∈ readsOf ops o) {x : MV} (hg : get (E i) t = some x) : ∃ v, a.tmps[t]? = some v ∧ Rd g w x v := by
  have hlt : i < ops.size := (Array.getElem?_eq_some_iff.1 hi).1
  obtain ⟨h1, h2⟩ := rowS_get hx hrow i (by omega) t
  by_cases hex : ∃ (j : Nat) (p : Oper), j < i ∧ ops[j]? = some p ∧ p.dst = some t
  · obtain ⟨j, p, hji, hp, hd⟩ := hex
    rcases hx.dep i j o p t hi hp ht hd with ⟨_, e, he, hb, hon⟩ | ⟨hij, _⟩ | hij
    · rw [h1 j p hji hp hd] at hg
      injection hg with hg
      subst hg
      exact hI.new j p t (by rw [← hon]; exact hdep e he hb) hp hd
    · omega
    · omega
  · have hno : ∀ (j : Nat) (p : Oper), j < i → ops[j]? = some p → p.dst ≠ some t := fun j p hj hp hd => hex ⟨j, p, hj, hp, hd⟩
    rw [h2 hno] at hg
    refine hI.old t x hg fun j p hp hd => ?_
    have hjs : j < ops.size := (Array.getElem?_eq_some_iff.1 hp).1
    have hji : ¬ j < i := fun hj => hno j p hj hp hd
    rcases hx.dep i j o p t hi hp ht hd with ⟨hj, _⟩ | ⟨hij, e, he, hb, hon⟩ | hij
    · omega
    · cases hl : listed.getD j true with
      | false => rfl
      | true =>
        rw [getD_ff hI.lsz hjs] at hl
        have := hcl j p hp hl e he hb
        rw [hon, ← getD_ff hI.lsz hlt, hnl] at this
        cases this
    · subst hij; exact hnl
theorem drawS_sound {m0 : Nat} {E : Nat → Env} {X : Nat → MV} {B : Nat → Bool} {g0 : Gh} {w0 : World} {F : Fence} {Q : Exit → Env → MS → Prop} (hx : LexS n ops) (hrow : RowS P rd ops st E X B 0 ops.size) (hQ : Q .normal (E ops.size) (st fun j => Nat.blt j ops.size)) :
    ∀ (fuel : Nat) (listed : Array Bool) (a : Act) (w : World) (g : Gh), DInvS P rd N n m0 ops st E X g0 w0 F listed a w g → (∀ (j : Nat) (p : Oper), ops[j]? = some p → listed.getD j false = true → ∀ e ∈ p.after, Region.binds .any e = true → listed.getD e.on false = true) →
      (List.range ops.size).countP (fun i => !listed.getD i true) ≤ fuel → wpAnyIn F 0 P .any ops (Left_ N g0 w0 n m0 Q) fuel listed a w := by
  have hend : ∀ (listed : Array Bool) (a : Act) (w : World) (g : Gh), DInvS P rd N n m0 ops st E X g0 w0 F listed a w g → (∀ i, i < ops.size → listed.getD i true = true) → Left_ N g0 w0 n m0 Q .normal a w := by
    intro listed a w g hI hall
    have hallf : ∀ i, i < ops.size → listed.getD i false = true := fun i hi => by rw [← getD_ff hI.lsz hi]; exact hall i hi
    have hs : (fun j => listed.getD j false) = fun j => Nat.blt j ops.size := by
      funext j
      rcases Nat.lt_or_ge j ops.size with h | h
      · rw [hallf j h]
        exact (by simpa using h : Nat.blt j ops.size = true).symm
      · have h2 : Nat.blt j ops.size = false := by
          cases hb : Nat.blt j ops.size with
          | false => rfl
          | true =>
            have : j < ops.size := by simpa using hb
            omega
        rw [h2]
        have := hI.lsz
        simp [Array.getD_eq_getD_getElem?, Array.getElem?_eq_none (show listed.size ≤ j by omega)]
    have hrel := hI.rel
    rw [hs] at hrel
    refine ⟨E ops.size, _, g, hQ, hrel, fun t x hg => ?_, hI.le, hI.sz, hI.marks⟩
    obtain ⟨h1, h2⟩ := rowS_get hx hrow ops.size (Nat.le_refl _) t
    by_cases hex : ∃ (j : Nat) (p : Oper), ops[j]? = some p ∧ p.dst = some t
    · obtain ⟨j, p, hp, hd⟩ := hex
      have hlt : j < ops.size := (Array.getElem?_eq_some_iff.1 hp).1
      rw [h1 j p hlt hp hd] at hg
      injection hg with hg
      subst hg
      exact hI.new j p t (hallf j hlt) hp hd
    · have hno : ∀ (j : Nat) (p : Oper), ops[j]? = some p → p.dst ≠ some t := fun j p hp hd => hex ⟨j, p, hp, hd⟩
      rw [h2 fun j p _ hp => hno j p hp] at hg
      exact hI.old t x hg fun j p hp hd => absurd hd (hno j p hp)
  have hready : ∀ (listed : Array Bool), listed.size = ops.size → Region.ready .any ops listed = [] → ∀ i, i < ops.size → listed.getD i true = true := by
    intro listed hls hnil i
    induction i using Nat.strongRecOn with
    | _ i ih =>
      intro hi
      cases hli : listed.getD i true with
      | true => rfl
      | false =>
        exfalso
        have ho : ops[i]? = some ops[i] := Array.getElem?_eq_getElem hi
        have hm : i ∈ Region.ready .any ops listed := by
          simp only [Region.ready, List.mem_filter, List.mem_range, Bool.and_eq_true]
          refine ⟨hi, by rw [hli]; rfl, ?_⟩
          rw [ho]
          simp only [Option.map_some, Option.getD_some, Array.all_eq_true_iff_forall_mem, Bool.or_eq_true, Bool.not_eq_true']
          intro e he
          cases hb : Region.binds .any e with
          | false => exact .inl rfl
          | true =>
            right
            have hlt := hx.back i _ e ho he hb
            rw [← getD_ff hls (show e.on < ops.size by omega)]
            exact ih e.on hlt (by omega)
        rw [hnil] at hm
        cases hm
  intro fuel
  induction fuel with
  | zero =>
    intro listed a w g hI hcl hc
    have hall : ∀ i, i < ops.size → listed.getD i true = true := by
      intro i hi
      have h0 : (List.range ops.size).countP (fun i => !listed.getD i true) = 0 := by omega
      rw [List.countP_eq_zero] at h0
      have := h0 i (List.mem_range.2 hi)
      simpa using this
    refine ⟨?_, hend listed a w g hI hall⟩
    simp only [Region.ready, List.filter_eq_nil_iff, List.mem_range, Bool.and_eq_true, not_and]
    intro i hi hf
    rw [hall i hi] at hf
    cases hf
  | succ fuel ih =>
    intro listed a w g hI hcl hc
    refine ⟨fun hnil => hend listed a w g hI (hready listed hI.lsz hnil), fun i hi => ?_⟩
    obtain ⟨hlt, hnl, hdep⟩ : i < ops.size ∧ listed.getD i true = false ∧ ∀ (o : Oper), ops[i]? = some o → ∀ e ∈ o.after, Region.binds .any e = true → listed.getD e.on false = true := by
      simp only [Region.ready, List.mem_filter, List.mem_range, Bool.and_eq_true, Bool.not_eq_true'] at hi
      refine ⟨hi.1, hi.2.1, fun o ho e he hb => ?_⟩
      have := hi.2.2
      rw [ho] at this
      simp only [Option.map_some, Option.getD_some, Array.all_eq_true_iff_forall_mem, Bool.or_eq_true, Bool.not_eq_true'] at this
      rcases this e he with h | h
      · rw [hb] at h; cases h
      · exact h
    have ho : ops[i]? = some ops[i] := Array.getElem?_eq_getElem hlt
    obtain ⟨hg, hT, hF, hE⟩ := hrow.step i _ (Nat.zero_le _) ho
    have hil : i < listed.size := by rw [hI.lsz]; exact hlt
    have hnlf : listed.getD i false = false := by rw [← getD_ff hI.lsz hlt]; exact hnl
    have hwant : Region.wanted ops[i] (yielded ops a.tmps) = B i := by
      refine guardOk_wanted (g := g) (w := w) hg fun j want d x hgd hjd hx' => ?_
      refine hI.reads hx hrow ho hnl (hdep _ ho) hcl ?_ hx'
      simp only [readsOf, hgd, hjd, Option.toList_some]
      simp
    have hset : ∀ j, j ≠ i → (listed.setIfInBounds i true).getD j false = listed.getD j false := fun j hj => getD_set_ne _ (fun h => hj h.symm)
    have hseti : (listed.setIfInBounds i true).getD i false = true := by simp [Array.getD_eq_getD_getElem?, Array.getElem?_setIfInBounds_self_of_lt hil]
    have hupd : (fun j => (listed.setIfInBounds i true).getD j false) = updD (fun j => listed.getD j false) i := by
      funext j
      unfold updD
      by_cases e : j = i
      · subst e; rw [if_pos rfl]; exact hseti
      · rw [if_neg e]; exact hset j e
    have next : ∀ (v : Value) (w' : World) (g' : Gh), Rel g' (st (updD (fun j => listed.getD j false) i)) w' → Rd g' w' (X i) v → Le g w g' w' →
        wpAnyIn F 0 P .any ops (Left_ N g0 w0 n m0 Q) fuel (listed.setIfInBounds i true) (a.put ops[i].dst v) w' := by
      intro v w' g' hr' hv hl
      refine ih _ _ w' g' ⟨hI.fok.mono (hl.toN N), by rw [hupd]; exact hr', hI.le.trans (hl.toN N), by rw [size_put]; exact hI.sz, by rw [defers_put]; exact hI.marks.mono hl, fun t x hgt hno => ?_, fun j p d hj hp hd => ?_, by simpa using hI.lsz⟩ (fun j p hp hj e he hb => ?_) ?_
      · have hnoi : ops[i].dst ≠ some t := fun hd => by
          have := hno i _ ho hd
          simp [Array.getD_eq_getD_getElem?, Array.getElem?_setIfInBounds_self_of_lt hil] at this
        obtain ⟨u, hu, hr⟩ := hI.old t x hgt fun j p hp hd => by
          have hji : j ≠ i := fun e => by
            subst e
            rw [ho] at hp
            injection hp with hp
            subst hp
            exact hnoi hd
          have := hno j p hp hd
          rw [getD_set_ne _ (fun h => hji h.symm)] at this
          exact this
        refine ⟨u, ?_, hr.mono hl⟩
        cases hd : ops[i].dst with
        | none => exact hu
        | some d =>
          rw [hd] at hnoi
          show (a.tmps.setIfInBounds d v)[t]? = _
          rw [Array.getElem?_setIfInBounds_ne (fun e => hnoi (by rw [e]))]
          exact hu
      · by_cases e : j = i
        · subst e
          rw [ho] at hp
          injection hp with hp
          subst hp
          refine ⟨v, ?_, hv⟩
          rw [hd]
          show (a.tmps.setIfInBounds d v)[d]? = _
          have := hx.lt j _ d ho hd
          simp [Array.getElem?_setIfInBounds_self_of_lt (show d < a.tmps.size by rw [hI.sz]; exact this)]
        · rw [hset j e] at hj
          obtain ⟨u, hu, hr⟩ := hI.new j p d hj hp hd
          refine ⟨u, ?_, hr.mono hl⟩
          cases hdi : ops[i].dst with
          | none => exact hu
          | some d' =>
            show (a.tmps.setIfInBounds d' v)[d]? = _
            rw [Array.getElem?_setIfInBounds_ne (fun ed => e (hx.inj j i p _ d hp ho hd (by rw [hdi, ed])))]
            exact hu
      · have hon : listed.getD e.on false = true := by
          by_cases ej : j = i
          · subst ej
            rw [ho] at hp
            injection hp with hp
            subst hp
            exact hdep _ ho e he hb
          · rw [hset j ej] at hj
            exact hcl j p hp hj e he hb
        exact getD_set_true hon
      · have hlt2 : (List.range ops.size).countP (fun k => !(listed.setIfInBounds i true).getD k true) < (List.range ops.size).countP (fun k => !listed.getD k true) := by
          have hsplit : ∀ (l : List Nat), i ∈ l → l.countP (fun k => !(listed.setIfInBounds i true).getD k true) < l.countP (fun k => !listed.getD k true) := by
            have hle : ∀ (l : List Nat), l.countP (fun k => !(listed.setIfInBounds i true).getD k true) ≤ l.countP (fun k => !listed.getD k true) := by
              intro l
              refine List.countP_mono_left fun k _ hk => ?_
              by_cases e : k = i
              · subst e
                simp [Array.getD_eq_getD_getElem?, Array.getElem?_setIfInBounds_self_of_lt hil] at hk
              · rw [getD_set_ne _ (fun h => e h.symm)] at hk
                exact hk
            intro l
            induction l with
            | nil => intro h; cases h
            | cons k l ihl =>
              intro hm
              rw [List.countP_cons, List.countP_cons]
              by_cases e : k = i
              · subst e
                have e1 : (!(listed.setIfInBounds k true).getD k true) = false := by simp [Array.getD_eq_getD_getElem?, Array.getElem?_setIfInBounds_self_of_lt hil]
                rw [e1, hnl]
                have := hle l
                simp only [Bool.not_false, if_true, Bool.false_eq_true, if_false]
                omega
              · have hm' : i ∈ l := by
                  rcases List.mem_cons.1 hm with h | h
                  · exact absurd h.symm e
                  · exact h
                have := ihl hm'
                rw [getD_set_ne _ (fun h => e h.symm)]
                omega
          exact hsplit _ (List.mem_range.2 hlt)
        omega
    have hopd : ∀ x ∈ ops[i].op.operands, ∀ m, evo (E i) x = some m → Rd g w m (a.eval x) := fun x hxo m hm => by
      cases x with
      | tmp t =>
        obtain ⟨v, hv, hr⟩ := hI.reads hx hrow ho hnl (hdep _ ho) hcl (t := t) (by
          simp only [readsOf, zS1]
          left
          simp only [opTmps, List.mem_filterMap]
          exact ⟨.tmp t, by simpa using hxo, rfl⟩) hm
        simp only [Act.eval, Array.getD_eq_getD_getElem?, hv, Option.getD_some]
        exact hr
      | const v => exact zK6 _ _ hm
      | func f =>
        injection hm with hm
        subst hm
        exact .fn' (.nil _ _) (.nil _ _)
      | global _ => cases hm
    have hok : OkD ops i ops[i] (fun j => listed.getD j false) := by
      refine ⟨hnlf, fun e hb => ?_, fun j p hp hj e hb => ?_⟩
      · obtain ⟨ed, hed, hbd, hon⟩ := bindsOn_iff.1 hb
        rw [← hon]
        exact hdep _ ho ed hed hbd
      · obtain ⟨ed, hed, hbd, hon⟩ := bindsOn_iff.1 hb
        rw [← hon]
        exact hcl j p hp hj ed hed hbd
    unfold wpOpIn
    rw [ho]
    simp only
    rw [hwant]
    cases hB : B i with
    | true =>
      simp only [if_true]
      have hop := hT hB _ hok g w a F hI.fok.ok hI.rel hopd
      have h2 := Oper.wpIn_mono (K' := wpAnyIn F 0 P .any ops (Left_ N g0 w0 n m0 Q) fuel (listed.setIfInBounds i true)) ?_ hop
      · refine ⟨h2.1, ?_⟩
        have h3 := h2.2
        revert h3
        generalize (Oper.semAt F.round a.eval ops[i]).run P w = r
        intro h3
        cases r with
        | ok x w' =>
          cases x with
          | value v => exact h3
          | skip => exact h3
          | defer d => exact h3
          | enter f args =>
            refine ⟨h3.1, h3.2.mono ?_⟩
            rintro (⟨v⟩ | ⟨c⟩ | _) w'' hx
            · exact hx
            · exact hx.elim
            · obtain ⟨_, _, hx⟩ := hx; exact hx.elim
          | row r' args => exact h3
          | round l f t b c =>
            refine ⟨h3.1, h3.2.mono ?_⟩
            rintro (⟨v⟩ | ⟨c⟩ | _) w'' hx
            · exact hx
            · exact hx.elim
            · obtain ⟨_, _, hx⟩ := hx; exact hx.elim
          | _ => exact h3.elim
        | halt x w' =>
          cases x with
          | panic v => exact h3.elim
          | _ => exact h3.elim
      · rintro a' w' ⟨v, rfl, x, σ', g', ⟨rfl, rfl⟩, hr', hv, hl⟩
        exact next v w' g' hr' hv hl
    | false =>
      simp only [Bool.false_eq_true, if_false]
      obtain ⟨hne, hX⟩ := hF hB
      refine ⟨fun f _ => hI.fok.ok.fn f, next undef w g (by rw [hne]; exact hI.rel) ?_ (.refl _ _)⟩
      rw [hX]
      exact rd_undef _ _
theorem mwp_drawS {Q : Exit → Env → MS → Prop} {id : Nat} (st : (Nat → Bool) → MS) (hm : P.follows .mixedOrders = true) (hb : lexOk n ops = true) (h0 : st (fun _ => false) = σ)
    (h : dOpsS P rd ops st (fun env => Q .normal env (st fun j => Nat.blt j ops.size)) ops.toList 0 env) : mwp P rd N n (.region id ops true) Q env σ := by
  intro g w a F m0 hF hr he hn hmk
  have hx := lexOk_spec hb
  obtain ⟨E, X, B, hrow, hE, hQ⟩ := dOpsS_row (P := P) (rd := rd) ops.toList 0 env (fun j => by simp) h
  rw [Nat.zero_add, Array.length_toList] at hQ
  refine wpIn_region_any hm ?_
  have hl := Le.drew g w
  have hrepf : ∀ (j : Nat), (Array.replicate ops.size false).getD j false = false := fun j => by
    simp only [Array.getD_eq_getD_getElem?, Array.getElem?_replicate]
    split <;> rfl
  have h0' : st (fun j => (Array.replicate ops.size false).getD j false) = σ := by
    rw [← h0]
    congr 1
    funext j
    exact hrepf j
  refine drawS_sound hx hrow hQ ops.size _ a w.drew g ⟨hF.mono (hl.toN N), by rw [h0']; exact hr.drew, hl.toN N, hn, hmk.mono hl, fun t x hg hno => ?_, fun j p d hj hp hd => ?_, by simp⟩ (fun j p hp hj => ?_) ?_
  · rw [hE] at hg
    obtain ⟨v, hv, hrd⟩ := he t x hg
    exact ⟨v, hv, hrd.mono hl⟩
  · rw [hrepf] at hj; cases hj
  · rw [hrepf] at hj; cases hj
  · have := List.countP_le_length (p := fun i => !(Array.replicate ops.size false).getD i true) (l := List.range ops.size)
    rw [List.length_range] at this
    exact this
end
end
section
section
variable {P : Program} {rd : Option Nat} {o : Oper} {env : Env} {σ : MS} {K : MV → MS → Prop}
theorem op_alloc_ow {t sz id : Nat} {l : List MV} (ho : o.op = .alloc t) (hz : zeroMV P t = some l) (hσ : σ[id]? = some (.orow t sz 0 [])) (hsz : l.length = sz) (h : K (.orf id 1 0) (σ.set id (.orow t sz 1 l))) : OpWp P rd o env σ K := by
  refine OpWp.of_run (by simp [ho]) fun g w a hr hop => ?_
  obtain ⟨z, k0, k1⟩ := zeroMV_some hz
  have htl : id < σ.length := (zI.1 hσ).1
  obtain ⟨own, ho'⟩ := hr.ex
  obtain ⟨v0, us0, f1, f2, f3, f4, f5, f6⟩ := ho'.obj id _ hσ
  generalize hus : z.cells.toList = us at k1
  have hul : us.length = sz := by rw [(k1 g w).1, hsz]
  refine ⟨.pointer (some ⟨w.heap.size, 0, none⟩), w.alloc (.cells us.toArray t), by simp [execOp, ho, Instr.alloc, k0, newVar, newRow, ← hus], ?_⟩
  have l2 := Le.alloc_stab hr (.cells us.toArray t) 0
  have r2 := hr.alloc_stab (.cells us.toArray t) 0
  generalize hg1 : g.stab w.heap.size 0 = g1 at l2 r2
  generalize hw1 : w.alloc (.cells us.toArray t) = w1 at l2 r2
  have ho1 : Owns g1 σ w1 own := by
    refine ho'.keep l2 (fun id b e => ?_) (fun _ _ => by rw [← hg1]; rfl)
    have hlt := (ho'.lt id b e).2.2
    rw [← hg1, ← hw1]
    refine ⟨Below.heap_alloc w _ b hlt, ?_⟩
    simp only [Gh.stab]
    exact if_neg (Nat.ne_of_lt hlt)
  have l3 : Le g1 w1 (g1.log id 1 (.slice (some ⟨w.heap.size, 0, none⟩) 1 1)) w1 := by
    refine ⟨⟨rfl, rfl, fun _ _ h => ⟨h, rfl⟩, fun _ _ h => h, fun s k u hv => ?_, Nat.le_refl _⟩, fun _ _ h => h⟩
    simp only [Gh.log]
    rw [if_neg]
    · exact hv
    · rintro ⟨rfl, rfl⟩
      have : g1.lg s 1 = g.lg s 1 := by rw [← hg1]; rfl
      rw [this, f5 _ (by omega)] at hv
      cases hv
  have hheap : w1.heap[w.heap.size]? = some (.cells us.toArray t (0, 0)) := by rw [← hw1]; exact heap_new w _
  have hsize : w1.heap.size = w.heap.size + 1 := by rw [← hw1]; simp
  have lall := l2.trans l3
  refine ⟨_, _, g1.log id 1 (.slice (some ⟨w.heap.size, 0, none⟩) 1 1), h, ?_, ?_, lall⟩
  · refine Rel.obj_set r2 htl ho1 l3 r2.below r2.fresh rfl (fun i k hid => ?_) (fun i b hid hb => ⟨rfl, rfl⟩) (ob := some w.heap.size) ?_ (fun i b hid hb e => ?_) (fun b hb => ?_)
    · simp only [Gh.log]; rw [if_neg (fun h => hid h.1)]
    · refine ⟨.slice (some ⟨w.heap.size, 0, none⟩) 1 1, us, by simp [Gh.log], ?_, rfl, fun b hb => ?_, fun k hk => ?_, k1 _ _⟩
      · refine ⟨by rw [hul, Nat.one_mul], .inr ⟨w.heap.size, 1, _, rfl, ?_, hheap, Nat.le_refl _, by simp [maxLen], by simpa using hul, ?_⟩⟩
        · have : (g1.log id 1 (.slice (some ⟨w.heap.size, 0, none⟩) 1 1)).B = g.B := lall.B
          rw [this]
          exact hr.size
        · exact List.take_of_length_le (by simp; omega)
      · injection hb with hb
        subst hb
        rw [← hg1]
        simp [Gh.log, Gh.stab]
      · simp only [Gh.log]
        rw [if_neg (by omega), ← hg1]
        exact f5 k (by omega)
    · have := (ho'.lt i b hb).2.2
      injection e with e
      omega
    · injection hb with hb
      subst hb
      refine ⟨?_, by omega⟩
      rw [← hg1]
      exact hr.size
  · exact .orf _ _ _ w.heap.size 1 (by simp [Gh.log])
end
theorem mwp_hole {P : Program} {rd : Option Nat} {N n : Nat} {c : Code} {Q : Exit → Env → MS → Prop} {env : Env} {σ : MS} (ty sz : Nat) (h : mwp P rd N n c Q env (σ ++ [.orow ty sz 0 []])) : mwp P rd N n c Q env σ := by
  refine zZ5 (fun g w tmps hr he => ?_) h
  obtain ⟨r1, l1, d1⟩ := ow_new hr ty sz
  exact ⟨_, r1, he.mono l1, l1.toN N, fun F hF => hF.mono (l1.toN N)⟩
def hol (ty sz : Nat) (z v : List MV) (p q : Bool) : MObj := if p = true then .orow ty sz 1 (if q = true then v else z) else .orow ty sz 0 []
def st2 (B : MS) (ty sz a b c d : Nat) (z vx vy : List MV) (D : Nat → Bool) : MS := B ++ [hol ty sz z vx (D a) (D c), hol ty sz z vy (D b) (D d)]
theorem st2_skip {B : MS} {ty sz a b c d i : Nat} {z vx vy : List MV} {D : Nat → Bool} (ha : a ≠ i) (hb : b ≠ i) (hc : c ≠ i) (hd : d ≠ i) : st2 B ty sz a b c d z vx vy (updD D i) = st2 B ty sz a b c d z vx vy D := by
  unfold st2 updD
  rw [if_neg ha, if_neg hb, if_neg hc, if_neg hd]
section
variable {P : Program} {rd : Option Nat} {o : Oper} {env : Env} {B : MS} {ty sz a b c d : Nat} {z vx vy : List MV} {D : Nat → Bool}
theorem op_st2 {X : MV} {i : Nat} (ha : a ≠ i) (hb : b ≠ i) (hc : c ≠ i) (hd : d ≠ i) (h : OpWp P rd o env (st2 B ty sz a b c d z vx vy D) fun x σ => x = X ∧ σ = st2 B ty sz a b c d z vx vy D) : OpWp P rd o env (st2 B ty sz a b c d z vx vy D) fun x σ => x = X ∧ σ = st2 B ty sz a b c d z vx vy (updD D i) := by
  rw [st2_skip ha hb hc hd]; exact h
theorem get_2a {B : MS} {x y : MObj} : (B ++ [x, y])[B.length]? = some x := by simp
theorem get_2b {B : MS} {x y : MObj} : (B ++ [x, y])[B.length + 1]? = some y := by rw [getElem?_own]; rfl
theorem set_2a {B : MS} {x y o : MObj} : (B ++ [x, y]).set B.length o = B ++ [o, y] := by rw [show B.length = B.length + 0 from rfl, zM4]; rfl
theorem set_2b {B : MS} {x y o : MObj} : (B ++ [x, y]).set (B.length + 1) o = B ++ [x, o] := by rw [zM4]; rfl
theorem op_st2_ax (ho : o.op = .alloc ty) (hz : zeroMV P ty = some z) (hsz : z.length = sz) (h1 : D a = false) (h3 : D c = false) (hba : b ≠ a) (hca : ¬ c = a) (hda : d ≠ a) : OpWp P rd o env (st2 B ty sz a b c d z vx vy D) fun x σ => x = .orf B.length 1 0 ∧ σ = st2 B ty sz a b c d z vx vy (updD D a) := by
  refine op_alloc_ow ho hz (by unfold st2 hol; rw [h1]; exact get_2a) hsz ⟨rfl, ?_⟩
  unfold st2 hol updD
  rw [h1, h3, if_neg hba, if_neg hda, if_pos rfl, if_neg hca]
  exact set_2a
theorem op_st2_ay (ho : o.op = .alloc ty) (hz : zeroMV P ty = some z) (hsz : z.length = sz) (h1 : D b = false) (h3 : D d = false) (hab : a ≠ b) (hcb : c ≠ b) (hdb : d ≠ b) : OpWp P rd o env (st2 B ty sz a b c d z vx vy D) fun x σ => x = .orf (B.length + 1) 1 0 ∧ σ = st2 B ty sz a b c d z vx vy (updD D b) := by
  refine op_alloc_ow ho hz (by unfold st2 hol; rw [h1]; exact get_2b) hsz ⟨rfl, ?_⟩
  unfold st2 hol updD
  rw [h1, h3, if_neg hab, if_neg hcb, if_pos rfl, if_neg hdb]
  exact set_2b
theorem op_st2_sx {x y : Operand} {m : MV} (ho : o.op = .store ty x y) (hx : evo env x = some (.orf B.length 1 0)) (hy : evo env y = some m) (hk : szOf P ty = some sz) (hm : m.cells = vx) (hl : vx.length = sz) (hzl : z.length = sz) (h1 : vx.all MV.one = true) (ha : D a = true) (hc : D c = false) (hac : a ≠ c) (hbc : b ≠ c) (hdc : d ≠ c) : OpWp P rd o env (st2 B ty sz a b c d z vx vy D) fun x σ => x = .tup [] ∧ σ = st2 B ty sz a b c d z vx vy (updD D c) := by
  subst hm
  refine op_store_orf (l := z) (sz := sz) ho hx hy (by unfold st2 hol; rw [ha, hc]; exact get_2a) hk hl h1 (by omega) ⟨rfl, ?_⟩
  unfold st2 hol updD
  rw [ha, hc, if_neg hac, if_neg hbc, if_neg hdc]
  refine set_2a.trans ?_
  rw [show setMany z 0 m.cells = m.cells by unfold setMany; simp [List.drop_eq_nil_of_le (show z.length ≤ m.cells.length by omega)]]
  simp
theorem op_st2_sy {x y : Operand} {m : MV} (ho : o.op = .store ty x y) (hx : evo env x = some (.orf (B.length + 1) 1 0)) (hy : evo env y = some m) (hk : szOf P ty = some sz) (hm : m.cells = vy) (hl : vy.length = sz) (hzl : z.length = sz) (h1 : vy.all MV.one = true) (hb : D b = true) (hd : D d = false) (had : a ≠ d) (hbd : b ≠ d) (hcd : c ≠ d) : OpWp P rd o env (st2 B ty sz a b c d z vx vy D) fun x σ => x = .tup [] ∧ σ = st2 B ty sz a b c d z vx vy (updD D d) := by
  subst hm
  refine op_store_orf (l := z) (sz := sz) ho hx hy (by unfold st2 hol; rw [hb, hd]; exact get_2b) hk hl h1 (by omega) ⟨rfl, ?_⟩
  unfold st2 hol updD
  rw [hb, hd, if_neg had, if_neg hbd, if_neg hcd]
  refine set_2b.trans ?_
  rw [show setMany z 0 m.cells = m.cells by unfold setMany; simp [List.drop_eq_nil_of_le (show z.length ≤ m.cells.length by omega)]]
  simp
theorem get_st2 {k : Nat} {ob : MObj} (h : B[k]? = some ob) : (st2 B ty sz a b c d z vx vy D)[k]? = some ob := by
  unfold st2
  rw [List.getElem?_append_left (zI.1 h).1]
  exact h
theorem no_later {ops : Array Oper} {i j : Nat} {o p : Oper} {D : Nat → Bool} (h : OkD ops i o D) (hp : ops[j]? = some p) (he : bindsOn p i = true) : D j = false := by
  cases hd : D j with
  | false => rfl
  | true =>
    have := h.2.2 j p hp hd i he
    rw [h.1] at this
    cases this
end
end
end Go.MV
namespace Go.Proofs.YtnfcnpdpfgcchaaGreatDoor
open Go Go.MV
theorem gt_yes {y s : Bs} (h : (!(Op.bytesLess y s || y == s)) = true) : ltB s y := by
 simp at h
 rcases ltB_total y s with h2 | h2 | h2
 ·exact absurd h2 (by rw [ltB, h.1]; decide)
 ·exact absurd h2 h.2
 ·exact h2
theorem gt_no {y s : Bs} (h : (!(Op.bytesLess y s || y == s)) = false) : ¬ ltB s y := by
 intro h2
 simp at h
 by_cases h3 : Op.bytesLess y s = true
 ·exact ltB_asymm h2 h3
 ·have := h (by simpa using h3)
  subst this
  exact ltB_irrefl _ h2
theorem dropJ {α : Type} {l : List α} {i : Nat} {a : α} (h : l[i]? = some a) : l.drop i = a :: l.drop (i + 1) := by
 obtain ⟨hlt, e⟩ := zI.1 h
 rw [List.drop_eq_getElem_cons hlt, e]
theorem putAll_take {a b : List Bs} {i : Nat} {x : Bs} (h : b[i]? = some x) : putAll a (b.take (i + 1)) = putT x (putAll a (b.take i)) := by rw [List.take_add_one, h, Option.toList_some, putAll_snoc]
theorem putAll_take_len (a b : List Bs) (i : Nat) : (putAll a (b.take i)).length ≤ a.length + b.length := by
 have := putAll_len (b.take i) a
 rw [List.length_take] at this
 omega
theorem rPut_spec (l : List Bs) (s : Bs) (hl : l.length ≤ 100000) (S : MS) : MCalls Tryz.prog 107 [.lst none 1 (l.map encX), encX s] S fun v σ' => v = .lst none 1 ((putT s l).map encX) ∧ σ' = S := by
 refine zU Tryz.func107 rfl Tryz.ntmps107 (zA rfl) ?_
 refine zN2 (t := 0) rfl fun hlen => ?_
 rw [zC] at hlen
 refine zB <| qR rfl <| qA rfl rfl rfl <| qN <| zB <| zB <| qR rfl <| qA rfl rfl rfl <| qN <| zB0 ?_
 refine zV1 (α := Nat) [(0, _), (1, _)] (fun i => [(5, .int .i64 (i : Int))]) (fun i => []) (fun i => i ≤ l.length ∧ ∀ j, j < i → ∀ y, l[j]? = some y → y ≠ s ∧ ¬ ltB s y) (fun i => l.length - i) (0) (.keep rfl (.keep rfl (.nil))) (.keep rfl (.nil)) (⟨by omega, fun j hj => by omega⟩) (rfl) ?_
 rintro i ⟨hi, hall⟩
 refine zB <| zB <| qR rfl <| qM rfl rfl rfl <| qM rfl rfl rfl <| qE rfl rfl zX rfl <| qC rfl rfl rfl rfl rfl <| qN ?_
 refine zJ rfl (fun h9 => ?_) (fun h9 => ?_)
 ·
  have hlt : i < l.length := by simpa using h9
  obtain ⟨y, hs⟩ : ∃ q_, l[i]? = some q_ := ⟨_, zD hlt⟩
  refine zA0 <| zB <| zB0 <| zB <| zB <| qR rfl <| qM rfl rfl rfl <| qM rfl rfl rfl <| qO rfl <| zG rfl zX sz9 (by decide) rfl rfl rfl (zV0 hs) ?_
  refine qO rfl <| zH rfl rfl ta9 rfl <| qM rfl rfl rfl <| qO rfl <| zG3 rfl rfl rfl rfl <| qN ?_
  refine zJ rfl (fun h17 => ?_) (fun h17 => ?_)
  ·
   have heq : y = s := by simpa using h17
   refine zB <| qR rfl <| qM rfl rfl rfl <| qA rfl rfl rfl <| qN <| zK ?_
   exact zQ (.inr rfl) Tryz.results107 rfl (.of_eq (by rw [put_skip (by omega) hall, dropJ hs, putT, if_pos heq, ← dropJ hs, List.take_append_drop])) (zV4 _ _) ⟨rfl, rfl⟩
  ·
   have hne : ¬ y = s := by simpa using h17
   refine zA0 <| zB <| qR rfl <| qM rfl rfl rfl <| qM rfl rfl rfl <| qO rfl <| zG rfl zX sz9 (by decide) rfl rfl rfl (zV0 hs) ?_
   refine qO rfl <| zH rfl rfl ta9 rfl <| qM rfl rfl rfl <| qO rfl <| zG3 rfl rfl rfl rfl <| qN ?_
   refine zJ rfl (fun h24 => ?_) (fun h24 => ?_)
   ·
    have hgr := gt_yes h24
    refine zB ?_
    refine zU0 [3, 6, 10] [_, S ++ [.row 9 1 (List.take (i - 0) (List.drop 0 (l.map encX))).length], S ++ [.row 9 1 ((List.take (i - 0) (List.drop 0 (l.map encX))).length + 1)], S ++ [.row 9 1 ((List.take (i - 0) (List.drop 0 (l.map encX))).length + 1 + (List.take ((l.map encX).length - i) (List.drop i (l.map encX))).length)]] mo (by decide) rfl rfl rfl rfl ?_
    refine zS rfl rfl (.cons (zV rfl rfl ⟨rfl, rfl⟩) (.cons (zV rfl rfl ⟨rfl, rfl⟩) (.cons (zV rfl rfl ⟨rfl, rfl⟩) (.cons (zV rfl rfl ⟨rfl, rfl⟩) (.nil))))) <| zS rfl rfl (.cons (zV rfl rfl ⟨rfl, rfl⟩) (.cons (zV rfl rfl ⟨rfl, rfl⟩) (.cons (zV rfl rfl ⟨rfl, rfl⟩) (.cons (zV rfl rfl ⟨rfl, rfl⟩) (.nil))))) <| dO rfl rfl rfl (zP1 rfl zX sz9 rfl .none (.some rfl rfl) (by first | omega | (simp only [zC]; omega)) (by first | omega | (simp only [zC]; omega)) ⟨rfl, rfl⟩) ?_
    refine zX0 rfl rfl rfl rfl (zA5 rfl zX el9 rfl rfl (by simp; omega) (by simp; omega) rfl rfl ⟨rfl, rfl⟩) ?_
    refine zS rfl rfl (.cons (zV rfl rfl ⟨rfl, rfl⟩) (.cons (zV rfl rfl ⟨rfl, rfl⟩) (.cons (zV rfl rfl ⟨rfl, rfl⟩) (.cons (zV rfl rfl ⟨rfl, rfl⟩) (.nil))))) <| zS rfl rfl (.cons (zC1 rfl zX el9 rfl rfl (by decide) (by decide) rfl rfl ⟨rfl, rfl⟩) (.cons (zC1 rfl zX el9 rfl rfl (by decide) (by decide) rfl rfl ⟨rfl, rfl⟩) (.nil))) ?_
    refine zX0 rfl rfl rfl rfl (zC2 rfl zX el9 rfl rfl rfl (by simp) (by simp; omega) (by simp; omega) rfl ⟨rfl, rfl⟩) ?_
    refine zS rfl rfl (.cons (zV rfl rfl ⟨rfl, rfl⟩) (.cons (zV rfl rfl ⟨rfl, rfl⟩) (.cons (zV rfl rfl ⟨rfl, rfl⟩) (.cons (zV rfl rfl ⟨rfl, rfl⟩) (.nil))))) <| zS rfl rfl (.cons (zV rfl rfl ⟨rfl, rfl⟩) (.cons (zV rfl rfl ⟨rfl, rfl⟩) (.cons (zV rfl rfl ⟨rfl, rfl⟩) (.cons (zV rfl rfl ⟨rfl, rfl⟩) (.nil))))) <| zS rfl rfl (.cons (zP1 rfl zX sz9 rfl (.some rfl rfl) .none (by first | omega | (simp only [zC]; omega)) (by first | omega | (simp only [zC]; omega)) ⟨rfl, rfl⟩) (.cons (zP1 rfl zX sz9 rfl (.some rfl rfl) .none (by first | omega | (simp only [zC]; omega)) (by first | omega | (simp only [zC]; omega)) ⟨rfl, rfl⟩) (.cons (zP1 rfl zX sz9 rfl (.some rfl rfl) .none (by first | omega | (simp only [zC]; omega)) (by first | omega | (simp only [zC]; omega)) ⟨rfl, rfl⟩) (.nil)))) ?_
    refine zX0 rfl rfl rfl rfl (zC2 rfl zX el9 rfl rfl rfl (by simp) (by simp; omega) (by simp; omega) rfl ⟨rfl, rfl⟩) ?_
    refine dO rfl rfl rfl (zB1 rfl rfl ⟨rfl, rfl⟩) <| zL0 <| zK ?_
    exact zQ (.inr rfl) Tryz.results107 rfl (Sub.trans (.view _ _ _) (.of_eq (by rw [put_skip (by omega) hall, dropJ hs, putT, if_neg hne, if_pos hgr, ← dropJ hs]; simp [List.take_of_length_le]))) (zV4 _ _) ⟨rfl, rfl⟩
   ·
    have hng := gt_no h24
    refine zA0 <| qR rfl <| qM rfl rfl rfl <| qO rfl <| zY0 rfl rfl rfl rfl <| qA rfl rfl rfl <| qN ?_
    refine ⟨i + 1, by omega, ⟨by omega, fun j hj z hz => ?_⟩, rfl, (.keep rfl (.keep rfl (.nil))), (.eq rfl (zM1 hlt hlen) (.nil))⟩
    by_cases e : j = i
    ·subst e; rw [hs] at hz; injection hz with hz; subst hz; exact ⟨hne, hng⟩
    ·exact hall j (by omega) z hz
 ·
  have hge : i = l.length := by simp at h9; omega
  refine zN1 <| zB <| qR rfl <| qM rfl rfl rfl <| qO rfl <| zA5 rfl zX el9 rfl rfl (by simp; omega) (by simp; omega) rfl rfl ?_
  refine qM rfl rfl rfl <| qO rfl <| zC1 rfl zX el9 rfl rfl (by decide) (by decide) rfl rfl ?_
  refine qO rfl <| zC2 rfl zX el9 rfl rfl rfl (by simp) (by simp; omega) (by simp; omega) rfl ?_
  refine qA rfl rfl rfl <| qN <| zK ?_
  exact zQ (.inr rfl) Tryz.results107 rfl (Sub.trans (.view _ _ _) (.of_eq (by rw [put_skip (by omega) hall, hge, List.take_length, List.drop_length, putT, List.map_append]; rfl))) (zV4 _ _) ⟨rfl, rfl⟩
theorem rBoth_spec (a b : List Bs) (hab : a.length + b.length ≤ 99999) (S : MS) : MCalls Tryz.prog 57 [.lst none 1 (a.map encX), .lst none 1 (b.map encX)] S fun v σ' => v = .lst none 1 ((putAll a b).map encX) ∧ σ' = S := by
 refine zU Tryz.func57 rfl Tryz.ntmps57 (zA rfl) ?_
 refine zN2 (t := 1) rfl fun hlen => ?_
 rw [zC] at hlen
 refine zB <| qR rfl <| qA rfl rfl rfl <| qN <| zB <| qR rfl <| qM rfl rfl rfl <| qO rfl <| zV2 (y := .lst none 1 (a.map encX)) (zA5 rfl zX el9 rfl rfl (by simp; omega) (by simp; omega) rfl rfl ⟨rfl, rfl⟩) (.view _ _ _) ?_
 refine qA rfl rfl rfl <| qN <| zB <| zB <| qR rfl <| qA rfl rfl rfl <| qN <| zB0 ?_
 refine zV1 (α := Nat) [(1, _)] (fun i => [(5, .lst none 1 ((putAll a (b.take i)).map encX)), (6, .int .i64 (i : Int))]) (fun i => [.row 9 1 (a.map encX).length]) (fun i => i ≤ b.length) (fun i => b.length - i) (0) (.keep rfl (.nil)) (.keep rfl (.keep rfl (.nil))) (by omega) (rfl) ?_
 rintro i hi
 refine zB <| zB <| qR rfl <| qM rfl rfl rfl <| qM rfl rfl rfl <| qE rfl rfl zX rfl <| qC rfl rfl rfl rfl rfl <| qN ?_
 refine zJ rfl (fun h12 => ?_) (fun h12 => ?_)
 ·
  have hlt : i < b.length := by simpa using h12
  obtain ⟨x, hs⟩ : ∃ q_, b[i]? = some q_ := ⟨_, zD hlt⟩
  refine zA0 <| zB <| zB0 <| qR rfl <| qM rfl rfl rfl <| qM rfl rfl rfl <| qM rfl rfl rfl <| qO rfl <| zG rfl zX sz9 (by decide) rfl rfl rfl (zV0 hs) ?_
  refine qO rfl <| zH rfl rfl ta9 rfl ?_
  refine qX rfl rfl rfl rfl co107 (rPut_spec (putAll a (b.take i)) x (by have := putAll_take_len a b i; omega) _) ?_
  refine qA rfl rfl rfl <| qN <| qR rfl <| qM rfl rfl rfl <| qO rfl <| zY0 rfl rfl rfl rfl <| qA rfl rfl rfl <| qN ?_
  refine ⟨i + 1, by omega, by omega, rfl, (.keep rfl (.nil)), (.eq rfl (by rw [putAll_take hs]) (.eq rfl (zM1 hlt hlen) (.nil)))⟩
 ·
  have hge : i = b.length := by simp at h12; omega
  refine zN1 <| zB <| qR rfl <| qM rfl rfl rfl <| qA rfl rfl rfl <| qN <| zK ?_
  exact zQ (.inr rfl) Tryz.results57 rfl (.of_eq (by rw [hge, List.take_length])) (zV4 _ _) ⟨rfl, rfl⟩
theorem rBothT_spec (a b : List Bs) (ha : Up a) (hb : Up b) (hab : a.length + b.length ≤ 99999) (S : MS) : MCalls Tryz.prog 57 [.lst none 1 (a.map encX), .lst none 1 (b.map encX)] S fun v σ' => v = .lst none 1 ((bothX a b).map encX) ∧ σ' = S := by
 rw [← both_put ha hb]
 exact rBoth_spec a b hab S
def atG (s : Bs) : List Bs → Nat → Int
 | [], _ => -1
 | x :: l, i => if x = s then (i : Int) else atG s l (i + 1)
noncomputable def lkI (bot : Val) (s : List Bs) (w : List Val) (k : Bs) : Val := if 0 ≤ atG k s 0 then w.getD (atG k s 0).toNat noV else bot
theorem at_get (k : Bs) : ∀ (s : List Bs) (i : Nat), 0 ≤ atG k s i → ∃ p, atG k s i = ((i + p : Nat) : Int) ∧ s[p]? = some k
 | [], i, h => by rw [atG] at h; omega
 | x :: s, i, h => by
  rw [atG] at h ⊢
  by_cases e : x = k
  ·rw [if_pos e]; exact ⟨0, rfl, by simp [e]⟩
  ·rw [if_neg e] at h ⊢
   obtain ⟨p, h1, h2⟩ := at_get k s (i + 1) h
   exact ⟨p + 1, by rw [h1]; omega, by simpa using h2⟩
theorem lk_yes {bot : Val} {s : List Bs} {w : List Val} {k : Bs} (hl : s.length = w.length) (h : 0 ≤ atG k s 0) : ∃ p v, atG k s 0 = ((p : Nat) : Int) ∧ w[p]? = some v ∧ lkI bot s w k = v := by
 obtain ⟨p, h1, h2⟩ := at_get k s 0 h
 rw [Nat.zero_add] at h1
 have hp : p < w.length := by rw [← hl]; exact (zI.1 h2).1
 refine ⟨p, w[p], h1, zD hp, ?_⟩
 unfold lkI
 rw [if_pos h, h1]
 simp [hp]
theorem lk_not {bot : Val} {s : List Bs} {w : List Val} {k : Bs} (h : ¬ 0 ≤ atG k s 0) : lkI bot s w k = bot := if_neg h
theorem at_neg (k : Bs) : ∀ (s : List Bs) (i : Nat), ¬ 0 ≤ atG k s i → atG k s i = -1
 | [], i, _ => by rw [atG]
 | x :: s, i, h => by
  rw [atG] at h ⊢
  by_cases e : x = k
  ·rw [if_pos e] at h; omega
  ·rw [if_neg e] at h ⊢; exact at_neg k s (i + 1) h
theorem lk_cases {bot : Val} {s : List Bs} {w : List Val} {k : Bs} (hl : s.length = w.length) : (∃ p v, atG k s 0 = ((p : Nat) : Int) ∧ w[p]? = some v ∧ lkI bot s w k = v) ∨ (atG k s 0 = -1 ∧ lkI bot s w k = bot) := by
 by_cases h : 0 ≤ atG k s 0
 ·exact .inl (lk_yes hl h)
 ·exact .inr ⟨at_neg k s 0 h, lk_not h⟩
theorem lk_right {t : Sch} {bot : Val} {s : List Bs} {w : List Val} {k : Bs} (hl : s.length = w.length) (hw : ∀ x ∈ w, okV x ∧ isVF t x = true) (hb : okV bot ∧ isVF t bot = true) : okV (lkI bot s w k) ∧ isVF t (lkI bot s w k) = true := by
 rcases lk_cases (bot := bot) (k := k) hl with ⟨p, v, _, h2, h3⟩ | ⟨_, h3⟩
 ·rw [h3]; exact hw v (zF0 h2)
 ·rw [h3]; exact hb
theorem lk_look {bot : Val} {k : Bs} : ∀ {s : List Bs} {w : List Val}, s.length = w.length → ∀ i, (if 0 ≤ atG k s i then w.getD ((atG k s i).toNat - i) noV else bot) = lkB bot (s.zip w) k
 | [], [], _, i => by simp [atG, lkB, look]
 | x :: s, y :: w, h, i => by
  rw [List.zip_cons_cons]
  unfold lkB
  rw [zO2, atG]
  by_cases e : x = k
  ·rw [if_pos e, if_pos e, if_pos (by omega)]
   simp
  ·rw [if_neg e, if_neg e]
   have ih := lk_look (bot := bot) (k := k) (s := s) (w := w) (by simpa using h) (i + 1)
   unfold lkB at ih
   rw [← ih]
   by_cases h0 : 0 ≤ atG k s (i + 1)
   ·rw [if_pos h0, if_pos h0]
    obtain ⟨p, h1, _⟩ := at_get k s (i + 1) h0
    rw [h1]
    have e1 : ((((i + 1 + p : Nat) : Int)).toNat - i) = p + 1 := by rw [Int.toNat_natCast]; omega
    have e2 : ((((i + 1 + p : Nat) : Int)).toNat - (i + 1)) = p := by rw [Int.toNat_natCast]; omega
    rw [e1, e2]
    simp
   ·rw [if_neg h0, if_neg h0]
theorem lkI_look {bot : Val} {k : Bs} {s : List Bs} {w : List Val} (h : s.length = w.length) : lkI bot s w k = lkB bot (s.zip w) k := by
 rw [← lk_look h 0]
 unfold lkI
 simp
noncomputable def mpV (t : Sch) (s1 : List Bs) (w1 : List Val) (s2 : List Bs) (w2 : List Val) (l : List Bs) : List Val := l.map fun k => jn t (lkI (bottomF t) s1 w1 k) (lkI (bottomF t) s2 w2 k)
noncomputable def mpO (t : Sch) (s1 : List Bs) (w1 : List Val) (s2 : List Bs) (w2 : List Val) (l : List Bs) : Bool := l.all fun k => okJ t (lkI (bottomF t) s1 w1 k) (lkI (bottomF t) s2 w2 k)
theorem mpV_take {t : Sch} {s1 s2 l : List Bs} {w1 w2 : List Val} {i : Nat} {k : Bs} (h : l[i]? = some k) : mpV t s1 w1 s2 w2 (l.take (i + 1)) = mpV t s1 w1 s2 w2 (l.take i) ++ [jn t (lkI (bottomF t) s1 w1 k) (lkI (bottomF t) s2 w2 k)] := by
 unfold mpV
 rw [List.take_add_one, h, Option.toList_some, List.map_append]; rfl
theorem mpO_take {t : Sch} {s1 s2 l : List Bs} {w1 w2 : List Val} {i : Nat} {k : Bs} (h : l[i]? = some k) : mpO t s1 w1 s2 w2 (l.take (i + 1)) = (mpO t s1 w1 s2 w2 (l.take i) && okJ t (lkI (bottomF t) s1 w1 k) (lkI (bottomF t) s2 w2 k)) := by
 unfold mpO
 rw [List.take_add_one, h, Option.toList_some, List.all_append]; simp
theorem mpV_len {t : Sch} {s1 s2 l : List Bs} {w1 w2 : List Val} {i : Nat} (h : i ≤ l.length) : (mpV t s1 w1 s2 w2 (l.take i)).length = i := by
 unfold mpV
 rw [zC, List.length_take]; omega
theorem rAt_spec (l : List Bs) (s : Bs) (S : MS) : MCalls Tryz.prog 108 [.lst none 1 (l.map encX), encX s] S fun v σ' => v = .int .i64 (atG s l 0) ∧ σ' = S := by
 refine zU Tryz.func108 rfl Tryz.ntmps108 (zA rfl) ?_
 refine zN2 (t := 0) rfl fun hlen => ?_
 rw [zC] at hlen
 refine zB <| qR rfl <| qA rfl rfl rfl <| qN <| zB <| zB <| qR rfl <| qA rfl rfl rfl <| qN <| zB0 ?_
 refine zV1 (α := Nat) [(0, _), (1, _)] (fun i => [(5, .int .i64 (i : Int))]) (fun i => []) (fun i => i ≤ l.length ∧ atG s l 0 = atG s (l.drop i) i) (fun i => l.length - i) (0) (.keep rfl (.keep rfl (.nil))) (.keep rfl (.nil)) (⟨by omega, rfl⟩) (rfl) ?_
 rintro i ⟨hi, he⟩
 refine zB <| zB <| qR rfl <| qM rfl rfl rfl <| qM rfl rfl rfl <| qE rfl rfl zX rfl <| qC rfl rfl rfl rfl rfl <| qN ?_
 refine zJ rfl (fun h9 => ?_) (fun h9 => ?_)
 ·
  have hlt : i < l.length := by simpa using h9
  obtain ⟨y, hs⟩ : ∃ q_, l[i]? = some q_ := ⟨_, zD hlt⟩
  refine zA0 <| zB <| zB0 <| zB <| qR rfl <| qM rfl rfl rfl <| qM rfl rfl rfl <| qO rfl <| zG rfl zX sz9 (by decide) rfl rfl rfl (zV0 hs) ?_
  refine qO rfl <| zH rfl rfl ta9 rfl <| qM rfl rfl rfl <| qO rfl <| zG3 rfl rfl rfl rfl <| qN ?_
  refine zJ rfl (fun h17 => ?_) (fun h17 => ?_)
  ·
   have heq : y = s := by simpa using h17
   refine zB <| qR rfl <| qM rfl rfl rfl <| qA rfl rfl rfl <| qN <| zK ?_
   exact zQ (.inr rfl) Tryz.results108 rfl (.of_eq (by rw [he, dropJ hs, atG, if_pos heq])) (.int _ _) ⟨rfl, rfl⟩
  ·
   have hne : ¬ y = s := by simpa using h17
   refine zA0 <| qR rfl <| qM rfl rfl rfl <| qO rfl <| zY0 rfl rfl rfl rfl <| qA rfl rfl rfl <| qN ?_
   refine ⟨i + 1, by omega, ⟨by omega, by rw [he, dropJ hs, atG, if_neg hne]⟩, rfl, (.keep rfl (.keep rfl (.nil))), (.eq rfl (zM1 hlt hlen) (.nil))⟩
 ·
  have hge : i = l.length := by simp at h9; omega
  refine zN1 <| zB <| qR rfl <| qA rfl rfl rfl <| qN <| zK ?_
  exact zQ (.inr rfl) Tryz.results108 rfl (.of_eq (by rw [he, hge, List.drop_length, atG])) (.int _ _) ⟨rfl, rfl⟩
theorem clo_out {n t : Nat} {xs : List Bs} {ws : List Val} (h : t < n) : (MObj.cells [.int .u64 0, .int .u64 0, .lst none 1 (xs.map encX), .lst0, .lst (some t) 5 (encVs ws)]).cl n := by
 intro x hx
 simp only [List.mem_cons, List.not_mem_nil, or_false] at hx
 rcases hx with rfl | rfl | rfl | rfl | rfl
 ·exact .int _ _
 ·exact .int _ _
 ·exact zV4 _ _
 ·exact .lst0
 ·rw [zJ4]; exact zR5 h (fun e => zJ1 n e) (fun e => by cases e; exact .inl rfl)
theorem _root_.zD3 : type_of% @of_decide_eq_true := @of_decide_eq_true
theorem _root_.zW2 : type_of% @of_decide_eq_false := @of_decide_eq_false
theorem rMaps_spec (k1 : Int) (i1 : List Sch) (hF : isF 16 (.mk k1 i1) = true) (s1 s2 : List Bs) (w1 w2 : List Val) (l1 : s1.length = w1.length) (l2 : s2.length = w2.length) (u1 : Up s1) (u2 : Up s2) (n1 : s1.length ≤ 40) (n2 : s2.length ≤ 40) (r1 : ∀ x ∈ w1, okV x ∧ isVF (.mk k1 i1) x = true) (r2 : ∀ x ∈ w2, okV x ∧ isVF (.mk k1 i1) x = true) (ih : ∀ x y : Val, okV x → okV y → isVF (.mk k1 i1) x = true → isVF (.mk k1 i1) y = true → ∀ S : MS, MCalls Tryz.prog 32 [encS (.mk k1 i1), encV x, encV y] S fun v σ' => v = .tup [encV (jn (.mk k1 i1) x y), .bool (okJ (.mk k1 i1) x y)] ∧ σ' = S) (S : MS) : MCalls Tryz.prog 58 [encS (.mk 4 [.mk k1 i1]), encV (.mk 0 0 s1 [] w1), encV (.mk 0 0 s2 [] w2)] S fun v σ' => v = .tup [encV (.mk 0 0 (bothX s1 s2) [] (mpV (.mk k1 i1) s1 w1 s2 w2 (bothX s1 s2))), .bool (decide ((bothX s1 s2).length ≤ 40) && mpO (.mk k1 i1) s1 w1 s2 w2 (bothX s1 s2))] ∧ σ' = S := by
 refine zU Tryz.func58 rfl Tryz.ntmps58 (zA rfl) ?_
 obtain ⟨⟨bn, bm, bs_, bc, bw⟩, eb⟩ : ∃ v, bottomF (.mk k1 i1) = v := ⟨_, rfl⟩
 have hbt : ∀ S : MS, MCalls Tryz.prog 37 [encS (.mk k1 i1)] S fun v σ' => v = encV (.mk bn bm bs_ bc bw) ∧ σ' = S := fun S => by
  have := rBottom_spec (.mk k1 i1) S
  rwa [bot_eq hF (by omega), eb] at this
 have hbb : okV (bottomF (.mk k1 i1)) ∧ isVF (.mk k1 i1) (bottomF (.mk k1 i1)) = true := ⟨okV_bot hF, is_bot hF⟩
 have hkl := both_len s1 s2
 refine zB <| qR rfl <| qB rfl rfl rfl rfl rfl <| qB rfl rfl rfl rfl rfl <| qB rfl rfl rfl rfl rfl <| qO rfl <| zN0 rfl zm30 rfl rfl <| qA rfl rfl rfl <| qN <| zB <| qR rfl <| qF rfl rfl rfl zR1 <| qL rfl rfl rfl rfl ta26 rfl <| qF rfl rfl rfl zR1 <| qL rfl rfl rfl rfl ta26 rfl ?_
 refine qX rfl rfl rfl rfl co57 (rBothT_spec s1 s2 u1 u2 (by omega) _) ?_
 refine qO rfl <| zW1 rfl zS0 zm30 (.cons zR1 sz26 rfl rfl (zA rfl) .nil) (by kernel_rfl) ?_
 refine qO rfl <| zN0 rfl zm30 rfl rfl <| qO rfl <| zH0 rfl rfl rfl rfl sz30 rfl rfl (zA rfl) rfl <| qN <| zB <| qR rfl <| qF rfl rfl rfl zR1 <| qL rfl rfl rfl rfl ta26 rfl <| qE rfl rfl zX rfl <| qC rfl rfl rfl rfl rfl <| qA rfl rfl rfl <| qN <| zB <| zB <| qR rfl <| qA rfl rfl rfl <| qN <| zB0 <| zW5 4 4 30 5 rfl rfl (Nat.le_refl _) rfl rfl ?_
 refine zR4 (α := Nat) [(3, _), (4, _), (5, _), (6, _), (8, _)] (fun i => [(9, .bool (decide ((bothX s1 s2).length ≤ 40) && mpO (.mk k1 i1) s1 w1 s2 w2 ((bothX s1 s2).take i))), (10, .int .i64 (i : Int))]) (fun i => [.cells (encS (.mk 4 [.mk k1 i1])).cells, .cells (encV (.mk 0 0 s1 [] w1)).cells, .cells (encV (.mk 0 0 s2 [] w2)).cells, .cells [.int .u64 0, .int .u64 0, .lst0, .lst0, .lst0], .cells [.int .u64 0, .int .u64 0, .lst none 1 ((bothX s1 s2).map encX), .lst0, .lst (some (S.length + 5)) 5 (encVs (mpV (.mk k1 i1) s1 w1 s2 w2 ((bothX s1 s2).take i)))], .row 30 5 (mpV (.mk k1 i1) s1 w1 s2 w2 ((bothX s1 s2).take i)).length]) (fun i => i ≤ (bothX s1 s2).length) (fun i => (bothX s1 s2).length - i) (0) (Nat.le_refl _) (.keep rfl (.keep rfl (.keep rfl (.keep rfl (.keep rfl (.nil)))))) (.eq rfl (congrArg MV.bool (by rw [zF]; simp [mpO] <;> omega)) (.keep rfl (.nil))) (by omega) (rfl) ?_
 rintro i hi
 have hvl := mpV_len (t := (.mk k1 i1)) (s1 := s1) (s2 := s2) (w1 := w1) (w2 := w2) hi
 refine zB <| zB <| qR rfl <| qM rfl rfl rfl <| qF rfl rfl rfl zR1 <| qL rfl rfl rfl rfl ta26 rfl <| qE rfl rfl zX rfl <| qC rfl rfl rfl rfl rfl <| qN ?_
 refine zJ rfl (fun h31 => ?_) (fun h31 => ?_)
 ·
  have hlt : i < (bothX s1 s2).length := by simpa using h31
  obtain ⟨ky, hs⟩ : ∃ q_, (bothX s1 s2)[i]? = some q_ := ⟨_, zD hlt⟩
  have oX := lk_right (k := ky) l1 r1 hbb
  have oY := lk_right (k := ky) l2 r2 hbb
  have hz := ih (lkI (bottomF (.mk k1 i1)) s1 w1 ky) (lkI (bottomF (.mk k1 i1)) s2 w2 ky) oX.1 oY.1 oX.2 oY.2
  obtain ⟨⟨zn, zm, zs, zc, zw⟩, ez⟩ : ∃ v, jn (.mk k1 i1) (lkI (bottomF (.mk k1 i1)) s1 w1 ky) (lkI (bottomF (.mk k1 i1)) s2 w2 ky) = v := ⟨_, rfl⟩
  rw [ez] at hz
  obtain ⟨⟨xn, xm, xs, xc, xw⟩, ex⟩ : ∃ v, lkI (bottomF (.mk k1 i1)) s1 w1 ky = v := ⟨_, rfl⟩
  obtain ⟨⟨yn, ym, ys, yc, yw⟩, ey⟩ : ∃ v, lkI (bottomF (.mk k1 i1)) s2 w2 ky = v := ⟨_, rfl⟩
  rw [ex, ey] at hz
  refine zA0 <| zB <| zB0 <| zB <| mwp_hole 30 5 <| mwp_hole 30 5 ?_
  have hBl : (S ++ ([.cells (encS (.mk 4 [.mk k1 i1])).cells, .cells (encV (.mk 0 0 s1 [] w1)).cells, .cells (encV (.mk 0 0 s2 [] w2)).cells, .cells [.int .u64 0, .int .u64 0, .lst0, .lst0, .lst0], .cells [.int .u64 0, .int .u64 0, .lst none 1 ((bothX s1 s2).map encX), .lst0, .lst (some (S.length + 5)) 5 (encVs (mpV (.mk k1 i1) s1 w1 s2 w2 ((bothX s1 s2).take i)))], .row 30 5 (mpV (.mk k1 i1) s1 w1 s2 w2 ((bothX s1 s2).take i)).length] : MS)).length = S.length + 6 := by simp
  refine mwp_drawS (st2 (S ++ ([.cells (encS (.mk 4 [.mk k1 i1])).cells, .cells (encV (.mk 0 0 s1 [] w1)).cells, .cells (encV (.mk 0 0 s2 [] w2)).cells, .cells [.int .u64 0, .int .u64 0, .lst0, .lst0, .lst0], .cells [.int .u64 0, .int .u64 0, .lst none 1 ((bothX s1 s2).map encX), .lst0, .lst (some (S.length + 5)) 5 (encVs (mpV (.mk k1 i1) s1 w1 s2 w2 ((bothX s1 s2).take i)))], .row 30 5 (mpV (.mk k1 i1) s1 w1 s2 w2 ((bothX s1 s2).take i)).length] : MS)) 30 5 10 11 12 13 [.int .u64 0, .int .u64 0, .lst0, .lst0, .lst0] (encV (.mk bn bm bs_ bc bw)).cells (encV (.mk bn bm bs_ bc bw)).cells) mo (by decide) (by show (S ++ ([.cells (encS (.mk 4 [.mk k1 i1])).cells, .cells (encV (.mk 0 0 s1 [] w1)).cells, .cells (encV (.mk 0 0 s2 [] w2)).cells, .cells [.int .u64 0, .int .u64 0, .lst0, .lst0, .lst0], .cells [.int .u64 0, .int .u64 0, .lst none 1 ((bothX s1 s2).map encX), .lst0, .lst (some (S.length + 5)) 5 (encVs (mpV (.mk k1 i1) s1 w1 s2 w2 ((bothX s1 s2).take i)))], .row 30 5 (mpV (.mk k1 i1) s1 w1 s2 w2 ((bothX s1 s2).take i)).length] : MS)) ++ ([MObj.orow 30 5 0 []] ++ [MObj.orow 30 5 0 []]) = _; exact (zC0 _ _ _).symm) ?_
  refine zK4 rfl (fun D hD => op_st2 (by decide) (by decide) (by decide) (by decide) (zE rfl rfl zU2 ⟨rfl, rfl⟩)) ?_
  refine zK4 rfl (fun D hD => op_st2 (by decide) (by decide) (by decide) (by decide) (zT rfl rfl (get_st2 (by rw [getElem?_own]; rfl)) ta22 rfl ⟨rfl, rfl⟩)) ?_
  refine zK4 rfl (fun D hD => op_st2 (by decide) (by decide) (by decide) (by decide) (zG rfl zR0 sz24 (by decide) rfl rfl rfl (show _ = some (encS (.mk k1 i1)) from rfl) ⟨rfl, rfl⟩)) ?_
  refine zK4 rfl (fun D hD => op_st2 (by decide) (by decide) (by decide) (by decide) (zH rfl rfl ta24 rfl ⟨rfl, rfl⟩)) ?_
  refine zK4 rfl (fun D hD => op_st2 (by decide) (by decide) (by decide) (by decide) (zH1 rfl rfl rfl co37 (hbt _))) ?_
  refine zK4 rfl (fun D hD => op_st2 (by decide) (by decide) (by decide) (by decide) (zE rfl rfl zU2 ⟨rfl, rfl⟩)) ?_
  refine zK4 rfl (fun D hD => op_st2 (by decide) (by decide) (by decide) (by decide) (zT rfl rfl (get_st2 (by rw [getElem?_own]; rfl)) ta22 rfl ⟨rfl, rfl⟩)) ?_
  refine zK4 rfl (fun D hD => op_st2 (by decide) (by decide) (by decide) (by decide) (zG rfl zR0 sz24 (by decide) rfl rfl rfl (show _ = some (encS (.mk k1 i1)) from rfl) ⟨rfl, rfl⟩)) ?_
  refine zK4 rfl (fun D hD => op_st2 (by decide) (by decide) (by decide) (by decide) (zH rfl rfl ta24 rfl ⟨rfl, rfl⟩)) ?_
  refine zK4 rfl (fun D hD => op_st2 (by decide) (by decide) (by decide) (by decide) (zH1 rfl rfl rfl co37 (hbt _))) ?_
  refine zK4 rfl (fun D hD => op_st2_ax rfl zm30 rfl hD.1 (no_later hD (j := 12) rfl (by decide)) (by decide) (by decide) (by decide)) ?_
  refine zK4 rfl (fun D hD => op_st2_ay rfl zm30 rfl hD.1 (no_later hD (j := 13) rfl (by decide)) (by decide) (by decide) (by decide)) ?_
  refine zK4 rfl (fun D hD => op_st2_sx (m := encV (.mk bn bm bs_ bc bw)) rfl rfl rfl sz30 rfl rfl rfl rfl (hD.2.1 10 (by decide)) hD.1 (by decide) (by decide) (by decide)) ?_
  refine zK4 rfl (fun D hD => op_st2_sy (m := encV (.mk bn bm bs_ bc bw)) rfl rfl rfl sz30 rfl rfl rfl rfl (hD.2.1 11 (by decide)) hD.1 (by decide) (by decide) (by decide)) ?_
  refine dOpsS_nil ?_
  rw [hBl]
  show mwp _ _ _ _ _ _ _ ((S ++ ([.cells (encS (.mk 4 [.mk k1 i1])).cells, .cells (encV (.mk 0 0 s1 [] w1)).cells, .cells (encV (.mk 0 0 s2 [] w2)).cells, .cells [.int .u64 0, .int .u64 0, .lst0, .lst0, .lst0], .cells [.int .u64 0, .int .u64 0, .lst none 1 ((bothX s1 s2).map encX), .lst0, .lst (some (S.length + 5)) 5 (encVs (mpV (.mk k1 i1) s1 w1 s2 w2 ((bothX s1 s2).take i)))], .row 30 5 (mpV (.mk k1 i1) s1 w1 s2 w2 ((bothX s1 s2).take i)).length] : MS)) ++ [.orow 30 5 1 (encV (.mk bn bm bs_ bc bw)).cells, .orow 30 5 1 (encV (.mk bn bm bs_ bc bw)).cells])
  rw [zC0 S]
  refine mwp_join (E := [(3, .ref (S.length + 0) 0), (4, .ref (S.length + 1) 0), (5, .ref (S.length + 2) 0), (6, .ref (S.length + 3) 0), (8, .ref (S.length + 4) 0), (9, .bool (decide ((bothX s1 s2).length ≤ 40) && mpO (.mk k1 i1) s1 w1 s2 w2 ((bothX s1 s2).take i))), (10, .int .i64 (i : Int)), (11, .orf (S.length + 6) 1 0), (12, .orf (S.length + 7) 1 0)]) (S ++ [.cells (encS (.mk 4 [.mk k1 i1])).cells, .cells (encV (.mk 0 0 s1 [] w1)).cells, .cells (encV (.mk 0 0 s2 [] w2)).cells, .cells [.int .u64 0, .int .u64 0, .lst0, .lst0, .lst0], .cells [.int .u64 0, .int .u64 0, .lst none 1 ((bothX s1 s2).map encX), .lst0, .lst (some (S.length + 5)) 5 (encVs (mpV (.mk k1 i1) s1 w1 s2 w2 ((bothX s1 s2).take i)))], .row 30 5 (mpV (.mk k1 i1) s1 w1 s2 w2 ((bothX s1 s2).take i)).length, .orow 30 5 1 (encV (.mk xn xm xs xc xw)).cells, .orow 30 5 1 (encV (.mk bn bm bs_ bc bw)).cells]) ?_ ?_
  ·
   refine zB ?_
   refine zU0 [] [_] mo (by decide) rfl rfl rfl rfl ?_
   refine dO rfl rfl rfl (zE rfl rfl zR1 ⟨rfl, rfl⟩) <| dO rfl rfl rfl (zD0 rfl rfl rfl ta26 rfl ⟨rfl, rfl⟩) <| dO rfl rfl rfl (zE rfl rfl zR1 ⟨rfl, rfl⟩) <| dO rfl rfl rfl (zD0 rfl rfl rfl ta26 rfl ⟨rfl, rfl⟩) ?_
   skip
   refine dO rfl rfl rfl (zV rfl rfl ⟨rfl, rfl⟩) <| dO rfl rfl rfl (zG rfl zX sz9 (by decide) rfl rfl rfl (zV0 hs) ⟨rfl, rfl⟩) ?_
   refine dO rfl rfl rfl (zH rfl rfl ta9 rfl ⟨rfl, rfl⟩) <| zS rfl rfl (.cons (zH1 rfl rfl rfl co108 (rAt_spec s1 ky _)) .nil) <| dO rfl rfl rfl (zB1 rfl rfl ⟨rfl, rfl⟩) <| zL0 <| zB <| qR rfl <| qM rfl rfl rfl <| qC rfl rfl rfl rfl rfl <| qN ?_
   refine zJ rfl (fun h53 => ?_) (fun h53 => ?_)
   ·
    obtain ⟨pA, vA, haA, hwA, hkA⟩ := lk_yes (bot := bottomF (.mk k1 i1)) (k := ky) l1 (zD3 h53)
    rw [ex] at hkA
    subst hkA
    refine qR rfl <| qF rfl rfl rfl zF1 <| qL rfl rfl rfl rfl ta28 rfl <| qM rfl rfl rfl <| qO rfl <| zG rfl zO sz30 (by decide) rfl rfl haA (zZ1 hwA) ?_
    refine qO rfl <| zH rfl rfl ta30 rfl ?_
    refine zL4 rfl (op_store_orf (id := S.length + 6) rfl rfl rfl (by rw [getElem?_own]; rfl) sz30 rfl rfl (zA rfl) ?_)
    rw [zM4]
    refine qN ?_
    first | exact ⟨rfl, rfl, (.keep rfl (.keep rfl (.keep rfl (.keep rfl (.keep rfl (.keep rfl (.keep rfl (.keep rfl (.keep rfl (.nil))))))))))⟩ | exact ⟨rfl, by rw [hbx] <;> rfl, (.keep rfl (.keep rfl (.keep rfl (.keep rfl (.keep rfl (.keep rfl (.keep rfl (.keep rfl (.keep rfl (.nil))))))))))⟩
   ·
    have hbx : ((.mk bn bm bs_ bc bw) : Val) = (.mk xn xm xs xc xw) := by rw [← eb, ← ex, lk_not (zW2 h53)]
    refine zA0 ?_
    first | exact ⟨rfl, rfl, (.keep rfl (.keep rfl (.keep rfl (.keep rfl (.keep rfl (.keep rfl (.keep rfl (.keep rfl (.keep rfl (.nil))))))))))⟩ | exact ⟨rfl, by rw [hbx] <;> rfl, (.keep rfl (.keep rfl (.keep rfl (.keep rfl (.keep rfl (.keep rfl (.keep rfl (.keep rfl (.keep rfl (.nil))))))))))⟩
  ·
   refine mwp_join (E := [(3, .ref (S.length + 0) 0), (4, .ref (S.length + 1) 0), (5, .ref (S.length + 2) 0), (6, .ref (S.length + 3) 0), (8, .ref (S.length + 4) 0), (9, .bool (decide ((bothX s1 s2).length ≤ 40) && mpO (.mk k1 i1) s1 w1 s2 w2 ((bothX s1 s2).take i))), (10, .int .i64 (i : Int)), (11, .orf (S.length + 6) 1 0), (12, .orf (S.length + 7) 1 0)]) (S ++ [.cells (encS (.mk 4 [.mk k1 i1])).cells, .cells (encV (.mk 0 0 s1 [] w1)).cells, .cells (encV (.mk 0 0 s2 [] w2)).cells, .cells [.int .u64 0, .int .u64 0, .lst0, .lst0, .lst0], .cells [.int .u64 0, .int .u64 0, .lst none 1 ((bothX s1 s2).map encX), .lst0, .lst (some (S.length + 5)) 5 (encVs (mpV (.mk k1 i1) s1 w1 s2 w2 ((bothX s1 s2).take i)))], .row 30 5 (mpV (.mk k1 i1) s1 w1 s2 w2 ((bothX s1 s2).take i)).length, .orow 30 5 1 (encV (.mk xn xm xs xc xw)).cells, .orow 30 5 1 (encV (.mk yn ym ys yc yw)).cells]) ?_ ?_
   ·
    refine zB ?_
    refine zU0 [] [_] mo (by decide) rfl rfl rfl rfl ?_
    refine dO rfl rfl rfl (zE rfl rfl zR1 ⟨rfl, rfl⟩) <| dO rfl rfl rfl (zD0 rfl rfl rfl ta26 rfl ⟨rfl, rfl⟩) <| dO rfl rfl rfl (zE rfl rfl zR1 ⟨rfl, rfl⟩) <| dO rfl rfl rfl (zD0 rfl rfl rfl ta26 rfl ⟨rfl, rfl⟩) ?_
    skip
    refine dO rfl rfl rfl (zV rfl rfl ⟨rfl, rfl⟩) <| dO rfl rfl rfl (zG rfl zX sz9 (by decide) rfl rfl rfl (zV0 hs) ⟨rfl, rfl⟩) ?_
    refine dO rfl rfl rfl (zH rfl rfl ta9 rfl ⟨rfl, rfl⟩) <| zS rfl rfl (.cons (zH1 rfl rfl rfl co108 (rAt_spec s2 ky _)) .nil) <| dO rfl rfl rfl (zB1 rfl rfl ⟨rfl, rfl⟩) <| zL0 <| zB <| qR rfl <| qM rfl rfl rfl <| qC rfl rfl rfl rfl rfl <| qN ?_
    refine zJ rfl (fun h68 => ?_) (fun h68 => ?_)
    ·
     obtain ⟨pB, vB, haB, hwB, hkB⟩ := lk_yes (bot := bottomF (.mk k1 i1)) (k := ky) l2 (zD3 h68)
     rw [ey] at hkB
     subst hkB
     refine qR rfl <| qF rfl rfl rfl zF1 <| qL rfl rfl rfl rfl ta28 rfl <| qM rfl rfl rfl <| qO rfl <| zG rfl zO sz30 (by decide) rfl rfl haB (zZ1 hwB) ?_
     refine qO rfl <| zH rfl rfl ta30 rfl ?_
     refine zL4 rfl (op_store_orf (id := S.length + 7) rfl rfl rfl (by rw [getElem?_own]; rfl) sz30 rfl rfl (zA rfl) ?_)
     rw [zM4]
     refine qN ?_
     first | exact ⟨rfl, rfl, (.keep rfl (.keep rfl (.keep rfl (.keep rfl (.keep rfl (.keep rfl (.keep rfl (.keep rfl (.keep rfl (.nil))))))))))⟩ | exact ⟨rfl, by rw [hbx] <;> rfl, (.keep rfl (.keep rfl (.keep rfl (.keep rfl (.keep rfl (.keep rfl (.keep rfl (.keep rfl (.keep rfl (.nil))))))))))⟩
    ·
     have hbx : ((.mk bn bm bs_ bc bw) : Val) = (.mk yn ym ys yc yw) := by rw [← eb, ← ey, lk_not (zW2 h68)]
     refine zA0 ?_
     first | exact ⟨rfl, rfl, (.keep rfl (.keep rfl (.keep rfl (.keep rfl (.keep rfl (.keep rfl (.keep rfl (.keep rfl (.keep rfl (.nil))))))))))⟩ | exact ⟨rfl, by rw [hbx] <;> rfl, (.keep rfl (.keep rfl (.keep rfl (.keep rfl (.keep rfl (.keep rfl (.keep rfl (.keep rfl (.keep rfl (.nil))))))))))⟩
   ·
    refine zB ?_
    refine zU0 [10, 11] [_, S ++ [.cells (encS (.mk 4 [.mk k1 i1])).cells, .cells (encV (.mk 0 0 s1 [] w1)).cells, .cells (encV (.mk 0 0 s2 [] w2)).cells, .cells [.int .u64 0, .int .u64 0, .lst0, .lst0, .lst0], .cells [.int .u64 0, .int .u64 0, .lst none 1 ((bothX s1 s2).map encX), .lst0, .lst (some (S.length + 5)) 5 (encVs (mpV (.mk k1 i1) s1 w1 s2 w2 ((bothX s1 s2).take i)))], .row 30 5 (mpV (.mk k1 i1) s1 w1 s2 w2 ((bothX s1 s2).take i)).length, .orow 30 5 1 (encV (.mk xn xm xs xc xw)).cells, .orow 30 5 1 (encV (.mk yn ym ys yc yw)).cells, .cells [.int .u64 0, .int .u64 0, .lst0, .lst0, .lst0]], S ++ [.cells (encS (.mk 4 [.mk k1 i1])).cells, .cells (encV (.mk 0 0 s1 [] w1)).cells, .cells (encV (.mk 0 0 s2 [] w2)).cells, .cells [.int .u64 0, .int .u64 0, .lst0, .lst0, .lst0], .cells [.int .u64 0, .int .u64 0, .lst none 1 ((bothX s1 s2).map encX), .lst0, .lst (some (S.length + 5)) 5 (encVs (mpV (.mk k1 i1) s1 w1 s2 w2 ((bothX s1 s2).take i)))], .row 30 5 (mpV (.mk k1 i1) s1 w1 s2 w2 ((bothX s1 s2).take i)).length, .orow 30 5 1 (encV (.mk xn xm xs xc xw)).cells, .orow 30 5 1 (encV (.mk yn ym ys yc yw)).cells, .cells (encV (.mk zn zm zs zc zw)).cells]] mo (by decide) rfl rfl rfl rfl ?_
    refine zS rfl rfl (.cons (zE rfl rfl zU2 ⟨rfl, rfl⟩) (.cons (zE rfl rfl zU2 ⟨rfl, rfl⟩) (.nil))) <| zS rfl rfl (.cons (zD0 rfl rfl rfl ta22 rfl ⟨rfl, rfl⟩) (.cons (zD0 rfl rfl rfl ta22 rfl ⟨rfl, rfl⟩) (.nil))) <| zS rfl rfl (.cons (zG rfl zR0 sz24 (by decide) rfl rfl rfl (show _ = some (encS (.mk k1 i1)) from rfl) ⟨rfl, rfl⟩) (.cons (zG rfl zR0 sz24 (by decide) rfl rfl rfl (show _ = some (encS (.mk k1 i1)) from rfl) ⟨rfl, rfl⟩) (.nil))) ?_
    refine zS rfl rfl (.cons (zH rfl rfl ta24 rfl ⟨rfl, rfl⟩) (.cons (zH rfl rfl ta24 rfl ⟨rfl, rfl⟩) (.nil))) ?_
    refine zS rfl rfl (.cons (op_load_orf (id := S.length + 6) rfl rfl (by rw [getElem?_own]; rfl) ta30 rfl ⟨rfl, rfl⟩) (.cons (op_load_orf (id := S.length + 6) rfl rfl (by rw [getElem?_own]; rfl) ta30 rfl ⟨rfl, rfl⟩) (.nil))) ?_
    refine zS rfl rfl (.cons (op_load_orf (id := S.length + 7) rfl rfl (by rw [getElem?_own]; rfl) ta30 rfl ⟨rfl, rfl⟩) (.cons (op_load_orf (id := S.length + 7) rfl rfl (by rw [getElem?_own]; rfl) ta30 rfl ⟨rfl, rfl⟩) (.nil))) ?_
    refine zS rfl rfl (.cons (zH1 rfl rfl rfl co32 (hz _)) (.cons (zH1 rfl rfl rfl co32 (hz _)) (.nil))) <| zS rfl rfl (.cons (zV rfl rfl ⟨rfl, rfl⟩) (.cons (zV rfl rfl ⟨rfl, rfl⟩) (.nil))) <| zS rfl rfl (.cons (zE0 rfl rfl rfl ⟨rfl, rfl⟩) (.cons (zE0 rfl rfl rfl ⟨rfl, rfl⟩) (.nil))) <| zS rfl rfl (.cons (zE0 rfl rfl rfl ⟨rfl, rfl⟩) (.cons (zE0 rfl rfl rfl ⟨rfl, rfl⟩) (.cons (zE0 rfl rfl rfl ⟨rfl, rfl⟩) (.nil)))) <| zX0 rfl rfl rfl rfl (zN0 rfl zm30 rfl rfl ⟨rfl, rfl⟩) <| zX0 rfl rfl rfl rfl (zH0 rfl rfl rfl rfl sz30 rfl rfl (zA rfl) rfl ⟨rfl, rfl⟩) <| dO rfl rfl rfl (zB1 rfl rfl ⟨rfl, rfl⟩) <| zL0 <| qR rfl <| qF rfl rfl rfl zF1 <| qL rfl rfl rfl rfl ta28 rfl <| qL rfl rfl rfl rfl ta30 rfl <| qO rfl <| zC1 rfl zO el30 rfl rfl (by decide) (by decide) rfl rfl ?_
    refine qO rfl <| zC2 rfl zO el30 rfl rfl rfl (zR _) (by simp only [zY, List.length_nil]; omega) (by simp only [zY, List.length_nil]; omega) rfl ?_
    refine qM rfl rfl rfl <| qM rfl rfl rfl ?_
    refine zG0 (fun h90 => ?_) (fun h90 => ?_)
    ·
     refine qM rfl rfl rfl <| qP rfl rfl rfl rfl <| qF rfl rfl rfl zF1 <| qO rfl <| zH0 rfl rfl rfl rfl sz28 rfl rfl (zA rfl) rfl <| qA rfl rfl rfl <| qN <| qR rfl <| qM rfl rfl rfl <| qO rfl <| zY0 rfl rfl rfl rfl <| qA rfl rfl rfl <| qN ?_
     refine ⟨i + 1, _, by omega, by omega, by rw [mpV_take hs, ez, encVs_append, zN]; rfl, .same (.same (.same (.same (.new (clo_out (by simp)) (.new trivial .nil))))), (.old rfl rfl (.old rfl rfl (.old rfl rfl (.old rfl rfl (.old rfl rfl (.nil)))))), (.new' rfl (by rw [mpO_take hs, ← Bool.and_assoc, ex, ey, h90]; rfl) (.bool _) (.new' rfl (zM1 hlt (by simp only [maxLen]; omega)) (.int _ _) (.nil)))⟩
    ·
     refine qS rfl <| qP rfl rfl rfl rfl <| qF rfl rfl rfl zF1 <| qO rfl <| zH0 rfl rfl rfl rfl sz28 rfl rfl (zA rfl) rfl <| qA rfl rfl rfl <| qN <| qR rfl <| qM rfl rfl rfl <| qO rfl <| zY0 rfl rfl rfl rfl <| qA rfl rfl rfl <| qN ?_
     refine ⟨i + 1, _, by omega, by omega, by rw [mpV_take hs, ez, encVs_append, zN]; rfl, .same (.same (.same (.same (.new (clo_out (by simp)) (.new trivial .nil))))), (.old rfl rfl (.old rfl rfl (.old rfl rfl (.old rfl rfl (.old rfl rfl (.nil)))))), (.new' rfl (by rw [mpO_take hs, ← Bool.and_assoc, ex, ey, h90]; rfl) (.bool _) (.new' rfl (zM1 hlt (by simp only [maxLen]; omega)) (.int _ _) (.nil)))⟩
 ·
  have hge : i = (bothX s1 s2).length := by simp at h31; omega
  refine zN1 <| zB <| qR rfl <| qL rfl rfl rfl rfl ta30 rfl <| qM rfl rfl rfl <| qO rfl <| zH0 rfl rfl rfl rfl sz30 rfl rfl (zA rfl) rfl <| qA rfl rfl rfl <| qN <| zK ?_
  rw [hge, List.take_length]
  exact zZ0 (.inr rfl) Tryz.results58 rfl rfl ta30 rfl (.agg (.cons (.refl _) (.cons (.refl _) (.cons (.refl _) (.cons (.nil 1) (.cons (.view _ _ _) .nil)))))) (zJ1 _ (.mk 0 0 (bothX s1 s2) [] (mpV (.mk k1 i1) s1 w1 s2 w2 (bothX s1 s2)))) rfl (.refl _) (.bool _) ⟨rfl, rfl⟩
end Go.Proofs.YtnfcnpdpfgcchaaGreatDoor
namespace Go.MV
open Go Go.RowKit
section
section
variable {P : Program} {rd : Option Nat} {N n : Nat} {c : Code} {Q : Exit → Env → MS → Prop} {env : Env} {S L L' : MS}
theorem mwp_cellsub (k : Nat) {l l' : List MV} (hk : L[k]? = some (.cells l)) (hs : Subs l l') (hL : L.set k (.cells l') = L') (h : mwp P rd N n c Q env (S ++ L')) : mwp P rd N n c Q env (S ++ L) := by
  subst hL
  refine zZ5 (fun g w tmps hr he => ?_) h
  refine ⟨g, ?_, he, .refl _ _ _, fun _ h => h⟩
  rw [← zM4]
  exact hr.recell (by rw [getElem?_own]; exact hk) fun us hus => hs.rds hus
theorem mwp_owfreezeL (k i p : Nat) {ty sz m : Nat} {cs l xs : List MV} (hk : L[k]? = some (.cells cs)) (hi : cs[i]? = some (.ow (S.length + p) sz m)) (hp : L[p]? = some (.orow ty sz m l)) (hxs : flat xs = l) (hn : xs.length = m) (hsz : ∀ x ∈ xs, x.cells.length = sz) (h1 : ∀ y ∈ l, y.one = true)
    (hL : (L.set p (.row ty sz m)).set k (.cells (cs.set i (.lst (some (S.length + p)) sz xs))) = L') (h : mwp P rd N n c Q env (S ++ L')) : mwp P rd N n c Q env (S ++ L) := by
  subst hL
  refine mwp_owfreeze (S.length + k) i (by rw [getElem?_own]; exact hk) hi (by rw [getElem?_own]; exact hp) hxs hn hsz h1 ?_
  rw [zM4, zM4]
  exact h
end
section
variable {P : Program} {rd : Option Nat} {o : Oper} {env : Env} {S L L' : MS} {K : MV → MS → Prop}
theorem op_append0_owL {t e sz bytes k : Nat} {x y : Operand} {tok : Option Nat} {ys : List MV} (ho : o.op = .call { callee := .builtin .append, args := #[x, y], argTypes := #[t, t] }) (hu : P.underlying t = some (.slice e)) (he : elemOk P e sz bytes = true)
    (hx : evo env x = some .lst0) (hy : evo env y = some (.lst tok sz ys)) (hb : ys.length * bytes ≤ 140737488355328) (hml : ys.length ≤ 4611686018427387904) (hk : L.length = k) (hL : L ++ [.orow e sz ys.length (flat ys)] = L')
    (hK : K (.ow (S.length + k) sz ys.length) (S ++ L')) : OpWp P rd o env (S ++ L) K := by
  subst hk hL
  refine op_append0_ow ho hu he hx hy hb hml ?_
  rw [zN, zC0]
  exact hK
theorem op_append_owL {t e sz bytes k n : Nat} {x y : Operand} {tok : Option Nat} {l ys : List MV} (ho : o.op = .call { callee := .builtin .append, args := #[x, y], argTypes := #[t, t] }) (hu : P.underlying t = some (.slice e)) (he : elemOk P e sz bytes = true)
    (hx : evo env x = some (.ow (S.length + k) sz n)) (hy : evo env y = some (.lst tok sz ys)) (hσ : L[k]? = some (.orow e sz n l)) (hb : (n + ys.length) * bytes ≤ 140737488355328) (hml : n + ys.length ≤ 4611686018427387904)
    (hL : L.set k (.orow e sz (n + ys.length) (l ++ flat ys)) = L') (hK : K (.ow (S.length + k) sz (n + ys.length)) (S ++ L')) : OpWp P rd o env (S ++ L) K :=
  op_append_ow ho hu he hx hy (by rw [getElem?_own]; exact hσ) hb hml (by rw [zM4, hL]; exact hK)
theorem op_indexAddr_owL {t e : TypeId} {x y : Operand} {p sz n i : Nat} {k : IntKind} {m : Int} {l : List MV} (ho : o.op = .indexAddr t x y) (hu : P.underlying t = some (.slice e)) (hs : szOf P e = some sz) (hx : evo env x = some (.ow (S.length + p) sz n)) (hy : evo env y = some (.int k m)) (hm : m = (i : Int)) (hi : i < n)
    (hσ : L[p]? = some (.orow e sz n l)) (h : K (.orf (S.length + p) n (i * sz)) (S ++ L)) : OpWp P rd o env (S ++ L) K :=
  op_indexAddr_ow ho hu hs hx hy hm hi (by rw [getElem?_own]; exact hσ) h
theorem op_load_orfL {t ty : TypeId} {x : Operand} {p sz n off : Nat} {l : List MV} {ta : Option Nat} {m : MV} (ho : o.op = .load t x) (hx : evo env x = some (.orf (S.length + p) n off)) (hσ : L[p]? = some (.orow ty sz n l)) (ht : tyAgg P t = some ta) (hm : loadMV ta l off = some m) (h : K m (S ++ L)) : OpWp P rd o env (S ++ L) K :=
  op_load_orf ho hx (by rw [getElem?_own]; exact hσ) ht hm h
theorem op_store_orfL {t ty : TypeId} {x y : Operand} {p sz n off : Nat} {l : List MV} {m : MV} {k : Nat} (ho : o.op = .store t x y) (hx : evo env x = some (.orf (S.length + p) n off)) (hy : evo env y = some m) (hσ : L[p]? = some (.orow ty sz n l)) (hk : szOf P t = some k) (hm : m.cells.length = k)
    (h1 : m.cells.all MV.one = true) (hle : off + k ≤ l.length) (hL : L.set p (.orow ty sz n (setMany l off m.cells)) = L') (h : K (.tup []) (S ++ L')) : OpWp P rd o env (S ++ L) K :=
  op_store_orf ho hx hy (by rw [getElem?_own]; exact hσ) hk hm h1 hle (by rw [zM4, hL]; exact h)
end
theorem flat_get {sz : Nat} {xs : List MV} {i : Nat} {x : MV} (h : ∀ y ∈ xs, y.cells.length = sz) (hx : xs[i]? = some x) : ((flat xs).drop (i * sz)).take sz = x.cells ∧ i * sz + sz ≤ (flat xs).length := by
  have hi := (zI.1 hx).1
  have hl := flat_length h
  have hle : i * sz + sz ≤ (flat xs).length := by
    rw [hl]
    have : (i + 1) * sz ≤ xs.length * sz := Nat.mul_le_mul_right _ hi
    rw [Nat.add_mul, Nat.one_mul] at this
    exact this
  refine ⟨?_, hle⟩
  refine List.ext_getElem? fun j => ?_
  rw [List.getElem?_take]
  by_cases hj : j < sz
  · rw [if_pos hj, List.getElem?_drop, flat_at h hx j hj]
  · rw [if_neg hj, List.getElem?_eq_none (by rw [h x (zF0 hx)]; omega)]
theorem load_flat {sz : Nat} {xs : List MV} {i : Nat} {cs : List MV} (h : ∀ y ∈ xs, y.cells.length = sz) (hx : xs[i]? = some (.agg cs)) : loadMV (some sz) (flat xs) (i * sz) = some (.agg cs) := by
  obtain ⟨h1, h2⟩ := flat_get h hx
  unfold loadMV
  show (if i * sz + sz ≤ (flat xs).length then some (MV.agg (((flat xs).drop (i * sz)).take sz)) else none) = _
  rw [if_pos h2, h1]
  rfl
theorem set_flat {sz : Nat} : ∀ {xs : List MV} {i : Nat} {x : MV}, (∀ y ∈ xs, y.cells.length = sz) → x.cells.length = sz → i < xs.length → setMany (flat xs) (i * sz) x.cells = flat (xs.set i x)
  | y :: xs, 0, x, h, hx, _ => by
    have hy := h y (zW0 ..)
    unfold setMany
    rw [Nat.zero_mul, List.set_cons_zero, zR3, zR3, hx, Nat.zero_add, List.take_zero, List.nil_append, ← hy, List.drop_left]
  | y :: xs, i + 1, x, h, hx, hi => by
    have hy := h y (zW0 ..)
    have ih := set_flat (xs := xs) (i := i) (x := x) (fun z hz => h z (zT0 _ hz)) hx (by simpa using hi)
    rw [List.set_cons_succ, zR3, zR3, ← ih]
    unfold setMany
    have e1 : (i + 1) * sz = y.cells.length + i * sz := by rw [hy, Nat.add_mul, Nat.one_mul, Nat.add_comm]
    rw [e1, List.take_append, List.take_of_length_le (by omega), show y.cells.length + i * sz - y.cells.length = i * sz by omega]
    rw [show y.cells.length + i * sz + x.cells.length = y.cells.length + (i * sz + x.cells.length) by omega, List.drop_append, List.drop_of_length_le (by omega), show y.cells.length + (i * sz + x.cells.length) - y.cells.length = i * sz + x.cells.length by omega]
    simp
section
variable {a b c d e f g : MObj} {R : MS} {o o' : MObj} {p : Nat}
theorem end7 : (a :: b :: c :: d :: e :: f :: g :: (R ++ [o]))[R.length + 7]? = some o := by
  show (R ++ [o])[R.length]? = _
  simp
theorem set7 : (a :: b :: c :: d :: e :: f :: g :: (R ++ [o])).set (R.length + 7) o' = a :: b :: c :: d :: e :: f :: g :: (R ++ [o']) := by
  show a :: b :: c :: d :: e :: f :: g :: ((R ++ [o]).set R.length o') = _
  simp
theorem get7 (h : R[p]? = some o) : (a :: b :: c :: d :: e :: f :: g :: R)[p + 7]? = some o := h
theorem get7a (h : R[p]? = some o) : (a :: b :: c :: d :: e :: f :: g :: (R ++ [o']))[p + 7]? = some o := by
  show (R ++ [o'])[p]? = _
  rw [List.getElem?_append_left (zI.1 h).1]
  exact h
end
end
end Go.MV
namespace Go.Proofs.YtnfcnpdpfgcchaaGreatDoor
open Go Go.MV
noncomputable def stL (t : Sch) (cs : List (List Tk)) (L : List CE) (i : Nat) : List CE := (L.take i).foldl (stepC (jn t) cs) []
noncomputable def okL (t : Sch) (cs : List (List Tk)) (L : List CE) (i : Nat) : Bool := okC (jn t) (okJ t) cs [] (L.take i)
theorem stL_succ {t : Sch} {cs : List (List Tk)} {L : List CE} {i : Nat} {e : CE} (h : L[i]? = some e) : stL t cs L (i + 1) = stepC (jn t) cs (stL t cs L i) e := by
  unfold stL
  rw [List.take_add_one, h, Option.toList_some, List.foldl_append]; rfl
theorem okL_succ {t : Sch} {cs : List (List Tk)} {L : List CE} {i : Nat} {e : CE} (h : L[i]? = some e) : okL t cs L (i + 1) = (okL t cs L i && okC1 (okJ t) cs (stL t cs L i) e) := by
  unfold okL stL
  rw [List.take_add_one, h, Option.toList_some, okC_append]
  congr 1
  rw [okC, okC, Bool.and_true]
theorem stL_srt (t : Sch) (cs : List (List Tk)) (L : List CE) (i : Nat) : SrtK byTicksF (stL t cs L i) := fold_srt _ _ List.Pairwise.nil
theorem step_len {f : Val → Val → Val} {cs : List (List Tk)} {E : List CE} {e : CE} : (stepC f cs E e).length ≤ E.length + 1 := by
  unfold stepC
  split
  · omega
  · split
    · simp
    · unfold insC
      have h := congrArg List.length (List.takeWhile_append_dropWhile (p := fun x : CE => aheadF x.1 e.1) (l := E))
      simp only [zN, zY] at h ⊢
      omega
theorem fold_len {f : Val → Val → Val} {cs : List (List Tk)} : ∀ (L E : List CE), (L.foldl (stepC f cs) E).length ≤ E.length + L.length
  | [], E => by simp
  | e :: L, E => by
    have h1 := fold_len (f := f) (cs := cs) L (stepC f cs E e)
    have h2 := step_len (f := f) (cs := cs) (E := E) (e := e)
    rw [List.foldl_cons, zY]; omega
theorem stL_len (t : Sch) (cs : List (List Tk)) (L : List CE) {i : Nat} (h : i ≤ L.length) : (stL t cs L i).length ≤ i := by
  have := fold_len (f := jn t) (cs := cs) (L.take i) []
  rw [List.length_take] at this
  simp at this
  unfold stL
  omega
def anyR (c : List Tk) (l : List (List Tk)) : Bool := l.any fun o => decide (rcmpF c o = -1)
theorem anyR_take {c : List Tk} {l : List (List Tk)} {k : Nat} {o : List Tk} (h : l[k]? = some o) : anyR c (l.take (k + 1)) = (anyR c (l.take k) || decide (rcmpF c o = -1)) := by
  unfold anyR
  rw [List.take_add_one, h, Option.toList_some, List.any_append]; simp
theorem anyR_below {c : List Tk} {cs : List (List Tk)} (h : ∀ o ∈ cs, rcmpF c o = cmpF c o) : anyR c cs = below cs c := by
  unfold anyR below
  rw [zF, List.any_eq_true, List.any_eq_true]
  constructor
  · rintro ⟨o, ho, hc⟩; exact ⟨o, ho, by rw [← h o ho]; exact hc⟩
  · rintro ⟨o, ho, hc⟩; exact ⟨o, ho, by rw [h o ho]; exact hc⟩
def twF (C : List (List Tk)) (c : List Tk) : Nat → Int
  | 0 => -1
  | k + 1 => if C.getD k [] = c then (k : Int) else twF C c k
theorem tw_cases (C : List (List Tk)) (c : List Tk) : ∀ k, k ≤ C.length → (twF C c k = -1 ∧ ∀ j, j < k → C.getD j [] ≠ c) ∨ ∃ q, q < k ∧ twF C c k = ((q : Nat) : Int) ∧ C[q]? = some c
  | 0, _ => .inl ⟨rfl, fun j hj => by omega⟩
  | k + 1, h => by
    rw [twF]
    by_cases e : C.getD k [] = c
    · rw [if_pos e]
      refine .inr ⟨k, by omega, rfl, ?_⟩
      rw [zD (by omega)]
      simpa [zD (show k < C.length by omega)] using e
    · rw [if_neg e]
      rcases tw_cases C c k (by omega) with ⟨h1, h2⟩ | ⟨q, h1, h2, h3⟩
      · refine .inl ⟨h1, fun j hj => ?_⟩
        rcases Nat.lt_or_eq_of_le (Nat.le_of_lt_succ hj) with hlt | heq
        · exact h2 j hlt
        · subst heq; exact e
      · exact .inr ⟨q, by omega, h2, h3⟩
theorem tw_not {C : List (List Tk)} {c : List Tk} (h : ∀ j, j < C.length → C.getD j [] ≠ c) : c ∉ C := fun hm => by
  obtain ⟨j, hj, e⟩ := List.mem_iff_getElem.1 hm
  exact h j hj (by simp [hj, e])
theorem step_below {f : Val → Val → Val} {cs : List (List Tk)} {E : List CE} {e : CE} (h : below cs e.1 = true) : stepC f cs E e = E := if_pos h
theorem map_set {f : Val → Val → Val} {c : List Tk} {u : Val} : ∀ {E : List CE}, SrtK byTicksF E → ∀ {q : Nat} {v : Val}, E[q]? = some (c, v) → (E.map fun x => if x.1 = c then (x.1, f x.2 u) else x) = E.set q (c, f v u)
  | [], _, q, v, h => by simp at h
  | x :: E, hs, 0, v, h => by
    have h : x = (c, v) := by simpa using h
    subst h
    rw [List.map_cons, List.set_cons_zero, if_pos rfl]
    congr 1
    refine (List.map_congr_left fun y hy => ?_).trans (List.map_id E)
    have hne : ¬ y.1 = c := fun e => ordT.irr c (by have := (zB2.1 hs).1 y hy; rwa [e] at this)
    rw [if_neg hne]; rfl
  | x :: E, hs, q + 1, v, h => by
    have h : E[q]? = some (c, v) := by simpa using h
    rw [List.map_cons, List.set_cons_succ, map_set (zB2.1 hs).2 h]
    have hne : ¬ x.1 = c := fun e => ordT.irr c (by have := (zB2.1 hs).1 _ (zF0 h); rwa [e] at this)
    rw [if_neg hne]
theorem step_twin {f : Val → Val → Val} {cs : List (List Tk)} {E : List CE} {e : CE} {q : Nat} {v : Val} (hs : SrtK byTicksF E) (h : ¬ below cs e.1 = true) (hq : E[q]? = some (e.1, v)) : stepC f cs E e = E.set q (e.1, f v e.2) := by
  unfold stepC
  rw [if_neg h, if_pos (List.mem_map.2 ⟨_, zF0 hq, rfl⟩)]
  exact map_set hs hq
theorem tw_take : ∀ {E : List CE} {c : List Tk} {k : Nat}, (∀ j, j < k → ∀ x, E[j]? = some x → aheadF x.1 c = true) → k ≤ E.length → (∀ x, E[k]? = some x → aheadF x.1 c = false) → E.takeWhile (fun x => aheadF x.1 c) = E.take k ∧ E.dropWhile (fun x => aheadF x.1 c) = E.drop k
  | [], c, k, _, h, _ => by simp
  | x :: E, c, 0, _, _, h => by
    have := h x rfl
    simp [this]
  | x :: E, c, k + 1, h1, h2, h3 => by
    have hx := h1 0 (by omega) x rfl
    obtain ⟨a, b⟩ := tw_take (E := E) (c := c) (k := k) (fun j hj y hy => h1 (j + 1) (by omega) y (by simpa using hy)) (by simpa using h2) (fun y hy => h3 y (by simpa using hy))
    rw [List.takeWhile_cons, List.dropWhile_cons, hx, a, b]
    simp
theorem step_ins {f : Val → Val → Val} {cs : List (List Tk)} {E : List CE} {e : CE} {k : Nat} (h : ¬ below cs e.1 = true) (hn : e.1 ∉ E.map (·.1)) (h1 : ∀ j, j < k → ∀ x, E[j]? = some x → aheadF x.1 e.1 = true) (h2 : k ≤ E.length) (h3 : ∀ x, E[k]? = some x → aheadF x.1 e.1 = false) : stepC f cs E e = E.take k ++ e :: E.drop k := by
  unfold stepC insC
  obtain ⟨a, b⟩ := tw_take h1 h2 h3
  rw [if_neg h, if_neg hn, a, b]
theorem encVs_one {l : List Val} : ∀ y ∈ flat (encVs l), y.one = true := by
  induction l with
  | nil => intro y hy; simp [encVs, flat] at hy
  | cons x l ih =>
    intro y hy
    obtain ⟨n, m, s, c, w⟩ := x
    rw [encVs, zR3, zS1] at hy
    rcases hy with hy | hy
    · simp [encV, MV.cells] at hy
      rcases hy with rfl | rfl | rfl | rfl | rfl <;> rfl
    · exact ih y hy
theorem encVs_five {l : List Val} : ∀ y ∈ encVs l, y.cells.length = 5 := fun y hy => by
  rw [zJ4] at hy
  obtain ⟨v, _, rfl⟩ := List.mem_map.1 hy
  exact encV_cells v
theorem _root_.zX5 : type_of% @encVs_five := @encVs_five
theorem nil_subs {n : Nat} : Subs [.int .u64 0, .int .u64 0, .lst0, .lst0, .ow n 5 0] [.int .u64 0, .int .u64 0, .lst0, .lst none 1 (([] : List (List Tk)).map encC), .ow n 5 0] := .cons (.refl _) (.cons (.refl _) (.cons (.refl _) (.cons (.nil 1) (.cons (.refl _) .nil))))
theorem encVs_set : ∀ (l : List Val) (q : Nat) (v : Val), encVs (l.set q v) = (encVs l).set q (encV v) := fun l q v => by rw [zJ4, zJ4, List.map_set]
theorem rCauses_spec (k1 : Int) (i1 : List Sch) (c1 c2 : List (List Tk)) (w1 w2 : List Val) (l1 : c1.length = w1.length) (l2 : c2.length = w2.length) (n1 : c1.length ≤ 40) (n2 : c2.length ≤ 40) (hcmp : ∀ c ∈ (c1 ++ c2), ∀ o ∈ (c1 ++ c2), rcmpF c o = cmpF c o) (hright : ∀ i e v, ((c1 ++ c2).zip (w1 ++ w2))[i]? = some (e, v) → (okV v ∧ isVF (Sch.mk k1 i1) v = true) ∧ ∀ u, look (stL (Sch.mk k1 i1) (c1 ++ c2) ((c1 ++ c2).zip (w1 ++ w2)) i) e = some u → okV u ∧ isVF (Sch.mk k1 i1) u = true) (ih : ∀ x y : Val, okV x → okV y → isVF (Sch.mk k1 i1) x = true → isVF (Sch.mk k1 i1) y = true → ∀ S : MS, MCalls Tryz.prog 32 [encS (Sch.mk k1 i1), encV x, encV y] S fun v σ' => v = .tup [encV (jn (Sch.mk k1 i1) x y), .bool (okJ (Sch.mk k1 i1) x y)] ∧ σ' = S) (S : MS) : MCalls Tryz.prog 62 [encS (.mk 8 [.mk k1 i1]), encV (.mk 0 0 [] c1 w1), encV (.mk 0 0 [] c2 w2)] S fun v σ' => v = .tup [encV (cauL (stL (Sch.mk k1 i1) (c1 ++ c2) ((c1 ++ c2).zip (w1 ++ w2)) (c1 ++ c2).length)), .bool ((okL (Sch.mk k1 i1) (c1 ++ c2) ((c1 ++ c2).zip (w1 ++ w2)) (c1 ++ c2).length) && decide ((stL (Sch.mk k1 i1) (c1 ++ c2) ((c1 ++ c2).zip (w1 ++ w2)) (c1 ++ c2).length).length ≤ 40))] ∧ σ' = S := by
 refine zU Tryz.func62 rfl Tryz.ntmps62 (zA rfl) ?_
 have hcl1 : (c1 ++ c2).length = c1.length + c2.length := zN
 have hwl1 : (w1 ++ w2).length = w1.length + w2.length := zN
 have hwl : (w1 ++ w2).length = (c1 ++ c2).length := by omega
 refine zB <| qR rfl <| qB rfl rfl rfl rfl rfl <| qB rfl rfl rfl rfl rfl <| qB rfl rfl rfl rfl rfl <| qO rfl <| zN0 rfl zm30 rfl rfl <| qA rfl rfl rfl <| qN <| zB ?_
 refine zU0 [2, 5] [_, S ++ [.cells (encS (.mk 8 [.mk k1 i1])).cells, .cells (encV (.mk 0 0 [] c1 w1)).cells, .cells (encV (.mk 0 0 [] c2 w2)).cells, .cells [.int .u64 0, .int .u64 0, .lst0, .lst0, .lst0], .row 60 1 (c1.map encC).length], S ++ [.cells (encS (.mk 8 [.mk k1 i1])).cells, .cells (encV (.mk 0 0 [] c1 w1)).cells, .cells (encV (.mk 0 0 [] c2 w2)).cells, .cells [.int .u64 0, .int .u64 0, .lst0, .lst0, .lst0], .row 60 1 ((c1.map encC).length + (c2.map encC).length)]] mo (by decide) rfl rfl rfl rfl ?_
 refine zS rfl rfl (.cons (zE rfl rfl zI1 ⟨rfl, rfl⟩) (.cons (zE rfl rfl zI1 ⟨rfl, rfl⟩) (.cons (zE rfl rfl zI1 ⟨rfl, rfl⟩) (.nil)))) <| dO rfl rfl rfl (zD0 rfl rfl rfl ta27 rfl ⟨rfl, rfl⟩) <| zX0 rfl rfl rfl rfl (zA5 rfl zM el60 rfl rfl (by first | omega | (simp only [zC, zR]; omega)) (by first | omega | (simp only [zC, zR]; omega)) rfl rfl ⟨rfl, rfl⟩) ?_
 refine zS rfl rfl (.cons (zE rfl rfl zI1 ⟨rfl, rfl⟩) (.cons (zE rfl rfl zI1 ⟨rfl, rfl⟩) (.cons (zE rfl rfl zI1 ⟨rfl, rfl⟩) (.nil)))) <| zS rfl rfl (.cons (zD0 rfl rfl rfl ta27 rfl ⟨rfl, rfl⟩) (.cons (zD0 rfl rfl rfl ta27 rfl ⟨rfl, rfl⟩) (.nil))) <| zX0 rfl rfl rfl rfl (zC2 rfl zM el60 rfl rfl rfl (by simp) (by first | omega | (simp only [zC, zR]; omega)) (by first | omega | (simp only [zC, zR]; omega)) rfl ⟨rfl, rfl⟩) ?_
 refine dO rfl rfl rfl (zB1 rfl rfl ⟨rfl, rfl⟩) <| zL0 <| zB ?_
 refine zU0 [2, 5] [_, S ++ [.cells (encS (.mk 8 [.mk k1 i1])).cells, .cells (encV (.mk 0 0 [] c1 w1)).cells, .cells (encV (.mk 0 0 [] c2 w2)).cells, .cells [.int .u64 0, .int .u64 0, .lst0, .lst0, .lst0], .row 60 1 ((c1.map encC).length + (c2.map encC).length), .row 30 5 (encVs w1).length], S ++ [.cells (encS (.mk 8 [.mk k1 i1])).cells, .cells (encV (.mk 0 0 [] c1 w1)).cells, .cells (encV (.mk 0 0 [] c2 w2)).cells, .cells [.int .u64 0, .int .u64 0, .lst0, .lst0, .lst0], .row 60 1 ((c1.map encC).length + (c2.map encC).length), .row 30 5 ((encVs w1).length + (encVs w2).length)]] mo (by decide) rfl rfl rfl rfl ?_
 refine zS rfl rfl (.cons (zE rfl rfl zF1 ⟨rfl, rfl⟩) (.cons (zE rfl rfl zF1 ⟨rfl, rfl⟩) (.cons (zE rfl rfl zF1 ⟨rfl, rfl⟩) (.nil)))) <| dO rfl rfl rfl (zD0 rfl rfl rfl ta28 rfl ⟨rfl, rfl⟩) <| zX0 rfl rfl rfl rfl (zA5 rfl zO el30 rfl rfl (by first | omega | (simp only [zC, zR]; omega)) (by first | omega | (simp only [zC, zR]; omega)) rfl rfl ⟨rfl, rfl⟩) ?_
 refine zS rfl rfl (.cons (zE rfl rfl zF1 ⟨rfl, rfl⟩) (.cons (zE rfl rfl zF1 ⟨rfl, rfl⟩) (.cons (zE rfl rfl zF1 ⟨rfl, rfl⟩) (.nil)))) <| zS rfl rfl (.cons (zD0 rfl rfl rfl ta28 rfl ⟨rfl, rfl⟩) (.cons (zD0 rfl rfl rfl ta28 rfl ⟨rfl, rfl⟩) (.nil))) <| zX0 rfl rfl rfl rfl (zC2 rfl zO el30 rfl rfl rfl (by simp) (by first | omega | (simp only [zC, zR]; omega)) (by first | omega | (simp only [zC, zR]; omega)) rfl ⟨rfl, rfl⟩) ?_
 refine dO rfl rfl rfl (zB1 rfl rfl ⟨rfl, rfl⟩) <| zL0 <| zB <| qR rfl <| qO rfl <| zW1 rfl zS0 zm30 .nil (by kernel_rfl) ?_
 refine qO rfl <| zN0 rfl zm30 rfl rfl <| qO rfl <| zH0 rfl rfl rfl rfl sz30 rfl rfl (zA rfl) rfl <| qA rfl rfl rfl <| qN <| zB <| zB <| qR rfl <| qA rfl rfl rfl <| qN <| zB0 <| mwp_cellow 6 4 30 5 rfl rfl rfl rfl <| mwp_cellsub 6 rfl nil_subs rfl ?_
 refine zV1 (α := Nat × MS × Nat) [(3, _), (6, _), (10, _)] (fun x => [(8, .lst (some (S.length + 4)) 1 ((c1 ++ c2).map encC)), (9, .lst (some (S.length + 5)) 5 (encVs (w1 ++ w2))), (11, .bool (okL (Sch.mk k1 i1) (c1 ++ c2) ((c1 ++ c2).zip (w1 ++ w2)) x.1)), (12, .int .i64 (x.1 : Int))]) (fun x => (.cells (encS (.mk 8 [.mk k1 i1])).cells :: .cells (encV (.mk 0 0 [] c1 w1)).cells :: .cells (encV (.mk 0 0 [] c2 w2)).cells :: .cells [.int .u64 0, .int .u64 0, .lst0, .lst0, .lst0] :: .row 60 1 ((c1.map encC).length + (c2.map encC).length) :: .row 30 5 ((encVs w1).length + (encVs w2).length) :: .cells [.int .u64 0, .int .u64 0, .lst0, .lst none 1 (((stL (Sch.mk k1 i1) (c1 ++ c2) ((c1 ++ c2).zip (w1 ++ w2)) x.1).map (·.1)).map encC), .ow (S.length + (x.2.2 + 7)) 5 (stL (Sch.mk k1 i1) (c1 ++ c2) ((c1 ++ c2).zip (w1 ++ w2)) x.1).length] :: x.2.1)) (fun x => x.1 ≤ (c1 ++ c2).length ∧ x.2.1[x.2.2]? = some (MObj.orow 30 5 (stL (Sch.mk k1 i1) (c1 ++ c2) ((c1 ++ c2).zip (w1 ++ w2)) x.1).length (flat (encVs ((stL (Sch.mk k1 i1) (c1 ++ c2) ((c1 ++ c2).zip (w1 ++ w2)) x.1).map (·.2)))))) (fun x => (c1 ++ c2).length - x.1) (⟨0, [.orow 30 5 0 []], 0⟩) (.keep rfl (.keep rfl (.keep rfl (.nil)))) (.eq rfl (by rw [List.map_append]; rfl) (.eq rfl (by rw [encVs_append]; rfl) (.keep rfl (.keep rfl (.nil))))) (⟨by simp, rfl⟩) (rfl) ?_
 rintro ⟨i, R, p⟩ ⟨hi, hR⟩
 dsimp only at hi hR ⊢
 have hsl := stL_len (Sch.mk k1 i1) (c1 ++ c2) ((c1 ++ c2).zip (w1 ++ w2)) (i := i) (by rw [List.length_zip, hwl, Nat.min_self]; exact hi)
 have hcl_ : ((stL (Sch.mk k1 i1) (c1 ++ c2) ((c1 ++ c2).zip (w1 ++ w2)) i).map (·.1)).length = (stL (Sch.mk k1 i1) (c1 ++ c2) ((c1 ++ c2).zip (w1 ++ w2)) i).length := zC ..
 refine zB <| zB <| qR rfl <| qM rfl rfl rfl <| qM rfl rfl rfl <| qE rfl rfl zM rfl <| qC rfl rfl rfl rfl rfl <| qN ?_
 refine zJ rfl (fun h36 => ?_) (fun h36 => ?_)
 ·
  have hlt : i < (c1 ++ c2).length := by rw [zC] at h36; have := zD3 h36; omega
  obtain ⟨ci, hs⟩ : ∃ q, (c1 ++ c2)[i]? = some q := ⟨_, zD (by omega)⟩
  obtain ⟨⟨vn, vm, vs_, vc, vw⟩, hs3⟩ : ∃ q, (w1 ++ w2)[i]? = some q := ⟨_, zD (by omega)⟩
  have hsL : ((c1 ++ c2).zip (w1 ++ w2))[i]? = some (ci, (Val.mk vn vm vs_ vc vw)) := List.getElem?_zip_eq_some.2 ⟨hs, hs3⟩
  have hrt := hright i ci (Val.mk vn vm vs_ vc vw) hsL
  have hcm := hcmp ci (zF0 hs)
  refine zA0 <| zB <| zB0 <| zB <| qR rfl <| qA rfl rfl rfl <| qA rfl rfl rfl <| qN <| zB <| zB <| qR rfl <| qA rfl rfl rfl <| qN <| zB0 ?_
  refine zV1 (α := Nat) [(3, _), (6, _), (8, _), (9, _), (10, _), (11, _), (12, _), (14, _)] (fun k => [(13, .bool (anyR ci ((c1 ++ c2).take k))), (15, .int .i64 (k : Int))]) (fun k => (.cells (encS (.mk 8 [.mk k1 i1])).cells :: .cells (encV (.mk 0 0 [] c1 w1)).cells :: .cells (encV (.mk 0 0 [] c2 w2)).cells :: .cells [.int .u64 0, .int .u64 0, .lst0, .lst0, .lst0] :: .row 60 1 ((c1.map encC).length + (c2.map encC).length) :: .row 30 5 ((encVs w1).length + (encVs w2).length) :: .cells [.int .u64 0, .int .u64 0, .lst0, .lst none 1 (((stL (Sch.mk k1 i1) (c1 ++ c2) ((c1 ++ c2).zip (w1 ++ w2)) i).map (·.1)).map encC), .ow (S.length + (p + 7)) 5 (stL (Sch.mk k1 i1) (c1 ++ c2) ((c1 ++ c2).zip (w1 ++ w2)) i).length] :: R)) (fun k => k ≤ (c1 ++ c2).length) (fun k => (c1 ++ c2).length - k) (0) (.keep rfl (.keep rfl (.keep rfl (.keep rfl (.keep rfl (.keep rfl (.keep rfl (.keep rfl (.nil))))))))) (.keep rfl (.keep rfl (.nil))) (by omega) (rfl) ?_
  rintro k hk
  refine zB <| zB <| qR rfl <| qM rfl rfl rfl <| qM rfl rfl rfl <| qE rfl rfl zM rfl <| qC rfl rfl rfl rfl rfl <| qN ?_
  refine zJ rfl (fun h42 => ?_) (fun h42 => ?_)
  ·
   have hlt2 : k < (c1 ++ c2).length := by rw [zC] at h42; have := zD3 h42; omega
   obtain ⟨o, hs2⟩ : ∃ q, (c1 ++ c2)[k]? = some q := ⟨_, zD hlt2⟩
   refine zA0 <| zB <| zB0 ?_
   refine zU0 [] [_] mo (by decide) rfl rfl rfl rfl ?_
   refine dO rfl rfl rfl (zV rfl rfl ⟨rfl, rfl⟩) <| dO rfl rfl rfl (zV rfl rfl ⟨rfl, rfl⟩) ?_
   refine zH2 (fun h46 => ?_) (fun h46 => ?_)
   ·
    refine dS rfl rfl <| dS rfl rfl <| dS rfl rfl <| dS rfl rfl <| dS rfl rfl <| dS rfl rfl <| dS rfl rfl <| dS rfl rfl <| dS rfl rfl <| dS rfl rfl <| dO rfl rfl rfl (zE1 rfl rfl rfl ⟨rfl, rfl⟩) <| dO rfl rfl rfl (zB1 rfl rfl ⟨rfl, rfl⟩) <| zL0 <| qR rfl <| qM rfl rfl rfl <| qO rfl <| zY0 rfl rfl rfl rfl <| qA rfl rfl rfl <| qN ?_
    refine ⟨k + 1, by omega, by omega, rfl, (.keep rfl (.keep rfl (.keep rfl (.keep rfl (.keep rfl (.keep rfl (.keep rfl (.keep rfl (.nil))))))))), (.eq rfl (by first | (rw [anyR_take hs2, h46]; rfl) | (rw [anyR_take hs2, h46]; simp)) (.eq rfl (zM1 hlt2 (by simp only [maxLen]; omega)) (.nil)))⟩
   ·
    refine dO rfl rfl rfl (zV rfl rfl ⟨rfl, rfl⟩) <| dO rfl rfl rfl (zV rfl rfl ⟨rfl, rfl⟩) <| dO rfl rfl rfl (zG rfl zM sz60 (by decide) rfl rfl rfl (zV0 hs) ⟨rfl, rfl⟩) ?_
    refine dO rfl rfl rfl (zH rfl rfl ta60 rfl ⟨rfl, rfl⟩) <| dO rfl rfl rfl (zV rfl rfl ⟨rfl, rfl⟩) <| dO rfl rfl rfl (zV rfl rfl ⟨rfl, rfl⟩) <| dO rfl rfl rfl (zG rfl zM sz60 (by decide) rfl rfl rfl (zV0 hs2) ⟨rfl, rfl⟩) ?_
    refine dO rfl rfl rfl (zH rfl rfl ta60 rfl ⟨rfl, rfl⟩) <| zS rfl rfl (.cons (zH1 rfl rfl rfl co110 (rCmpC_spec ci o _)) .nil) <| dO rfl rfl rfl (zE2 rfl rfl rfl rfl ⟨rfl, rfl⟩) <| dO rfl rfl rfl (zE1 rfl rfl rfl ⟨rfl, rfl⟩) <| dO rfl rfl rfl (zB1 rfl rfl ⟨rfl, rfl⟩) <| zL0 <| qR rfl <| qM rfl rfl rfl <| qO rfl <| zY0 rfl rfl rfl rfl <| qA rfl rfl rfl <| qN ?_
    refine ⟨k + 1, by omega, by omega, rfl, (.keep rfl (.keep rfl (.keep rfl (.keep rfl (.keep rfl (.keep rfl (.keep rfl (.keep rfl (.nil))))))))), (.eq rfl (by first | (rw [anyR_take hs2, h46]; rfl) | (rw [anyR_take hs2, h46]; simp)) (.eq rfl (zM1 hlt2 (by simp only [maxLen]; omega)) (.nil)))⟩
  ·
   have hke : k = (c1 ++ c2).length := by rw [zC] at h42; have := zW2 h42; omega
   subst hke
   refine zN1 <| zB <| zB <| qR rfl <| qA rfl rfl rfl <| qN <| zB0 ?_
   refine zV1 (α := Nat) [(3, _), (6, _), (8, _), (9, _), (10, _), (11, _), (12, _), (13, _)] (fun k => [(14, .int .i64 (twF ((stL (Sch.mk k1 i1) (c1 ++ c2) ((c1 ++ c2).zip (w1 ++ w2)) i).map (·.1)) ci k)), (16, .int .i64 (k : Int))]) (fun k => (.cells (encS (.mk 8 [.mk k1 i1])).cells :: .cells (encV (.mk 0 0 [] c1 w1)).cells :: .cells (encV (.mk 0 0 [] c2 w2)).cells :: .cells [.int .u64 0, .int .u64 0, .lst0, .lst0, .lst0] :: .row 60 1 ((c1.map encC).length + (c2.map encC).length) :: .row 30 5 ((encVs w1).length + (encVs w2).length) :: .cells [.int .u64 0, .int .u64 0, .lst0, .lst none 1 (((stL (Sch.mk k1 i1) (c1 ++ c2) ((c1 ++ c2).zip (w1 ++ w2)) i).map (·.1)).map encC), .ow (S.length + (p + 7)) 5 (stL (Sch.mk k1 i1) (c1 ++ c2) ((c1 ++ c2).zip (w1 ++ w2)) i).length] :: R)) (fun k => k ≤ ((stL (Sch.mk k1 i1) (c1 ++ c2) ((c1 ++ c2).zip (w1 ++ w2)) i).map (·.1)).length) (fun k => ((stL (Sch.mk k1 i1) (c1 ++ c2) ((c1 ++ c2).zip (w1 ++ w2)) i).map (·.1)).length - k) (0) (.keep rfl (.keep rfl (.keep rfl (.keep rfl (.keep rfl (.keep rfl (.keep rfl (.keep rfl (.nil))))))))) (.keep rfl (.keep rfl (.nil))) (by omega) (rfl) ?_
   rintro k hk
   refine zB <| zB <| qR rfl <| qM rfl rfl rfl <| qF rfl rfl rfl zI1 <| qL rfl rfl rfl rfl ta27 rfl <| qE rfl rfl zM rfl <| qC rfl rfl rfl rfl rfl <| qN ?_
   refine zJ rfl (fun h62 => ?_) (fun h62 => ?_)
   ·
    have hlt3 : k < ((stL (Sch.mk k1 i1) (c1 ++ c2) ((c1 ++ c2).zip (w1 ++ w2)) i).map (·.1)).length := by rw [zC] at h62; have := zD3 h62; omega
    obtain ⟨o2, hs2⟩ : ∃ q, ((stL (Sch.mk k1 i1) (c1 ++ c2) ((c1 ++ c2).zip (w1 ++ w2)) i).map (·.1))[k]? = some q := ⟨_, zD hlt3⟩
    have hg2 : ((stL (Sch.mk k1 i1) (c1 ++ c2) ((c1 ++ c2).zip (w1 ++ w2)) i).map (·.1)).getD k [] = o2 := by simp only [List.getD_eq_getElem?_getD, hs2, Option.getD_some]
    refine zA0 <| zB <| zB0 <| zB ?_
    refine zU0 [] [_] mo (by decide) rfl rfl rfl rfl ?_
    refine dO rfl rfl rfl (zE rfl rfl zI1 ⟨rfl, rfl⟩) <| dO rfl rfl rfl (zD0 rfl rfl rfl ta27 rfl ⟨rfl, rfl⟩) <| dO rfl rfl rfl (zV rfl rfl ⟨rfl, rfl⟩) <| dO rfl rfl rfl (zG rfl zM sz60 (by decide) rfl rfl rfl (zV0 hs2) ⟨rfl, rfl⟩) ?_
    refine dO rfl rfl rfl (zH rfl rfl ta60 rfl ⟨rfl, rfl⟩) <| dO rfl rfl rfl (zV rfl rfl ⟨rfl, rfl⟩) <| dO rfl rfl rfl (zV rfl rfl ⟨rfl, rfl⟩) <| dO rfl rfl rfl (zG rfl zM sz60 (by decide) rfl rfl rfl (zV0 hs) ⟨rfl, rfl⟩) ?_
    refine dO rfl rfl rfl (zH rfl rfl ta60 rfl ⟨rfl, rfl⟩) <| zS rfl rfl (.cons (zH1 rfl rfl rfl co40 (rSameC_spec o2 ci _)) .nil) <| zL0 ?_
    refine zJ rfl (fun h74 => ?_) (fun h74 => ?_)
    ·
     have heq : ((stL (Sch.mk k1 i1) (c1 ++ c2) ((c1 ++ c2).zip (w1 ++ w2)) i).map (·.1)).getD k [] = ci := by rw [hg2]; exact zD3 h74
     refine qR rfl <| qM rfl rfl rfl <| qA rfl rfl rfl <| qN <| qR rfl <| qM rfl rfl rfl <| qO rfl <| zY0 rfl rfl rfl rfl <| qA rfl rfl rfl <| qN ?_
     refine ⟨k + 1, by omega, by omega, rfl, (.keep rfl (.keep rfl (.keep rfl (.keep rfl (.keep rfl (.keep rfl (.keep rfl (.keep rfl (.nil))))))))), (.eq rfl (by rw [twF, if_pos heq]) (.eq rfl (zM1 hlt3 (by simp only [maxLen]; omega)) (.nil)))⟩
    ·
     have heq : ¬ ((stL (Sch.mk k1 i1) (c1 ++ c2) ((c1 ++ c2).zip (w1 ++ w2)) i).map (·.1)).getD k [] = ci := by rw [hg2]; exact zW2 h74
     refine zA0 <| qR rfl <| qM rfl rfl rfl <| qO rfl <| zY0 rfl rfl rfl rfl <| qA rfl rfl rfl <| qN ?_
     refine ⟨k + 1, by omega, by omega, rfl, (.keep rfl (.keep rfl (.keep rfl (.keep rfl (.keep rfl (.keep rfl (.keep rfl (.keep rfl (.nil))))))))), (.eq rfl (by rw [twF, if_neg heq]) (.eq rfl (zM1 hlt3 (by simp only [maxLen]; omega)) (.nil)))⟩
   ·
    have hke : k = ((stL (Sch.mk k1 i1) (c1 ++ c2) ((c1 ++ c2).zip (w1 ++ w2)) i).map (·.1)).length := by rw [zC] at h62; have := zW2 h62; omega
    subst hke
    refine zN1 <| zB <| zB <| qR rfl <| qM rfl rfl rfl <| qN ?_
    refine zJ rfl (fun h76 => ?_) (fun h76 => ?_)
    ·
     rw [List.take_length, anyR_below hcm] at h76
     have hst : (stL (Sch.mk k1 i1) (c1 ++ c2) ((c1 ++ c2).zip (w1 ++ w2)) (i + 1)) = (stL (Sch.mk k1 i1) (c1 ++ c2) ((c1 ++ c2).zip (w1 ++ w2)) i) := (stL_succ hsL).trans (step_below h76)
     have hoka : okC1 (okJ (Sch.mk k1 i1)) (c1 ++ c2) (stL (Sch.mk k1 i1) (c1 ++ c2) ((c1 ++ c2).zip (w1 ++ w2)) i) (ci, (Val.mk vn vm vs_ vc vw)) = true := by unfold okC1; rw [show below (c1 ++ c2) (ci, (Val.mk vn vm vs_ vc vw)).1 = true from h76]; rfl
     refine zN1 <| qR rfl <| qM rfl rfl rfl <| qO rfl <| zY0 rfl rfl rfl rfl <| qA rfl rfl rfl <| qN ?_
     refine ⟨⟨i + 1, R, p⟩, by dsimp only; omega, ⟨by dsimp only; omega, by dsimp only; rw [hst]; exact hR⟩, by dsimp only; rw [hst], (.keep rfl (.keep rfl (.keep rfl (.nil)))), (.keep rfl (.keep rfl (.eq rfl (by rw [okL_succ hsL, hoka, Bool.and_true]) (.eq rfl (zM1 hlt (by simp only [maxLen]; omega)) (.nil)))))⟩
    ·
     rw [List.take_length, anyR_below hcm] at h76
     have hnb : ¬ below (c1 ++ c2) ci = true := by rw [h76]; decide
     refine zA0 <| zB <| zB <| qR rfl <| qM rfl rfl rfl <| qC rfl rfl rfl rfl rfl <| qN ?_
     refine zJ rfl (fun h78 => ?_) (fun h78 => ?_)
     ·
      obtain ⟨q, hq, htw, hsq⟩ : ∃ q, q < ((stL (Sch.mk k1 i1) (c1 ++ c2) ((c1 ++ c2).zip (w1 ++ w2)) i).map (·.1)).length ∧ twF ((stL (Sch.mk k1 i1) (c1 ++ c2) ((c1 ++ c2).zip (w1 ++ w2)) i).map (·.1)) ci ((stL (Sch.mk k1 i1) (c1 ++ c2) ((c1 ++ c2).zip (w1 ++ w2)) i).map (·.1)).length = ((q : Nat) : Int) ∧ ((stL (Sch.mk k1 i1) (c1 ++ c2) ((c1 ++ c2).zip (w1 ++ w2)) i).map (·.1))[q]? = some ci := by
       rcases tw_cases ((stL (Sch.mk k1 i1) (c1 ++ c2) ((c1 ++ c2).zip (w1 ++ w2)) i).map (·.1)) ci _ (Nat.le_refl _) with ⟨h1, _⟩ | h
       ·rw [h1] at h78; exact absurd h78 (by decide)
       ·exact h
      have hq' : q < (stL (Sch.mk k1 i1) (c1 ++ c2) ((c1 ++ c2).zip (w1 ++ w2)) i).length := by omega
      obtain ⟨⟨ec, ⟨qn, qm, qs, qc, qw⟩⟩, hEq⟩ : ∃ x, (stL (Sch.mk k1 i1) (c1 ++ c2) ((c1 ++ c2).zip (w1 ++ w2)) i)[q]? = some x := ⟨_, zD hq'⟩
      have hec : ec = ci := by rw [zQ0, hEq] at hsq; injection hsq
      subst hec
      have hvq : ((stL (Sch.mk k1 i1) (c1 ++ c2) ((c1 ++ c2).zip (w1 ++ w2)) i).map (·.2))[q]? = some (Val.mk qn qm qs qc qw) := by rw [zQ0, hEq]; rfl
      have hlk := zW4 ordT (stL_srt (Sch.mk k1 i1) (c1 ++ c2) ((c1 ++ c2).zip (w1 ++ w2)) i) (zF0 hEq)
      have hru := hrt.2 _ hlk
      have hz := ih (Val.mk qn qm qs qc qw) (Val.mk vn vm vs_ vc vw) hru.1 hrt.1.1 hru.2 hrt.1.2
      obtain ⟨⟨zn, zm, zs, zc, zw⟩, ez⟩ : ∃ v, jn (Sch.mk k1 i1) (Val.mk qn qm qs qc qw) (Val.mk vn vm vs_ vc vw) = v := ⟨_, rfl⟩
      rw [ez] at hz
      have hst : (stL (Sch.mk k1 i1) (c1 ++ c2) ((c1 ++ c2).zip (w1 ++ w2)) (i + 1)) = (stL (Sch.mk k1 i1) (c1 ++ c2) ((c1 ++ c2).zip (w1 ++ w2)) i).set q (ec, (Val.mk zn zm zs zc zw)) := by rw [stL_succ hsL, step_twin (stL_srt _ _ _ _) hnb hEq]; exact congrArg (fun z => List.set _ q (ec, z)) ez
      have hokb : okC1 (okJ (Sch.mk k1 i1)) (c1 ++ c2) (stL (Sch.mk k1 i1) (c1 ++ c2) ((c1 ++ c2).zip (w1 ++ w2)) i) (ec, (Val.mk vn vm vs_ vc vw)) = okJ (Sch.mk k1 i1) (Val.mk qn qm qs qc qw) (Val.mk vn vm vs_ vc vw) := by
       unfold okC1
       rw [show look (stL (Sch.mk k1 i1) (c1 ++ c2) ((c1 ++ c2).zip (w1 ++ w2)) i) (ec, (Val.mk vn vm vs_ vc vw)).1 = some (Val.mk qn qm qs qc qw) from hlk, show below (c1 ++ c2) (ec, (Val.mk vn vm vs_ vc vw)).1 = false by simpa using hnb]
       rfl
      have hsc : ((stL (Sch.mk k1 i1) (c1 ++ c2) ((c1 ++ c2).zip (w1 ++ w2)) i).set q (ec, (Val.mk zn zm zs zc zw))).map (·.1) = ((stL (Sch.mk k1 i1) (c1 ++ c2) ((c1 ++ c2).zip (w1 ++ w2)) i).map (·.1)) := by
       rw [List.map_set]
       obtain ⟨hl_, he_⟩ := zI.1 hsq
       rw [← he_]
       exact List.set_getElem_self hl_
      have hpl := (zI.1 hR).1
      have hR2 : ((R ++ [MObj.cells (encV (Val.mk zn zm zs zc zw)).cells]).set p (MObj.orow 30 5 (stL (Sch.mk k1 i1) (c1 ++ c2) ((c1 ++ c2).zip (w1 ++ w2)) i).length (setMany (flat (encVs ((stL (Sch.mk k1 i1) (c1 ++ c2) ((c1 ++ c2).zip (w1 ++ w2)) i).map (·.2)))) (q * 5) (encV (Val.mk zn zm zs zc zw)).cells)))[p]? = some (MObj.orow 30 5 (stL (Sch.mk k1 i1) (c1 ++ c2) ((c1 ++ c2).zip (w1 ++ w2)) (i + 1)).length (flat (encVs ((stL (Sch.mk k1 i1) (c1 ++ c2) ((c1 ++ c2).zip (w1 ++ w2)) (i + 1)).map (·.2))))) := by
       rw [List.getElem?_set_self (by rw [zN]; omega), hst, List.length_set, set_flat zX5 (encV_cells _) (by rw [zR, zC]; exact hq'), List.map_set, encVs_set]
      refine zB ?_
      refine zU0 [17, 18] [_, S ++ (.cells (encS (.mk 8 [.mk k1 i1])).cells :: .cells (encV (.mk 0 0 [] c1 w1)).cells :: .cells (encV (.mk 0 0 [] c2 w2)).cells :: .cells [.int .u64 0, .int .u64 0, .lst0, .lst0, .lst0] :: .row 60 1 ((c1.map encC).length + (c2.map encC).length) :: .row 30 5 ((encVs w1).length + (encVs w2).length) :: .cells [.int .u64 0, .int .u64 0, .lst0, .lst none 1 (((stL (Sch.mk k1 i1) (c1 ++ c2) ((c1 ++ c2).zip (w1 ++ w2)) i).map (·.1)).map encC), .ow (S.length + (p + 7)) 5 (stL (Sch.mk k1 i1) (c1 ++ c2) ((c1 ++ c2).zip (w1 ++ w2)) i).length] :: (R ++ [.cells [.int .u64 0, .int .u64 0, .lst0, .lst0, .lst0]])), S ++ (.cells (encS (.mk 8 [.mk k1 i1])).cells :: .cells (encV (.mk 0 0 [] c1 w1)).cells :: .cells (encV (.mk 0 0 [] c2 w2)).cells :: .cells [.int .u64 0, .int .u64 0, .lst0, .lst0, .lst0] :: .row 60 1 ((c1.map encC).length + (c2.map encC).length) :: .row 30 5 ((encVs w1).length + (encVs w2).length) :: .cells [.int .u64 0, .int .u64 0, .lst0, .lst none 1 (((stL (Sch.mk k1 i1) (c1 ++ c2) ((c1 ++ c2).zip (w1 ++ w2)) i).map (·.1)).map encC), .ow (S.length + (p + 7)) 5 (stL (Sch.mk k1 i1) (c1 ++ c2) ((c1 ++ c2).zip (w1 ++ w2)) i).length] :: (R ++ [.cells (encV (Val.mk zn zm zs zc zw)).cells]))] mo (by decide) rfl rfl rfl rfl ?_
      refine zS rfl rfl (.cons (zE rfl rfl zU2 ⟨rfl, rfl⟩) (.cons (zE rfl rfl zU2 ⟨rfl, rfl⟩) (.nil))) <| zS rfl rfl (.cons (zD0 rfl rfl rfl ta22 rfl ⟨rfl, rfl⟩) (.cons (zD0 rfl rfl rfl ta22 rfl ⟨rfl, rfl⟩) (.nil))) <| zS rfl rfl (.cons (zG rfl zR0 sz24 (by decide) rfl rfl rfl (show _ = some (encS (Sch.mk k1 i1)) from rfl) ⟨rfl, rfl⟩) (.cons (zG rfl zR0 sz24 (by decide) rfl rfl rfl (show _ = some (encS (Sch.mk k1 i1)) from rfl) ⟨rfl, rfl⟩) (.nil))) ?_
      refine zS rfl rfl (.cons (zH rfl rfl ta24 rfl ⟨rfl, rfl⟩) (.cons (zH rfl rfl ta24 rfl ⟨rfl, rfl⟩) (.nil))) <| zS rfl rfl (.cons (zE rfl rfl zF1 ⟨rfl, rfl⟩) (.cons (zE rfl rfl zF1 ⟨rfl, rfl⟩) (.nil))) <| zS rfl rfl (.cons (zD0 rfl rfl rfl ta28 rfl ⟨rfl, rfl⟩) (.cons (zD0 rfl rfl rfl ta28 rfl ⟨rfl, rfl⟩) (.nil))) <| zS rfl rfl (.cons (zV rfl rfl ⟨rfl, rfl⟩) (.cons (zV rfl rfl ⟨rfl, rfl⟩) (.nil))) <| zS rfl rfl (.cons (op_indexAddr_owL rfl zO sz30 rfl rfl htw hq' (by first | exact get7 hR | exact get7a hR) ⟨rfl, rfl⟩) (.cons (op_indexAddr_owL rfl zO sz30 rfl rfl htw hq' (by first | exact get7 hR | exact get7a hR) ⟨rfl, rfl⟩) (.nil))) ?_
      refine zS rfl rfl (.cons (op_load_orfL rfl rfl (by first | exact get7 hR | exact get7a hR) ta30 (load_flat zX5 (zZ1 hvq)) ⟨rfl, rfl⟩) (.cons (op_load_orfL rfl rfl (by first | exact get7 hR | exact get7a hR) ta30 (load_flat zX5 (zZ1 hvq)) ⟨rfl, rfl⟩) (.nil))) ?_
      refine zS rfl rfl (.cons (zV rfl rfl ⟨rfl, rfl⟩) (.cons (zV rfl rfl ⟨rfl, rfl⟩) (.nil))) <| zS rfl rfl (.cons (zV rfl rfl ⟨rfl, rfl⟩) (.cons (zV rfl rfl ⟨rfl, rfl⟩) (.nil))) <| zS rfl rfl (.cons (zG rfl zO sz30 (by decide) rfl rfl rfl (zZ1 hs3) ⟨rfl, rfl⟩) (.cons (zG rfl zO sz30 (by decide) rfl rfl rfl (zZ1 hs3) ⟨rfl, rfl⟩) (.nil))) ?_
      refine zS rfl rfl (.cons (zH rfl rfl ta30 rfl ⟨rfl, rfl⟩) (.cons (zH rfl rfl ta30 rfl ⟨rfl, rfl⟩) (.nil))) <| zS rfl rfl (.cons (zH1 rfl rfl rfl co32 (hz _)) (.cons (zH1 rfl rfl rfl co32 (hz _)) (.nil))) <| zS rfl rfl (.cons (zV rfl rfl ⟨rfl, rfl⟩) (.cons (zV rfl rfl ⟨rfl, rfl⟩) (.nil))) <| zS rfl rfl (.cons (zE0 rfl rfl rfl ⟨rfl, rfl⟩) (.cons (zE0 rfl rfl rfl ⟨rfl, rfl⟩) (.nil))) <| zS rfl rfl (.cons (zE0 rfl rfl rfl ⟨rfl, rfl⟩) (.cons (zE0 rfl rfl rfl ⟨rfl, rfl⟩) (.cons (zE0 rfl rfl rfl ⟨rfl, rfl⟩) (.nil)))) <| zX0 rfl rfl rfl rfl (zN0 (k := R.length + 7) rfl zm30 rfl rfl ⟨rfl, rfl⟩) <| zX0 rfl rfl rfl rfl (zH0 rfl rfl rfl end7 sz30 rfl rfl (zA rfl) set7 ⟨rfl, rfl⟩) <| dO rfl rfl rfl (zB1 rfl rfl ⟨rfl, rfl⟩) <| zL0 <| zB <| qR rfl <| qF rfl rfl rfl zF1 <| qL rfl rfl rfl rfl ta28 rfl <| qM rfl rfl rfl <| qO rfl <| zD0 rfl rfl end7 ta30 rfl <| qM rfl rfl rfl <| qM rfl rfl rfl ?_
      refine zG0 (fun h101 => ?_) (fun h101 => ?_)
      ·
       refine qM rfl rfl rfl <| qP rfl rfl rfl rfl <| qO rfl <| op_indexAddr_owL rfl zO sz30 rfl rfl htw hq' (get7a hR) <| qO rfl <| op_store_orfL (L' := (.cells (encS (.mk 8 [.mk k1 i1])).cells :: .cells (encV (.mk 0 0 [] c1 w1)).cells :: .cells (encV (.mk 0 0 [] c2 w2)).cells :: .cells [.int .u64 0, .int .u64 0, .lst0, .lst0, .lst0] :: .row 60 1 ((c1.map encC).length + (c2.map encC).length) :: .row 30 5 ((encVs w1).length + (encVs w2).length) :: .cells [.int .u64 0, .int .u64 0, .lst0, .lst none 1 (((stL (Sch.mk k1 i1) (c1 ++ c2) ((c1 ++ c2).zip (w1 ++ w2)) i).map (·.1)).map encC), .ow (S.length + (p + 7)) 5 (stL (Sch.mk k1 i1) (c1 ++ c2) ((c1 ++ c2).zip (w1 ++ w2)) i).length] :: ((R ++ [MObj.cells (encV (Val.mk zn zm zs zc zw)).cells]).set p (MObj.orow 30 5 (stL (Sch.mk k1 i1) (c1 ++ c2) ((c1 ++ c2).zip (w1 ++ w2)) i).length (setMany (flat (encVs ((stL (Sch.mk k1 i1) (c1 ++ c2) ((c1 ++ c2).zip (w1 ++ w2)) i).map (·.2)))) (q * 5) (encV (Val.mk zn zm zs zc zw)).cells))))) rfl rfl rfl (get7a hR) sz30 rfl rfl (flat_get zX5 (zZ1 hvq)).2 rfl <| qA rfl rfl rfl <| qN <| zN1 <| qR rfl <| qM rfl rfl rfl <| qO rfl <| zY0 rfl rfl rfl rfl <| qA rfl rfl rfl <| qN ?_
       refine ⟨⟨i + 1, _, p⟩, by dsimp only; omega, ⟨by dsimp only; omega, hR2⟩, by dsimp only; rw [hst, List.length_set, hsc] <;> rfl, (.keep rfl (.keep rfl (.keep rfl (.nil)))), (.keep rfl (.keep rfl (.eq rfl (by rw [okL_succ hsL, hokb, h101]; rfl) (.eq rfl (zM1 hlt (by simp only [maxLen]; omega)) (.nil)))))⟩
      ·
       refine qS rfl <| qP rfl rfl rfl rfl <| qO rfl <| op_indexAddr_owL rfl zO sz30 rfl rfl htw hq' (get7a hR) <| qO rfl <| op_store_orfL (L' := (.cells (encS (.mk 8 [.mk k1 i1])).cells :: .cells (encV (.mk 0 0 [] c1 w1)).cells :: .cells (encV (.mk 0 0 [] c2 w2)).cells :: .cells [.int .u64 0, .int .u64 0, .lst0, .lst0, .lst0] :: .row 60 1 ((c1.map encC).length + (c2.map encC).length) :: .row 30 5 ((encVs w1).length + (encVs w2).length) :: .cells [.int .u64 0, .int .u64 0, .lst0, .lst none 1 (((stL (Sch.mk k1 i1) (c1 ++ c2) ((c1 ++ c2).zip (w1 ++ w2)) i).map (·.1)).map encC), .ow (S.length + (p + 7)) 5 (stL (Sch.mk k1 i1) (c1 ++ c2) ((c1 ++ c2).zip (w1 ++ w2)) i).length] :: ((R ++ [MObj.cells (encV (Val.mk zn zm zs zc zw)).cells]).set p (MObj.orow 30 5 (stL (Sch.mk k1 i1) (c1 ++ c2) ((c1 ++ c2).zip (w1 ++ w2)) i).length (setMany (flat (encVs ((stL (Sch.mk k1 i1) (c1 ++ c2) ((c1 ++ c2).zip (w1 ++ w2)) i).map (·.2)))) (q * 5) (encV (Val.mk zn zm zs zc zw)).cells))))) rfl rfl rfl (get7a hR) sz30 rfl rfl (flat_get zX5 (zZ1 hvq)).2 rfl <| qA rfl rfl rfl <| qN <| zN1 <| qR rfl <| qM rfl rfl rfl <| qO rfl <| zY0 rfl rfl rfl rfl <| qA rfl rfl rfl <| qN ?_
       refine ⟨⟨i + 1, _, p⟩, by dsimp only; omega, ⟨by dsimp only; omega, hR2⟩, by dsimp only; rw [hst, List.length_set, hsc] <;> rfl, (.keep rfl (.keep rfl (.keep rfl (.nil)))), (.keep rfl (.keep rfl (.eq rfl (by rw [okL_succ hsL, hokb, h101]; rfl) (.eq rfl (zM1 hlt (by simp only [maxLen]; omega)) (.nil)))))⟩
     ·
      have hni : ci ∉ ((stL (Sch.mk k1 i1) (c1 ++ c2) ((c1 ++ c2).zip (w1 ++ w2)) i).map (·.1)) := tw_not (by
       rcases tw_cases ((stL (Sch.mk k1 i1) (c1 ++ c2) ((c1 ++ c2).zip (w1 ++ w2)) i).map (·.1)) ci _ (Nat.le_refl _) with ⟨_, h2⟩ | ⟨q, _, h2, _⟩
       ·exact h2
       ·rw [h2] at h78; simp at h78)
      refine zA0 <| zB <| qR rfl <| qA rfl rfl rfl <| qN <| zB <| zB0 ?_
      refine zV1 (α := Nat) [(3, _), (6, _), (8, _), (9, _), (10, _), (11, _), (12, _)] (fun k => [(19, .int .i64 (k : Int))]) (fun k => (.cells (encS (.mk 8 [.mk k1 i1])).cells :: .cells (encV (.mk 0 0 [] c1 w1)).cells :: .cells (encV (.mk 0 0 [] c2 w2)).cells :: .cells [.int .u64 0, .int .u64 0, .lst0, .lst0, .lst0] :: .row 60 1 ((c1.map encC).length + (c2.map encC).length) :: .row 30 5 ((encVs w1).length + (encVs w2).length) :: .cells [.int .u64 0, .int .u64 0, .lst0, .lst none 1 (((stL (Sch.mk k1 i1) (c1 ++ c2) ((c1 ++ c2).zip (w1 ++ w2)) i).map (·.1)).map encC), .ow (S.length + (p + 7)) 5 (stL (Sch.mk k1 i1) (c1 ++ c2) ((c1 ++ c2).zip (w1 ++ w2)) i).length] :: R)) (fun k => k ≤ (stL (Sch.mk k1 i1) (c1 ++ c2) ((c1 ++ c2).zip (w1 ++ w2)) i).length ∧ ∀ j, j < k → ∀ x, (stL (Sch.mk k1 i1) (c1 ++ c2) ((c1 ++ c2).zip (w1 ++ w2)) i)[j]? = some x → aheadF x.1 ci = true) (fun k => (stL (Sch.mk k1 i1) (c1 ++ c2) ((c1 ++ c2).zip (w1 ++ w2)) i).length - k) (0) (.keep rfl (.keep rfl (.keep rfl (.keep rfl (.keep rfl (.keep rfl (.keep rfl (.nil)))))))) (.keep rfl (.nil)) (⟨by omega, fun j hj => by omega⟩) (rfl) ?_
      rintro k ⟨hk, hah⟩
      refine zB <| zB ?_
      refine zU0 [] [_] mo (by decide) rfl rfl rfl rfl ?_
      refine dO rfl rfl rfl (zV rfl rfl ⟨rfl, rfl⟩) <| dO rfl rfl rfl (zE rfl rfl zI1 ⟨rfl, rfl⟩) <| dO rfl rfl rfl (zD0 rfl rfl rfl ta27 rfl ⟨rfl, rfl⟩) <| dO rfl rfl rfl (zT1 rfl zM rfl ⟨rfl, rfl⟩) <| dO rfl rfl rfl (zE2 rfl rfl rfl rfl ⟨rfl, rfl⟩) <| dO rfl rfl rfl (zV rfl rfl ⟨rfl, rfl⟩) ?_
      refine zH2 (fun h110 => ?_) (fun h110 => ?_)
      ·
       have hlt4 : k < (stL (Sch.mk k1 i1) (c1 ++ c2) ((c1 ++ c2).zip (w1 ++ w2)) i).length := by rw [zC, zC] at h110; have := zD3 h110; omega
       obtain ⟨⟨e4, u4⟩, hs4⟩ : ∃ q, (stL (Sch.mk k1 i1) (c1 ++ c2) ((c1 ++ c2).zip (w1 ++ w2)) i)[k]? = some q := ⟨_, zD hlt4⟩
       have hc4 : ((stL (Sch.mk k1 i1) (c1 ++ c2) ((c1 ++ c2).zip (w1 ++ w2)) i).map (·.1))[k]? = some e4 := by rw [zQ0, hs4]; rfl
       refine dO rfl rfl rfl (zE rfl rfl zI1 ⟨rfl, rfl⟩) <| dO rfl rfl rfl (zD0 rfl rfl rfl ta27 rfl ⟨rfl, rfl⟩) <| dO rfl rfl rfl (zV rfl rfl ⟨rfl, rfl⟩) <| dO rfl rfl rfl (zG rfl zM sz60 (by decide) rfl rfl rfl (zV0 hc4) ⟨rfl, rfl⟩) ?_
       refine dO rfl rfl rfl (zH rfl rfl ta60 rfl ⟨rfl, rfl⟩) <| dO rfl rfl rfl (zV rfl rfl ⟨rfl, rfl⟩) <| dO rfl rfl rfl (zV rfl rfl ⟨rfl, rfl⟩) <| dO rfl rfl rfl (zG rfl zM sz60 (by decide) rfl rfl rfl (zV0 hs) ⟨rfl, rfl⟩) ?_
       refine dO rfl rfl rfl (zH rfl rfl ta60 rfl ⟨rfl, rfl⟩) <| zS rfl rfl (.cons (zH1 rfl rfl rfl co111 (rAhead_spec e4 ci _)) .nil) <| dO rfl rfl rfl (zE1 rfl rfl rfl ⟨rfl, rfl⟩) <| zL0 ?_
       refine zJ rfl (fun h121 => ?_) (fun h121 => ?_)
       ·
        have hahk : aheadF e4 ci = true := h121
        refine zA0 <| zB0 <| qR rfl <| qM rfl rfl rfl <| qO rfl <| zY0 rfl rfl rfl rfl <| qA rfl rfl rfl <| qN ?_
        refine ⟨k + 1, by omega, ⟨by omega, fun j hj x hx => ?_⟩, rfl, (.keep rfl (.keep rfl (.keep rfl (.keep rfl (.keep rfl (.keep rfl (.keep rfl (.nil)))))))), (.eq rfl (zM1 hlt4 (by simp only [maxLen]; omega)) (.nil))⟩
        by_cases e : j = k
        ·subst e; rw [hs4] at hx; injection hx with hx; subst hx; exact hahk
        ·exact hah j (by omega) x hx
       ·
        have hend : ∀ x, (stL (Sch.mk k1 i1) (c1 ++ c2) ((c1 ++ c2).zip (w1 ++ w2)) i)[k]? = some x → aheadF x.1 ci = false := fun x hx => by rw [hs4] at hx; injection hx with hx; subst hx; exact h121
        refine zN1 <| zB ?_
        refine zU0 [4, 10, 15, 17] [_, S ++ (.cells (encS (.mk 8 [.mk k1 i1])).cells :: .cells (encV (.mk 0 0 [] c1 w1)).cells :: .cells (encV (.mk 0 0 [] c2 w2)).cells :: .cells [.int .u64 0, .int .u64 0, .lst0, .lst0, .lst0] :: .row 60 1 ((c1.map encC).length + (c2.map encC).length) :: .row 30 5 ((encVs w1).length + (encVs w2).length) :: .cells [.int .u64 0, .int .u64 0, .lst0, .lst none 1 (((stL (Sch.mk k1 i1) (c1 ++ c2) ((c1 ++ c2).zip (w1 ++ w2)) i).map (·.1)).map encC), .ow (S.length + (p + 7)) 5 (stL (Sch.mk k1 i1) (c1 ++ c2) ((c1 ++ c2).zip (w1 ++ w2)) i).length] :: (R ++ [MObj.row 60 1 ((List.take (k - 0) (List.drop 0 (((stL (Sch.mk k1 i1) (c1 ++ c2) ((c1 ++ c2).zip (w1 ++ w2)) i).map (·.1)).map encC))).length)])), S ++ (.cells (encS (.mk 8 [.mk k1 i1])).cells :: .cells (encV (.mk 0 0 [] c1 w1)).cells :: .cells (encV (.mk 0 0 [] c2 w2)).cells :: .cells [.int .u64 0, .int .u64 0, .lst0, .lst0, .lst0] :: .row 60 1 ((c1.map encC).length + (c2.map encC).length) :: .row 30 5 ((encVs w1).length + (encVs w2).length) :: .cells [.int .u64 0, .int .u64 0, .lst0, .lst none 1 (((stL (Sch.mk k1 i1) (c1 ++ c2) ((c1 ++ c2).zip (w1 ++ w2)) i).map (·.1)).map encC), .ow (S.length + (p + 7)) 5 (stL (Sch.mk k1 i1) (c1 ++ c2) ((c1 ++ c2).zip (w1 ++ w2)) i).length] :: (R ++ [MObj.row 60 1 ((List.take (k - 0) (List.drop 0 (((stL (Sch.mk k1 i1) (c1 ++ c2) ((c1 ++ c2).zip (w1 ++ w2)) i).map (·.1)).map encC))).length + 1)])), S ++ (.cells (encS (.mk 8 [.mk k1 i1])).cells :: .cells (encV (.mk 0 0 [] c1 w1)).cells :: .cells (encV (.mk 0 0 [] c2 w2)).cells :: .cells [.int .u64 0, .int .u64 0, .lst0, .lst0, .lst0] :: .row 60 1 ((c1.map encC).length + (c2.map encC).length) :: .row 30 5 ((encVs w1).length + (encVs w2).length) :: .cells [.int .u64 0, .int .u64 0, .lst0, .lst none 1 (((stL (Sch.mk k1 i1) (c1 ++ c2) ((c1 ++ c2).zip (w1 ++ w2)) i).map (·.1)).map encC), .ow (S.length + (p + 7)) 5 (stL (Sch.mk k1 i1) (c1 ++ c2) ((c1 ++ c2).zip (w1 ++ w2)) i).length] :: (R ++ [MObj.row 60 1 ((List.take (k - 0) (List.drop 0 (((stL (Sch.mk k1 i1) (c1 ++ c2) ((c1 ++ c2).zip (w1 ++ w2)) i).map (·.1)).map encC))).length + 1 + (List.take ((((stL (Sch.mk k1 i1) (c1 ++ c2) ((c1 ++ c2).zip (w1 ++ w2)) i).map (·.1)).map encC).length - k) (List.drop k (((stL (Sch.mk k1 i1) (c1 ++ c2) ((c1 ++ c2).zip (w1 ++ w2)) i).map (·.1)).map encC))).length)])), S ++ (.cells (encS (.mk 8 [.mk k1 i1])).cells :: .cells (encV (.mk 0 0 [] c1 w1)).cells :: .cells (encV (.mk 0 0 [] c2 w2)).cells :: .cells [.int .u64 0, .int .u64 0, .lst0, .lst0, .lst0] :: .row 60 1 ((c1.map encC).length + (c2.map encC).length) :: .row 30 5 ((encVs w1).length + (encVs w2).length) :: .cells [.int .u64 0, .int .u64 0, .lst0, .lst (some (S.length + (R.length + 7))) 1 ((List.take (k - 0) (List.drop 0 (((stL (Sch.mk k1 i1) (c1 ++ c2) ((c1 ++ c2).zip (w1 ++ w2)) i).map (·.1)).map encC))) ++ [encC ci] ++ (List.take ((((stL (Sch.mk k1 i1) (c1 ++ c2) ((c1 ++ c2).zip (w1 ++ w2)) i).map (·.1)).map encC).length - k) (List.drop k (((stL (Sch.mk k1 i1) (c1 ++ c2) ((c1 ++ c2).zip (w1 ++ w2)) i).map (·.1)).map encC)))), .ow (S.length + (p + 7)) 5 (stL (Sch.mk k1 i1) (c1 ++ c2) ((c1 ++ c2).zip (w1 ++ w2)) i).length] :: (R ++ [MObj.row 60 1 ((List.take (k - 0) (List.drop 0 (((stL (Sch.mk k1 i1) (c1 ++ c2) ((c1 ++ c2).zip (w1 ++ w2)) i).map (·.1)).map encC))).length + 1 + (List.take ((((stL (Sch.mk k1 i1) (c1 ++ c2) ((c1 ++ c2).zip (w1 ++ w2)) i).map (·.1)).map encC).length - k) (List.drop k (((stL (Sch.mk k1 i1) (c1 ++ c2) ((c1 ++ c2).zip (w1 ++ w2)) i).map (·.1)).map encC))).length)]))] mo (by decide) rfl rfl rfl rfl ?_
        refine zS rfl rfl (.cons (zE rfl rfl zI1 ⟨rfl, rfl⟩) (.cons (zE rfl rfl zI1 ⟨rfl, rfl⟩) (.cons (zE rfl rfl zI1 ⟨rfl, rfl⟩) (.cons (zE rfl rfl zI1 ⟨rfl, rfl⟩) (.nil))))) <| zS rfl rfl (.cons (zD0 rfl rfl rfl ta27 rfl ⟨rfl, rfl⟩) (.cons (zD0 rfl rfl rfl ta27 rfl ⟨rfl, rfl⟩) (.cons (zD0 rfl rfl rfl ta27 rfl ⟨rfl, rfl⟩) (.cons (zD0 rfl rfl rfl ta27 rfl ⟨rfl, rfl⟩) (.nil))))) <| zS rfl rfl (.cons (zV rfl rfl ⟨rfl, rfl⟩) (.cons (zV rfl rfl ⟨rfl, rfl⟩) (.cons (zV rfl rfl ⟨rfl, rfl⟩) (.cons (zV rfl rfl ⟨rfl, rfl⟩) (.nil))))) <| dO rfl rfl rfl (zP1 rfl zM sz60 rfl .none (.some rfl rfl) (by first | omega | (simp only [zC, zR]; omega)) (by first | omega | (simp only [zC, zR]; omega)) ⟨rfl, rfl⟩) ?_
        refine zX0 rfl rfl rfl rfl (zA5 (k := R.length + 7) rfl zM el60 rfl rfl (by simp only [List.length_take, List.length_drop, zC, zY, List.length_nil, zN]; omega) (by simp only [List.length_take, List.length_drop, zC, zY, List.length_nil, zN]; omega) rfl rfl ⟨rfl, rfl⟩) ?_
        refine zS rfl rfl (.cons (zV rfl rfl ⟨rfl, rfl⟩) (.cons (zV rfl rfl ⟨rfl, rfl⟩) (.cons (zV rfl rfl ⟨rfl, rfl⟩) (.cons (zV rfl rfl ⟨rfl, rfl⟩) (.nil))))) <| zS rfl rfl (.cons (zV rfl rfl ⟨rfl, rfl⟩) (.cons (zV rfl rfl ⟨rfl, rfl⟩) (.cons (zV rfl rfl ⟨rfl, rfl⟩) (.cons (zV rfl rfl ⟨rfl, rfl⟩) (.nil))))) <| zS rfl rfl (.cons (zG rfl zM sz60 (by decide) rfl rfl rfl (zV0 hs) ⟨rfl, rfl⟩) (.cons (zG rfl zM sz60 (by decide) rfl rfl rfl (zV0 hs) ⟨rfl, rfl⟩) (.cons (zG rfl zM sz60 (by decide) rfl rfl rfl (zV0 hs) ⟨rfl, rfl⟩) (.cons (zG rfl zM sz60 (by decide) rfl rfl rfl (zV0 hs) ⟨rfl, rfl⟩) (.nil))))) ?_
        refine zS rfl rfl (.cons (zH rfl rfl ta60 rfl ⟨rfl, rfl⟩) (.cons (zH rfl rfl ta60 rfl ⟨rfl, rfl⟩) (.cons (zH rfl rfl ta60 rfl ⟨rfl, rfl⟩) (.cons (zH rfl rfl ta60 rfl ⟨rfl, rfl⟩) (.nil))))) <| zS rfl rfl (.cons (zC1 rfl zM el60 rfl rfl (by decide) (by decide) rfl rfl ⟨rfl, rfl⟩) (.cons (zC1 rfl zM el60 rfl rfl (by decide) (by decide) rfl rfl ⟨rfl, rfl⟩) (.nil))) ?_
        refine zX0 rfl rfl rfl rfl (zC2 rfl zM el60 rfl rfl end7 rfl (by simp only [List.length_take, List.length_drop, zC, zY, List.length_nil, zN]; omega) (by simp only [List.length_take, List.length_drop, zC, zY, List.length_nil, zN]; omega) set7 ⟨rfl, rfl⟩) ?_
        refine zS rfl rfl (.cons (zE rfl rfl zI1 ⟨rfl, rfl⟩) (.cons (zE rfl rfl zI1 ⟨rfl, rfl⟩) (.cons (zE rfl rfl zI1 ⟨rfl, rfl⟩) (.cons (zE rfl rfl zI1 ⟨rfl, rfl⟩) (.nil))))) <| zS rfl rfl (.cons (zD0 rfl rfl rfl ta27 rfl ⟨rfl, rfl⟩) (.cons (zD0 rfl rfl rfl ta27 rfl ⟨rfl, rfl⟩) (.cons (zD0 rfl rfl rfl ta27 rfl ⟨rfl, rfl⟩) (.cons (zD0 rfl rfl rfl ta27 rfl ⟨rfl, rfl⟩) (.nil))))) <| zS rfl rfl (.cons (zV rfl rfl ⟨rfl, rfl⟩) (.cons (zV rfl rfl ⟨rfl, rfl⟩) (.cons (zV rfl rfl ⟨rfl, rfl⟩) (.cons (zV rfl rfl ⟨rfl, rfl⟩) (.nil))))) <| zS rfl rfl (.cons (zP1 rfl zM sz60 rfl (.some rfl rfl) .none (by first | omega | (simp only [zC, zR]; omega)) (by first | omega | (simp only [zC, zR]; omega)) ⟨rfl, rfl⟩) (.cons (zP1 rfl zM sz60 rfl (.some rfl rfl) .none (by first | omega | (simp only [zC, zR]; omega)) (by first | omega | (simp only [zC, zR]; omega)) ⟨rfl, rfl⟩) (.cons (zP1 rfl zM sz60 rfl (.some rfl rfl) .none (by first | omega | (simp only [zC, zR]; omega)) (by first | omega | (simp only [zC, zR]; omega)) ⟨rfl, rfl⟩) (.nil)))) ?_
        refine zX0 rfl rfl rfl rfl (zC2 rfl zM el60 rfl rfl end7 (by simp only [zN, zY, List.length_nil]) (by simp only [List.length_take, List.length_drop, zC, zY, List.length_nil, zN]; omega) (by simp only [List.length_take, List.length_drop, zC, zY, List.length_nil, zN]; omega) set7 ⟨rfl, rfl⟩) ?_
        refine dO rfl rfl rfl (zE rfl rfl zI1 ⟨rfl, rfl⟩) <| zX0 rfl rfl rfl rfl (zH0 rfl rfl rfl rfl sz27 rfl rfl (zA rfl) rfl ⟨rfl, rfl⟩) <| zL0 ?_
        have hst : (stL (Sch.mk k1 i1) (c1 ++ c2) ((c1 ++ c2).zip (w1 ++ w2)) (i + 1)) = (stL (Sch.mk k1 i1) (c1 ++ c2) ((c1 ++ c2).zip (w1 ++ w2)) i).take k ++ (ci, (Val.mk vn vm vs_ vc vw)) :: (stL (Sch.mk k1 i1) (c1 ++ c2) ((c1 ++ c2).zip (w1 ++ w2)) i).drop k := (stL_succ hsL).trans (step_ins hnb hni hah hk hend)
        have hokc : okC1 (okJ (Sch.mk k1 i1)) (c1 ++ c2) (stL (Sch.mk k1 i1) (c1 ++ c2) ((c1 ++ c2).zip (w1 ++ w2)) i) (ci, (Val.mk vn vm vs_ vc vw)) = true := by
         unfold okC1
         rw [show look (stL (Sch.mk k1 i1) (c1 ++ c2) ((c1 ++ c2).zip (w1 ++ w2)) i) (ci, (Val.mk vn vm vs_ vc vw)).1 = none from zE3 fun h => hni (zQ3.1 h)]
         simp
        have hcc : (List.take (k - 0) (List.drop 0 (((stL (Sch.mk k1 i1) (c1 ++ c2) ((c1 ++ c2).zip (w1 ++ w2)) i).map (·.1)).map encC))) ++ [encC ci] ++ (List.take ((((stL (Sch.mk k1 i1) (c1 ++ c2) ((c1 ++ c2).zip (w1 ++ w2)) i).map (·.1)).map encC).length - k) (List.drop k (((stL (Sch.mk k1 i1) (c1 ++ c2) ((c1 ++ c2).zip (w1 ++ w2)) i).map (·.1)).map encC))) = ((stL (Sch.mk k1 i1) (c1 ++ c2) ((c1 ++ c2).zip (w1 ++ w2)) (i + 1)).map (·.1)).map encC := by
         rw [hst]
         simp [List.take_of_length_le]
        have hvv : flat (List.take (k - 0) (List.drop 0 (encVs ((stL (Sch.mk k1 i1) (c1 ++ c2) ((c1 ++ c2).zip (w1 ++ w2)) i).map (·.2))))) ++ flat [encV (Val.mk vn vm vs_ vc vw)] ++ flat (List.take ((encVs ((stL (Sch.mk k1 i1) (c1 ++ c2) ((c1 ++ c2).zip (w1 ++ w2)) i).map (·.2))).length - k) (List.drop k (encVs ((stL (Sch.mk k1 i1) (c1 ++ c2) ((c1 ++ c2).zip (w1 ++ w2)) i).map (·.2))))) = flat (encVs ((stL (Sch.mk k1 i1) (c1 ++ c2) ((c1 ++ c2).zip (w1 ++ w2)) (i + 1)).map (·.2))) := by
         rw [hst, ← zY5, ← zY5]
         congr 1
         simp [zJ4, List.take_of_length_le]
        have hln : (stL (Sch.mk k1 i1) (c1 ++ c2) ((c1 ++ c2).zip (w1 ++ w2)) (i + 1)).length = (List.take (k - 0) (List.drop 0 (encVs ((stL (Sch.mk k1 i1) (c1 ++ c2) ((c1 ++ c2).zip (w1 ++ w2)) i).map (·.2))))).length + 1 + (List.take ((encVs ((stL (Sch.mk k1 i1) (c1 ++ c2) ((c1 ++ c2).zip (w1 ++ w2)) i).map (·.2))).length - k) (List.drop k (encVs ((stL (Sch.mk k1 i1) (c1 ++ c2) ((c1 ++ c2).zip (w1 ++ w2)) i).map (·.2))))).length := by
         rw [hst]
         simp [zR]
         omega
        have hpl := (zI.1 hR).1
        refine mwp_cellsub (L' := (.cells (encS (.mk 8 [.mk k1 i1])).cells :: .cells (encV (.mk 0 0 [] c1 w1)).cells :: .cells (encV (.mk 0 0 [] c2 w2)).cells :: .cells [.int .u64 0, .int .u64 0, .lst0, .lst0, .lst0] :: .row 60 1 ((c1.map encC).length + (c2.map encC).length) :: .row 30 5 ((encVs w1).length + (encVs w2).length) :: .cells [.int .u64 0, .int .u64 0, .lst0, .lst none 1 (((stL (Sch.mk k1 i1) (c1 ++ c2) ((c1 ++ c2).zip (w1 ++ w2)) (i + 1)).map (·.1)).map encC), .ow (S.length + (p + 7)) 5 (stL (Sch.mk k1 i1) (c1 ++ c2) ((c1 ++ c2).zip (w1 ++ w2)) i).length] :: (R ++ [MObj.row 60 1 ((List.take (k - 0) (List.drop 0 (((stL (Sch.mk k1 i1) (c1 ++ c2) ((c1 ++ c2).zip (w1 ++ w2)) i).map (·.1)).map encC))).length + 1 + (List.take ((((stL (Sch.mk k1 i1) (c1 ++ c2) ((c1 ++ c2).zip (w1 ++ w2)) i).map (·.1)).map encC).length - k) (List.drop k (((stL (Sch.mk k1 i1) (c1 ++ c2) ((c1 ++ c2).zip (w1 ++ w2)) i).map (·.1)).map encC))).length)]))) 6 rfl (.cons (.refl _) (.cons (.refl _) (.cons (.refl _) (.cons (Sub.trans (.view _ _ _) (.of_eq (by rw [hcc]))) (.cons (.refl _) .nil))))) rfl ?_
        refine mwp_owfreezeL (L' := (.cells (encS (.mk 8 [.mk k1 i1])).cells :: .cells (encV (.mk 0 0 [] c1 w1)).cells :: .cells (encV (.mk 0 0 [] c2 w2)).cells :: .cells [.int .u64 0, .int .u64 0, .lst0, .lst0, .lst0] :: .row 60 1 ((c1.map encC).length + (c2.map encC).length) :: .row 30 5 ((encVs w1).length + (encVs w2).length) :: .cells [.int .u64 0, .int .u64 0, .lst0, .lst none 1 (((stL (Sch.mk k1 i1) (c1 ++ c2) ((c1 ++ c2).zip (w1 ++ w2)) (i + 1)).map (·.1)).map encC), .lst (some (S.length + (p + 7))) 5 (encVs ((stL (Sch.mk k1 i1) (c1 ++ c2) ((c1 ++ c2).zip (w1 ++ w2)) i).map (·.2)))] :: ((R ++ [MObj.row 60 1 ((List.take (k - 0) (List.drop 0 (((stL (Sch.mk k1 i1) (c1 ++ c2) ((c1 ++ c2).zip (w1 ++ w2)) i).map (·.1)).map encC))).length + 1 + (List.take ((((stL (Sch.mk k1 i1) (c1 ++ c2) ((c1 ++ c2).zip (w1 ++ w2)) i).map (·.1)).map encC).length - k) (List.drop k (((stL (Sch.mk k1 i1) (c1 ++ c2) ((c1 ++ c2).zip (w1 ++ w2)) i).map (·.1)).map encC))).length)]).set p (MObj.row 30 5 (stL (Sch.mk k1 i1) (c1 ++ c2) ((c1 ++ c2).zip (w1 ++ w2)) i).length)))) 6 4 (p + 7) (xs := encVs ((stL (Sch.mk k1 i1) (c1 ++ c2) ((c1 ++ c2).zip (w1 ++ w2)) i).map (·.2))) rfl rfl (get7a hR) rfl (by rw [zR, zC]) zX5 encVs_one rfl ?_
        refine zU0 [4, 10, 15, 17] [_, S ++ (.cells (encS (.mk 8 [.mk k1 i1])).cells :: .cells (encV (.mk 0 0 [] c1 w1)).cells :: .cells (encV (.mk 0 0 [] c2 w2)).cells :: .cells [.int .u64 0, .int .u64 0, .lst0, .lst0, .lst0] :: .row 60 1 ((c1.map encC).length + (c2.map encC).length) :: .row 30 5 ((encVs w1).length + (encVs w2).length) :: .cells [.int .u64 0, .int .u64 0, .lst0, .lst none 1 (((stL (Sch.mk k1 i1) (c1 ++ c2) ((c1 ++ c2).zip (w1 ++ w2)) (i + 1)).map (·.1)).map encC), .lst (some (S.length + (p + 7))) 5 (encVs ((stL (Sch.mk k1 i1) (c1 ++ c2) ((c1 ++ c2).zip (w1 ++ w2)) i).map (·.2)))] :: (((R ++ [MObj.row 60 1 ((List.take (k - 0) (List.drop 0 (((stL (Sch.mk k1 i1) (c1 ++ c2) ((c1 ++ c2).zip (w1 ++ w2)) i).map (·.1)).map encC))).length + 1 + (List.take ((((stL (Sch.mk k1 i1) (c1 ++ c2) ((c1 ++ c2).zip (w1 ++ w2)) i).map (·.1)).map encC).length - k) (List.drop k (((stL (Sch.mk k1 i1) (c1 ++ c2) ((c1 ++ c2).zip (w1 ++ w2)) i).map (·.1)).map encC))).length)]).set p (MObj.row 30 5 (stL (Sch.mk k1 i1) (c1 ++ c2) ((c1 ++ c2).zip (w1 ++ w2)) i).length)) ++ [MObj.orow 30 5 ((List.take (k - 0) (List.drop 0 (encVs ((stL (Sch.mk k1 i1) (c1 ++ c2) ((c1 ++ c2).zip (w1 ++ w2)) i).map (·.2))))).length) (flat (List.take (k - 0) (List.drop 0 (encVs ((stL (Sch.mk k1 i1) (c1 ++ c2) ((c1 ++ c2).zip (w1 ++ w2)) i).map (·.2))))))])), S ++ (.cells (encS (.mk 8 [.mk k1 i1])).cells :: .cells (encV (.mk 0 0 [] c1 w1)).cells :: .cells (encV (.mk 0 0 [] c2 w2)).cells :: .cells [.int .u64 0, .int .u64 0, .lst0, .lst0, .lst0] :: .row 60 1 ((c1.map encC).length + (c2.map encC).length) :: .row 30 5 ((encVs w1).length + (encVs w2).length) :: .cells [.int .u64 0, .int .u64 0, .lst0, .lst none 1 (((stL (Sch.mk k1 i1) (c1 ++ c2) ((c1 ++ c2).zip (w1 ++ w2)) (i + 1)).map (·.1)).map encC), .lst (some (S.length + (p + 7))) 5 (encVs ((stL (Sch.mk k1 i1) (c1 ++ c2) ((c1 ++ c2).zip (w1 ++ w2)) i).map (·.2)))] :: (((R ++ [MObj.row 60 1 ((List.take (k - 0) (List.drop 0 (((stL (Sch.mk k1 i1) (c1 ++ c2) ((c1 ++ c2).zip (w1 ++ w2)) i).map (·.1)).map encC))).length + 1 + (List.take ((((stL (Sch.mk k1 i1) (c1 ++ c2) ((c1 ++ c2).zip (w1 ++ w2)) i).map (·.1)).map encC).length - k) (List.drop k (((stL (Sch.mk k1 i1) (c1 ++ c2) ((c1 ++ c2).zip (w1 ++ w2)) i).map (·.1)).map encC))).length)]).set p (MObj.row 30 5 (stL (Sch.mk k1 i1) (c1 ++ c2) ((c1 ++ c2).zip (w1 ++ w2)) i).length)) ++ [MObj.orow 30 5 ((List.take (k - 0) (List.drop 0 (encVs ((stL (Sch.mk k1 i1) (c1 ++ c2) ((c1 ++ c2).zip (w1 ++ w2)) i).map (·.2))))).length + 1) (flat (List.take (k - 0) (List.drop 0 (encVs ((stL (Sch.mk k1 i1) (c1 ++ c2) ((c1 ++ c2).zip (w1 ++ w2)) i).map (·.2))))) ++ flat [encV (Val.mk vn vm vs_ vc vw)])])), S ++ (.cells (encS (.mk 8 [.mk k1 i1])).cells :: .cells (encV (.mk 0 0 [] c1 w1)).cells :: .cells (encV (.mk 0 0 [] c2 w2)).cells :: .cells [.int .u64 0, .int .u64 0, .lst0, .lst0, .lst0] :: .row 60 1 ((c1.map encC).length + (c2.map encC).length) :: .row 30 5 ((encVs w1).length + (encVs w2).length) :: .cells [.int .u64 0, .int .u64 0, .lst0, .lst none 1 (((stL (Sch.mk k1 i1) (c1 ++ c2) ((c1 ++ c2).zip (w1 ++ w2)) (i + 1)).map (·.1)).map encC), .lst (some (S.length + (p + 7))) 5 (encVs ((stL (Sch.mk k1 i1) (c1 ++ c2) ((c1 ++ c2).zip (w1 ++ w2)) i).map (·.2)))] :: (((R ++ [MObj.row 60 1 ((List.take (k - 0) (List.drop 0 (((stL (Sch.mk k1 i1) (c1 ++ c2) ((c1 ++ c2).zip (w1 ++ w2)) i).map (·.1)).map encC))).length + 1 + (List.take ((((stL (Sch.mk k1 i1) (c1 ++ c2) ((c1 ++ c2).zip (w1 ++ w2)) i).map (·.1)).map encC).length - k) (List.drop k (((stL (Sch.mk k1 i1) (c1 ++ c2) ((c1 ++ c2).zip (w1 ++ w2)) i).map (·.1)).map encC))).length)]).set p (MObj.row 30 5 (stL (Sch.mk k1 i1) (c1 ++ c2) ((c1 ++ c2).zip (w1 ++ w2)) i).length)) ++ [MObj.orow 30 5 ((List.take (k - 0) (List.drop 0 (encVs ((stL (Sch.mk k1 i1) (c1 ++ c2) ((c1 ++ c2).zip (w1 ++ w2)) i).map (·.2))))).length + 1 + (List.take ((encVs ((stL (Sch.mk k1 i1) (c1 ++ c2) ((c1 ++ c2).zip (w1 ++ w2)) i).map (·.2))).length - k) (List.drop k (encVs ((stL (Sch.mk k1 i1) (c1 ++ c2) ((c1 ++ c2).zip (w1 ++ w2)) i).map (·.2))))).length) (flat (List.take (k - 0) (List.drop 0 (encVs ((stL (Sch.mk k1 i1) (c1 ++ c2) ((c1 ++ c2).zip (w1 ++ w2)) i).map (·.2))))) ++ flat [encV (Val.mk vn vm vs_ vc vw)] ++ flat (List.take ((encVs ((stL (Sch.mk k1 i1) (c1 ++ c2) ((c1 ++ c2).zip (w1 ++ w2)) i).map (·.2))).length - k) (List.drop k (encVs ((stL (Sch.mk k1 i1) (c1 ++ c2) ((c1 ++ c2).zip (w1 ++ w2)) i).map (·.2))))))])), S ++ (.cells (encS (.mk 8 [.mk k1 i1])).cells :: .cells (encV (.mk 0 0 [] c1 w1)).cells :: .cells (encV (.mk 0 0 [] c2 w2)).cells :: .cells [.int .u64 0, .int .u64 0, .lst0, .lst0, .lst0] :: .row 60 1 ((c1.map encC).length + (c2.map encC).length) :: .row 30 5 ((encVs w1).length + (encVs w2).length) :: .cells [.int .u64 0, .int .u64 0, .lst0, .lst none 1 (((stL (Sch.mk k1 i1) (c1 ++ c2) ((c1 ++ c2).zip (w1 ++ w2)) (i + 1)).map (·.1)).map encC), .ow (S.length + (((R ++ [MObj.row 60 1 ((List.take (k - 0) (List.drop 0 (((stL (Sch.mk k1 i1) (c1 ++ c2) ((c1 ++ c2).zip (w1 ++ w2)) i).map (·.1)).map encC))).length + 1 + (List.take ((((stL (Sch.mk k1 i1) (c1 ++ c2) ((c1 ++ c2).zip (w1 ++ w2)) i).map (·.1)).map encC).length - k) (List.drop k (((stL (Sch.mk k1 i1) (c1 ++ c2) ((c1 ++ c2).zip (w1 ++ w2)) i).map (·.1)).map encC))).length)]).set p (MObj.row 30 5 (stL (Sch.mk k1 i1) (c1 ++ c2) ((c1 ++ c2).zip (w1 ++ w2)) i).length)).length + 7)) 5 ((List.take (k - 0) (List.drop 0 (encVs ((stL (Sch.mk k1 i1) (c1 ++ c2) ((c1 ++ c2).zip (w1 ++ w2)) i).map (·.2))))).length + 1 + (List.take ((encVs ((stL (Sch.mk k1 i1) (c1 ++ c2) ((c1 ++ c2).zip (w1 ++ w2)) i).map (·.2))).length - k) (List.drop k (encVs ((stL (Sch.mk k1 i1) (c1 ++ c2) ((c1 ++ c2).zip (w1 ++ w2)) i).map (·.2))))).length)] :: (((R ++ [MObj.row 60 1 ((List.take (k - 0) (List.drop 0 (((stL (Sch.mk k1 i1) (c1 ++ c2) ((c1 ++ c2).zip (w1 ++ w2)) i).map (·.1)).map encC))).length + 1 + (List.take ((((stL (Sch.mk k1 i1) (c1 ++ c2) ((c1 ++ c2).zip (w1 ++ w2)) i).map (·.1)).map encC).length - k) (List.drop k (((stL (Sch.mk k1 i1) (c1 ++ c2) ((c1 ++ c2).zip (w1 ++ w2)) i).map (·.1)).map encC))).length)]).set p (MObj.row 30 5 (stL (Sch.mk k1 i1) (c1 ++ c2) ((c1 ++ c2).zip (w1 ++ w2)) i).length)) ++ [MObj.orow 30 5 ((List.take (k - 0) (List.drop 0 (encVs ((stL (Sch.mk k1 i1) (c1 ++ c2) ((c1 ++ c2).zip (w1 ++ w2)) i).map (·.2))))).length + 1 + (List.take ((encVs ((stL (Sch.mk k1 i1) (c1 ++ c2) ((c1 ++ c2).zip (w1 ++ w2)) i).map (·.2))).length - k) (List.drop k (encVs ((stL (Sch.mk k1 i1) (c1 ++ c2) ((c1 ++ c2).zip (w1 ++ w2)) i).map (·.2))))).length) (flat (List.take (k - 0) (List.drop 0 (encVs ((stL (Sch.mk k1 i1) (c1 ++ c2) ((c1 ++ c2).zip (w1 ++ w2)) i).map (·.2))))) ++ flat [encV (Val.mk vn vm vs_ vc vw)] ++ flat (List.take ((encVs ((stL (Sch.mk k1 i1) (c1 ++ c2) ((c1 ++ c2).zip (w1 ++ w2)) i).map (·.2))).length - k) (List.drop k (encVs ((stL (Sch.mk k1 i1) (c1 ++ c2) ((c1 ++ c2).zip (w1 ++ w2)) i).map (·.2))))))]))] mo (by decide) rfl rfl rfl rfl ?_
        refine zS rfl rfl (.cons (zE rfl rfl zF1 ⟨rfl, rfl⟩) (.cons (zE rfl rfl zF1 ⟨rfl, rfl⟩) (.cons (zE rfl rfl zF1 ⟨rfl, rfl⟩) (.cons (zE rfl rfl zF1 ⟨rfl, rfl⟩) (.nil))))) <| zS rfl rfl (.cons (zD0 rfl rfl rfl ta28 rfl ⟨rfl, rfl⟩) (.cons (zD0 rfl rfl rfl ta28 rfl ⟨rfl, rfl⟩) (.cons (zD0 rfl rfl rfl ta28 rfl ⟨rfl, rfl⟩) (.cons (zD0 rfl rfl rfl ta28 rfl ⟨rfl, rfl⟩) (.nil))))) <| zS rfl rfl (.cons (zV rfl rfl ⟨rfl, rfl⟩) (.cons (zV rfl rfl ⟨rfl, rfl⟩) (.cons (zV rfl rfl ⟨rfl, rfl⟩) (.cons (zV rfl rfl ⟨rfl, rfl⟩) (.nil))))) <| dO rfl rfl rfl (zP1 rfl zO sz30 rfl .none (.some rfl rfl) (by first | omega | (simp only [zC, zR]; omega)) (by first | omega | (simp only [zC, zR]; omega)) ⟨rfl, rfl⟩) ?_
        refine zX0 rfl rfl rfl rfl (op_append0_owL (k := ((R ++ [MObj.row 60 1 ((List.take (k - 0) (List.drop 0 (((stL (Sch.mk k1 i1) (c1 ++ c2) ((c1 ++ c2).zip (w1 ++ w2)) i).map (·.1)).map encC))).length + 1 + (List.take ((((stL (Sch.mk k1 i1) (c1 ++ c2) ((c1 ++ c2).zip (w1 ++ w2)) i).map (·.1)).map encC).length - k) (List.drop k (((stL (Sch.mk k1 i1) (c1 ++ c2) ((c1 ++ c2).zip (w1 ++ w2)) i).map (·.1)).map encC))).length)]).set p (MObj.row 30 5 (stL (Sch.mk k1 i1) (c1 ++ c2) ((c1 ++ c2).zip (w1 ++ w2)) i).length)).length + 7) rfl zO el30 rfl rfl (by simp only [List.length_take, List.length_drop, zC, zY, List.length_nil, zN, zR]; omega) (by simp only [List.length_take, List.length_drop, zC, zY, List.length_nil, zN, zR]; omega) rfl rfl ⟨rfl, rfl⟩) ?_
        refine zS rfl rfl (.cons (zV rfl rfl ⟨rfl, rfl⟩) (.cons (zV rfl rfl ⟨rfl, rfl⟩) (.cons (zV rfl rfl ⟨rfl, rfl⟩) (.cons (zV rfl rfl ⟨rfl, rfl⟩) (.nil))))) <| zS rfl rfl (.cons (zV rfl rfl ⟨rfl, rfl⟩) (.cons (zV rfl rfl ⟨rfl, rfl⟩) (.cons (zV rfl rfl ⟨rfl, rfl⟩) (.cons (zV rfl rfl ⟨rfl, rfl⟩) (.nil))))) <| zS rfl rfl (.cons (zG rfl zO sz30 (by decide) rfl rfl rfl (zZ1 hs3) ⟨rfl, rfl⟩) (.cons (zG rfl zO sz30 (by decide) rfl rfl rfl (zZ1 hs3) ⟨rfl, rfl⟩) (.cons (zG rfl zO sz30 (by decide) rfl rfl rfl (zZ1 hs3) ⟨rfl, rfl⟩) (.cons (zG rfl zO sz30 (by decide) rfl rfl rfl (zZ1 hs3) ⟨rfl, rfl⟩) (.nil))))) ?_
        refine zS rfl rfl (.cons (zH rfl rfl ta30 rfl ⟨rfl, rfl⟩) (.cons (zH rfl rfl ta30 rfl ⟨rfl, rfl⟩) (.cons (zH rfl rfl ta30 rfl ⟨rfl, rfl⟩) (.cons (zH rfl rfl ta30 rfl ⟨rfl, rfl⟩) (.nil))))) <| zS rfl rfl (.cons (zC1 rfl zO el30 rfl rfl (by decide) (by decide) rfl rfl ⟨rfl, rfl⟩) (.cons (zC1 rfl zO el30 rfl rfl (by decide) (by decide) rfl rfl ⟨rfl, rfl⟩) (.nil))) ?_
        refine zX0 rfl rfl rfl rfl (op_append_owL rfl zO el30 rfl rfl end7 (by simp only [List.length_take, List.length_drop, zC, zY, List.length_nil, zN, zR]; omega) (by simp only [List.length_take, List.length_drop, zC, zY, List.length_nil, zN, zR]; omega) set7 ⟨rfl, rfl⟩) ?_
        refine zS rfl rfl (.cons (zE rfl rfl zF1 ⟨rfl, rfl⟩) (.cons (zE rfl rfl zF1 ⟨rfl, rfl⟩) (.cons (zE rfl rfl zF1 ⟨rfl, rfl⟩) (.cons (zE rfl rfl zF1 ⟨rfl, rfl⟩) (.nil))))) <| zS rfl rfl (.cons (zD0 rfl rfl rfl ta28 rfl ⟨rfl, rfl⟩) (.cons (zD0 rfl rfl rfl ta28 rfl ⟨rfl, rfl⟩) (.cons (zD0 rfl rfl rfl ta28 rfl ⟨rfl, rfl⟩) (.cons (zD0 rfl rfl rfl ta28 rfl ⟨rfl, rfl⟩) (.nil))))) <| zS rfl rfl (.cons (zV rfl rfl ⟨rfl, rfl⟩) (.cons (zV rfl rfl ⟨rfl, rfl⟩) (.cons (zV rfl rfl ⟨rfl, rfl⟩) (.cons (zV rfl rfl ⟨rfl, rfl⟩) (.nil))))) <| zS rfl rfl (.cons (zP1 rfl zO sz30 rfl (.some rfl rfl) .none (by first | omega | (simp only [zC, zR]; omega)) (by first | omega | (simp only [zC, zR]; omega)) ⟨rfl, rfl⟩) (.cons (zP1 rfl zO sz30 rfl (.some rfl rfl) .none (by first | omega | (simp only [zC, zR]; omega)) (by first | omega | (simp only [zC, zR]; omega)) ⟨rfl, rfl⟩) (.cons (zP1 rfl zO sz30 rfl (.some rfl rfl) .none (by first | omega | (simp only [zC, zR]; omega)) (by first | omega | (simp only [zC, zR]; omega)) ⟨rfl, rfl⟩) (.nil)))) ?_
        refine zX0 rfl rfl rfl rfl (op_append_owL rfl zO el30 rfl rfl end7 (by simp only [List.length_take, List.length_drop, zC, zY, List.length_nil, zN, zR]; omega) (by simp only [List.length_take, List.length_drop, zC, zY, List.length_nil, zN, zR]; omega) set7 ⟨rfl, rfl⟩) ?_
        refine dO rfl rfl rfl (zE rfl rfl zF1 ⟨rfl, rfl⟩) <| zX0 rfl rfl rfl rfl (zH0 rfl rfl rfl rfl sz28 rfl rfl (zA rfl) rfl ⟨rfl, rfl⟩) <| zL0 <| qR rfl <| qM rfl rfl rfl <| qO rfl <| zY0 rfl rfl rfl rfl <| qA rfl rfl rfl <| qN ?_
        have hR3 : (((R ++ [MObj.row 60 1 ((List.take (k - 0) (List.drop 0 (((stL (Sch.mk k1 i1) (c1 ++ c2) ((c1 ++ c2).zip (w1 ++ w2)) i).map (·.1)).map encC))).length + 1 + (List.take ((((stL (Sch.mk k1 i1) (c1 ++ c2) ((c1 ++ c2).zip (w1 ++ w2)) i).map (·.1)).map encC).length - k) (List.drop k (((stL (Sch.mk k1 i1) (c1 ++ c2) ((c1 ++ c2).zip (w1 ++ w2)) i).map (·.1)).map encC))).length)]).set p (MObj.row 30 5 (stL (Sch.mk k1 i1) (c1 ++ c2) ((c1 ++ c2).zip (w1 ++ w2)) i).length)) ++ [MObj.orow 30 5 ((List.take (k - 0) (List.drop 0 (encVs ((stL (Sch.mk k1 i1) (c1 ++ c2) ((c1 ++ c2).zip (w1 ++ w2)) i).map (·.2))))).length + 1 + (List.take ((encVs ((stL (Sch.mk k1 i1) (c1 ++ c2) ((c1 ++ c2).zip (w1 ++ w2)) i).map (·.2))).length - k) (List.drop k (encVs ((stL (Sch.mk k1 i1) (c1 ++ c2) ((c1 ++ c2).zip (w1 ++ w2)) i).map (·.2))))).length) (flat (List.take (k - 0) (List.drop 0 (encVs ((stL (Sch.mk k1 i1) (c1 ++ c2) ((c1 ++ c2).zip (w1 ++ w2)) i).map (·.2))))) ++ flat [encV (Val.mk vn vm vs_ vc vw)] ++ flat (List.take ((encVs ((stL (Sch.mk k1 i1) (c1 ++ c2) ((c1 ++ c2).zip (w1 ++ w2)) i).map (·.2))).length - k) (List.drop k (encVs ((stL (Sch.mk k1 i1) (c1 ++ c2) ((c1 ++ c2).zip (w1 ++ w2)) i).map (·.2))))))])[((R ++ [MObj.row 60 1 ((List.take (k - 0) (List.drop 0 (((stL (Sch.mk k1 i1) (c1 ++ c2) ((c1 ++ c2).zip (w1 ++ w2)) i).map (·.1)).map encC))).length + 1 + (List.take ((((stL (Sch.mk k1 i1) (c1 ++ c2) ((c1 ++ c2).zip (w1 ++ w2)) i).map (·.1)).map encC).length - k) (List.drop k (((stL (Sch.mk k1 i1) (c1 ++ c2) ((c1 ++ c2).zip (w1 ++ w2)) i).map (·.1)).map encC))).length)]).set p (MObj.row 30 5 (stL (Sch.mk k1 i1) (c1 ++ c2) ((c1 ++ c2).zip (w1 ++ w2)) i).length)).length]? = some (MObj.orow 30 5 (stL (Sch.mk k1 i1) (c1 ++ c2) ((c1 ++ c2).zip (w1 ++ w2)) (i + 1)).length (flat (encVs ((stL (Sch.mk k1 i1) (c1 ++ c2) ((c1 ++ c2).zip (w1 ++ w2)) (i + 1)).map (·.2))))) := by
         rw [hvv, ← hln]
         simp
        refine ⟨⟨i + 1, _, _⟩, by dsimp only; omega, ⟨by dsimp only; omega, hR3⟩, by dsimp only; rw [hln], (.keep rfl (.keep rfl (.keep rfl (.nil)))), (.keep rfl (.keep rfl (.eq rfl (by rw [okL_succ hsL, hokc, Bool.and_true]) (.eq rfl (zM1 hlt (by simp only [maxLen]; omega)) (.nil)))))⟩
      ·
       have hgk : k = (stL (Sch.mk k1 i1) (c1 ++ c2) ((c1 ++ c2).zip (w1 ++ w2)) i).length := by rw [zC, zC] at h110; have := zW2 h110; omega
       have hend : ∀ x, (stL (Sch.mk k1 i1) (c1 ++ c2) ((c1 ++ c2).zip (w1 ++ w2)) i)[k]? = some x → aheadF x.1 ci = false := fun x hx => by have := (zI.1 hx).1; omega
       refine dS rfl rfl <| dS rfl rfl <| dS rfl rfl <| dS rfl rfl <| dS rfl rfl <| dS rfl rfl <| dS rfl rfl <| dS rfl rfl <| dS rfl rfl <| dS rfl rfl <| dO rfl rfl rfl (zE1 rfl rfl rfl ⟨rfl, rfl⟩) <| zL0 <| zL rfl (rfl) <| zN1 <| zB ?_
       refine zU0 [4, 10, 15, 17] [_, S ++ (.cells (encS (.mk 8 [.mk k1 i1])).cells :: .cells (encV (.mk 0 0 [] c1 w1)).cells :: .cells (encV (.mk 0 0 [] c2 w2)).cells :: .cells [.int .u64 0, .int .u64 0, .lst0, .lst0, .lst0] :: .row 60 1 ((c1.map encC).length + (c2.map encC).length) :: .row 30 5 ((encVs w1).length + (encVs w2).length) :: .cells [.int .u64 0, .int .u64 0, .lst0, .lst none 1 (((stL (Sch.mk k1 i1) (c1 ++ c2) ((c1 ++ c2).zip (w1 ++ w2)) i).map (·.1)).map encC), .ow (S.length + (p + 7)) 5 (stL (Sch.mk k1 i1) (c1 ++ c2) ((c1 ++ c2).zip (w1 ++ w2)) i).length] :: (R ++ [MObj.row 60 1 ((List.take (k - 0) (List.drop 0 (((stL (Sch.mk k1 i1) (c1 ++ c2) ((c1 ++ c2).zip (w1 ++ w2)) i).map (·.1)).map encC))).length)])), S ++ (.cells (encS (.mk 8 [.mk k1 i1])).cells :: .cells (encV (.mk 0 0 [] c1 w1)).cells :: .cells (encV (.mk 0 0 [] c2 w2)).cells :: .cells [.int .u64 0, .int .u64 0, .lst0, .lst0, .lst0] :: .row 60 1 ((c1.map encC).length + (c2.map encC).length) :: .row 30 5 ((encVs w1).length + (encVs w2).length) :: .cells [.int .u64 0, .int .u64 0, .lst0, .lst none 1 (((stL (Sch.mk k1 i1) (c1 ++ c2) ((c1 ++ c2).zip (w1 ++ w2)) i).map (·.1)).map encC), .ow (S.length + (p + 7)) 5 (stL (Sch.mk k1 i1) (c1 ++ c2) ((c1 ++ c2).zip (w1 ++ w2)) i).length] :: (R ++ [MObj.row 60 1 ((List.take (k - 0) (List.drop 0 (((stL (Sch.mk k1 i1) (c1 ++ c2) ((c1 ++ c2).zip (w1 ++ w2)) i).map (·.1)).map encC))).length + 1)])), S ++ (.cells (encS (.mk 8 [.mk k1 i1])).cells :: .cells (encV (.mk 0 0 [] c1 w1)).cells :: .cells (encV (.mk 0 0 [] c2 w2)).cells :: .cells [.int .u64 0, .int .u64 0, .lst0, .lst0, .lst0] :: .row 60 1 ((c1.map encC).length + (c2.map encC).length) :: .row 30 5 ((encVs w1).length + (encVs w2).length) :: .cells [.int .u64 0, .int .u64 0, .lst0, .lst none 1 (((stL (Sch.mk k1 i1) (c1 ++ c2) ((c1 ++ c2).zip (w1 ++ w2)) i).map (·.1)).map encC), .ow (S.length + (p + 7)) 5 (stL (Sch.mk k1 i1) (c1 ++ c2) ((c1 ++ c2).zip (w1 ++ w2)) i).length] :: (R ++ [MObj.row 60 1 ((List.take (k - 0) (List.drop 0 (((stL (Sch.mk k1 i1) (c1 ++ c2) ((c1 ++ c2).zip (w1 ++ w2)) i).map (·.1)).map encC))).length + 1 + (List.take ((((stL (Sch.mk k1 i1) (c1 ++ c2) ((c1 ++ c2).zip (w1 ++ w2)) i).map (·.1)).map encC).length - k) (List.drop k (((stL (Sch.mk k1 i1) (c1 ++ c2) ((c1 ++ c2).zip (w1 ++ w2)) i).map (·.1)).map encC))).length)])), S ++ (.cells (encS (.mk 8 [.mk k1 i1])).cells :: .cells (encV (.mk 0 0 [] c1 w1)).cells :: .cells (encV (.mk 0 0 [] c2 w2)).cells :: .cells [.int .u64 0, .int .u64 0, .lst0, .lst0, .lst0] :: .row 60 1 ((c1.map encC).length + (c2.map encC).length) :: .row 30 5 ((encVs w1).length + (encVs w2).length) :: .cells [.int .u64 0, .int .u64 0, .lst0, .lst (some (S.length + (R.length + 7))) 1 ((List.take (k - 0) (List.drop 0 (((stL (Sch.mk k1 i1) (c1 ++ c2) ((c1 ++ c2).zip (w1 ++ w2)) i).map (·.1)).map encC))) ++ [encC ci] ++ (List.take ((((stL (Sch.mk k1 i1) (c1 ++ c2) ((c1 ++ c2).zip (w1 ++ w2)) i).map (·.1)).map encC).length - k) (List.drop k (((stL (Sch.mk k1 i1) (c1 ++ c2) ((c1 ++ c2).zip (w1 ++ w2)) i).map (·.1)).map encC)))), .ow (S.length + (p + 7)) 5 (stL (Sch.mk k1 i1) (c1 ++ c2) ((c1 ++ c2).zip (w1 ++ w2)) i).length] :: (R ++ [MObj.row 60 1 ((List.take (k - 0) (List.drop 0 (((stL (Sch.mk k1 i1) (c1 ++ c2) ((c1 ++ c2).zip (w1 ++ w2)) i).map (·.1)).map encC))).length + 1 + (List.take ((((stL (Sch.mk k1 i1) (c1 ++ c2) ((c1 ++ c2).zip (w1 ++ w2)) i).map (·.1)).map encC).length - k) (List.drop k (((stL (Sch.mk k1 i1) (c1 ++ c2) ((c1 ++ c2).zip (w1 ++ w2)) i).map (·.1)).map encC))).length)]))] mo (by decide) rfl rfl rfl rfl ?_
       refine zS rfl rfl (.cons (zE rfl rfl zI1 ⟨rfl, rfl⟩) (.cons (zE rfl rfl zI1 ⟨rfl, rfl⟩) (.cons (zE rfl rfl zI1 ⟨rfl, rfl⟩) (.cons (zE rfl rfl zI1 ⟨rfl, rfl⟩) (.nil))))) <| zS rfl rfl (.cons (zD0 rfl rfl rfl ta27 rfl ⟨rfl, rfl⟩) (.cons (zD0 rfl rfl rfl ta27 rfl ⟨rfl, rfl⟩) (.cons (zD0 rfl rfl rfl ta27 rfl ⟨rfl, rfl⟩) (.cons (zD0 rfl rfl rfl ta27 rfl ⟨rfl, rfl⟩) (.nil))))) <| zS rfl rfl (.cons (zV rfl rfl ⟨rfl, rfl⟩) (.cons (zV rfl rfl ⟨rfl, rfl⟩) (.cons (zV rfl rfl ⟨rfl, rfl⟩) (.cons (zV rfl rfl ⟨rfl, rfl⟩) (.nil))))) <| dO rfl rfl rfl (zP1 rfl zM sz60 rfl .none (.some rfl rfl) (by first | omega | (simp only [zC, zR]; omega)) (by first | omega | (simp only [zC, zR]; omega)) ⟨rfl, rfl⟩) ?_
       refine zX0 rfl rfl rfl rfl (zA5 (k := R.length + 7) rfl zM el60 rfl rfl (by simp only [List.length_take, List.length_drop, zC, zY, List.length_nil, zN]; omega) (by simp only [List.length_take, List.length_drop, zC, zY, List.length_nil, zN]; omega) rfl rfl ⟨rfl, rfl⟩) ?_
       refine zS rfl rfl (.cons (zV rfl rfl ⟨rfl, rfl⟩) (.cons (zV rfl rfl ⟨rfl, rfl⟩) (.cons (zV rfl rfl ⟨rfl, rfl⟩) (.cons (zV rfl rfl ⟨rfl, rfl⟩) (.nil))))) <| zS rfl rfl (.cons (zV rfl rfl ⟨rfl, rfl⟩) (.cons (zV rfl rfl ⟨rfl, rfl⟩) (.cons (zV rfl rfl ⟨rfl, rfl⟩) (.cons (zV rfl rfl ⟨rfl, rfl⟩) (.nil))))) <| zS rfl rfl (.cons (zG rfl zM sz60 (by decide) rfl rfl rfl (zV0 hs) ⟨rfl, rfl⟩) (.cons (zG rfl zM sz60 (by decide) rfl rfl rfl (zV0 hs) ⟨rfl, rfl⟩) (.cons (zG rfl zM sz60 (by decide) rfl rfl rfl (zV0 hs) ⟨rfl, rfl⟩) (.cons (zG rfl zM sz60 (by decide) rfl rfl rfl (zV0 hs) ⟨rfl, rfl⟩) (.nil))))) ?_
       refine zS rfl rfl (.cons (zH rfl rfl ta60 rfl ⟨rfl, rfl⟩) (.cons (zH rfl rfl ta60 rfl ⟨rfl, rfl⟩) (.cons (zH rfl rfl ta60 rfl ⟨rfl, rfl⟩) (.cons (zH rfl rfl ta60 rfl ⟨rfl, rfl⟩) (.nil))))) <| zS rfl rfl (.cons (zC1 rfl zM el60 rfl rfl (by decide) (by decide) rfl rfl ⟨rfl, rfl⟩) (.cons (zC1 rfl zM el60 rfl rfl (by decide) (by decide) rfl rfl ⟨rfl, rfl⟩) (.nil))) ?_
       refine zX0 rfl rfl rfl rfl (zC2 rfl zM el60 rfl rfl end7 rfl (by simp only [List.length_take, List.length_drop, zC, zY, List.length_nil, zN]; omega) (by simp only [List.length_take, List.length_drop, zC, zY, List.length_nil, zN]; omega) set7 ⟨rfl, rfl⟩) ?_
       refine zS rfl rfl (.cons (zE rfl rfl zI1 ⟨rfl, rfl⟩) (.cons (zE rfl rfl zI1 ⟨rfl, rfl⟩) (.cons (zE rfl rfl zI1 ⟨rfl, rfl⟩) (.cons (zE rfl rfl zI1 ⟨rfl, rfl⟩) (.nil))))) <| zS rfl rfl (.cons (zD0 rfl rfl rfl ta27 rfl ⟨rfl, rfl⟩) (.cons (zD0 rfl rfl rfl ta27 rfl ⟨rfl, rfl⟩) (.cons (zD0 rfl rfl rfl ta27 rfl ⟨rfl, rfl⟩) (.cons (zD0 rfl rfl rfl ta27 rfl ⟨rfl, rfl⟩) (.nil))))) <| zS rfl rfl (.cons (zV rfl rfl ⟨rfl, rfl⟩) (.cons (zV rfl rfl ⟨rfl, rfl⟩) (.cons (zV rfl rfl ⟨rfl, rfl⟩) (.cons (zV rfl rfl ⟨rfl, rfl⟩) (.nil))))) <| zS rfl rfl (.cons (zP1 rfl zM sz60 rfl (.some rfl rfl) .none (by first | omega | (simp only [zC, zR]; omega)) (by first | omega | (simp only [zC, zR]; omega)) ⟨rfl, rfl⟩) (.cons (zP1 rfl zM sz60 rfl (.some rfl rfl) .none (by first | omega | (simp only [zC, zR]; omega)) (by first | omega | (simp only [zC, zR]; omega)) ⟨rfl, rfl⟩) (.cons (zP1 rfl zM sz60 rfl (.some rfl rfl) .none (by first | omega | (simp only [zC, zR]; omega)) (by first | omega | (simp only [zC, zR]; omega)) ⟨rfl, rfl⟩) (.nil)))) ?_
       refine zX0 rfl rfl rfl rfl (zC2 rfl zM el60 rfl rfl end7 (by simp only [zN, zY, List.length_nil]) (by simp only [List.length_take, List.length_drop, zC, zY, List.length_nil, zN]; omega) (by simp only [List.length_take, List.length_drop, zC, zY, List.length_nil, zN]; omega) set7 ⟨rfl, rfl⟩) ?_
       refine dO rfl rfl rfl (zE rfl rfl zI1 ⟨rfl, rfl⟩) <| zX0 rfl rfl rfl rfl (zH0 rfl rfl rfl rfl sz27 rfl rfl (zA rfl) rfl ⟨rfl, rfl⟩) <| zL0 ?_
       have hst : (stL (Sch.mk k1 i1) (c1 ++ c2) ((c1 ++ c2).zip (w1 ++ w2)) (i + 1)) = (stL (Sch.mk k1 i1) (c1 ++ c2) ((c1 ++ c2).zip (w1 ++ w2)) i).take k ++ (ci, (Val.mk vn vm vs_ vc vw)) :: (stL (Sch.mk k1 i1) (c1 ++ c2) ((c1 ++ c2).zip (w1 ++ w2)) i).drop k := (stL_succ hsL).trans (step_ins hnb hni hah hk hend)
       have hokc : okC1 (okJ (Sch.mk k1 i1)) (c1 ++ c2) (stL (Sch.mk k1 i1) (c1 ++ c2) ((c1 ++ c2).zip (w1 ++ w2)) i) (ci, (Val.mk vn vm vs_ vc vw)) = true := by
        unfold okC1
        rw [show look (stL (Sch.mk k1 i1) (c1 ++ c2) ((c1 ++ c2).zip (w1 ++ w2)) i) (ci, (Val.mk vn vm vs_ vc vw)).1 = none from zE3 fun h => hni (zQ3.1 h)]
        simp
       have hcc : (List.take (k - 0) (List.drop 0 (((stL (Sch.mk k1 i1) (c1 ++ c2) ((c1 ++ c2).zip (w1 ++ w2)) i).map (·.1)).map encC))) ++ [encC ci] ++ (List.take ((((stL (Sch.mk k1 i1) (c1 ++ c2) ((c1 ++ c2).zip (w1 ++ w2)) i).map (·.1)).map encC).length - k) (List.drop k (((stL (Sch.mk k1 i1) (c1 ++ c2) ((c1 ++ c2).zip (w1 ++ w2)) i).map (·.1)).map encC))) = ((stL (Sch.mk k1 i1) (c1 ++ c2) ((c1 ++ c2).zip (w1 ++ w2)) (i + 1)).map (·.1)).map encC := by
        rw [hst]
        simp [List.take_of_length_le]
       have hvv : flat (List.take (k - 0) (List.drop 0 (encVs ((stL (Sch.mk k1 i1) (c1 ++ c2) ((c1 ++ c2).zip (w1 ++ w2)) i).map (·.2))))) ++ flat [encV (Val.mk vn vm vs_ vc vw)] ++ flat (List.take ((encVs ((stL (Sch.mk k1 i1) (c1 ++ c2) ((c1 ++ c2).zip (w1 ++ w2)) i).map (·.2))).length - k) (List.drop k (encVs ((stL (Sch.mk k1 i1) (c1 ++ c2) ((c1 ++ c2).zip (w1 ++ w2)) i).map (·.2))))) = flat (encVs ((stL (Sch.mk k1 i1) (c1 ++ c2) ((c1 ++ c2).zip (w1 ++ w2)) (i + 1)).map (·.2))) := by
        rw [hst, ← zY5, ← zY5]
        congr 1
        simp [zJ4, List.take_of_length_le]
       have hln : (stL (Sch.mk k1 i1) (c1 ++ c2) ((c1 ++ c2).zip (w1 ++ w2)) (i + 1)).length = (List.take (k - 0) (List.drop 0 (encVs ((stL (Sch.mk k1 i1) (c1 ++ c2) ((c1 ++ c2).zip (w1 ++ w2)) i).map (·.2))))).length + 1 + (List.take ((encVs ((stL (Sch.mk k1 i1) (c1 ++ c2) ((c1 ++ c2).zip (w1 ++ w2)) i).map (·.2))).length - k) (List.drop k (encVs ((stL (Sch.mk k1 i1) (c1 ++ c2) ((c1 ++ c2).zip (w1 ++ w2)) i).map (·.2))))).length := by
        rw [hst]
        simp [zR]
        omega
       have hpl := (zI.1 hR).1
       refine mwp_cellsub (L' := (.cells (encS (.mk 8 [.mk k1 i1])).cells :: .cells (encV (.mk 0 0 [] c1 w1)).cells :: .cells (encV (.mk 0 0 [] c2 w2)).cells :: .cells [.int .u64 0, .int .u64 0, .lst0, .lst0, .lst0] :: .row 60 1 ((c1.map encC).length + (c2.map encC).length) :: .row 30 5 ((encVs w1).length + (encVs w2).length) :: .cells [.int .u64 0, .int .u64 0, .lst0, .lst none 1 (((stL (Sch.mk k1 i1) (c1 ++ c2) ((c1 ++ c2).zip (w1 ++ w2)) (i + 1)).map (·.1)).map encC), .ow (S.length + (p + 7)) 5 (stL (Sch.mk k1 i1) (c1 ++ c2) ((c1 ++ c2).zip (w1 ++ w2)) i).length] :: (R ++ [MObj.row 60 1 ((List.take (k - 0) (List.drop 0 (((stL (Sch.mk k1 i1) (c1 ++ c2) ((c1 ++ c2).zip (w1 ++ w2)) i).map (·.1)).map encC))).length + 1 + (List.take ((((stL (Sch.mk k1 i1) (c1 ++ c2) ((c1 ++ c2).zip (w1 ++ w2)) i).map (·.1)).map encC).length - k) (List.drop k (((stL (Sch.mk k1 i1) (c1 ++ c2) ((c1 ++ c2).zip (w1 ++ w2)) i).map (·.1)).map encC))).length)]))) 6 rfl (.cons (.refl _) (.cons (.refl _) (.cons (.refl _) (.cons (Sub.trans (.view _ _ _) (.of_eq (by rw [hcc]))) (.cons (.refl _) .nil))))) rfl ?_
       refine mwp_owfreezeL (L' := (.cells (encS (.mk 8 [.mk k1 i1])).cells :: .cells (encV (.mk 0 0 [] c1 w1)).cells :: .cells (encV (.mk 0 0 [] c2 w2)).cells :: .cells [.int .u64 0, .int .u64 0, .lst0, .lst0, .lst0] :: .row 60 1 ((c1.map encC).length + (c2.map encC).length) :: .row 30 5 ((encVs w1).length + (encVs w2).length) :: .cells [.int .u64 0, .int .u64 0, .lst0, .lst none 1 (((stL (Sch.mk k1 i1) (c1 ++ c2) ((c1 ++ c2).zip (w1 ++ w2)) (i + 1)).map (·.1)).map encC), .lst (some (S.length + (p + 7))) 5 (encVs ((stL (Sch.mk k1 i1) (c1 ++ c2) ((c1 ++ c2).zip (w1 ++ w2)) i).map (·.2)))] :: ((R ++ [MObj.row 60 1 ((List.take (k - 0) (List.drop 0 (((stL (Sch.mk k1 i1) (c1 ++ c2) ((c1 ++ c2).zip (w1 ++ w2)) i).map (·.1)).map encC))).length + 1 + (List.take ((((stL (Sch.mk k1 i1) (c1 ++ c2) ((c1 ++ c2).zip (w1 ++ w2)) i).map (·.1)).map encC).length - k) (List.drop k (((stL (Sch.mk k1 i1) (c1 ++ c2) ((c1 ++ c2).zip (w1 ++ w2)) i).map (·.1)).map encC))).length)]).set p (MObj.row 30 5 (stL (Sch.mk k1 i1) (c1 ++ c2) ((c1 ++ c2).zip (w1 ++ w2)) i).length)))) 6 4 (p + 7) (xs := encVs ((stL (Sch.mk k1 i1) (c1 ++ c2) ((c1 ++ c2).zip (w1 ++ w2)) i).map (·.2))) rfl rfl (get7a hR) rfl (by rw [zR, zC]) zX5 encVs_one rfl ?_
       refine zU0 [4, 10, 15, 17] [_, S ++ (.cells (encS (.mk 8 [.mk k1 i1])).cells :: .cells (encV (.mk 0 0 [] c1 w1)).cells :: .cells (encV (.mk 0 0 [] c2 w2)).cells :: .cells [.int .u64 0, .int .u64 0, .lst0, .lst0, .lst0] :: .row 60 1 ((c1.map encC).length + (c2.map encC).length) :: .row 30 5 ((encVs w1).length + (encVs w2).length) :: .cells [.int .u64 0, .int .u64 0, .lst0, .lst none 1 (((stL (Sch.mk k1 i1) (c1 ++ c2) ((c1 ++ c2).zip (w1 ++ w2)) (i + 1)).map (·.1)).map encC), .lst (some (S.length + (p + 7))) 5 (encVs ((stL (Sch.mk k1 i1) (c1 ++ c2) ((c1 ++ c2).zip (w1 ++ w2)) i).map (·.2)))] :: (((R ++ [MObj.row 60 1 ((List.take (k - 0) (List.drop 0 (((stL (Sch.mk k1 i1) (c1 ++ c2) ((c1 ++ c2).zip (w1 ++ w2)) i).map (·.1)).map encC))).length + 1 + (List.take ((((stL (Sch.mk k1 i1) (c1 ++ c2) ((c1 ++ c2).zip (w1 ++ w2)) i).map (·.1)).map encC).length - k) (List.drop k (((stL (Sch.mk k1 i1) (c1 ++ c2) ((c1 ++ c2).zip (w1 ++ w2)) i).map (·.1)).map encC))).length)]).set p (MObj.row 30 5 (stL (Sch.mk k1 i1) (c1 ++ c2) ((c1 ++ c2).zip (w1 ++ w2)) i).length)) ++ [MObj.orow 30 5 ((List.take (k - 0) (List.drop 0 (encVs ((stL (Sch.mk k1 i1) (c1 ++ c2) ((c1 ++ c2).zip (w1 ++ w2)) i).map (·.2))))).length) (flat (List.take (k - 0) (List.drop 0 (encVs ((stL (Sch.mk k1 i1) (c1 ++ c2) ((c1 ++ c2).zip (w1 ++ w2)) i).map (·.2))))))])), S ++ (.cells (encS (.mk 8 [.mk k1 i1])).cells :: .cells (encV (.mk 0 0 [] c1 w1)).cells :: .cells (encV (.mk 0 0 [] c2 w2)).cells :: .cells [.int .u64 0, .int .u64 0, .lst0, .lst0, .lst0] :: .row 60 1 ((c1.map encC).length + (c2.map encC).length) :: .row 30 5 ((encVs w1).length + (encVs w2).length) :: .cells [.int .u64 0, .int .u64 0, .lst0, .lst none 1 (((stL (Sch.mk k1 i1) (c1 ++ c2) ((c1 ++ c2).zip (w1 ++ w2)) (i + 1)).map (·.1)).map encC), .lst (some (S.length + (p + 7))) 5 (encVs ((stL (Sch.mk k1 i1) (c1 ++ c2) ((c1 ++ c2).zip (w1 ++ w2)) i).map (·.2)))] :: (((R ++ [MObj.row 60 1 ((List.take (k - 0) (List.drop 0 (((stL (Sch.mk k1 i1) (c1 ++ c2) ((c1 ++ c2).zip (w1 ++ w2)) i).map (·.1)).map encC))).length + 1 + (List.take ((((stL (Sch.mk k1 i1) (c1 ++ c2) ((c1 ++ c2).zip (w1 ++ w2)) i).map (·.1)).map encC).length - k) (List.drop k (((stL (Sch.mk k1 i1) (c1 ++ c2) ((c1 ++ c2).zip (w1 ++ w2)) i).map (·.1)).map encC))).length)]).set p (MObj.row 30 5 (stL (Sch.mk k1 i1) (c1 ++ c2) ((c1 ++ c2).zip (w1 ++ w2)) i).length)) ++ [MObj.orow 30 5 ((List.take (k - 0) (List.drop 0 (encVs ((stL (Sch.mk k1 i1) (c1 ++ c2) ((c1 ++ c2).zip (w1 ++ w2)) i).map (·.2))))).length + 1) (flat (List.take (k - 0) (List.drop 0 (encVs ((stL (Sch.mk k1 i1) (c1 ++ c2) ((c1 ++ c2).zip (w1 ++ w2)) i).map (·.2))))) ++ flat [encV (Val.mk vn vm vs_ vc vw)])])), S ++ (.cells (encS (.mk 8 [.mk k1 i1])).cells :: .cells (encV (.mk 0 0 [] c1 w1)).cells :: .cells (encV (.mk 0 0 [] c2 w2)).cells :: .cells [.int .u64 0, .int .u64 0, .lst0, .lst0, .lst0] :: .row 60 1 ((c1.map encC).length + (c2.map encC).length) :: .row 30 5 ((encVs w1).length + (encVs w2).length) :: .cells [.int .u64 0, .int .u64 0, .lst0, .lst none 1 (((stL (Sch.mk k1 i1) (c1 ++ c2) ((c1 ++ c2).zip (w1 ++ w2)) (i + 1)).map (·.1)).map encC), .lst (some (S.length + (p + 7))) 5 (encVs ((stL (Sch.mk k1 i1) (c1 ++ c2) ((c1 ++ c2).zip (w1 ++ w2)) i).map (·.2)))] :: (((R ++ [MObj.row 60 1 ((List.take (k - 0) (List.drop 0 (((stL (Sch.mk k1 i1) (c1 ++ c2) ((c1 ++ c2).zip (w1 ++ w2)) i).map (·.1)).map encC))).length + 1 + (List.take ((((stL (Sch.mk k1 i1) (c1 ++ c2) ((c1 ++ c2).zip (w1 ++ w2)) i).map (·.1)).map encC).length - k) (List.drop k (((stL (Sch.mk k1 i1) (c1 ++ c2) ((c1 ++ c2).zip (w1 ++ w2)) i).map (·.1)).map encC))).length)]).set p (MObj.row 30 5 (stL (Sch.mk k1 i1) (c1 ++ c2) ((c1 ++ c2).zip (w1 ++ w2)) i).length)) ++ [MObj.orow 30 5 ((List.take (k - 0) (List.drop 0 (encVs ((stL (Sch.mk k1 i1) (c1 ++ c2) ((c1 ++ c2).zip (w1 ++ w2)) i).map (·.2))))).length + 1 + (List.take ((encVs ((stL (Sch.mk k1 i1) (c1 ++ c2) ((c1 ++ c2).zip (w1 ++ w2)) i).map (·.2))).length - k) (List.drop k (encVs ((stL (Sch.mk k1 i1) (c1 ++ c2) ((c1 ++ c2).zip (w1 ++ w2)) i).map (·.2))))).length) (flat (List.take (k - 0) (List.drop 0 (encVs ((stL (Sch.mk k1 i1) (c1 ++ c2) ((c1 ++ c2).zip (w1 ++ w2)) i).map (·.2))))) ++ flat [encV (Val.mk vn vm vs_ vc vw)] ++ flat (List.take ((encVs ((stL (Sch.mk k1 i1) (c1 ++ c2) ((c1 ++ c2).zip (w1 ++ w2)) i).map (·.2))).length - k) (List.drop k (encVs ((stL (Sch.mk k1 i1) (c1 ++ c2) ((c1 ++ c2).zip (w1 ++ w2)) i).map (·.2))))))])), S ++ (.cells (encS (.mk 8 [.mk k1 i1])).cells :: .cells (encV (.mk 0 0 [] c1 w1)).cells :: .cells (encV (.mk 0 0 [] c2 w2)).cells :: .cells [.int .u64 0, .int .u64 0, .lst0, .lst0, .lst0] :: .row 60 1 ((c1.map encC).length + (c2.map encC).length) :: .row 30 5 ((encVs w1).length + (encVs w2).length) :: .cells [.int .u64 0, .int .u64 0, .lst0, .lst none 1 (((stL (Sch.mk k1 i1) (c1 ++ c2) ((c1 ++ c2).zip (w1 ++ w2)) (i + 1)).map (·.1)).map encC), .ow (S.length + (((R ++ [MObj.row 60 1 ((List.take (k - 0) (List.drop 0 (((stL (Sch.mk k1 i1) (c1 ++ c2) ((c1 ++ c2).zip (w1 ++ w2)) i).map (·.1)).map encC))).length + 1 + (List.take ((((stL (Sch.mk k1 i1) (c1 ++ c2) ((c1 ++ c2).zip (w1 ++ w2)) i).map (·.1)).map encC).length - k) (List.drop k (((stL (Sch.mk k1 i1) (c1 ++ c2) ((c1 ++ c2).zip (w1 ++ w2)) i).map (·.1)).map encC))).length)]).set p (MObj.row 30 5 (stL (Sch.mk k1 i1) (c1 ++ c2) ((c1 ++ c2).zip (w1 ++ w2)) i).length)).length + 7)) 5 ((List.take (k - 0) (List.drop 0 (encVs ((stL (Sch.mk k1 i1) (c1 ++ c2) ((c1 ++ c2).zip (w1 ++ w2)) i).map (·.2))))).length + 1 + (List.take ((encVs ((stL (Sch.mk k1 i1) (c1 ++ c2) ((c1 ++ c2).zip (w1 ++ w2)) i).map (·.2))).length - k) (List.drop k (encVs ((stL (Sch.mk k1 i1) (c1 ++ c2) ((c1 ++ c2).zip (w1 ++ w2)) i).map (·.2))))).length)] :: (((R ++ [MObj.row 60 1 ((List.take (k - 0) (List.drop 0 (((stL (Sch.mk k1 i1) (c1 ++ c2) ((c1 ++ c2).zip (w1 ++ w2)) i).map (·.1)).map encC))).length + 1 + (List.take ((((stL (Sch.mk k1 i1) (c1 ++ c2) ((c1 ++ c2).zip (w1 ++ w2)) i).map (·.1)).map encC).length - k) (List.drop k (((stL (Sch.mk k1 i1) (c1 ++ c2) ((c1 ++ c2).zip (w1 ++ w2)) i).map (·.1)).map encC))).length)]).set p (MObj.row 30 5 (stL (Sch.mk k1 i1) (c1 ++ c2) ((c1 ++ c2).zip (w1 ++ w2)) i).length)) ++ [MObj.orow 30 5 ((List.take (k - 0) (List.drop 0 (encVs ((stL (Sch.mk k1 i1) (c1 ++ c2) ((c1 ++ c2).zip (w1 ++ w2)) i).map (·.2))))).length + 1 + (List.take ((encVs ((stL (Sch.mk k1 i1) (c1 ++ c2) ((c1 ++ c2).zip (w1 ++ w2)) i).map (·.2))).length - k) (List.drop k (encVs ((stL (Sch.mk k1 i1) (c1 ++ c2) ((c1 ++ c2).zip (w1 ++ w2)) i).map (·.2))))).length) (flat (List.take (k - 0) (List.drop 0 (encVs ((stL (Sch.mk k1 i1) (c1 ++ c2) ((c1 ++ c2).zip (w1 ++ w2)) i).map (·.2))))) ++ flat [encV (Val.mk vn vm vs_ vc vw)] ++ flat (List.take ((encVs ((stL (Sch.mk k1 i1) (c1 ++ c2) ((c1 ++ c2).zip (w1 ++ w2)) i).map (·.2))).length - k) (List.drop k (encVs ((stL (Sch.mk k1 i1) (c1 ++ c2) ((c1 ++ c2).zip (w1 ++ w2)) i).map (·.2))))))]))] mo (by decide) rfl rfl rfl rfl ?_
       refine zS rfl rfl (.cons (zE rfl rfl zF1 ⟨rfl, rfl⟩) (.cons (zE rfl rfl zF1 ⟨rfl, rfl⟩) (.cons (zE rfl rfl zF1 ⟨rfl, rfl⟩) (.cons (zE rfl rfl zF1 ⟨rfl, rfl⟩) (.nil))))) <| zS rfl rfl (.cons (zD0 rfl rfl rfl ta28 rfl ⟨rfl, rfl⟩) (.cons (zD0 rfl rfl rfl ta28 rfl ⟨rfl, rfl⟩) (.cons (zD0 rfl rfl rfl ta28 rfl ⟨rfl, rfl⟩) (.cons (zD0 rfl rfl rfl ta28 rfl ⟨rfl, rfl⟩) (.nil))))) <| zS rfl rfl (.cons (zV rfl rfl ⟨rfl, rfl⟩) (.cons (zV rfl rfl ⟨rfl, rfl⟩) (.cons (zV rfl rfl ⟨rfl, rfl⟩) (.cons (zV rfl rfl ⟨rfl, rfl⟩) (.nil))))) <| dO rfl rfl rfl (zP1 rfl zO sz30 rfl .none (.some rfl rfl) (by first | omega | (simp only [zC, zR]; omega)) (by first | omega | (simp only [zC, zR]; omega)) ⟨rfl, rfl⟩) ?_
       refine zX0 rfl rfl rfl rfl (op_append0_owL (k := ((R ++ [MObj.row 60 1 ((List.take (k - 0) (List.drop 0 (((stL (Sch.mk k1 i1) (c1 ++ c2) ((c1 ++ c2).zip (w1 ++ w2)) i).map (·.1)).map encC))).length + 1 + (List.take ((((stL (Sch.mk k1 i1) (c1 ++ c2) ((c1 ++ c2).zip (w1 ++ w2)) i).map (·.1)).map encC).length - k) (List.drop k (((stL (Sch.mk k1 i1) (c1 ++ c2) ((c1 ++ c2).zip (w1 ++ w2)) i).map (·.1)).map encC))).length)]).set p (MObj.row 30 5 (stL (Sch.mk k1 i1) (c1 ++ c2) ((c1 ++ c2).zip (w1 ++ w2)) i).length)).length + 7) rfl zO el30 rfl rfl (by simp only [List.length_take, List.length_drop, zC, zY, List.length_nil, zN, zR]; omega) (by simp only [List.length_take, List.length_drop, zC, zY, List.length_nil, zN, zR]; omega) rfl rfl ⟨rfl, rfl⟩) ?_
       refine zS rfl rfl (.cons (zV rfl rfl ⟨rfl, rfl⟩) (.cons (zV rfl rfl ⟨rfl, rfl⟩) (.cons (zV rfl rfl ⟨rfl, rfl⟩) (.cons (zV rfl rfl ⟨rfl, rfl⟩) (.nil))))) <| zS rfl rfl (.cons (zV rfl rfl ⟨rfl, rfl⟩) (.cons (zV rfl rfl ⟨rfl, rfl⟩) (.cons (zV rfl rfl ⟨rfl, rfl⟩) (.cons (zV rfl rfl ⟨rfl, rfl⟩) (.nil))))) <| zS rfl rfl (.cons (zG rfl zO sz30 (by decide) rfl rfl rfl (zZ1 hs3) ⟨rfl, rfl⟩) (.cons (zG rfl zO sz30 (by decide) rfl rfl rfl (zZ1 hs3) ⟨rfl, rfl⟩) (.cons (zG rfl zO sz30 (by decide) rfl rfl rfl (zZ1 hs3) ⟨rfl, rfl⟩) (.cons (zG rfl zO sz30 (by decide) rfl rfl rfl (zZ1 hs3) ⟨rfl, rfl⟩) (.nil))))) ?_
       refine zS rfl rfl (.cons (zH rfl rfl ta30 rfl ⟨rfl, rfl⟩) (.cons (zH rfl rfl ta30 rfl ⟨rfl, rfl⟩) (.cons (zH rfl rfl ta30 rfl ⟨rfl, rfl⟩) (.cons (zH rfl rfl ta30 rfl ⟨rfl, rfl⟩) (.nil))))) <| zS rfl rfl (.cons (zC1 rfl zO el30 rfl rfl (by decide) (by decide) rfl rfl ⟨rfl, rfl⟩) (.cons (zC1 rfl zO el30 rfl rfl (by decide) (by decide) rfl rfl ⟨rfl, rfl⟩) (.nil))) ?_
       refine zX0 rfl rfl rfl rfl (op_append_owL rfl zO el30 rfl rfl end7 (by simp only [List.length_take, List.length_drop, zC, zY, List.length_nil, zN, zR]; omega) (by simp only [List.length_take, List.length_drop, zC, zY, List.length_nil, zN, zR]; omega) set7 ⟨rfl, rfl⟩) ?_
       refine zS rfl rfl (.cons (zE rfl rfl zF1 ⟨rfl, rfl⟩) (.cons (zE rfl rfl zF1 ⟨rfl, rfl⟩) (.cons (zE rfl rfl zF1 ⟨rfl, rfl⟩) (.cons (zE rfl rfl zF1 ⟨rfl, rfl⟩) (.nil))))) <| zS rfl rfl (.cons (zD0 rfl rfl rfl ta28 rfl ⟨rfl, rfl⟩) (.cons (zD0 rfl rfl rfl ta28 rfl ⟨rfl, rfl⟩) (.cons (zD0 rfl rfl rfl ta28 rfl ⟨rfl, rfl⟩) (.cons (zD0 rfl rfl rfl ta28 rfl ⟨rfl, rfl⟩) (.nil))))) <| zS rfl rfl (.cons (zV rfl rfl ⟨rfl, rfl⟩) (.cons (zV rfl rfl ⟨rfl, rfl⟩) (.cons (zV rfl rfl ⟨rfl, rfl⟩) (.cons (zV rfl rfl ⟨rfl, rfl⟩) (.nil))))) <| zS rfl rfl (.cons (zP1 rfl zO sz30 rfl (.some rfl rfl) .none (by first | omega | (simp only [zC, zR]; omega)) (by first | omega | (simp only [zC, zR]; omega)) ⟨rfl, rfl⟩) (.cons (zP1 rfl zO sz30 rfl (.some rfl rfl) .none (by first | omega | (simp only [zC, zR]; omega)) (by first | omega | (simp only [zC, zR]; omega)) ⟨rfl, rfl⟩) (.cons (zP1 rfl zO sz30 rfl (.some rfl rfl) .none (by first | omega | (simp only [zC, zR]; omega)) (by first | omega | (simp only [zC, zR]; omega)) ⟨rfl, rfl⟩) (.nil)))) ?_
       refine zX0 rfl rfl rfl rfl (op_append_owL rfl zO el30 rfl rfl end7 (by simp only [List.length_take, List.length_drop, zC, zY, List.length_nil, zN, zR]; omega) (by simp only [List.length_take, List.length_drop, zC, zY, List.length_nil, zN, zR]; omega) set7 ⟨rfl, rfl⟩) ?_
       refine dO rfl rfl rfl (zE rfl rfl zF1 ⟨rfl, rfl⟩) <| zX0 rfl rfl rfl rfl (zH0 rfl rfl rfl rfl sz28 rfl rfl (zA rfl) rfl ⟨rfl, rfl⟩) <| zL0 <| qR rfl <| qM rfl rfl rfl <| qO rfl <| zY0 rfl rfl rfl rfl <| qA rfl rfl rfl <| qN ?_
       have hR3 : (((R ++ [MObj.row 60 1 ((List.take (k - 0) (List.drop 0 (((stL (Sch.mk k1 i1) (c1 ++ c2) ((c1 ++ c2).zip (w1 ++ w2)) i).map (·.1)).map encC))).length + 1 + (List.take ((((stL (Sch.mk k1 i1) (c1 ++ c2) ((c1 ++ c2).zip (w1 ++ w2)) i).map (·.1)).map encC).length - k) (List.drop k (((stL (Sch.mk k1 i1) (c1 ++ c2) ((c1 ++ c2).zip (w1 ++ w2)) i).map (·.1)).map encC))).length)]).set p (MObj.row 30 5 (stL (Sch.mk k1 i1) (c1 ++ c2) ((c1 ++ c2).zip (w1 ++ w2)) i).length)) ++ [MObj.orow 30 5 ((List.take (k - 0) (List.drop 0 (encVs ((stL (Sch.mk k1 i1) (c1 ++ c2) ((c1 ++ c2).zip (w1 ++ w2)) i).map (·.2))))).length + 1 + (List.take ((encVs ((stL (Sch.mk k1 i1) (c1 ++ c2) ((c1 ++ c2).zip (w1 ++ w2)) i).map (·.2))).length - k) (List.drop k (encVs ((stL (Sch.mk k1 i1) (c1 ++ c2) ((c1 ++ c2).zip (w1 ++ w2)) i).map (·.2))))).length) (flat (List.take (k - 0) (List.drop 0 (encVs ((stL (Sch.mk k1 i1) (c1 ++ c2) ((c1 ++ c2).zip (w1 ++ w2)) i).map (·.2))))) ++ flat [encV (Val.mk vn vm vs_ vc vw)] ++ flat (List.take ((encVs ((stL (Sch.mk k1 i1) (c1 ++ c2) ((c1 ++ c2).zip (w1 ++ w2)) i).map (·.2))).length - k) (List.drop k (encVs ((stL (Sch.mk k1 i1) (c1 ++ c2) ((c1 ++ c2).zip (w1 ++ w2)) i).map (·.2))))))])[((R ++ [MObj.row 60 1 ((List.take (k - 0) (List.drop 0 (((stL (Sch.mk k1 i1) (c1 ++ c2) ((c1 ++ c2).zip (w1 ++ w2)) i).map (·.1)).map encC))).length + 1 + (List.take ((((stL (Sch.mk k1 i1) (c1 ++ c2) ((c1 ++ c2).zip (w1 ++ w2)) i).map (·.1)).map encC).length - k) (List.drop k (((stL (Sch.mk k1 i1) (c1 ++ c2) ((c1 ++ c2).zip (w1 ++ w2)) i).map (·.1)).map encC))).length)]).set p (MObj.row 30 5 (stL (Sch.mk k1 i1) (c1 ++ c2) ((c1 ++ c2).zip (w1 ++ w2)) i).length)).length]? = some (MObj.orow 30 5 (stL (Sch.mk k1 i1) (c1 ++ c2) ((c1 ++ c2).zip (w1 ++ w2)) (i + 1)).length (flat (encVs ((stL (Sch.mk k1 i1) (c1 ++ c2) ((c1 ++ c2).zip (w1 ++ w2)) (i + 1)).map (·.2))))) := by
        rw [hvv, ← hln]
        simp
       refine ⟨⟨i + 1, _, _⟩, by dsimp only; omega, ⟨by dsimp only; omega, hR3⟩, by dsimp only; rw [hln], (.keep rfl (.keep rfl (.keep rfl (.nil)))), (.keep rfl (.keep rfl (.eq rfl (by rw [okL_succ hsL, hokc, Bool.and_true]) (.eq rfl (zM1 hlt (by simp only [maxLen]; omega)) (.nil)))))⟩
 ·
  have hge : i = (c1 ++ c2).length := by rw [zC] at h36; have := zW2 h36; omega
  subst hge
  refine zN1 <| zB <| mwp_owfreezeL (L' := (.cells (encS (.mk 8 [.mk k1 i1])).cells :: .cells (encV (.mk 0 0 [] c1 w1)).cells :: .cells (encV (.mk 0 0 [] c2 w2)).cells :: .cells [.int .u64 0, .int .u64 0, .lst0, .lst0, .lst0] :: .row 60 1 ((c1.map encC).length + (c2.map encC).length) :: .row 30 5 ((encVs w1).length + (encVs w2).length) :: .cells [.int .u64 0, .int .u64 0, .lst0, .lst none 1 (((stL (Sch.mk k1 i1) (c1 ++ c2) ((c1 ++ c2).zip (w1 ++ w2)) (c1 ++ c2).length).map (·.1)).map encC), .lst (some (S.length + (p + 7))) 5 (encVs ((stL (Sch.mk k1 i1) (c1 ++ c2) ((c1 ++ c2).zip (w1 ++ w2)) (c1 ++ c2).length).map (·.2)))] :: (R.set p (MObj.row 30 5 (stL (Sch.mk k1 i1) (c1 ++ c2) ((c1 ++ c2).zip (w1 ++ w2)) (c1 ++ c2).length).length)))) 6 4 (p + 7) (xs := encVs ((stL (Sch.mk k1 i1) (c1 ++ c2) ((c1 ++ c2).zip (w1 ++ w2)) (c1 ++ c2).length).map (·.2))) rfl rfl (get7 hR) rfl (by rw [zR, zC]) zX5 encVs_one rfl ?_
  refine zU0 [8] [_, S ++ (.cells (encS (.mk 8 [.mk k1 i1])).cells :: .cells (encV (.mk 0 0 [] c1 w1)).cells :: .cells (encV (.mk 0 0 [] c2 w2)).cells :: .cells [.int .u64 0, .int .u64 0, .lst0, .lst none 1 (((stL (Sch.mk k1 i1) (c1 ++ c2) ((c1 ++ c2).zip (w1 ++ w2)) (c1 ++ c2).length).map (·.1)).map encC), .lst (some (S.length + (p + 7))) 5 (encVs ((stL (Sch.mk k1 i1) (c1 ++ c2) ((c1 ++ c2).zip (w1 ++ w2)) (c1 ++ c2).length).map (·.2)))] :: .row 60 1 ((c1.map encC).length + (c2.map encC).length) :: .row 30 5 ((encVs w1).length + (encVs w2).length) :: .cells [.int .u64 0, .int .u64 0, .lst0, .lst none 1 (((stL (Sch.mk k1 i1) (c1 ++ c2) ((c1 ++ c2).zip (w1 ++ w2)) (c1 ++ c2).length).map (·.1)).map encC), .lst (some (S.length + (p + 7))) 5 (encVs ((stL (Sch.mk k1 i1) (c1 ++ c2) ((c1 ++ c2).zip (w1 ++ w2)) (c1 ++ c2).length).map (·.2)))] :: (R.set p (MObj.row 30 5 (stL (Sch.mk k1 i1) (c1 ++ c2) ((c1 ++ c2).zip (w1 ++ w2)) (c1 ++ c2).length).length)))] mo (by decide) rfl rfl rfl rfl ?_
  refine dO rfl rfl rfl (zD0 rfl rfl rfl ta30 rfl ⟨rfl, rfl⟩) <| zS rfl rfl (.cons (zV rfl rfl ⟨rfl, rfl⟩) (.cons (zV rfl rfl ⟨rfl, rfl⟩) (.nil))) <| dO rfl rfl rfl (zV rfl rfl ⟨rfl, rfl⟩) ?_
  refine zH2 (fun h160 => ?_) (fun h160 => ?_)
  ·
   refine zS rfl rfl (.cons (zE rfl rfl zI1 ⟨rfl, rfl⟩) (.cons (zE rfl rfl zI1 ⟨rfl, rfl⟩) (.nil))) <| zS rfl rfl (.cons (zD0 rfl rfl rfl ta27 rfl ⟨rfl, rfl⟩) (.cons (zD0 rfl rfl rfl ta27 rfl ⟨rfl, rfl⟩) (.nil))) <| zS rfl rfl (.cons (zT1 rfl zM rfl ⟨rfl, rfl⟩) (.cons (zT1 rfl zM rfl ⟨rfl, rfl⟩) (.nil))) <| zS rfl rfl (.cons (zE2 rfl rfl rfl rfl ⟨rfl, rfl⟩) (.cons (zE2 rfl rfl rfl rfl ⟨rfl, rfl⟩) (.nil))) <| zS rfl rfl (.cons (zE1 rfl rfl rfl ⟨rfl, rfl⟩) (.cons (zE1 rfl rfl rfl ⟨rfl, rfl⟩) (.nil))) <| zX0 rfl rfl rfl rfl (zH0 rfl rfl rfl rfl sz30 rfl rfl (zA rfl) rfl ⟨rfl, rfl⟩) <| dO rfl rfl rfl (zB1 rfl rfl ⟨rfl, rfl⟩) <| zL0 <| zK ?_
   exact zZ0 (.inr rfl) Tryz.results62 rfl rfl ta30 rfl (.agg (.cons (.refl _) (.cons (.refl _) (.cons (.nil 1) (.cons (.refl _) (.cons (.view _ _ _) .nil)))))) (zJ1 _ (cauL (stL (Sch.mk k1 i1) (c1 ++ c2) ((c1 ++ c2).zip (w1 ++ w2)) (c1 ++ c2).length))) rfl (.of_eq (by rw [h160]; first | rfl | (refine congrArg MV.bool ?_; rw [Bool.true_and, decide_eq_decide, zC, zC]; omega))) (.bool _) ⟨rfl, rfl⟩
  ·
   refine dS rfl rfl <| dS rfl rfl <| dS rfl rfl <| dS rfl rfl <| zS rfl rfl (.cons (zE1 rfl rfl rfl ⟨rfl, rfl⟩) (.cons (zE1 rfl rfl rfl ⟨rfl, rfl⟩) (.nil))) <| zX0 rfl rfl rfl rfl (zH0 rfl rfl rfl rfl sz30 rfl rfl (zA rfl) rfl ⟨rfl, rfl⟩) <| dO rfl rfl rfl (zB1 rfl rfl ⟨rfl, rfl⟩) <| zL0 <| zK ?_
   exact zZ0 (.inr rfl) Tryz.results62 rfl rfl ta30 rfl (.agg (.cons (.refl _) (.cons (.refl _) (.cons (.nil 1) (.cons (.refl _) (.cons (.view _ _ _) .nil)))))) (zJ1 _ (cauL (stL (Sch.mk k1 i1) (c1 ++ c2) ((c1 ++ c2).zip (w1 ++ w2)) (c1 ++ c2).length))) rfl (.of_eq (by rw [h160]; first | rfl | (refine congrArg MV.bool ?_; rw [Bool.true_and, decide_eq_decide, zC, zC]; omega))) (.bool _) ⟨rfl, rfl⟩
end Go.Proofs.YtnfcnpdpfgcchaaGreatDoor
namespace Go.Proofs.YtnfcnpdpfgcchaaGreatDoor
open Go Go.MV Go.RowKit Go.Extern.Stop Go.Extern
theorem tT (v : Value) (w : World) : (Extern.ReflectliteType.typeOf #[.iface 62 v]).run Tryz.prog w = .ok (.iface 105 (.agg #[.pointer (some ⟨Tryz.prog.globals.size, 62, none⟩)])) w := by kernel_rfl
theorem cT (w : World) : ((Extern.ReflectliteType.method fun t => do Extern.Rtype.noPackHeld "Comparable" t; pure (.bool (← typeInfo t).comparable)) #[.agg #[.pointer (some ⟨Tryz.prog.globals.size, 62, none⟩)]]).run Tryz.prog w = .ok (.bool true) w := by kernel_rfl
theorem mR (v : Value) (w : World) : (Go.method 312 105 v "Comparable").run Tryz.prog w = .ok (175, v) w := by kernel_rfl
theorem errComp : (Tryz.prog.info? 62).map (·.comparable) = some true := by kernel_rfl
theorem eqErr (n : Int) (w : World) : (binOp .eql 33 (.iface 62 (.int .i64 n)) (.iface 62 (.int .i64 n))).run Tryz.prog w = .ok (.bool true) w := by
  obtain ⟨i, hi, hcmp⟩ := Option.map_eq_some_iff.1 errComp
  have h : ∀ d : Nat, (Op.equalIn (d + 2) 33 (.iface 62 (.int .i64 n)) (.iface 62 (.int .i64 n))).run Tryz.prog w = .ok true w := fun d => by
    simp [Op.equalIn, run_underlying zI0, run_underlying zU1, typeInfo, hi, hcmp]
  simp only [binOp]
  simp [Op.equal, Op.maxDepth, h 9998]
theorem nilErr (v : Value) (w : World) : (binOp .eql 33 (.iface 62 v) .nilIface).run Tryz.prog w = .ok (.bool false) w := by
  have h : ∀ d : Nat, (Op.equalIn (d + 1) 33 (.iface 62 v) .nilIface).run Tryz.prog w = .ok false w := fun d => by simp [Op.equalIn, run_underlying zI0]
  simp only [binOp]
  simp [Op.equal, Op.maxDepth, h 9999]
theorem isSame (n : Int) (w : World) : Calls Tryz.prog 28 #[.iface 62 (.int .i64 n), .iface 62 (.int .i64 n)] w fun e w' => e = .returned (.bool true) ∧ w' = w := by
  have h8 := @run_callFunc_extern Tryz.prog 47 _ Extern.ReflectliteType.typeOf Tryz.func47 (by kernel_rfl) (by kernel_rfl) (by kernel_rfl) (by kernel_rfl)
  have h32 := @run_callFunc_extern Tryz.prog 175 _ (Extern.ReflectliteType.method fun t => do Extern.Rtype.noPackHeld "Comparable" t; pure (.bool (← typeInfo t).comparable)) Tryz.func175 (by kernel_rfl) (by kernel_rfl) (by kernel_rfl) (by kernel_rfl)
  obtain ⟨H, hT, hC⟩ : ∃ H : Value, (∀ (v : Value) (w : World), (callFunc 47 #[.iface 62 v]).run Tryz.prog w = .ok (.value (.iface 105 H)) w) ∧ (∀ w : World, (callFunc 175 #[H]).run Tryz.prog w = .ok (.value (.bool true)) w) := ⟨_, fun v w => by rw [h8, tT]; rfl, fun w => by rw [h32, cT]; rfl⟩
  clear h8 h32
  have mR := mR
  have heq := eqErr n w
  have hnil := nilErr (.int .i64 n) w
  go_enter Tryz.func28, Tryz.ntmps28
  go_wp2
  refine wp_loop_rounds 1 ?_
  rw [rounds_succ]
  go_wp2
  go_ret
  exact ⟨rfl, rfl⟩
theorem errIs_spec (n : Int) (S : MS) : MCalls Tryz.prog 28 [.iface 62 (.int .i64 n), .iface 62 (.int .i64 n)] S fun v σ' => v = .bool true ∧ σ' = S := by
  intro g w vs hrel hrd
  obtain ⟨u, us, rfl, h1, h2⟩ := hrd.uncons
  obtain ⟨u2, us2, rfl, h3, h4⟩ := h2.uncons
  obtain ⟨a, rfl, ha⟩ := h1.inv_iface
  obtain ⟨b, rfl, hb⟩ := h3.inv_iface
  have e1 := ha.inv_int
  have e2 := hb.inv_int
  have e3 : us2 = [] := List.eq_nil_of_length_eq_zero h4.1
  subst e1 e2 e3
  refine (callsIn_wide.2 (isSame n w)).mono ?_
  rintro e w' ⟨rfl, rfl⟩
  exact ⟨_, rfl, .bool true, S, g, ⟨rfl, rfl⟩, hrel, .bool _, .refl _ _⟩
end Go.Proofs.YtnfcnpdpfgcchaaGreatDoor
namespace Go.MV
open Go Go.RowKit
section
section
variable {P : Program} {rd : Option Nat} {o : Oper} {env : Env} {σ : MS} {K : MV → MS → Prop}
theorem op_ifint {b : BinOp} {r : Bool} {t e t' : TypeId} {x y : Operand} {k k' : IntKind} {m n : Int} {ms : Array (String × TypeId)} (ho : o.op = .binOp b t x y t') (hu : P.underlying t = some (.interface ms)) (hc : (P.info? e).map (·.comparable) = some true) (he : P.underlying e = some (.int k'))
    (hx : evo env x = some (.iface e (.int k m))) (hy : evo env y = some (.iface e (.int k n))) (hb : b = .eql ∧ r = (m == n) ∨ b = .neq ∧ r = !(m == n)) (h : K (.bool r) σ) : OpWp P rd o env σ K := by
  refine OpWp.of_run (by rcases hb with ⟨rfl, _⟩ | ⟨rfl, _⟩ <;> simp [ho]) fun g w a hr hop => ?_
  obtain ⟨u, e1, h1⟩ := (hop x (by simp [ho, Op.operands]) _ hx).inv_iface
  obtain ⟨u2, e2, h2⟩ := (hop y (by simp [ho, Op.operands]) _ hy).inv_iface
  have h1 := h1.inv_int
  have h2 := h2.inv_int
  subst h1 h2
  refine ⟨.bool r, w, ?_, .same h hr (.bool _)⟩
  obtain ⟨i, hi, hcmp⟩ := Option.map_eq_some_iff.1 hc
  have h9 : ∀ d : Nat, (Op.equalIn (d + 2) t (.iface e (.int k m)) (.iface e (.int k n))).run P w = .ok (m == n) w := fun d => by
    simp [Op.equalIn, run_underlying hu, run_underlying he, typeInfo, hi, hcmp]
  rcases hb with ⟨rfl, rfl⟩ | ⟨rfl, rfl⟩ <;> (simp only [execOp, ho, e1, e2, Sem.run_bind, Sem.run_pure]; simp [eqGuard, binOp, Op.equal, Op.maxDepth, h9 9998])
theorem op_nilif {b : BinOp} {r : Bool} {t e t' : TypeId} {x y : Operand} {m : MV} {ms : Array (String × TypeId)} (ho : o.op = .binOp b t x y t') (hu : P.underlying t = some (.interface ms)) (hx : evo env x = some .iface0) (hy : evo env y = some (.iface e m)) (hb : b = .eql ∧ r = false ∨ b = .neq ∧ r = true) (h : K (.bool r) σ) : OpWp P rd o env σ K := by
  refine OpWp.of_run (by rcases hb with ⟨rfl, rfl⟩ | ⟨rfl, rfl⟩ <;> simp [ho]) fun g w a hr hop => ?_
  obtain ⟨u, e1, _⟩ := (hop y (by simp [ho, Op.operands]) _ hy).inv_iface
  have e2 := (hop x (by simp [ho, Op.operands]) _ hx).inv_iface0
  refine ⟨.bool r, w, ?_, .same h hr (.bool _)⟩
  have h9 : ∀ d : Nat, (Op.equalIn (d + 1) t .nilIface (.iface e u)).run P w = .ok false w := fun d => by simp [Op.equalIn, run_underlying hu]
  rcases hb with ⟨rfl, rfl⟩ | ⟨rfl, rfl⟩ <;> (simp only [execOp, ho, e1, e2, Sem.run_bind, Sem.run_pure]; simp [eqGuard, binOp, Op.equal, Op.maxDepth, h9 9999])
end
end
end Go.MV
namespace Go.Proofs.YtnfcnpdpfgcchaaGreatDoor
open Go Go.MV
theorem joinE {s : Sch} {a b : Val} {e : Int} (h : joinVF s a b = .error e) : e = 13 ∨ e = 14 := by
 unfold joinVF at h
 split at h
 ·split at h
  ·cases h
  ·injection h with h; exact .inl h.symm
 ·injection h with h; exact .inr h.symm
theorem joinR (s : Sch) (a b : Val) : (∃ n m t c w, joinVF s a b = .ok (.mk n m t c w)) ∨ joinVF s a b = .error 13 ∨ joinVF s a b = .error 14 := by
 cases h : joinVF s a b with
 | ok v => obtain ⟨n, m, t, c, w⟩ := v; exact .inl ⟨_, _, _, _, _, rfl⟩
 | error e =>
  rcases joinE h with rfl | rfl
  ·exact .inr (.inl rfl)
  ·exact .inr (.inr rfl)
noncomputable def leqVF (s : Sch) (a b : Val) : Except Int Bool := match joinVF s a b with | .ok j => .ok (decide (j = b)) | .error e => if e = 14 then .error 14 else .ok false
noncomputable def cmpVF (s : Sch) (a b : Val) : Except Int Int := match leqVF s a b with
 | .error e => .error e
 | .ok l => match leqVF s b a with
  | .error e => .error e
  | .ok m => .ok (if l then (if m then 0 else -1) else (if m then 1 else 2))
def encL (r : Except Int Bool) : MV := .tup [.bool (match r with | .error _ => false | .ok v => v), match r with | .error n => encErr n | .ok _ => .iface0]
def encK (r : Except Int Int) : MV := .tup [.int .i64 (match r with | .error _ => 0 | .ok v => v), match r with | .error n => encErr n | .ok _ => .iface0]
theorem leq_ok {s : Sch} {a b j : Val} (h : joinVF s a b = .ok j) : leqVF s a b = .ok (decide (j = b)) := by unfold leqVF; rw [h]
theorem leq_13 {s : Sch} {a b : Val} (h : joinVF s a b = .error 13) : leqVF s a b = .ok false := by unfold leqVF; rw [h]; rfl
theorem leq_14 {s : Sch} {a b : Val} (h : joinVF s a b = .error 14) : leqVF s a b = .error 14 := by unfold leqVF; rw [h]; rfl
theorem cmp_e {s : Sch} {a b : Val} {e : Int} (h : leqVF s a b = .error e) : cmpVF s a b = .error e := by unfold cmpVF; rw [h]
theorem cmp_e2 {s : Sch} {a b : Val} {l : Bool} {e : Int} (h : leqVF s a b = .ok l) (h2 : leqVF s b a = .error e) : cmpVF s a b = .error e := by unfold cmpVF; rw [h, h2]
theorem cmp_ok {s : Sch} {a b : Val} {l m : Bool} (h : leqVF s a b = .ok l) (h2 : leqVF s b a = .ok m) : cmpVF s a b = .ok (if l then (if m then 0 else -1) else (if m then 1 else 2)) := by unfold cmpVF; rw [h, h2]
theorem exE {α : Type} (r : Except Int α) : (∃ e, r = .error e) ∨ ∃ v, r = .ok v := by
 cases r with
 | error e => exact .inl ⟨e, rfl⟩
 | ok v => exact .inr ⟨v, rfl⟩
theorem okCmp : (Tryz.prog.info? 62).map (·.comparable) = some true := by kernel_rfl
theorem pick3 (l m : Bool) : (if l then (if m then (0 : Int) else -1) else (if m then 1 else 2)) = bif l then (bif m then 0 else -1) else (bif m then 1 else 2) := by cases l <;> cases m <;> rfl
theorem pickI_spec (f : Bool) (a b : Int) (S : MS) : MCalls Tryz.prog 42 [.bool f, .int .i64 a, .int .i64 b] S fun v σ' => v = .int .i64 (bif f then a else b) ∧ σ' = S := by
 refine zU Tryz.func42 rfl Tryz.ntmps42 (zA rfl) ?_
 refine zB <| qR rfl <| qA rfl rfl rfl <| qN <| zB <| zB <| qR rfl <| qM rfl rfl rfl <| qN ?_
 refine zJ rfl (fun h7 => ?_) (fun h7 => ?_)
 ·
  refine zB <| qR rfl <| qM rfl rfl rfl <| qA rfl rfl rfl <| qN <| zK ?_
  exact zQ (.inr rfl) Tryz.results42 rfl (.of_eq (by rw [h7]; rfl)) (.int _ _) ⟨rfl, rfl⟩
 ·
  refine zA0 <| zB <| qR rfl <| qM rfl rfl rfl <| qA rfl rfl rfl <| qN <| zK ?_
  exact zQ (.inr rfl) Tryz.results42 rfl (.of_eq (by rw [h7]; rfl)) (.int _ _) ⟨rfl, rfl⟩
theorem leq_spec (s : Sch) (a b : Val) (ha : okV a) (hb : okV b) (S : MS) : MCalls Tryz.prog 14 [encS s, encV a, encV b] S fun v σ' => v = encL (leqVF s a b) ∧ σ' = S := by
 obtain ⟨k, ins⟩ := s
 obtain ⟨n1, m1, s1, c1, w1⟩ := a
 obtain ⟨n2, m2, s2, c2, w2⟩ := b
 refine zU Tryz.func14 rfl Tryz.ntmps14 (zA rfl) ?_
 refine zB <| qR rfl <| qB rfl rfl rfl rfl rfl <| qB rfl rfl rfl rfl rfl <| qB rfl rfl rfl rfl rfl <| qA rfl rfl rfl <| qA rfl rfl rfl <| qN <| zB ?_
 have hof := join_spec (.mk k ins) (.mk n1 m1 s1 c1 w1) (.mk n2 m2 s2 c2 w2) ha hb
 rcases joinR (.mk k ins) (.mk n1 m1 s1 c1 w1) (.mk n2 m2 s2 c2 w2) with ⟨n3, m3, s3, c3, w3, hj⟩ | hj | hj <;> rw [hj] at hof
 ·
  refine qR rfl <| qL rfl rfl rfl rfl ta24 rfl <| qL rfl rfl rfl rfl ta30 rfl <| qL rfl rfl rfl rfl ta30 rfl ?_
  refine qX rfl rfl rfl rfl co7 (hof _) ?_
  refine qM rfl rfl rfl <| qO rfl <| zE0 rfl rfl rfl <| qO rfl <| zE0 rfl rfl rfl <| qO rfl <| zN0 rfl zm30 rfl rfl <| qO rfl <| zH0 rfl rfl rfl rfl sz30 rfl rfl (zA rfl) rfl <| qA rfl rfl rfl <| qN <| zB <| zB <| qR rfl <| qM rfl rfl rfl <| qN <| zB0 <| zB <| qR rfl <| qO rfl <| zA2 rfl rfl zU1 (by simp) ?_
  refine qO rfl <| op_nilif rfl zI0 rfl rfl (.inl ⟨rfl, rfl⟩) <| qA rfl rfl rfl <| qN <| zL rfl (rfl) <| zB <| qR rfl <| qO rfl <| zS3 rfl zI0 rfl rfl (.inl ⟨rfl, rfl⟩) <| qA rfl rfl rfl <| qN <| zW rfl (rfl) <| zB <| qR rfl <| qL rfl rfl rfl rfl ta30 rfl <| qL rfl rfl rfl rfl ta30 rfl ?_
  refine qX rfl rfl rfl rfl co41 (valSame_spec (.mk n3 m3 s3 c3 w3) (.mk n2 m2 s2 c2 w2) _) ?_
  refine qA rfl rfl rfl <| qA rfl rfl rfl <| qN <| zK ?_
  exact zH4 (.inr rfl) Tryz.results14 rfl rfl (.refl _) (.refl _) (.bool _) (.iface0) ⟨by rw [leq_ok hj]; rfl, rfl⟩
 ·
  refine qR rfl <| qL rfl rfl rfl rfl ta24 rfl <| qL rfl rfl rfl rfl ta30 rfl <| qL rfl rfl rfl rfl ta30 rfl ?_
  refine qX rfl rfl rfl rfl co7 (hof _) ?_
  refine qM rfl rfl rfl <| qO rfl <| zE0 rfl rfl rfl <| qO rfl <| zE0 rfl rfl rfl <| qO rfl <| zN0 rfl zm30 rfl rfl <| qO rfl <| zH0 rfl rfl rfl rfl sz30 rfl rfl (zA rfl) rfl <| qA rfl rfl rfl <| qN <| zB <| zB <| qR rfl <| qM rfl rfl rfl <| qN <| zB0 <| zB <| qR rfl <| qO rfl <| zA2 rfl rfl zU1 (by simp) ?_
  refine qO rfl <| op_ifint rfl zI0 okCmp zU1 rfl rfl (.inl ⟨rfl, rfl⟩) <| qA rfl rfl rfl <| qN <| zL rfl (rfl) <| zB <| qR rfl <| qO rfl <| zY2 rfl zI0 rfl rfl (.inl ⟨rfl, rfl⟩) <| qA rfl rfl rfl <| qN <| zL rfl (rfl) <| zA0 <| zB <| qR rfl <| qA rfl rfl rfl <| qA rfl rfl rfl <| qN <| zK ?_
  exact zH4 (.inr rfl) Tryz.results14 rfl rfl (.refl _) (.refl _) (.bool _) (.iface0) ⟨by rw [leq_13 hj]; rfl, rfl⟩
 ·
  refine qR rfl <| qL rfl rfl rfl rfl ta24 rfl <| qL rfl rfl rfl rfl ta30 rfl <| qL rfl rfl rfl rfl ta30 rfl ?_
  refine qX rfl rfl rfl rfl co7 (hof _) ?_
  refine qM rfl rfl rfl <| qO rfl <| zE0 rfl rfl rfl <| qO rfl <| zE0 rfl rfl rfl <| qO rfl <| zN0 rfl zm30 rfl rfl <| qO rfl <| zH0 rfl rfl rfl rfl sz30 rfl rfl (zA rfl) rfl <| qA rfl rfl rfl <| qN <| zB <| zB <| qR rfl <| qM rfl rfl rfl <| qN <| zB0 <| zB <| qR rfl <| qO rfl <| zA2 rfl rfl zU1 (by simp) ?_
  refine qO rfl <| op_ifint rfl zI0 okCmp zU1 rfl rfl (.inl ⟨rfl, rfl⟩) <| qA rfl rfl rfl <| qN <| zW rfl (rfl) <| zB <| qR rfl <| qO rfl <| zA2 rfl rfl zU1 (by simp) ?_
  refine qA rfl rfl rfl <| qA rfl rfl rfl <| qN <| zK ?_
  exact zH4 (.inr rfl) Tryz.results14 rfl rfl (.refl _) (.refl _) (.bool _) (.iface _ _ (.int _ _)) ⟨by rw [leq_14 hj]; rfl, rfl⟩
theorem cmpV_spec (s : Sch) (a b : Val) (ha : okV a) (hb : okV b) (S : MS) : MCalls Tryz.prog 16 [encS s, encV a, encV b] S fun v σ' => v = encK (cmpVF s a b) ∧ σ' = S := by
 obtain ⟨k, ins⟩ := s
 obtain ⟨n1, m1, s1, c1, w1⟩ := a
 obtain ⟨n2, m2, s2, c2, w2⟩ := b
 refine zU Tryz.func16 rfl Tryz.ntmps16 (zA rfl) ?_
 refine zB <| qR rfl <| qB rfl rfl rfl rfl rfl <| qB rfl rfl rfl rfl rfl <| qB rfl rfl rfl rfl rfl <| qA rfl rfl rfl <| qA rfl rfl rfl <| qN <| zB ?_
 have hof1 := leq_spec (.mk k ins) (.mk n1 m1 s1 c1 w1) (.mk n2 m2 s2 c2 w2) ha hb
 have hof2 := leq_spec (.mk k ins) (.mk n2 m2 s2 c2 w2) (.mk n1 m1 s1 c1 w1) hb ha
 rcases exE (leqVF (.mk k ins) (.mk n1 m1 s1 c1 w1) (.mk n2 m2 s2 c2 w2)) with ⟨e, hl⟩ | ⟨l, hl⟩ <;> rw [hl] at hof1
 rotate_left
 rcases exE (leqVF (.mk k ins) (.mk n2 m2 s2 c2 w2) (.mk n1 m1 s1 c1 w1)) with ⟨e, hm⟩ | ⟨m, hm⟩ <;> rw [hm] at hof2
 rotate_right
 ·
  refine qR rfl <| qL rfl rfl rfl rfl ta24 rfl <| qL rfl rfl rfl rfl ta30 rfl <| qL rfl rfl rfl rfl ta30 rfl ?_
  refine qX rfl rfl rfl rfl co14 (hof1 _) ?_
  refine qM rfl rfl rfl <| qO rfl <| zE0 rfl rfl rfl <| qO rfl <| zE0 rfl rfl rfl <| qA rfl rfl rfl <| qA rfl rfl rfl <| qN <| zB <| zB <| qR rfl <| qM rfl rfl rfl <| qO rfl <| zY2 rfl zI0 rfl rfl (.inr ⟨rfl, rfl⟩) <| qN <| zW rfl (rfl) <| zB <| qR rfl <| qM rfl rfl rfl <| qA rfl rfl rfl <| qA rfl rfl rfl <| qN <| zK ?_
  exact zH4 (.inr rfl) Tryz.results16 rfl rfl (.refl _) (.refl _) (.int _ _) (.iface _ _ (.int _ _)) ⟨by rw [cmp_e hl]; rfl, rfl⟩
 ·
  refine qR rfl <| qL rfl rfl rfl rfl ta24 rfl <| qL rfl rfl rfl rfl ta30 rfl <| qL rfl rfl rfl rfl ta30 rfl ?_
  refine qX rfl rfl rfl rfl co14 (hof1 _) ?_
  refine qM rfl rfl rfl <| qO rfl <| zE0 rfl rfl rfl <| qO rfl <| zE0 rfl rfl rfl <| qA rfl rfl rfl <| qA rfl rfl rfl <| qN <| zB <| zB <| qR rfl <| qM rfl rfl rfl <| qO rfl <| zS3 rfl zI0 rfl rfl (.inr ⟨rfl, rfl⟩) <| qN <| zL rfl (rfl) <| zA0 <| zB <| qR rfl <| qL rfl rfl rfl rfl ta24 rfl <| qL rfl rfl rfl rfl ta30 rfl <| qL rfl rfl rfl rfl ta30 rfl ?_
  refine qX rfl rfl rfl rfl co14 (hof2 _) ?_
  refine qM rfl rfl rfl <| qO rfl <| zE0 rfl rfl rfl <| qO rfl <| zE0 rfl rfl rfl <| qA rfl rfl rfl <| qA rfl rfl rfl <| qN <| zB <| zB <| qR rfl <| qM rfl rfl rfl <| qO rfl <| zY2 rfl zI0 rfl rfl (.inr ⟨rfl, rfl⟩) <| qN <| zW rfl (rfl) <| zB <| qR rfl <| qM rfl rfl rfl <| qA rfl rfl rfl <| qA rfl rfl rfl <| qN <| zK ?_
  exact zH4 (.inr rfl) Tryz.results16 rfl rfl (.refl _) (.refl _) (.int _ _) (.iface _ _ (.int _ _)) ⟨by rw [cmp_e2 hl hm]; rfl, rfl⟩
 ·
  refine qR rfl <| qL rfl rfl rfl rfl ta24 rfl <| qL rfl rfl rfl rfl ta30 rfl <| qL rfl rfl rfl rfl ta30 rfl ?_
  refine qX rfl rfl rfl rfl co14 (hof1 _) ?_
  refine qM rfl rfl rfl <| qO rfl <| zE0 rfl rfl rfl <| qO rfl <| zE0 rfl rfl rfl <| qA rfl rfl rfl <| qA rfl rfl rfl <| qN <| zB <| zB <| qR rfl <| qM rfl rfl rfl <| qO rfl <| zS3 rfl zI0 rfl rfl (.inr ⟨rfl, rfl⟩) <| qN <| zL rfl (rfl) <| zA0 <| zB <| qR rfl <| qL rfl rfl rfl rfl ta24 rfl <| qL rfl rfl rfl rfl ta30 rfl <| qL rfl rfl rfl rfl ta30 rfl ?_
  refine qX rfl rfl rfl rfl co14 (hof2 _) ?_
  refine qM rfl rfl rfl <| qO rfl <| zE0 rfl rfl rfl <| qO rfl <| zE0 rfl rfl rfl <| qA rfl rfl rfl <| qA rfl rfl rfl <| qN <| zB <| zB <| qR rfl <| qM rfl rfl rfl <| qO rfl <| zS3 rfl zI0 rfl rfl (.inr ⟨rfl, rfl⟩) <| qN <| zL rfl (rfl) <| zA0 <| zB <| qR rfl <| qM rfl rfl rfl <| qM rfl rfl rfl ?_
  refine qX rfl rfl rfl rfl co42 (pickI_spec m 0 (-1) _) ?_
  refine qM rfl rfl rfl ?_
  refine qX rfl rfl rfl rfl co42 (pickI_spec m 1 2 _) ?_
  refine qX rfl rfl rfl rfl co42 (pickI_spec l _ _ _) ?_
  refine qA rfl rfl rfl <| qA rfl rfl rfl <| qN <| zK ?_
  exact zH4 (.inr rfl) Tryz.results16 rfl rfl (.refl _) (.refl _) (.int _ _) (.iface0) ⟨by rw [cmp_ok hl hm, pick3]; rfl, rfl⟩
theorem join_ok_of {s : Sch} {a b v : Val} (hs : isF 16 s = true) (ha : isVF s a = true) (hb : isVF s b = true) (h : bothF s a b = some v) : joinVF s a b = .ok v := by
 unfold joinVF
 rw [if_pos ⟨by rw [hs, ha]; rfl, by rw [hs, hb]; rfl⟩, h]
theorem join_err_b {s : Sch} {a b : Val} (hb : isVF s b = false) : joinVF s a b = .error 14 := join_err fun h => by rw [hb, Bool.and_false] at h; exact absurd h.2 (by decide)
theorem okV_num {a : Int} (h : 0 ≤ a ∧ a < 18446744073709551616) : okV (.mk a 0 [] [] []) := by simp [okV, okVs]; omega
def kA : Val := .mk 0 0 [[97]] [] []
def kB_ : Val := .mk 0 0 [[98]] [] []
def kAB : Val := .mk 0 0 [[97], [98]] [] []
def kX : Val := .mk 0 0 [] [[(1, 1)]] [.mk 9 0 [] [] []]
def kY : Val := .mk 0 0 [] [[(1, 2)]] [.mk 3 0 [] [] []]
theorem ok_kn : okV kA ∧ okV kB_ ∧ okV kAB ∧ okV kX ∧ okV kY := by
 refine ⟨?_, ?_, ?_, ?_, ?_⟩ <;> simp [kA, kB_, kAB, kX, kY, okV, okVs, okTk]
theorem is_set (A : List Bs) : isVF (.mk 3 []) (.mk 0 0 A [] []) = isRowF A := by
 rw [zO1 3]
 simp [bareF, numsK, textsK, clocksK, valuesK, Val.nv, Val.mv, Val.sv, Val.cv, Val.vv]
theorem both_set (A B : List Bs) : bothF (.mk 3 []) (.mk 0 0 A [] []) (.mk 0 0 B [] []) = if 40 < (bothX A B).length then none else some (.mk 0 0 (bothX A B) [] []) := by
 rw [zK2, show bothB 3 (bothL []) (.mk 0 0 A [] []) (.mk 0 0 B [] []) = some (.mk 0 0 (bothX A B) [] []) from rfl]
 have hl : largeF (.mk 0 0 (bothX A B) [] []) = decide (40 < (bothX A B).length) := by rw [zJ5]; simp
 by_cases h : 40 < (bothX A B).length
 ·rw [cap_t (by rw [hl]; exact decide_eq_true h), if_pos h]
 ·rw [cap_f (by rw [hl]; exact decide_eq_false h), if_neg h]
theorem join_set {A B : List Bs} (ha : isRowF A = true) (hb : isRowF B = true) : joinVF (.mk 3 []) (.mk 0 0 A [] []) (.mk 0 0 B [] []) = if 40 < (bothX A B).length then .error 13 else .ok (.mk 0 0 (bothX A B) [] []) := by
 unfold joinVF
 rw [if_pos ⟨by rw [is_set, ha]; rfl, by rw [is_set, hb]; rfl⟩, both_set]
 by_cases h : 40 < (bothX A B).length
 ·rw [if_pos h, if_pos h]
 ·rw [if_neg h, if_neg h]
theorem is_pair {t u : Sch} {x y : Val} : isVF (.mk 5 [t, u]) (.mk 0 0 [] [] [x, y]) = (isVF t x && isVF u y) := by
 rw [zO1 5]
 simp [isVL, bareF, numsK, textsK, clocksK, valuesK, Val.nv, Val.mv, Val.sv, Val.cv, Val.vv]
section
theorem eqlI {a b : Int} (h : a = b) : intCmp .eql a b = some true := by simp [intCmp, h]
def clkV (c : List Tk) : Val := if c.length = 0 then noV else .mk 0 0 [] [c] []
section
variable {a b : List Tk} (ha : Go.MV.Up a) (hb : Go.MV.Up b) (pa : Go.MV.Pos a) (pb : Go.MV.Pos b)
include ha hb pa pb
end
section
variable {a b : List Tk} (ka : isClockF a = true) (kb : isClockF b = true) (oa : ∀ t ∈ a, okTk t) (ob : ∀ t ∈ b, okTk t) (la : a.length ≤ 15) (lb : b.length ≤ 15)
include ka kb oa ob la lb
end
section
variable {a b : List Tk} {x y : Int} (ka : isClockF a = true) (kb : isClockF b = true) (oa : ∀ t ∈ a, okTk t) (ob : ∀ t ∈ b, okTk t)
include ka kb oa ob
end
theorem both_iff {A B : List Bs} (ha : Up A) (hb : Up B) : bothX A B = B ↔ ∀ z ∈ A, z ∈ B := by
  constructor
  · intro h z hz
    rw [← h, zH3]
    exact .inl hz
  · intro h
    refine up_ext (up_both A B ha hb) hb fun z => ?_
    rw [zH3]
    exact ⟨fun hz => hz.elim (h z) id, .inr⟩
def setV (A : List Bs) : Val := .mk 0 0 A [] []
theorem leq_set {A B : List Bs} (ha : isRowF A = true) (hb : isRowF B = true) (ua : Up A) (ub : Up B) (hl : A.length + B.length ≤ 40) : leqVF (.mk 3 []) (setV A) (setV B) = .ok (decide (∀ z ∈ A, z ∈ B)) := by
  have h := join_set ha hb
  rw [if_neg (by have := both_len A B; omega)] at h
  unfold setV
  rw [leq_ok h]
  congr 1
  rw [decide_eq_decide, ← both_iff ua ub]
  simp
def kC_ : Val := .mk 0 0 [[99]] [] []
theorem up1 (x : UInt8) : Up [[x]] := by simp [Up]
theorem kl_1 : leqVF (.mk 3 []) kA kAB = .ok true := by
  rw [show kA = setV [[97]] from rfl, show kAB = setV [[97], [98]] from rfl, leq_set (by decide) (by decide) (up1 _) ((rises_up _).1 (by decide)) (by decide)]
  simp
theorem kl_2 : leqVF (.mk 3 []) kAB kA = .ok false := by
  rw [show kA = setV [[97]] from rfl, show kAB = setV [[97], [98]] from rfl, leq_set (by decide) (by decide) ((rises_up _).1 (by decide)) (up1 _) (by decide)]
  simp
theorem kl_3 : cmpVF (.mk 3 []) kA kC_ = .ok 2 := by
  have h1 : leqVF (.mk 3 []) kA kC_ = .ok false := by
    rw [show kA = setV [[97]] from rfl, show kC_ = setV [[99]] from rfl, leq_set (by decide) (by decide) (up1 _) (up1 _) (by decide)]
    simp
  have h2 : leqVF (.mk 3 []) kC_ kA = .ok false := by
    rw [show kA = setV [[97]] from rfl, show kC_ = setV [[99]] from rfl, leq_set (by decide) (by decide) (up1 _) (up1 _) (by decide)]
    simp
  rw [cmp_ok h1 h2]
  rfl
theorem kl_4 : cmpVF (.mk 3 []) kA (.mk 1 0 [] [] []) = .error 14 := cmp_e (leq_14 (join_err_b (by rw [zO1 3]; rfl)))
theorem leq_at {s : Sch} {a b : Val} {r : Except Int Bool} (ha : okV a) (hb : okV b) (h : leqVF s a b = r) (S : MS) : MCalls Tryz.prog 14 [encS s, encV a, encV b] S fun v σ' => v = encL r ∧ σ' = S := h ▸ leq_spec s a b ha hb S
end
theorem cmp_at {s : Sch} {a b : Val} {r : Except Int Int} (ha : okV a) (hb : okV b) (h : cmpVF s a b = r) (S : MS) : MCalls Tryz.prog 16 [encS s, encV a, encV b] S fun v σ' => v = encK r ∧ σ' = S := h ▸ cmpV_spec s a b ha hb S
theorem rClocks_spec (c : List Tk) (S : MS) : MCalls Tryz.prog 60 [.lst none 2 (c.map encT)] S fun v σ' => v = encV (clkV c) ∧ σ' = S := by
 refine zU Tryz.func60 rfl Tryz.ntmps60 (zA rfl) ?_
 refine zB <| qR rfl <| qO rfl <| zN0 rfl zm30 rfl rfl <| qN <| zB <| zB <| qR rfl <| qM rfl rfl rfl <| qE rfl rfl zP rfl <| qC rfl rfl rfl rfl rfl <| qN ?_
 refine zJ rfl (fun h5 => ?_) (fun h5 => ?_)
 ·
  have hl : c.length = 0 := by simpa using h5
  refine zB <| qR rfl <| qO rfl <| zW1 rfl zS0 zm30 .nil (by kernel_rfl) ?_
  refine qO rfl <| zH0 rfl rfl rfl rfl sz30 rfl rfl (zA rfl) rfl <| qN <| zK ?_
  exact zI2 (y := encV noV) (.inr rfl) Tryz.results60 rfl rfl ta30 rfl (.agg (.cons (.refl _) (.cons (.refl _) (.cons (.nil 1) (.cons (.nil 1) (.cons (.nil 5) .nil)))))) (zJ1 _ _) ⟨by rw [clkV, if_pos hl], rfl⟩
 ·
  have hl : ¬ c.length = 0 := by simpa using h5
  refine zA0 <| zB <| qR rfl <| qM rfl rfl rfl <| qO rfl <| zC1 rfl zM el60 rfl rfl (by decide) (by decide) rfl rfl ?_
  refine qO rfl <| zW1 rfl zS0 zm30 (.cons zI1 sz27 rfl rfl (zA rfl) .nil) (by kernel_rfl) ?_
  refine qO rfl <| zH0 rfl rfl rfl rfl sz30 rfl rfl (zA rfl) rfl <| qN <| zK ?_
  exact zI2 (y := encV (.mk 0 0 [] [c] [])) (.inr rfl) Tryz.results60 rfl rfl ta30 rfl (.agg (.cons (.refl _) (.cons (.refl _) (.cons (.nil 1) (.cons (.refl _) (.cons (.nil 5) .nil)))))) (zJ1 _ _) ⟨by rw [clkV, if_neg hl], rfl⟩
theorem knownO_spec (S : MS) : MCalls Tryz.prog 13 [] S fun v σ' => v = .bool true ∧ σ' = S := by
 refine zU Tryz.func13 rfl Tryz.ntmps13 (zA rfl) ?_
 refine zB <| qR rfl <| qA rfl rfl rfl <| qN <| zB <| qR rfl <| qO rfl <| zV2 (y := encS (.mk 3 [])) (zW1 rfl Tryz.underlying24 zm24 (.cons zG2 sz3 rfl rfl (zA rfl) .nil) (by kernel_rfl) ⟨rfl, rfl⟩) (.agg (.cons (.refl _) (.cons (.nil 2) .nil))) ?_
 refine qO rfl <| zN0 rfl zm24 rfl rfl <| qO rfl <| zH0 rfl rfl rfl rfl sz24 rfl rfl (zA rfl) rfl <| qN <| zB <| qR rfl <| qO rfl <| zC1 rfl zX el9 rfl rfl (by decide) (by decide) rfl rfl ?_
 refine qO rfl <| zV2 (y := encV kA) (zW1 rfl zS0 zm30 (.cons zR1 sz26 rfl rfl (zA rfl) .nil) (by kernel_rfl) ⟨rfl, rfl⟩) (.agg (.cons (.refl _) (.cons (.refl _) (.cons (.refl _) (.cons (.nil 1) (.cons (.nil 5) .nil)))))) ?_
 refine qO rfl <| zC1 rfl zX el9 rfl rfl (by decide) (by decide) rfl rfl ?_
 refine qO rfl <| zV2 (y := encV kAB) (zW1 rfl zS0 zm30 (.cons zR1 sz26 rfl rfl (zA rfl) .nil) (by kernel_rfl) ⟨rfl, rfl⟩) (.agg (.cons (.refl _) (.cons (.refl _) (.cons (.refl _) (.cons (.nil 1) (.cons (.nil 5) .nil)))))) ?_
 refine qO rfl <| zN0 rfl zm30 rfl rfl <| qO rfl <| zN0 rfl zm30 rfl rfl <| qO rfl <| zH0 rfl rfl rfl rfl sz30 rfl rfl (zA rfl) rfl <| qO rfl <| zH0 rfl rfl rfl rfl sz30 rfl rfl (zA rfl) rfl <| qN <| zB <| qR rfl <| qL rfl rfl rfl rfl ta24 rfl <| qL rfl rfl rfl rfl ta30 rfl <| qL rfl rfl rfl rfl ta30 rfl ?_
 refine qX rfl rfl rfl rfl co14 (leq_at ok_kn.1 ok_kn.2.2.1 kl_1 _) ?_
 refine qM rfl rfl rfl <| qO rfl <| zE0 rfl rfl rfl <| qO rfl <| zE0 rfl rfl rfl <| qA rfl rfl rfl <| qA rfl rfl rfl <| qN <| zB <| qR rfl <| qL rfl rfl rfl rfl ta24 rfl <| qL rfl rfl rfl rfl ta30 rfl <| qL rfl rfl rfl rfl ta30 rfl ?_
 refine qX rfl rfl rfl rfl co14 (leq_at ok_kn.2.2.1 ok_kn.1 kl_2 _) ?_
 refine qM rfl rfl rfl <| qO rfl <| zE0 rfl rfl rfl <| qO rfl <| zE0 rfl rfl rfl <| qA rfl rfl rfl <| qA rfl rfl rfl <| qN <| zB <| qR rfl <| qL rfl rfl rfl rfl ta24 rfl <| qL rfl rfl rfl rfl ta30 rfl <| qO rfl <| zC1 rfl zX el9 rfl rfl (by decide) (by decide) rfl rfl ?_
 refine qO rfl <| zV2 (y := encV kC_) (zW1 rfl zS0 zm30 (.cons zR1 sz26 rfl rfl (zA rfl) .nil) (by kernel_rfl) ⟨rfl, rfl⟩) (.agg (.cons (.refl _) (.cons (.refl _) (.cons (.refl _) (.cons (.nil 1) (.cons (.nil 5) .nil)))))) ?_
 refine qX rfl rfl rfl rfl co16 (cmp_at ok_kn.1 (by simp [kC_, okV, okVs]) kl_3 _) ?_
 refine qM rfl rfl rfl <| qO rfl <| zE0 rfl rfl rfl <| qO rfl <| zE0 rfl rfl rfl <| qA rfl rfl rfl <| qA rfl rfl rfl <| qN <| zB <| qR rfl <| qL rfl rfl rfl rfl ta24 rfl <| qL rfl rfl rfl rfl ta30 rfl <| qO rfl <| zV2 (y := encV (.mk 1 0 [] [] [])) (zW1 rfl zS0 zm30 (.cons zB3 sz25 rfl rfl (zA rfl) .nil) (by kernel_rfl) ⟨rfl, rfl⟩) (.agg (.cons (.refl _) (.cons (.refl _) (.cons (.nil 1) (.cons (.nil 1) (.cons (.nil 5) .nil)))))) ?_
 refine qX rfl rfl rfl rfl co16 (cmp_at ok_kn.1 (okV_num (by decide)) kl_4 _) ?_
 refine qM rfl rfl rfl <| qO rfl <| zE0 rfl rfl rfl <| qO rfl <| zE0 rfl rfl rfl <| qA rfl rfl rfl <| qA rfl rfl rfl <| qN <| zB <| qR rfl <| qM rfl rfl rfl <| qO rfl <| zS3 rfl zI0 rfl rfl (.inl ⟨rfl, rfl⟩) <| qM rfl rfl rfl <| qM rfl rfl rfl <| qP rfl rfl rfl rfl <| qM rfl rfl rfl <| qM rfl rfl rfl <| qO rfl <| zS3 rfl zI0 rfl rfl (.inl ⟨rfl, rfl⟩) <| qP rfl rfl rfl rfl ?_
 refine qM rfl rfl rfl <| qM rfl rfl rfl <| qO rfl <| zG1 rfl rfl <| qP rfl rfl rfl rfl <| qM rfl rfl rfl <| qM rfl rfl rfl <| qO rfl <| zS3 rfl zI0 rfl rfl (.inl ⟨rfl, rfl⟩) <| qP rfl rfl rfl rfl <| qM rfl rfl rfl <| qM rfl rfl rfl <| qC rfl rfl rfl rfl (eqlI rfl) <| qP rfl rfl rfl rfl <| qM rfl rfl rfl <| qM rfl rfl rfl <| qO rfl <| zA2 rfl rfl zU1 (by simp) ?_
 refine qX rfl rfl rfl rfl co28 (errIs_spec 14 _) ?_
 refine qP rfl rfl rfl rfl <| qA rfl rfl rfl <| qN <| zK ?_
 exact zQ (.inr rfl) Tryz.results13 rfl (.of_eq (rfl)) (.bool _) ⟨rfl, rfl⟩
end Go.Proofs.YtnfcnpdpfgcchaaGreatDoor
