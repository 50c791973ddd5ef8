/-
  Texts on which the proof of PartsJoin leans: part 5.
-/
import Derived.Test.YtnfcnpdpfgcchaaGreatPartsJoinD
import Derived.Laws.MakeOwn
import Derived.Laws.IdiomStrings
set_option linter.unusedVariables false
set_option linter.unusedSimpArgs false
set_option maxRecDepth 20000
set_option maxHeartbeats 8000000
namespace Go.MV
open Go Go.RowKit
section
def OkD (ops : Array Oper) (i : Nat) (o : Oper) (D : Nat → Bool) : Prop := D i = false ∧ (∀ e, bindsOn o e = true → D e = true) ∧ ∀ (j : Nat) (p : Oper), ops[j]? = some p → D j = true → ∀ e, bindsOn p e = true → D e = true
def updD (D : Nat → Bool) (i : Nat) : Nat → Bool := fun j => if j = i then true else D j
def dOpsS (P : Program) (rd : Option Nat) (ops : Array Oper) (st : (Nat → Bool) → MS) (Q : Env → Prop) : List Oper → Nat → Env → Prop
 | [], _, env => Q env
 | o :: rest, i, env =>
  match guardOk ops env o with
  | some true => ∃ x, (∀ D, OkD ops i o D → OpWp P rd o env (st D) fun x' σ' => x' = x ∧ σ' = st (updD D i)) ∧ dOpsS P rd ops st Q rest (i + 1) (putd o.dst x env)
  | some false => (∀ D, st (updD D i) = st D) ∧ dOpsS P rd ops st Q rest (i + 1) (putd o.dst (.tup []) env)
  | none => False
section
variable {P : Program} {rd : Option Nat} {N n : Nat} {ops : Array Oper} {env : Env} {σ : MS} {st : (Nat → Bool) → MS}
theorem dOpsS_op {Q : Env → Prop} {o : Oper} {rest : List Oper} {i : Nat} {x : MV} (hg : guardOk ops env o = some true) (h : ∀ D, OkD ops i o D → OpWp P rd o env (st D) fun x' σ' => x' = x ∧ σ' = st (updD D i)) (hr : dOpsS P rd ops st Q rest (i + 1) (putd o.dst x env)) : dOpsS P rd ops st Q (o :: rest) i env := by
 simp only [dOpsS, hg]; exact ⟨x, h, hr⟩
theorem _root_.zB3 : type_of% @dOpsS_op := @dOpsS_op
theorem dOpsS_nil {Q : Env → Prop} {i : Nat} (h : Q env) : dOpsS P rd ops st Q [] i env := h
structure RowS (P : Program) (rd : Option Nat) (ops : Array Oper) (st : (Nat → Bool) → MS) (E : Nat → Env) (X : Nat → MV) (B : Nat → Bool) (from_ n : Nat) : Prop where
 step : ∀ (i : Nat) (o : Oper), from_ ≤ i → ops[i]? = some o → guardOk ops (E i) o = some (B i) ∧
  (B i = true → ∀ D, OkD ops i o D → OpWp P rd o (E i) (st D) fun x' σ' => x' = X i ∧ σ' = st (updD D i)) ∧
  (B i = false → (∀ D, st (updD D i) = st D) ∧ X i = .tup []) ∧ E (i + 1) = putd o.dst (X i) (E i)
theorem dOpsS_row {Q : Env → Prop} : ∀ (l : List Oper) (k : Nat) (env : Env), (∀ j, l[j]? = ops[k + j]?) → dOpsS P rd ops st Q l k env → ∃ E X B, RowS P rd ops st E X B k ops.size ∧ E k = env ∧ Q (E (k + l.length))
 | [], k, env, hl, h => ⟨fun _ => env, fun _ => .tup [], fun _ => false, ⟨fun i o hi ho => by
   have := hl (i - k)
   rw [show k + (i - k) = i by omega, ho] at this
   cases this⟩, rfl, h⟩
 | o :: l, k, env, hl, h => by
  have ho : ops[k]? = some o := by simpa using (hl 0).symm
  have hl' : ∀ j, l[j]? = ops[k + 1 + j]? := fun j => by
   have := hl (j + 1)
   rw [List.getElem?_cons_succ] at this
   rw [this, show k + (j + 1) = k + 1 + j by omega]
  simp only [dOpsS] at h
  have build : ∀ (x : MV) (b : Bool), guardOk ops env o = some b → (b = true → ∀ D, OkD ops k o D → OpWp P rd o env (st D) fun x' σ' => x' = x ∧ σ' = st (updD D k)) →
    (b = false → (∀ D, st (updD D k) = st D) ∧ x = .tup []) → dOpsS P rd ops st Q l (k + 1) (putd o.dst x env) →
    ∃ E X B, RowS P rd ops st E X B k ops.size ∧ E k = env ∧ Q (E (k + (o :: l).length)) := by
   intro x b hg hx hx' hr
   obtain ⟨E, X, B, hrow, hE, hQ⟩ := dOpsS_row l (k + 1) _ hl' hr
   refine ⟨fun i => if i = k then env else E i, fun i => if i = k then x else X i, fun i => if i = k then b else B i, ⟨fun i p hi hp => ?_⟩, by simp, ?_⟩
   ·by_cases e : i = k
    ·subst e
     rw [ho] at hp
     injection hp with hp
     subst hp
     simp only [if_true]
     refine ⟨hg, hx, hx', ?_⟩
     rw [if_neg (by omega)]
     exact hE
    ·simp only [if_neg e]
     rw [if_neg (by omega)]
     exact hrow.step i p (by omega) hp
   ·show Q (if k + (o :: l).length = k then env else E (k + (o :: l).length))
    rw [if_neg (by rw [zW]; omega)]
    rw [zW, show k + (l.length + 1) = k + 1 + l.length by omega]
    exact hQ
  split at h
  ·rename_i hg
   obtain ⟨x, hx, hr⟩ := h
   exact build x true hg (fun _ => hx) (fun h => by cases h) hr
  ·rename_i hg
   exact build _ false hg (fun h => by cases h) (fun _ => ⟨h.1, rfl⟩) h.2
  ·exact h.elim
theorem rowS_get {E : Nat → Env} {X : Nat → MV} {B : Nat → Bool} (hx : LexS n ops) (hrow : RowS P rd ops st E X B 0 ops.size) : ∀ (i : Nat), i ≤ ops.size → ∀ t,
  (∀ (j : Nat) (p : Oper), j < i → ops[j]? = some p → p.dst = some t → get (E i) t = some (X j)) ∧ ((∀ (j : Nat) (p : Oper), j < i → ops[j]? = some p → p.dst ≠ some t) → get (E i) t = get (E 0) t)
 | 0, _, t => ⟨fun j p hj => by omega, fun _ => rfl⟩
 | i + 1, hi, t => by
  obtain ⟨h1, h2⟩ := rowS_get hx hrow i (by omega) t
  have ho : ops[i]? = some ops[i] := Array.getElem?_eq_getElem (by omega)
  obtain ⟨_, _, _, hE⟩ := hrow.step i _ (Nat.zero_le _) ho
  rw [hE]
  refine ⟨fun j p hj hp hd => ?_, fun hno => ?_⟩
  ·by_cases e : j = i
   ·subst e
    rw [ho] at hp
    injection hp with hp
    subst hp
    rw [hd]
    exact zK4 _ _ _
   ·have hne : ops[i].dst ≠ some t := fun hd' => e (hx.inj j i p _ t hp ho hd hd')
    cases hdo : ops[i].dst with
    | none => exact h1 j p (by omega) hp hd
    | some d =>
     rw [hdo] at hne
     show get ((d, X i) :: E i) t = _
     rw [zH4 _ _ (fun e => hne (by rw [e]))]
     exact h1 j p (by omega) hp hd
  ·have hne := hno i _ (by omega) ho
   have hold := h2 fun j p hj => hno j p (by omega)
   cases hdo : ops[i].dst with
   | none => exact hold
   | some d =>
    rw [hdo] at hne
    show get ((d, X i) :: E i) t = _
    rw [zH4 _ _ (fun e => hne (by rw [e]))]
    exact hold
structure DInvS (P : Program) (rd : Option Nat) (N n m0 : Nat) (ops : Array Oper) (st : (Nat → Bool) → MS) (E : Nat → Env) (X : Nat → MV) (g0 : Gh) (w0 : World) (F : Fence) (listed : Array Bool) (a : Act) (w : World) (g : Gh) : Prop where
 fok : FOkN N g rd F
 rel : Rel g (st fun j => listed.getD j false) w
 le : LeN N g0 w0 g w
 sz : a.tmps.size = n
 marks : Marks m0 w a.defers
 old : ∀ t x, get (E 0) t = some x → (∀ (j : Nat) (p : Oper), ops[j]? = some p → p.dst = some t → listed.getD j true = false) → ∃ v, a.tmps[t]? = some v ∧ Rd g w x v
 new : ∀ (j : Nat) (p : Oper) (d : Nat), listed.getD j false = true → ops[j]? = some p → p.dst = some d → ∃ v, a.tmps[d]? = some v ∧ Rd g w (X j) v
 lsz : listed.size = ops.size
theorem DInvS.reads {m0 : Nat} {E : Nat → Env} {X : Nat → MV} {B : Nat → Bool} {g0 : Gh} {w0 : World} {F : Fence} {listed : Array Bool} {a : Act} {w : World} {g : Gh} (hx : LexS n ops) (hrow : RowS P rd ops st E X B 0 ops.size) (hI : DInvS P rd N n m0 ops st E X g0 w0 F listed a w g)
  {i : Nat} {o : Oper} (hi : ops[i]? = some o) (hnl : listed.getD i true = false) (hdep : ∀ e ∈ o.after, Region.binds .any e = true → listed.getD e.on false = true)
  (hcl : ∀ (j : Nat) (p : Oper), ops[j]? = some p → listed.getD j false = true → ∀ e ∈ p.after, Region.binds .any e = true → listed.getD e.on false = true) {t : Nat} (ht : t ∈ readsOf ops o) {x : MV} (hg : get (E i) t = some x) : ∃ v, a.tmps[t]? = some v ∧ Rd g w x v := by
 have hlt : i < ops.size := (Array.getElem?_eq_some_iff.1 hi).1
 obtain ⟨h1, h2⟩ := rowS_get hx hrow i (by omega) t
 by_cases hex : ∃ (j : Nat) (p : Oper), j < i ∧ ops[j]? = some p ∧ p.dst = some t
 ·obtain ⟨j, p, hji, hp, hd⟩ := hex
  rcases hx.dep i j o p t hi hp ht hd with ⟨_, e, he, hb, hon⟩ | ⟨hij, _⟩ | hij
  ·rw [h1 j p hji hp hd] at hg
   injection hg with hg
   subst hg
   exact hI.new j p t (by rw [← hon]; exact hdep e he hb) hp hd
  ·omega
  ·omega
 ·have hno : ∀ (j : Nat) (p : Oper), j < i → ops[j]? = some p → p.dst ≠ some t := fun j p hj hp hd => hex ⟨j, p, hj, hp, hd⟩
  rw [h2 hno] at hg
  refine hI.old t x hg fun j p hp hd => ?_
  have hjs : j < ops.size := (Array.getElem?_eq_some_iff.1 hp).1
  have hji : ¬ j < i := fun hj => hno j p hj hp hd
  rcases hx.dep i j o p t hi hp ht hd with ⟨hj, _⟩ | ⟨hij, e, he, hb, hon⟩ | hij
  ·omega
  ·cases hl : listed.getD j true with
   | false => rfl
   | true =>
    rw [getD_ff hI.lsz hjs] at hl
    have := hcl j p hp hl e he hb
    rw [hon, ← getD_ff hI.lsz hlt, hnl] at this
    cases this
  ·subst hij; exact hnl
theorem drawS_sound {m0 : Nat} {E : Nat → Env} {X : Nat → MV} {B : Nat → Bool} {g0 : Gh} {w0 : World} {F : Fence} {Q : Exit → Env → MS → Prop} (hx : LexS n ops) (hrow : RowS P rd ops st E X B 0 ops.size) (hQ : Q .normal (E ops.size) (st fun j => Nat.blt j ops.size)) :
  ∀ (fuel : Nat) (listed : Array Bool) (a : Act) (w : World) (g : Gh), DInvS P rd N n m0 ops st E X g0 w0 F listed a w g → (∀ (j : Nat) (p : Oper), ops[j]? = some p → listed.getD j false = true → ∀ e ∈ p.after, Region.binds .any e = true → listed.getD e.on false = true) →
   (List.range ops.size).countP (fun i => !listed.getD i true) ≤ fuel → wpAnyIn F 0 P .any ops (Left_ N g0 w0 n m0 Q) fuel listed a w := by
 have hend : ∀ (listed : Array Bool) (a : Act) (w : World) (g : Gh), DInvS P rd N n m0 ops st E X g0 w0 F listed a w g → (∀ i, i < ops.size → listed.getD i true = true) → Left_ N g0 w0 n m0 Q .normal a w := by
  intro listed a w g hI hall
  have hallf : ∀ i, i < ops.size → listed.getD i false = true := fun i hi => by rw [← getD_ff hI.lsz hi]; exact hall i hi
  have hs : (fun j => listed.getD j false) = fun j => Nat.blt j ops.size := by
   funext j
   rcases Nat.lt_or_ge j ops.size with h | h
   ·rw [hallf j h]
    exact (by simpa using h : Nat.blt j ops.size = true).symm
   ·have h2 : Nat.blt j ops.size = false := by
     cases hb : Nat.blt j ops.size with
     | false => rfl
     | true =>
      have : j < ops.size := by simpa using hb
      omega
    rw [h2]
    have := hI.lsz
    simp [Array.getD_eq_getD_getElem?, Array.getElem?_eq_none (show listed.size ≤ j by omega)]
  have hrel := hI.rel
  rw [hs] at hrel
  refine ⟨E ops.size, _, g, hQ, hrel, fun t x hg => ?_, hI.le, hI.sz, hI.marks⟩
  obtain ⟨h1, h2⟩ := rowS_get hx hrow ops.size (Nat.le_refl _) t
  by_cases hex : ∃ (j : Nat) (p : Oper), ops[j]? = some p ∧ p.dst = some t
  ·obtain ⟨j, p, hp, hd⟩ := hex
   have hlt : j < ops.size := (Array.getElem?_eq_some_iff.1 hp).1
   rw [h1 j p hlt hp hd] at hg
   injection hg with hg
   subst hg
   exact hI.new j p t (hallf j hlt) hp hd
  ·have hno : ∀ (j : Nat) (p : Oper), ops[j]? = some p → p.dst ≠ some t := fun j p hp hd => hex ⟨j, p, hp, hd⟩
   rw [h2 fun j p _ hp => hno j p hp] at hg
   exact hI.old t x hg fun j p hp hd => absurd hd (hno j p hp)
 have hready : ∀ (listed : Array Bool), listed.size = ops.size → Region.ready .any ops listed = [] → ∀ i, i < ops.size → listed.getD i true = true := by
  intro listed hls hnil i
  induction i using Nat.strongRecOn with
  | _ i ih =>
   intro hi
   cases hli : listed.getD i true with
   | true => rfl
   | false =>
    exfalso
    have ho : ops[i]? = some ops[i] := Array.getElem?_eq_getElem hi
    have hm : i ∈ Region.ready .any ops listed := by
     simp only [Region.ready, List.mem_filter, List.mem_range, Bool.and_eq_true]
     refine ⟨hi, by rw [hli]; rfl, ?_⟩
     rw [ho]
     simp only [Option.map_some, Option.getD_some, Array.all_eq_true_iff_forall_mem, Bool.or_eq_true, Bool.not_eq_true']
     intro e he
     cases hb : Region.binds .any e with
     | false => exact .inl rfl
     | true =>
      right
      have hlt := hx.back i _ e ho he hb
      rw [← getD_ff hls (show e.on < ops.size by omega)]
      exact ih e.on hlt (by omega)
    rw [hnil] at hm
    cases hm
 intro fuel
 induction fuel with
 | zero =>
  intro listed a w g hI hcl hc
  have hall : ∀ i, i < ops.size → listed.getD i true = true := by
   intro i hi
   have h0 : (List.range ops.size).countP (fun i => !listed.getD i true) = 0 := by omega
   rw [List.countP_eq_zero] at h0
   have := h0 i (List.mem_range.2 hi)
   simpa using this
  refine ⟨?_, hend listed a w g hI hall⟩
  simp only [Region.ready, List.filter_eq_nil_iff, List.mem_range, Bool.and_eq_true, not_and]
  intro i hi hf
  rw [hall i hi] at hf
  cases hf
 | succ fuel ih =>
  intro listed a w g hI hcl hc
  refine ⟨fun hnil => hend listed a w g hI (hready listed hI.lsz hnil), fun i hi => ?_⟩
  obtain ⟨hlt, hnl, hdep⟩ : i < ops.size ∧ listed.getD i true = false ∧ ∀ (o : Oper), ops[i]? = some o → ∀ e ∈ o.after, Region.binds .any e = true → listed.getD e.on false = true := by
   simp only [Region.ready, List.mem_filter, List.mem_range, Bool.and_eq_true, Bool.not_eq_true'] at hi
   refine ⟨hi.1, hi.2.1, fun o ho e he hb => ?_⟩
   have := hi.2.2
   rw [ho] at this
   simp only [Option.map_some, Option.getD_some, Array.all_eq_true_iff_forall_mem, Bool.or_eq_true, Bool.not_eq_true'] at this
   rcases this e he with h | h
   ·rw [hb] at h; cases h
   ·exact h
  have ho : ops[i]? = some ops[i] := Array.getElem?_eq_getElem hlt
  obtain ⟨hg, hT, hF, hE⟩ := hrow.step i _ (Nat.zero_le _) ho
  have hil : i < listed.size := by rw [hI.lsz]; exact hlt
  have hnlf : listed.getD i false = false := by rw [← getD_ff hI.lsz hlt]; exact hnl
  have hwant : Region.wanted ops[i] (yielded ops a.tmps) = B i := by
   refine guardOk_wanted (g := g) (w := w) hg fun j want d x hgd hjd hx' => ?_
   refine hI.reads hx hrow ho hnl (hdep _ ho) hcl ?_ hx'
   simp only [readsOf, hgd, hjd, Option.toList_some]
   simp
  have hset : ∀ j, j ≠ i → (listed.setIfInBounds i true).getD j false = listed.getD j false := fun j hj => getD_set_ne _ (fun h => hj h.symm)
  have hseti : (listed.setIfInBounds i true).getD i false = true := by simp [Array.getD_eq_getD_getElem?, Array.getElem?_setIfInBounds_self_of_lt hil]
  have hupd : (fun j => (listed.setIfInBounds i true).getD j false) = updD (fun j => listed.getD j false) i := by
   funext j
   unfold updD
   by_cases e : j = i
   ·subst e; rw [if_pos rfl]; exact hseti
   ·rw [if_neg e]; exact hset j e
  have next : ∀ (v : Value) (w' : World) (g' : Gh), Rel g' (st (updD (fun j => listed.getD j false) i)) w' → Rd g' w' (X i) v → Le g w g' w' →
    wpAnyIn F 0 P .any ops (Left_ N g0 w0 n m0 Q) fuel (listed.setIfInBounds i true) (a.put ops[i].dst v) w' := by
   intro v w' g' hr' hv hl
   refine ih _ _ w' g' ⟨hI.fok.mono (hl.toN N), by rw [hupd]; exact hr', hI.le.trans (hl.toN N), by rw [size_put]; exact hI.sz, by rw [defers_put]; exact hI.marks.mono hl, fun t x hgt hno => ?_, fun j p d hj hp hd => ?_, by simpa using hI.lsz⟩ (fun j p hp hj e he hb => ?_) ?_
   ·have hnoi : ops[i].dst ≠ some t := fun hd => by
     have := hno i _ ho hd
     simp [Array.getD_eq_getD_getElem?, Array.getElem?_setIfInBounds_self_of_lt hil] at this
    obtain ⟨u, hu, hr⟩ := hI.old t x hgt fun j p hp hd => by
     have hji : j ≠ i := fun e => by
      subst e
      rw [ho] at hp
      injection hp with hp
      subst hp
      exact hnoi hd
     have := hno j p hp hd
     rw [getD_set_ne _ (fun h => hji h.symm)] at this
     exact this
    refine ⟨u, ?_, hr.mono hl⟩
    cases hd : ops[i].dst with
    | none => exact hu
    | some d =>
     rw [hd] at hnoi
     show (a.tmps.setIfInBounds d v)[t]? = _
     rw [Array.getElem?_setIfInBounds_ne (fun e => hnoi (by rw [e]))]
     exact hu
   ·by_cases e : j = i
    ·subst e
     rw [ho] at hp
     injection hp with hp
     subst hp
     refine ⟨v, ?_, hv⟩
     rw [hd]
     show (a.tmps.setIfInBounds d v)[d]? = _
     have := hx.lt j _ d ho hd
     simp [Array.getElem?_setIfInBounds_self_of_lt (show d < a.tmps.size by rw [hI.sz]; exact this)]
    ·rw [hset j e] at hj
     obtain ⟨u, hu, hr⟩ := hI.new j p d hj hp hd
     refine ⟨u, ?_, hr.mono hl⟩
     cases hdi : ops[i].dst with
     | none => exact hu
     | some d' =>
      show (a.tmps.setIfInBounds d' v)[d]? = _
      rw [Array.getElem?_setIfInBounds_ne (fun ed => e (hx.inj j i p _ d hp ho hd (by rw [hdi, ed])))]
      exact hu
   ·have hon : listed.getD e.on false = true := by
     by_cases ej : j = i
     ·subst ej
      rw [ho] at hp
      injection hp with hp
      subst hp
      exact hdep _ ho e he hb
     ·rw [hset j ej] at hj
      exact hcl j p hp hj e he hb
    exact getD_set_true hon
   ·have hlt2 : (List.range ops.size).countP (fun k => !(listed.setIfInBounds i true).getD k true) < (List.range ops.size).countP (fun k => !listed.getD k true) := by
     have hsplit : ∀ (l : List Nat), i ∈ l → l.countP (fun k => !(listed.setIfInBounds i true).getD k true) < l.countP (fun k => !listed.getD k true) := by
      have hle : ∀ (l : List Nat), l.countP (fun k => !(listed.setIfInBounds i true).getD k true) ≤ l.countP (fun k => !listed.getD k true) := by
       intro l
       refine List.countP_mono_left fun k _ hk => ?_
       by_cases e : k = i
       ·subst e
        simp [Array.getD_eq_getD_getElem?, Array.getElem?_setIfInBounds_self_of_lt hil] at hk
       ·rw [getD_set_ne _ (fun h => e h.symm)] at hk
        exact hk
      intro l
      induction l with
      | nil => intro h; cases h
      | cons k l ihl =>
       intro hm
       rw [List.countP_cons, List.countP_cons]
       by_cases e : k = i
       ·subst e
        have e1 : (!(listed.setIfInBounds k true).getD k true) = false := by simp [Array.getD_eq_getD_getElem?, Array.getElem?_setIfInBounds_self_of_lt hil]
        rw [e1, hnl]
        have := hle l
        simp only [Bool.not_false, if_true, Bool.false_eq_true, if_false]
        omega
       ·have hm' : i ∈ l := by
         rcases List.mem_cons.1 hm with h | h
         ·exact absurd h.symm e
         ·exact h
        have := ihl hm'
        rw [getD_set_ne _ (fun h => e h.symm)]
        omega
     exact hsplit _ (List.mem_range.2 hlt)
    omega
  have hopd : ∀ x ∈ ops[i].op.operands, ∀ m, evo (E i) x = some m → Rd g w m (a.eval x) := fun x hxo m hm => by
   cases x with
   | tmp t =>
    obtain ⟨v, hv, hr⟩ := hI.reads hx hrow ho hnl (hdep _ ho) hcl (t := t) (by
     simp only [readsOf, zJ1]
     left
     simp only [opTmps, List.mem_filterMap]
     exact ⟨.tmp t, by simpa using hxo, rfl⟩) hm
    simp only [Act.eval, Array.getD_eq_getD_getElem?, hv, Option.getD_some]
    exact hr
   | const v => exact constMV_rd _ _ hm
   | func f =>
    injection hm with hm
    subst hm
    exact .fn' (.nil _ _) (.nil _ _)
   | global _ => cases hm
  have hok : OkD ops i ops[i] (fun j => listed.getD j false) := by
   refine ⟨hnlf, fun e hb => ?_, fun j p hp hj e hb => ?_⟩
   ·obtain ⟨ed, hed, hbd, hon⟩ := bindsOn_iff.1 hb
    rw [← hon]
    exact hdep _ ho ed hed hbd
   ·obtain ⟨ed, hed, hbd, hon⟩ := bindsOn_iff.1 hb
    rw [← hon]
    exact hcl j p hp hj ed hed hbd
  unfold wpOpIn
  rw [ho]
  simp only
  rw [hwant]
  cases hB : B i with
  | true =>
   simp only [if_true]
   have hop := hT hB _ hok g w a F hI.fok.ok hI.rel hopd
   have h2 := Oper.wpIn_mono (K' := wpAnyIn F 0 P .any ops (Left_ N g0 w0 n m0 Q) fuel (listed.setIfInBounds i true)) ?_ hop
   ·refine ⟨h2.1, ?_⟩
    have h3 := h2.2
    revert h3
    generalize (Oper.semAt F.round a.eval ops[i]).run P w = r
    intro h3
    cases r with
    | ok x w' =>
     cases x with
     | value v => exact h3
     | skip => exact h3
     | defer d => exact h3
     | enter f args =>
      refine ⟨h3.1, h3.2.mono ?_⟩
      rintro (⟨v⟩ | ⟨c⟩ | _) w'' hx
      ·exact hx
      ·exact hx.elim
      ·obtain ⟨_, _, hx⟩ := hx; exact hx.elim
     | row r' args => exact h3
     | round l f t b c =>
      refine ⟨h3.1, h3.2.mono ?_⟩
      rintro (⟨v⟩ | ⟨c⟩ | _) w'' hx
      ·exact hx
      ·exact hx.elim
      ·obtain ⟨_, _, hx⟩ := hx; exact hx.elim
     | _ => exact h3.elim
    | halt x w' =>
     cases x with
     | panic v => exact h3.elim
     | _ => exact h3.elim
   ·rintro a' w' ⟨v, rfl, x, σ', g', ⟨rfl, rfl⟩, hr', hv, hl⟩
    exact next v w' g' hr' hv hl
  | false =>
   simp only [Bool.false_eq_true, if_false]
   obtain ⟨hne, hX⟩ := hF hB
   refine ⟨fun f _ => hI.fok.ok.fn f, next undef w g (by rw [hne]; exact hI.rel) ?_ (.refl _ _)⟩
   rw [hX]
   exact rd_undef _ _
theorem mwp_drawS {Q : Exit → Env → MS → Prop} {id : Nat} (st : (Nat → Bool) → MS) (hm : P.follows .mixedOrders = true) (hb : lexOk n ops = true) (h0 : st (fun _ => false) = σ)
  (h : dOpsS P rd ops st (fun env => Q .normal env (st fun j => Nat.blt j ops.size)) ops.toList 0 env) : mwp P rd N n (.region id ops true) Q env σ := by
 intro g w a F m0 hF hr he hn hmk
 have hx := lexOk_spec hb
 obtain ⟨E, X, B, hrow, hE, hQ⟩ := dOpsS_row (P := P) (rd := rd) ops.toList 0 env (fun j => by simp) h
 rw [Nat.zero_add, Array.length_toList] at hQ
 refine wpIn_region_any hm ?_
 have hl := Le.drew g w
 have hrepf : ∀ (j : Nat), (Array.replicate ops.size false).getD j false = false := fun j => by
  simp only [Array.getD_eq_getD_getElem?, Array.getElem?_replicate]
  split <;> rfl
 have h0' : st (fun j => (Array.replicate ops.size false).getD j false) = σ := by
  rw [← h0]
  congr 1
  funext j
  exact hrepf j
 refine drawS_sound hx hrow hQ ops.size _ a w.drew g ⟨hF.mono (hl.toN N), by rw [h0']; exact hr.drew, hl.toN N, hn, hmk.mono hl, fun t x hg hno => ?_, fun j p d hj hp hd => ?_, by simp⟩ (fun j p hp hj => ?_) ?_
 ·rw [hE] at hg
  obtain ⟨v, hv, hrd⟩ := he t x hg
  exact ⟨v, hv, hrd.mono hl⟩
 ·rw [hrepf] at hj; cases hj
 ·rw [hrepf] at hj; cases hj
 ·have := List.countP_le_length (p := fun i => !(Array.replicate ops.size false).getD i true) (l := List.range ops.size)
  rw [List.length_range] at this
  exact this
end
end
section
section
variable {P : Program} {rd : Option Nat} {o : Oper} {env : Env} {σ : MS} {K : MV → MS → Prop}
end
end
section
section
variable {P : Program} {rd : Option Nat} {o : Oper} {env : Env} {σ : MS} {K : MV → MS → Prop}
theorem gets_vec {g : Gh} {w : World} (hr : Rel g σ w) {l : List MV} {us : List Value} {sz n c : Nat} (hl : Rds g w l us) (ty : TypeId) {fr : Nat × Nat} (hfr : FrOk fr us.length) (hn : n ≤ c) (hc : c ≤ maxLen) (h : K (.vec σ.length 0 sz n c) (σ ++ [.cells l])) :
  Gets g w K (.slice (some ⟨w.heap.size, 0, none⟩) n c) (w.alloc (.cells us.toArray ty fr)) := by
 obtain ⟨g', h1, h2, h3⟩ := hr.alloc_objF hl ty fr hfr
 exact ⟨_, _, g', h, h1, .vec _ _ _ _ _ _ h3 hn hc, h2⟩
theorem op_buildSliceV {t e n sz bytes : Nat} {parts : Array (Nat × Operand)} {ms : List MV} (ho : o.op = .buildSlice t n parts) (hu : P.underlying t = some (.slice e)) (he : elemOk P e sz bytes = true) (hp : partsOf env 0 parts.toList = some ms) (hn : ms.length = n) (hn0 : 0 < n) (hsm : n * sz ≤ 16777216)
  (hsz : allSz sz ms = true) (h : K (.vec σ.length 0 sz n n) (σ ++ [.cells (flat ms)])) : OpWp P rd o env σ K := by
 replace hsz := allSz_spec hsz
 refine OpWp.of_run (by simp [ho]) fun g w a hr hop => ?_
 obtain ⟨i, z, hi, hz, hs, hb, hzs, hpos⟩ := elemOk_spec he
 obtain ⟨k1, k2⟩ := partsOf_some (a := a) hp
 have hrds : Rds g w ms (parts.toList.map fun p => a.eval p.2) := k1 fun p hpm m hm => hop p.2 (by simp only [ho, Op.operands, List.mem_toArray, List.mem_map]; simp; exact ⟨p.1, by simpa using hpm⟩) m hm
 have hcs : ∀ v ∈ (parts.toList.map fun p => a.eval p.2), v.cells.size = sz := by
  intro v hv
  obtain ⟨j, hj⟩ := List.getElem?_of_mem hv
  have hlt : j < ms.length := by rw [← hrds.1]; exact (zH.1 hj).1
  obtain ⟨cs, hc, hr⟩ := rds_cells (hrds.2 j _ v (zD hlt) hj)
  rw [hc]
  simp only [List.size_toArray, hr.1]
  exact hsz _ (List.getElem_mem hlt)
 have hlen : (parts.toList.map fun p => a.eval p.2).length = n := by rw [hrds.1, hn]
 obtain ⟨res, f1, f2⟩ := fill_all (sz := sz) (parts.toList.map fun p => a.eval p.2) 0 ((Array.range (n * sz)).map (z.cells[· % z.cells.size]!)) hcs (by rw [hlen]; simp)
 rw [hlen] at f2
 simp only [Nat.zero_mul, List.take_zero, List.nil_append, Nat.zero_add] at f2
 have f3 : ((Array.range (n * sz)).map (z.cells[· % z.cells.size]!)).toList.drop (n * sz) = [] := List.drop_eq_nil_of_le (by simp)
 rw [f3, List.append_nil] at f2
 have hres : res = ((parts.toList.map fun p => a.eval p.2).flatMap fun v => v.cells.toList).toArray := by
  rw [← f2]
 have hflat := flat_rds hrds
 have hnz : 0 < n * sz := Nat.mul_pos hn0 hpos
 refine ⟨_, _, ?_, gets_vec hr hflat e (.inl V) (Nat.le_refl n) (by
  have : n * 1 ≤ n * sz := Nat.mul_le_mul_left n hpos
  simp only [maxLen]; omega) h⟩
 have hrun := run_buildSlice (P := P) w t e n (parts.map fun (i, x) => (i, a.eval x)) res i z hu hi hz (by rw [hs]; omega) (by rw [hs]; omega) (by
  rw [hs, ← f1]
  congr 1
  rw [← k2]
  simp)
 simp only [execOp, ho, Sem.run_bind, hrun, Result.andThen_ok, Sem.run_pure, hres]
theorem op_indexAddr_vec {t e : TypeId} {x y : Operand} {id off sz n c i : Nat} {k : IntKind} {m : Int} (ho : o.op = .indexAddr t x y) (hu : P.underlying t = some (.slice e)) (hs : szOf P e = some sz) (hx : evo env x = some (.vec id off sz n c)) (hy : evo env y = some (.int k m)) (hm : m = (i : Int)) (hi : i < n) (h : K (.ref id (off + i * sz)) σ) : OpWp P rd o env σ K := by
 refine OpWp.of_run (by simp [ho]) fun g w a hr hop => ?_
 subst hm
 obtain ⟨b, hb, h1, h2, hv⟩ := (hop x (by simp [ho, Op.operands]) _ hx).inv_vec
 have hv2 := (hop y (by simp [ho, Op.operands]) _ hy).inv_int
 refine ⟨.pointer (some ⟨b, off + i * sz, none⟩), w, ?_, .same h hr (.ref _ _ _ hb)⟩
 simp [execOp, ho, Instr.indexAt, hv, hv2, asIntOf, run_underlying hu, hi, zY5 hs, zA5]
end
theorem Rel.freeze {g : Gh} {σ : MS} {w : World} (h : Rel g σ w) {id b k : Nat} {l : List MV} (hσ : σ[id]? = some (.cells l)) (hb : g.bk id = some b) (hk : k ≤ l.length) :
  Rel (g.stab b k) (σ.set id .gone) w ∧ Le g w (g.stab b k) w := by
 obtain ⟨own, hown⟩ := h.ex
 obtain ⟨b', us, ty, e1, e2, e3, ⟨fr, e4, _⟩, e5⟩ := hown.obj _ _ hσ
 rw [hb] at e2
 injection e2 with e2
 subst e2
 have hle : Le g w (g.stab b k) w := by
  refine ⟨⟨rfl, rfl, fun c i hi => ⟨?_, rfl⟩, fun _ _ h => h, fun _ _ _ h => h, Nat.le_refl _⟩, fun _ _ h => h⟩
  simp only [Gh.stab]
  split
  ·rename_i e; subst e; omega
  ·exact hi
 have hg := h.gone id
 refine ⟨⟨h.below, h.base, fun c hc => ?_, fun i hi => h.bkn i (by simpa using hi), fun t n ht => h.lgn t n (by simpa using ht), ?_⟩, hle⟩
 ·simp only [Gh.stab]
  split
  ·rename_i e
   subst e
   have := (hown.lt id c e1).2.2
   omega
  ·exact h.fresh c hc
 ·refine ⟨fun i => if i = id then none else own i, ⟨fun i ob hi => ?_, fun i j c hi hj => ?_, fun i c hi => ?_⟩⟩
  ·by_cases e : i = id
   ·subst e
    rw [List.getElem?_set, if_pos rfl] at hi
    split at hi
    ·injection hi with hi
     subst hi
     simp [ObjRel]
    ·cases hi
   ·rw [if_neg e]
    rw [List.getElem?_set_ne (fun h => e h.symm)] at hi
    refine (hown.obj i ob hi).keep0 hle.toLe0 (fun c hc => ⟨rfl, ?_⟩) (fun _ => V)
    simp only [Gh.stab]
    rw [if_neg]
    intro ec
    subst ec
    exact e (hown.inj _ _ _ hc e1)
  ·split at hi
   ·cases hi
   ·split at hj
    ·cases hj
    ·exact hown.inj i j c hi hj
  ·split at hi
   ·cases hi
   ·obtain ⟨h1, h2⟩ := hown.lt i c hi
    exact ⟨by simpa using h1, h2⟩
section
variable {P : Program} {rd : Option Nat} {N n : Nat} {c : Code} {Q : Exit → Env → MS → Prop} {env : Env} {S L : MS}
end
end
section
theorem Rel.obj_set {g g' : Gh} {σ : MS} {w w' : World} (h : Rel g σ w) {t : Nat} {mo : MObj} (htl : t < σ.length) {own : Nat → Option Nat} (ho : Owns g σ w own) (hl : Le g w g' w') (hb : Below g.B g.w0 w') (hfr : ∀ b, w'.heap.size ≤ b → g'.st b = 0) (hbk : g'.bk = g.bk)
  (hlg : ∀ id k, id ≠ t → g'.lg id k = g.lg id k) (hst : ∀ id b, id ≠ t → own id = some b → w'.heap[b]? = w.heap[b]? ∧ g'.st b = g.st b) {ob : Option Nat} (hob : ObjRel g' w' ob t mo) (hne : ∀ id b, id ≠ t → own id = some b → ob ≠ some b) (hblt : ∀ b, ob = some b → g.B ≤ b ∧ b < w'.heap.size) :
  Rel g' (σ.set t mo) w' := by
 refine ⟨by rw [hl.B, hl.w0]; exact hb, by rw [hl.B, hl.w0]; exact h.base, hfr, fun id hid => by rw [hbk]; exact h.bkn id (by simpa using hid), fun s k hs => by rw [hlg s k (by simp at hs; omega)]; exact h.lgn s k (by simpa using hs), fun id => if id = t then ob else own id, ⟨fun id o hid => ?_, fun i j b hi hj => ?_, fun id b hid => ?_⟩⟩
 ·by_cases e : id = t
  ·subst e
   simp only [if_true]
   rw [List.getElem?_set_self htl] at hid
   injection hid with hid
   subst hid
   exact hob
  ·rw [if_neg e]
   rw [List.getElem?_set_ne (fun h => e h.symm)] at hid
   exact (ho.obj id o hid).keep0 hl.toLe0 (fun b hb => hst id b e hb) fun k => hlg id k e
 ·by_cases ei : i = t
  ·by_cases ej : j = t
   ·omega
   ·simp only [ei, if_true] at hi
    simp only [ej, if_false] at hj
    exact absurd hi (hne j b ej hj)
  ·by_cases ej : j = t
   ·simp only [ej, if_true] at hj
    simp only [ei, if_false] at hi
    exact absurd hj (hne i b ei hi)
   ·simp only [ei, ej, if_false] at hi hj
    exact ho.inj i j b hi hj
 ·by_cases e : id = t
  ·subst e
   simp only [if_true] at hid
   obtain ⟨h1, h2⟩ := hblt b hid
   exact ⟨by simpa using htl, by rw [hl.B]; exact h1, h2⟩
  ·simp only [e, if_false] at hid
   obtain ⟨h1, h2, h3⟩ := ho.lt id b hid
   exact ⟨by simpa using h1, by rw [hl.B]; exact h2, Nat.lt_of_lt_of_le h3 hl.size⟩
section
variable {P : Program} {rd : Option Nat} {o : Oper} {env : Env} {σ : MS} {K : MV → MS → Prop}
theorem gets_append_ow {g : Gh} {w : World} (hr : Rel g σ w) {tt ty' e sz bytes t n : Nat} {l : List MV} (hu : P.underlying tt = some (.slice e)) (he : elemOk P e sz bytes = true) (hσ : σ[t]? = some (.orow e sz n l)) {ys : List MV} {tok : Option Nat} {v vy : Value} (hx : Rd g w (.ow t sz n) v)
  (hy : Rd g w (.lst tok sz ys) vy) (hbound : (n + ys.length) * bytes ≤ 140737488355328) (hml : n + ys.length ≤ 4611686018427387904) (hK : K (.ow t sz (n + ys.length)) (σ.set t (.orow e sz (n + ys.length) (l ++ flat ys)))) :
  ∃ v' w', (Builtin.append_ #[tt, tt] ty' #[v, vy]).run P w = .ok v' w' ∧ Gets g w K v' w' := by
 obtain ⟨i, z, hi, hz, hs, hb, hzs, hpos⟩ := elemOk_spec he
 have hlv := hx.inv_ow
 obtain ⟨a', c', us', hvy, k1, k2, k3, k4, k5, _⟩ := hy.inv_lst
 have hsmall : n + ys.length ≤ maxLen := by simp only [maxLen]; omega
 have hlen' : us'.length = ys.length * i.size := by rw [hs, k4.1, zB6 k3]
 obtain ⟨own, ho⟩ := hr.ex
 obtain ⟨v0, us, f1, f2, f3, f4, f5, f6⟩ := ho.obj t _ hσ
 have hvv : v0 = v := by
  rw [hlv] at f1
  injection f1 with f1
  exact f1.symm
 subst hvv
 have htl : t < σ.length := (zH.1 hσ).1
 have hlen : us.length = n * i.size := by rw [hs]; exact f2.1
 by_cases hm : ys = []
 ·subst hm
  simp only [List.length_nil, Nat.add_zero, flat_nil, List.append_nil] at hK
  rw [set_self hσ] at hK
  refine ⟨v0, w, ?_, .same hK hr hx⟩
  subst hvy
  have e0 : ∀ ad : Addr, (loadCells ad 0).run P w = .ok #[] w := fun ad => rfl
  rcases f2.2 with ⟨rfl, rfl⟩ | ⟨b, cap, cur, rfl, _, _, hnc, _⟩
  ·cases a' <;> simp [Builtin.append_, run_underlying hu, sizeOf, typeInfo, hi, Builtin.lenOf, Builtin.firstCells, e0]
  ·cases a' <;> simp [Builtin.append_, run_underlying hu, sizeOf, typeInfo, hi, Builtin.lenOf, Builtin.firstCells, hnc, e0, storeCells]
 have hmpos : 0 < ys.length := List.length_pos_iff.2 hm
 have hp' : 0 < us'.length := by rw [hlen', hs]; exact Nat.mul_pos hmpos hpos
 obtain ⟨ad', rfl, _⟩ := k5 0 us'[0] (zD hp')
 have hnews : ∀ (j : Nat) (u : Value), us'[j]? = some u → w.cell? (ad'.add j) = some u := fun j u hj => by
  obtain ⟨ad2, e2, hst⟩ := k5 j u hj
  injection e2 with e2
  subst e2
  exact hst.2.1
 have hone : ∀ u ∈ us', u.oneCell' = true := fun u hmem => by
  obtain ⟨j, hj⟩ := List.getElem?_of_mem hmem
  obtain ⟨_, _, hst⟩ := k5 j u hj
  exact hst.2.2
 have fresh_case : ∀ (cap : Nat) (rest : Array Value), n + ys.length ≤ cap → cap ≤ maxLen → rest.size = (cap - (n + ys.length)) * sz →
   Gets g w K (.slice (some ⟨w.heap.size, 0, none⟩) (n + ys.length) cap) (w.drew.alloc (.cells (us.toArray ++ us'.toArray ++ rest) e)) := by
  intro cap rest hcap hcm hrest
  have harr : us.toArray ++ us'.toArray ++ rest = (us ++ us' ++ rest.toList).toArray := by
   apply Array.ext'
   simp
  rw [harr]
  have hr1 := hr.drew
  have l1 := Le.drew g w
  have l2 := Le.alloc_stab hr1 (.cells (us ++ us' ++ rest.toList).toArray e) 0
  have r2 := hr1.alloc_stab (.cells (us ++ us' ++ rest.toList).toArray e) 0
  generalize hg1 : g.stab w.drew.heap.size 0 = g1 at l2 r2
  generalize hw1 : w.drew.alloc (.cells (us ++ us' ++ rest.toList).toArray e) = w1 at l2 r2
  have ho1 : Owns g1 σ w1 own := by
   refine ho.keep (l1.trans l2) (fun id b e => ?_) (fun _ _ => by rw [← hg1]; rfl)
   have hlt := (ho.lt id b e).2.2
   rw [← hg1, ← hw1]
   refine ⟨Below.heap_alloc w.drew _ b hlt, ?_⟩
   simp only [Gh.stab]
   exact if_neg (Nat.ne_of_lt hlt)
  have l3 : Le g1 w1 (g1.log t (n + ys.length) (.slice (some ⟨w.heap.size, 0, none⟩) (n + ys.length) cap)) w1 := by
   refine ⟨⟨rfl, rfl, fun _ _ h => ⟨h, rfl⟩, fun _ _ h => h, fun s k u hv => ?_, Nat.le_refl _⟩, fun _ _ h => h⟩
   simp only [Gh.log]
   rw [if_neg]
   ·exact hv
   ·rintro ⟨rfl, rfl⟩
    have : g1.lg s (n + ys.length) = g.lg s (n + ys.length) := by rw [← hg1]; rfl
    rw [this, f5 _ (by omega)] at hv
    cases hv
  have hheap : w1.heap[w.heap.size]? = some (.cells (us ++ us' ++ rest.toList).toArray e (0, 0)) := by rw [← hw1]; exact heap_new w.drew _
  have hsz : w1.heap.size = w.heap.size + 1 := by rw [← hw1]; simp
  have hcurlen : (us ++ us' ++ rest.toList).length = cap * sz := by
   simp only [zM, hlen, hlen', hs, Array.length_toList, hrest]
   rw [← Nat.add_mul, ← Nat.add_mul]
   congr 1
   omega
  have hlall : (us ++ us').length = (n + ys.length) * sz := by rw [zM, hlen, hlen', hs, Nat.add_mul]
  have lall := l1.trans (l2.trans l3)
  refine ⟨_, _, g1.log t (n + ys.length) (.slice (some ⟨w.heap.size, 0, none⟩) (n + ys.length) cap), hK, ?_, ?_, lall⟩
  ·refine Rel.obj_set r2 htl ho1 l3 r2.below r2.fresh V (fun id k hid => ?_) (fun id b hid hb => Vv) (ob := some w.heap.size) ?_ (fun id b hid hb e => ?_) (fun b hb => ?_)
   ·simp only [Gh.log]; rw [if_neg (fun h => hid h.1)]
   ·refine ⟨.slice (some ⟨w.heap.size, 0, none⟩) (n + ys.length) cap, us ++ us', by simp [Gh.log], ?_, rfl, fun b hb => ?_, fun k hk => ?_, (f6.mono lall).append (k4.mono lall)⟩
    ·refine ⟨hlall, .inr ⟨w.heap.size, cap, _, rfl, ?_, hheap, hcap, hcm, by simpa using hcurlen, ?_⟩⟩
     ·have : (g1.log t (n + ys.length) (.slice (some ⟨w.heap.size, 0, none⟩) (n + ys.length) cap)).B = g.B := lall.B
      rw [this]
      exact hr.size
     ·rw [← hlall]
      exact List.take_left
    ·injection hb with hb
     subst hb
     rw [← hg1]
     simp only [Gh.log, Gh.stab]
     exact if_pos rfl
    ·simp only [Gh.log]
     rw [if_neg (by omega), ← hg1]
     exact f5 k (by omega)
   ·have := (ho.lt id b hb).2.2
    injection e with e
    omega
   ·injection hb with hb
    subst hb
    refine ⟨?_, by omega⟩
    rw [← hg1]
    exact hr.size
  ·exact .ow _ _ _ _ (by simp [Gh.log]) rfl rfl
 rcases f2.2 with ⟨hv0, hn0⟩ | ⟨b, cap, cur, hv0, hbB, hheap, hnc, hcm, hcs, htake⟩
 ·
  subst hv0
  have hus : us = [] := List.eq_nil_of_length_eq_zero (by rw [hlen, hn0]; simp)
  have hrun := run_append_nil (P := P) w tt ty' e i z hu hi hz ad' ys.length c' us' hlen' hnews hmpos (by omega) (by rw [hb]; rw [hn0] at hbound; simp only [Nat.zero_add] at hbound; omega)
  have hfc := fresh_case (grownCap w ys.length 0 e) (Builtin.zeroCells z.cells (grownCap w ys.length 0 e - ys.length)) (by rw [hn0, Nat.zero_add]; exact grownCap_ge w _ _ _) (grownCap_le_maxLen w _ _ _ (by rw [hn0] at hsmall; omega)) (by rw [size_zeroCells, hzs, hn0]; simp)
  rw [hus, hn0] at hfc
  simp only [Nat.zero_add, Array.empty_append] at hfc
  exact ⟨_, _, by rw [hvy]; exact hrun, hfc⟩
 ·subst hv0
  have holds' : ∀ (j : Nat) (u : Value), us[j]? = some u → w.cell? ((⟨b, 0, none⟩ : Addr).add j) = some u := fun j u hj => by
   have hjl : j < n * sz := by rw [← hs, ← hlen]; exact (zH.1 hj).1
   rw [zA5]
   simp only [World.cell?, hheap, Nat.zero_add, Option.isSome_none, Bool.false_eq_true, if_false]
   rw [← htake, List.getElem?_take, if_pos hjl] at hj
   simpa using hj
  by_cases hroom : n + ys.length ≤ cap
  ·
   have hfit : n * i.size + us'.length ≤ cur.size := by rw [hlen', hcs, hs, ← Nat.add_mul]; exact Nat.mul_le_mul_right _ hroom
   have hrun := run_append_room (P := P) w tt ty' e i hu hi b n cap cur hheap ad' ys.length c' us' hlen' hnews hone hroom hfit
   generalize hnc' : (cur.toList.take (n * i.size) ++ us' ++ cur.toList.drop (n * i.size + us'.length)).toArray = ncur at hrun
   have hob : own t = some b := by rw [← f3]; rfl
   have hstb : g.st b = 0 := f4 b hob
   have hbl := ho.lt t b hob
   have hheap' : (w.setRow b ncur).heap[b]? = some (.cells ncur e (0, 0)) := setRow_heap w b cur ncur e _ hheap
   have hother : ∀ k, k ≠ b → (w.setRow b ncur).heap[k]? = w.heap[k]? := fun k hk => setRow_other w b k ncur hk
   have hncur : ncur.toList = us ++ us' ++ cur.toList.drop ((n + ys.length) * sz) := by
    rw [← hnc', hs, htake, hlen', hs, ← Nat.add_mul]
   have hlall : (us ++ us').length = (n + ys.length) * sz := by rw [zM, hlen, hlen', hs, Nat.add_mul]
   let g1 : Gh := g.log t (n + ys.length) (.slice (some ⟨b, 0, none⟩) (n + ys.length) cap)
   have hl : Le g w g1 (w.setRow b ncur) := by
    refine ⟨⟨rfl, rfl, fun k j hj => ?_, fun _ _ h => h, fun s k u hu => ?_, by simp⟩, fun k x hxk => ?_⟩
    ·by_cases ek : k = b
     ·rw [ek, hstb] at hj
      exact absurd hj (Nat.not_lt_zero _)
     ·exact ⟨hj, World.cell?_of_block (w := w) (a := ⟨k, j, none⟩) (hother k ek)⟩
    ·show (if s = t ∧ k = n + ys.length then _ else g.lg s k) = _
     rw [if_neg]
     ·exact hu
     ·rintro ⟨rfl, rfl⟩
      rw [f5 _ (by omega)] at hu
      cases hu
    ·have : k ≠ b := fun e => by rw [e, hheap] at hxk; cases hxk
     exact (hother k this).trans hxk
   refine ⟨_, _, by rw [hvy]; exact hrun, _, _, g1, hK, ?_, ?_, hl⟩
   ·refine Rel.obj_set hr htl ho hl (hr.below.trans ⟨rfl, rfl, rfl, by simp, fun k hk => hother k (by omega)⟩) (fun k hk => ?_) V (fun id k hid => ?_) (fun id k hid hk => ?_) (ob := some b) ?_ (fun id k hid hk e => ?_) (fun k hk => ?_)
    ·simp only [setRow_size] at hk
     exact hr.fresh k hk
    ·show (if id = t ∧ k = n + ys.length then _ else g.lg id k) = _
     rw [if_neg (fun h => hid h.1)]
    ·have hkb : k ≠ b := fun e => by subst e; exact hid (ho.inj _ _ _ hk hob)
     exact ⟨hother k hkb, rfl⟩
    ·refine ⟨.slice (some ⟨b, 0, none⟩) (n + ys.length) cap, us ++ us', ?_, ⟨hlall, .inr ⟨b, cap, ncur, rfl, hbB, hheap', hroom, hcm, ?_, ?_⟩⟩, rfl, fun k hk => ?_, fun k hk => ?_, (f6.mono hl).append (k4.mono hl)⟩
     ·show (if t = t ∧ n + ys.length = n + ys.length then _ else _) = _
      rw [if_pos ⟨rfl, rfl⟩]
     ·have hcl : cur.toList.length = cap * sz := by rw [Array.length_toList, hcs]
      have : (n + ys.length) * sz ≤ cap * sz := Nat.mul_le_mul_right _ hroom
      rw [← Array.length_toList, hncur, zM, hlall, List.length_drop, hcl]
      omega
     ·rw [hncur, ← hlall, zZ, ← zZ us us']
      exact List.take_left
     ·injection hk with hk
      subst hk
      exact hstb
     ·show (if t = t ∧ k = n + ys.length then _ else g.lg t k) = none
      rw [if_neg (by omega)]
      exact f5 k (by omega)
    ·injection e with e
     subst e
     exact hid (ho.inj _ _ _ hk hob)
    ·injection hk with hk
     subst hk
     exact ⟨hbl.2.1, by simpa using hbl.2.2⟩
   ·refine .ow _ _ _ _ ?_ rfl V
    show (if t = t ∧ n + ys.length = n + ys.length then _ else _) = _
    rw [if_pos ⟨rfl, rfl⟩]
  ·
   have hrun := run_append_grow (P := P) w tt ty' e i z hu hi hz ⟨b, 0, none⟩ n cap us hlen holds' ad' ys.length c' us' hlen' hnews (by omega) (by omega) (growslice_fits (by omega) (by rw [hb]; exact hbound))
   exact ⟨_, _, by rw [hvy]; exact hrun, fresh_case _ _ (grownCap_ge w _ _ _) (grownCap_le_maxLen w _ _ _ hsmall) (by rw [size_zeroCells, hzs])⟩
theorem op_append_ow {t e sz bytes id n : Nat} {x y : Operand} {tok : Option Nat} {l ys : List MV} (ho : o.op = .call { callee := .builtin .append, args := #[x, y], argTypes := #[t, t] }) (hu : P.underlying t = some (.slice e)) (he : elemOk P e sz bytes = true)
  (hx : evo env x = some (.ow id sz n)) (hy : evo env y = some (.lst tok sz ys)) (hσ : σ[id]? = some (.orow e sz n l)) (hb : (n + ys.length) * bytes ≤ 140737488355328) (hml : n + ys.length ≤ 4611686018427387904)
  (hK : K (.ow id sz (n + ys.length)) (σ.set id (.orow e sz (n + ys.length) (l ++ flat ys)))) : OpWp P rd o env σ K := by
 refine OpWp.of_run (by simp [ho]) fun g w a hr hop => ?_
 obtain ⟨v', w', hrun, hg⟩ := gets_append_ow (ty' := o.type) hr hu he hσ (hop x (by simp [ho, Op.operands, Call.operands]) _ hx) (hop y (by simp [ho, Op.operands, Call.operands]) _ hy) hb hml hK
 refine ⟨v', w', ?_, hg⟩
 simp [execOp, ho, resolve, invoke, builtin, hrun]
theorem ow_new {g : Gh} {σ : MS} {w : World} (h : Rel g σ w) (ty sz : Nat) : Rel (g.log σ.length 0 (.slice none 0 0)) (σ ++ [.orow ty sz 0 []]) w ∧ Le g w (g.log σ.length 0 (.slice none 0 0)) w ∧ Rd (g.log σ.length 0 (.slice none 0 0)) w (.ow σ.length sz 0) (.slice none 0 0) := by
 obtain ⟨r1, l1, d1⟩ := tok_new h ty sz
 refine ⟨?_, l1, .ow _ _ _ _ (by simp [Gh.log]) V rfl⟩
 obtain ⟨own, hown⟩ := r1.ex
 obtain ⟨v, us, e1, e2, e3, e4, e5⟩ := hown.obj σ.length (.row ty sz 0) (by simp)
 have hv : v = .slice none 0 0 := by
  simp [Gh.log] at e1
  exact e1.symm
 subst hv
 have hno : own σ.length = none := e3.symm
 have hus : us = [] := List.eq_nil_of_length_eq_zero (by rw [e2.1]; simp)
 subst hus
 have := Rel.obj_set r1 (t := σ.length) (mo := .orow ty sz 0 []) (by simp) hown (Le.refl _ _) r1.below r1.fresh rfl (fun _ _ _ => rfl) (fun _ _ _ _ => ⟨rfl, rfl⟩) (ob := none) ⟨_, [], e1, e2, rfl, fun b hb => (by cases hb), e5, .nil _ _⟩ (fun _ _ _ _ e => by cases e) (fun b hb => by cases hb)
 simpa using this
theorem op_append0_ow {t e sz bytes : Nat} {x y : Operand} {tok : Option Nat} {ys : List MV} (ho : o.op = .call { callee := .builtin .append, args := #[x, y], argTypes := #[t, t] }) (hu : P.underlying t = some (.slice e)) (he : elemOk P e sz bytes = true)
  (hx : evo env x = some .lst0) (hy : evo env y = some (.lst tok sz ys)) (hb : ys.length * bytes ≤ 140737488355328) (hml : ys.length ≤ 4611686018427387904)
  (hK : K (.ow σ.length sz ys.length) (σ ++ [.orow e sz ys.length (flat ys)])) : OpWp P rd o env σ K := by
 refine OpWp.of_run (by simp [ho]) fun g w a hr hop => ?_
 have hv := (hop x (by simp [ho, Op.operands, Call.operands]) _ hx).inv_lst0
 obtain ⟨r1, l1, d1⟩ := ow_new hr e sz
 obtain ⟨v', w', hrun, hg⟩ := gets_append_ow (P := P) (K := K) (ty' := o.type) (t := σ.length) (n := 0) (l := []) r1 hu he (by simp) d1 ((hop y (by simp [ho, Op.operands, Call.operands]) _ hy).mono l1) (by simpa using hb) (by simpa using hml) (by simpa using hK)
 refine ⟨v', w', ?_, hg.le l1⟩
 simp [execOp, ho, resolve, invoke, builtin, hv, hrun]
theorem op_indexAddr_ow {t e : TypeId} {x y : Operand} {id sz n i : Nat} {k : IntKind} {m : Int} {l : List MV} (ho : o.op = .indexAddr t x y) (hu : P.underlying t = some (.slice e)) (hs : szOf P e = some sz) (hx : evo env x = some (.ow id sz n)) (hy : evo env y = some (.int k m)) (hm : m = (i : Int)) (hi : i < n)
  (hσ : σ[id]? = some (.orow e sz n l)) (h : K (.orf id n (i * sz)) σ) : OpWp P rd o env σ K := by
 subst hm
 refine OpWp.of_run (by simp [ho]) fun g w a hr hop => ?_
 have hlv := (hop x (by simp [ho, Op.operands]) _ hx).inv_ow
 have e2 := (hop y (by simp [ho, Op.operands]) _ hy).inv_int
 obtain ⟨own, hown⟩ := hr.ex
 obtain ⟨v0, us, f1, f2, _⟩ := hown.obj id _ hσ
 rw [hlv] at f1
 injection f1 with f1
 rcases f2.2 with ⟨_, h0⟩ | ⟨b, cap, cur, hv0, _⟩
 ·omega
 ·rw [hv0] at f1
  rw [f1] at hlv
  refine ⟨_, w, ?_, .same h hr (.orf _ _ _ b cap hlv)⟩
  simp [execOp, ho, Instr.indexAt, f1, e2, asIntOf, run_underlying hu, hi, zY5 hs, zA5]
theorem op_len_ow {x : Operand} {id sz n : Nat} {t e : TypeId} {l : List MV} (ho : o.op = .call { callee := .builtin .len, args := #[x], argTypes := #[t] }) (hu : P.underlying t = some (.slice e)) (hx : evo env x = some (.ow id sz n)) (hσ : σ[id]? = some (.orow e sz n l)) (h : K (.int .i64 (n : Int)) σ) : OpWp P rd o env σ K := by
 refine OpWp.of_run (by simp [ho]) fun g w a hr hop => ?_
 have hlv := (hop x (by simp [ho, Op.operands, Call.operands]) _ hx).inv_ow
 obtain ⟨own, hown⟩ := hr.ex
 obtain ⟨v0, us, f1, f2, _⟩ := hown.obj id _ hσ
 rw [hlv] at f1
 injection f1 with f1
 rcases f2.2 with ⟨hv0, h0⟩ | ⟨b, cap, cur, hv0, _⟩
 ·rw [hv0] at f1
  subst h0
  refine ⟨_, w, ?_, .same h hr (.int _ _)⟩
  simp [execOp, ho, resolve, invoke, builtin, f1, Builtin.len_, run_underlying hu, goInt]
 ·rw [hv0] at f1
  refine ⟨_, w, ?_, .same h hr (.int _ _)⟩
  simp [execOp, ho, resolve, invoke, builtin, f1, Builtin.len_, run_underlying hu, goInt]
theorem op_load_orf {t ty : TypeId} {x : Operand} {id sz n off : Nat} {l : List MV} {ta : Option Nat} {m : MV} (ho : o.op = .load t x) (hx : evo env x = some (.orf id n off)) (hσ : σ[id]? = some (.orow ty sz n l)) (ht : tyAgg P t = some ta) (hm : loadMV ta l off = some m) (h : K m σ) : OpWp P rd o env σ K := by
 refine OpWp.of_run (by simp [ho]) fun g w a hr hop => ?_
 obtain ⟨b, c, hlv, e⟩ := (hop x (by simp [ho, Op.operands]) _ hx).inv_orf
 obtain ⟨own, hown⟩ := hr.ex
 obtain ⟨v0, us, f1, f2, f3, f4, f5, f6⟩ := hown.obj id _ hσ
 rw [hlv] at f1
 injection f1 with f1
 subst f1
 rcases f2.2 with ⟨hv0, _⟩ | ⟨b', cap, cur, hv0, hbB, hheap, hnc, hcm, hcs, htake⟩
 ·cases hv0
 ·injection hv0 with e1 e2 e3
  injection e1 with e1
  injection e1 with e1
  subst e1
  obtain ⟨v, hrun, hrd⟩ := run_loadVar_at (P := P) ht (f6.drop off) (ad := ⟨b, off, none⟩) (w := w) (fun j u hj => by
   rw [List.getElem?_drop] at hj
   have hjl : off + j < n * sz := by rw [← f2.1]; exact (zH.1 hj).1
   rw [zA5]
   simp only [World.cell?, hheap, Option.isSome_none, Bool.false_eq_true, if_false]
   rw [← htake, List.getElem?_take, if_pos hjl] at hj
   simpa using hj) (loadMV_drop hm)
  refine ⟨v, w, ?_, .same h hr hrd⟩
  simp [execOp, ho, e, Instr.loadAt, Instr.sureAddr, hrun]
theorem op_store_orf {t ty : TypeId} {x y : Operand} {id sz n off : Nat} {l : List MV} {m : MV} {k : Nat} (ho : o.op = .store t x y) (hx : evo env x = some (.orf id n off)) (hy : evo env y = some m) (hσ : σ[id]? = some (.orow ty sz n l)) (hk : szOf P t = some k) (hm : m.cells.length = k)
  (h1 : m.cells.all MV.one = true) (hle : off + k ≤ l.length) (h : K (.tup []) (σ.set id (.orow ty sz n (setMany l off m.cells)))) : OpWp P rd o env σ K := by
 refine OpWp.of_skip (by simp [ho]) fun g w a hr hop => ?_
 obtain ⟨b, c, hlv, e⟩ := (hop x (by simp [ho, Op.operands]) _ hx).inv_orf
 have hrd := hop y (by simp [ho, Op.operands]) _ hy
 obtain ⟨us, hus, hrds⟩ := rds_cells hrd
 obtain ⟨own, hown⟩ := hr.ex
 obtain ⟨v0, old, f1, f2, f3, f4, f5, f6⟩ := hown.obj id _ hσ
 rw [hlv] at f1
 injection f1 with f1
 subst f1
 have htl : id < σ.length := (zH.1 hσ).1
 rcases f2.2 with ⟨hv0, _⟩ | ⟨b', cap, cur, hv0, hbB, hheap, hnc, hcm, hcs, htake⟩
 ·cases hv0
 injection hv0 with e1 e2 e3
 injection e1 with e1
 injection e1 with e1
 subst e1
 have hlen : us.length = k := by rw [hrds.1, hm]
 have hold : old.length = l.length := f6.1
 have hone : ∀ v ∈ us, v.oneCell' = true := by
  intro v hv
  obtain ⟨j, hj⟩ := List.getElem?_of_mem hv
  have hjl : j < m.cells.length := by rw [hm, ← hlen]; exact (zH.1 hj).1
  have := hrds.2 j _ v (zD hjl) hj
  rw [List.all_eq_true] at h1
  exact one_cell this (h1 _ (List.getElem_mem hjl))
 have hsz : n * sz ≤ cur.size := by rw [hcs]; exact Nat.mul_le_mul_right _ hnc
 have hon : old.length = n * sz := f2.1
 have hcure : cur.toList = old ++ cur.toList.drop (n * sz) := by rw [← htake]; exact (List.take_append_drop _ _).symm
 have hrun := run_storeCells_fr P b off ty (0, 0) us 0 cur w hheap (.inl rfl) (by rw [hlen]; simp; omega) hone
 have hst : (storeVar t ⟨b, off, none⟩ (a.eval y)).run P w = (storeCells ⟨b, off, none⟩ us).run P w := by
  have hsz' : (a.eval y).cells.size = k := by rw [hus]; simpa using hlen
  simp [storeVar, zY5 hk, hsz', hus, hlen]
 generalize hnc' : (cur.toList.take (off + 0) ++ us ++ cur.toList.drop (off + 0 + us.length)).toArray = ncur at hrun
 have hob : own id = some b := by rw [← f3]; rfl
 have hstb : g.st b = 0 := f4 b hob
 have hbl := hown.lt id b hob
 have hheap' : (w.setRow b ncur).heap[b]? = some (.cells ncur ty (0, 0)) := setRow_heap w b cur ncur ty _ hheap
 have hother : ∀ k, k ≠ b → (w.setRow b ncur).heap[k]? = w.heap[k]? := fun k hk => setRow_other w b k ncur hk
 have hncur : ncur.toList = (old.take off ++ us ++ old.drop (off + us.length)) ++ cur.toList.drop (n * sz) := by
  rw [← hnc', Nat.add_zero]
  show cur.toList.take off ++ us ++ cur.toList.drop (off + us.length) = _
  rw [hcure, List.take_append_of_le_length (by omega), List.drop_append_of_le_length (by omega), ← hcure, zZ, zZ, zZ]
 have hl : Le g w g (w.setRow b ncur) := by
  refine ⟨⟨rfl, rfl, fun k j hj => ?_, fun _ _ h => h, fun s k u hu => hu, by simp⟩, fun k x hxk => ?_⟩
  ·by_cases ek : k = b
   ·rw [ek, hstb] at hj
    exact absurd hj (Nat.not_lt_zero _)
   ·exact ⟨hj, World.cell?_of_block (w := w) (a := ⟨k, j, none⟩) (hother k ek)⟩
  ·have : k ≠ b := fun e => by rw [e, hheap] at hxk; cases hxk
   exact (hother k this).trans hxk
 have hnl : (old.take off ++ us ++ old.drop (off + us.length)).length = n * sz := by simp; omega
 refine ⟨w.setRow b ncur, ?_, .tup [], _, g, h, ?_, rd_undef _ _, hl⟩
 ·simp only [execOp, ho, e, Instr.storeAt, Instr.sureAddr, Sem.run_bind, Sem.run_pure, Result.andThen_ok, hst, hrun]
 ·refine Rel.obj_set hr htl hown hl (hr.below.trans ⟨rfl, rfl, rfl, by simp, fun k hk => hother k (by omega)⟩) (fun k hk => ?_) V (fun _ _ _ => V) (fun i k hid hk => ?_) (ob := some b) ?_ (fun i k hid hk e => ?_) (fun k hk => ?_)
  ·simp only [setRow_size] at hk
   exact hr.fresh k hk
  ·have hkb : k ≠ b := fun e => by subst e; exact hid (hown.inj _ _ _ hk hob)
   exact ⟨hother k hkb, rfl⟩
  ·refine ⟨_, old.take off ++ us ++ old.drop (off + us.length), hlv, ⟨hnl, .inr ⟨b, cap, ncur, by rw [e3], hbB, hheap', hnc, hcm, ?_, ?_⟩⟩, rfl, fun k hk => ?_, f5, ?_⟩
   ·rw [← Array.length_toList, hncur, zM, hnl, List.length_drop, Array.length_toList, hcs]
    rw [hcs] at hsz
    omega
   ·rw [hncur, ← hnl]
    exact List.take_left
   ·injection hk with hk
    subst hk
    exact hstb
   ·unfold setMany
    rw [hm, ← hlen]
    exact (((f6.mono hl).take off).append (hrds.mono hl)).append ((f6.mono hl).drop _)
  ·injection e with e
   subst e
   exact hid (hown.inj _ _ _ hk hob)
  ·injection hk with hk
   subst hk
   exact ⟨hbl.2.1, by simpa using hbl.2.2⟩
theorem _root_.zI6 : type_of% @op_store_orf := @op_store_orf
end
theorem Rel.ow_freeze {g : Gh} {σ : MS} {w : World} (h : Rel g σ w) {id ty sz n : Nat} {l xs : List MV} (hσ : σ[id]? = some (.orow ty sz n l)) (hxs : flat xs = l) (hn : xs.length = n) (hsz : ∀ x ∈ xs, x.cells.length = sz) (h1 : ∀ y ∈ l, y.one = true) :
  ∃ g', Rel g' (σ.set id (.row ty sz n)) w ∧ Le g w g' w ∧ ∀ v, Rd g w (.ow id sz n) v → Rd g' w (.lst (some id) sz xs) v := by
 obtain ⟨own, hown⟩ := h.ex
 obtain ⟨v0, us, f1, f2, f3, f4, f5, f6⟩ := hown.obj id _ hσ
 have htl : id < σ.length := (zH.1 hσ).1
 rcases f2.2 with ⟨hv0, h0⟩ | ⟨b, cap, cur, hv0, hbB, hheap, hnc, hcm, hcs, htake⟩
 ·subst hv0
  subst h0
  have hxn : xs = [] := List.eq_nil_of_length_eq_zero hn
  subst hxn
  have hno : own id = none := f3.symm
  refine ⟨g, ?_, .refl _ _, fun v hv => ?_⟩
  ·exact Rel.obj_set h htl hown (.refl _ _) h.below h.fresh rfl (fun _ _ _ => rfl) (fun _ _ _ _ => ⟨rfl, rfl⟩) (ob := none) ⟨_, us, f1, f2, rfl, fun b hb => (by cases hb), f5⟩ (fun _ _ _ _ e => by cases e) (fun b hb => by cases hb)
  ·have := hv.inv_ow
   rw [f1] at this
   injection this with this
   subst this
   exact .lst' (us := []) rfl (by simp) (by simp [maxLen]) (by simp) (.nil _ _) (by simp) (fun t ht => by injection ht with ht; subst ht; rw [f1])
 ·subst hv0
  have hob : own id = some b := by rw [← f3]; rfl
  have hstb : g.st b = 0 := f4 b hob
  have hbl := hown.lt id b hob
  have hl : Le g w (g.stab b (n * sz)) w := by
   refine ⟨⟨rfl, rfl, fun k j hj => ⟨?_, rfl⟩, fun _ _ h => h, fun _ _ _ h => h, Nat.le_refl _⟩, fun _ _ h => h⟩
   simp only [Gh.stab]
   split
   ·rename_i ek
    rw [ek, hstb] at hj
    exact absurd hj (Nat.not_lt_zero _)
   ·exact hj
  have hcell : ∀ j u, us[j]? = some u → w.cell? ⟨b, j, none⟩ = some u := fun j u hj => by
   have hjl : j < n * sz := by rw [← f2.1]; exact (zH.1 hj).1
   simp only [World.cell?, hheap, Option.isSome_none, Bool.false_eq_true, if_false]
   rw [← htake, List.getElem?_take, if_pos hjl] at hj
   simpa using hj
  refine ⟨g.stab b (n * sz), ?_, hl, fun v hv => ?_⟩
  ·refine Rel.obj_set h htl hown hl h.below (fun k hk => ?_) V (fun _ _ _ => V) (fun i k hid hk => ?_) (ob := some b) ⟨_, us, f1, f2, rfl, fun k hk => ?_, f5⟩ (fun i k hid hk e => ?_) (fun k hk => ?_)
   ·simp only [Gh.stab]
    rw [if_neg (by omega)]
    exact h.fresh k hk
   ·have hkb : k ≠ b := fun e => by subst e; exact hid (hown.inj _ _ _ hk hob)
    refine ⟨rfl, ?_⟩
    simp only [Gh.stab]
    rw [if_neg hkb]
   ·injection hk with hk
    subst hk
    simp [Gh.stab]
   ·injection e with e
    subst e
    exact hid (hown.inj _ _ _ hk hob)
   ·injection hk with hk
    subst hk
    exact hbl.2
  ·have := hv.inv_ow
   rw [f1] at this
   injection this with this
   subst this
   refine .lst' (us := us) hn hnc hcm hsz ?_ (fun j u hj => ⟨⟨b, 0, none⟩, rfl, ?_, ?_, ?_⟩) (fun t ht => by injection ht with ht; subst ht; exact f1)
   ·rw [hxs]; exact f6.mono hl
   ·rw [zA5]
    have hjl : j < n * sz := by rw [← f2.1]; exact (zH.1 hj).1
    simp [Gh.stab]
    exact hjl
   ·rw [zA5, Nat.zero_add]
    exact hcell j u hj
   ·have hjl : j < l.length := by rw [← f6.1]; exact (zH.1 hj).1
    exact one_cell (f6.2 j _ u (zD hjl) hj) (h1 _ (List.getElem_mem hjl))
theorem mwp_owfreeze {P : Program} {rd : Option Nat} {N n : Nat} {c : Code} {Q : Exit → Env → MS → Prop} {env : Env} {σ : MS} (k i : Nat) {id ty sz m : Nat} {cs l xs : List MV} (hk : σ[k]? = some (.cells cs)) (hi : cs[i]? = some (.ow id sz m)) (hσ : σ[id]? = some (.orow ty sz m l)) (hxs : flat xs = l) (hn : xs.length = m) (hsz : ∀ x ∈ xs, x.cells.length = sz) (h1 : ∀ y ∈ l, y.one = true)
  (h : mwp P rd N n c Q env ((σ.set id (.row ty sz m)).set k (.cells (cs.set i (.lst (some id) sz xs))))) : mwp P rd N n c Q env σ := by
 refine zO5 (fun g w tmps hr he => ?_) h
 obtain ⟨g', r1, l1, hv⟩ := hr.ow_freeze hσ hxs hn hsz h1
 have hne : id ≠ k := fun e => by subst e; rw [hk] at hσ; cases hσ
 refine ⟨g', ?_, he.mono l1, l1.toN N, fun F hF => hF.mono (l1.toN N)⟩
 obtain ⟨own, hown⟩ := hr.ex
 obtain ⟨b, us0, ty0, e1, e2, e3, e4, e5⟩ := hown.obj k _ hk
 obtain ⟨u, hu, hrd⟩ := e5.get hi
 have hk' : (σ.set id (.row ty sz m))[k]? = some (.cells cs) := by rw [List.getElem?_set_ne hne]; exact hk
 refine r1.recell hk' fun us hus => ?_
 obtain ⟨u2, hu2, hrd2⟩ := hus.get hi
 have hs := hus.set i (x := .lst (some id) sz xs) (u := u2) ?_
 ·obtain ⟨hul, hue⟩ := zH.1 hu2
  rwa [show us.set i u2 = us by rw [← hue]; exact List.set_getElem_self hul] at hs
 ·have e7 := hrd2.inv_ow
  have e8 := hrd.inv_ow
  have : u2 = u := by
   have := l1.lg _ _ _ e8
   rw [e7] at this
   injection this
  subst this
  exact hv _ hrd
theorem mwp_cellow {P : Program} {rd : Option Nat} {N n : Nat} {c : Code} {Q : Exit → Env → MS → Prop} {env : Env} {S L L' : MS} (k i ty sz : Nat) {m : Nat} {l : List MV} (hk : L[k]? = some (.cells l)) (hi : l[i]? = some .lst0) (hm : L.length = m) (hL : L.set k (.cells (l.set i (.ow (S.length + m) sz 0))) ++ [.orow ty sz 0 []] = L') (h : mwp P rd N n c Q env (S ++ L')) : mwp P rd N n c Q env (S ++ L) := by
 subst hm hL
 refine zO5 (fun g w tmps hr he => ?_) h
 obtain ⟨r1, l1, d1⟩ := ow_new hr ty sz
 have hlen : (S ++ L).length = S.length + L.length := zM
 refine ⟨_, ?_, he.mono l1, l1.toN N, fun F hF => hF.mono (l1.toN N)⟩
 have hlt := (zH.1 hk).1
 have e : S ++ (L.set k (.cells (l.set i (.ow (S.length + L.length) sz 0))) ++ [.orow ty sz 0 []]) = ((S ++ L) ++ [MObj.orow ty sz 0 []]).set (S.length + k) (.cells (l.set i (.ow (S.length + L.length) sz 0))) := by
  rw [zZ, zE3, List.set_append_left _ _ hlt]
 rw [e]
 refine r1.recell (l := l) (by rw [zZ, getElem?_own, List.getElem?_append_left hlt]; exact hk) fun us hus => ?_
 obtain ⟨u, hu, hrd⟩ := hus.get hi
 have hs := hus.set i (x := .ow (S.length + L.length) sz 0) (u := u) (by rw [hrd.inv_lst0, ← hlen]; exact d1)
 obtain ⟨hul, hue⟩ := zH.1 hu
 rwa [show us.set i u = us by rw [← hue]; exact List.set_getElem_self hul] at hs
theorem mwp_freezeC {P : Program} {rd : Option Nat} {N n : Nat} {c : Code} {Q : Exit → Env → MS → Prop} {env : Env} {σ : MS} (k i : Nat) {id sz m cap : Nat} {cs l xs : List MV} (hk : σ[k]? = some (.cells cs)) (hi : cs[i]? = some (.vec id 0 sz m cap)) (hσ : σ[id]? = some (.cells l)) (hne : id ≠ k) (hxs : flat xs = l.take (m * sz)) (hm : xs.length = m) (hsz : ∀ x ∈ xs, x.cells.length = sz) (hle : m * sz ≤ l.length) (h1 : ∀ x ∈ l, x.one = true)
  (h : mwp P rd N n c Q env ((σ.set id .gone).set k (.cells (cs.set i (.lst none sz xs))))) : mwp P rd N n c Q env σ := by
 refine zO5 (fun g w tmps hr he => ?_) h
 obtain ⟨own, hown⟩ := hr.ex
 obtain ⟨b0, us0, ty0, d1, d2, d3, d4, d5⟩ := hown.obj k _ hk
 obtain ⟨u, hu, hrd0⟩ := d5.get hi
 obtain ⟨b, hb, i1, i2, rfl⟩ := hrd0.inv_vec
 obtain ⟨hr', hle'⟩ := hr.freeze hσ hb hle
 obtain ⟨b', us, ty, e1, e2, e3, ⟨fr, e4, _⟩, e5⟩ := hown.obj _ _ hσ
 rw [hb] at e2
 injection e2 with e2
 subst e2
 have hrow : Rd (g.stab b (m * sz)) w (.lst none sz xs) (.slice (some ⟨b, 0, none⟩) m cap) := by
  refine Rd.lst' (us := us.take (m * sz)) hm i1 i2 hsz ?_ (fun j u hu => ?_) (fun t ht => by cases ht)
  ·rw [hxs]; exact (e5.take (m * sz)).mono hle'
  ·rw [List.getElem?_take] at hu
   split at hu
   ·rename_i hj
    refine ⟨_, rfl, ?_, ?_, ?_⟩
    ·rw [zA5]; simp [Gh.stab]; omega
    ·exact cells_at e4 0 j (by simpa using hu)
    ·have hjl : j < l.length := by rw [← e5.1]; exact (zH.1 hu).1
     exact one_cell (e5.2 j _ u (zD hjl) hu) (h1 _ (List.getElem_mem hjl))
   ·cases hu
 refine ⟨g.stab b (m * sz), ?_, he.mono hle', hle'.toN N, fun F hF => hF.mono (hle'.toN N)⟩
 have hk' : (σ.set id .gone)[k]? = some (.cells cs) := by rw [List.getElem?_set_ne hne]; exact hk
 refine hr'.recell hk' fun vs hvs => ?_
 obtain ⟨u2, hu2, hrd2⟩ := hvs.get hi
 obtain ⟨b2, hb2, _, _, rfl⟩ := hrd2.inv_vec
 have hbb : b2 = b := by
  have := hle'.bk _ _ hb
  rw [hb2] at this
  injection this
 subst hbb
 have hs := hvs.set i hrow
 obtain ⟨hul, hue⟩ := zH.1 hu2
 rwa [show vs.set i (.slice (some ⟨b2, 0, none⟩) m cap) = vs by rw [← hue]; exact List.set_getElem_self hul] at hs
theorem op_buildSliceW {P : Program} {rd : Option Nat} {o : Oper} {env : Env} {K : MV → MS → Prop} {S L L' : MS} {t e n sz bytes k : Nat} {parts : Array (Nat × Operand)} {ms : List MV} (ho : o.op = .buildSlice t n parts) (hu : P.underlying t = some (.slice e)) (he : elemOk P e sz bytes = true) (hp : partsOf env 0 parts.toList = some ms) (hn : ms.length = n) (hn0 : 0 < n) (hsm : n * sz ≤ 16777216)
  (hsz : allSz sz ms = true) (hk : L.length = k) (hL : L ++ [.cells (flat ms)] = L') (h : K (.vec (S.length + k) 0 sz n n) (S ++ L')) : OpWp P rd o env (S ++ L) K := by
 subst hk hL
 refine op_buildSliceV ho hu he hp hn hn0 hsm hsz ?_
 rw [zM, zZ]
 exact h
theorem ret_cellW {P : Program} {fn : Func} {S σ : MS} {R : MV → MS → Prop} {env : Env} {e : Exit} {a t id off : Nat} {l : List MV} {ta : Option Nat} {x y : MV} (he : e = .normal ∨ e = .ret) (hres : fn.results = #[.cell a t]) (ha : get env a = some (.ref id off)) (hl : σ[id]? = some (.cells l)) (ht : tyAgg P t = some ta) (hm : loadMV ta l off = some x) (hs : Sub x y) (hlen : S.length ≤ σ.length) (hc : Cl σ.length y) (hS : ClS σ) (hR : R y σ) : BodyQ P fn S R e env σ := by
 refine ⟨he, [x], y, σ, [], ?_, hs, hc, by simp, hlen, .inr hS, hR⟩
 rw [hres]
 exact .cell ha hl ht hm .nil
end
end Go.MV
namespace Go.Proofs.YtnfcnpdpfgcchaaGreat
open Go Go.MV
def z5 : List MV := [.int .u64 0, .int .u64 0, .lst0, .lst0, .lst0]
def stRow (A R : MS) (ty id j : Nat) (l m : List MV) (D : Nat → Bool) : MS := (A ++ [.cells [bif D 7 then .ow id 5 (j + 1) else .ow id 5 j], bif D 4 then .orow ty 5 (j + 1) (bif D 6 then l ++ m else l ++ z5) else .orow ty 5 j l]) ++ R
theorem stRow_pre {A R : MS} {ty id j : Nat} {l m : List MV} {D : Nat → Bool} (h4 : D 4 = false) (h7 : D 7 = false) : stRow A R ty id j l m D = (A ++ [.cells [.ow id 5 j], .orow ty 5 j l]) ++ R := by unfold stRow; rw [h4, h7]; rfl
theorem stRow_upd {A R : MS} {ty id j : Nat} {l m : List MV} {D : Nat → Bool} {i : Nat} (h4 : i ≠ 4) (h6 : i ≠ 6) (h7 : i ≠ 7) : stRow A R ty id j l m (updD D i) = stRow A R ty id j l m D := by
 have e4 : ¬ 4 = i := fun e => h4 e.symm
 have e6 : ¬ 6 = i := fun e => h6 e.symm
 have e7 : ¬ 7 = i := fun e => h7 e.symm
 unfold stRow updD
 rw [if_neg e4, if_neg e6, if_neg e7]
theorem stRow_all {A R : MS} {ty id j : Nat} {l m : List MV} {D : Nat → Bool} (h4 : D 4 = true) (h6 : D 6 = true) (h7 : D 7 = true) : stRow A R ty id j l m D = (A ++ [.cells [.ow id 5 (j + 1)], .orow ty 5 (j + 1) (l ++ m)]) ++ R := by unfold stRow; rw [h4, h6, h7]; rfl
theorem fl_len (l : List Val) : (flat (encVs l)).length = l.length * 5 := by
 have := zB6 (sz := 5) (xs := encVs l) (fun x hx => by
  rw [zY3] at hx
  obtain ⟨v, _, rfl⟩ := List.mem_map.1 hx
  exact zU2 v)
 rw [this, zO]
theorem fl_one (l : List Val) : ∀ y ∈ flat (encVs l), y.one = true := fun y hy => by
 rw [zY3] at hy
 unfold flat at hy
 obtain ⟨x, hx, hy⟩ := List.mem_flatMap.1 hy
 obtain ⟨v, _, rfl⟩ := List.mem_map.1 hx
 have := encV_one v
 rw [List.all_eq_true] at this
 exact this y hy
theorem fl_snoc (l : List Val) (x : Val) : flat (encVs (l ++ [x])) = flat (encVs l) ++ (encV x).cells := by
 rw [encVs_append, zZ4]
 congr 1
 show (encV x).cells ++ flat [] = _
 rw [flat_nil, List.append_nil]
theorem sv5 {l : List MV} {j : Nat} {x : Val} (h : l.length = j * 5) : setMany (l ++ z5) (j * 5) (encV x).cells = l ++ (encV x).cells := by
 have e5 := zU2 x
 unfold setMany
 rw [List.take_append_of_le_length (by omega), List.take_of_length_le (by omega), e5, List.drop_eq_nil_of_le (by simp [z5]; omega), List.append_nil]
theorem get_r0 {A R : MS} {a b : MObj} : ((A ++ [a, b]) ++ R)[A.length + 0]? = some a := by rw [zZ, getElem?_own]; rfl
theorem get_r1 {A R : MS} {a b : MObj} : ((A ++ [a, b]) ++ R)[A.length + 1]? = some b := by rw [zZ, getElem?_own]; rfl
theorem set_r0 {A R : MS} {a b c : MObj} : ((A ++ [a, b]) ++ R).set (A.length + 0) c = (A ++ [c, b]) ++ R := by rw [zZ, zE3, zZ]; rfl
theorem set_r1 {A R : MS} {a b c : MObj} : ((A ++ [a, b]) ++ R).set (A.length + 1) c = (A ++ [a, c]) ++ R := by rw [zZ, zE3, zZ]; rfl
def VIter (k : FuncId) (caps : List MV) (ys : List Val) (F : List (Nat × MObj)) : Prop := ∀ l0, IterOk Tryz.prog k [] caps (ys.map fun p => [encV p]) (fun σ => (σ.length = l0 ∧ Sees F σ) ∧ ClS σ)
theorem rowL_cl {t d ty n k : Nat} {xs : List Val} {o : MObj} (ht : t < d) (ho : o ∈ [MObj.cells [.ow t 5 n], .orow ty 5 k (flat (encVs xs))]) : o.cl d := by
 simp only [List.mem_cons, List.not_mem_nil, or_false] at ho
 rcases ho with rfl | rfl
 ·intro x hx
  simp at hx
  subst hx
  exact .ow _ _ _ ht
 ·exact fun x hx => cl_encVs d xs x hx
theorem row_spec (k : FuncId) (hco : CallOk Tryz.prog k) (caps : List MV) (ys : List Val) (F : List (Nat × MObj)) (S : MS) (hF : Sees F S) (hit : VIter k caps ys F) (hlen : ys.length ≤ 2000000) : MCalls Tryz.prog 24 [.fn (.func k) [] caps] S fun v σ' => v = .lst none 5 (encVs ys) ∧ σ' = S := by
 refine zU Tryz.func24 V Tryz.ntmps24 (zA V) ?_
 refine zB <| qR V <| qA V V V <| qN <| zB <| qR V <| qO V <| zL0 V zm28 V V <| qN <| zB <| zB <| qR V <| qM V V V <| qN <| zB0 <| mwp_cellow 0 0 30 5 V V V V ?_
 refine mwp_rangeB (ok := fun σ => σ.length = S.length + 3 ∧ Sees F σ) (ys := ys.map fun p => [encV p]) .ret (.inl V) (fun j => true) (fun j => ([.cells [.ow (S.length + 1) 5 ((ys.take j).length)], .orow 30 5 (ys.take j).length (flat (encVs (ys.take j)))] : MS)) (fun j => ([.cells [.ow (S.length + 1) 5 ((ys.take j).length)], .orow 30 5 (ys.take j).length (flat (encVs (ys.take j)))] : MS)) (fun j => V) (fun j => V) V (fun j o ho n hn => rowL_cl (by simp at hn; omega) ho) (fun j o ho n hn => rowL_cl (by simp at hn; omega) ho) V hco V (by simp) (hit _) (fun j => ⟨by simp only [zM, zW, List.length_nil], (hF.app).app⟩) (fun j s q => ⟨by simp only [zM, zW, List.length_nil], (hF.app).app⟩) V (fun y hy => by obtain ⟨i, _, rfl⟩ := List.mem_map.1 hy; rfl) ?_ ?_ ?_
 ·
  intro j y hy hbef L'
  rw [zN0] at hy
  obtain ⟨⟨n1, m1, s1, c1, w1⟩, hp, rfl⟩ := Option.map_eq_some_iff.1 hy
  have hjl := (zH.1 hp).1
  have htl : (ys.take j).length ≤ 2000000 := by rw [List.length_take]; omega
  have hL0 := fl_len (ys.take j)
  have htk : ys.take (j + 1) = ys.take j ++ [.mk n1 m1 s1 c1 w1] := by rw [List.take_add_one, hp]; rfl
  refine qR V <| qO V <| zJ5 V zm30 <| qO V <| zM4 V V V sz30 V V (zA V) <| qN ?_
  refine ⟨rfl, [_], rfl, ?_⟩
  have hl1 : (ys.take j ++ [Val.mk n1 m1 s1 c1 w1]).length = (ys.take j).length + 1 := by simp
  rw [htk, fl_snoc, hl1]
  clear hl1 htk hbef
  generalize (ys.take j).length = jl at htl hL0
  generalize flat (encVs (ys.take j)) = L0 at hL0
  rw [zZ (S ++ _)]
  refine mwp_abs fun R hR => ?_

  refine zB0 ?_
  refine mwp_drawS (stRow S R 30 (S.length + 1) jl L0 (encV (.mk n1 m1 s1 c1 w1)).cells) mo (by decide) V ?_
  refine zB3 (x := .ow (S.length + 1) 5 jl) V (fun D hD => ?_) ?_
  ·have h7 : D 7 = false := by
    cases h : D 7 with
    | false => rfl
    | true =>
     have := hD.2.2 7 _ rfl h 0 (by decide)
     rw [hD.1] at this
     cases this
   have h4 : D 4 = false := by
    cases h : D 4 with
    | false => rfl
    | true =>
     have := hD.2.2 4 _ rfl h 0 (by decide)
     rw [hD.1] at this
     cases this
   rw [stRow_upd (by decide) (by decide) (by decide), stRow_pre h4 h7]
   exact zR rfl rfl get_r0 ta28 rfl ⟨rfl, rfl⟩
  refine zB3 (x := encV (.mk n1 m1 s1 c1 w1)) V (fun D hD => ?_) ?_
  ·have h7 : D 7 = false := by
    cases h : D 7 with
    | false => rfl
    | true =>
     have := hD.2.2 7 _ rfl h 1 (by decide)
     rw [hD.1] at this
     cases this
   have h4 : D 4 = false := by
    cases h : D 4 with
    | false => rfl
    | true =>
     have := hD.2.2 4 _ rfl h 1 (by decide)
     rw [hD.1] at this
     cases this
   rw [stRow_upd (by decide) (by decide) (by decide), stRow_pre h4 h7]
   exact zR rfl rfl (by rw [hR]; exact get_rt) ta30 rfl ⟨rfl, rfl⟩
  refine zB3 (x := .int .i64 (jl : Int)) V (fun D hD => ?_) ?_
  ·have h7 : D 7 = false := by
    cases h : D 7 with
    | false => rfl
    | true =>
     have := hD.2.2 7 _ rfl h 2 (by decide)
     rw [hD.1] at this
     cases this
   have h4 : D 4 = false := by
    cases h : D 4 with
    | false => rfl
    | true =>
     have := hD.2.2 4 _ rfl h 2 (by decide)
     rw [hD.1] at this
     cases this
   rw [stRow_upd (by decide) (by decide) (by decide), stRow_pre h4 h7]
   exact op_len_ow rfl zE rfl get_r1 ⟨rfl, rfl⟩
  refine zB3 (x := .lst none 5 [.agg z5]) V (fun D hD => ?_) ?_
  ·have h7 : D 7 = false := by
    cases h : D 7 with
    | false => rfl
    | true =>
     have := hD.2.2 7 _ rfl h 3 (by decide)
     rw [hD.1] at this
     cases this
   have h4 : D 4 = false := by
    cases h : D 4 with
    | false => rfl
    | true =>
     have := hD.2.2 4 _ rfl h 3 (by decide)
     rw [hD.1] at this
     cases this
   rw [stRow_upd (by decide) (by decide) (by decide), stRow_pre h4 h7]
   exact zA1 rfl zE el30 rfl rfl (by decide) (by decide) rfl rfl ⟨rfl, rfl⟩
  refine zB3 (x := .ow (S.length + 1) 5 (jl + 1)) V (fun D hD => ?_) ?_
  ·have h7 : D 7 = false := by
    cases h : D 7 with
    | false => rfl
    | true =>
     have := hD.2.2 7 _ rfl h 4 (by decide)
     rw [hD.1] at this
     cases this
   have h6 : D 6 = false := by
    cases h : D 6 with
    | false => rfl
    | true =>
     have h5 := hD.2.2 6 _ rfl h 5 (by decide)
     have := hD.2.2 5 _ rfl h5 4 (by decide)
     rw [hD.1] at this
     cases this
   rw [stRow_pre hD.1 h7]
   exact op_append_ow rfl zE el30 rfl rfl get_r1 (by simp only [zW, List.length_nil]; omega) (by simp only [zW, List.length_nil]; omega) ⟨rfl, by rw [set_r1]; unfold stRow updD; simp only [h6, h7]; rfl⟩
  refine zB3 (x := .orf (S.length + 1) (jl + 1) (jl * 5)) V (fun D hD => ?_) ?_
  ·have h4 : D 4 = true := hD.2.1 4 (by decide)
   rw [stRow_upd (by decide) (by decide) (by decide)]
   have hg : ∃ l', (stRow S R 30 (S.length + 1) jl L0 (encV (.mk n1 m1 s1 c1 w1)).cells D)[S.length + 1]? = some (.orow 30 5 (jl + 1) l') := by unfold stRow; rw [h4]; exact ⟨_, get_r1⟩
   obtain ⟨l', hg⟩ := hg
   exact op_indexAddr_ow rfl zE sz30 rfl rfl rfl (Nat.lt_succ_self _) hg ⟨rfl, rfl⟩
  refine zB3 (x := .tup []) V (fun D hD => ?_) ?_
  ·have h4 : D 4 = true := by
    have h5 : D 5 = true := hD.2.1 5 (by decide)
    exact hD.2.2 5 _ rfl h5 4 (by decide)
   have hg : (stRow S R 30 (S.length + 1) jl L0 (encV (.mk n1 m1 s1 c1 w1)).cells D)[S.length + 1]? = some (.orow 30 5 (jl + 1) (L0 ++ z5)) := by unfold stRow; rw [h4, hD.1]; exact get_r1
   refine zI6 V V V hg sz30 V V (by simp [z5, hL0]) ⟨rfl, ?_⟩
   rw [show setMany (L0 ++ z5) (jl * 5) (encV (.mk n1 m1 s1 c1 w1)).cells = L0 ++ (encV (.mk n1 m1 s1 c1 w1)).cells from sv5 hL0]
   unfold stRow updD
   simp only [h4, hD.1]
   exact set_r1
  refine zB3 (x := .tup []) V (fun D hD => ?_) ?_
  ·have h4 : D 4 = true := hD.2.1 4 (by decide)
   have hg : (stRow S R 30 (S.length + 1) jl L0 (encV (.mk n1 m1 s1 c1 w1)).cells D)[S.length + 0]? = some (.cells [.ow (S.length + 1) 5 jl]) := by unfold stRow; rw [hD.1]; exact get_r0
   refine zR4 V V V hg sz28 V V (zA V) ⟨rfl, ?_⟩
   unfold stRow updD
   simp only [h4, hD.1]
   exact set_r0
  refine dOpsS_nil ?_
  exact .inl ⟨rfl, rfl, [_], by rw [stRow_all rfl rfl rfl, hR]; exact (zZ (S ++ _) _ _).symm⟩
 ·
  intro _
  rw [zC, List.take_length, zZ]
  refine mwp_owfreeze (S.length + 0) 0 (id := S.length + 1) (xs := encVs ys) (by rw [getElem?_own]; rfl) V (by rw [getElem?_own]; rfl) V (zO ys) (fun x hx => by rw [zY3] at hx; obtain ⟨v, _, rfl⟩ := List.mem_map.1 hx; exact zU2 v) (fl_one ys) ?_
  rw [zE3, zE3]
  refine zB <| qR V <| qL V V V V ta28 V <| qA V V V <| qN <| zL ?_
  exact zT (.inr V) Tryz.results24 V (.view _ _ _) (cl_encVl _ _) Vv
 ·
  intro j y hy hp
  cases hp
theorem eqlQ {a b : Int} (h : a = b) : intCmp .eql a b = some true := by simp [intCmp, h]
theorem eqlN {a b : Int} (h : a ≠ b) : intCmp .eql a b = some false := by simp [intCmp, h]
theorem cut_one {α β : Type} {l : List α} {f : α → β} {i : Nat} {x : α} (h : l[i]? = some x) : ((l.map f).drop i).take (i + 1 - i) = [f x] := by
 obtain ⟨hl, rfl⟩ := zH.1 h
 rw [show i + 1 - i = 1 by omega, List.drop_eq_getElem_cons (by simpa using hl)]
 simp
theorem set_two {a b p : List MV} {i : Nat} (ha : a.length = 5) (hb : b.length = 5) (hp : p.length = 5) (hi : i < 2) : setMany (a ++ b) (0 + i * 5) p = if i = 0 then p ++ b else a ++ p := by
 rcases i with _ | _ | i
 ·simp [setMany, ha, hp]
 ·simp [setMany, ha, hb, hp]
 ·omega
theorem fl_two (a b : Val) : flat (encVs [a, b]) = ((encV a).cells ++ (encV b).cells).take (2 * 5) := by
 show (encV a).cells ++ ((encV b).cells ++ []) = _
 rw [List.append_nil, List.take_of_length_le (by simp [zU2])]
theorem two_one (a b : Val) : ∀ x ∈ (encV a).cells ++ (encV b).cells, x.one = true := fun x hx => by
 have h1 := encV_one a
 have h2 := encV_one b
 rw [List.all_eq_true] at h1 h2
 rcases zJ1.1 hx with h | h
 ·exact h1 x h
 ·exact h2 x h
def vecP (id : Nat) : MV := .agg [.int .u64 0, .int .u64 0, .lst0, .lst0, .vec id 0 5 2 2]
theorem cl_vecP {n id : Nat} (h : id < n) : Cl n (vecP id) := .agg _ fun x hx => by
 simp only [List.mem_cons, List.not_mem_nil, or_false] at hx
 rcases hx with rfl | rfl | rfl | rfl | rfl
 ·exact .int _ _
 ·exact .int _ _
 ·exact .lst0
 ·exact .lst0
 ·exact .vec _ _ _ _ _ h
def pairO (c d : MObj) (a b : Val) (S : MS) : MS := S ++ [c, d, .cells (vecP (S.length + 3)).cells, .cells ((encV a).cells ++ (encV b).cells)]
theorem bottomV_spec (t1 t2 : Sch) (h1 : isF 16 t1 = true) (h2 : isF 16 t2 = true) (S : MS) : MCalls Tryz.prog 88 [encS (.mk 5 [t1, t2])] S fun v σ' => v = vecP (S.length + 3) ∧ σ' = pairO (.cells (encS (.mk 5 [t1, t2])).cells) (.cells (vecP (S.length + 3)).cells) (bottomF t1) (bottomF t2) S := by
 obtain ⟨k1, i1⟩ := t1
 obtain ⟨k2, i2⟩ := t2
 obtain ⟨⟨n1, m1, s1, c1, w1⟩, e1⟩ : ∃ v, bottomF (.mk k1 i1) = v := ⟨_, rfl⟩
 obtain ⟨⟨n2, m2, s2, c2, w2⟩, e2⟩ : ∃ v, bottomF (.mk k2 i2) = v := ⟨_, rfl⟩
 have ih1 := bottom_spec 16 (.mk k1 i1) h1
 have ih2 := bottom_spec 16 (.mk k2 i2) h2
 rw [e1, e2]
 simp only [e1] at ih1
 simp only [e2] at ih2
 refine zU Tryz.func88 V Tryz.ntmps88 (zA V) ?_
 refine zB <| qR V <| qB V V V V V <| qO V <| zL0 V zm30 V V <| qN <| zB <| qR V <| qO V <| zL0 V zm30 V V <| qN <| zB <| zB <| qR V <| qF V V V zC2 <| qL V V V V ta3 V <| qC V V V V (eqlQ V) <| qN <| zA0 V (V) ?_
 refine zV0 [10, 12] [_, S ++ [.cells (encS (.mk 5 [.mk k1 i1, .mk k2 i2])).cells, .cells [.int .u64 0, .int .u64 0, .lst0, .lst0, .lst0], .cells [.int .u64 0, .int .u64 0, .lst0, .lst0, .lst0], .cells ((encV (.mk n1 m1 s1 c1 w1)).cells ++ (encV (.mk n2 m2 s2 c2 w2)).cells)], S ++ [.cells (encS (.mk 5 [.mk k1 i1, .mk k2 i2])).cells, .cells [.int .u64 0, .int .u64 0, .lst0, .lst0, .lst0], .cells (vecP (S.length + 3)).cells, .cells ((encV (.mk n1 m1 s1 c1 w1)).cells ++ (encV (.mk n2 m2 s2 c2 w2)).cells)]] mo (by decide) V V V V ?_
 refine zV V V (.cons (zJ V V zR2 Vv) (.cons (zJ V V zR2 Vv) (.nil))) <| zV V V (.cons (zE0 V V V ta22 V Vv) (.cons (zE0 V V V ta22 V Vv) (.nil))) <| zV V V (.cons (zG V zJ0 sz24 (by decide) V V V (show _ = some (encS (.mk k1 i1)) from V) Vv) (.cons (zG V zJ0 sz24 (by decide) V V V (show _ = some (encS (.mk k1 i1)) from V) Vv) (.nil))) ?_
 refine zV V V (.cons (zI V V ta24 V Vv) (.cons (zI V V ta24 V Vv) (.nil))) <| zV V V (.cons (zC1 V V V co88 (ih1 _)) .nil) <| zV V V (.cons (zJ V V zR2 Vv) (.cons (zJ V V zR2 Vv) (.nil))) <| zV V V (.cons (zE0 V V V ta22 V Vv) (.cons (zE0 V V V ta22 V Vv) (.nil))) <| zV V V (.cons (zG V zJ0 sz24 (by decide) V V V (show _ = some (encS (.mk k2 i2)) from V) Vv) (.cons (zG V zJ0 sz24 (by decide) V V V (show _ = some (encS (.mk k2 i2)) from V) Vv) (.nil))) ?_
 refine zV V V (.cons (zI V V ta24 V Vv) (.cons (zI V V ta24 V Vv) (.nil))) <| zV V V (.cons (zC1 V V V co88 (ih2 _)) .nil) <| zL1 V V V V (op_buildSliceW V zE el30 V V (by decide) (by decide) V V V Vv) ?_
 refine dO V V V (zJ V V zZ0 Vv) <| zL1 V V V V (zG0 V V V V sz28 V V (zA V) V Vv) <| zK0 <| zB <| qR V <| qL V V V V ta30 V <| qO V <| zG0 V V V V sz30 V V (zA V) V <| qN ?_
 refine zV1 fun hcv hcl => ?_
 refine zL ?_
 have hclE := hcl
 exact ret_cellW (.inr V) Tryz.results88 V (by rw [getElem?_own]; rfl) ta30 V (.refl _) (by simp) (cl_vecP (by simp)) hcl Vv
theorem bottomV_at (t1 t2 : Sch) (h1 : isF 16 t1 = true) (h2 : isF 16 t2 = true) (S : MS) (x y : MObj) : MCalls Tryz.prog 88 [encS (.mk 5 [t1, t2])] (S ++ [x, y]) fun v σ' => v = vecP (S.length + 5) ∧ σ' = S ++ [x, y, .cells (encS (.mk 5 [t1, t2])).cells, .cells (vecP (S.length + 5)).cells, .cells (vecP (S.length + 5)).cells, .cells ((encV (bottomF t1)).cells ++ (encV (bottomF t2)).cells)] := by
 refine (bottomV_spec t1 t2 h1 h2 (S ++ [x, y])).mono ?_
 rintro v σ' ⟨rfl, rfl⟩
 exact ⟨by simp, by simp [pairO]⟩
theorem Is_at {s : Sch} (h : isF 16 s = true) (S : MS) : MCalls Tryz.prog 43 [encS s] S fun v σ' => v = .bool true ∧ σ' = S := by rw [← h]; exact Is_spec s S
theorem BottomV_spec (t1 t2 : Sch) (hs : isF 16 (.mk 5 [t1, t2]) = true) (h1 : isF 16 t1 = true) (h2 : isF 16 t2 = true) (S : MS) : MCalls Tryz.prog 60 [encS (.mk 5 [t1, t2])] S fun v σ' => v = vecP (S.length + 5) ∧ σ' = S ++ [.cells (encS (.mk 5 [t1, t2])).cells, .cells (vecP (S.length + 5)).cells, .cells (encS (.mk 5 [t1, t2])).cells, .cells (vecP (S.length + 5)).cells, .cells (vecP (S.length + 5)).cells, .cells ((encV (bottomF t1)).cells ++ (encV (bottomF t2)).cells)] := by
 refine zU Tryz.func60 V Tryz.ntmps60 (zA V) ?_
 refine zB <| qR V <| qB V V V V V <| qO V <| zL0 V zm30 V V <| qN <| zB <| zB <| qR V <| qL V V V V ta24 V ?_
 refine qX V V V V co43 ((Is_at hs _)) ?_
 refine qO V <| zY0 V V <| qN <| zQ V (V) <| zY <| zB <| qR V <| qL V V V V ta24 V ?_
 refine qX V V V V co88 (bottomV_at t1 t2 h1 h2 S _ _) ?_
 refine qO V <| zG0 V V V V sz30 V V (zA V) V <| qN ?_
 refine zV1 fun hcv hcl => ?_
 refine zL ?_
 exact ret_cellW (.inr V) Tryz.results60 V (by rw [getElem?_own]; rfl) ta30 V (.refl _) (by simp) (cl_vecP (by simp)) hcl Vv
theorem BottomV_at (t1 t2 : Sch) (hs : isF 16 (.mk 5 [t1, t2]) = true) (h1 : isF 16 t1 = true) (h2 : isF 16 t2 = true) (S : MS) (x y : MObj) : MCalls Tryz.prog 60 [encS (.mk 5 [t1, t2])] (S ++ [x, y]) fun v σ' => v = vecP (S.length + 7) ∧ σ' = S ++ [x, y, .cells (encS (.mk 5 [t1, t2])).cells, .cells (vecP (S.length + 7)).cells, .cells (encS (.mk 5 [t1, t2])).cells, .cells (vecP (S.length + 7)).cells, .cells (vecP (S.length + 7)).cells, .cells ((encV (bottomF t1)).cells ++ (encV (bottomF t2)).cells)] := by
 refine (BottomV_spec t1 t2 hs h1 h2 (S ++ [x, y])).mono ?_
 rintro v σ' ⟨rfl, rfl⟩
 exact ⟨by simp, by simp⟩
theorem mapAlone_spec (n0 m0 : Int) (s0 : List Bs) (c0 : List (List Tk)) (w0 : List Val) (i : Nat) (x : Bs) (hx : s0[i]? = some x) (hi40 : i ≤ 1000) (p : Val) (idv idi : Nat) (S : MS) (hv : S[idv]? = some (.cells (encV (.mk n0 m0 s0 c0 w0)).cells)) (hi : S[idi]? = some (.cells [.int .i64 (i : Int)])) : MCalls Tryz.prog 47 [encV p, .ref idv 0, .ref idi 0] S fun v σ' => v = encV (.mk 0 0 [x] [] [p]) ∧ σ' = S := by
 obtain ⟨n, m, s, c, w⟩ := p
 refine zU Tryz.func47 V Tryz.ntmps47 (zA V) ?_
 have hil := (zH.1 hx).1
 refine zB <| qR V <| qB V V V V V <| qO V <| zL0 V zm30 V V <| qN <| zB ?_
 refine zV0 [11] [_, S ++ [.cells (encV (.mk n m s c w)).cells, .cells (encV (.mk 0 0 [x] [] [(.mk n m s c w)])).cells]] mo (by decide) V V V V ?_
 refine dO V V V (zJ V V zU1 Vv) <| dO V V V (zD2 V V hv ta26 V Vv) <| dO V V V (zD2 V V hi ta3 V Vv) <| dO V V V (zD2 V V hi ta3 V Vv) <| dO V V V (zO0 V V V (wadd (a := i) (b := 1) V (by omega)) Vv) ?_
 refine dO V V V (zD2 V V hi ta3 V Vv) <| dO V V V (zO0 V V V (wadd (a := i) (b := 1) V (by omega)) Vv) ?_
 refine dO V V V (op_slice3 V zX sz9 V V V V V V V (by omega) (by simp only [zC]; omega) Vv) ?_
 rw [cut_one (f := encX) hx]
 refine dO V V V (zE0 V V V ta30 V Vv) <| dO V V V (zA1 V zE el30 V V (by decide) (by decide) V V Vv) ?_
 refine zV V V (.cons (zS1 (y := encV (.mk 0 0 [x] [] [(.mk n m s c w)])) (zZ1 V zQ0 zm30 (.cons zU1 sz26 V V (zA V) (.cons zZ0 sz28 V V (zA V) .nil)) (by kernel_rfl) Vv) (.agg (.cons (.refl _) (.cons (.refl _) (.cons (.refl _) (.cons (.nil 1) (.cons (.refl _) .nil)))))) Vv) .nil) ?_
 refine zL1 V V V V (zG0 V V V V sz30 V V (zA V) V Vv) <| zK0 <| zL ?_
 exact zO2 (y := encV (.mk 0 0 [x] [] [(.mk n m s c w)])) (.inr V) Tryz.results47 V V ta30 V (.refl _) (zT1 _ _) Vv
theorem sibAlone_spec (n0 m0 : Int) (s0 : List Bs) (c0 : List (List Tk)) (w0 : List Val) (i : Nat) (x : List Tk) (hx : c0[i]? = some x) (hi40 : i ≤ 1000) (p : Val) (idv idi : Nat) (S : MS) (hv : S[idv]? = some (.cells (encV (.mk n0 m0 s0 c0 w0)).cells)) (hi : S[idi]? = some (.cells [.int .i64 (i : Int)])) : MCalls Tryz.prog 79 [encV p, .ref idv 0, .ref idi 0] S fun v σ' => v = encV (.mk 0 0 [] [x] [p]) ∧ σ' = S := by
 obtain ⟨n, m, s, c, w⟩ := p
 refine zU Tryz.func79 V Tryz.ntmps79 (zA V) ?_
 have hil := (zH.1 hx).1
 refine zB <| qR V <| qB V V V V V <| qO V <| zL0 V zm30 V V <| qN <| zB ?_
 refine zV0 [11] [_, S ++ [.cells (encV (.mk n m s c w)).cells, .cells (encV (.mk 0 0 [] [x] [(.mk n m s c w)])).cells]] mo (by decide) V V V V ?_
 refine dO V V V (zJ V V zM1 Vv) <| dO V V V (zD2 V V hv ta27 V Vv) <| dO V V V (zD2 V V hi ta3 V Vv) <| dO V V V (zD2 V V hi ta3 V Vv) <| dO V V V (zO0 V V V (wadd (a := i) (b := 1) V (by omega)) Vv) ?_
 refine dO V V V (zD2 V V hi ta3 V Vv) <| dO V V V (zO0 V V V (wadd (a := i) (b := 1) V (by omega)) Vv) ?_
 refine dO V V V (op_slice3 V zN sz55 V V V V V V V (by omega) (by simp only [zC]; omega) Vv) ?_
 rw [cut_one (f := encC) hx]
 refine dO V V V (zE0 V V V ta30 V Vv) <| dO V V V (zA1 V zE el30 V V (by decide) (by decide) V V Vv) ?_
 refine zV V V (.cons (zS1 (y := encV (.mk 0 0 [] [x] [(.mk n m s c w)])) (zZ1 V zQ0 zm30 (.cons zM1 sz27 V V (zA V) (.cons zZ0 sz28 V V (zA V) .nil)) (by kernel_rfl) Vv) (.agg (.cons (.refl _) (.cons (.refl _) (.cons (.nil 1) (.cons (.refl _) (.cons (.refl _) .nil)))))) Vv) .nil) ?_
 refine zL1 V V V V (zG0 V V V V sz30 V V (zA V) V Vv) <| zK0 <| zL ?_
 exact zO2 (y := encV (.mk 0 0 [] [x] [(.mk n m s c w)])) (.inr V) Tryz.results79 V V ta30 V (.refl _) (zT1 _ _) Vv
theorem pairAlone0_spec (t1 t2 : Sch) (hs : isF 16 (.mk 5 [t1, t2]) = true) (h1 : isF 16 t1 = true) (h2 : isF 16 t2 = true) (p : Val) (ids idi : Nat) (S : MS) (hv : S[ids]? = some (.cells (encS (.mk 5 [t1, t2])).cells)) (hi : S[idi]? = some (.cells [.int .i64 0])) : MCalls Tryz.prog 78 [encV p, .ref ids 0, .ref idi 0] S fun v σ' => v = encV (.mk 0 0 [] [] [p, (bottomF t2)]) ∧ σ' = S := by
 obtain ⟨n, m, s, c, w⟩ := p
 refine zU Tryz.func78 V Tryz.ntmps78 (zA V) ?_
 refine zB <| qR V <| qB V V V V V <| qO V <| zL0 V zm30 V V <| qN <| zB <| qR V <| qO V <| zD2 V V hv ta24 V ?_
 refine qX V V V V co60 (BottomV_at t1 t2 hs h1 h2 S _ _) ?_
 refine qO V <| zL0 V zm30 V V <| qO V <| zG0 V V V V sz30 V V (zA V) V <| qN <| zB <| qR V <| qF V V V zZ0 <| qL V V V V ta28 V <| qO V <| zD2 V V hi ta3 V <| qO V <| zS1 (y := encV (.mk n m s c w)) (zE0 V V V ta30 V Vv) (.refl _) <| qO V <| op_indexAddr_vec V zE sz30 V V (i := 0) V (by decide) ?_
 refine zF4 V (zR4 (id := S.length + 7) V V V (by rw [getElem?_own]; rfl) sz30 V V (by simp [zU2]) ?_)
 rw [zE3, set_two (zU2 _) (zU2 _) (zU2 _) (by decide), if_pos rfl]
 refine qN <| zB ?_
 refine mwp_freezeC (S.length + 8) 4 (id := S.length + 7) (m := 2) (sz := 5) (cap := 2) (xs := encVs [(.mk n m s c w), (bottomF t2)]) (by rw [getElem?_own]; rfl) V (by rw [getElem?_own]; rfl) (by omega) (fl_two _ _) V (fun x hx => by rw [zY3] at hx; obtain ⟨v, _, rfl⟩ := List.mem_map.1 hx; exact zU2 v) (by simp [zU2]) (two_one _ _) ?_
 rw [zE3, zE3]
 refine qR V <| qL V V V V ta30 V <| qO V <| zG0 V V V V sz30 V V (zA V) V <| qN <| zL ?_
 exact zO2 (y := encV (.mk 0 0 [] [] [(.mk n m s c w), (bottomF t2)])) (.inr V) Tryz.results78 V V ta30 V (.agg (.cons (.refl _) (.cons (.refl _) (.cons (.nil 1) (.cons (.nil 1) (.cons (.refl _) .nil)))))) (zT1 _ _) Vv
theorem pairAlone1_spec (t1 t2 : Sch) (hs : isF 16 (.mk 5 [t1, t2]) = true) (h1 : isF 16 t1 = true) (h2 : isF 16 t2 = true) (p : Val) (ids idi : Nat) (S : MS) (hv : S[ids]? = some (.cells (encS (.mk 5 [t1, t2])).cells)) (hi : S[idi]? = some (.cells [.int .i64 1])) : MCalls Tryz.prog 78 [encV p, .ref ids 0, .ref idi 0] S fun v σ' => v = encV (.mk 0 0 [] [] [(bottomF t1), p]) ∧ σ' = S := by
 obtain ⟨n, m, s, c, w⟩ := p
 refine zU Tryz.func78 V Tryz.ntmps78 (zA V) ?_
 refine zB <| qR V <| qB V V V V V <| qO V <| zL0 V zm30 V V <| qN <| zB <| qR V <| qO V <| zD2 V V hv ta24 V ?_
 refine qX V V V V co60 (BottomV_at t1 t2 hs h1 h2 S _ _) ?_
 refine qO V <| zL0 V zm30 V V <| qO V <| zG0 V V V V sz30 V V (zA V) V <| qN <| zB <| qR V <| qF V V V zZ0 <| qL V V V V ta28 V <| qO V <| zD2 V V hi ta3 V <| qO V <| zS1 (y := encV (.mk n m s c w)) (zE0 V V V ta30 V Vv) (.refl _) <| qO V <| op_indexAddr_vec V zE sz30 V V (i := 1) V (by decide) ?_
 refine zF4 V (zR4 (id := S.length + 7) V V V (by rw [getElem?_own]; rfl) sz30 V V (by simp [zU2]) ?_)
 rw [zE3, set_two (zU2 _) (zU2 _) (zU2 _) (by decide), if_neg (by decide)]
 refine qN <| zB ?_
 refine mwp_freezeC (S.length + 8) 4 (id := S.length + 7) (m := 2) (sz := 5) (cap := 2) (xs := encVs [(bottomF t1), (.mk n m s c w)]) (by rw [getElem?_own]; rfl) V (by rw [getElem?_own]; rfl) (by omega) (fl_two _ _) V (fun x hx => by rw [zY3] at hx; obtain ⟨v, _, rfl⟩ := List.mem_map.1 hx; exact zU2 v) (by simp [zU2]) (two_one _ _) ?_
 rw [zE3, zE3]
 refine qR V <| qL V V V V ta30 V <| qO V <| zG0 V V V V sz30 V V (zA V) V <| qN <| zL ?_
 exact zO2 (y := encV (.mk 0 0 [] [] [(bottomF t1), (.mk n m s c w)])) (.inr V) Tryz.results78 V V ta30 V (.agg (.cons (.refl _) (.cons (.refl _) (.cons (.nil 1) (.cons (.nil 1) (.cons (.refl _) .nil)))))) (zT1 _ _) Vv
theorem each_spec (s : Sch) (v : Val) (S : MS) : MCalls Tryz.prog 25 [encS s, encV v] S fun r σ' => r = .fn (.func 45) [] [.ref S.length 0, .ref (S.length + 1) 0] ∧ σ' = S ++ [.cells (encS s).cells, .cells (encV v).cells] := by
 obtain ⟨k, ins⟩ := s
 obtain ⟨n, m, s, c, w⟩ := v
 refine zU Tryz.func25 V Tryz.ntmps25 (zA V) ?_
 refine zB <| qR V <| qB V V V V V <| qB V V V V V <| qA V V V <| qN <| zB <| qR V <| qO V <| zB2 V V V <| qA V V V <| qN ?_
 refine zV1 fun hcv hcl => ?_
 refine zL ?_
 exact ret_tmpT (.inr V) Tryz.results25 V (.refl _) (hcv 4 _ rfl) (by simp) hcl Vv
theorem join_ok_of {s : Sch} {a b v : Val} (hs : isF 16 s = true) (ha : isVF s a = true) (hb : isVF s b = true) (h : bothF s a b = some v) : joinVF s a b = .ok v := by
 unfold joinVF
 rw [if_pos ⟨by rw [hs, ha]; rfl, by rw [hs, hb]; rfl⟩, h]
theorem okV_num {a : Int} (h : 0 ≤ a ∧ a < 18446744073709551616) : okV (.mk a 0 [] [] []) := by simp [okV, okVs]; omega
theorem gt_yes {y s : Bs} (h : (!(Op.bytesLess y s || y == s)) = true) : ltB s y := by
 simp at h
 rcases ltB_total y s with h2 | h2 | h2
 ·exact absurd h2 (by rw [ltB, h.1]; decide)
 ·exact absurd h2 h.2
 ·exact h2
theorem gt_no {y s : Bs} (h : (!(Op.bytesLess y s || y == s)) = false) : ¬ ltB s y := by
 intro h2
 simp at h
 by_cases h3 : Op.bytesLess y s = true
 ·exact ltB_asymm h2 h3
 ·have := h (by simpa using h3)
  subst this
  exact zV4 _ h2
theorem dropJ {α : Type} {l : List α} {i : Nat} {a : α} (h : l[i]? = some a) : l.drop i = a :: l.drop (i + 1) := by
 obtain ⟨hlt, e⟩ := zH.1 h
 rw [List.drop_eq_getElem_cons hlt, e]
theorem putAll_take {a b : List Bs} {i : Nat} {x : Bs} (h : b[i]? = some x) : putAll a (b.take (i + 1)) = putT x (putAll a (b.take i)) := by rw [List.take_add_one, h, Option.toList_some, putAll_snoc]
theorem putAll_take_len (a b : List Bs) (i : Nat) : (putAll a (b.take i)).length ≤ a.length + b.length := by
 have := putAll_len (b.take i) a
 rw [List.length_take] at this
 omega
theorem rPut_spec (l : List Bs) (s : Bs) (hl : l.length ≤ 100000) (S : MS) : MCalls Tryz.prog 80 [.lst none 1 (l.map encX), encX s] S fun v σ' => v = .lst none 1 ((putT s l).map encX) ∧ σ' = S := by
 refine zU Tryz.func80 V Tryz.ntmps80 (zA V) ?_
 refine zI2 (t := 0) V fun hlen => ?_
 rw [zC] at hlen
 refine zB <| qR V <| qA V V V <| qN <| zB <| zB <| qR V <| qA V V V <| qN <| zB0 ?_
 refine zQ1 (α := Nat) [(0, _), (1, _)] (fun i => [(5, .int .i64 (i : Int))]) (fun i => []) (fun i => i ≤ l.length ∧ ∀ j, j < i → ∀ y, l[j]? = some y → y ≠ s ∧ ¬ ltB s y) (fun i => l.length - i) (0) (.keep V (.keep V (.nil))) (.keep V (.nil)) (⟨by omega, fun j hj => by omega⟩) (V) ?_
 rintro i ⟨hi, hall⟩
 refine zB <| zB <| qR V <| qM V V V <| qM V V V <| qE V V zX V <| qC V V V V V <| qN ?_
 refine zK V (fun h9 => ?_) (fun h9 => ?_)
 ·
  have hlt : i < l.length := by simpa using h9
  obtain ⟨y, hs⟩ : ∃ q_, l[i]? = some q_ := ⟨_, zD hlt⟩
  refine zY <| zB <| zB0 <| zB <| zB <| qR V <| qM V V V <| qM V V V <| qO V <| zG V zX sz9 (by decide) V V V (zR0 hs) ?_
  refine qO V <| zI V V ta9 V <| qM V V V <| qO V <| zM3 V V V V <| qN ?_
  refine zK V (fun h17 => ?_) (fun h17 => ?_)
  ·
   have heq : y = s := by simpa using h17
   refine zB <| qR V <| qM V V V <| qA V V V <| qN <| zL ?_
   exact zT (.inr V) Tryz.results80 V (.of_eq (by rw [put_skip (by omega) hall, dropJ hs, putT, if_pos heq, ← dropJ hs, List.take_append_drop])) (zW4 _ _) Vv
  ·
   have hne : ¬ y = s := by simpa using h17
   refine zY <| zB <| qR V <| qM V V V <| qM V V V <| qO V <| zG V zX sz9 (by decide) V V V (zR0 hs) ?_
   refine qO V <| zI V V ta9 V <| qM V V V <| qO V <| zM3 V V V V <| qN ?_
   refine zK V (fun h24 => ?_) (fun h24 => ?_)
   ·
    have hgr := gt_yes h24
    refine zB ?_
    refine zV0 [3, 6, 10] [_, S ++ [.row 9 1 (List.take (i - 0) (List.drop 0 (l.map encX))).length], S ++ [.row 9 1 ((List.take (i - 0) (List.drop 0 (l.map encX))).length + 1)], S ++ [.row 9 1 ((List.take (i - 0) (List.drop 0 (l.map encX))).length + 1 + (List.take ((l.map encX).length - i) (List.drop i (l.map encX))).length)]] mo (by decide) V V V V ?_
    refine zV V V (.cons (zS V V Vv) (.cons (zS V V Vv) (.cons (zS V V Vv) (.cons (zS V V Vv) (.nil))))) <| zV V V (.cons (zS V V Vv) (.cons (zS V V Vv) (.cons (zS V V Vv) (.cons (zS V V Vv) (.nil))))) <| dO V V V (zL2 V zX sz9 V .none (.some V V) (by first | omega | (simp only [zC]; omega)) (by first | omega | (simp only [zC]; omega)) Vv) ?_
    refine zL1 V V V V (zB5 V zX el9 V V (by simp; omega) (by simp; omega) V V Vv) ?_
    refine zV V V (.cons (zS V V Vv) (.cons (zS V V Vv) (.cons (zS V V Vv) (.cons (zS V V Vv) (.nil))))) <| zV V V (.cons (zA1 V zX el9 V V (by decide) (by decide) V V Vv) (.cons (zA1 V zX el9 V V (by decide) (by decide) V V Vv) (.nil))) ?_
    refine zL1 V V V V (zG2 V zX el9 V V V (by simp) (by simp; omega) (by simp; omega) V Vv) ?_
    refine zV V V (.cons (zS V V Vv) (.cons (zS V V Vv) (.cons (zS V V Vv) (.cons (zS V V Vv) (.nil))))) <| zV V V (.cons (zS V V Vv) (.cons (zS V V Vv) (.cons (zS V V Vv) (.cons (zS V V Vv) (.nil))))) <| zV V V (.cons (zL2 V zX sz9 V (.some V V) .none (by first | omega | (simp only [zC]; omega)) (by first | omega | (simp only [zC]; omega)) Vv) (.cons (zL2 V zX sz9 V (.some V V) .none (by first | omega | (simp only [zC]; omega)) (by first | omega | (simp only [zC]; omega)) Vv) (.cons (zL2 V zX sz9 V (.some V V) .none (by first | omega | (simp only [zC]; omega)) (by first | omega | (simp only [zC]; omega)) Vv) (.nil)))) ?_
    refine zL1 V V V V (zG2 V zX el9 V V V (by simp) (by simp; omega) (by simp; omega) V Vv) ?_
    refine dO V V V (zB1 V V Vv) <| zK0 <| zL ?_
    exact zT (.inr V) Tryz.results80 V (Sub.trans (.view _ _ _) (.of_eq (by rw [put_skip (by omega) hall, dropJ hs, putT, if_neg hne, if_pos hgr, ← dropJ hs]; simp [List.take_of_length_le]))) (zW4 _ _) Vv
   ·
    have hng := gt_no h24
    refine zY <| qR V <| qM V V V <| qO V <| zO0 V V V V <| qA V V V <| qN ?_
    refine ⟨i + 1, by omega, ⟨by omega, fun j hj z hz => ?_⟩, rfl, (.keep V (.keep V (.nil))), (.eq V (zK1 hlt hlen) (.nil))⟩
    by_cases e : j = i
    ·subst e; rw [hs] at hz; injection hz with hz; subst hz; exact ⟨hne, hng⟩
    ·exact hall j (by omega) z hz
 ·
  have hge : i = l.length := by simp at h9; omega
  refine zF1 <| zB <| qR V <| qM V V V <| qO V <| zB5 V zX el9 V V (by simp; omega) (by simp; omega) V V ?_
  refine qM V V V <| qO V <| zA1 V zX el9 V V (by decide) (by decide) V V ?_
  refine qO V <| zG2 V zX el9 V V V (by simp) (by simp; omega) (by simp; omega) V ?_
  refine qA V V V <| qN <| zL ?_
  exact zT (.inr V) Tryz.results80 V (Sub.trans (.view _ _ _) (.of_eq (by rw [put_skip (by omega) hall, hge, List.take_length, List.drop_length, putT, List.map_append]; rfl))) (zW4 _ _) Vv
theorem rBoth_spec (a b : List Bs) (hab : a.length + b.length ≤ 99999) (S : MS) : MCalls Tryz.prog 52 [.lst none 1 (a.map encX), .lst none 1 (b.map encX)] S fun v σ' => v = .lst none 1 ((putAll a b).map encX) ∧ σ' = S := by
 refine zU Tryz.func52 V Tryz.ntmps52 (zA V) ?_
 refine zI2 (t := 1) V fun hlen => ?_
 rw [zC] at hlen
 refine zB <| qR V <| qA V V V <| qN <| zB <| qR V <| qM V V V <| qO V <| zS1 (y := .lst none 1 (a.map encX)) (zB5 V zX el9 V V (by simp; omega) (by simp; omega) V V Vv) (.view _ _ _) ?_
 refine qA V V V <| qN <| zB <| zB <| qR V <| qA V V V <| qN <| zB0 ?_
 refine zQ1 (α := Nat) [(1, _)] (fun i => [(5, .lst none 1 ((putAll a (b.take i)).map encX)), (6, .int .i64 (i : Int))]) (fun i => [.row 9 1 (a.map encX).length]) (fun i => i ≤ b.length) (fun i => b.length - i) (0) (.keep V (.nil)) (.keep V (.keep V (.nil))) (by omega) (V) ?_
 rintro i hi
 refine zB <| zB <| qR V <| qM V V V <| qM V V V <| qE V V zX V <| qC V V V V V <| qN ?_
 refine zK V (fun h12 => ?_) (fun h12 => ?_)
 ·
  have hlt : i < b.length := by simpa using h12
  obtain ⟨x, hs⟩ : ∃ q_, b[i]? = some q_ := ⟨_, zD hlt⟩
  refine zY <| zB <| zB0 <| qR V <| qM V V V <| qM V V V <| qM V V V <| qO V <| zG V zX sz9 (by decide) V V V (zR0 hs) ?_
  refine qO V <| zI V V ta9 V ?_
  refine qX V V V V co80 (rPut_spec (putAll a (b.take i)) x (by have := putAll_take_len a b i; omega) _) ?_
  refine qA V V V <| qN <| qR V <| qM V V V <| qO V <| zO0 V V V V <| qA V V V <| qN ?_
  refine ⟨i + 1, by omega, by omega, rfl, (.keep V (.nil)), (.eq V (by rw [putAll_take hs]) (.eq V (zK1 hlt hlen) (.nil)))⟩
 ·
  have hge : i = b.length := by simp at h12; omega
  refine zF1 <| zB <| qR V <| qM V V V <| qA V V V <| qN <| zL ?_
  exact zT (.inr V) Tryz.results52 V (.of_eq (by rw [hge, List.take_length])) (zW4 _ _) Vv
theorem rBothT_spec (a b : List Bs) (ha : Up a) (hb : Up b) (hab : a.length + b.length ≤ 99999) (S : MS) : MCalls Tryz.prog 52 [.lst none 1 (a.map encX), .lst none 1 (b.map encX)] S fun v σ' => v = .lst none 1 ((bothX a b).map encX) ∧ σ' = S := by
 rw [← both_put ha hb]
 exact rBoth_spec a b hab S
theorem is_set (A : List Bs) : isVF (.mk 3 []) (.mk 0 0 A [] []) = isRowF A := by
 rw [zW0 3]
 simp [bareF, numsK, textsK, clocksK, valuesK, Val.nv, Val.mv, Val.sv, Val.cv, Val.vv]
theorem both_set (A B : List Bs) : bothF (.mk 3 []) (.mk 0 0 A [] []) (.mk 0 0 B [] []) = if 40 < (bothX A B).length then none else some (.mk 0 0 (bothX A B) [] []) := by
 rw [zH3, show bothB 3 (bothL []) (.mk 0 0 A [] []) (.mk 0 0 B [] []) = some (.mk 0 0 (bothX A B) [] []) from rfl]
 have hl : largeF (.mk 0 0 (bothX A B) [] []) = decide (40 < (bothX A B).length) := by rw [zI3]; simp
 by_cases h : 40 < (bothX A B).length
 ·rw [cap_t (by rw [hl]; exact decide_eq_true h), if_pos h]
 ·rw [cap_f (by rw [hl]; exact decide_eq_false h), if_neg h]
theorem join_set {A B : List Bs} (ha : isRowF A = true) (hb : isRowF B = true) : joinVF (.mk 3 []) (.mk 0 0 A [] []) (.mk 0 0 B [] []) = if 40 < (bothX A B).length then .error 13 else .ok (.mk 0 0 (bothX A B) [] []) := by
 unfold joinVF
 rw [if_pos ⟨by rw [is_set, ha]; rfl, by rw [is_set, hb]; rfl⟩, both_set]
 by_cases h : 40 < (bothX A B).length
 ·rw [if_pos h, if_pos h]
 ·rw [if_neg h, if_neg h]
theorem own_get {S S1 L : MS} {k : Nat} (h : S1.length = S.length) : (S1 ++ L)[S.length + k]? = L[k]? := by rw [← h, getElem?_own]
theorem _root_.zX1 : type_of% @own_get := @own_get
theorem own_set {S S1 L : MS} {k : Nat} {o : MObj} (h : S1.length = S.length) : (S1 ++ L).set (S.length + k) o = S1 ++ L.set k o := by rw [← h, zE3]
theorem ret_cellK {P : Program} {fn : Func} {S S' L : MS} {R : MV → MS → Prop} {env : Env} {e : Exit} {a t k off : Nat} {l : List MV} {ta : Option Nat} {x y : MV} (hlen : S'.length = S.length) (he : e = .normal ∨ e = .ret) (hres : fn.results = #[.cell a t]) (ha : get env a = some (.ref (S.length + k) off)) (hl : L[k]? = some (.cells l)) (ht : tyAgg P t = some ta) (hm : loadMV ta l off = some x) (hs : Sub x y) (hc : Cl S'.length y) (hS : ClS S') (hR : R y S') : BodyQ P fn S R e env (S' ++ L) := by
 refine ⟨he, [x], y, S', L, ?_, hs, hc, rfl, by omega, .inr hS, hR⟩
 rw [hres]
 exact .cell ha (by rw [zX1 hlen]; exact hl) ht hm .nil
theorem cl_mono {o : MObj} {a b : Nat} (h : o.cl a) (hab : a ≤ b) : o.cl b := by
 cases o with
 | cells l => exact fun x hx => (h x hx).mono hab
 | loop s p ls => exact fun t x hx => (h t x hx).mono hab
 | row _ _ _ => exact trivial
 | mp _ es => exact fun e he => (h e he).mono hab
 | mit m _ _ _ => exact Nat.lt_of_lt_of_le h hab
 | pin _ _ => exact trivial
 | tcells _ l => exact fun x hx => (h x hx).mono hab
 | orow _ _ _ l => exact fun x hx => (h x hx).mono hab
 | fixed _ _ => exact trivial
 | gone => exact trivial
theorem cls_mem {A : MS} (h : ClS A) {o : MObj} (ho : o ∈ A) {n : Nat} (hn : A.length ≤ n) : o.cl n := by
 obtain ⟨i, hi⟩ := List.getElem?_of_mem ho
 exact cl_mono (h i o hi) hn
theorem cls_two {A A' L : MS} (hl : A'.length = A.length) (h : ClS (A ++ L)) (h' : ClS A') {o : MObj} (ho : o ∈ A' ++ L) {n : Nat} (hn : (([] : MS) ++ (A ++ L)).length ≤ n) : o.cl n :=
 cls_mem (ClS.swap hl h h') ho (by simp [hl] at hn ⊢; omega)
theorem get_rtN {A A' L0 L' : MS} {x y c : MObj} (hl : A'.length = A.length) : (A' ++ (L0 ++ ((y :: L') ++ [c])))[((([] : MS) ++ (A ++ L0)) ++ x :: L').length]? = some c := by
 have e : A' ++ (L0 ++ ((y :: L') ++ [c])) = ((A' ++ L0) ++ y :: L') ++ [c] := by simp
 have e2 : ((([] : MS) ++ (A ++ L0)) ++ x :: L').length = ((A' ++ L0) ++ y :: L').length := by simp [hl]
 rw [e, e2]
 exact zS4
theorem flat4 {A L0 L' : MS} {x c : MObj} : ((([] : MS) ++ (A ++ L0)) ++ x :: L') ++ [c] = A ++ (L0 ++ ((x :: L') ++ [c])) := by simp
theorem look2 {A A' L R : MS} {k : Nat} {o : MObj} (hl : A'.length = A.length) (h : L[k]? = some o) : (A' ++ (L ++ R))[A.length + k]? = some o := by
 rw [zX1 hl]
 exact zT0 h
abbrev okP (l0 : Nat) (F : List (Nat × MObj)) (σ : MS) : Prop := (σ.length = l0 ∧ Sees F σ) ∧ ClS σ
theorem each_at (s : Sch) (v : Val) {S L : MS} {k : Nat} (hL : L.length = k) : MCalls Tryz.prog 25 [encS s, encV v] (S ++ L) fun r σ' => r = .fn (.func 45) [] [.ref (S.length + k) 0, .ref (S.length + (k + 1)) 0] ∧ σ' = S ++ (L ++ [.cells (encS s).cells, .cells (encV v).cells]) := by
 refine (each_spec s v (S ++ L)).mono ?_
 rintro r σ' ⟨rfl, rfl⟩
 rw [zM, hL, zZ]
 exact ⟨rfl, rfl⟩
def EachOk (s : Sch) (v : Val) (ys : List Val) : Prop := ∀ i1 i2, VIter 45 [.ref i1 0, .ref i2 0] ys [(i1, .cells (encS s).cells), (i2, .cells (encV v).cells)]
theorem within_give (s : Sch) (v : Val) (ys : List Val) (g : Val → Val) (ka : FuncId) (caps : List MV) (F : List (Nat × MObj)) (hco : CallOk Tryz.prog ka) (hit : EachOk s v ys) (hal : ∀ (p : Val) (S' : MS), Sees F S' → MCalls Tryz.prog ka ([] ++ [encV p] ++ caps) S' fun r σ' => r = encV (g p) ∧ σ' = S') (l0 : Nat) :
  GiveOk Tryz.prog 48 (fun id => [encS s, encV v, .fn (.func ka) [] caps, .yld id]) .bool (ys.map fun p => [encV (g p)]) (okP l0 F) := by
 intro id T m hok hm hyt hyf
 obtain ⟨k0, ins⟩ := s
 obtain ⟨n0, m0, s0, c0, w0⟩ := v
 have hT : ∀ j, (T j).length = l0 := fun j => (hok j).1.1
 have hT_ : ∀ j, (T j).length = (T 0).length := fun j => (hT j).trans (hT 0).symm
 refine zU Tryz.func48 V Tryz.ntmps48 (zA V) ?_
 refine zB <| qR V <| qB V V V V V <| qB V V V V V <| qB V V V V V <| qB V V V V V <| qO V <| zL0 V zm4 V V <| qN <| zB <| zB <| qR V <| qL V V V V ta24 V <| qL V V V V ta30 V ?_
 refine qX V V V V co25 (each_at (.mk k0 ins) (.mk n0 m0 s0 c0 w0) V) ?_
 refine qN <| zB0 ?_
 have hsee : ∀ (j : Nat) (X : MS), Sees [((T 0).length + 5, .cells (encS (.mk k0 ins)).cells), ((T 0).length + 6, .cells (encV (.mk n0 m0 s0 c0 w0)).cells)] ((([] : MS) ++ (T j ++ [.cells (encS (.mk k0 ins)).cells, .cells (encV (.mk n0 m0 s0 c0 w0)).cells, .cells [.fn (.func ka) [] caps], .cells [.yld id], .cells [.bool false], .cells (encS (.mk k0 ins)).cells, .cells (encV (.mk n0 m0 s0 c0 w0)).cells])) ++ X) := fun j X => .cons (zT0 (by rw [List.nil_append, zX1 (hT_ j)]; rfl)) (.cons (zT0 (by rw [List.nil_append, zX1 (hT_ j)]; rfl)) .nil)
 show mwp _ _ _ _ _ _ _ (T 0 ++ [.cells (encS (.mk k0 ins)).cells, .cells (encV (.mk n0 m0 s0 c0 w0)).cells, .cells [.fn (.func ka) [] caps], .cells [.yld id], .cells [.bool false], .cells (encS (.mk k0 ins)).cells, .cells (encV (.mk n0 m0 s0 c0 w0)).cells])
 refine zV1 fun _ hclW => ?_
 generalize hL0 : ([.cells (encS (.mk k0 ins)).cells, .cells (encV (.mk n0 m0 s0 c0 w0)).cells, .cells [.fn (.func ka) [] caps], .cells [.yld id], .cells [.bool false], .cells (encS (.mk k0 ins)).cells, .cells (encV (.mk n0 m0 s0 c0 w0)).cells] : MS) = L0 at hclW hsee
 have hl8 : L0.length = 7 := by rw [← hL0]; rfl
 show mwp _ _ _ _ _ _ _ (([] : MS) ++ (T 0 ++ L0))
 refine mwp_rangeC (L0 := _) .ret (.inl V) (fun j => decide (j ≠ m)) (fun j => T j ++ L0) (fun j => T j ++ L0) (fun j => T (j + 1) ++ L0) (fun j => by simp [hT j, hT 0]) (fun j => by simp [hT j, hT 0]) (fun j => by simp [hT (j + 1), hT 0]) V
  (fun j o ho n hn => cls_two ((hT j).trans (hT 0).symm) hclW (hok j).2 ho hn) (fun j o ho n hn => cls_two ((hT j).trans (hT 0).symm) hclW (hok j).2 ho hn) (fun j o ho n hn => cls_two ((hT (j + 1)).trans (hT 0).symm) hclW (hok (j + 1)).2 ho hn) rfl co45 rfl (by simp) ((hit ((T 0).length + 5) ((T 0).length + 6) ((T 0).length + 8)).two)
  (fun j => ⟨by simp [hT j, hT 0, hl8], hsee j _⟩) (fun j hj => rfl) (fun j s q => ⟨by simp [hT (j + 1), hT 0, hl8], hsee (j + 1) _⟩) rfl (fun y hy => by obtain ⟨i, _, rfl⟩ := List.mem_map.1 hy; rfl) ?_ ?_ ?_
 ·
  intro j y hy hbef L'
  have hy0 := hy
  rw [zN0] at hy
  obtain ⟨p, hp, rfl⟩ := Option.map_eq_some_iff.1 hy
  obtain ⟨n1, m1, s1, c1, w1⟩ := p
  have hjl := (zH.1 hp).1
  have hyg : (ys.map fun p => [encV (g p)])[j]? = some [encV (g (.mk n1 m1 s1 c1 w1))] := by rw [zN0, hp]; rfl
  have hjm : j ≤ m := by
   rcases Nat.lt_or_ge m j with h | h
   ·have := hbef m h
    simp at this
   ·exact h
  refine qR V <| qO V <| zJ5 V zm30 <| qO V <| zM4 V V V sz30 V V (zA V) <| qN ?_
  refine ⟨rfl, [_], rfl, ?_⟩
  rw [flat4]
  have hpc := @get_rtN (T 0) (T j) L0 L'
  refine mwp_abs fun R hR => ?_
  refine zB0 <| zB ?_
  rcases Nat.lt_or_eq_of_le hjm with hjlt | hjeq
  ·
   refine zV0 [4] [_, T (j + 1) ++ R] mo (by decide) V V V V ?_
   refine zV V V (.cons (zR V V (by rw [hR]; exact look2 (hT_ _) (k := 3) (by rw [← hL0]; rfl)) ta75 V Vv) .nil) ?_
   refine zV V V (.cons (zR V V (by rw [hR]; exact look2 (hT_ _) (k := 2) (by rw [← hL0]; rfl)) ta84 V Vv) (.cons (zR V V (by rw [hR]; exact look2 (hT_ _) (k := 2) (by rw [← hL0]; rfl)) ta84 V Vv) (.nil))) ?_
   refine zV V V (.cons (zS1 (y := encV (.mk n1 m1 s1 c1 w1)) (zR V V (by rw [hR]; exact get_rtN ((hT_ _).trans (hT_ _).symm)) ta30 V Vv) (.refl _) Vv) (.cons (zS1 (y := encV (.mk n1 m1 s1 c1 w1)) (zR V V (by rw [hR]; exact get_rtN ((hT_ _).trans (hT_ _).symm)) ta30 V Vv) (.refl _) Vv) (.nil))) ?_
   refine zV V V (.cons (zC1 V V V hco (hal _ _ (.app (hok j).1.2))) .nil) <| zL1 V V V V (hyt j _ hjlt hyg R _ _ _ _ _ _ rfl V V) <| dO V V V (zY0 V V Vv) <| zK0 <| zQ V (V) <| zY ?_
   exact .inl ⟨decide_eq_true (by omega), rfl, [_], by rw [hR]; exact flat4.symm⟩
  ·
   refine zV0 [4] [_, T (j + 1) ++ R] mo (by decide) V V V V ?_
   refine zV V V (.cons (zR V V (by rw [hR]; exact look2 (hT_ _) (k := 3) (by rw [← hL0]; rfl)) ta75 V Vv) .nil) ?_
   refine zV V V (.cons (zR V V (by rw [hR]; exact look2 (hT_ _) (k := 2) (by rw [← hL0]; rfl)) ta84 V Vv) (.cons (zR V V (by rw [hR]; exact look2 (hT_ _) (k := 2) (by rw [← hL0]; rfl)) ta84 V Vv) (.nil))) ?_
   refine zV V V (.cons (zS1 (y := encV (.mk n1 m1 s1 c1 w1)) (zR V V (by rw [hR]; exact get_rtN ((hT_ _).trans (hT_ _).symm)) ta30 V Vv) (.refl _) Vv) (.cons (zS1 (y := encV (.mk n1 m1 s1 c1 w1)) (zR V V (by rw [hR]; exact get_rtN ((hT_ _).trans (hT_ _).symm)) ta30 V Vv) (.refl _) Vv) (.nil))) ?_
   refine zV V V (.cons (zC1 V V V hco (hal _ _ (.app (hok j).1.2))) .nil) <| zL1 V V V V (hyf j _ hjeq hyg R _ _ _ _ _ _ rfl V V) <| dO V V V (zY0 V V Vv) <| zK0 <| zA0 V (V) <| zB <| qR V <| qO V <| zR4 (id := (T 0).length + 4) V V V (by rw [hR]; exact look2 (hT_ _) (k := 4) (by rw [← hL0]; rfl)) sz4 V V (zA V) ?_
   have hss : (T (j + 1) ++ R).set ((T 0).length + 4) (.cells (setMany [.bool false] 0 (MV.bool false).cells)) = T (j + 1) ++ R := set_self_ (by rw [hR]; exact look2 (hT_ _) (k := 4) (by rw [← hL0]; rfl))
   rw [hss]
   refine qN <| zL ?_
   exact .inr ⟨decide_eq_false (by omega), rfl, [_], by rw [hR]; exact flat4.symm⟩
 ·
  intro hall
  have hmm : m = ys.length := by
   rcases Nat.lt_or_ge m ys.length with h | h
   ·have := hall m (by simpa using h)
    simp at this
   ·simp at hm; omega
  show BlockM _ _ _ _ ((T _ ++ L0) ++ [.gone])
  have e1 : (ys.map fun p => [encV p]).length = m := by rw [zC]; exact hmm.symm
  have e2 : (ys.map fun p => [encV (g p)]).length = m := by rw [zC]; exact hmm.symm
  rw [zZ (T _) L0, e1, e2]
  refine zB <| qR V <| qO V <| zR4 (id := (T 0).length + 4) V V V (by exact look2 (hT_ _) (k := 4) (by rw [← hL0]; rfl)) sz4 V V (zA V) ?_
  rw [own_set (hT_ _), ← hL0]
  refine qN <| zL ?_
  exact ret_cellK (S' := T m) (hT_ _) (.inr V) Tryz.results48 V V ta4 V (.refl _) (.bool _) (hok _).2 ⟨by simp, by simp⟩
 ·
  intro j y hy hp
  have hjm : j = m := by simpa using hp
  subst hjm
  have hlt := (zH.1 hy).1
  rw [zC] at hlt
  show BodyQ _ _ _ _ _ _ ((T (j + 1) ++ L0) ++ [.gone])
  rw [zZ (T (j + 1)) L0, ← hL0]
  exact ret_cellK (S' := T (j + 1)) (hT_ _) (.inr V) Tryz.results48 V V ta4 V (.refl _) (.bool _) (hok _).2 ⟨by simp; omega, by simp [hlt]⟩
theorem map_one {l : List Val} {j : Nat} {x : Val} (h : l[j]? = some x) : (l.map fun p => [encV p])[j]? = some [encV x] := by rw [zN0, h]; rfl
theorem _root_.Go.MV.Sees.hd {i : Nat} {o : MObj} {F : List (Nat × MObj)} {A : MS} (h : Sees ((i, o) :: F) A) : A[i]? = some o := h (i, o) (zM0 ..)
theorem _root_.Go.MV.Sees.tl {p : Nat × MObj} {F : List (Nat × MObj)} {A : MS} (h : Sees (p :: F) A) : Sees F A := fun q hq => h q (zI0 _ hq)
theorem leaves_other {k : Int} (h : k ≠ 3) (h7 : k ≠ 7) {v : Val} : leavesF k v = [v] := by cases v; simp [leavesF, h, h7]
theorem okP_app {l0 n : Nat} {F F' : List (Nat × MObj)} {A J : MS} (h : okP l0 F A) (hn : J.length = n) (hF : Sees F' (A ++ J)) (hJ : ∀ o ∈ J, o.cl (A ++ J).length) : okP (l0 + n) F' (A ++ J) := ⟨⟨by rw [zM, h.1.1, hn], hF⟩, h.2.app hJ⟩
theorem cl_int1 (n : Nat) (k : IntKind) (i : Int) : (MObj.cells [.int k i]).cl n := fun x hx => by
 simp at hx
 subst hx
 exact .int _ _
theorem cl_boxS (n : Nat) (s : Sch) : (MObj.cells (encS s).cells).cl n := fun x hx => by
 have := cl_encS n s
 obtain ⟨k, ins⟩ := s
 cases this with
 | agg _ h => exact h x hx
theorem cl_boxV (n : Nat) (v : Val) : (MObj.cells (encV v).cells).cl n := fun x hx => by
 have := zT1 n v
 obtain ⟨_, _, _, _, _⟩ := v
 cases this with
 | agg _ h => exact h x hx
theorem _root_.zN6 : type_of% @Tryz.results51 := @Tryz.results51
theorem leaves3_give (ins : List Sch) (v : Val) (F : List (Nat × MObj)) (l0 : Nat) : GiveOk Tryz.prog 51 (fun id => [encS (.mk 3 ins), encV v, .yld id]) .bool ((leavesF 3 v).map fun p => [encV p]) (okP l0 F) := by
 obtain ⟨n0, m0, s0, c0, w0⟩ := v
 intro id T m hok hm hyt hyf
 have hT : ∀ j, (T j).length = l0 := fun j => (hok j).1.1
 have hT_ : ∀ j, (T j).length = (T 0).length := fun j => (hT j).trans (hT 0).symm
 have hll : ((leavesF 3 (.mk n0 m0 s0 c0 w0)).map fun p => [encV p]).length = s0.length := by simp [leavesF]
 rw [hll] at hm ⊢
 refine zU Tryz.func51 V Tryz.ntmps51 (zA V) ?_
 refine zB <| qR V <| qB V V V V V <| qB V V V V V <| qA V V V <| qN <| zB <| zB <| qR V <| qF V V V zC2 <| qL V V V V ta3 V <| qN <| zB0 <| zB <| qR V <| qC V V V V (eqlQ V) <| qA V V V <| qN <| zA0 V (V) <| zB <| zB <| qR V <| qF V V V zU1 ?_
 refine qL V V V V ta26 V <| qE V V zX V <| qM V V V <| qN <| zB0 ?_
 show mwp _ _ _ _ _ _ _ (([] : MS) ++ (T 0 ++ [.cells (encS (.mk 3 ins)).cells, .cells (encV (.mk n0 m0 s0 c0 w0)).cells]))
 refine zI2 (t := 18) V fun hlen => ?_
 rw [zC] at hlen
 refine zQ1 (α := Nat) [(2, _), (18, _), (19, _)] (fun i => [(20, .int .i64 (i : Int))]) (fun i => T i ++ [.cells (encS (.mk 3 ins)).cells, .cells (encV (.mk n0 m0 s0 c0 w0)).cells]) (fun i => i ≤ m ∧ i ≤ s0.length) (fun i => s0.length - i) (0) (.keep V (.keep V (.keep V (.nil)))) (.keep V (.nil)) (⟨by omega, by omega⟩) (V) ?_
 rintro i ⟨hi, his⟩
 refine zB <| qR V <| qC V V V V V <| qN <| zB ?_
 refine zK V (fun h21 => ?_) (fun h21 => ?_)
 ·
  have hlt : i < s0.length := by simpa using h21
  obtain ⟨t, hs⟩ : ∃ q_, s0[i]? = some q_ := ⟨_, zD hlt⟩
  refine zY <| zB <| zB0 <| zB <| qR V <| qO V <| zG V zX sz9 (by decide) V V V (zR0 hs) ?_
  refine qO V <| zI V V ta9 V <| qA V V V <| qN <| zB ?_
  rcases Nat.lt_or_eq_of_le hi with hjm | hjm
  ·
   have hyi : (leavesF 3 (.mk n0 m0 s0 c0 w0))[i]? = some (.mk 0 0 [t] [] []) := by simp [leavesF, hs]
   refine qR V <| qM V V V <| qM V V V <| qO V <| zA1 V zX el9 V V (by decide) (by decide) V V ?_
   refine qO V <| zS1 (y := encV (.mk 0 0 [t] [] [])) (zZ1 V zQ0 zm30 (.cons zU1 sz26 V V (zA V) .nil) (by kernel_rfl) Vv) (.agg (.cons (.refl _) (.cons (.refl _) (.cons (.refl _) (.cons (.nil 1) (.cons (.nil 5) .nil)))))) ?_
   refine qO V <| (((hyt i _ hjm (map_one hyi)).frame [.cells (encS (.mk 3 ins)).cells, .cells (encV (.mk n0 m0 s0 c0 w0)).cells]).at0 V V V).mono ?_
   rintro _ _ ⟨rfl, rfl⟩
   refine qO V <| zY0 V V <| qN <| zQ V (V) <| zY <| qR V <| qO V <| zO0 V V V V <| qM V V V <| qN ?_
   refine ⟨i + 1, by omega, ⟨by omega, by omega⟩, rfl, (.keep V (.keep V (.keep V (.nil)))), (.eq V (zK1 hlt hlen) (.nil))⟩
  ·
   have hyi : (leavesF 3 (.mk n0 m0 s0 c0 w0))[i]? = some (.mk 0 0 [t] [] []) := by simp [leavesF, hs]
   refine qR V <| qM V V V <| qM V V V <| qO V <| zA1 V zX el9 V V (by decide) (by decide) V V ?_
   refine qO V <| zS1 (y := encV (.mk 0 0 [t] [] [])) (zZ1 V zQ0 zm30 (.cons zU1 sz26 V V (zA V) .nil) (by kernel_rfl) Vv) (.agg (.cons (.refl _) (.cons (.refl _) (.cons (.refl _) (.cons (.nil 1) (.cons (.nil 5) .nil)))))) ?_
   refine qO V <| (((hyf i _ hjm (map_one hyi)).frame [.cells (encS (.mk 3 ins)).cells, .cells (encV (.mk n0 m0 s0 c0 w0)).cells]).at0 V V V).mono ?_
   rintro _ _ ⟨rfl, rfl⟩
   refine qO V <| zY0 V V <| qN <| zA0 V (V) <| zB <| qR V <| qA V V V <| qN <| zL ?_
   exact zK5 (S' := T (i + 1)) (.inr V) zN6 V (.refl _) (.bool _) (by rw [hT_ (i + 1)]; exact Nat.le_refl _) (hok _).2 ⟨congrArg MV.bool (decide_eq_false (by omega)).symm, by rw [hjm, if_pos (by omega)]⟩
 ·
  have hge : i = s0.length := by simp at h21; omega
  refine zF1 <| zB <| qR V <| qA V V V <| qN <| zL ?_
  exact zK5 (S' := T i) (.inr V) zN6 V (.refl _) (.bool _) (by rw [hT_ i]; exact Nat.le_refl _) (hok _).2 ⟨congrArg MV.bool (decide_eq_true (by omega)).symm, by rw [if_neg (by omega)]; congr 1; omega⟩
theorem leaves1_give (k : Int) (hk3 : k ≠ 3) (hk7 : k ≠ 7) (ins : List Sch) (v : Val) (F : List (Nat × MObj)) (l0 : Nat) : GiveOk Tryz.prog 51 (fun id => [encS (.mk k ins), encV v, .yld id]) .bool ((leavesF k v).map fun p => [encV p]) (okP l0 F) := by
 obtain ⟨n0, m0, s0, c0, w0⟩ := v
 intro id T m hok hm hyt hyf
 have hT : ∀ j, (T j).length = l0 := fun j => (hok j).1.1
 have hT_ : ∀ j, (T j).length = (T 0).length := fun j => (hT j).trans (hT 0).symm
 have hll : ((leavesF k (.mk n0 m0 s0 c0 w0)).map fun p => [encV p]).length = 1 := by rw [leaves_other hk3 hk7]; rfl
 have hyi : (leavesF k (.mk n0 m0 s0 c0 w0))[0]? = some (.mk n0 m0 s0 c0 w0) := by rw [leaves_other hk3 hk7]; rfl
 rw [hll] at hm ⊢
 refine zU Tryz.func51 V Tryz.ntmps51 (zA V) ?_
 refine zB <| qR V <| qB V V V V V <| qB V V V V V <| qA V V V <| qN <| zB <| zB <| qR V <| qF V V V zC2 <| qL V V V V ta3 V <| qN <| zB0 <| zB <| qR V <| qC V V V V (eqlN hk3) <| qA V V V <| qN <| zQ V (V) <| zB <| qR V <| qC V V V V (eqlN hk7) ?_
 refine qA V V V <| qN <| zQ V (V) <| zY <| zB ?_
 rcases Nat.lt_or_eq_of_le hm with hjm | hjm
 ·
  refine qR V <| qM V V V <| qO V <| zS1 (y := encV (.mk n0 m0 s0 c0 w0)) (zE0 V V V ta30 V Vv) (.refl _) <| qO V <| (((hyf 0 _ (by omega) (map_one hyi)).frame [.cells (encS (.mk k ins)).cells, .cells (encV (.mk n0 m0 s0 c0 w0)).cells]).at0 V V V).mono ?_
  rintro _ _ ⟨rfl, rfl⟩
  refine qA V V V <| qN <| zL ?_
  exact zK5 (S' := T 1) (.inr V) zN6 V (.refl _) (.bool _) (by rw [hT_ 1]; exact Nat.le_refl _) (hok _).2 ⟨congrArg MV.bool (decide_eq_false (by omega)).symm, by rw [if_pos (by omega)]; congr 1; omega⟩
 ·
  refine qR V <| qM V V V <| qO V <| zS1 (y := encV (.mk n0 m0 s0 c0 w0)) (zE0 V V V ta30 V Vv) (.refl _) <| qO V <| (((hyt 0 _ (by omega) (map_one hyi)).frame [.cells (encS (.mk k ins)).cells, .cells (encV (.mk n0 m0 s0 c0 w0)).cells]).at0 V V V).mono ?_
  rintro _ _ ⟨rfl, rfl⟩
  refine qA V V V <| qN <| zL ?_
  exact zK5 (S' := T 1) (.inr V) zN6 V (.refl _) (.bool _) (by rw [hT_ 1]; exact Nat.le_refl _) (hok _).2 ⟨congrArg MV.bool (decide_eq_true (by omega)).symm, by rw [if_neg (by omega)]; congr 1; omega⟩
theorem paired0_give (t1 t2 : Sch) (hs : isF 16 (.mk 5 [t1, t2]) = true) (h1 : isF 16 t1 = true) (h2 : isF 16 t2 = true) (n0 m0 : Int) (s0 : List Bs) (c0 : List (List Tk)) (x0 x1 : Val) (ys : List Val) (hit : EachOk t1 x0 ys) (F : List (Nat × MObj)) (l0 : Nat) : GiveOk Tryz.prog 49 (fun id => [encS (.mk 5 [t1, t2]), encV (.mk n0 m0 s0 c0 [x0, x1]), .int .i64 0, .yld id]) .bool (ys.map fun p => [encV ((fun p => .mk 0 0 [] [] [p, bottomF t2]) p)]) (okP l0 F) := by
 obtain ⟨k1, i1⟩ := t1
 obtain ⟨k2, i2⟩ := t2
 obtain ⟨na, ma, sa, ca, wa⟩ := x0
 obtain ⟨nb, mb, sb, cb, wb⟩ := x1
 intro id T m hok hm hyt hyf
 have hT : ∀ j, (T j).length = l0 := fun j => (hok j).1.1
 have hT_ : ∀ j, (T j).length = (T 0).length := fun j => (hT j).trans (hT 0).symm
 have hW := within_give (.mk k1 i1) (.mk na ma sa ca wa) ys (fun p => .mk 0 0 [] [] [p, bottomF (.mk k2 i2)]) 78 [.ref ((T 0).length + 0) 0, .ref ((T 0).length + 2) 0] [((T 0).length + 0, .cells (encS (.mk 5 [.mk k1 i1, .mk k2 i2])).cells), ((T 0).length + 2, .cells [.int .i64 0])] co78 hit (fun p S' hS => pairAlone0_spec _ _ hs h1 h2 p _ _ S' hS.hd hS.tl.hd) (l0 + 3)
 have hcall := (hW).use (a := 0) (M := m) (T := T) (J := [.cells (encS (.mk 5 [.mk k1 i1, .mk k2 i2])).cells, .cells (encV (.mk n0 m0 s0 c0 [.mk na ma sa ca wa, .mk nb mb sb cb wb])).cells, .cells [.int .i64 0]]) (fun j => okP_app (hok j) rfl (.cons (by rw [zX1 (hT_ j)]; rfl) (.cons (by rw [zX1 (hT_ j)]; rfl) .nil)) (fun o ho => by simp at ho; rcases ho with rfl | rfl | rfl <;> first | exact cl_boxS _ _ | exact cl_boxV _ _ | exact cl_int1 _ _ _)) (fun j y h => by rw [Nat.zero_add]; exact h) hyt hyf (Nat.zero_le _)
 rw [Nat.zero_add] at hcall
 simp only [zC] at hcall hm ⊢
 refine zU Tryz.func49 V Tryz.ntmps49 (zA V) ?_
 refine zB <| qR V <| qB V V V V V <| qB V V V V V <| qB V V V V V <| qA V V V <| qN <| zB <| qR V <| qO V <| zB2 V V V <| qA V V V <| qN <| zB ?_
 refine zV0 [12] [_, T (if ys.length ≤ m then ys.length else m + 1) ++ [.cells (encS (.mk 5 [.mk k1 i1, .mk k2 i2])).cells, .cells (encV (.mk n0 m0 s0 c0 [.mk na ma sa ca wa, .mk nb mb sb cb wb])).cells, .cells [.int .i64 0]]] mo (by decide) V V V V ?_
 refine zV V V (.cons (zJ V V zR2 Vv) (.cons (zJ V V zR2 Vv) (.nil))) <| zV V V (.cons (zR V V ((zX1 (hT_ _)).trans V) ta22 V Vv) (.cons (zR V V ((zX1 (hT_ _)).trans V) ta22 V Vv) (.nil))) <| zV V V (.cons (zR V V ((zX1 (hT_ _)).trans V) ta3 V Vv) (.cons (zR V V ((zX1 (hT_ _)).trans V) ta3 V Vv) (.nil))) <| zV V V (.cons (zG V zJ0 sz24 (by decide) V V V (show _ = some (encS (.mk k1 i1)) from V) Vv) (.cons (zG V zJ0 sz24 (by decide) V V V (show _ = some (encS (.mk k1 i1)) from V) Vv) (.nil))) ?_
 refine dO V V V (zI V V ta24 V Vv) <| zV V V (.cons (zJ V V zZ0 Vv) (.cons (zJ V V zZ0 Vv) (.nil))) <| zV V V (.cons (zR V V ((zX1 (hT_ _)).trans V) ta28 V Vv) (.cons (zR V V ((zX1 (hT_ _)).trans V) ta28 V Vv) (.nil))) <| zV V V (.cons (zR V V ((zX1 (hT_ _)).trans V) ta3 V Vv) (.cons (zR V V ((zX1 (hT_ _)).trans V) ta3 V Vv) (.nil))) <| zV V V (.cons (zG V zE sz30 (by decide) V V V (show _ = some (encV (.mk na ma sa ca wa)) from V) Vv) (.cons (zG V zE sz30 (by decide) V V V (show _ = some (encV (.mk na ma sa ca wa)) from V) Vv) (.nil))) ?_
 refine dO V V V (zI V V ta30 V Vv) <| dO V V V (zS V V Vv) <| dO V V V (zS V V Vv) <| zL1 V V V V (zC1 V V V co48 (hcall)) <| dO V V V (zB1 V V Vv) <| zK0 <| zL ?_
 exact zK5 (S' := T (if ys.length ≤ m then ys.length else m + 1)) (.inr V) Tryz.results49 V (.refl _) (.bool _) (Nat.le_of_eq (hT_ _).symm) (hok _).2 ⟨congrArg MV.bool (decide_eq_decide.2 ⟨fun h => by omega, fun h => by omega⟩), congrArg T (by split <;> split <;> omega)⟩
theorem paired1_give (t1 t2 : Sch) (hs : isF 16 (.mk 5 [t1, t2]) = true) (h1 : isF 16 t1 = true) (h2 : isF 16 t2 = true) (n0 m0 : Int) (s0 : List Bs) (c0 : List (List Tk)) (x0 x1 : Val) (ys : List Val) (hit : EachOk t2 x1 ys) (F : List (Nat × MObj)) (l0 : Nat) : GiveOk Tryz.prog 49 (fun id => [encS (.mk 5 [t1, t2]), encV (.mk n0 m0 s0 c0 [x0, x1]), .int .i64 1, .yld id]) .bool (ys.map fun p => [encV ((fun p => .mk 0 0 [] [] [bottomF t1, p]) p)]) (okP l0 F) := by
 obtain ⟨k1, i1⟩ := t1
 obtain ⟨k2, i2⟩ := t2
 obtain ⟨na, ma, sa, ca, wa⟩ := x0
 obtain ⟨nb, mb, sb, cb, wb⟩ := x1
 intro id T m hok hm hyt hyf
 have hT : ∀ j, (T j).length = l0 := fun j => (hok j).1.1
 have hT_ : ∀ j, (T j).length = (T 0).length := fun j => (hT j).trans (hT 0).symm
 have hW := within_give (.mk k2 i2) (.mk nb mb sb cb wb) ys (fun p => .mk 0 0 [] [] [bottomF (.mk k1 i1), p]) 78 [.ref ((T 0).length + 0) 0, .ref ((T 0).length + 2) 0] [((T 0).length + 0, .cells (encS (.mk 5 [.mk k1 i1, .mk k2 i2])).cells), ((T 0).length + 2, .cells [.int .i64 1])] co78 hit (fun p S' hS => pairAlone1_spec _ _ hs h1 h2 p _ _ S' hS.hd hS.tl.hd) (l0 + 3)
 have hcall := (hW).use (a := 0) (M := m) (T := T) (J := [.cells (encS (.mk 5 [.mk k1 i1, .mk k2 i2])).cells, .cells (encV (.mk n0 m0 s0 c0 [.mk na ma sa ca wa, .mk nb mb sb cb wb])).cells, .cells [.int .i64 1]]) (fun j => okP_app (hok j) rfl (.cons (by rw [zX1 (hT_ j)]; rfl) (.cons (by rw [zX1 (hT_ j)]; rfl) .nil)) (fun o ho => by simp at ho; rcases ho with rfl | rfl | rfl <;> first | exact cl_boxS _ _ | exact cl_boxV _ _ | exact cl_int1 _ _ _)) (fun j y h => by rw [Nat.zero_add]; exact h) hyt hyf (Nat.zero_le _)
 rw [Nat.zero_add] at hcall
 simp only [zC] at hcall hm ⊢
 refine zU Tryz.func49 V Tryz.ntmps49 (zA V) ?_
 refine zB <| qR V <| qB V V V V V <| qB V V V V V <| qB V V V V V <| qA V V V <| qN <| zB <| qR V <| qO V <| zB2 V V V <| qA V V V <| qN <| zB ?_
 refine zV0 [12] [_, T (if ys.length ≤ m then ys.length else m + 1) ++ [.cells (encS (.mk 5 [.mk k1 i1, .mk k2 i2])).cells, .cells (encV (.mk n0 m0 s0 c0 [.mk na ma sa ca wa, .mk nb mb sb cb wb])).cells, .cells [.int .i64 1]]] mo (by decide) V V V V ?_
 refine zV V V (.cons (zJ V V zR2 Vv) (.cons (zJ V V zR2 Vv) (.nil))) <| zV V V (.cons (zR V V ((zX1 (hT_ _)).trans V) ta22 V Vv) (.cons (zR V V ((zX1 (hT_ _)).trans V) ta22 V Vv) (.nil))) <| zV V V (.cons (zR V V ((zX1 (hT_ _)).trans V) ta3 V Vv) (.cons (zR V V ((zX1 (hT_ _)).trans V) ta3 V Vv) (.nil))) <| zV V V (.cons (zG V zJ0 sz24 (by decide) V V V (show _ = some (encS (.mk k2 i2)) from V) Vv) (.cons (zG V zJ0 sz24 (by decide) V V V (show _ = some (encS (.mk k2 i2)) from V) Vv) (.nil))) ?_
 refine dO V V V (zI V V ta24 V Vv) <| zV V V (.cons (zJ V V zZ0 Vv) (.cons (zJ V V zZ0 Vv) (.nil))) <| zV V V (.cons (zR V V ((zX1 (hT_ _)).trans V) ta28 V Vv) (.cons (zR V V ((zX1 (hT_ _)).trans V) ta28 V Vv) (.nil))) <| zV V V (.cons (zR V V ((zX1 (hT_ _)).trans V) ta3 V Vv) (.cons (zR V V ((zX1 (hT_ _)).trans V) ta3 V Vv) (.nil))) <| zV V V (.cons (zG V zE sz30 (by decide) V V V (show _ = some (encV (.mk nb mb sb cb wb)) from V) Vv) (.cons (zG V zE sz30 (by decide) V V V (show _ = some (encV (.mk nb mb sb cb wb)) from V) Vv) (.nil))) ?_
 refine dO V V V (zI V V ta30 V Vv) <| dO V V V (zS V V Vv) <| dO V V V (zS V V Vv) <| zL1 V V V V (zC1 V V V co48 (hcall)) <| dO V V V (zB1 V V Vv) <| zK0 <| zL ?_
 exact zK5 (S' := T (if ys.length ≤ m then ys.length else m + 1)) (.inr V) Tryz.results49 V (.refl _) (.bool _) (Nat.le_of_eq (hT_ _).symm) (hok _).2 ⟨congrArg MV.bool (decide_eq_decide.2 ⟨fun h => by omega, fun h => by omega⟩), congrArg T (by split <;> split <;> omega)⟩
theorem sib_give (k : Int) (t1 : Sch) (h1 : isF 16 t1 = true) (n0 m0 : Int) (s0 : List Bs) (c0 : List (List Tk)) (w0 : List Val) (i : Nat) (x : Val) (cx : List Tk) (hwx : w0[i]? = some x) (hcx : c0[i]? = some cx) (hi40 : i ≤ 1000) (ys : List Val) (hit : EachOk t1 x ys) (F : List (Nat × MObj)) (l0 : Nat) : GiveOk Tryz.prog 50 (fun id => [encS (.mk k [t1]), encV (.mk n0 m0 s0 c0 w0), .int .i64 (i : Int), .yld id]) .bool ((if bottomF t1 = x then [x] else ys).map fun p => [encV (.mk 0 0 [] [cx] [p])]) (okP l0 F) := by
 obtain ⟨k1, i1⟩ := t1
 obtain ⟨n1, m1, s1, c1, w1⟩ := x
 intro id T m hok hm hyt hyf
 have hT : ∀ j, (T j).length = l0 := fun j => (hok j).1.1
 have hT_ : ∀ j, (T j).length = (T 0).length := fun j => (hT j).trans (hT 0).symm
 have hW := within_give (.mk k1 i1) (.mk n1 m1 s1 c1 w1) ys (fun p => .mk 0 0 [] [cx] [p]) 79 [.ref ((T 0).length + 1) 0, .ref ((T 0).length + 2) 0] [((T 0).length + 1, .cells (encV (.mk n0 m0 s0 c0 w0)).cells), ((T 0).length + 2, .cells [.int .i64 (i : Int)])] co79 hit (fun p S' hS => sibAlone_spec n0 m0 s0 c0 w0 i cx hcx hi40 p _ _ S' hS.hd hS.tl.hd) (l0 + 3)
 have hcall := fun hyt hyf => (hW).use (id := id) (zs := ys.map fun p => [encV (.mk 0 0 [] [cx] [p])]) (a := 0) (M := m) (T := T) (J := [.cells (encS (.mk k [.mk k1 i1])).cells, .cells (encV (.mk n0 m0 s0 c0 w0)).cells, .cells [.int .i64 (i : Int)]]) (fun j => okP_app (hok j) rfl (.cons (by rw [zX1 (hT_ j)]; rfl) (.cons (by rw [zX1 (hT_ j)]; rfl) .nil)) (fun o ho => by simp at ho; rcases ho with rfl | rfl | rfl <;> first | exact cl_boxS _ _ | exact cl_boxV _ _ | exact cl_int1 _ _ _)) (fun j y h => by rw [Nat.zero_add]; exact h) hyt hyf (Nat.zero_le _)
 simp only [Nat.zero_add, zC] at hcall
 refine zU Tryz.func50 V Tryz.ntmps50 (zA V) ?_
 refine zB <| qR V <| qB V V V V V <| qB V V V V V <| qB V V V V V <| qA V V V <| qN <| zB <| qR V <| qO V <| zB2 V V V <| qA V V V <| qN <| zB <| zB ?_
 by_cases hb : bottomF (.mk k1 i1) = (.mk n1 m1 s1 c1 w1)
 ·
  have hno : noneF (.mk k1 i1) (.mk n1 m1 s1 c1 w1) = true := by unfold noneF; rw [zH6 h1 (Nat.le_refl _)]; exact decide_eq_true hb
  have hmm : m ≤ 1 := by rw [if_pos hb] at hm; simpa using hm
  rw [if_pos hb] at hyt hyf ⊢
  refine zV0 [] [_] mo (by decide) V V V V ?_
  refine dO V V V (zJ V V zR2 Vv) <| dO V V V (zR V V ((zX1 (hT_ _)).trans V) ta22 V Vv) <| dO V V V (zG V zJ0 sz24 (by decide) V V V (show _ = some (encS (.mk k1 i1)) from V) Vv) ?_
  refine dO V V V (zI V V ta24 V Vv) <| dO V V V (zJ V V zZ0 Vv) <| dO V V V (zR V V ((zX1 (hT_ _)).trans V) ta28 V Vv) <| dO V V V (zR V V ((zX1 (hT_ _)).trans V) ta3 V Vv) <| dO V V V (zG V zE sz30 (by decide) V V V (zN1 hwx) Vv) ?_
  refine dO V V V (zI V V ta30 V Vv) <| zV V V (.cons (zC1 V V V co46 (zR5 (.mk k1 i1) (.mk n1 m1 s1 c1 w1) _)) .nil) ?_
  rw [hno]
  refine zK0 <| zA0 V (V) <| zB ?_
  rcases Nat.lt_or_eq_of_le hmm with hjm | hjm
  ·
   refine qR V <| qM V V V <| qM V V V <| qF V V V zZ0 <| qO V <| zR V V ((zX1 (hT_ _)).trans V) ta28 V <| qO V <| zR V V ((zX1 (hT_ _)).trans V) ta3 V <| qO V <| zG V zE sz30 (by decide) V V V (zN1 hwx) ?_
   refine qO V <| zS1 (y := encV (.mk n1 m1 s1 c1 w1)) (zI V V ta30 V Vv) (.refl _) ?_
   refine qX V V V V co79 (sibAlone_spec n0 m0 s0 c0 w0 i cx hcx hi40 (.mk n1 m1 s1 c1 w1) _ _ _ ((zX1 (hT_ _)).trans V) ((zX1 (hT_ _)).trans V)) ?_
   refine qO V <| (((hyf 0 _ (by omega) V).frame [.cells (encS (.mk k [.mk k1 i1])).cells, .cells (encV (.mk n0 m0 s0 c0 w0)).cells, .cells [.int .i64 (i : Int)]]).at0 V V V).mono ?_
   rintro _ _ ⟨rfl, rfl⟩
   refine qA V V V <| qN <| zL ?_
   exact zK5 (S' := T 1) (.inr V) Tryz.results50 V (.refl _) (.bool _) (Nat.le_of_eq (hT_ _).symm) (hok _).2 ⟨congrArg MV.bool (decide_eq_false (by simp; omega)).symm, by rw [if_pos (by simp; omega)]; congr 1; omega⟩
  ·
   refine qR V <| qM V V V <| qM V V V <| qF V V V zZ0 <| qO V <| zR V V ((zX1 (hT_ _)).trans V) ta28 V <| qO V <| zR V V ((zX1 (hT_ _)).trans V) ta3 V <| qO V <| zG V zE sz30 (by decide) V V V (zN1 hwx) ?_
   refine qO V <| zS1 (y := encV (.mk n1 m1 s1 c1 w1)) (zI V V ta30 V Vv) (.refl _) ?_
   refine qX V V V V co79 (sibAlone_spec n0 m0 s0 c0 w0 i cx hcx hi40 (.mk n1 m1 s1 c1 w1) _ _ _ ((zX1 (hT_ _)).trans V) ((zX1 (hT_ _)).trans V)) ?_
   refine qO V <| (((hyt 0 _ (by omega) V).frame [.cells (encS (.mk k [.mk k1 i1])).cells, .cells (encV (.mk n0 m0 s0 c0 w0)).cells, .cells [.int .i64 (i : Int)]]).at0 V V V).mono ?_
   rintro _ _ ⟨rfl, rfl⟩
   refine qA V V V <| qN <| zL ?_
   exact zK5 (S' := T 1) (.inr V) Tryz.results50 V (.refl _) (.bool _) (Nat.le_of_eq (hT_ _).symm) (hok _).2 ⟨congrArg MV.bool (decide_eq_true (by simp; omega)).symm, by rw [if_neg (by simp; omega)]; congr 1; omega⟩
 ·
  have hno : noneF (.mk k1 i1) (.mk n1 m1 s1 c1 w1) = false := by unfold noneF; rw [zH6 h1 (Nat.le_refl _)]; exact decide_eq_false hb
  rw [if_neg hb] at hm hyt hyf ⊢
  replace hcall := hcall hyt hyf
  rw [zC] at hm
  refine zV0 [] [_] mo (by decide) V V V V ?_
  refine dO V V V (zJ V V zR2 Vv) <| dO V V V (zR V V ((zX1 (hT_ _)).trans V) ta22 V Vv) <| dO V V V (zG V zJ0 sz24 (by decide) V V V (show _ = some (encS (.mk k1 i1)) from V) Vv) ?_
  refine dO V V V (zI V V ta24 V Vv) <| dO V V V (zJ V V zZ0 Vv) <| dO V V V (zR V V ((zX1 (hT_ _)).trans V) ta28 V Vv) <| dO V V V (zR V V ((zX1 (hT_ _)).trans V) ta3 V Vv) <| dO V V V (zG V zE sz30 (by decide) V V V (zN1 hwx) Vv) ?_
  refine dO V V V (zI V V ta30 V Vv) <| zV V V (.cons (zC1 V V V co46 (zR5 (.mk k1 i1) (.mk n1 m1 s1 c1 w1) _)) .nil) ?_
  rw [hno]
  refine zK0 <| zQ V (V) <| zY <| zB ?_
  refine zV0 [11] [_, T (if ys.length ≤ m then ys.length else m + 1) ++ [.cells (encS (.mk k [.mk k1 i1])).cells, .cells (encV (.mk n0 m0 s0 c0 w0)).cells, .cells [.int .i64 (i : Int)]]] mo (by decide) V V V V ?_
  refine zV V V (.cons (zJ V V zR2 Vv) (.cons (zJ V V zR2 Vv) (.nil))) <| zV V V (.cons (zR V V ((zX1 (hT_ _)).trans V) ta22 V Vv) (.cons (zR V V ((zX1 (hT_ _)).trans V) ta22 V Vv) (.nil))) <| zV V V (.cons (zG V zJ0 sz24 (by decide) V V V (show _ = some (encS (.mk k1 i1)) from V) Vv) (.cons (zG V zJ0 sz24 (by decide) V V V (show _ = some (encS (.mk k1 i1)) from V) Vv) (.nil))) ?_
  refine dO V V V (zI V V ta24 V Vv) <| zV V V (.cons (zJ V V zZ0 Vv) (.cons (zJ V V zZ0 Vv) (.nil))) <| zV V V (.cons (zR V V ((zX1 (hT_ _)).trans V) ta28 V Vv) (.cons (zR V V ((zX1 (hT_ _)).trans V) ta28 V Vv) (.nil))) <| zV V V (.cons (zR V V ((zX1 (hT_ _)).trans V) ta3 V Vv) (.cons (zR V V ((zX1 (hT_ _)).trans V) ta3 V Vv) (.nil))) <| zV V V (.cons (zG V zE sz30 (by decide) V V V (zN1 hwx) Vv) (.cons (zG V zE sz30 (by decide) V V V (zN1 hwx) Vv) (.nil))) ?_
  refine dO V V V (zI V V ta30 V Vv) <| dO V V V (zS V V Vv) <| dO V V V (zS V V Vv) <| zL1 V V V V (zC1 V V V co48 (hcall)) <| dO V V V (zB1 V V Vv) <| zK0 <| zL ?_
  rw [zC]
  exact zK5 (S' := T (if ys.length ≤ m then ys.length else m + 1)) (.inr V) Tryz.results50 V (.refl _) (.bool _) (Nat.le_of_eq (hT_ _).symm) (hok _).2 ⟨congrArg MV.bool (decide_eq_decide.2 ⟨fun h => by omega, fun h => by omega⟩), congrArg T (by split <;> split <;> omega)⟩
def OwnI (i : Nat) : MS := (List.range (i + 1)).map fun q : Nat => .cells [.int .i64 (q : Int)]
theorem own_succ (i : Nat) : OwnI (i + 1) = OwnI i ++ [.cells [.int .i64 ((i + 1 : Nat) : Int)]] := by unfold OwnI; rw [List.range_succ, List.map_append]; rfl
theorem own_len (i : Nat) : (OwnI i).length = i + 1 := by simp [OwnI]
theorem own_cl_ (i n : Nat) : ∀ o ∈ OwnI i, o.cl n := fun o ho => by
 obtain ⟨q, _, rfl⟩ := List.mem_map.1 ho
 exact cl_int1 _ _ _
theorem getI {A A' : MS} {i : Nat} (hl : A'.length = A.length) : (A' ++ OwnI i)[A.length + i]? = some (.cells [.int .i64 (i : Int)]) := by
 rw [zX1 hl]
 simp [OwnI]
theorem getX {A A' : MS} {i : Nat} {c : MObj} (hl : A'.length = A.length) : (A' ++ (OwnI i ++ [c]))[A.length + (i + 1)]? = some c := by
 rw [zX1 hl, List.getElem?_append_right (by rw [own_len]; exact Nat.le_refl _), own_len, Nat.sub_self]
 rfl
theorem setX {A A' : MS} {i : Nat} {c d : MObj} (hl : A'.length = A.length) : (A' ++ (OwnI i ++ [c])).set (A.length + (i + 1)) d = A' ++ (OwnI i ++ [d]) := by
 rw [own_set hl, List.set_append_right _ _ (by rw [own_len]; exact Nat.le_refl _), own_len, Nat.sub_self]
 rfl
def tE (off : Nat → Nat) (m i : Nat) : Nat := if off i ≤ m then off i else m + 1
theorem lenX {A A' : MS} {i : Nat} (hl : A'.length = A.length) : (A' ++ OwnI i).length = A.length + (i + 1) := by rw [zM, own_len, hl]
def offG (G : Nat → List Val) (i : Nat) : Nat := ((List.range i).flatMap G).length
theorem off_succ (G : Nat → List Val) (i : Nat) : offG G (i + 1) = offG G i + (G i).length := fm_len G i
theorem off_le (G : Nat → List Val) {i : Nat} : ∀ {n : Nat}, i ≤ n → offG G i ≤ offG G n
 | 0, h => by
  have : i = 0 := by omega
  subst this
  exact Nat.le_refl _
 | n + 1, h => by
  rcases Nat.lt_or_ge i (n + 1) with h1 | h1
  ·have := off_le G (i := i) (n := n) (by omega)
   rw [off_succ]
   omega
  ·have : i = n + 1 := by omega
   subst this
   exact Nat.le_refl _
theorem give_round {f : FuncId} {args : Nat → List MV} {T : Nat → MS} {id m l0 l1 i n : Nat} {G : Nat → List Val} {ys : List (List MV)} {F F' : List (Nat × MObj)} (H : GiveOk Tryz.prog f args .bool ys (okP l1 F')) (hys : ys = (G i).map fun p => [encV p]) (hok : ∀ j, okP l0 F (T j)) (hl1 : l1 = l0 + (i + 1)) (hF' : ∀ j, Sees F' (T j ++ OwnI i)) (hi : i < n)
  (hyt : ∀ j y, j < m → (((List.range n).flatMap G).map fun p => [encV p])[j]? = some y → YStep Tryz.prog id y (T j) true (T (j + 1))) (hyf : ∀ j y, j = m → (((List.range n).flatMap G).map fun p => [encV p])[j]? = some y → YStep Tryz.prog id y (T j) false (T (j + 1))) (ha : offG G i ≤ m) :
  MCalls Tryz.prog f (args id) (T (offG G i) ++ OwnI i) fun v σ' => v = .bool (decide (offG G (i + 1) ≤ m)) ∧ σ' = T (tE (offG G) m (i + 1)) ++ OwnI i := by
 subst hl1 hys
 have := H.use (id := id) (a := offG G i) (M := m) (T := T) (J := OwnI i) (fun j => okP_app (hok j) (own_len i) (hF' j) (own_cl_ i _)) (fun j y h => ?_) hyt hyf ha
 ·rw [zC, ← off_succ] at this
  exact this
 ·rw [zN0] at h ⊢
  obtain ⟨p, hp, rfl⟩ := Option.map_eq_some_iff.1 h
  unfold offG
  rw [fm_get G hi hp]
  rfl
theorem _root_.zJ6 : type_of% @Tryz.ntmps45 := @Tryz.ntmps45
theorem _root_.zQ3 : type_of% @Tryz.results45 := @Tryz.results45
theorem each_none (k : Int) (ins : List Sch) (hs : isF 16 (.mk k ins) = true) (n0 m0 : Int) (s0 : List Bs) (c0 : List (List Tk)) (w0 : List Val) (hb : bottomF (.mk k ins) = .mk n0 m0 s0 c0 w0) : EachOk (.mk k ins) (.mk n0 m0 s0 c0 w0) [] := by
 intro i1 i2 l0
 refine GiveOk.iter (k := 45) (first := []) ?_
 intro id T m hok hm hyt hyf
 have hT : ∀ j, (T j).length = l0 := fun j => (hok j).1.1
 have hT_ : ∀ j, (T j).length = (T 0).length := fun j => (hT j).trans (hT 0).symm
 have hsB : ∀ j, (T j)[i1]? = some (.cells (encS (.mk k ins)).cells) := fun j => (hok j).1.2.hd
 have hvB : ∀ j, (T j)[i2]? = some (.cells (encV (.mk n0 m0 s0 c0 w0)).cells) := fun j => (hok j).1.2.tl.hd
 have hm0 : m = 0 := by simpa using hm
 refine zU zC6 V zJ6 (zA V) ?_
 refine zB <| zB <| qR V <| qO V <| zR V V (by first | exact zT0 (hsB _) | exact zS0 (zT0 (hsB _))) ta24 V ?_
 refine qO V <| zR V V (by first | exact zT0 (hvB _) | exact zS0 (zT0 (hvB _))) ta30 V ?_
 refine qX V V V V co46 (zR5 (.mk k ins) (.mk n0 m0 s0 c0 w0) _) ?_
 have hno : noneF (.mk k ins) (.mk n0 m0 s0 c0 w0) = true := by unfold noneF; rw [zH6 hs (Nat.le_refl _)]; exact decide_eq_true hb
 rw [hno]
 refine qN <| zA0 V (V) <| zL ?_
 exact zR3 (S' := T 0) (.inr V) zQ3 (Nat.le_of_eq (hT_ _).symm) (hok _).2 ⟨rfl, by subst hm0; rfl⟩
theorem each_leaf3 (k : Int) (ins : List Sch) (hs : isF 16 (.mk 3 ins) = true) (n0 m0 : Int) (s0 : List Bs) (c0 : List (List Tk)) (hb : ¬ bottomF (.mk 3 ins) = .mk n0 m0 s0 c0 []) : EachOk (.mk 3 ins) (.mk n0 m0 s0 c0 []) (leavesF 3 (.mk n0 m0 s0 c0 [])) := by
 intro i1 i2 l0
 refine GiveOk.iter (k := 45) (first := []) ?_
 intro id T m hok hm hyt hyf
 have hT : ∀ j, (T j).length = l0 := fun j => (hok j).1.1
 have hT_ : ∀ j, (T j).length = (T 0).length := fun j => (hT j).trans (hT 0).symm
 have hsB : ∀ j, (T j)[i1]? = some (.cells (encS (.mk 3 ins)).cells) := fun j => (hok j).1.2.hd
 have hvB : ∀ j, (T j)[i2]? = some (.cells (encV (.mk n0 m0 s0 c0 [])).cells) := fun j => (hok j).1.2.tl.hd
 have hcall := (leaves3_give ins (.mk n0 m0 s0 c0 []) [] (l0 + 1)).use (id := id) (zs := (leavesF 3 (.mk n0 m0 s0 c0 [])).map fun p => [encV p]) (a := 0) (M := m) (T := T) (J := [.cells [.int .i64 0]]) (fun j => okP_app (hok j) rfl .nil (fun o ho => by simp at ho; subst ho; exact cl_int1 _ _ _)) (fun j y h => by rw [Nat.zero_add]; exact h) hyt hyf (Nat.zero_le _)
 rw [Nat.zero_add] at hcall
 refine zU zC6 V zJ6 (zA V) ?_
 refine zB <| zB <| qR V <| qO V <| zR V V (by first | exact zT0 (hsB _) | exact zS0 (zT0 (hsB _))) ta24 V ?_
 refine qO V <| zR V V (by first | exact zT0 (hvB _) | exact zS0 (zT0 (hvB _))) ta30 V ?_
 refine qX V V V V co46 (zR5 (.mk 3 ins) (.mk n0 m0 s0 c0 []) _) ?_
 have hno : noneF (.mk 3 ins) (.mk n0 m0 s0 c0 []) = false := by unfold noneF; rw [zH6 hs (Nat.le_refl _)]; exact decide_eq_false hb
 rw [hno]
 refine qN <| zQ V (V) <| zY <| zB <| qR V <| qA V V V <| qN <| zB <| zB <| qR V <| qO V <| zL0 V zm3 V V <| qO V <| zG0 V V V V sz3 V V (zA V) V <| qN <| zB0 ?_
 show mwp _ _ _ _ _ _ _ (([] : MS) ++ (T 0 ++ [.cells [.int .i64 0]]))
 refine zQ1 (α := Nat) [(0, _), (1, _), (2, _)] (fun i => [(5, .ref ((T 0).length + 0) 0), (4, .bool true)]) (fun i => T 0 ++ [.cells [.int .i64 0]]) (fun i => True) (fun i => 0) (0) (.keep V (.keep V (.keep V (.nil)))) (.keep V (.keep V (.nil))) (trivial) (V) ?_
 rintro i _
 refine zB <| zB <| qR V <| qO V <| zR V V (zS0 ((zX1 (hT_ _)).trans V)) ta3 V <| qF V V V zZ0 <| qO V <| zR V V (by first | exact zT0 (hvB _) | exact zS0 (zT0 (hvB _))) ta28 V ?_
 refine qE V V zE V <| qC V V V V V <| qM V V V <| qS V <| qP V V V V <| qN <| zQ V (V) <| zF1 <| zB <| qR V <| qF V V V zZ0 <| qO V <| zR V V (by first | exact zT0 (hvB _) | exact zS0 (zT0 (hvB _))) ta28 V ?_
 refine qE V V zE V <| qC V V V V V <| qN <| zA0 V (V) <| qR V <| qO V <| zR V V (by first | exact zT0 (hsB _) | exact zS0 (zT0 (hsB _))) ta24 V ?_
 refine qO V <| zR V V (by first | exact zT0 (hvB _) | exact zS0 (zT0 (hvB _))) ta30 V ?_
 refine qM V V V ?_
 refine qX V V V V co51 (hcall) ?_
 refine qN ?_
 exact zR3 (S' := T (if ((leavesF 3 (.mk n0 m0 s0 c0 [])).map fun p => [encV p]).length ≤ m then ((leavesF 3 (.mk n0 m0 s0 c0 [])).map fun p => [encV p]).length else m + 1)) (.inl V) zQ3 (Nat.le_of_eq (hT_ _).symm) (hok _).2 ⟨rfl, congrArg T (by split <;> split <;> omega)⟩
theorem each_leaf1 (k : Int) (hk3 : k ≠ 3) (hk7 : k ≠ 7) (ins : List Sch) (hs : isF 16 (.mk k ins) = true) (n0 m0 : Int) (s0 : List Bs) (c0 : List (List Tk)) (hb : ¬ bottomF (.mk k ins) = .mk n0 m0 s0 c0 []) : EachOk (.mk k ins) (.mk n0 m0 s0 c0 []) (leavesF k (.mk n0 m0 s0 c0 [])) := by
 intro i1 i2 l0
 refine GiveOk.iter (k := 45) (first := []) ?_
 intro id T m hok hm hyt hyf
 have hT : ∀ j, (T j).length = l0 := fun j => (hok j).1.1
 have hT_ : ∀ j, (T j).length = (T 0).length := fun j => (hT j).trans (hT 0).symm
 have hsB : ∀ j, (T j)[i1]? = some (.cells (encS (.mk k ins)).cells) := fun j => (hok j).1.2.hd
 have hvB : ∀ j, (T j)[i2]? = some (.cells (encV (.mk n0 m0 s0 c0 [])).cells) := fun j => (hok j).1.2.tl.hd
 have hcall := (leaves1_give k hk3 hk7 ins (.mk n0 m0 s0 c0 []) [] (l0 + 1)).use (id := id) (zs := (leavesF k (.mk n0 m0 s0 c0 [])).map fun p => [encV p]) (a := 0) (M := m) (T := T) (J := [.cells [.int .i64 0]]) (fun j => okP_app (hok j) rfl .nil (fun o ho => by simp at ho; subst ho; exact cl_int1 _ _ _)) (fun j y h => by rw [Nat.zero_add]; exact h) hyt hyf (Nat.zero_le _)
 rw [Nat.zero_add] at hcall
 refine zU zC6 V zJ6 (zA V) ?_
 refine zB <| zB <| qR V <| qO V <| zR V V (by first | exact zT0 (hsB _) | exact zS0 (zT0 (hsB _))) ta24 V ?_
 refine qO V <| zR V V (by first | exact zT0 (hvB _) | exact zS0 (zT0 (hvB _))) ta30 V ?_
 refine qX V V V V co46 (zR5 (.mk k ins) (.mk n0 m0 s0 c0 []) _) ?_
 have hno : noneF (.mk k ins) (.mk n0 m0 s0 c0 []) = false := by unfold noneF; rw [zH6 hs (Nat.le_refl _)]; exact decide_eq_false hb
 rw [hno]
 refine qN <| zQ V (V) <| zY <| zB <| qR V <| qA V V V <| qN <| zB <| zB <| qR V <| qO V <| zL0 V zm3 V V <| qO V <| zG0 V V V V sz3 V V (zA V) V <| qN <| zB0 ?_
 show mwp _ _ _ _ _ _ _ (([] : MS) ++ (T 0 ++ [.cells [.int .i64 0]]))
 refine zQ1 (α := Nat) [(0, _), (1, _), (2, _)] (fun i => [(5, .ref ((T 0).length + 0) 0), (4, .bool true)]) (fun i => T 0 ++ [.cells [.int .i64 0]]) (fun i => True) (fun i => 0) (0) (.keep V (.keep V (.keep V (.nil)))) (.keep V (.keep V (.nil))) (trivial) (V) ?_
 rintro i _
 refine zB <| zB <| qR V <| qO V <| zR V V (zS0 ((zX1 (hT_ _)).trans V)) ta3 V <| qF V V V zZ0 <| qO V <| zR V V (by first | exact zT0 (hvB _) | exact zS0 (zT0 (hvB _))) ta28 V ?_
 refine qE V V zE V <| qC V V V V V <| qM V V V <| qS V <| qP V V V V <| qN <| zQ V (V) <| zF1 <| zB <| qR V <| qF V V V zZ0 <| qO V <| zR V V (by first | exact zT0 (hvB _) | exact zS0 (zT0 (hvB _))) ta28 V ?_
 refine qE V V zE V <| qC V V V V V <| qN <| zA0 V (V) <| qR V <| qO V <| zR V V (by first | exact zT0 (hsB _) | exact zS0 (zT0 (hsB _))) ta24 V ?_
 refine qO V <| zR V V (by first | exact zT0 (hvB _) | exact zS0 (zT0 (hvB _))) ta30 V ?_
 refine qM V V V ?_
 refine qX V V V V co51 (hcall) ?_
 refine qN ?_
 exact zR3 (S' := T (if ((leavesF k (.mk n0 m0 s0 c0 [])).map fun p => [encV p]).length ≤ m then ((leavesF k (.mk n0 m0 s0 c0 [])).map fun p => [encV p]).length else m + 1)) (.inl V) zQ3 (Nat.le_of_eq (hT_ _).symm) (hok _).2 ⟨rfl, congrArg T (by split <;> split <;> omega)⟩
theorem _root_.zP1 : type_of% @of_decide_eq_false := @of_decide_eq_false
theorem each_map (t1 : Sch) (hs : isF 16 (.mk 4 [t1]) = true) (n0 m0 : Int) (s0 : List Bs) (c0 : List (List Tk)) (w0 : List Val) (hw0 : 0 < w0.length) (hw : w0.length ≤ 1000) (hsl : s0.length = w0.length) (hb : ¬ bottomF (.mk 4 [t1]) = .mk n0 m0 s0 c0 w0) (Y : Nat → List Val) (hit : ∀ i x, w0[i]? = some x → EachOk t1 x (Y i)) : EachOk (.mk 4 [t1]) (.mk n0 m0 s0 c0 w0) ((List.range w0.length).flatMap (fun i => (Y i).map fun p => Val.mk 0 0 [s0.getD i []] [] [p])) := by
 obtain ⟨k1, i1_⟩ := t1
 generalize hG : (fun i => (Y i).map fun p => Val.mk 0 0 [s0.getD i []] [] [p]) = G
 intro i1 i2 l0
 refine GiveOk.iter (k := 45) (first := []) ?_
 intro id T m hok hm hyt hyf
 have hT : ∀ j, (T j).length = l0 := fun j => (hok j).1.1
 have hT_ : ∀ j, (T j).length = (T 0).length := fun j => (hT j).trans (hT 0).symm
 have hsB : ∀ j, (T j)[i1]? = some (.cells (encS (.mk 4 [.mk k1 i1_])).cells) := fun j => (hok j).1.2.hd
 have hvB : ∀ j, (T j)[i2]? = some (.cells (encV (.mk n0 m0 s0 c0 w0)).cells) := fun j => (hok j).1.2.tl.hd
 have htot : (((List.range w0.length).flatMap G).map fun p => [encV p]).length = offG G w0.length := by rw [zC]; rfl
 rw [htot] at hm ⊢
 have hcall : ∀ i, i < w0.length → offG G i ≤ m → MCalls Tryz.prog 48 [encS (.mk k1 i1_), encV (w0.getD i noV), .fn (.func 47) [] [.ref i2 0, .ref ((T 0).length + i) 0], .yld id] (T (offG G i) ++ OwnI i) fun v σ' => v = .bool (decide (offG G (i + 1) ≤ m)) ∧ σ' = T (tE (offG G) m (i + 1)) ++ OwnI i := by
  intro i hi ha
  obtain ⟨x, hx⟩ : ∃ x, w0[i]? = some x := ⟨_, zD hi⟩
  obtain ⟨sx, hsx⟩ : ∃ x, s0[i]? = some x := ⟨_, zD (by omega)⟩
  rw [show w0.getD i noV = x by simp [hx]]
  have hW := within_give (.mk k1 i1_) x (Y i) (fun p => .mk 0 0 [sx] [] [p]) 47 [.ref i2 0, .ref ((T 0).length + i) 0] [(i2, .cells (encV (.mk n0 m0 s0 c0 w0)).cells), ((T 0).length + i, .cells [.int .i64 (i : Int)])] co47 (hit i x hx) (fun p S' hS => mapAlone_spec n0 m0 s0 c0 w0 i sx hsx (by omega) p _ _ S' hS.hd hS.tl.hd) (l0 + (i + 1))
  exact give_round (i := i) (args := fun id => [encS (.mk k1 i1_), encV x, .fn (.func 47) [] [.ref i2 0, .ref ((T 0).length + i) 0], .yld id]) hW (by rw [← hG, List.map_map]; simp [Function.comp_def, hsx]) hok rfl (fun j => .cons (zT0 (hvB j)) (.cons (getI (hT_ j)) .nil)) hi hyt hyf ha
 refine zU zC6 V zJ6 (zA V) ?_
 refine zB <| zB <| qR V <| qO V <| zR V V (by first | exact zT0 (hsB _) | exact zS0 (zT0 (hsB _))) ta24 V ?_
 refine qO V <| zR V V (by first | exact zT0 (hvB _) | exact zS0 (zT0 (hvB _))) ta30 V ?_
 refine qX V V V V co46 (zR5 (.mk 4 [.mk k1 i1_]) (.mk n0 m0 s0 c0 w0) _) ?_
 have hno : noneF (.mk 4 [.mk k1 i1_]) (.mk n0 m0 s0 c0 w0) = false := by unfold noneF; rw [zH6 hs (Nat.le_refl _)]; exact decide_eq_false hb
 rw [hno]
 refine qN <| zQ V (V) <| zY <| zB <| qR V <| qA V V V <| qN <| zB <| zB <| qR V <| qO V <| zL0 V zm3 V V <| qO V <| zG0 V V V V sz3 V V (zA V) V <| qN <| zB0 ?_
 have ht0 : tE (offG G) m 0 = 0 := if_pos (Nat.zero_le _)
 show mwp _ _ _ _ _ _ _ (([] : MS) ++ (T 0 ++ OwnI 0))
 refine zQ1 (α := Nat) [(0, _), (1, _), (2, _)] (fun i => [(5, .ref ((T 0).length + i) 0), (4, .bool (decide (offG G i ≤ m)))]) (fun i => T (tE (offG G) m i) ++ OwnI i) (fun i => i ≤ w0.length) (fun i => w0.length - i) (0) (.keep V (.keep V (.keep V (.nil)))) (.keep V (.eq V ((congrArg MV.bool (decide_eq_true (Nat.zero_le _)).symm)) (.nil))) (Nat.zero_le _) (by show _ = T (tE (offG G) m 0) ++ OwnI 0; rw [ht0]) ?_
 rintro i hi
 refine zB <| zB <| qR V <| qO V <| zR V V (by first | exact getI (hT_ _) | exact zS0 (getI (hT_ _))) ta3 V ?_
 refine qF V V V zZ0 <| qO V <| zR V V (by first | exact zT0 (hvB _) | exact zS0 (zT0 (hvB _))) ta28 V ?_
 refine qE V V zE V <| qC V V V V V <| qM V V V ?_
 refine zD0 (fun h15 => ?_) (fun h15 => ?_)
 ·
  have hlt : i < w0.length := by have := zO1 h15; rw [zO] at this; omega
  obtain ⟨⟨n1, m1, s1, c1, w1⟩, hwx⟩ : ∃ x, w0[i]? = some x := ⟨_, zD hlt⟩
  have hgd : w0.getD i noV = (.mk n1 m1 s1 c1 w1) := by simp [hwx]
  refine qM V V V <| qP V V V V <| qN ?_
  refine zK V (fun h17 => ?_) (fun h17 => ?_)
  ·
   have hgo : offG G i ≤ m := zO1 h17
   have hcl_ := hcall i hlt hgo
   have hte : tE (offG G) m i = offG G i := if_pos hgo
   rw [hte]
   refine zY <| zB <| zB0 <| zB <| qR V <| qF V V V zC2 <| qO V <| zR V V (by first | exact zT0 (hsB _) | exact zS0 (zT0 (hsB _))) ta3 V ?_
   refine qN <| zB0 <| zB <| qR V <| qC V V V V (eqlQ V) <| qA V V V <| qN <| zA0 V (V) <| zB <| qR V <| qO V <| zB2 V V V <| qA V V V <| qN ?_
   rw [hgd] at hcl_
   refine zV0 [11] [_, T (tE (offG G) m (i + 1)) ++ OwnI i] mo (by decide) V V V V ?_
   refine zV V V (.cons (zJ V V zR2 Vv) (.cons (zJ V V zR2 Vv) (.nil))) <| zV V V (.cons (zR V V (by first | exact zT0 (hsB _) | exact zS0 (zT0 (hsB _))) ta22 V Vv) (.cons (zR V V (by first | exact zT0 (hsB _) | exact zS0 (zT0 (hsB _))) ta22 V Vv) (.nil))) ?_
   refine zV V V (.cons (zG V zJ0 sz24 (by decide) V V V (show _ = some (encS (.mk k1 i1_)) from V) Vv) (.cons (zG V zJ0 sz24 (by decide) V V V (show _ = some (encS (.mk k1 i1_)) from V) Vv) (.nil))) ?_
   refine dO V V V (zI V V ta24 V Vv) <| zV V V (.cons (zJ V V zZ0 Vv) (.cons (zJ V V zZ0 Vv) (.nil))) <| zV V V (.cons (zR V V (by first | exact zT0 (hvB _) | exact zS0 (zT0 (hvB _))) ta28 V Vv) (.cons (zR V V (by first | exact zT0 (hvB _) | exact zS0 (zT0 (hvB _))) ta28 V Vv) (.nil))) ?_
   refine zV V V (.cons (zR V V (by first | exact getI (hT_ _) | exact zS0 (getI (hT_ _))) ta3 V Vv) (.cons (zR V V (by first | exact getI (hT_ _) | exact zS0 (getI (hT_ _))) ta3 V Vv) (.nil))) ?_
   refine zV V V (.cons (zG V zE sz30 (by decide) V V V (zN1 hwx) Vv) (.cons (zG V zE sz30 (by decide) V V V (zN1 hwx) Vv) (.nil))) ?_
   refine dO V V V (zI V V ta30 V Vv) <| dO V V V (zS V V Vv) <| dO V V V (zS V V Vv) <| zL1 V V V V (zC1 V V V co48 (hcl_)) <| dO V V V (zB1 V V Vv) <| zK0 <| zB <| zB <| qR V <| qO V <| zR V V (by first | exact getI (hT_ _) | exact zS0 (getI (hT_ _))) ta3 V ?_
   refine qN <| qR V <| qO V <| zJ5 V zm3 ?_
   show wOps _ _ _ _ _ _ (T (tE (offG G) m (i + 1)) ++ OwnI i ++ [.cells [.int .i64 0]])
   rw [zZ, show (T (tE (offG G) m (i + 1)) ++ OwnI i).length = (T 0).length + (i + 1) from lenX (hT_ _)]
   refine qO V <| zR4 (id := (T 0).length + (i + 1)) V V V (by exact getX (hT_ _)) sz3 V V (zA V) ?_
   rw [setX (hT_ _)]
   refine qN <| qR V <| qO V <| zR V V (by exact getX (hT_ _)) ta3 V ?_
   refine qO V <| zO0 V V V (wadd (a := i) (b := 1) V (by omega)) ?_
   refine qO V <| zR4 (id := (T 0).length + (i + 1)) V V V (by exact getX (hT_ _)) sz3 V V (zA V) ?_
   rw [setX (hT_ _)]
   refine qN ?_
   refine ⟨i + 1, by omega, by omega, by rw [own_succ]; rfl, (.keep V (.keep V (.keep V (.nil)))), (.eq V (V) (.eq V (V) (.nil)))⟩
  ·
   have hno2 : ¬ offG G i ≤ m := zP1 h17
   have hofl := off_le G hi
   refine zF1 <| zB <| qR V <| qF V V V zZ0 <| qO V <| zR V V (by first | exact zT0 (hvB _) | exact zS0 (zT0 (hvB _))) ta28 V ?_
   refine qE V V zE V <| qC V V V V (eqlN (by rw [zO]; omega)) ?_
   refine qN <| zQ V (V) <| zY ?_
   exact zR3 (S' := T (tE (offG G) m i)) (.inl V) zQ3 (Nat.le_of_eq (hT_ _).symm) (hok _).2 ⟨rfl, congrArg T (by unfold tE; split <;> split <;> omega)⟩
 ·
  have hge : i = w0.length := by have := zP1 h15; rw [zO] at this; omega
  have hot : offG G i = offG G w0.length := by rw [hge]
  refine qS V <| qP V V V V <| qN <| zQ V (V) <| zF1 <| zB <| qR V <| qF V V V zZ0 <| qO V <| zR V V (by first | exact zT0 (hvB _) | exact zS0 (zT0 (hvB _))) ta28 V ?_
  refine qE V V zE V <| qC V V V V (eqlN (by rw [zO]; omega)) ?_
  refine qN <| zQ V (V) <| zY ?_
  exact zR3 (S' := T (tE (offG G) m i)) (.inl V) zQ3 (Nat.le_of_eq (hT_ _).symm) (hok _).2 ⟨rfl, congrArg T (by unfold tE; split <;> split <;> omega)⟩
theorem each_pair (t1 t2 : Sch) (hs : isF 16 (.mk 5 [t1, t2]) = true) (h1 : isF 16 t1 = true) (h2 : isF 16 t2 = true) (n0 m0 : Int) (s0 : List Bs) (c0 : List (List Tk)) (x0 x1 : Val) (w0 : List Val) (hw0 : w0 = [x0, x1]) (hb : ¬ bottomF (.mk 5 [t1, t2]) = .mk n0 m0 s0 c0 w0) (Y : Nat → List Val) (hit0 : EachOk t1 x0 (Y 0)) (hit1 : EachOk t2 x1 (Y 1)) : EachOk (.mk 5 [t1, t2]) (.mk n0 m0 s0 c0 w0) ((List.range w0.length).flatMap (fun i => (Y i).map fun p => Val.mk 0 0 [] [] ((bottomL [t1, t2]).set i p))) := by
 obtain ⟨k1, i1_⟩ := t1
 obtain ⟨k2, i2_⟩ := t2
 obtain ⟨na, ma, sa, ca, wa⟩ := x0
 obtain ⟨nb, mb, sb, cb, wb⟩ := x1
 generalize hG : (fun i => (Y i).map fun p => Val.mk 0 0 [] [] ((bottomL [(.mk k1 i1_), (.mk k2 i2_)]).set i p)) = G
 intro i1 i2 l0
 refine GiveOk.iter (k := 45) (first := []) ?_
 intro id T m hok hm hyt hyf
 have hT : ∀ j, (T j).length = l0 := fun j => (hok j).1.1
 have hT_ : ∀ j, (T j).length = (T 0).length := fun j => (hT j).trans (hT 0).symm
 have hsB : ∀ j, (T j)[i1]? = some (.cells (encS (.mk 5 [.mk k1 i1_, .mk k2 i2_])).cells) := fun j => (hok j).1.2.hd
 have hvB : ∀ j, (T j)[i2]? = some (.cells (encV (.mk n0 m0 s0 c0 w0)).cells) := fun j => (hok j).1.2.tl.hd
 have htot : (((List.range w0.length).flatMap G).map fun p => [encV p]).length = offG G w0.length := by rw [zC]; rfl
 rw [htot] at hm ⊢
 have hcall : ∀ i, i < w0.length → offG G i ≤ m → MCalls Tryz.prog 49 [encS (.mk 5 [.mk k1 i1_, .mk k2 i2_]), encV (.mk n0 m0 s0 c0 w0), .int .i64 (i : Int), .yld id] (T (offG G i) ++ OwnI i) fun v σ' => v = .bool (decide (offG G (i + 1) ≤ m)) ∧ σ' = T (tE (offG G) m (i + 1)) ++ OwnI i := by
  intro i hi ha
  have h01 : i = 0 ∨ i = 1 := by rw [hw0] at hi; simp at hi; omega
  have hvv : encV (.mk n0 m0 s0 c0 w0) = encV (.mk n0 m0 s0 c0 [.mk na ma sa ca wa, .mk nb mb sb cb wb]) := by rw [hw0]
  rw [hvv]
  rcases h01 with rfl | rfl
  ·exact give_round (i := 0) (args := fun id => [encS (.mk 5 [.mk k1 i1_, .mk k2 i2_]), encV (.mk n0 m0 s0 c0 [.mk na ma sa ca wa, .mk nb mb sb cb wb]), .int .i64 0, .yld id]) (paired0_give (.mk k1 i1_) (.mk k2 i2_) hs h1 h2 n0 m0 s0 c0 (.mk na ma sa ca wa) (.mk nb mb sb cb wb) (Y 0) hit0 [] (l0 + 1)) (by rw [← hG, List.map_map]; simp [Function.comp_def, bottomL]) hok rfl (fun j => .nil) hi hyt hyf ha
  ·exact give_round (i := 1) (args := fun id => [encS (.mk 5 [.mk k1 i1_, .mk k2 i2_]), encV (.mk n0 m0 s0 c0 [.mk na ma sa ca wa, .mk nb mb sb cb wb]), .int .i64 1, .yld id]) (paired1_give (.mk k1 i1_) (.mk k2 i2_) hs h1 h2 n0 m0 s0 c0 (.mk na ma sa ca wa) (.mk nb mb sb cb wb) (Y 1) hit1 [] (l0 + 2)) (by rw [← hG, List.map_map]; simp [Function.comp_def, bottomL]) hok rfl (fun j => .nil) hi hyt hyf ha
 have hw : w0.length = 2 := by rw [hw0]; rfl
 refine zU zC6 V zJ6 (zA V) ?_
 refine zB <| zB <| qR V <| qO V <| zR V V (by first | exact zT0 (hsB _) | exact zS0 (zT0 (hsB _))) ta24 V ?_
 refine qO V <| zR V V (by first | exact zT0 (hvB _) | exact zS0 (zT0 (hvB _))) ta30 V ?_
 refine qX V V V V co46 (zR5 (.mk 5 [.mk k1 i1_, .mk k2 i2_]) (.mk n0 m0 s0 c0 w0) _) ?_
 have hno : noneF (.mk 5 [.mk k1 i1_, .mk k2 i2_]) (.mk n0 m0 s0 c0 w0) = false := by unfold noneF; rw [zH6 hs (Nat.le_refl _)]; exact decide_eq_false hb
 rw [hno]
 refine qN <| zQ V (V) <| zY <| zB <| qR V <| qA V V V <| qN <| zB <| zB <| qR V <| qO V <| zL0 V zm3 V V <| qO V <| zG0 V V V V sz3 V V (zA V) V <| qN <| zB0 ?_
 have ht0 : tE (offG G) m 0 = 0 := if_pos (Nat.zero_le _)
 show mwp _ _ _ _ _ _ _ (([] : MS) ++ (T 0 ++ OwnI 0))
 refine zQ1 (α := Nat) [(0, _), (1, _), (2, _)] (fun i => [(5, .ref ((T 0).length + i) 0), (4, .bool (decide (offG G i ≤ m)))]) (fun i => T (tE (offG G) m i) ++ OwnI i) (fun i => i ≤ w0.length) (fun i => w0.length - i) (0) (.keep V (.keep V (.keep V (.nil)))) (.keep V (.eq V ((congrArg MV.bool (decide_eq_true (Nat.zero_le _)).symm)) (.nil))) (Nat.zero_le _) (by show _ = T (tE (offG G) m 0) ++ OwnI 0; rw [ht0]) ?_
 rintro i hi
 refine zB <| zB <| qR V <| qO V <| zR V V (by first | exact getI (hT_ _) | exact zS0 (getI (hT_ _))) ta3 V ?_
 refine qF V V V zZ0 <| qO V <| zR V V (by first | exact zT0 (hvB _) | exact zS0 (zT0 (hvB _))) ta28 V ?_
 refine qE V V zE V <| qC V V V V V <| qM V V V ?_
 refine zD0 (fun h15 => ?_) (fun h15 => ?_)
 ·
  have hlt : i < w0.length := by have := zO1 h15; rw [zO] at this; omega
  refine qM V V V <| qP V V V V <| qN ?_
  refine zK V (fun h17 => ?_) (fun h17 => ?_)
  ·
   have hgo : offG G i ≤ m := zO1 h17
   have hcl_ := hcall i hlt hgo
   have hte : tE (offG G) m i = offG G i := if_pos hgo
   rw [hte]
   refine zY <| zB <| zB0 <| zB <| qR V <| qF V V V zC2 <| qO V <| zR V V (by first | exact zT0 (hsB _) | exact zS0 (zT0 (hsB _))) ta3 V ?_
   refine qN <| zB0 <| zB <| qR V <| qC V V V V (eqlN (by decide)) ?_
   refine qA V V V <| qN <| zQ V (V) <| zB <| qR V <| qC V V V V (eqlQ V) <| qA V V V <| qN <| zA0 V (V) <| qR V <| qO V <| zR V V (by first | exact zT0 (hsB _) | exact zS0 (zT0 (hsB _))) ta24 V ?_
   refine qO V <| zR V V (by first | exact zT0 (hvB _) | exact zS0 (zT0 (hvB _))) ta30 V ?_
   refine qO V <| zR V V (by first | exact getI (hT_ _) | exact zS0 (getI (hT_ _))) ta3 V ?_
   refine qM V V V ?_
   refine qX V V V V co49 (hcl_) ?_
   refine qA V V V <| qN <| zB <| zB <| qR V <| qO V <| zR V V (by first | exact getI (hT_ _) | exact zS0 (getI (hT_ _))) ta3 V ?_
   refine qN <| qR V <| qO V <| zJ5 V zm3 ?_
   show wOps _ _ _ _ _ _ (T (tE (offG G) m (i + 1)) ++ OwnI i ++ [.cells [.int .i64 0]])
   rw [zZ, show (T (tE (offG G) m (i + 1)) ++ OwnI i).length = (T 0).length + (i + 1) from lenX (hT_ _)]
   refine qO V <| zR4 (id := (T 0).length + (i + 1)) V V V (by exact getX (hT_ _)) sz3 V V (zA V) ?_
   rw [setX (hT_ _)]
   refine qN <| qR V <| qO V <| zR V V (by exact getX (hT_ _)) ta3 V ?_
   refine qO V <| zO0 V V V (wadd (a := i) (b := 1) V (by omega)) ?_
   refine qO V <| zR4 (id := (T 0).length + (i + 1)) V V V (by exact getX (hT_ _)) sz3 V V (zA V) ?_
   rw [setX (hT_ _)]
   refine qN ?_
   refine ⟨i + 1, by omega, by omega, by rw [own_succ]; rfl, (.keep V (.keep V (.keep V (.nil)))), (.eq V (V) (.eq V (V) (.nil)))⟩
  ·
   have hno2 : ¬ offG G i ≤ m := zP1 h17
   have hofl := off_le G hi
   refine zF1 <| zB <| qR V <| qF V V V zZ0 <| qO V <| zR V V (by first | exact zT0 (hvB _) | exact zS0 (zT0 (hvB _))) ta28 V ?_
   refine qE V V zE V <| qC V V V V (eqlN (by rw [zO]; omega)) ?_
   refine qN <| zQ V (V) <| zY ?_
   exact zR3 (S' := T (tE (offG G) m i)) (.inl V) zQ3 (Nat.le_of_eq (hT_ _).symm) (hok _).2 ⟨rfl, congrArg T (by unfold tE; split <;> split <;> omega)⟩
 ·
  have hge : i = w0.length := by have := zP1 h15; rw [zO] at this; omega
  have hot : offG G i = offG G w0.length := by rw [hge]
  refine qS V <| qP V V V V <| qN <| zQ V (V) <| zF1 <| zB <| qR V <| qF V V V zZ0 <| qO V <| zR V V (by first | exact zT0 (hvB _) | exact zS0 (zT0 (hvB _))) ta28 V ?_
  refine qE V V zE V <| qC V V V V (eqlN (by rw [zO]; omega)) ?_
  refine qN <| zQ V (V) <| zY ?_
  exact zR3 (S' := T (tE (offG G) m i)) (.inl V) zQ3 (Nat.le_of_eq (hT_ _).symm) (hok _).2 ⟨rfl, congrArg T (by unfold tE; split <;> split <;> omega)⟩
theorem each_cause (k : Int) (hk4 : k ≠ 4) (hk5 : k ≠ 5) (t1 : Sch) (hs : isF 16 (.mk k [t1]) = true) (h1 : isF 16 t1 = true) (n0 m0 : Int) (s0 : List Bs) (c0 : List (List Tk)) (w0 : List Val) (hw0 : 0 < w0.length) (hw : w0.length ≤ 1000) (hcl : c0.length = w0.length) (hb : ¬ bottomF (.mk k [t1]) = .mk n0 m0 s0 c0 w0) (Y : Nat → List Val) (hit : ∀ i x, w0[i]? = some x → EachOk t1 x (Y i)) : EachOk (.mk k [t1]) (.mk n0 m0 s0 c0 w0) ((List.range w0.length).flatMap (fun i => (innerF (bottomF t1) (fun _ => Y i) (w0.getD i noV)).map fun p => Val.mk 0 0 [] [c0.getD i []] [p])) := by
 obtain ⟨k1, i1_⟩ := t1
 generalize hG : (fun i => (innerF (bottomF (.mk k1 i1_)) (fun _ => Y i) (w0.getD i noV)).map fun p => Val.mk 0 0 [] [c0.getD i []] [p]) = G
 intro i1 i2 l0
 refine GiveOk.iter (k := 45) (first := []) ?_
 intro id T m hok hm hyt hyf
 have hT : ∀ j, (T j).length = l0 := fun j => (hok j).1.1
 have hT_ : ∀ j, (T j).length = (T 0).length := fun j => (hT j).trans (hT 0).symm
 have hsB : ∀ j, (T j)[i1]? = some (.cells (encS (.mk k [.mk k1 i1_])).cells) := fun j => (hok j).1.2.hd
 have hvB : ∀ j, (T j)[i2]? = some (.cells (encV (.mk n0 m0 s0 c0 w0)).cells) := fun j => (hok j).1.2.tl.hd
 have htot : (((List.range w0.length).flatMap G).map fun p => [encV p]).length = offG G w0.length := by rw [zC]; rfl
 rw [htot] at hm ⊢
 have hcall : ∀ i, i < w0.length → offG G i ≤ m → MCalls Tryz.prog 50 [encS (.mk k [.mk k1 i1_]), encV (.mk n0 m0 s0 c0 w0), .int .i64 (i : Int), .yld id] (T (offG G i) ++ OwnI i) fun v σ' => v = .bool (decide (offG G (i + 1) ≤ m)) ∧ σ' = T (tE (offG G) m (i + 1)) ++ OwnI i := by
  intro i hi ha
  obtain ⟨x, hx⟩ : ∃ x, w0[i]? = some x := ⟨_, zD hi⟩
  obtain ⟨cx, hcx⟩ : ∃ x, c0[i]? = some x := ⟨_, zD (by omega)⟩
  exact give_round (i := i) (args := fun id => [encS (.mk k [.mk k1 i1_]), encV (.mk n0 m0 s0 c0 w0), .int .i64 (i : Int), .yld id]) (sib_give k (.mk k1 i1_) h1 n0 m0 s0 c0 w0 i x cx hx hcx (by omega) (Y i) (hit i x hx) [] (l0 + (i + 1))) (by rw [← hG, List.map_map]; simp [Function.comp_def, hx, hcx, innerF]) hok rfl (fun j => .nil) hi hyt hyf ha
 refine zU zC6 V zJ6 (zA V) ?_
 refine zB <| zB <| qR V <| qO V <| zR V V (by first | exact zT0 (hsB _) | exact zS0 (zT0 (hsB _))) ta24 V ?_
 refine qO V <| zR V V (by first | exact zT0 (hvB _) | exact zS0 (zT0 (hvB _))) ta30 V ?_
 refine qX V V V V co46 (zR5 (.mk k [.mk k1 i1_]) (.mk n0 m0 s0 c0 w0) _) ?_
 have hno : noneF (.mk k [.mk k1 i1_]) (.mk n0 m0 s0 c0 w0) = false := by unfold noneF; rw [zH6 hs (Nat.le_refl _)]; exact decide_eq_false hb
 rw [hno]
 refine qN <| zQ V (V) <| zY <| zB <| qR V <| qA V V V <| qN <| zB <| zB <| qR V <| qO V <| zL0 V zm3 V V <| qO V <| zG0 V V V V sz3 V V (zA V) V <| qN <| zB0 ?_
 have ht0 : tE (offG G) m 0 = 0 := if_pos (Nat.zero_le _)
 show mwp _ _ _ _ _ _ _ (([] : MS) ++ (T 0 ++ OwnI 0))
 refine zQ1 (α := Nat) [(0, _), (1, _), (2, _)] (fun i => [(5, .ref ((T 0).length + i) 0), (4, .bool (decide (offG G i ≤ m)))]) (fun i => T (tE (offG G) m i) ++ OwnI i) (fun i => i ≤ w0.length) (fun i => w0.length - i) (0) (.keep V (.keep V (.keep V (.nil)))) (.keep V (.eq V ((congrArg MV.bool (decide_eq_true (Nat.zero_le _)).symm)) (.nil))) (Nat.zero_le _) (by show _ = T (tE (offG G) m 0) ++ OwnI 0; rw [ht0]) ?_
 rintro i hi
 refine zB <| zB <| qR V <| qO V <| zR V V (by first | exact getI (hT_ _) | exact zS0 (getI (hT_ _))) ta3 V ?_
 refine qF V V V zZ0 <| qO V <| zR V V (by first | exact zT0 (hvB _) | exact zS0 (zT0 (hvB _))) ta28 V ?_
 refine qE V V zE V <| qC V V V V V <| qM V V V ?_
 refine zD0 (fun h15 => ?_) (fun h15 => ?_)
 ·
  have hlt : i < w0.length := by have := zO1 h15; rw [zO] at this; omega
  refine qM V V V <| qP V V V V <| qN ?_
  refine zK V (fun h17 => ?_) (fun h17 => ?_)
  ·
   have hgo : offG G i ≤ m := zO1 h17
   have hcl_ := hcall i hlt hgo
   have hte : tE (offG G) m i = offG G i := if_pos hgo
   rw [hte]
   refine zY <| zB <| zB0 <| zB <| qR V <| qF V V V zC2 <| qO V <| zR V V (by first | exact zT0 (hsB _) | exact zS0 (zT0 (hsB _))) ta3 V ?_
   refine qN <| zB0 <| zB <| qR V <| qC V V V V (eqlN hk4) <| qA V V V <| qN <| zQ V (V) <| zB <| qR V <| qC V V V V (eqlN hk5) <| qA V V V <| qN <| zQ V (V) <| qR V <| qO V <| zR V V (by first | exact zT0 (hsB _) | exact zS0 (zT0 (hsB _))) ta24 V ?_
   refine qO V <| zR V V (by first | exact zT0 (hvB _) | exact zS0 (zT0 (hvB _))) ta30 V ?_
   refine qO V <| zR V V (by first | exact getI (hT_ _) | exact zS0 (getI (hT_ _))) ta3 V ?_
   refine qM V V V ?_
   refine qX V V V V co50 (hcl_) ?_
   refine qA V V V <| qN <| zB <| zB <| qR V <| qO V <| zR V V (by first | exact getI (hT_ _) | exact zS0 (getI (hT_ _))) ta3 V ?_
   refine qN <| qR V <| qO V <| zJ5 V zm3 ?_
   show wOps _ _ _ _ _ _ (T (tE (offG G) m (i + 1)) ++ OwnI i ++ [.cells [.int .i64 0]])
   rw [zZ, show (T (tE (offG G) m (i + 1)) ++ OwnI i).length = (T 0).length + (i + 1) from lenX (hT_ _)]
   refine qO V <| zR4 (id := (T 0).length + (i + 1)) V V V (by exact getX (hT_ _)) sz3 V V (zA V) ?_
   rw [setX (hT_ _)]
   refine qN <| qR V <| qO V <| zR V V (by exact getX (hT_ _)) ta3 V ?_
   refine qO V <| zO0 V V V (wadd (a := i) (b := 1) V (by omega)) ?_
   refine qO V <| zR4 (id := (T 0).length + (i + 1)) V V V (by exact getX (hT_ _)) sz3 V V (zA V) ?_
   rw [setX (hT_ _)]
   refine qN ?_
   refine ⟨i + 1, by omega, by omega, by rw [own_succ]; rfl, (.keep V (.keep V (.keep V (.nil)))), (.eq V (V) (.eq V (V) (.nil)))⟩
  ·
   have hno2 : ¬ offG G i ≤ m := zP1 h17
   have hofl := off_le G hi
   refine zF1 <| zB <| qR V <| qF V V V zZ0 <| qO V <| zR V V (by first | exact zT0 (hvB _) | exact zS0 (zT0 (hvB _))) ta28 V ?_
   refine qE V V zE V <| qC V V V V (eqlN (by rw [zO]; omega)) ?_
   refine qN <| zQ V (V) <| zY ?_
   exact zR3 (S' := T (tE (offG G) m i)) (.inl V) zQ3 (Nat.le_of_eq (hT_ _).symm) (hok _).2 ⟨rfl, congrArg T (by unfold tE; split <;> split <;> omega)⟩
 ·
  have hge : i = w0.length := by have := zP1 h15; rw [zO] at this; omega
  have hot : offG G i = offG G w0.length := by rw [hge]
  refine qS V <| qP V V V V <| qN <| zQ V (V) <| zF1 <| zB <| qR V <| qF V V V zZ0 <| qO V <| zR V V (by first | exact zT0 (hvB _) | exact zS0 (zT0 (hvB _))) ta28 V ?_
  refine qE V V zE V <| qC V V V V (eqlN (by rw [zO]; omega)) ?_
  refine qN <| zQ V (V) <| zY ?_
  exact zR3 (S' := T (tE (offG G) m i)) (.inl V) zQ3 (Nat.le_of_eq (hT_ _).symm) (hok _).2 ⟨rfl, congrArg T (by unfold tE; split <;> split <;> omega)⟩
theorem getD_nV {w : List Val} {i : Nat} {x : Val} (h : w[i]? = some x) : w.getD i noV = x := by simp [h]
theorem each_ok : ∀ (d : Nat) (s : Sch), isF d s = true → d ≤ 16 → noK7 d s = true → ∀ v : Val, isVF s v = true → EachOk s v (partsD d s v)
 | 0, s, h => by simp [isF] at h
 | d + 1, .mk k ins, h => by
  intro hd h7 ⟨n, m, s, c, w⟩ hv
  have hs : isF 16 (.mk k ins) = true := isF_le hd h
  rw [isF] at h
  simp only [Bool.and_eq_true, List.all_eq_true, beq_iff_eq] at h
  rw [noK7, Bool.and_eq_true, List.all_eq_true] at h7
  have hk7 : k ≠ 7 := by simpa using h7.1
  by_cases hb : bottomF (.mk k ins) = .mk n m s c w
  ·rw [parts_none hb]
   exact each_none k ins hs n m s c w hb
  by_cases hw : w = []
  ·subst hw
   rw [parts_leaf hb]
   by_cases hk3 : k = 3
   ·subst hk3
    exact each_leaf3 3 ins hs n m s c hb
   ·exact each_leaf1 k hk3 hk7 ins hs n m s c hb
  have hw0 : 0 < w.length := List.length_pos_iff.2 hw
  rw [parts_in hb hw]
  rcases k8_of h.1 with rfl | rfl | rfl | rfl | rfl | rfl | rfl | rfl
  ·rw [zW0 1] at hv
   simp [bareF, numsK, textsK, clocksK, valuesK, Val.nv, Val.mv, Val.sv, Val.cv, Val.vv] at hv
   exact absurd hv.1.1.2 hw
  ·rw [zW0 2] at hv
   simp [bareF, numsK, textsK, clocksK, valuesK, Val.nv, Val.mv, Val.sv, Val.cv, Val.vv] at hv
   exact absurd hv.1.1.1.2 hw
  ·rw [zW0 3] at hv
   simp [bareF, numsK, textsK, clocksK, valuesK, Val.nv, Val.mv, Val.sv, Val.cv, Val.vv] at hv
   exact absurd hv.1.1.1.2 hw
  ·obtain ⟨t1, rfl⟩ := zX2 h.1 (by decide)
   rw [zW0 4] at hv
   simp [bareF, numsK, textsK, clocksK, valuesK, Val.nv, Val.mv, Val.sv, Val.cv, Val.vv, isVL] at hv
   obtain ⟨⟨⟨⟨⟨⟨_, _⟩, _⟩, hwl⟩, _⟩, _, h5⟩, h6⟩ := (show (((((n = 0 ∧ m = 0) ∧ c = []) ∧ w.length ≤ 40) ∧ c.length ≤ 40) ∧ (isRowF s = true ∧ s.length = w.length)) ∧ ∀ (x : Val), x ∈ w → isVF t1 x = true ∧ noneF t1 x = false from ⟨⟨hv.1, hv.2.1⟩, hv.2.2⟩)
   exact each_map t1 hs n m s c w hw0 (by omega) h5 hb (fun i => partsD d t1 (w.getD i noV)) fun i x hx => by
    show EachOk t1 x (partsD d t1 (w.getD i noV))
    rw [getD_nV hx]
    exact each_ok d t1 (h.2 _ (by simp)) (by omega) (h7.2 _ (by simp)) x (h6 x (zC0 hx)).1
  ·obtain ⟨t1, t2, rfl⟩ := zQ5 h.1
   rw [zW0 5] at hv
   simp [bareF, numsK, textsK, clocksK, valuesK, Val.nv, Val.mv, Val.sv, Val.cv, Val.vv, isVL] at hv
   have h5 := hv.2
   match w, h5, hb, hw with
   | [x, y], h5, hb, hw =>
    simp at h5
    have a1 := each_ok d t1 (h.2 _ (by simp)) (by omega) (h7.2 _ (by simp)) x h5.1
    have a2 := each_ok d t2 (h.2 _ (by simp)) (by omega) (h7.2 _ (by simp)) y h5.2
    exact each_pair t1 t2 hs (isF_le (by omega) (h.2 _ (by simp))) (isF_le (by omega) (h.2 _ (by simp))) n m s c x y [x, y] rfl hb (fun i => partsD d ([t1, t2].getD i nS) ([x, y].getD i noV)) a1 a2
   | [], h5, hb, hw => simp at h5
   | [x], h5, hb, hw => simp at h5
   | _ :: _ :: _ :: _, h5, hb, hw => simp at h5
  ·rw [zW0 6] at hv
   simp [bareF, numsK, textsK, clocksK, valuesK, Val.nv, Val.mv, Val.sv, Val.cv, Val.vv] at hv
   exact absurd hv.1.1.1.2 hw
  ·exact absurd rfl hk7
  ·obtain ⟨t1, rfl⟩ := zX2 h.1 (by decide)
   rw [zW0 8] at hv
   simp [bareF, numsK, textsK, clocksK, valuesK, Val.nv, Val.mv, Val.sv, Val.cv, Val.vv, isVL] at hv
   obtain ⟨⟨⟨⟨⟨_, _⟩, _⟩, hwl⟩, _⟩, ⟨h4, _⟩, h6⟩ := hv
   exact each_cause 8 (by decide) (by decide) t1 hs (isF_le (by omega) (h.2 _ (by simp))) n m s c w hw0 (by omega) h4 hb (fun i => partsD d t1 (w.getD i noV)) fun i x hx => by
    show EachOk t1 x (partsD d t1 (w.getD i noV))
    rw [getD_nV hx]
    exact each_ok d t1 (h.2 _ (by simp)) (by omega) (h7.2 _ (by simp)) x (h6 x (zC0 hx))
theorem at_filter {α : Type} (q : α → Bool) : ∀ {l : List α} {j : Nat} {y : α}, l[j]? = some y → q y = true → (l.filter q)[((l.take j).filter q).length]? = some y
 | [], j, y, h, _ => by simp at h
 | x :: l, 0, y, h, hq => by
  simp at h
  subst h
  simp [hq]
 | x :: l, j + 1, y, h, hq => by
  have ih := at_filter q (l := l) (j := j) (y := y) (by simpa using h) hq
  rw [List.take_succ_cons]
  cases hx : q x with
  | true => simp [hx, ih]
  | false => simp [hx, ih]
def cntQ (q : Val → Bool) (ys : List Val) (j : Nat) : Nat := ((ys.take j).filter q).length
theorem cnt_succ {q : Val → Bool} {ys : List Val} {j : Nat} {y : Val} (h : ys[j]? = some y) : cntQ q ys (j + 1) = cntQ q ys j + if q y = true then 1 else 0 := by
 unfold cntQ
 rw [List.take_add_one, h, Option.toList_some, List.filter_append, zM]
 congr 1
 cases hq : q y <;> simp [hq]
theorem cnt_all (q : Val → Bool) (ys : List Val) : cntQ q ys ys.length = (ys.filter q).length := by unfold cntQ; rw [List.take_length]
def goQ (q : Val → Bool) (ys : List Val) (m j : Nat) : Bool := !(q (ys.getD j noV) && decide (cntQ q ys j = m))
theorem cnt_le {q : Val → Bool} {ys : List Val} {m : Nat} : ∀ j, j ≤ ys.length → (∀ i, i < j → goQ q ys m i = true) → cntQ q ys j ≤ m
 | 0, _, _ => by simp [cntQ]
 | j + 1, hj, h => by
  have ih := cnt_le (q := q) (ys := ys) (m := m) j (by omega) fun i hi => h i (by omega)
  obtain ⟨y, hy⟩ : ∃ y, ys[j]? = some y := ⟨_, zD (by omega)⟩
  have hg := h j (by omega)
  unfold goQ at hg
  rw [getD_nV hy] at hg
  rw [cnt_succ hy]
  cases hq : q y with
  | false => simpa using ih
  | true =>
   rw [hq] at hg
   simp at hg
   simp
   omega
theorem kept_spec (k ks : FuncId) (caps capss : List MV) (S : MS) : MCalls Tryz.prog 33 [.fn (.func k) [] caps, .fn (.func ks) [] capss] S fun r σ' => r = .fn (.func 62) [] [.ref S.length 0, .ref (S.length + 1) 0] ∧ σ' = S ++ [.cells [.fn (.func k) [] caps], .cells [.fn (.func ks) [] capss]] := by
 refine zU Tryz.func33 V Tryz.ntmps33 (zA V) ?_
 refine zB <| qR V <| qB V V V V V <| qB V V V V V <| qA V V V <| qN <| zB <| qR V <| qO V <| zB2 V V V <| qA V V V <| qN ?_
 refine zV1 fun hcv hcl => ?_
 refine zL ?_
 exact ret_tmpT (.inr V) Tryz.results33 V (.refl _) (hcv 4 _ rfl) (by simp) hcl Vv
theorem kept_iter (k ks : FuncId) (hco : CallOk Tryz.prog k) (hcs_ : CallOk Tryz.prog ks) (caps capss : List MV) (ys : List Val) (q : Val → Bool) (F : List (Nat × MObj)) (hit : VIter k caps ys F) (hso : ∀ p ∈ ys, ∀ S', Sees F S' → MCalls Tryz.prog ks ([] ++ [encV p] ++ capss) S' fun r σ' => r = .bool (q p) ∧ σ' = S') (il is : Nat) :
  VIter 62 [.ref il 0, .ref is 0] (ys.filter q) ((il, .cells [.fn (.func k) [] caps]) :: (is, .cells [.fn (.func ks) [] capss]) :: F) := by
 intro l0
 refine GiveOk.iter (k := 62) (first := []) ?_
 intro id T m hok hm hyt hyf
 have hT : ∀ j, (T j).length = l0 := fun j => (hok j).1.1
 have hT_ : ∀ j, (T j).length = (T 0).length := fun j => (hT j).trans (hT 0).symm
 have hFs : ∀ p ∈ F, p ∈ (il, MObj.cells [.fn (.func k) [] caps]) :: (is, .cells [.fn (.func ks) [] capss]) :: F := fun p hp => zI0 _ (zI0 _ hp)
 refine zU Tryz.func62 V Tryz.ntmps62 (zA V) ?_
 refine zB <| qR V <| qB V V V V V <| qN <| zB <| qR V <| qO V <| zR V V (zT0 (hok 0).1.2.hd) ta62 V <| qN <| zB0 ?_
 show mwp _ _ _ _ _ _ _ (T 0 ++ [.cells [.yld id]])
 refine zV1 fun _ hclW => ?_
 generalize hL0 : ([.cells [.yld id]] : MS) = L0 at hclW
 have hl8 : L0.length = 1 := by rw [← hL0]; rfl
 show mwp _ _ _ _ _ _ _ (([] : MS) ++ (T 0 ++ L0))
 refine mwp_rangeC (L0 := _) .ret (.inl V) (fun j => goQ q ys m j) (fun j => T (cntQ q ys j) ++ L0) (fun j => T (cntQ q ys j) ++ L0) (fun j => T (cntQ q ys j + 1) ++ L0) (fun j => by simp [hT]) (fun j => by simp [hT]) (fun j => by simp [hT]) V
  (fun j o ho n hn => cls_two (hT_ _) hclW (hok _).2 ho hn) (fun j o ho n hn => cls_two (hT_ _) hclW (hok _).2 ho hn) (fun j o ho n hn => cls_two (hT_ _) hclW (hok _).2 ho hn) rfl hco rfl (by simp [hT]) ((hit ((T 0).length + 2)).two)
  (fun j => ⟨by simp [hT, hl8], fun p hp => zT0 (zS0 (zT0 ((hok _).1.2 p (hFs p hp))))⟩) (fun j hj => rfl) (fun j s q_ => ⟨by simp [hT, hl8], fun p hp => zT0 (zS0 (zT0 ((hok _).1.2 p (hFs p hp))))⟩) rfl (fun y hy => by obtain ⟨i, _, rfl⟩ := List.mem_map.1 hy; rfl) ?_ ?_ ?_
 ·
  intro j y hy hbef L'
  rw [zN0] at hy
  obtain ⟨p, hp, rfl⟩ := Option.map_eq_some_iff.1 hy
  obtain ⟨n1, m1, s1, c1, w1⟩ := p
  have hjl := (zH.1 hp).1
  have hcm := cnt_le j (by omega) hbef
  have hsq := hso (.mk n1 m1 s1 c1 w1) (zC0 hp)
  have hgo : goQ q ys m j = !(q (.mk n1 m1 s1 c1 w1) && decide (cntQ q ys j = m)) := by unfold goQ; rw [getD_nV hp]
  have hcs := cnt_succ (q := q) hp
  have hlw : (T (cntQ q ys j)).length = (T 0).length := hT_ _
  refine qR V <| qO V <| zJ5 V zm30 <| qO V <| zM4 V V V sz30 V V (zA V) <| qN ?_
  refine ⟨rfl, [_], rfl, ?_⟩
  rw [flat4]
  refine mwp_abs fun R hR => ?_
  have hse : ∀ (X : MS), Sees F (T (cntQ q ys j) ++ X) := fun X => Sees.app fun p hp => (hok _).1.2 p (hFs p hp)
  obtain ⟨r, hr⟩ : ∃ r, q (.mk n1 m1 s1 c1 w1) = r := ⟨_, rfl⟩
  rw [hr] at hsq hgo hcs
  refine zB0 <| zB ?_
  rcases r with _ | _
  rotate_left
  rcases Nat.lt_or_eq_of_le hcm with hclt | hceq
  rotate_right
  ·
   refine qR V <| qO V <| zR V V (zT0 (hok _).1.2.tl.hd) ta75 V <| qO V <| zS1 (y := encV (.mk n1 m1 s1 c1 w1)) (zR V V (by rw [hR]; exact get_rtN ((hT_ _).trans (hT_ _).symm)) ta30 V Vv) (.refl _) ?_
   refine zF4 V (zC1 V V V hcs_ ((hsq _ (hse R)).mono ?_))
   rintro _ _ ⟨rfl, rfl⟩
   refine qM V V V <| qT V V V V <| qP V V V V <| qN <| zQ V (V) <| zY ?_
   exact .inl ⟨by rw [hgo]; first | rfl | (rw [decide_eq_false (by omega)]; rfl), rfl, [_], by rw [hcs, hR]; exact flat4.symm⟩
  ·
   have hyg : ((ys.filter q).map fun p => [encV p])[cntQ q ys j]? = some [encV (.mk n1 m1 s1 c1 w1)] := by rw [zN0]; unfold cntQ; rw [at_filter q hp hr]; rfl
   refine qR V <| qO V <| zR V V (zT0 (hok _).1.2.tl.hd) ta75 V <| qO V <| zS1 (y := encV (.mk n1 m1 s1 c1 w1)) (zR V V (by rw [hR]; exact get_rtN ((hT_ _).trans (hT_ _).symm)) ta30 V Vv) (.refl _) ?_
   refine zF4 V (zC1 V V V hcs_ ((hsq _ (hse R)).mono ?_))
   rintro _ _ ⟨rfl, rfl⟩
   refine qM V V V <| qO V <| zR V V (by rw [hR]; exact look2 (hT_ _) (k := 0) (by rw [← hL0]; rfl)) ta75 V ?_
   refine qO V <| zS1 (y := encV (.mk n1 m1 s1 c1 w1)) (zR V V (by rw [hR]; exact get_rtN ((hT_ _).trans (hT_ _).symm)) ta30 V Vv) (.refl _) ?_
   refine qO V <| (hyt _ _ hclt hyg R _ _ _ _ _ _ rfl V V).mono ?_
   rintro _ _ ⟨rfl, rfl⟩
   refine qO V <| zY0 V V <| qP V V V V <| qN <| zQ V (V) <| zY ?_
   exact .inl ⟨by rw [hgo]; first | rfl | (rw [decide_eq_false (by omega)]; rfl), rfl, [_], by rw [hcs, hR]; exact flat4.symm⟩
  ·
   have hyg : ((ys.filter q).map fun p => [encV p])[cntQ q ys j]? = some [encV (.mk n1 m1 s1 c1 w1)] := by rw [zN0]; unfold cntQ; rw [at_filter q hp hr]; rfl
   refine qR V <| qO V <| zR V V (zT0 (hok _).1.2.tl.hd) ta75 V <| qO V <| zS1 (y := encV (.mk n1 m1 s1 c1 w1)) (zR V V (by rw [hR]; exact get_rtN ((hT_ _).trans (hT_ _).symm)) ta30 V Vv) (.refl _) ?_
   refine zF4 V (zC1 V V V hcs_ ((hsq _ (hse R)).mono ?_))
   rintro _ _ ⟨rfl, rfl⟩
   refine qM V V V <| qO V <| zR V V (by rw [hR]; exact look2 (hT_ _) (k := 0) (by rw [← hL0]; rfl)) ta75 V ?_
   refine qO V <| zS1 (y := encV (.mk n1 m1 s1 c1 w1)) (zR V V (by rw [hR]; exact get_rtN ((hT_ _).trans (hT_ _).symm)) ta30 V Vv) (.refl _) ?_
   refine qO V <| (hyf _ _ hceq hyg R _ _ _ _ _ _ rfl V V).mono ?_
   rintro _ _ ⟨rfl, rfl⟩
   refine qO V <| zY0 V V <| qP V V V V <| qN <| zA0 V (V) <| zL ?_
   exact .inr ⟨by rw [hgo, decide_eq_true hceq]; rfl, rfl, [_], by rw [hR]; exact flat4.symm⟩
 ·
  intro hall
  have hmm : cntQ q ys ys.length = m := by
   have h1 := cnt_le (q := q) (ys := ys) (m := m) ys.length (Nat.le_refl _) (fun i hi => hall i (by simpa using hi))
   have h2 := cnt_all q ys
   rw [zC] at hm
   rcases Nat.lt_or_ge (cntQ q ys ys.length) m with h | h
   ·omega
   ·omega
  have e1 : (ys.map fun p => [encV p]).length = ys.length := zC ..
  show BlockM _ _ _ _ ((T _ ++ L0) ++ [.gone])
  rw [zZ (T _) L0, e1, hmm]
  exact zR3 (S' := T m) (.inl V) Tryz.results62 (Nat.le_of_eq (hT_ _).symm) (hok _).2 ⟨rfl, by rw [zC, ← cnt_all, hmm, if_neg (by omega)]⟩
 ·
  intro j y hy hp
  rw [zN0] at hy
  obtain ⟨p, hp2, rfl⟩ := Option.map_eq_some_iff.1 hy
  have hg : goQ q ys m j = !(q p && decide (cntQ q ys j = m)) := by unfold goQ; rw [getD_nV hp2]
  rw [hp] at hg
  have hq2 : q p = true ∧ cntQ q ys j = m := by
   have hh : (q p && decide (cntQ q ys j = m)) = true := by
    cases hh : (q p && decide (cntQ q ys j = m)) with
    | true => rfl
    | false => rw [hh] at hg; cases hg
   rw [Bool.and_eq_true] at hh
   exact ⟨hh.1, zO1 hh.2⟩
  have hlt := (zH.1 (at_filter q hp2 hq2.1)).1
  have hlt2 : m < (ys.filter q).length := by rw [← hq2.2]; exact hlt
  show BodyQ _ _ _ _ _ _ ((T (cntQ q ys j + 1) ++ L0) ++ [.gone])
  rw [zZ (T (cntQ q ys j + 1)) L0]
  exact zR3 (S' := T (cntQ q ys j + 1)) (.inr V) Tryz.results62 (Nat.le_of_eq (hT_ _).symm) (hok _).2 ⟨rfl, by rw [hq2.2, zC, if_pos hlt2]⟩
theorem is_pair {t u : Sch} {x y : Val} : isVF (.mk 5 [t, u]) (.mk 0 0 [] [] [x, y]) = (isVF t x && isVF u y) := by
 rw [zW0 5]
 simp [isVL, bareF, numsK, textsK, clocksK, valuesK, Val.nv, Val.mv, Val.sv, Val.cv, Val.vv]
section
theorem eqlI {a b : Int} (h : a = b) : intCmp .eql a b = some true := by simp [intCmp, h]
def clkV (c : List Tk) : Val := if c.length = 0 then noV else .mk 0 0 [] [c] []
section
variable {a b : List Tk} (ha : Go.MV.Up a) (hb : Go.MV.Up b) (pa : Go.MV.Pos a) (pb : Go.MV.Pos b)
include ha hb pa pb
end
section
variable {a b : List Tk} (ka : isClockF a = true) (kb : isClockF b = true) (oa : ∀ t ∈ a, okTk t) (ob : ∀ t ∈ b, okTk t) (la : a.length ≤ 15) (lb : b.length ≤ 15)
include ka kb oa ob la lb
end
section
variable {a b : List Tk} {x y : Int} (ka : isClockF a = true) (kb : isClockF b = true) (oa : ∀ t ∈ a, okTk t) (ob : ∀ t ∈ b, okTk t)
include ka kb oa ob
end
theorem both_iff {A B : List Bs} (ha : Up A) (hb : Up B) : bothX A B = B ↔ ∀ z ∈ A, z ∈ B := by
 constructor
 ·intro h z hz
  rw [← h, zG3]
  exact .inl hz
 ·intro h
  refine up_ext (zM6 A B ha hb) hb fun z => ?_
  rw [zG3]
  exact ⟨fun hz => hz.elim (h z) id, .inr⟩
def setV (A : List Bs) : Val := .mk 0 0 A [] []
theorem leq_set {A B : List Bs} (ha : isRowF A = true) (hb : isRowF B = true) (ua : Up A) (ub : Up B) (hl : A.length + B.length ≤ 40) : leqVF (.mk 3 []) (setV A) (setV B) = .ok (decide (∀ z ∈ A, z ∈ B)) := by
 have h := join_set ha hb
 rw [if_neg (by have := both_len A B; omega)] at h
 unfold setV
 rw [leq_ok h]
 congr 1
 rw [decide_eq_decide, ← both_iff ua ub]
 simp
end
mutual
theorem okV_botA : ∀ s : Sch, okV (bottomF s)
 | .mk k ins => by
  rw [zX4]
  split
  ·exact zW2.2 ⟨by omega, by omega, by simp, okV_botL ins⟩
  ·simp [noV, okV, okVs]
theorem okV_botL : ∀ l : List Sch, ∀ x ∈ bottomL l, okV x
 | [], x, h => by simp [bottomL] at h
 | s :: l, x, h => by
  rw [bottomL] at h
  rcases List.mem_cons.1 h with rfl | h
  ·exact okV_botA s
  ·exact okV_botL l x h
end
theorem okV_no_ : okV noV := by simp [noV, okV, okVs]
theorem okV_getD {w : List Val} (h : ∀ x ∈ w, okV x) (i : Nat) : okV (w.getD i noV) := by
 rcases Nat.lt_or_ge i w.length with hi | hi
 ·rw [getD_nV (zD hi)]
  exact h _ (List.getElem_mem hi)
 ·simp [List.getElem?_eq_none hi]
  exact okV_no_
theorem okT_getD {c : List (List Tk)} (h : ∀ x ∈ c, ∀ t ∈ x, okTk t) (i : Nat) : ∀ t ∈ c.getD i [], okTk t := by
 rcases Nat.lt_or_ge i c.length with hi | hi
 ·simp [zD hi]
  exact fun a b h2 => h _ (List.getElem_mem hi) (a, b) h2
 ·simp [List.getElem?_eq_none hi]
theorem parts_okV : ∀ (d : Nat) (s : Sch) (v : Val), okV v → ∀ p ∈ partsD d s v, okV p
 | 0, _, _, _, p, hp => by simp [partsD] at hp
 | d + 1, .mk k ins, .mk n m s c w, ho, p, hp => by
  have o := zW2.1 ho
  rw [partsD] at hp
  split at hp
  ·cases hp
  ·split at hp
   ·by_cases h3 : k = 3
    ·subst h3
     simp [leavesF] at hp
     obtain ⟨t, _, rfl⟩ := hp
     simp [okV, okVs]
    ·by_cases h7 : k = 7
     ·subst h7
      replace hp : p ∈ c.flatMap fun x => x.map fun t => Val.mk 0 0 [] [[t]] [] := hp
      obtain ⟨x, hx, hp⟩ := List.mem_flatMap.1 hp
      obtain ⟨t, ht, rfl⟩ := List.mem_map.1 hp
      refine zW2.2 ⟨by omega, by omega, fun y hy u hu => ?_, by simp⟩
      have e1 : y = [t] := by simpa using hy
      subst e1
      have e2 : u = t := by simpa using hu
      subst e2
      exact o.2.2.1 x hx _ ht
     ·simp [leavesF, h3, h7] at hp
      subst hp
      exact ho
   ·obtain ⟨i, _, hp⟩ := List.mem_flatMap.1 hp
    unfold partAt at hp
    have hx := okV_getD o.2.2.2 i
    split at hp
    ·obtain ⟨q, hq, rfl⟩ := List.mem_map.1 hp
     have := parts_okV d _ _ hx q hq
     exact zW2.2 ⟨by omega, by omega, by simp, fun y hy => by simp at hy; subst hy; exact this⟩
    ·split at hp
     ·obtain ⟨q, hq, rfl⟩ := List.mem_map.1 hp
      have := parts_okV d _ _ hx q hq
      exact zW2.2 ⟨by omega, by omega, by simp, okV_setAt (okV_botL ins) this⟩
     ·obtain ⟨q, hq, rfl⟩ := List.mem_map.1 hp
      have hq2 : okV q := by
       unfold innerF at hq
       split at hq
       ·simp at hq; subst hq; exact hx
       ·exact parts_okV d _ _ hx q hq
      exact zW2.2 ⟨by omega, by omega, fun x hx t ht => by simp at hx; subst hx; exact okT_getD o.2.2.1 i t ht, fun y hy => by simp at hy; subst hy; exact hq2⟩
theorem valIs_at {s : Sch} {v : Val} {b : Bool} (h : (isF 16 s && isVF s v) = b) (ov : okV v) (S : MS) : MCalls Tryz.prog 23 [encS s, encV v] S fun r σ' => r = .bool b ∧ σ' = S := by rw [← h]; exact valIs_spec s v ov S
theorem Parts_bad (s : Sch) (v : Val) (ov : okV v) (h : (isF 16 s && isVF s v) = false) (S : MS) : MCalls Tryz.prog 10 [encS s, encV v] S fun r σ' => r = .tup [.lst0, encErr 14] ∧ σ' = S := by
 obtain ⟨k, ins⟩ := s
 obtain ⟨n, m, s0, c, w⟩ := v
 refine zU Tryz.func10 V Tryz.ntmps10 (zA V) ?_
 refine zB <| qR V <| qB V V V V V <| qB V V V V V <| qA V V V <| qA V V V <| qN <| zB <| zB <| qR V <| qL V V V V ta24 V <| qL V V V V ta30 V ?_
 refine qX V V V V co23 (valIs_at (s := (.mk k ins)) (v := (.mk n m s0 c w)) h ov _) ?_
 refine qO V <| zY0 V V <| qN <| zA0 V (V) <| zB <| qR V <| qO V <| zV2 V V zH2 (by simp) ?_
 refine qA V V V <| qA V V V <| qN <| zL ?_
 exact ret_tmp2 (.inr V) Tryz.results10 V V (.refl _) (.refl _) (.lst0) (.iface _ _ (.int _ _)) Vv
theorem row_at (s : Sch) (v : Val) {ys : List Val} {i1 i2 : Nat} (S : MS) (h1 : S[i1]? = some (.cells (encS s).cells)) (h2 : S[i2]? = some (.cells (encV v).cells)) (h : EachOk s v ys) (hl : ys.length ≤ 2000000) : MCalls Tryz.prog 24 [.fn (.func 45) [] [.ref i1 0, .ref i2 0]] S fun r σ' => r = .lst none 5 (encVs ys) ∧ σ' = S :=
 row_spec 45 co45 _ ys _ S (.cons h1 (.cons h2 .nil)) (h i1 i2) hl
theorem Parts_ok (s : Sch) (v : Val) (ov : okV v) (hs : isF 16 s = true) (h7 : noK7 16 s = true) (hv : isVF s v = true) (hl : (partsD 16 s v).length ≤ 2000000) (S : MS) : MCalls Tryz.prog 10 [encS s, encV v] S fun r σ' => r = .tup [.lst none 5 (encVs (partsD 16 s v)), .iface0] ∧ σ' = S := by
 obtain ⟨k, ins⟩ := s
 obtain ⟨n, m, s0, c, w⟩ := v
 refine zU Tryz.func10 V Tryz.ntmps10 (zA V) ?_
 refine zB <| qR V <| qB V V V V V <| qB V V V V V <| qA V V V <| qA V V V <| qN <| zB <| zB <| qR V <| qL V V V V ta24 V <| qL V V V V ta30 V ?_
 refine qX V V V V co23 (valIs_at (s := (.mk k ins)) (v := (.mk n m s0 c w)) (b := true) (by rw [hs, hv]; rfl) ov _) ?_
 refine qO V <| zY0 V V <| qN <| zQ V (V) <| zY <| zB <| qR V <| qL V V V V ta24 V <| qL V V V V ta30 V ?_
 refine qX V V V V co25 (each_at (.mk k ins) (.mk n m s0 c w) V) ?_
 refine qX V V V V co24 (row_at (.mk k ins) (.mk n m s0 c w) _ (by rw [getElem?_own]; rfl) (by rw [getElem?_own]; rfl) (each_ok 16 _ hs (Nat.le_refl _) h7 _ hv) hl) ?_
 refine qA V V V <| qA V V V <| qN <| zL ?_
 exact ret_tmp2 (.inr V) Tryz.results10 V V (.refl _) (.refl _) (cl_encVl _ _) (.iface0) Vv
theorem kept_at (k ks : FuncId) (caps capss : List MV) {S L : MS} {n : Nat} (hL : L.length = n) : MCalls Tryz.prog 33 [.fn (.func k) [] caps, .fn (.func ks) [] capss] (S ++ L) fun r σ' => r = .fn (.func 62) [] [.ref (S.length + n) 0, .ref (S.length + (n + 1)) 0] ∧ σ' = S ++ (L ++ [.cells [.fn (.func k) [] caps], .cells [.fn (.func ks) [] capss]]) := by
 refine (kept_spec k ks caps capss (S ++ L)).mono ?_
 rintro r σ' ⟨rfl, rfl⟩
 rw [zM, hL, zZ]
 exact ⟨rfl, rfl⟩
theorem mwp_loopU {P : Program} {rd : Option Nat} {N n : Nat} {c : Code} {Q : Exit → Env → MS → Prop} {env : Env} {α : Type} {σ0 : MS} (K : Env) (E : α → Env) (L : α → MS) (I : α → Prop) (m : α → Nat) (x₀ : α) (hN : (∀ x, N ≤ (L x).length) ∧ (∀ x y, (L x).length = (L y).length) ∧ ∀ x, ClS (L x)) (hK : EnvSub env K) (hE : EnvSub env (E x₀)) (h₀ : I x₀) (hL : σ0 = L x₀)
  (round : ∀ x, I x → mwp P rd N n c (ThenM (fun env' σ' => ∃ y junk, m y < m x ∧ I y ∧ σ' = L y ++ junk ∧ LTo 0 [] [] ∧ EnvTo (L x).length env' (K ++ E x) K ∧ EnvTo (L x).length env' (K ++ E x) (E y)) Q) (K ++ E x) (L x)) : mwp P rd N n (.loop c) Q env σ0 := by
 subst hL
 refine mwp_env (hK.app hE).get_ ?_
 refine zV1 fun hc hcs => ?_
 refine mwp_loop (fun x env' σ' => I x ∧ ∃ junk, σ' = L x ++ junk ∧ EnvSubG env' (K ++ E x) ∧ ∀ t y, get (K ++ E x) t = some y → Cl (L x).length y) m x₀ ⟨h₀, [], by simp, fun t y hy => ⟨y, hy, .refl y⟩, hc⟩ ?_
 rintro x env' σ' ⟨hI, junk, rfl, hE, hcl⟩
 refine mwp_cut (hN.1 x) hE hcl (hN.2.2 x) (mwp_mono (round x hI) ?_)
 rintro e env2 σ2 hq
 cases e with
 | normal =>
  obtain ⟨y, junk, h1, h2, h3, _, h5, h6⟩ := hq
  refine ⟨y, h1, h2, junk, h3, (h5.app h6).sub.get_, ?_⟩
  rw [hN.2.1 y x]
  exact (h5.app h6).cl hcl
 | exit id => exact hq
 | goto l => exact hq
 | ret => exact hq
 | panic ch => exact hq
 | outgrown => exact hq
theorem leaves7_give (ins : List Sch) (n0 m0 : Int) (s0 : List Bs) (c : List Tk) (w0 : List Val) (F : List (Nat × MObj)) (l0 : Nat) : GiveOk Tryz.prog 51 (fun id => [encS (.mk 7 ins), encV (.mk n0 m0 s0 [c] w0), .yld id]) .bool ((leavesF 7 (.mk n0 m0 s0 [c] w0)).map fun p => [encV p]) (okP l0 F) := by
 intro id T m hok hm hyt hyf
 have hT : ∀ j, (T j).length = l0 := fun j => (hok j).1.1
 have hT_ : ∀ j, (T j).length = (T 0).length := fun j => (hT j).trans (hT 0).symm
 have hll : ((leavesF 7 (.mk n0 m0 s0 [c] w0)).map fun p => [encV p]).length = c.length := by simp [leavesF]
 rw [hll] at hm ⊢
 refine zU Tryz.func51 V Tryz.ntmps51 (zA V) ?_
 refine zB <| qR V <| qB V V V V V <| qB V V V V V <| qA V V V <| qN <| zB <| zB <| qR V <| qF V V V zC2 <| qL V V V V ta3 V <| qN <| zB0 <| zB <| qR V <| qC V V V V (eqlN (by decide)) ?_
 refine qA V V V <| qN <| zQ V (V) <| zB <| qR V <| qC V V V V (eqlQ V) <| qA V V V <| qN <| zA0 V (V) <| zB <| zB <| qR V <| qF V V V zM1 <| qL V V V V ta27 V <| qE V V zN V <| qM V V V <| qN <| zB0 ?_
 show mwp _ _ _ _ _ _ _ (([] : MS) ++ (T 0 ++ [.cells (encS (.mk 7 ins)).cells, .cells (encV (.mk n0 m0 s0 [c] w0)).cells]))
 refine zQ1 (α := Nat) [(2, _), (34, _), (35, _)] (fun i => [(36, .int .i64 (i : Int))]) (fun i => T (i * c.length) ++ [.cells (encS (.mk 7 ins)).cells, .cells (encV (.mk n0 m0 s0 [c] w0)).cells]) (fun i => (i = 0 ∨ i = 1) ∧ (i = 1 → c.length ≤ m)) (fun i => 1 - i) (0) (.keep V (.keep V (.keep V (.nil)))) (.keep V (.nil)) (⟨.inl rfl, fun h => by omega⟩) (by rw [Nat.zero_mul]) ?_
 rintro i ⟨hi, hcm⟩
 refine zB <| qR V <| qC V V V V V <| qN <| zB ?_
 refine zK V (fun h37 => ?_) (fun h37 => ?_)
 ·
  have hi0 : i = 0 := by have := zO1 h37; simp at this; omega
  subst hi0
  refine zY <| zB <| zB0 <| zB <| qR V <| qO V <| zG V zN sz55 (by decide) V V V (show _ = some (.lst none 2 (c.map encT)) from V) ?_
  refine qO V <| zI V V ta55 V <| qA V V V <| qN <| zB <| qR V <| qM V V V <| qE V V zP V <| qM V V V <| qN <| zB0 ?_
  refine zI2 (t := 40) V fun hlen => ?_
  rw [zC] at hlen
  refine mwp_loopU (α := Nat) [(2, _), (34, _), (35, _), (36, _), (40, _), (41, _)] (fun j => [(42, .int .i64 (j : Int))]) (fun j => T j ++ [.cells (encS (.mk 7 ins)).cells, .cells (encV (.mk n0 m0 s0 [c] w0)).cells]) (fun j => j ≤ m ∧ j ≤ c.length) (fun j => c.length - j) (0) (⟨fun x => by simp [hT_ x], fun x y => by simp [hT_ x, hT_ y], fun x => (hok x).2.app (fun o ho => by simp at ho; rcases ho with rfl | rfl <;> first | exact cl_boxS _ _ | exact cl_boxV _ _)⟩) (.keep V (.keep V (.keep V (.keep V (.keep V (.keep V (.nil))))))) (.keep V (.nil)) (⟨by omega, by omega⟩) (by rw [Nat.zero_mul]; rfl) ?_
  rintro j ⟨hj, hjs⟩
  refine zB <| qR V <| qC V V V V V <| qN <| zB ?_
  refine zK V (fun h43 => ?_) (fun h43 => ?_)
  ·
   have hlt : j < c.length := by simpa using h43
   obtain ⟨⟨tw, tn⟩, hs⟩ : ∃ q_, c[j]? = some q_ := ⟨_, zD hlt⟩
   refine zY <| zB <| zB0 <| zB <| qR V <| qO V <| zG V zP sz54 (by decide) V V V (zR0 hs) ?_
   refine qO V <| zI V V ta54 V <| qO V <| zJ5 V zm54 <| qO V <| zM4 V V V sz54 V V (zA V) <| qN <| zB ?_
   rcases Nat.lt_or_eq_of_le hj with hjm | hjm
   ·
    have hyi : (leavesF 7 (.mk n0 m0 s0 [c] w0))[j]? = some (.mk 0 0 [] [[(tw, tn)]] []) := by simp [leavesF, hs]
    refine qR V <| qM V V V <| qO V <| op_load_last V V ta54 V <| qO V <| zA1 V zP el54 V V (by decide) (by decide) V V ?_
    refine qO V <| zA1 V zN el55 V V (by decide) (by decide) V V ?_
    refine qO V <| zS1 (y := encV (.mk 0 0 [] [[(tw, tn)]] [])) (zZ1 V zQ0 zm30 (.cons zM1 sz27 V V (zA V) .nil) (by kernel_rfl) Vv) (.agg (.cons (.refl _) (.cons (.refl _) (.cons (.nil 1) (.cons (.refl _) (.cons (.nil 5) .nil)))))) ?_
    refine qO V <| ((((hyt j _ hjm (map_one hyi)).frame [.cells (encS (.mk 7 ins)).cells, .cells (encV (.mk n0 m0 s0 [c] w0)).cells]).frame _).at0 V V V).mono ?_
    rintro _ _ ⟨rfl, rfl⟩
    refine qO V <| zY0 V V <| qN <| zQ V (V) <| zY <| qR V <| qO V <| zO0 V V V V <| qM V V V <| qN ?_
    refine ⟨j + 1, _, by omega, ⟨by omega, by omega⟩, rfl, .nil, (.old V V (.old V V (.old V V (.old V V (.old V V (.old V V (.nil))))))), (.new' V (zK1 hlt hlen) (.int _ _) (.nil))⟩
   ·
    have hyi : (leavesF 7 (.mk n0 m0 s0 [c] w0))[j]? = some (.mk 0 0 [] [[(tw, tn)]] []) := by simp [leavesF, hs]
    refine qR V <| qM V V V <| qO V <| op_load_last V V ta54 V <| qO V <| zA1 V zP el54 V V (by decide) (by decide) V V ?_
    refine qO V <| zA1 V zN el55 V V (by decide) (by decide) V V ?_
    refine qO V <| zS1 (y := encV (.mk 0 0 [] [[(tw, tn)]] [])) (zZ1 V zQ0 zm30 (.cons zM1 sz27 V V (zA V) .nil) (by kernel_rfl) Vv) (.agg (.cons (.refl _) (.cons (.refl _) (.cons (.nil 1) (.cons (.refl _) (.cons (.nil 5) .nil)))))) ?_
    refine qO V <| ((((hyf j _ hjm (map_one hyi)).frame [.cells (encS (.mk 7 ins)).cells, .cells (encV (.mk n0 m0 s0 [c] w0)).cells]).frame _).at0 V V V).mono ?_
    rintro _ _ ⟨rfl, rfl⟩
    refine qO V <| zY0 V V <| qN <| zA0 V (V) <| zB <| qR V <| qA V V V <| qN ?_
    rw [zZ]
    refine zL ?_
    exact zK5 (S' := T (j + 1)) (.inr V) zN6 V (.refl _) (.bool _) (Nat.le_of_eq (hT_ _).symm) (hok _).2 ⟨congrArg MV.bool (decide_eq_false (by omega)).symm, by rw [hjm, if_pos (by omega)]⟩
  ·
   have hge : j = c.length := by simp at h43; omega
   refine zF1 <| qR V <| qO V <| zO0 V V V V <| qM V V V <| qN ?_
   refine ⟨1, by omega, ⟨.inr rfl, fun _ => by omega⟩, by rw [Nat.one_mul, show j = c.length by omega]; rfl, (.keep V (.keep V (.keep V (.nil)))), (.eq V (zK1 (show 0 < 1 by decide) (by decide)) (.nil))⟩
 ·
  have hi1 : i = 1 := by have := zP1 h37; simp at this; omega
  refine zF1 <| zB <| qR V <| qA V V V <| qN <| zL ?_
  exact zK5 (S' := T (i * c.length)) (.inr V) zN6 V (.refl _) (.bool _) (Nat.le_of_eq (hT_ _).symm) (hok _).2 ⟨congrArg MV.bool (decide_eq_true (by have := hcm hi1; omega)).symm, congrArg T (by have := hcm hi1; rw [hi1, Nat.one_mul]; split <;> omega)⟩
theorem each_leaf7 (ins : List Sch) (hs : isF 16 (.mk 7 ins) = true) (n0 m0 : Int) (s0 : List Bs) (c : List Tk) (hb : ¬ bottomF (.mk 7 ins) = (.mk n0 m0 s0 [c] [])) : EachOk (.mk 7 ins) (.mk n0 m0 s0 [c] []) (leavesF 7 (.mk n0 m0 s0 [c] [])) := by
 intro i1 i2 l0
 refine GiveOk.iter (k := 45) (first := []) ?_
 intro id T m hok hm hyt hyf
 have hT : ∀ j, (T j).length = l0 := fun j => (hok j).1.1
 have hT_ : ∀ j, (T j).length = (T 0).length := fun j => (hT j).trans (hT 0).symm
 have hsB : ∀ j, (T j)[i1]? = some (.cells (encS (.mk 7 ins)).cells) := fun j => (hok j).1.2.hd
 have hvB : ∀ j, (T j)[i2]? = some (.cells (encV (.mk n0 m0 s0 [c] [])).cells) := fun j => (hok j).1.2.tl.hd
 have hcall := (leaves7_give ins n0 m0 s0 c [] [] (l0 + 1)).use (id := id) (zs := (leavesF 7 (.mk n0 m0 s0 [c] [])).map fun p => [encV p]) (a := 0) (M := m) (T := T) (J := [.cells [.int .i64 0]]) (fun j => okP_app (hok j) rfl .nil (fun o ho => by simp at ho; subst ho; exact cl_int1 _ _ _)) (fun j y h => by rw [Nat.zero_add]; exact h) hyt hyf (Nat.zero_le _)
 rw [Nat.zero_add] at hcall
 refine zU zC6 V zJ6 (zA V) ?_
 refine zB <| zB <| qR V <| qO V <| zR V V (by first | exact zT0 (hsB _) | exact zS0 (zT0 (hsB _))) ta24 V ?_
 refine qO V <| zR V V (by first | exact zT0 (hvB _) | exact zS0 (zT0 (hvB _))) ta30 V ?_
 refine qX V V V V co46 (zR5 (.mk 7 ins) (.mk n0 m0 s0 [c] []) _) ?_
 have hno : noneF (.mk 7 ins) (.mk n0 m0 s0 [c] []) = false := by unfold noneF; rw [zH6 hs (Nat.le_refl _)]; exact decide_eq_false hb
 rw [hno]
 refine qN <| zQ V (V) <| zY <| zB <| qR V <| qA V V V <| qN <| zB <| zB <| qR V <| qO V <| zL0 V zm3 V V <| qO V <| zG0 V V V V sz3 V V (zA V) V <| qN <| zB0 ?_
 show mwp _ _ _ _ _ _ _ (([] : MS) ++ (T 0 ++ [.cells [.int .i64 0]]))
 refine zQ1 (α := Nat) [(0, _), (1, _), (2, _)] (fun i => [(5, .ref ((T 0).length + 0) 0), (4, .bool true)]) (fun i => T 0 ++ [.cells [.int .i64 0]]) (fun i => True) (fun i => 0) (0) (.keep V (.keep V (.keep V (.nil)))) (.keep V (.keep V (.nil))) (trivial) (V) ?_
 rintro i _
 refine zB <| zB <| qR V <| qO V <| zR V V (zS0 ((zX1 (hT_ _)).trans V)) ta3 V <| qF V V V zZ0 <| qO V <| zR V V (by first | exact zT0 (hvB _) | exact zS0 (zT0 (hvB _))) ta28 V ?_
 refine qE V V zE V <| qC V V V V V <| qM V V V <| qS V <| qP V V V V <| qN <| zQ V (V) <| zF1 <| zB <| qR V <| qF V V V zZ0 <| qO V <| zR V V (by first | exact zT0 (hvB _) | exact zS0 (zT0 (hvB _))) ta28 V ?_
 refine qE V V zE V <| qC V V V V V <| qN <| zA0 V (V) <| qR V <| qO V <| zR V V (by first | exact zT0 (hsB _) | exact zS0 (zT0 (hsB _))) ta24 V ?_
 refine qO V <| zR V V (by first | exact zT0 (hvB _) | exact zS0 (zT0 (hvB _))) ta30 V ?_
 refine qM V V V ?_
 refine qX V V V V co51 (hcall) ?_
 refine qN ?_
 exact zR3 (S' := T (if ((leavesF 7 (.mk n0 m0 s0 [c] [])).map fun p => [encV p]).length ≤ m then ((leavesF 7 (.mk n0 m0 s0 [c] [])).map fun p => [encV p]).length else m + 1)) (.inl V) zQ3 (Nat.le_of_eq (hT_ _).symm) (hok _).2 ⟨rfl, congrArg T (by split <;> split <;> omega)⟩
theorem each_all : ∀ (d : Nat) (s : Sch), isF d s = true → d ≤ 16 → ∀ v : Val, isVF s v = true → EachOk s v (partsD d s v)
 | 0, s, h => by simp [isF] at h
 | d + 1, .mk k ins, h => by
  intro hd ⟨n, m, s, c, w⟩ hv
  have hs : isF 16 (.mk k ins) = true := isF_le hd h
  rw [isF] at h
  simp only [Bool.and_eq_true, List.all_eq_true, beq_iff_eq] at h
  by_cases hb : bottomF (.mk k ins) = .mk n m s c w
  ·rw [parts_none hb]
   exact each_none k ins hs n m s c w hb
  by_cases hw : w = []
  ·subst hw
   rw [parts_leaf hb]
   by_cases hk3 : k = 3
   ·subst hk3
    exact each_leaf3 3 ins hs n m s c hb
   ·by_cases hk7 : k = 7
    ·subst hk7
     rw [zW0 7] at hv
     simp [bareF, numsK, textsK, clocksK, valuesK, Val.nv, Val.mv, Val.sv, Val.cv, Val.vv, isVL] at hv
     obtain ⟨⟨⟨⟨h1, h2⟩, h3⟩, _⟩, h5⟩ := hv
     subst h1 h2 h3
     match c, h5, hb with
     | [], _, hb => exact absurd (by rw [zX4]; rfl) hb
     | [x], _, hb => exact each_leaf7 ins hs 0 0 [] x hb
     | _ :: _ :: _, h5, _ => simp at h5
    ·exact each_leaf1 k hk3 hk7 ins hs n m s c hb
  have hw0 : 0 < w.length := List.length_pos_iff.2 hw
  rw [parts_in hb hw]
  rcases k8_of h.1 with rfl | rfl | rfl | rfl | rfl | rfl | rfl | rfl
  ·rw [zW0 1] at hv
   simp [bareF, numsK, textsK, clocksK, valuesK, Val.nv, Val.mv, Val.sv, Val.cv, Val.vv] at hv
   exact absurd hv.1.1.2 hw
  ·rw [zW0 2] at hv
   simp [bareF, numsK, textsK, clocksK, valuesK, Val.nv, Val.mv, Val.sv, Val.cv, Val.vv] at hv
   exact absurd hv.1.1.1.2 hw
  ·rw [zW0 3] at hv
   simp [bareF, numsK, textsK, clocksK, valuesK, Val.nv, Val.mv, Val.sv, Val.cv, Val.vv] at hv
   exact absurd hv.1.1.1.2 hw
  ·obtain ⟨t1, rfl⟩ := zX2 h.1 (by decide)
   rw [zW0 4] at hv
   simp [bareF, numsK, textsK, clocksK, valuesK, Val.nv, Val.mv, Val.sv, Val.cv, Val.vv, isVL] at hv
   obtain ⟨⟨⟨⟨⟨⟨_, _⟩, _⟩, hwl⟩, _⟩, _, h5⟩, h6⟩ := (show (((((n = 0 ∧ m = 0) ∧ c = []) ∧ w.length ≤ 40) ∧ c.length ≤ 40) ∧ (isRowF s = true ∧ s.length = w.length)) ∧ ∀ (x : Val), x ∈ w → isVF t1 x = true ∧ noneF t1 x = false from ⟨⟨hv.1, hv.2.1⟩, hv.2.2⟩)
   exact each_map t1 hs n m s c w hw0 (by omega) h5 hb (fun i => partsD d t1 (w.getD i noV)) fun i x hx => by
    show EachOk t1 x (partsD d t1 (w.getD i noV))
    rw [getD_nV hx]
    exact each_all d t1 (h.2 _ (by simp)) (by omega) x (h6 x (zC0 hx)).1
  ·obtain ⟨t1, t2, rfl⟩ := zQ5 h.1
   rw [zW0 5] at hv
   simp [bareF, numsK, textsK, clocksK, valuesK, Val.nv, Val.mv, Val.sv, Val.cv, Val.vv, isVL] at hv
   have h5 := hv.2
   match w, h5, hb, hw with
   | [x, y], h5, hb, hw =>
    simp at h5
    have a1 := each_all d t1 (h.2 _ (by simp)) (by omega) x h5.1
    have a2 := each_all d t2 (h.2 _ (by simp)) (by omega) y h5.2
    exact each_pair t1 t2 hs (isF_le (by omega) (h.2 _ (by simp))) (isF_le (by omega) (h.2 _ (by simp))) n m s c x y [x, y] rfl hb (fun i => partsD d ([t1, t2].getD i nS) ([x, y].getD i noV)) a1 a2
   | [], h5, hb, hw => simp at h5
   | [x], h5, hb, hw => simp at h5
   | _ :: _ :: _ :: _, h5, hb, hw => simp at h5
  ·rw [zW0 6] at hv
   simp [bareF, numsK, textsK, clocksK, valuesK, Val.nv, Val.mv, Val.sv, Val.cv, Val.vv] at hv
   exact absurd hv.1.1.1.2 hw
  ·rw [zW0 7] at hv
   simp [bareF, numsK, textsK, clocksK, valuesK, Val.nv, Val.mv, Val.sv, Val.cv, Val.vv] at hv
   exact absurd hv.1.1.1.2 hw
  ·obtain ⟨t1, rfl⟩ := zX2 h.1 (by decide)
   rw [zW0 8] at hv
   simp [bareF, numsK, textsK, clocksK, valuesK, Val.nv, Val.mv, Val.sv, Val.cv, Val.vv, isVL] at hv
   obtain ⟨⟨⟨⟨⟨_, _⟩, _⟩, hwl⟩, _⟩, ⟨h4, _⟩, h6⟩ := hv
   exact each_cause 8 (by decide) (by decide) t1 hs (isF_le (by omega) (h.2 _ (by simp))) n m s c w hw0 (by omega) h4 hb (fun i => partsD d t1 (w.getD i noV)) fun i x hx => by
    show EachOk t1 x (partsD d t1 (w.getD i noV))
    rw [getD_nV hx]
    exact each_all d t1 (h.2 _ (by simp)) (by omega) x (h6 x (zC0 hx))
theorem Parts_all (s : Sch) (v : Val) (ov : okV v) (hs : isF 16 s = true) (hv : isVF s v = true) (hl : (partsD 16 s v).length ≤ 2000000) (S : MS) : MCalls Tryz.prog 10 [encS s, encV v] S fun r σ' => r = .tup [.lst none 5 (encVs (partsD 16 s v)), .iface0] ∧ σ' = S := by
 obtain ⟨k, ins⟩ := s
 obtain ⟨n, m, s0, c, w⟩ := v
 refine zU Tryz.func10 V Tryz.ntmps10 (zA V) ?_
 refine zB <| qR V <| qB V V V V V <| qB V V V V V <| qA V V V <| qA V V V <| qN <| zB <| zB <| qR V <| qL V V V V ta24 V <| qL V V V V ta30 V ?_
 refine qX V V V V co23 (valIs_at (s := (.mk k ins)) (v := (.mk n m s0 c w)) (b := true) (by rw [hs, hv]; rfl) ov _) ?_
 refine qO V <| zY0 V V <| qN <| zQ V (V) <| zY <| zB <| qR V <| qL V V V V ta24 V <| qL V V V V ta30 V ?_
 refine qX V V V V co25 (each_at (.mk k ins) (.mk n m s0 c w) V) ?_
 refine qX V V V V co24 (row_at (.mk k ins) (.mk n m s0 c w) _ (by rw [getElem?_own]; rfl) (by rw [getElem?_own]; rfl) (each_all 16 _ hs (Nat.le_refl _) _ hv) hl) ?_
 refine qA V V V <| qA V V V <| qN <| zL ?_
 exact ret_tmp2 (.inr V) Tryz.results10 V V (.refl _) (.refl _) (cl_encVl _ _) (.iface0) Vv
section
def okJ (s : Sch) (a b : Val) : Bool := (bothF s a b).isSome
section
variable {κ : Type} {cmp : κ → κ → Int}
theorem goE_some (f : Val → Val → Option Val) : ∀ l : List (Ent κ), (goE f l).isSome = l.all fun e => (ofE f e).isSome
 | [] => rfl
 | e :: l => by
  rw [goE, List.all_cons, ← goE_some f l]
  cases ofE f e with
  | none => rfl
  | some v => simp
noncomputable def entK (A B : List (κ × Val)) (k : κ) : Option (Ent κ) := match look A k, look B k with
 | some v, y => some (k, v, y)
 | none, some w => some (k, w, none)
 | none, none => none
theorem look_self (x : κ × Val) (a : List (κ × Val)) : look (x :: a) x.1 = some x.2 := by rw [zK2, if_pos rfl]
theorem look_tail {x : κ × Val} {a : List (κ × Val)} {k : κ} (h : ¬ x.1 = k) : look (x :: a) k = look a k := by rw [zK2, if_neg h]
theorem look_head_no (ho : OrdK cmp) {x : κ × Val} {a : List (κ × Val)} (h : SrtK cmp (x :: a)) : look a x.1 = none := zC3 (not_has ho (zY1.1 h).1)
theorem _root_.zW5 : type_of% @look_head_no := @look_head_no
theorem look_lt (ho : OrdK cmp) {k : κ} {y : κ × Val} {b : List (κ × Val)} (h : SrtK cmp (y :: b)) (hk : cmp k y.1 < 0) : look (y :: b) k = none := zC3 (not_has ho fun z hz => by
 rcases List.mem_cons.1 hz with rfl | hz
 ·exact hk
 ·exact ho.tr _ _ _ hk ((zY1.1 h).1 z hz))
theorem entK_key {A B : List (κ × Val)} {k : κ} {e : Ent κ} (h : entK A B k = some e) : e.1 = k := by
 unfold entK at h
 split at h
 ·injection h with h; subst h; rfl
 ·injection h with h; subst h; rfl
 ·cases h
theorem mem_merge (ho : OrdK cmp) : ∀ (A B : List (κ × Val)), SrtK cmp A → SrtK cmp B → ∀ e : Ent κ, e ∈ mergeE cmp A B ↔ entK A B e.1 = some e := by
 intro A B
 induction A, B using mergeE.induct cmp with
 | case1 => intro _ _ e; rw [mergeE]; simp [entK, look]
 | case2 x a ih =>
  intro ha hb e
  rw [mergeE, List.mem_cons, ih (zY1.1 ha).2 hb e]
  by_cases h : x.1 = e.1
  ·have h1 := zW5 ho ha
   unfold entK
   rw [← h, look_self, h1]
   simp [look]
   exact eq_comm
  ·unfold entK
   rw [look_tail h]
   constructor
   ·rintro (rfl | h2)
    ·exact absurd rfl h
    ·exact h2
   ·exact .inr
 | case3 y b ih =>
  intro ha hb e
  rw [mergeE, List.mem_cons, ih ha (zY1.1 hb).2 e]
  by_cases h : y.1 = e.1
  ·have h1 := zW5 ho hb
   unfold entK
   rw [← h, look_self, h1]
   simp [look]
   exact eq_comm
  ·unfold entK
   rw [look_tail h]
   constructor
   ·rintro (rfl | h2)
    ·exact absurd rfl h
    ·exact h2
   ·exact .inr
 | case4 x a y b hlt ih =>
  intro ha hb e
  rw [mergeE, if_pos hlt, List.mem_cons, ih (zY1.1 ha).2 hb e]
  by_cases h : x.1 = e.1
  ·have h1 := zW5 ho ha
   have h2 := look_lt ho hb hlt
   unfold entK
   rw [← h, look_self, h1, h2]
   simp
   exact eq_comm
  ·unfold entK
   rw [look_tail h]
   constructor
   ·rintro (rfl | h2)
    ·exact absurd rfl h
    ·exact h2
   ·exact .inr
 | case5 x a y b hlt hgt ih =>
  intro ha hb e
  rw [mergeE, if_neg hlt, if_pos hgt, List.mem_cons, ih ha (zY1.1 hb).2 e]
  by_cases h : y.1 = e.1
  ·have h1 := zW5 ho hb
   have h2 := look_lt ho ha hgt
   unfold entK
   rw [← h, look_self, h1, h2]
   simp
   exact eq_comm
  ·unfold entK
   rw [look_tail (x := y) h]
   constructor
   ·rintro (rfl | h2)
    ·exact absurd rfl h
    ·exact h2
   ·exact .inr
 | case6 x a y b hlt hgt ih =>
  intro ha hb e
  have hxy : x.1 = y.1 := ho.tot _ _ hlt hgt
  rw [mergeE, if_neg hlt, if_neg hgt, List.mem_cons, ih (zY1.1 ha).2 (zY1.1 hb).2 e]
  by_cases h : x.1 = e.1
  ·have h1 := zW5 ho ha
   have h2 := zW5 ho hb
   unfold entK
   rw [← h, look_self, h1, hxy, look_self, h2]
   simp
   exact eq_comm
  ·unfold entK
   rw [look_tail h, look_tail (x := y) (by rw [← hxy]; exact h)]
   constructor
   ·rintro (rfl | h2)
    ·exact absurd rfl h
    ·exact h2
   ·exact .inr
noncomputable def lkB (bot : Val) (A : List (κ × Val)) (k : κ) : Val := (look A k).getD bot
theorem ent_has {A B : List (κ × Val)} {k : κ} : (∃ e, entK A B k = some e) ↔ HasK A k ∨ HasK B k := by
 rw [look_has, look_has]
 unfold entK
 cases look A k with
 | some v => simp
 | none => cases look B k <;> simp
end
theorem merge_nil_r {κ : Type} {cmp : κ → κ → Int} : ∀ A : List (κ × Val), mergeE cmp A [] = A.map fun x => (x.1, x.2, none)
 | [] => by rw [mergeE]; rfl
 | x :: a => by rw [mergeE, merge_nil_r a]; rfl
theorem merge_nil_l {κ : Type} {cmp : κ → κ → Int} : ∀ A : List (κ × Val), mergeE cmp [] A = A.map fun x => (x.1, x.2, none)
 | [] => by rw [mergeE]; rfl
 | x :: a => by rw [mergeE, merge_nil_l a]; rfl
theorem goE_none {κ : Type} (f : Val → Val → Option Val) : ∀ A : List (κ × Val), goE f (A.map fun x => (x.1, x.2, none)) = some A
 | [] => rfl
 | x :: a => by rw [List.map_cons, goE, goE_none f a]; rfl
theorem nilX_both : ∀ a : List Bs, bothX [] a = a
 | [] => by rw [bothX]
 | x :: a => by rw [bothX, nilX_both a]
theorem nilX_right : ∀ a : List Bs, bothX a [] = a
 | [] => by rw [bothX]
 | x :: a => by rw [bothX, nilX_right a]
theorem seen_none {l : List (List Tk × Val)} (h : AntiK blwC l) : ((l.map fun x => ((x.1, x.2, none) : Ent (List Tk))).filter fun e => !seenE (l.map fun x => (x.1, x.2, none)) e) = l.map fun x => (x.1, x.2, none) := by
 refine List.filter_eq_self.2 fun e he => ?_
 obtain ⟨x, hx, rfl⟩ := List.mem_map.1 he
 unfold seenE
 rw [Bool.not_eq_true', List.any_eq_false]
 intro o ho hb
 obtain ⟨y, hy, rfl⟩ := List.mem_map.1 ho
 exact h x hx y hy (by simpa [blwC] using hb)
theorem large_of {s : Sch} {v : Val} (h : isVF s v = true) (h1 : v.sv.length ≤ 40) (h2 : ∀ c, v.cv = [c] → c.length ≤ 40) : largeF v = false := by
 obtain ⟨k, ins⟩ := s
 obtain ⟨n, m, s, c, w⟩ := v
 rw [zW0] at h
 simp only [Bool.and_eq_true, decide_eq_true_eq] at h
 obtain ⟨⟨⟨_, hw⟩, hc⟩, _⟩ := h
 rw [zI3]
 have h1 : s.length ≤ 40 := h1
 have h2 : c.length = 1 → (c.headD []).length ≤ 40 := fun hl => by
  match c, hl, h2 with
  | [x], _, h2 => exact h2 x rfl
 rw [Bool.or_eq_false_iff, decide_eq_false_iff_not, Bool.and_eq_false_iff, decide_eq_false_iff_not, decide_eq_false_iff_not]
 refine ⟨by omega, ?_⟩
 by_cases hl : c.length = 1
 ·right; have := h2 hl; omega
 ·exact .inl hl
theorem _root_.zK6 : type_of% @large_of := @large_of
theorem cap_of {o : Option Val} {v : Val} (h : o = some v) (hl : largeF v = false) : capF o = some v := by subst h; exact capF_f hl
theorem _root_.zL6 : type_of% @cap_of := @cap_of
theorem both_bot : ∀ (d : Nat) (s : Sch), isF d s = true → d ≤ 16 → ∀ x : Val, okV x → isVF s x = true → bothF s x (bottomF s) = some x ∧ bothF s (bottomF s) x = some x
 | 0, s, h => by simp [isF] at h
 | d + 1, .mk k ins, h => by
  have h0 := h
  rw [isF] at h
  simp only [Bool.and_eq_true, List.all_eq_true, beq_iff_eq] at h
  rintro hd x ho hv
  have hlv := zE6 (d + 1) (.mk k ins) h0 hd x ho hv
  have hv0 := hv
  rw [LV_mk] at hlv
  rw [zH3, zH3, zX4]
  rcases k8_of h.1 with rfl | rfl | rfl | rfl | rfl | rfl | rfl | rfl
  ·obtain ⟨n, rfl, hn⟩ := hlv
   have hl : largeF (.mk n 0 [] [] []) = false := zK6 hv (by simp [Val.sv]) (by simp [Val.cv])
   have e1 : max n 0 = n := by have := hn.1; omega
   have e2 : max 0 n = n := by have := hn.1; omega
   exact ⟨zL6 (by show some (Val.mk (max n 0) 0 [] [] []) = _; rw [e1]) hl, zL6 (by show some (Val.mk (max 0 n) 0 [] [] []) = _; rw [e2]) hl⟩
  ·obtain ⟨n, rfl, hn⟩ := hlv
   have hl : largeF (.mk n 0 [] [] []) = false := zK6 hv (by simp [Val.sv]) (by simp [Val.cv])
   have e1 : max n 0 = n := by have := hn.1; omega
   have e2 : max 0 n = n := by have := hn.1; omega
   exact ⟨zL6 (by show some (Val.mk (max n 0) 0 [] [] []) = _; rw [e1]) hl, zL6 (by show some (Val.mk (max 0 n) 0 [] [] []) = _; rw [e2]) hl⟩
  ·obtain ⟨s, rfl, hs⟩ := hlv
   rw [zW0 3] at hv
   simp only [Bool.and_eq_true] at hv
   have hl : largeF (.mk 0 0 s [] []) = false := zK6 hv0 (show s.length ≤ 40 from (zP3.1 (by simpa using hv.2)).1) (by simp [Val.cv])
   exact ⟨zL6 (by show some (Val.mk 0 0 (bothX s []) [] []) = _; rw [nilX_right]) hl, zL6 (by show some (Val.mk 0 0 (bothX [] s) [] []) = _; rw [nilX_both]) hl⟩
  ·obtain ⟨l, rfl, hr⟩ := hlv
   have hv : isVF (.mk 4 ins) (.mk 0 0 (l.map (·.1)) [] (l.map (·.2))) = true := hv
   rw [zW0 4] at hv
   simp only [Bool.and_eq_true] at hv
   have hl : largeF (mapL l) = false := zK6 hv0 (show (l.map (·.1)).length ≤ 40 from (zP3.1 (by have := hv.2; simp at this; exact this.1)).1) (by simp [mapL, Val.cv])
   refine ⟨zL6 ?_ hl, zL6 ?_ hl⟩
   ·show mapsF _ _ _ = _
    unfold mapsF mergedX
    rw [if_neg (by decide), zZ2, show entX noV = [] from rfl, merge_nil_r, goE_none]
    rfl
   ·show mapsF _ _ _ = _
    unfold mapsF mergedX
    rw [if_neg (by decide), zZ2, show entX noV = [] from rfl, merge_nil_l, goE_none]
    rfl
  ·obtain ⟨t1, t2, rfl⟩ := zQ5 h.1
   rw [show LVL [t1, t2] = [LV t1, LV t2] by simp [LVL]] at hlv
   obtain ⟨x, y, rfl, hx, hy⟩ := hlv
   have o := zW2.1 ho
   rw [zW0 5] at hv
   simp only [Bool.and_eq_true] at hv
   have hxy : isVF t1 x = true ∧ isVF t2 y = true := by simpa [isVL] using hv.2
   obtain ⟨a1, a2⟩ := both_bot d t1 (h.2 _ (by simp)) (by omega) x (o.2.2.2 _ (by simp)) hxy.1
   obtain ⟨b1, b2⟩ := both_bot d t2 (h.2 _ (by simp)) (by omega) y (o.2.2.2 _ (by simp)) hxy.2
   have hl : largeF (.mk 0 0 [] [] [x, y]) = false := zK6 hv0 (by simp [Val.sv]) (by simp [Val.cv])
   rw [if_pos rfl, zN2, bothL_eq]
   refine ⟨zL6 ?_ hl, zL6 ?_ hl⟩
   ·show pairF2 _ _ _ = _
    simp [pairF2, Val.vv, goP, a1, b1]
   ·show pairF2 _ _ _ = _
    simp [pairF2, Val.vv, goP, a2, b2]
  ·have hlv : isLV x = true := hlv.1
   have hl : largeF x = false := by
    rcases lv_form hlv with rfl | ⟨n, m, t, rfl, _⟩
    ·exact zK6 hv (by simp [noV, Val.sv]) (by simp [noV, Val.cv])
    ·exact zK6 hv (by simp [Val.sv]) (by simp [Val.cv])
   exact ⟨zL6 (by show some (laterF x noV) = _; rw [later_no_r hlv]) hl, zL6 (by show some (laterF noV x) = _; rw [later_no]) hl⟩
  ·obtain ⟨c, rfl, hc⟩ := hlv
   have hl : largeF (clkW c) = false := by
    by_cases he : c = []
    ·subst he; exact zK6 hv0 (by simp [clkW, noV, Val.sv]) (by simp [clkW, noV, Val.cv])
    ·rw [zA3 he] at hv0 ⊢
     refine zK6 hv0 (by simp [Val.sv]) fun c' e => ?_
     simp [Val.cv] at e
     subst e
     rw [zW0 7] at hv0
     simp only [Bool.and_eq_true] at hv0
     have o := zW2.1 (by rw [zA3 he] at ho; exact ho)
     have hq : 0 < c.length ∧ isClockF c = true := by simpa using hv0.2
     exact ((zI5 (o.2.2.1 c (by simp))).1 hq.2).2
   refine ⟨zL6 ?_ hl, zL6 ?_ hl⟩
   ·show some (clocksF (clkW c) noV) = _
    rw [← clkW_nil, zT2, join_nil]
   ·show some (clocksF noV (clkW c)) = _
    rw [← clkW_nil, zT2, nil_join]
  ·obtain ⟨l, rfl, hr⟩ := hlv
   have hl : largeF (cauL l) = false := zK6 hv0 (by simp [cauL, Val.sv]) fun c e => by
    have : c ∈ (cauL l).cv := by rw [e]; simp
    obtain ⟨x, hx, rfl⟩ := List.mem_map.1 this
    exact hr.len x hx
   refine ⟨zL6 ?_ hl, zL6 ?_ hl⟩
   ·show causesF _ _ _ = _
    unfold causesF mergedC
    rw [if_neg (by decide), zO3, show entC noV = [] from rfl, merge_nil_r, seen_none hr.anti, goE_none]
    rfl
   ·show causesF _ _ _ = _
    unfold causesF mergedC
    rw [if_neg (by decide), zO3, show entC noV = [] from rfl, merge_nil_l, seen_none hr.anti, goE_none]
    rfl
theorem has_keys {κ : Type} {l : List (κ × Val)} {k : κ} : HasK l k ↔ k ∈ l.map (·.1) := by
 unfold HasK
 rw [List.mem_map]
theorem _root_.zZ3 : type_of% @has_keys := @has_keys
theorem keys_merge {f : Val → Val → Val} {A B : List (Bs × Val)} (ha : SrtK cmpX A) (hb : SrtK cmpX B) : (mergeG cmpX f A B).map (·.1) = bothX (A.map (·.1)) (B.map (·.1)) :=
 up_ext (srt_up (zN3 ordX f A B ha hb)) (zM6 _ _ (srt_up ha) (srt_up hb)) fun z => by
  rw [← zZ3, merge_has ordX, zG3, zZ3, zZ3]
theorem list_look {κ : Type} {cmp : κ → κ → Int} (ho : OrdK cmp) {l : List (κ × Val)} (h : SrtK cmp l) (g : κ → Val) (hg : ∀ k v, look l k = some v → v = g k) : l = (l.map (·.1)).map fun k => (k, g k) := by
 rw [List.map_map]
 refine (List.map_id l).symm.trans (List.map_congr_left fun e he => ?_)
 have := hg e.1 e.2 (zK3 ho h he)
 show e = (e.1, g e.1)
 rw [← this]
section
variable {P : Val → Prop} {f : Val → Val → Val} {b : Val}
theorem comb_lk (hf : SemiB P f b) {A B : List (Bs × Val)} (pa : AllV P A) (pb : AllV P B) {k : Bs} {v : Val} (h : comb f (look A k) (look B k) = some v) : v = f (lkB b A k) (lkB b B k) := by
 unfold lkB
 cases ha : look A k with
 | none =>
  cases hb : look B k with
  | none => rw [ha, hb] at h; cases h
  | some w =>
   rw [ha, hb] at h
   have e : w = v := Option.some.inj h
   subst e
   have hw := zD3 pb hb
   show w = f b w
   rw [hf.comm b w hf.bot hw, hf.neut w hw]
 | some u =>
  cases hb : look B k with
  | none =>
   rw [ha, hb] at h
   have e : u = v := Option.some.inj h
   subst e
   exact (hf.neut u (zD3 pa ha)).symm
  | some w =>
   rw [ha, hb] at h
   exact (Option.some.inj h).symm
theorem map_doc (hf : SemiB P f b) {A B : List (Bs × Val)} (ha : SrtK cmpX A) (hb : SrtK cmpX B) (pa : AllV P A) (pb : AllV P B) : mergeG cmpX f A B = (bothX (A.map (·.1)) (B.map (·.1))).map fun k => (k, f (lkB b A k) (lkB b B k)) := by
 rw [← keys_merge (f := f) ha hb]
 refine list_look ordX (zN3 ordX f A B ha hb) _ fun k v h => ?_
 rw [zL3 ordX f A B ha hb] at h
 exact comb_lk hf pa pb h
end
theorem map_ok {t : Sch} {A B : List (Bs × Val)} (ha : SrtK cmpX A) (hb : SrtK cmpX B) (na : ∀ e ∈ A, bothF t e.2 (bottomF t) = some e.2) (nb : ∀ e ∈ B, bothF t (bottomF t) e.2 = some e.2) :
  okJ (.mk 4 [t]) (mapL A) (mapL B) = (decide ((bothX (A.map (·.1)) (B.map (·.1))).length ≤ 40) && (bothX (A.map (·.1)) (B.map (·.1))).all fun k => okJ t (lkB (bottomF t) A k) (lkB (bottomF t) B k)) := by
 have hg : (goE (bothF t) (mergeE cmpX A B)).isSome = (bothX (A.map (·.1)) (B.map (·.1))).all fun k => okJ t (lkB (bottomF t) A k) (lkB (bottomF t) B k) := by
  rw [goE_some, zF, List.all_eq_true, List.all_eq_true]
  have hok : ∀ e, entK A B e.1 = some e → (ofE (bothF t) e).isSome = okJ t (lkB (bottomF t) A e.1) (lkB (bottomF t) B e.1) := by
   rintro ⟨k, v, y⟩ h
   unfold entK at h
   unfold okJ lkB ofE
   cases hA : look A k with
   | some u =>
    rw [hA] at h
    injection h with h
    injection h with _ h
    injection h with h1 h2
    subst h1
    rw [← h2]
    cases hB : look B k with
    | some w => rfl
    | none =>
     show true = (bothF t u (bottomF t)).isSome
     rw [na _ (zJ3 hA)]
     rfl
   | none =>
    rw [hA] at h
    cases hB : look B k with
    | some w =>
     rw [hB] at h
     injection h with h
     injection h with _ h
     injection h with h1 h2
     subst h1 h2
     show true = (bothF t (bottomF t) w).isSome
     rw [nb _ (zJ3 hB)]
     rfl
    | none => rw [hB] at h; cases h
  constructor
  ·intro h k hk
   rw [zG3, ← zZ3, ← zZ3] at hk
   obtain ⟨e, he⟩ := ent_has.2 hk
   have hek := entK_key he
   subst hek
   rw [← hok e he]
   exact h e ((mem_merge ordX A B ha hb e).2 he)
  ·intro h e he
   have he2 := (mem_merge ordX A B ha hb e).1 he
   rw [hok e he2]
   refine h e.1 ?_
   rw [zG3, ← zZ3, ← zZ3]
   exact ent_has.1 ⟨e, he2⟩
 rw [← hg]
 unfold okJ
 rw [zH3, show bothB 4 (bothL [t]) (mapL A) (mapL B) = mapsF (bothF t) (mapL A) (mapL B) by rw [bothL_eq]; rfl]
 unfold mapsF mergedX
 rw [zZ2, zZ2]
 cases hx : goE (bothF t) (mergeE cmpX A B) with
 | none => simp [capF]
 | some x =>
  have hl := goE_len hx
  have hml : (mergeE cmpX A B).length = (bothX (A.map (·.1)) (B.map (·.1))).length := by
   rw [← keys_merge (f := fun x _ => x) ha hb]
   simp [mergeG]
  simp only [Option.map_some, capF, Option.bind_some, Option.isSome_some, Bool.and_true]
  rw [zI3]
  simp only [zC, List.length_nil, Nat.max_zero, hl, hml]
  by_cases hq : (bothX (A.map (·.1)) (B.map (·.1))).length ≤ 40
  ·rw [if_neg (by simp; omega), decide_eq_true hq]; rfl
  ·rw [if_pos (by simp; omega), decide_eq_false hq]; rfl
end
abbrev CE := List Tk × Val
def below (cs : List (List Tk)) (c : List Tk) : Bool := cs.any fun o => decide (cmpF c o = -1)
def insC (E : List CE) (e : CE) : List CE := E.takeWhile (fun x => aheadF x.1 e.1) ++ e :: E.dropWhile fun x => aheadF x.1 e.1
def stepC (f : Val → Val → Val) (cs : List (List Tk)) (E : List CE) (e : CE) : List CE :=
 if below cs e.1 = true then E else if e.1 ∈ E.map (·.1) then E.map fun x => if x.1 = e.1 then (x.1, f x.2 e.2) else x else insC E e
noncomputable def okC1 (g : Val → Val → Bool) (cs : List (List Tk)) (E : List CE) (e : CE) : Bool := below cs e.1 || match look E e.1 with | some v => g v e.2 | none => true
noncomputable def okC (f : Val → Val → Val) (g : Val → Val → Bool) (cs : List (List Tk)) : List CE → List CE → Bool
 | _, [] => true
 | E, e :: l => okC1 g cs E e && okC f g cs (stepC f cs E e) l
theorem ahead_lt {a b : List Tk} : aheadF a b = true ↔ byTicksF a b < 0 := by rw [ticks_ahead, decide_eq_true_eq]
theorem look_app {κ : Type} : ∀ (a b : List (κ × Val)) (k : κ), look (a ++ b) k = match look a k with | some v => some v | none => look b k
 | [], b, k => rfl
 | x :: a, b, k => by
  rw [List.cons_append, zK2, zK2]
  by_cases h : x.1 = k
  ·rw [if_pos h, if_pos h]
  ·rw [if_neg h, if_neg h, look_app a b k]
theorem ins_srt {E : List CE} (hs : SrtK byTicksF E) (e : CE) (hn : e.1 ∉ E.map (·.1)) : SrtK byTicksF (insC E e) := by
 unfold insC
 have hd : ∀ (l : List CE), SrtK byTicksF l → ∀ y ∈ l.dropWhile (fun x => aheadF x.1 e.1), ¬ byTicksF y.1 e.1 < 0 := by
  intro l
  induction l with
  | nil => intro _ y hy; cases hy
  | cons x l ih =>
   intro hl y hy
   rw [List.dropWhile_cons] at hy
   by_cases h : aheadF x.1 e.1 = true
   ·rw [if_pos h] at hy
    exact ih (zY1.1 hl).2 y hy
   ·rw [if_neg h] at hy
    rcases List.mem_cons.1 hy with rfl | hy
    ·rwa [ahead_lt] at h
    ·intro h2
     exact h (ahead_lt.2 (ordT.tr _ _ _ ((zY1.1 hl).1 y hy) h2))
 have ht : ∀ y ∈ E.takeWhile (fun x => aheadF x.1 e.1), byTicksF y.1 e.1 < 0 := fun y hy => ahead_lt.1 (List.all_eq_true.1 List.all_takeWhile y hy)
 have hdl : ∀ y ∈ E.dropWhile (fun x => aheadF x.1 e.1), byTicksF e.1 y.1 < 0 := fun y hy => by
  rcases ticks_tot e.1 y.1 with q | q | q
  ·exact q
  ·have hm : y ∈ E := (List.dropWhile_sublist _).mem hy
   exact absurd (List.mem_map.2 ⟨y, hm, q.symm⟩) hn
  ·exact absurd q (hd E hs y hy)
 have hE : E = E.takeWhile (fun x => aheadF x.1 e.1) ++ E.dropWhile (fun x => aheadF x.1 e.1) := List.takeWhile_append_dropWhile.symm
 have h1 : SrtK byTicksF (E.takeWhile (fun x => aheadF x.1 e.1)) := hs.sublist (List.takeWhile_sublist _)
 have h2 : SrtK byTicksF (E.dropWhile (fun x => aheadF x.1 e.1)) := hs.sublist (List.dropWhile_sublist _)
 refine List.pairwise_append.2 ⟨h1, zI1.2 ⟨hdl, h2⟩, fun a ha b hb => ?_⟩
 rcases List.mem_cons.1 hb with rfl | hb
 ·exact ht a ha
 ·exact ordT.tr _ _ _ (ht a ha) (hdl b hb)
theorem ins_look {E : List CE} (e : CE) (hn : e.1 ∉ E.map (·.1)) (k : List Tk) : look (insC E e) k = if k = e.1 then some e.2 else look E k := by
 unfold insC
 have hE : look E k = look (E.takeWhile (fun x => aheadF x.1 e.1) ++ E.dropWhile (fun x => aheadF x.1 e.1)) k := by rw [List.takeWhile_append_dropWhile]
 rw [look_app] at hE
 rw [look_app, zK2]
 by_cases h : k = e.1
 ·subst h
  have : look (E.takeWhile (fun x => aheadF x.1 e.1)) e.1 = none := zC3 fun ⟨y, hy, hy2⟩ => hn (List.mem_map.2 ⟨y, (List.takeWhile_sublist _).mem hy, hy2⟩)
  rw [this, if_pos rfl, if_pos rfl]
 ·rw [if_neg h, if_neg (fun h2 => h h2.symm), hE]
theorem tw_look {f : Val → Val → Val} (e : CE) : ∀ (E : List CE) (k : List Tk), look (E.map fun x => if x.1 = e.1 then (x.1, f x.2 e.2) else x) k = if k = e.1 then (look E k).map (fun v => f v e.2) else look E k
 | [], k => by simp [look]
 | x :: E, k => by
  rw [List.map_cons, zK2, zK2, tw_look e E k]
  by_cases h1 : x.1 = e.1
  ·rw [if_pos h1]
   by_cases h2 : x.1 = k
   ·have h3 : k = e.1 := h2.symm.trans h1
    simp [h2, h3]
   ·simp [h2]
  ·rw [if_neg h1]
   by_cases h2 : x.1 = k
   ·have h3 : ¬ k = e.1 := fun q => h1 (h2.trans q)
    simp [h2, h3]
   ·simp [h2]
theorem tw_keys {f : Val → Val → Val} (e : CE) (E : List CE) : (E.map fun x => if x.1 = e.1 then (x.1, f x.2 e.2) else x).map (·.1) = E.map (·.1) := by
 rw [List.map_map]
 refine List.map_congr_left fun x _ => ?_
 show (if x.1 = e.1 then (x.1, f x.2 e.2) else x).1 = x.1
 split <;> rfl
theorem srt_iff_keys {κ : Type} {cmp : κ → κ → Int} {E E2 : List (κ × Val)} (h : E.map (·.1) = E2.map (·.1)) (hs : SrtK cmp E) : SrtK cmp E2 := by
 have h1 : (E.map (·.1)).Pairwise fun x y => cmp x y < 0 := List.pairwise_map.2 hs
 rw [h] at h1
 exact List.pairwise_map.1 h1
theorem step_srt {f : Val → Val → Val} {cs : List (List Tk)} {E : List CE} (hs : SrtK byTicksF E) (e : CE) : SrtK byTicksF (stepC f cs E e) := by
 unfold stepC
 split
 ·exact hs
 ·split
  ·exact srt_iff_keys (tw_keys e E).symm hs
  ·rename_i hn; exact ins_srt hs e hn
theorem step_look {f : Val → Val → Val} {cs : List (List Tk)} {E : List CE} (e : CE) (k : List Tk) : look (stepC f cs E e) k = if k = e.1 ∧ ¬ below cs e.1 = true then comb f (look E e.1) (some e.2) else look E k := by
 unfold stepC
 by_cases hb : below cs e.1 = true
 ·rw [if_pos hb, if_neg (fun h => h.2 hb)]
 ·rw [if_neg hb]
  by_cases hn : e.1 ∈ E.map (·.1)
  ·rw [if_pos hn, tw_look]
   by_cases hk : k = e.1
   ·subst hk
    rw [if_pos rfl, if_pos ⟨rfl, hb⟩]
    obtain ⟨v, hv⟩ := look_has.1 (zZ3.2 hn)
    rw [hv]; rfl
   ·rw [if_neg hk, if_neg (fun h => hk h.1)]
  ·rw [if_neg hn, ins_look e hn]
   by_cases hk : k = e.1
   ·subst hk
    rw [if_pos rfl, if_pos ⟨rfl, hb⟩, zC3 (fun h => hn (zZ3.1 h))]; rfl
   ·rw [if_neg hk, if_neg (fun h => hk h.1)]
theorem fold_srt {f : Val → Val → Val} {cs : List (List Tk)} : ∀ (L E : List CE), SrtK byTicksF E → SrtK byTicksF (L.foldl (stepC f cs) E)
 | [], E, h => h
 | e :: L, E, h => fold_srt L _ (step_srt h e)
theorem fold_look {f : Val → Val → Val} {cs : List (List Tk)} : ∀ (L E : List CE), SrtK byTicksF L → ∀ k, look (L.foldl (stepC f cs) E) k = if below cs k = true then look E k else comb f (look E k) (look L k)
 | [], E, _, k => by
  show look E k = _
  rw [show look ([] : List CE) k = none from rfl, zS6]
  split <;> rfl
 | e :: L, E, h, k => by
  have ih := fold_look (f := f) (cs := cs) L (stepC f cs E e) (zY1.1 h).2 k
  rw [List.foldl_cons, ih, step_look, zK2]
  by_cases hb : below cs k = true
  ·rw [if_pos hb, if_pos hb, if_neg]
   rintro ⟨rfl, h2⟩
   exact h2 hb
  ·rw [if_neg hb, if_neg hb]
   by_cases hk : k = e.1
   ·subst hk
    rw [if_pos ⟨rfl, hb⟩, if_pos rfl, zW5 ordT h, zS6]
   ·rw [if_neg (fun h => hk h.1), if_neg (fun h => hk h.symm)]
theorem okC_all {f : Val → Val → Val} {g : Val → Val → Bool} {cs : List (List Tk)} : ∀ (L E : List CE), SrtK byTicksF L → okC f g cs E L = L.all (okC1 g cs E)
 | [], E, _ => rfl
 | e :: L, E, h => by
  rw [okC, List.all_cons, okC_all L _ (zY1.1 h).2]
  congr 1
  rw [zF, List.all_eq_true, List.all_eq_true]
  refine forall_congr' fun x => forall_congr' fun hx => ?_
  have hne : ¬ x.1 = e.1 := fun hh => ordT.irr e.1 (by have := (zY1.1 h).1 x hx; rwa [hh] at this)
  unfold okC1
  rw [step_look, if_neg (fun h => hne h.1)]
theorem below_dead {A B : List CE} {k : List Tk} : below (A.map (·.1) ++ B.map (·.1)) k = true ↔ Dead blwC (Or2 A B) k := by
 unfold below Dead Or2 blwC
 rw [List.any_eq_true]
 constructor
 ·rintro ⟨o, ho, hc⟩
  refine ⟨o, ?_, by simpa using hc⟩
  rcases zJ1.1 ho with h | h
  ·exact .inl (zZ3.2 h)
  ·exact .inr (zZ3.2 h)
 ·rintro ⟨o, h | h, hc⟩
  ·exact ⟨o, zJ1.2 (.inl (zZ3.1 h)), by simpa using hc⟩
  ·exact ⟨o, zJ1.2 (.inr (zZ3.1 h)), by simpa using hc⟩
theorem cause_doc {f : Val → Val → Val} {A B : List CE} (ha : SrtK byTicksF A) (hb : SrtK byTicksF B) : (A ++ B).foldl (stepC f (A.map (·.1) ++ B.map (·.1))) [] = topG byTicksF blwC f A B := by
 rw [List.foldl_append]
 refine look_ext ordT (fold_srt _ _ (fold_srt _ _ List.Pairwise.nil)) (top_srt ordT ha hb) fun k => ?_
 rw [fold_look B _ hb, fold_look A _ ha, look_top ordT ha hb]
 have hd := below_dead (A := A) (B := B) (k := k)
 by_cases h : below (A.map (·.1) ++ B.map (·.1)) k = true
 ·rw [if_pos h, if_pos h, if_pos (hd.1 h)]; rfl
 ·rw [if_neg h, if_neg h, if_neg (fun q => h (hd.2 q))]
  congr 1
theorem okC_append {f : Val → Val → Val} {g : Val → Val → Bool} {cs : List (List Tk)} : ∀ (A B E : List CE), okC f g cs E (A ++ B) = (okC f g cs E A && okC f g cs (A.foldl (stepC f cs) E) B)
 | [], B, E => by simp [okC]
 | e :: A, B, E => by rw [List.cons_append, okC, okC, okC_append A B, Bool.and_assoc]; rfl
theorem okC_doc {f : Val → Val → Val} {g : Val → Val → Bool} {A B : List CE} (ha : SrtK byTicksF A) (hb : SrtK byTicksF B) :
  okC f g (A.map (·.1) ++ B.map (·.1)) [] (A ++ B) = B.all fun e => below (A.map (·.1) ++ B.map (·.1)) e.1 || match look A e.1 with | some v => g v e.2 | none => true := by
 rw [okC_append, okC_all A _ ha, okC_all B _ hb]
 have h1 : A.all (okC1 g (A.map (·.1) ++ B.map (·.1)) []) = true := List.all_eq_true.2 fun e _ => by unfold okC1; simp [look]
 rw [h1, Bool.true_and]
 rw [zF, List.all_eq_true, List.all_eq_true]
 refine forall_congr' fun x => forall_congr' fun hx => ?_
 unfold okC1
 rw [fold_look A _ ha]
 by_cases h : below (A.map (·.1) ++ B.map (·.1)) x.1 = true
 ·rw [h]; simp
 ·rw [if_neg h]
  have : comb f (look ([] : List CE) x.1) (look A x.1) = look A x.1 := by cases look A x.1 <;> rfl
  rw [this]
theorem goE_keys {κ : Type} {f : Val → Val → Option Val} : ∀ {l : List (Ent κ)} {x : List (κ × Val)}, goE f l = some x → x.map (·.1) = l.map (·.1)
 | [], x, h => by simp [goE] at h; simp [h]
 | e :: l, x, h => by
  rw [goE] at h
  cases ho : ofE f e with
  | none => rw [ho] at h; cases h
  | some v =>
   rw [ho] at h
   cases hg : goE f l with
   | none => rw [hg] at h; cases h
   | some y =>
    rw [hg] at h
    injection h with h
    rw [← h, List.map_cons, List.map_cons, goE_keys hg]
theorem cause_ok {t : Sch} {A B : List CE} (ha : SrtK byTicksF A) (hb : SrtK byTicksF B) (la : ∀ e ∈ A, e.1.length ≤ 40) (lb : ∀ e ∈ B, e.1.length ≤ 40) :
  okJ (.mk 8 [t]) (cauL A) (cauL B) = ((B.all fun e => below (A.map (·.1) ++ B.map (·.1)) e.1 || match look A e.1 with | some v => okJ t v e.2 | none => true) && decide ((topG byTicksF blwC (jn t) A B).length ≤ 40)) := by
 have hseen : ∀ e ∈ mergeE byTicksF A B, seenE (mergeE byTicksF A B) e = below (A.map (·.1) ++ B.map (·.1)) e.1 := fun e _ => by
  unfold seenE below
  rw [zF, List.any_eq_true, List.any_eq_true]
  have hk : ∀ k, (∃ o ∈ mergeE byTicksF A B, o.1 = k) ↔ k ∈ A.map (·.1) ++ B.map (·.1) := fun k => by
   rw [zJ1, ← zZ3, ← zZ3, ← merge_has (f := fun x _ => x) ordT]
   unfold HasK mergeG
   constructor
   ·rintro ⟨o, ho, rfl⟩; exact ⟨_, List.mem_map.2 ⟨o, ho, rfl⟩, rfl⟩
   ·rintro ⟨o, ho, rfl⟩
    obtain ⟨q, hq, rfl⟩ := List.mem_map.1 ho
    exact ⟨q, hq, rfl⟩
  constructor
  ·rintro ⟨o, ho, hc⟩; exact ⟨o.1, (hk _).1 ⟨o, ho, rfl⟩, hc⟩
  ·rintro ⟨k, hkm, hc⟩
   obtain ⟨o, ho, rfl⟩ := (hk _).2 hkm
   exact ⟨o, ho, hc⟩
 have hfil : ((mergeE byTicksF A B).filter fun e => !seenE (mergeE byTicksF A B) e) = (mergeE byTicksF A B).filter fun e => !below (A.map (·.1) ++ B.map (·.1)) e.1 := List.filter_congr fun e he => by rw [hseen e he]
 have hlen : ((mergeE byTicksF A B).filter fun e => !below (A.map (·.1) ++ B.map (·.1)) e.1).length = (topG byTicksF blwC (jn t) A B).length := by
  rw [← top_eq, zC, hfil]
 have hg : (goE (bothF t) ((mergeE byTicksF A B).filter fun e => !below (A.map (·.1) ++ B.map (·.1)) e.1)).isSome = (B.all fun e => below (A.map (·.1) ++ B.map (·.1)) e.1 || match look A e.1 with | some v => okJ t v e.2 | none => true) := by
  rw [goE_some, zF, List.all_eq_true, List.all_eq_true]
  constructor
  ·intro h e he
   by_cases hbl : below (A.map (·.1) ++ B.map (·.1)) e.1 = true
   ·rw [hbl]; rfl
   ·cases hA : look A e.1 with
    | none => simp
    | some v =>
     have hB := zK3 ordT hb he
     have hm : ((e.1, v, some e.2) : Ent (List Tk)) ∈ mergeE byTicksF A B := (mem_merge ordT A B ha hb _).2 (by unfold entK; rw [hA, hB])
     have := h _ (List.mem_filter.2 ⟨hm, by simpa using hbl⟩)
     simp only [Bool.or_eq_true]
     exact .inr this
  ·intro h e he
   obtain ⟨hm, hbl⟩ := List.mem_filter.1 he
   have he2 := (mem_merge ordT A B ha hb e).1 hm
   obtain ⟨k, v, y⟩ := e
   cases y with
   | none => rfl
   | some w =>
    unfold entK at he2
    cases hA : look A k with
    | none =>
     rw [hA] at he2
     cases hB : look B k with
     | none => rw [hB] at he2; cases he2
     | some q => rw [hB] at he2; injection he2 with he2; injection he2 with _ he2; injection he2 with _ he2; cases he2
    | some q =>
     rw [hA] at he2
     injection he2 with he2
     injection he2 with _ he2
     injection he2 with e1 e2
     subst e1
     have := h (k, w) (zJ3 e2)
     simp only [hA] at this
     have hbl : below (A.map (·.1) ++ B.map (·.1)) k = false := by simpa using hbl
     rw [hbl, Bool.false_or] at this
     exact this
 rw [← hg, ← hlen]
 unfold okJ
 rw [zH3, show bothB 8 (bothL [t]) (cauL A) (cauL B) = causesF (bothF t) (cauL A) (cauL B) by rw [bothL_eq]; rfl]
 unfold causesF mergedC
 rw [zO3, zO3, hfil]
 cases hx : goE (bothF t) ((mergeE byTicksF A B).filter fun e => !below (A.map (·.1) ++ B.map (·.1)) e.1) with
 | none => simp [capF]
 | some x =>
  have hl := goE_len hx
  simp only [Option.map_some, capF, Option.bind_some, Option.isSome_some, Bool.true_and]
  rw [zI3]
  simp only [zC, List.length_nil, Nat.zero_max, hl, Nat.max_self]
  have hc : (decide (((mergeE byTicksF A B).filter fun e => !below (A.map (·.1) ++ B.map (·.1)) e.1).length = 1) && decide (40 < ((x.map (·.1)).headD []).length)) = false := by
   rw [Bool.and_eq_false_iff, decide_eq_false_iff_not, decide_eq_false_iff_not]
   by_cases h1 : ((mergeE byTicksF A B).filter fun e => !below (A.map (·.1) ++ B.map (·.1)) e.1).length = 1
   ·right
    have hxk : x.map (·.1) = ((mergeE byTicksF A B).filter fun e => !below (A.map (·.1) ++ B.map (·.1)) e.1).map (·.1) := goE_keys hx
    rw [hxk]
    obtain ⟨e, he1⟩ := List.length_eq_one_iff.1 h1
    have he : e ∈ mergeE byTicksF A B := (List.mem_filter.1 (by rw [he1]; simp)).1
    rw [he1]
    show ¬ 40 < e.1.length
    rcases (zZ5 byTicksF A B e he).1 with h | h
    ·have := la _ h
     show ¬ 40 < e.1.length
     simp at this
     omega
    ·have := lb _ h
     simp at this
     omega
   ·exact .inl h1
  rw [hc, Bool.or_false]
  by_cases hq : ((mergeE byTicksF A B).filter fun e => !below (A.map (·.1) ++ B.map (·.1)) e.1).length ≤ 40
  ·rw [if_neg (by simp; omega), decide_eq_true hq]; rfl
  ·rw [if_pos (by simp; omega), decide_eq_false hq]; rfl
end Go.Proofs.YtnfcnpdpfgcchaaGreat
