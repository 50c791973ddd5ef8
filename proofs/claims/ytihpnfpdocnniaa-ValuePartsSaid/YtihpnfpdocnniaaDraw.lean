/-
  The rule for a region that draws its order and leaves the state alone. No program.
-/
import Derived.Test.YtihpnfpdocnniaaFn
set_option linter.unusedVariables false
set_option linter.unusedSimpArgs false
namespace Go.MV
open Go Go.RowKit

def opTmps (l : List Operand) : List Nat := l.filterMap fun | .tmp t => some t | _ => none
def readsOf (ops : Array Oper) (o : Oper) : List Nat :=
  opTmps o.op.operands.toList ++ (match o.guard with | some (j, _) => ((ops[j]?).bind (·.dst)).toList | none => [])
def natMem (x : Nat) : List Nat → Bool
  | [] => false
  | y :: l => match Nat.beq x y with | true => true | false => natMem x l
def nodupB : List Nat → Bool
  | [] => true
  | x :: l => !natMem x l && nodupB l
def lexAt (ops : Array Oper) (i : Nat) (o : Oper) : Bool :=
  o.after.toList.all (fun e => !Region.binds .any e || Nat.blt e.on i) &&
  (readsOf ops o).all fun t => ops.toList.zipIdx.all fun p =>
    match p.1.dst with
    | some d => !Nat.beq d t || (Nat.blt p.2 i && o.after.toList.any fun e => Region.binds .any e && Nat.beq e.on p.2) || (Nat.blt i p.2 && p.1.after.toList.any fun e => Region.binds .any e && Nat.beq e.on i) || (Nat.beq i p.2 && !natMem t (match o.guard with | some (j, _) => ((ops[j]?).bind (·.dst)).toList | none => []))
    | none => true
def lexOk (n : Nat) (ops : Array Oper) : Bool := dstsOk n ops && nodupB (ops.toList.filterMap (·.dst)) && ops.toList.zipIdx.all fun p => lexAt ops p.2 p.1

theorem natMem_iff {x : Nat} : ∀ {l : List Nat}, natMem x l = true ↔ x ∈ l
  | [] => by simp [natMem]
  | y :: l => by
    simp only [natMem]
    cases h : Nat.beq x y with
    | true => simp [Nat.eq_of_beq_eq_true h]
    | false =>
      have : x ≠ y := fun e => by subst e; rw [Nat.beq_refl] at h; cases h
      simp [natMem_iff, this]
theorem nodupB_iff : ∀ {l : List Nat}, nodupB l = true → l.Nodup
  | [], _ => List.nodup_nil
  | x :: l, h => by
    simp only [nodupB, Bool.and_eq_true, Bool.not_eq_true'] at h
    refine List.nodup_cons.2 ⟨fun hm => ?_, nodupB_iff h.2⟩
    rw [natMem_iff.2 hm] at h
    exact absurd h.1 (by simp)

structure LexS (n : Nat) (ops : Array Oper) : Prop where
  lt : ∀ (i : Nat) (o : Oper) (d : Nat), ops[i]? = some o → o.dst = some d → d < n
  inj : ∀ (i j : Nat) (o p : Oper) (d : Nat), ops[i]? = some o → ops[j]? = some p → o.dst = some d → p.dst = some d → i = j
  back : ∀ (i : Nat) (o : Oper) (e : Edge), ops[i]? = some o → e ∈ o.after → Region.binds .any e = true → e.on < i
  dep : ∀ (i j : Nat) (o p : Oper) (t : Nat), ops[i]? = some o → ops[j]? = some p → t ∈ readsOf ops o → p.dst = some t → (j < i ∧ ∃ e ∈ o.after, Region.binds .any e = true ∧ e.on = j) ∨ (i < j ∧ ∃ e ∈ p.after, Region.binds .any e = true ∧ e.on = i) ∨ i = j

theorem nodup_filterMap_inj : ∀ (l : List Oper), (l.filterMap (·.dst)).Nodup → ∀ (i j : Nat) (o p : Oper) (d : Nat), l[i]? = some o → l[j]? = some p → o.dst = some d → p.dst = some d → i = j
  | [], _, i, j, o, p, d, hi, _, _, _ => by simp at hi
  | q :: l, h, i, j, o, p, d, hi, hj, ho, hp => by
    have hl : (l.filterMap (·.dst)).Nodup := by
      rw [List.filterMap_cons] at h
      cases hq : q.dst with
      | none => rw [hq] at h; exact h
      | some x => rw [hq] at h; exact (List.nodup_cons.1 h).2
    have hno : ∀ (k : Nat) (r : Oper), l[k]? = some r → r.dst = some d → q.dst ≠ some d := by
      intro k r hk hr hq
      rw [List.filterMap_cons, hq] at h
      exact (List.nodup_cons.1 h).1 (List.mem_filterMap.2 ⟨r, List.mem_of_getElem? hk, hr⟩)
    cases i with
    | zero =>
      cases j with
      | zero => rfl
      | succ j =>
        simp at hi
        subst hi
        exact absurd ho (hno j p (by simpa using hj) hp)
    | succ i =>
      cases j with
      | zero =>
        simp at hj
        subst hj
        exact absurd hp (hno i o (by simpa using hi) ho)
      | succ j => exact congrArg (· + 1) (nodup_filterMap_inj l hl i j o p d (by simpa using hi) (by simpa using hj) ho hp)

theorem lexOk_spec {n : Nat} {ops : Array Oper} (h : lexOk n ops = true) : LexS n ops := by
  simp only [lexOk, Bool.and_eq_true] at h
  obtain ⟨⟨h1, h2⟩, h3⟩ := h
  have hat : ∀ (i : Nat) (o : Oper), ops[i]? = some o → lexAt ops i o = true := by
    intro i o hi
    rw [List.all_eq_true] at h3
    have : (o, i) ∈ ops.toList.zipIdx := by
      rw [List.mem_zipIdx_iff_getElem?]
      simpa using hi
    exact h3 _ this
  refine ⟨fun i o d hi hd => dstsOk_at h1 hi hd, fun i j o p d hi hj ho hp => ?_, fun i o e hi he hb => ?_, fun i j o p t hi hj ht hp => ?_⟩
  · exact nodup_filterMap_inj ops.toList (nodupB_iff h2) i j o p d (by simpa using hi) (by simpa using hj) ho hp
  · have := hat i o hi
    simp only [lexAt, Bool.and_eq_true, List.all_eq_true] at this
    have := this.1 e (by simpa using he)
    rw [hb] at this
    simpa using this
  · have := hat i o hi
    simp only [lexAt, Bool.and_eq_true, List.all_eq_true] at this
    have hm : (p, j) ∈ ops.toList.zipIdx := by
      rw [List.mem_zipIdx_iff_getElem?]
      simpa using hj
    have := this.2 t ht (p, j) hm
    rw [hp] at this
    simp only [Nat.beq_refl, Bool.not_true, Bool.false_or, Bool.or_eq_true, Bool.and_eq_true, List.any_eq_true] at this
    rcases this with (⟨hlt, e, he, hb, hon⟩ | ⟨hlt, e, he, hb, hon⟩) | ⟨heq, _⟩
    · exact .inl ⟨by simpa using hlt, e, by simpa using he, hb, Nat.eq_of_beq_eq_true hon⟩
    · exact .inr (.inl ⟨by simpa using hlt, e, by simpa using he, hb, Nat.eq_of_beq_eq_true hon⟩)
    · exact .inr (.inr (Nat.eq_of_beq_eq_true heq))

def bindsOn (o : Oper) (j : Nat) : Bool := o.after.toList.any fun e => Region.binds .any e && Nat.beq e.on j
/-- How many of the effects are surely behind, are at most behind, when operation i runs. -/
def loOf (ops : Array Oper) (o : Oper) : List Nat → Nat → Nat → Nat
  | [], _, acc => acc
  | e :: es, k, acc => loOf ops o es (k + 1) (match bindsOn o e with | true => k + 1 | false => acc)
def hiOf (ops : Array Oper) (i : Nat) : List Nat → Nat → Nat
  | [], k => k
  | e :: es, k => match (match ops[e]? with | some p => bindsOn p i | none => false) with | true => k | false => hiOf ops i es (k + 1)
def effAt (i : Nat) : List Nat → Nat → Option Nat
  | [], _ => none
  | e :: es, k => match Nat.beq e i with | true => some k | false => effAt i es (k + 1)
def effChain (ops : Array Oper) : List Nat → Bool
  | e :: f :: es => (match ops[f]? with | some p => bindsOn p e | none => false) && Nat.blt e f && effChain ops (f :: es)
  | _ => true

theorem bindsOn_iff {o : Oper} {j : Nat} : bindsOn o j = true ↔ ∃ e ∈ o.after, Region.binds .any e = true ∧ e.on = j := by
  simp only [bindsOn, List.any_eq_true, Bool.and_eq_true]
  constructor
  · rintro ⟨e, he, hb, hon⟩
    exact ⟨e, by simpa using he, hb, Nat.eq_of_beq_eq_true hon⟩
  · rintro ⟨e, he, hb, rfl⟩
    exact ⟨e, by simpa using he, hb, Nat.beq_refl _⟩

theorem effAt_some {i : Nat} : ∀ {l : List Nat} {k j : Nat}, effAt i l k = some j → ∃ d, j = k + d ∧ l[d]? = some i
  | [], k, j, h => by cases h
  | e :: es, k, j, h => by
    simp only [effAt] at h
    split at h
    · rename_i hb
      injection h with h
      exact ⟨0, by omega, by simp [Nat.eq_of_beq_eq_true hb]⟩
    · obtain ⟨d, hd, hl⟩ := effAt_some h
      exact ⟨d + 1, by omega, by simpa using hl⟩
theorem effAt_none {i : Nat} : ∀ {l : List Nat} {k : Nat}, effAt i l k = none → ∀ d : Nat, l[d]? ≠ some i
  | [], k, h, d, hd => by simp at hd
  | e :: es, k, h, d, hd => by
    simp only [effAt] at h
    split at h
    · cases h
    · rename_i hb
      cases d with
      | zero =>
        simp at hd
        subst hd
        rw [Nat.beq_refl] at hb
        cases hb
      | succ d => exact effAt_none h d (by simpa using hd)
theorem loOf_le {ops : Array Oper} {o : Oper} {c : Nat} : ∀ {l : List Nat} {k acc : Nat}, acc ≤ c → (∀ (d e : Nat), l[d]? = some e → bindsOn o e = true → k + d + 1 ≤ c) → loOf ops o l k acc ≤ c
  | [], k, acc, ha, _ => ha
  | e :: es, k, acc, ha, h => by
    simp only [loOf]
    refine loOf_le ?_ fun d f hf hb => ?_
    · split
      · rename_i hb; have := h 0 e rfl hb; omega
      · exact ha
    · have := h (d + 1) f (by simpa using hf) hb; omega
theorem hiOf_ge {ops : Array Oper} {i c : Nat} : ∀ {l : List Nat} {k : Nat}, c ≤ k + l.length → (∀ (d e : Nat) (p : Oper), l[d]? = some e → ops[e]? = some p → bindsOn p i = true → c ≤ k + d) → c ≤ hiOf ops i l k
  | [], k, hc, _ => hc
  | e :: es, k, hc, h => by
    simp only [hiOf]
    split
    · rename_i hb
      split at hb
      · rename_i p hp; exact h 0 e p rfl hp hb
      · cases hb
    · refine hiOf_ge (by simp at hc; omega) fun d f p hf hp hb => ?_
      have := h (d + 1) f p (by simpa using hf) hp hb; omega

def OpTo (P : Program) (rd : Option Nat) (o : Oper) (env : Env) (σ : MS) (x : MV) : Prop := OpWp P rd o env σ fun x' σ' => x' = x ∧ σ' = σ

inductive AllTo (P : Program) (rd : Option Nat) (o : Oper) (env : Env) (x : MV) : List MS → Prop where
  | nil : AllTo P rd o env x []
  | cons {s : MS} {l : List MS} : (OpWp P rd o env s fun x' σ' => x' = x ∧ σ' = s) → AllTo P rd o env x l → AllTo P rd o env x (s :: l)
theorem AllTo.of_mem {P : Program} {rd : Option Nat} {o : Oper} {env : Env} {x : MV} {L : List MS} (h : AllTo P rd o env x L) : ∀ s ∈ L, OpTo P rd o env s x := by
  induction h with
  | nil => exact fun s hs => by cases hs
  | cons h1 _ ih =>
    intro s hs
    rcases List.mem_cons.1 hs with rfl | hs
    · exact h1
    · exact ih s hs

def span_ (Ss : List MS) (lo hi : Nat) : List MS := (Ss.drop lo).take (hi + 1 - lo)

/-- The walk, in the text's order, of a region that draws: eff: the operations that turn the state, Ss: the states. -/
def dOps (P : Program) (rd : Option Nat) (ops : Array Oper) (eff : List Nat) (Ss : List MS) (Q : Env → Prop) : List Oper → Nat → Env → Prop
  | [], _, env => Q env
  | o :: rest, i, env =>
    match guardOk ops env o with
    | some true => ∃ x, (match effAt i eff 0 with
        | some k => ∃ s s', Ss[k]? = some s ∧ Ss[k + 1]? = some s' ∧ OpWp P rd o env s fun x' σ' => x' = x ∧ σ' = s'
        | none => AllTo P rd o env x (span_ Ss (loOf ops o eff 0 0) (hiOf ops i eff 0))) ∧ dOps P rd ops eff Ss Q rest (i + 1) (putd o.dst x env)
    | some false => effAt i eff 0 = none ∧ dOps P rd ops eff Ss Q rest (i + 1) (putd o.dst (.tup []) env)
    | none => False

section
variable {P : Program} {rd : Option Nat} {N n : Nat} {ops : Array Oper} {env : Env} {σ : MS} {eff : List Nat} {Ss : List MS}

theorem dOps_op {Q : Env → Prop} {o : Oper} {rest : List Oper} {i : Nat} {x : MV} (hg : guardOk ops env o = some true) (he : effAt i eff 0 = none) (h : AllTo P rd o env x (span_ Ss (loOf ops o eff 0 0) (hiOf ops i eff 0))) (hr : dOps P rd ops eff Ss Q rest (i + 1) (putd o.dst x env)) : dOps P rd ops eff Ss Q (o :: rest) i env := by
  simp only [dOps, hg, he]; exact ⟨x, h, hr⟩
theorem dOps_eff {Q : Env → Prop} {o : Oper} {rest : List Oper} {i k : Nat} {x : MV} {s s' : MS} (hg : guardOk ops env o = some true) (he : effAt i eff 0 = some k) (h1 : Ss[k]? = some s) (h2 : Ss[k + 1]? = some s') (h : OpWp P rd o env s fun x' σ' => x' = x ∧ σ' = s') (hr : dOps P rd ops eff Ss Q rest (i + 1) (putd o.dst x env)) : dOps P rd ops eff Ss Q (o :: rest) i env := by
  simp only [dOps, hg, he]; exact ⟨x, ⟨s, s', h1, h2, h⟩, hr⟩
theorem dOps_skip {Q : Env → Prop} {o : Oper} {rest : List Oper} {i : Nat} (hg : guardOk ops env o = some false) (he : effAt i eff 0 = none) (hr : dOps P rd ops eff Ss Q rest (i + 1) (putd o.dst (.tup []) env)) : dOps P rd ops eff Ss Q (o :: rest) i env := by
  simp only [dOps, hg]; exact ⟨he, hr⟩
theorem dOps_nil {Q : Env → Prop} {i : Nat} (h : Q env) : dOps P rd ops eff Ss Q [] i env := h

/-- The row of environments and values of a walk in the text's order. -/
structure Row (P : Program) (rd : Option Nat) (ops : Array Oper) (eff : List Nat) (Ss : List MS) (E : Nat → Env) (X : Nat → MV) (B : Nat → Bool) (from_ n : Nat) : Prop where
  step : ∀ (i : Nat) (o : Oper), from_ ≤ i → ops[i]? = some o → guardOk ops (E i) o = some (B i) ∧
    (B i = true → (∀ k, effAt i eff 0 = some k → ∃ s s', Ss[k]? = some s ∧ Ss[k + 1]? = some s' ∧ OpWp P rd o (E i) s fun x' σ' => x' = X i ∧ σ' = s') ∧ (effAt i eff 0 = none → AllTo P rd o (E i) (X i) (span_ Ss (loOf ops o eff 0 0) (hiOf ops i eff 0)))) ∧
    (B i = false → effAt i eff 0 = none ∧ X i = .tup []) ∧ E (i + 1) = putd o.dst (X i) (E i)

theorem dOps_row {Q : Env → Prop} : ∀ (l : List Oper) (k : Nat) (env : Env), (∀ j, l[j]? = ops[k + j]?) → dOps P rd ops eff Ss Q l k env → ∃ E X B, Row P rd ops eff Ss E X B k ops.size ∧ E k = env ∧ Q (E (k + l.length))
  | [], k, env, hl, h => ⟨fun _ => env, fun _ => .tup [], fun _ => false, ⟨fun i o hi ho => by
      have := hl (i - k)
      rw [show k + (i - k) = i by omega, ho] at this
      cases this⟩, rfl, h⟩
  | o :: l, k, env, hl, h => by
    have ho : ops[k]? = some o := by simpa using (hl 0).symm
    have hl' : ∀ j, l[j]? = ops[k + 1 + j]? := fun j => by
      have := hl (j + 1)
      rw [List.getElem?_cons_succ] at this
      rw [this, show k + (j + 1) = k + 1 + j by omega]
    simp only [dOps] at h
    have build : ∀ (x : MV) (b : Bool), guardOk ops env o = some b → (b = true → (∀ j, effAt k eff 0 = some j → ∃ s s', Ss[j]? = some s ∧ Ss[j + 1]? = some s' ∧ OpWp P rd o env s fun x' σ' => x' = x ∧ σ' = s') ∧ (effAt k eff 0 = none → AllTo P rd o env x (span_ Ss (loOf ops o eff 0 0) (hiOf ops k eff 0)))) →
        (b = false → effAt k eff 0 = none ∧ x = .tup []) → dOps P rd ops eff Ss Q l (k + 1) (putd o.dst x env) →
        ∃ E X B, Row P rd ops eff Ss E X B k ops.size ∧ E k = env ∧ Q (E (k + (o :: l).length)) := by
      intro x b hg hx hx' hr
      obtain ⟨E, X, B, hrow, hE, hQ⟩ := dOps_row l (k + 1) _ hl' hr
      refine ⟨fun i => if i = k then env else E i, fun i => if i = k then x else X i, fun i => if i = k then b else B i, ⟨fun i p hi hp => ?_⟩, by simp, ?_⟩
      · by_cases e : i = k
        · subst e
          rw [ho] at hp
          injection hp with hp
          subst hp
          simp only [if_true]
          refine ⟨hg, hx, hx', ?_⟩
          rw [if_neg (by omega)]
          exact hE
        · simp only [if_neg e]
          rw [if_neg (by omega)]
          exact hrow.step i p (by omega) hp
      · show Q (if k + (o :: l).length = k then env else E (k + (o :: l).length))
        rw [if_neg (by rw [List.length_cons]; omega)]
        rw [List.length_cons, show k + (l.length + 1) = k + 1 + l.length by omega]
        exact hQ
    split at h
    · rename_i hg
      obtain ⟨x, hx, hr⟩ := h
      refine build x true hg (fun _ => ⟨fun j hj => ?_, fun hj => ?_⟩) (fun h => by cases h) hr
      · rw [hj] at hx; exact hx
      · rw [hj] at hx; exact hx
    · rename_i hg
      exact build _ false hg (fun h => by cases h) (fun _ => ⟨h.1, rfl⟩) h.2
    · exact h.elim

theorem row_get {E : Nat → Env} {X : Nat → MV} {B : Nat → Bool} (hx : LexS n ops) (hrow : Row P rd ops eff Ss E X B 0 ops.size) : ∀ (i : Nat), i ≤ ops.size → ∀ t,
    (∀ (j : Nat) (p : Oper), j < i → ops[j]? = some p → p.dst = some t → get (E i) t = some (X j)) ∧ ((∀ (j : Nat) (p : Oper), j < i → ops[j]? = some p → p.dst ≠ some t) → get (E i) t = get (E 0) t)
  | 0, _, t => ⟨fun j p hj => by omega, fun _ => rfl⟩
  | i + 1, hi, t => by
    obtain ⟨h1, h2⟩ := row_get hx hrow i (by omega) t
    have ho : ops[i]? = some ops[i] := Array.getElem?_eq_getElem (by omega)
    obtain ⟨_, _, _, hE⟩ := hrow.step i _ (Nat.zero_le _) ho
    rw [hE]
    refine ⟨fun j p hj hp hd => ?_, fun hno => ?_⟩
    · by_cases e : j = i
      · subst e
        rw [ho] at hp
        injection hp with hp
        subst hp
        rw [hd]
        exact get_cons_self _ _ _
      · have hne : ops[i].dst ≠ some t := fun hd' => e (hx.inj j i p _ t hp ho hd hd')
        cases hdo : ops[i].dst with
        | none => exact h1 j p (by omega) hp hd
        | some d =>
          rw [hdo] at hne
          show get ((d, X i) :: E i) t = _
          rw [get_cons_ne _ _ (fun e => hne (by rw [e]))]
          exact h1 j p (by omega) hp hd
    · have hne := hno i _ (by omega) ho
      have hold := h2 fun j p hj => hno j p (by omega)
      cases hdo : ops[i].dst with
      | none => exact hold
      | some d =>
        rw [hdo] at hne
        show get ((d, X i) :: E i) t = _
        rw [get_cons_ne _ _ (fun e => hne (by rw [e]))]
        exact hold

structure DInv (P : Program) (rd : Option Nat) (N n m0 : Nat) (ops : Array Oper) (eff : List Nat) (Ss : List MS) (E : Nat → Env) (X : Nat → MV) (g0 : Gh) (w0 : World) (F : Fence) (listed : Array Bool) (a : Act) (w : World) (g : Gh) (c : Nat) (s : MS) : Prop where
  fok : FOkN N g rd F
  rel : Rel g s w
  cur : Ss[c]? = some s
  cle : c ≤ eff.length
  effs : ∀ (d e : Nat), eff[d]? = some e → (listed.getD e false = true ↔ d < c)
  le : LeN N g0 w0 g w
  sz : a.tmps.size = n
  marks : Marks m0 w a.defers
  old : ∀ t x, get (E 0) t = some x → (∀ (j : Nat) (p : Oper), ops[j]? = some p → p.dst = some t → listed.getD j true = false) → ∃ v, a.tmps[t]? = some v ∧ Rd g w x v
  new : ∀ (j : Nat) (p : Oper) (d : Nat), listed.getD j false = true → ops[j]? = some p → p.dst = some d → ∃ v, a.tmps[d]? = some v ∧ Rd g w (X j) v
  lsz : listed.size = ops.size

theorem getD_ff {listed : Array Bool} {m i : Nat} (hs : listed.size = m) (hi : i < m) : listed.getD i true = listed.getD i false := by
  have hs : i < listed.size := by omega
  simp only [Array.getD_eq_getD_getElem?, Array.getElem?_eq_getElem hs, Option.getD_some]

theorem DInv.reads {m0 c : Nat} {s : MS} {E : Nat → Env} {X : Nat → MV} {B : Nat → Bool} {g0 : Gh} {w0 : World} {F : Fence} {listed : Array Bool} {a : Act} {w : World} {g : Gh} (hx : LexS n ops) (hrow : Row P rd ops eff Ss E X B 0 ops.size) (hI : DInv P rd N n m0 ops eff Ss E X g0 w0 F listed a w g c s)
    {i : Nat} {o : Oper} (hi : ops[i]? = some o) (hnl : listed.getD i true = false) (hdep : ∀ e ∈ o.after, Region.binds .any e = true → listed.getD e.on false = true)
    (hcl : ∀ (j : Nat) (p : Oper), ops[j]? = some p → listed.getD j false = true → ∀ e ∈ p.after, Region.binds .any e = true → listed.getD e.on false = true) {t : Nat} (ht : t ∈ readsOf ops o) {x : MV} (hg : get (E i) t = some x) : ∃ v, a.tmps[t]? = some v ∧ Rd g w x v := by
  have hlt : i < ops.size := (Array.getElem?_eq_some_iff.1 hi).1
  obtain ⟨h1, h2⟩ := row_get hx hrow i (by omega) t
  by_cases hex : ∃ (j : Nat) (p : Oper), j < i ∧ ops[j]? = some p ∧ p.dst = some t
  · obtain ⟨j, p, hji, hp, hd⟩ := hex
    rcases hx.dep i j o p t hi hp ht hd with ⟨_, e, he, hb, hon⟩ | ⟨hij, _⟩ | hij
    · rw [h1 j p hji hp hd] at hg
      injection hg with hg
      subst hg
      exact hI.new j p t (by rw [← hon]; exact hdep e he hb) hp hd
    · omega
    · omega
  · have hno : ∀ (j : Nat) (p : Oper), j < i → ops[j]? = some p → p.dst ≠ some t := fun j p hj hp hd => hex ⟨j, p, hj, hp, hd⟩
    rw [h2 hno] at hg
    refine hI.old t x hg fun j p hp hd => ?_
    have hjs : j < ops.size := (Array.getElem?_eq_some_iff.1 hp).1
    have hji : ¬ j < i := fun hj => hno j p hj hp hd
    rcases hx.dep i j o p t hi hp ht hd with ⟨hj, _⟩ | ⟨hij, e, he, hb, hon⟩ | hij
    · omega
    · cases hl : listed.getD j true with
      | false => rfl
      | true =>
        rw [getD_ff hI.lsz hjs] at hl
        have := hcl j p hp hl e he hb
        rw [hon, ← getD_ff hI.lsz hlt, hnl] at this
        cases this
    · subst hij; exact hnl

theorem draw_sound {m0 : Nat} {s1 : MS} {E : Nat → Env} {X : Nat → MV} {B : Nat → Bool} {g0 : Gh} {w0 : World} {F : Fence} {Q : Exit → Env → MS → Prop} (hx : LexS n ops) (hch : effChain ops eff = true) (hes : ∀ (d e : Nat), eff[d]? = some e → e < ops.size) (hS1 : Ss[eff.length]? = some s1) (hrow : Row P rd ops eff Ss E X B 0 ops.size) (hQ : Q .normal (E ops.size) s1) :
    ∀ (fuel : Nat) (listed : Array Bool) (a : Act) (w : World) (g : Gh) (c : Nat) (s : MS), DInv P rd N n m0 ops eff Ss E X g0 w0 F listed a w g c s → (∀ (j : Nat) (p : Oper), ops[j]? = some p → listed.getD j false = true → ∀ e ∈ p.after, Region.binds .any e = true → listed.getD e.on false = true) →
      (List.range ops.size).countP (fun i => !listed.getD i true) ≤ fuel → wpAnyIn F 0 P .any ops (Left_ N g0 w0 n m0 Q) fuel listed a w := by
  have hmono : ∀ (l : List Nat) (d : Nat), effChain ops l = true → ∀ (e f : Nat), l[d]? = some e → l[d + 1]? = some f → e < f ∧ ∃ p, ops[f]? = some p ∧ bindsOn p e = true := by
    intro l
    induction l with
    | nil => intro d _ e f he; simp at he
    | cons a l ih =>
      intro d hc e f he hf
      cases l with
      | nil => simp at hf
      | cons b l =>
        simp only [effChain, Bool.and_eq_true] at hc
        cases d with
        | zero =>
          simp at he hf
          subst he; subst hf
          refine ⟨by simpa using hc.1.2, ?_⟩
          have h1 := hc.1.1
          split at h1
          · rename_i p hp; exact ⟨p, hp, h1⟩
          · cases h1
        | succ d => exact ih d hc.2 e f (by simpa using he) (by simpa using hf)
  have hlts : ∀ (k d e f : Nat), eff[d]? = some e → eff[d + 1 + k]? = some f → e < f := by
    intro k
    induction k with
    | zero => intro d e f he hf; exact (hmono eff d hch e f he hf).1
    | succ k ih =>
      intro d e f he hf
      have hlen : d + 1 + (k + 1) < eff.length := (List.getElem?_eq_some_iff.1 hf).1
      have hm : eff[d + 1 + k]? = some eff[d + 1 + k] := List.getElem?_eq_getElem (by omega)
      have h1 := ih d e _ he hm
      have h2 := (hmono eff (d + 1 + k) hch _ f hm hf).1
      omega
  have hinj : ∀ (d d' e : Nat), eff[d]? = some e → eff[d']? = some e → d = d' := by
    intro d d' e h1 h2
    rcases Nat.lt_trichotomy d d' with h | h | h
    · have := hlts (d' - d - 1) d e e h1 (by rw [show d + 1 + (d' - d - 1) = d' by omega]; exact h2); omega
    · exact h
    · have := hlts (d - d' - 1) d' e e h2 (by rw [show d' + 1 + (d - d' - 1) = d by omega]; exact h1); omega
  have hend : ∀ (listed : Array Bool) (a : Act) (w : World) (g : Gh) (c : Nat) (s : MS), DInv P rd N n m0 ops eff Ss E X g0 w0 F listed a w g c s → (∀ i, i < ops.size → listed.getD i true = true) → Left_ N g0 w0 n m0 Q .normal a w := by
    intro listed a w g c s hI hall
    have hallf : ∀ i, i < ops.size → listed.getD i false = true := fun i hi => by rw [← getD_ff hI.lsz hi]; exact hall i hi
    have hc : c = eff.length := by
      rcases Nat.lt_or_ge c eff.length with hlt | hge
      · have he : eff[c]? = some eff[c] := List.getElem?_eq_getElem hlt
        have := (hI.effs c _ he).1 (hallf _ (hes c _ he))
        omega
      · have := hI.cle; omega
    have hs : s = s1 := by
      have := hI.cur
      rw [hc, hS1] at this
      injection this with this
      exact this.symm
    subst hs
    refine ⟨E ops.size, s, g, hQ, hI.rel, fun t x hg => ?_, hI.le, hI.sz, hI.marks⟩
    obtain ⟨h1, h2⟩ := row_get hx hrow ops.size (Nat.le_refl _) t
    by_cases hex : ∃ (j : Nat) (p : Oper), ops[j]? = some p ∧ p.dst = some t
    · obtain ⟨j, p, hp, hd⟩ := hex
      have hlt : j < ops.size := (Array.getElem?_eq_some_iff.1 hp).1
      rw [h1 j p hlt hp hd] at hg
      injection hg with hg
      subst hg
      exact hI.new j p t (hallf j hlt) hp hd
    · have hno : ∀ (j : Nat) (p : Oper), ops[j]? = some p → p.dst ≠ some t := fun j p hp hd => hex ⟨j, p, hp, hd⟩
      rw [h2 fun j p _ hp => hno j p hp] at hg
      exact hI.old t x hg fun j p hp hd => absurd hd (hno j p hp)
  have hready : ∀ (listed : Array Bool), listed.size = ops.size → Region.ready .any ops listed = [] → ∀ i, i < ops.size → listed.getD i true = true := by
    intro listed hls hnil i
    induction i using Nat.strongRecOn with
    | _ i ih =>
      intro hi
      cases hli : listed.getD i true with
      | true => rfl
      | false =>
        exfalso
        have ho : ops[i]? = some ops[i] := Array.getElem?_eq_getElem hi
        have hm : i ∈ Region.ready .any ops listed := by
          simp only [Region.ready, List.mem_filter, List.mem_range, Bool.and_eq_true]
          refine ⟨hi, by rw [hli]; rfl, ?_⟩
          rw [ho]
          simp only [Option.map_some, Option.getD_some, Array.all_eq_true_iff_forall_mem, Bool.or_eq_true, Bool.not_eq_true']
          intro e he
          cases hb : Region.binds .any e with
          | false => exact .inl rfl
          | true =>
            right
            have hlt := hx.back i _ e ho he hb
            rw [← getD_ff hls (show e.on < ops.size by omega)]
            exact ih e.on hlt (by omega)
        rw [hnil] at hm
        cases hm
  intro fuel
  induction fuel with
  | zero =>
    intro listed a w g c s hI hcl hc
    have hall : ∀ i, i < ops.size → listed.getD i true = true := by
      intro i hi
      have h0 : (List.range ops.size).countP (fun i => !listed.getD i true) = 0 := by omega
      rw [List.countP_eq_zero] at h0
      have := h0 i (List.mem_range.2 hi)
      simpa using this
    refine ⟨?_, hend listed a w g c s hI hall⟩
    simp only [Region.ready, List.filter_eq_nil_iff, List.mem_range, Bool.and_eq_true, not_and]
    intro i hi hf
    rw [hall i hi] at hf
    cases hf
  | succ fuel ih =>
    intro listed a w g c s hI hcl hc
    refine ⟨fun hnil => hend listed a w g c s hI (hready listed hI.lsz hnil), fun i hi => ?_⟩
    obtain ⟨hlt, hnl, hdep⟩ : i < ops.size ∧ listed.getD i true = false ∧ ∀ (o : Oper), ops[i]? = some o → ∀ e ∈ o.after, Region.binds .any e = true → listed.getD e.on false = true := by
      simp only [Region.ready, List.mem_filter, List.mem_range, Bool.and_eq_true, Bool.not_eq_true'] at hi
      refine ⟨hi.1, hi.2.1, fun o ho e he hb => ?_⟩
      have := hi.2.2
      rw [ho] at this
      simp only [Option.map_some, Option.getD_some, Array.all_eq_true_iff_forall_mem, Bool.or_eq_true, Bool.not_eq_true'] at this
      rcases this e he with h | h
      · rw [hb] at h; cases h
      · exact h
    have ho : ops[i]? = some ops[i] := Array.getElem?_eq_getElem hlt
    obtain ⟨hg, hT, hF, hE⟩ := hrow.step i _ (Nat.zero_le _) ho
    have hil : i < listed.size := by rw [hI.lsz]; exact hlt
    have hnlf : listed.getD i false = false := by rw [← getD_ff hI.lsz hlt]; exact hnl
    have hwant : Region.wanted ops[i] (yielded ops a.tmps) = B i := by
      refine guardOk_wanted (g := g) (w := w) hg fun j want d x hgd hjd hx' => ?_
      refine hI.reads hx hrow ho hnl (hdep _ ho) hcl ?_ hx'
      simp only [readsOf, hgd, hjd, Option.toList_some]
      simp
    have hset : ∀ j, j ≠ i → (listed.setIfInBounds i true).getD j false = listed.getD j false := fun j hj => getD_set_ne _ (fun h => hj h.symm)
    have hseti : (listed.setIfInBounds i true).getD i false = true := by simp [Array.getD_eq_getD_getElem?, Array.getElem?_setIfInBounds_self_of_lt hil]
    have next : ∀ (v : Value) (w' : World) (g' : Gh) (c' : Nat) (s' : MS), Rel g' s' w' → Ss[c']? = some s' → c' ≤ eff.length → (∀ (d e : Nat), eff[d]? = some e → ((listed.setIfInBounds i true).getD e false = true ↔ d < c')) → Rd g' w' (X i) v → Le g w g' w' →
        wpAnyIn F 0 P .any ops (Left_ N g0 w0 n m0 Q) fuel (listed.setIfInBounds i true) (a.put ops[i].dst v) w' := by
      intro v w' g' c' s' hr' hc1 hc2 hc3 hv hl
      refine ih _ _ w' g' c' s' ⟨hI.fok.mono (hl.toN N), hr', hc1, hc2, hc3, hI.le.trans (hl.toN N), by rw [size_put]; exact hI.sz, by rw [defers_put]; exact hI.marks.mono hl, fun t x hgt hno => ?_, fun j p d hj hp hd => ?_, by simpa using hI.lsz⟩ (fun j p hp hj e he hb => ?_) ?_
      · have hnoi : ops[i].dst ≠ some t := fun hd => by
          have := hno i _ ho hd
          simp [Array.getD_eq_getD_getElem?, Array.getElem?_setIfInBounds_self_of_lt hil] at this
        obtain ⟨u, hu, hr⟩ := hI.old t x hgt fun j p hp hd => by
          have hji : j ≠ i := fun e => by
            subst e
            rw [ho] at hp
            injection hp with hp
            subst hp
            exact hnoi hd
          have := hno j p hp hd
          rw [getD_set_ne _ (fun h => hji h.symm)] at this
          exact this
        refine ⟨u, ?_, hr.mono hl⟩
        cases hd : ops[i].dst with
        | none => exact hu
        | some d =>
          rw [hd] at hnoi
          show (a.tmps.setIfInBounds d v)[t]? = _
          rw [Array.getElem?_setIfInBounds_ne (fun e => hnoi (by rw [e]))]
          exact hu
      · by_cases e : j = i
        · subst e
          rw [ho] at hp
          injection hp with hp
          subst hp
          refine ⟨v, ?_, hv⟩
          rw [hd]
          show (a.tmps.setIfInBounds d v)[d]? = _
          have := hx.lt j _ d ho hd
          simp [Array.getElem?_setIfInBounds_self_of_lt (show d < a.tmps.size by rw [hI.sz]; exact this)]
        · rw [hset j e] at hj
          obtain ⟨u, hu, hr⟩ := hI.new j p d hj hp hd
          refine ⟨u, ?_, hr.mono hl⟩
          cases hdi : ops[i].dst with
          | none => exact hu
          | some d' =>
            show (a.tmps.setIfInBounds d' v)[d]? = _
            rw [Array.getElem?_setIfInBounds_ne (fun ed => e (hx.inj j i p _ d hp ho hd (by rw [hdi, ed])))]
            exact hu
      · have hon : listed.getD e.on false = true := by
          by_cases ej : j = i
          · subst ej
            rw [ho] at hp
            injection hp with hp
            subst hp
            exact hdep _ ho e he hb
          · rw [hset j ej] at hj
            exact hcl j p hp hj e he hb
        exact getD_set_true hon
      · have hlt2 : (List.range ops.size).countP (fun k => !(listed.setIfInBounds i true).getD k true) < (List.range ops.size).countP (fun k => !listed.getD k true) := by
          have hsplit : ∀ (l : List Nat), i ∈ l → l.countP (fun k => !(listed.setIfInBounds i true).getD k true) < l.countP (fun k => !listed.getD k true) := by
            have hle : ∀ (l : List Nat), l.countP (fun k => !(listed.setIfInBounds i true).getD k true) ≤ l.countP (fun k => !listed.getD k true) := by
              intro l
              refine List.countP_mono_left fun k _ hk => ?_
              by_cases e : k = i
              · subst e
                simp [Array.getD_eq_getD_getElem?, Array.getElem?_setIfInBounds_self_of_lt hil] at hk
              · rw [getD_set_ne _ (fun h => e h.symm)] at hk
                exact hk
            intro l
            induction l with
            | nil => intro h; cases h
            | cons k l ihl =>
              intro hm
              rw [List.countP_cons, List.countP_cons]
              by_cases e : k = i
              · subst e
                have e1 : (!(listed.setIfInBounds k true).getD k true) = false := by simp [Array.getD_eq_getD_getElem?, Array.getElem?_setIfInBounds_self_of_lt hil]
                rw [e1, hnl]
                have := hle l
                simp only [Bool.not_false, if_true, Bool.false_eq_true, if_false]
                omega
              · have hm' : i ∈ l := by
                  rcases List.mem_cons.1 hm with h | h
                  · exact absurd h.symm e
                  · exact h
                have := ihl hm'
                rw [getD_set_ne _ (fun h => e h.symm)]
                omega
          exact hsplit _ (List.mem_range.2 hlt)
        omega
    have heffno : effAt i eff 0 = none → ∀ (d e : Nat), eff[d]? = some e → ((listed.setIfInBounds i true).getD e false = true ↔ d < c) := by
      intro hne d e he
      rw [hset e (fun h => effAt_none hne d (by rw [he, h]))]
      exact hI.effs d e he
    have hopd : ∀ x ∈ ops[i].op.operands, ∀ m, evo (E i) x = some m → Rd g w m (a.eval x) := fun x hxo m hm => by
      cases x with
      | tmp t =>
        obtain ⟨v, hv, hr⟩ := hI.reads hx hrow ho hnl (hdep _ ho) hcl (t := t) (by
          simp only [readsOf, List.mem_append]
          left
          simp only [opTmps, List.mem_filterMap]
          exact ⟨.tmp t, by simpa using hxo, rfl⟩) hm
        simp only [Act.eval, Array.getD_eq_getD_getElem?, hv, Option.getD_some]
        exact hr
      | const v => exact constMV_rd _ _ hm
      | func f =>
        injection hm with hm
        subst hm
        exact .fn' (.nil _ _) (.nil _ _)
      | global _ => cases hm
    unfold wpOpIn
    rw [ho]
    simp only
    rw [hwant]
    cases hB : B i with
    | true =>
      simp only [if_true]
      obtain ⟨hT1, hT2⟩ := hT hB
      have go : ∀ (c' : Nat) (s' : MS), Ss[c']? = some s' → c' ≤ eff.length → (∀ (d e : Nat), eff[d]? = some e → ((listed.setIfInBounds i true).getD e false = true ↔ d < c')) → OpWp P rd ops[i] (E i) s (fun x' σ' => x' = X i ∧ σ' = s') →
          Oper.wpIn F 0 P ops[i] a w (wpAnyIn F 0 P .any ops (Left_ N g0 w0 n m0 Q) fuel (listed.setIfInBounds i true)) (Left_ N g0 w0 n m0 Q) := by
        intro c' s' h1 h2 h3 hop
        have hop := hop g w a F hI.fok.ok hI.rel hopd
        have h2 := Oper.wpIn_mono (K' := wpAnyIn F 0 P .any ops (Left_ N g0 w0 n m0 Q) fuel (listed.setIfInBounds i true)) ?_ hop
        · refine ⟨h2.1, ?_⟩
          have h3 := h2.2
          revert h3
          generalize (Oper.semAt F.round a.eval ops[i]).run P w = r
          intro h3
          cases r with
          | ok x w' =>
            cases x with
            | value v => exact h3
            | skip => exact h3
            | defer d => exact h3
            | enter f args =>
              refine ⟨h3.1, h3.2.mono ?_⟩
              rintro (⟨v⟩ | ⟨c⟩ | _) w'' hx
              · exact hx
              · exact hx.elim
              · obtain ⟨_, _, hx⟩ := hx; exact hx.elim
            | row r' args => exact h3
            | round l f t b c =>
              refine ⟨h3.1, h3.2.mono ?_⟩
              rintro (⟨v⟩ | ⟨c⟩ | _) w'' hx
              · exact hx
              · exact hx.elim
              · obtain ⟨_, _, hx⟩ := hx; exact hx.elim
            | _ => exact h3.elim
          | halt x w' =>
            cases x with
            | panic v => exact h3.elim
            | _ => exact h3.elim
        · rintro a' w' ⟨v, rfl, x, σ', g', ⟨rfl, rfl⟩, hr', hv, hl⟩
          exact next v w' g' c' σ' hr' h1 (by assumption) h3 hv hl
      cases hea : effAt i eff 0 with
      | none =>
        have hall := hT2 hea
        refine go c s hI.cur hI.cle (heffno hea) (hall.of_mem s ?_)
        have hlo : loOf ops ops[i] eff 0 0 ≤ c := by
          refine loOf_le (Nat.zero_le _) fun d e he hb => ?_
          obtain ⟨ed, hed, hbd, hon⟩ := bindsOn_iff.1 hb
          have := hdep _ ho ed hed hbd
          rw [hon] at this
          have := (hI.effs d e he).1 this
          omega
        have hhi : c ≤ hiOf ops i eff 0 := by
          refine hiOf_ge (by rw [Nat.zero_add]; exact hI.cle) fun d e p he hp hb => ?_
          obtain ⟨ed, hed, hbd, hon⟩ := bindsOn_iff.1 hb
          rcases Nat.lt_or_ge d c with hdc | hdc
          · have hl := (hI.effs d e he).2 hdc
            have := hcl e p hp hl ed hed hbd
            rw [hon, hnlf] at this
            cases this
          · omega
        have hlen : c < Ss.length := (List.getElem?_eq_some_iff.1 hI.cur).1
        refine List.mem_of_getElem? (i := c - loOf ops ops[i] eff 0 0) ?_
        rw [span_, List.getElem?_take, if_pos (by omega), List.getElem?_drop, show loOf ops ops[i] eff 0 0 + (c - loOf ops ops[i] eff 0 0) = c by omega]
        exact hI.cur
      | some k =>
        obtain ⟨s0, s', hk1, hk2, hop⟩ := hT1 k hea
        obtain ⟨d, hd, hdi⟩ := effAt_some hea
        have hkd : k = d := by omega
        subst hkd
        have hkc : k = c := by
          rcases Nat.lt_trichotomy k c with h | h | h
          · have := (hI.effs k i hdi).2 h
            rw [hnlf] at this; cases this
          · exact h
          · have hlen : k < eff.length := (List.getElem?_eq_some_iff.1 hdi).1
            have hprev : eff[k - 1]? = some eff[k - 1] := List.getElem?_eq_getElem (by omega)
            obtain ⟨_, p, hp, hb⟩ := hmono eff (k - 1) hch _ i hprev (by rw [show k - 1 + 1 = k by omega]; exact hdi)
            rw [ho] at hp
            injection hp with hp
            subst hp
            obtain ⟨ed, hed, hbd, hon⟩ := bindsOn_iff.1 hb
            have := hdep _ ho ed hed hbd
            rw [hon] at this
            have := (hI.effs (k - 1) _ hprev).1 this
            omega
        subst hkc
        have hs0 : s0 = s := by
          have := hI.cur
          rw [hk1] at this
          injection this with this
        subst hs0
        have hlen : k < eff.length := (List.getElem?_eq_some_iff.1 hdi).1
        refine go (k + 1) s' hk2 (by omega) (fun d e he => ?_) hop
        by_cases hei : e = i
        · subst hei
          rw [hseti]
          have := hinj d k e he hdi
          subst this
          simp
        · rw [hset e hei]
          have hdk : d ≠ k := fun h => by
            subst h
            rw [hdi] at he
            injection he with he
            exact hei he.symm
          rw [hI.effs d e he]
          omega
    | false =>
      simp only [Bool.false_eq_true, if_false]
      obtain ⟨hne, hX⟩ := hF hB
      refine ⟨fun f _ => hI.fok.ok.fn f, next undef w g c s hI.rel hI.cur hI.cle (heffno hne) ?_ (.refl _ _)⟩
      rw [hX]
      exact rd_undef _ _

/-- A region that draws its order: walked in the text's order; eff: the operations that turn the state. -/
theorem mwp_draw {Q : Exit → Env → MS → Prop} {id : Nat} (eff : List Nat) (Ss : List MS) {s1 : MS} (hm : P.follows .mixedOrders = true) (hb : lexOk n ops = true) (hch : effChain ops eff = true) (hes : eff.all (fun e => Nat.blt e ops.size) = true) (h0 : Ss[0]? = some σ) (h1 : Ss[eff.length]? = some s1)
    (h : dOps P rd ops eff Ss (fun env => Q .normal env s1) ops.toList 0 env) : mwp P rd N n (.region id ops true) Q env σ := by
  intro g w a F m0 hF hr he hn hmk
  have hx := lexOk_spec hb
  obtain ⟨E, X, B, hrow, hE, hQ⟩ := dOps_row (P := P) (rd := rd) ops.toList 0 env (fun j => by simp) h
  rw [Nat.zero_add, Array.length_toList] at hQ
  refine wpIn_region_any hm ?_
  have hl := Le.drew g w
  have hrep : ∀ (b : Bool) (j : Nat), j < ops.size → (Array.replicate ops.size false).getD j b = false := fun b j hj => by
    simp [Array.getD_eq_getD_getElem?, Array.getElem?_replicate, hj]
  have hrepf : ∀ (j : Nat), (Array.replicate ops.size false).getD j false = false := fun j => by
    simp only [Array.getD_eq_getD_getElem?, Array.getElem?_replicate]
    split <;> rfl
  refine draw_sound hx hch (fun d e hd => ?_) h1 hrow hQ ops.size _ a w.drew g 0 σ ⟨hF.mono (hl.toN N), hr.drew, h0, Nat.zero_le _, fun d e hd => ?_, hl.toN N, hn, hmk.mono hl, fun t x hg hno => ?_, fun j p d hj hp hd => ?_, by simp⟩ (fun j p hp hj => ?_) ?_
  · rw [List.all_eq_true] at hes
    simpa using hes e (List.mem_of_getElem? hd)
  · rw [hrepf]; simp
  · rw [hE] at hg
    obtain ⟨v, hv, hrd⟩ := he t x hg
    exact ⟨v, hv, hrd.mono hl⟩
  · rw [hrepf] at hj; cases hj
  · rw [hrepf] at hj; cases hj
  · have := List.countP_le_length (p := fun i => !(Array.replicate ops.size false).getD i true) (l := List.range ops.size)
    rw [List.length_range] at this
    exact this
end
end Go.MV
