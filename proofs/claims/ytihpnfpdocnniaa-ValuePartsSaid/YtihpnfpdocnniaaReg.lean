/-
  The rules for regions: one that runs in the text's order, one that draws its order and only reads; the rule for a function's body. No program.
-/
import Derived.Test.YtihpnfpdocnniaaLog
set_option linter.unusedVariables false
set_option linter.unusedSimpArgs false
namespace Go.MV
open Go Go.RowKit

def guardOk (ops : Array Oper) (env : Env) (o : Oper) : Option Bool :=
  match o.guard with
  | none => some true
  | some (j, want) =>
    match (ops[j]?).bind (·.dst) with
    | some d => match get env d with | some (.bool b) => some (b == want) | some (.tup []) => some false | _ => none
    | none => none

def putd (dst : Option Nat) (x : MV) (env : Env) : Env := match dst with | some d => (d, x) :: env | none => env
def dstsOk (n : Nat) (ops : Array Oper) : Bool := ops.toList.all fun o => match o.dst with | some d => Nat.blt d n | none => true

theorem dstsOk_at {n : Nat} {ops : Array Oper} (h : dstsOk n ops = true) {i : Nat} {o : Oper} (hi : ops[i]? = some o) {d : Nat} (hd : o.dst = some d) : d < n := by
  simp only [dstsOk, List.all_eq_true] at h
  have hm : o ∈ ops.toList := by
    rw [← Array.getElem?_toList] at hi
    exact List.mem_of_getElem? hi
  have := h o hm
  rw [hd] at this
  simpa using this

theorem EnvRd.putd {g : Gh} {w : World} {env : Env} {a : Act} (h : EnvRd g w env a.tmps) {dst : Option Nat} (hd : ∀ d, dst = some d → d < a.tmps.size) {x : MV} {v : Value} (hx : Rd g w x v) : EnvRd g w (putd dst x env) (a.put dst v).tmps := by
  cases dst with
  | none => exact h
  | some d => exact EnvRd.put h (hd d rfl) hx
theorem size_put (a : Act) (dst : Option Nat) (v : Value) : (a.put dst v).tmps.size = a.tmps.size := by cases dst <;> simp [Act.put]
theorem defers_put (a : Act) (dst : Option Nat) (v : Value) : (a.put dst v).defers = a.defers := by cases dst <;> rfl

theorem guardOk_wanted {g : Gh} {w : World} {ops : Array Oper} {env : Env} {o : Oper} {b : Bool} (h : guardOk ops env o = some b) {tmps : Array Value}
    (he : ∀ j want d x, o.guard = some (j, want) → (ops[j]?).bind (·.dst) = some d → get env d = some x → ∃ v, tmps[d]? = some v ∧ Rd g w x v) : Region.wanted o (yielded ops tmps) = b := by
  unfold guardOk at h
  unfold Region.wanted
  cases hg : o.guard with
  | none => rw [hg] at h; simpa using h
  | some p =>
    obtain ⟨j, want⟩ := p
    rw [hg] at h
    simp only at h ⊢
    cases hd : (ops[j]?).bind (·.dst) with
    | none => rw [hd] at h; cases h
    | some d =>
      rw [hd] at h
      simp only at h
      cases hx : get env d with
      | none => rw [hx] at h; cases h
      | some x =>
        obtain ⟨v, hv, hr⟩ := he j want d x hg hd hx
        rw [hx] at h
        cases x with
        | bool c =>
          have hv' := hr.inv_bool
          subst hv'
          simp only [Option.some.injEq] at h
          simp only [yielded, hd, Option.bind_some, hv]
          rw [← h]
          cases c <;> cases want <;> rfl
        | tup l =>
          cases l with
          | nil =>
            obtain ⟨us, e, hu⟩ := hr.inv_tup
            subst e
            simp only [Option.some.injEq] at h
            subst h
            simp only [yielded, hd, Option.bind_some, hv]
            rfl
          | cons _ _ => cases h
        | _ => cases h

def wOps (P : Program) (rd : Option Nat) (ops : Array Oper) (Q : Env → MS → Prop) : List Oper → Env → MS → Prop
  | [], env, σ => Q env σ
  | o :: rest, env, σ =>
    match guardOk ops env o with
    | some true => OpWp P rd o env σ fun x σ' => wOps P rd ops Q rest (putd o.dst x env) σ'
    | some false => wOps P rd ops Q rest (putd o.dst (.tup []) env) σ
    | none => False

section
variable {P : Program} {rd : Option Nat} {N n : Nat} {ops : Array Oper} {Q : Exit → Env → MS → Prop} {env : Env} {σ : MS}

theorem wOps_op {Q : Env → MS → Prop} {o : Oper} {rest : List Oper} (hg : guardOk ops env o = some true) (h : OpWp P rd o env σ fun x σ' => wOps P rd ops Q rest (putd o.dst x env) σ') : wOps P rd ops Q (o :: rest) env σ := by
  simp only [wOps, hg]; exact h
theorem wOps_skip {Q : Env → MS → Prop} {o : Oper} {rest : List Oper} (hg : guardOk ops env o = some false) (h : wOps P rd ops Q rest (putd o.dst (.tup []) env) σ) : wOps P rd ops Q (o :: rest) env σ := by
  simp only [wOps, hg]; exact h
theorem wOps_nil {Q : Env → MS → Prop} (h : Q env σ) : wOps P rd ops Q [] env σ := h

theorem rd_undef (g : Gh) (w : World) : Rd g w (.tup []) undef := .tup' (.nil _ _)

theorem wOps_sound (hb : dstsOk n ops = true) {g : Gh} {w0 : World} {F : Fence} {m0 : Nat} : ∀ (l : List Oper) (k : Nat) (env : Env) (σ : MS) (g1 : Gh) (w : World) (a : Act), (∀ j, l[j]? = ops[k + j]?) → wOps P rd ops (fun env σ => Q .normal env σ) l env σ →
    FOkN N g1 rd F → Rel g1 σ w → EnvRd g1 w env a.tmps → a.tmps.size = n → Marks m0 w a.defers → LeN N g w0 g1 w → wpOpsIn F 0 P ops (Left_ N g w0 n m0 Q) (List.range' k l.length) a w
  | [], k, env, σ, g1, w, a, hl, h, hF, hr, he, hn, hm, hle => ⟨env, σ, g1, h, hr, he, hle, hn, hm⟩
  | o :: l, k, env, σ, g1, w, a, hl, h, hF, hr, he, hn, hm, hle => by
    have ho : ops[k]? = some o := by simpa using (hl 0).symm
    have hl' : ∀ j, l[j]? = ops[k + 1 + j]? := fun j => by
      have := hl (j + 1)
      rw [List.getElem?_cons_succ] at this
      rw [this, show k + (j + 1) = k + 1 + j by omega]
    have hdst : ∀ d, o.dst = some d → d < a.tmps.size := fun d hd => by rw [hn]; exact dstsOk_at hb ho hd
    rw [List.length_cons, List.range'_succ]
    simp only [wpOpsIn, ho]
    simp only [wOps] at h
    split at h
    · rename_i hg
      have hw : Region.wanted o (yielded ops a.tmps) = true := guardOk_wanted hg (fun j want d x _ _ hx => he d x hx)
      rw [if_pos hw]
      have := h g1 w a F hF.ok hr (fun x _ m hx => evo_rd he hx)
      have h2 := Oper.wpIn_mono (K' := wpOpsIn F 0 P ops (Left_ N g w0 n m0 Q) (List.range' (k + 1) l.length)) ?_ this
      · refine ⟨h2.1, ?_⟩
        have h3 := h2.2
        revert h3
        generalize (o.semAt F.round a.eval).run P w = r
        intro h3
        cases r with
        | ok x w' =>
          cases x with
          | value v => exact h3
          | skip => exact h3
          | defer d => exact h3
          | enter f args =>
            refine ⟨h3.1, h3.2.mono ?_⟩
            rintro (⟨v⟩ | ⟨c⟩ | _) w'' hx
            · exact hx
            · exact hx.elim
            · obtain ⟨_, _, hx⟩ := hx; exact hx.elim
          | row r' args => exact h3
          | round l f t b c =>
            refine ⟨h3.1, h3.2.mono ?_⟩
            rintro (⟨v⟩ | ⟨c⟩ | _) w'' hx
            · exact hx
            · exact hx.elim
            · obtain ⟨_, _, hx⟩ := hx; exact hx.elim
          | _ => exact h3.elim
        | halt x w' =>
          cases x with
          | panic v => exact h3.elim
          | _ => exact h3.elim
      · rintro a' w' ⟨v, rfl, x, σ', g', hK, hr', hx, hl2⟩
        exact wOps_sound hb l (k + 1) _ σ' g' w' _ hl' hK (hF.mono (hl2.toN N)) hr' ((he.mono hl2).putd hdst hx) (by rw [size_put]; exact hn) (by rw [defers_put]; exact hm.mono hl2) (hle.trans (hl2.toN N))
    · rename_i hg
      have hw : Region.wanted o (yielded ops a.tmps) = false := guardOk_wanted hg (fun j want d x _ _ hx => he d x hx)
      rw [if_neg (by rw [hw]; simp)]
      exact ⟨fun f _ => hF.ok.fn f, wOps_sound hb l (k + 1) _ σ g1 w _ hl' h hF hr (he.putd hdst (rd_undef _ _)) (by rw [size_put]; exact hn) (by rw [defers_put]; exact hm) hle⟩
    · exact h.elim

theorem mwp_region {id : Nat} (hb : dstsOk n ops = true) (h : wOps P rd ops (fun env σ => Q .normal env σ) ops.toList env σ) : mwp P rd N n (.region id ops false) Q env σ := by
  intro g w a F m0 hF hr he hn hm
  refine wpIn_region ?_
  have := wOps_sound (P := P) (rd := rd) (N := N) (n := n) (ops := ops) (Q := Q) hb (g := g) (w0 := w) (F := F) (m0 := m0) ops.toList 0 env σ g w a (fun j => by simp) h hF hr he hn hm (.refl _ _ _)
  rw [Array.length_toList] at this
  rw [List.range_eq_range']
  exact this

/-- A function's body: what its results read as. -/
def tyAgg (P : Program) (t : TypeId) : Option (Option Nat) :=
  match P.underlying t with
  | some (.struct _) | some (.array _ _) => match P.info? t with | some i => some (some i.size) | none => none
  | some _ => some none
  | none => none

def loadMV (ta : Option Nat) (l : List MV) (off : Nat) : Option MV :=
  match ta with
  | some k => if off + k ≤ l.length then some (.agg ((l.drop off).take k)) else none
  | none => l[off]?

end
end Go.MV
