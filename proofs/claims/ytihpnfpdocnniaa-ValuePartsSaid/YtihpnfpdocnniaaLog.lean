/-
  The logic over abstract memory: environments, the relation of a state to a world, what a call, an operation, a piece of code comes to (MCalls, OpWp, mwp), and the rules for code. No program.
-/
import Derived.Test.YtihpnfpdocnniaaMem
set_option linter.unusedVariables false
set_option linter.unusedSimpArgs false
namespace Go.MV
open Go Go.RowKit

abbrev Env := List (Nat × MV)
def get : Env → Nat → Option MV
  | [], _ => none
  | (s, x) :: e, t => match Nat.beq s t with | true => some x | false => get e t

def EnvRd (g : Gh) (w : World) (env : Env) (tmps : Array Value) : Prop := ∀ t x, get env t = some x → ∃ v, tmps[t]? = some v ∧ Rd g w x v

theorem get_cons_self (t : Nat) (x : MV) (e : Env) : get ((t, x) :: e) t = some x := by simp [get, Nat.beq_eq_true_eq]
theorem get_cons_ne {s t : Nat} (x : MV) (e : Env) (h : s ≠ t) : get ((s, x) :: e) t = get e t := by
  simp only [get]
  cases hb : Nat.beq s t with
  | true => exact absurd (Nat.eq_of_beq_eq_true hb) h
  | false => rfl

theorem EnvRd.mono0 {g g' : Gh} {w w' : World} (hl : Le0 g w g' w') {env : Env} {tmps : Array Value} (h : EnvRd g w env tmps) : EnvRd g' w' env tmps :=
  fun t x hx => let ⟨v, hv, hr⟩ := h t x hx; ⟨v, hv, hr.mono0 hl⟩
theorem EnvRd.mono {g g' : Gh} {w w' : World} (hl : Le g w g' w') {env : Env} {tmps : Array Value} (h : EnvRd g w env tmps) : EnvRd g' w' env tmps := h.mono0 hl.toLe0
theorem EnvRd.put {g : Gh} {w : World} {env : Env} {tmps : Array Value} (h : EnvRd g w env tmps) {d : Nat} (hd : d < tmps.size) {x : MV} {v : Value} (hx : Rd g w x v) : EnvRd g w ((d, x) :: env) (tmps.setIfInBounds d v) := by
  intro t y hy
  by_cases e : d = t
  · subst e
    rw [get_cons_self] at hy
    injection hy with hy
    subst hy
    exact ⟨v, by simp [hd], hx⟩
  · rw [get_cons_ne _ _ e] at hy
    obtain ⟨u, hu, hr⟩ := h t y hy
    exact ⟨u, by rw [Array.getElem?_setIfInBounds_ne e]; exact hu, hr⟩
theorem EnvRd.of_sub {g : Gh} {w : World} {env env' : Env} {tmps : Array Value} (h : EnvRd g w env tmps) (hs : ∀ t y, get env' t = some y → ∃ x, get env t = some x ∧ Sub x y) : EnvRd g w env' tmps := fun t y hy => by
  obtain ⟨x, hx, hsub⟩ := hs t y hy
  obtain ⟨v, hv, hr⟩ := h t x hx
  exact ⟨v, hv, hsub _ _ _ hr⟩

/-- A loop's record. -/
structure LS where
  params : Array Tmp
  assign : Code
  body : Code
  env : Env
  n : Nat

inductive MObj where
  | cells (l : List MV)
  | row (ty : TypeId) (sz n : Nat)
  | loop (s : LoopState) (p : Option Code) (l : LS)
  | gone

abbrev MS := List MObj

def ObjRel (g : Gh) (w : World) (ob : Option Nat) (id : Nat) : MObj → Prop
  | .cells l => ∃ b us ty, ob = some b ∧ g.bk id = some b ∧ g.st b = 0 ∧ w.heap[b]? = some (.cells us.toArray ty (0, 0)) ∧ Rds g w l us
  | .row ty sz n => ∃ v us, g.lg id n = some v ∧ w.ownsRow g.B ty sz v n us ∧ v.ownBlock = ob ∧ (∀ b, ob = some b → g.st b = n * sz) ∧ ∀ k, n < k → g.lg id k = none
  | .loop s p ls => ∃ b l, ob = some b ∧ g.bk id = some b ∧ w.heap[b]? = some (.loop l) ∧ l.state = s ∧ l.pending = p ∧ l.params = ls.params ∧ l.assign = ls.assign ∧ l.body = ls.body ∧ l.tmps.size = ls.n ∧ EnvRd g w ls.env l.tmps
  | .gone => ob = none

structure Owns (g : Gh) (σ : MS) (w : World) (own : Nat → Option Nat) : Prop where
  obj : ∀ id o, σ[id]? = some o → ObjRel g w (own id) id o
  inj : ∀ i j b, own i = some b → own j = some b → i = j
  lt : ∀ id b, own id = some b → id < σ.length ∧ g.B ≤ b ∧ b < w.heap.size

structure Rel (g : Gh) (σ : MS) (w : World) : Prop where
  below : Below g.B g.w0 w
  base : g.B ≤ g.w0.heap.size
  fresh : ∀ b, w.heap.size ≤ b → g.st b = 0
  bkn : ∀ id, σ.length ≤ id → g.bk id = none
  lgn : ∀ t n, σ.length ≤ t → g.lg t n = none
  ex : ∃ own, Owns g σ w own

theorem Rel.size {g : Gh} {σ : MS} {w : World} (h : Rel g σ w) : g.B ≤ w.heap.size := Nat.le_trans h.base h.below.size

/-- What is reached: a result, a state, more knowledge. -/
def Gets (g : Gh) (w : World) (K : MV → MS → Prop) (v : Value) (w' : World) : Prop := ∃ x σ' g', K x σ' ∧ Rel g' σ' w' ∧ Rd g' w' x v ∧ Le g w g' w'

theorem Gets.mono {g : Gh} {w : World} {K K' : MV → MS → Prop} {v : Value} {w' : World} (h : Gets g w K v w') (hk : ∀ x σ', K x σ' → K' x σ') : Gets g w K' v w' :=
  let ⟨x, σ', g', a, b⟩ := h; ⟨x, σ', g', hk _ _ a, b⟩
theorem Gets.le {g g1 : Gh} {w w1 : World} (hl : Le g w g1 w1) {K : MV → MS → Prop} {v : Value} {w' : World} (h : Gets g1 w1 K v w') : Gets g w K v w' :=
  let ⟨x, σ', g', a, b, c, d⟩ := h; ⟨x, σ', g', a, b, c, hl.trans d⟩

def MCalls (P : Program) (f : FuncId) (args : List MV) (σ : MS) (R : MV → MS → Prop) : Prop :=
  ∀ (g : Gh) (w : World) (vs : List Value), Rel g σ w → Rds g w args vs → CallsIn Fence.wide 0 P f vs.toArray w fun e w' => ∃ v, e = .returned v ∧ Gets g w R v w'

theorem MCalls.mono {P : Program} {f : FuncId} {args : List MV} {σ : MS} {R R' : MV → MS → Prop} (h : MCalls P f args σ R) (hr : ∀ x σ', R x σ' → R' x σ') : MCalls P f args σ R' :=
  fun g w vs hrel hrd => (h g w vs hrel hrd).mono fun e w' ⟨v, he, hg⟩ => ⟨v, he, hg.mono hr⟩
theorem MCalls.sub {P : Program} {f : FuncId} {args args' : List MV} {σ : MS} {R : MV → MS → Prop} (h : MCalls P f args' σ R) (hs : Subs args args') : MCalls P f args σ R :=
  fun g w vs hrel hrd => h g w vs hrel (hs.rds hrd)

def FOk (g : Gh) (rd : Option Nat) (F : Fence) : Prop :=
  match rd with
  | none => F = Fence.wide
  | some id => ∃ b, g.bk id = some b ∧ F = Fence.wide.inRound b
theorem FOk.mono {g g' : Gh} {w w' : World} (hl : Le g w g' w') {rd : Option Nat} {F : Fence} (h : FOk g rd F) : FOk g' rd F := by
  cases rd with
  | none => exact h
  | some id => obtain ⟨b, hb, e⟩ := h; exact ⟨b, hl.bk _ _ hb, e⟩
theorem FOk.fn {g : Gh} {rd : Option Nat} {F : Fence} (h : FOk g rd F) (f : FuncId) : F.fn f := by
  cases rd with
  | none => rw [show F = Fence.wide from h]; trivial
  | some id => obtain ⟨b, _, e⟩ := h; rw [e]; trivial
theorem FOk.depth {g : Gh} {rd : Option Nat} {F : Fence} (h : FOk g rd F) {n m : Nat} : F.depth.isSome = true → n ≤ m := by
  cases rd with
  | none => rw [show F = Fence.wide from h]; intro h; cases h
  | some id => obtain ⟨b, _, e⟩ := h; rw [e]; intro h; cases h
theorem FOk.calls {g : Gh} {rd : Option Nat} {F : Fence} (h : FOk g rd F) {n m : Nat} {P : Program} {f : FuncId} {args : Array Value} {w : World} {R : Ending → World → Prop} (hc : CallsIn Fence.wide n P f args w R) : CallsIn F m P f args w R := by
  have hm : CallsIn Fence.wide m P f args w R := callsIn_wide.2 (callsIn_wide.1 hc)
  cases rd with
  | none => rw [show F = Fence.wide from h]; exact hm
  | some id => obtain ⟨b, _, e⟩ := h; rw [e]; exact hm.inRound b

/-- Growth, as far as the objects below N are concerned. -/
structure LeN (N : Nat) (g : Gh) (w : World) (g' : Gh) (w' : World) : Prop where
  B : g'.B = g.B
  w0 : g'.w0 = g.w0
  st : ∀ b k, k < g.st b → k < g'.st b ∧ w'.cell? ⟨b, k, none⟩ = w.cell? ⟨b, k, none⟩
  bk : ∀ id b, id < N → g.bk id = some b → g'.bk id = some b
  lg : ∀ t n v, t < N → g.lg t n = some v → g'.lg t n = some v
  size : w.heap.size ≤ w'.heap.size
  kept : ∀ (b : Nat) (x : Option (List Deferred)), w.heap[b]? = some (Obj.deferred x) → w'.heap[b]? = some (Obj.deferred x)
theorem Le.toN {g g' : Gh} {w w' : World} (h : Le g w g' w') (N : Nat) : LeN N g w g' w' := ⟨h.B, h.w0, h.st, fun id b _ => h.bk id b, fun t n v _ => h.lg t n v, h.size, h.kept⟩
theorem LeN.refl (N : Nat) (g : Gh) (w : World) : LeN N g w g w := (Le.refl g w).toN N
theorem LeN.trans {N : Nat} {g g' g'' : Gh} {w w' w'' : World} (h : LeN N g w g' w') (k : LeN N g' w' g'' w'') : LeN N g w g'' w'' :=
  ⟨k.B.trans h.B, k.w0.trans h.w0, fun b i hi => let ⟨a, e⟩ := h.st b i hi; let ⟨a', e'⟩ := k.st b i a; ⟨a', e'.trans e⟩, fun id b hid hb => k.bk _ _ hid (h.bk _ _ hid hb), fun t n v ht hv => k.lg _ _ _ ht (h.lg _ _ _ ht hv), Nat.le_trans h.size k.size,
   fun b x hx => k.kept _ _ (h.kept _ _ hx)⟩
theorem LeN.le {N : Nat} {g g' : Gh} {w w' : World} (h : LeN N g w g' w') (hb : ∀ id, N ≤ id → g.bk id = none) (hlg : ∀ t k, N ≤ t → g.lg t k = none) : Le g w g' w' :=
  ⟨⟨h.B, h.w0, h.st, fun id b e => (Nat.lt_or_ge id N).elim (fun hl => h.bk id b hl e) (fun hg => by rw [hb id hg] at e; cases e), fun t k v e => (Nat.lt_or_ge t N).elim (fun hl => h.lg t k v hl e) (fun hg => by rw [hlg t k hg] at e; cases e), h.size⟩, h.kept⟩
theorem LeN.mono {N M : Nat} (hN : M ≤ N) {g g' : Gh} {w w' : World} (h : LeN N g w g' w') : LeN M g w g' w' := ⟨h.B, h.w0, h.st, fun id b hid => h.bk id b (by omega), fun t n v ht => h.lg t n v (by omega), h.size, h.kept⟩

def FOkN (N : Nat) (g : Gh) (rd : Option Nat) (F : Fence) : Prop :=
  match rd with
  | none => F = Fence.wide
  | some id => id < N ∧ ∃ b, g.bk id = some b ∧ F = Fence.wide.inRound b
theorem FOkN.mono {N : Nat} {g g' : Gh} {w w' : World} (hl : LeN N g w g' w') {rd : Option Nat} {F : Fence} (h : FOkN N g rd F) : FOkN N g' rd F := by
  cases rd with
  | none => exact h
  | some id => obtain ⟨hid, b, hb, e⟩ := h; exact ⟨hid, b, hl.bk _ _ hid hb, e⟩
theorem FOkN.ok {N : Nat} {g : Gh} {rd : Option Nat} {F : Fence} (h : FOkN N g rd F) : FOk g rd F := by
  cases rd with
  | none => exact h
  | some id => exact h.2

def constMV : Value → Option MV
  | .bool b => some (.bool b)
  | .int k n => some (.int k n)
  | .string s => some (.str s)
  | .pointer none => some .ptr0
  | .slice none 0 0 => some .lst0
  | .nilFunc => some .fn0
  | .nilIface => some .iface0
  | .iface t (.int k n) => some (.iface t (.int k n))
  | .iface t (.string s) => some (.iface t (.str s))
  | _ => none
theorem constMV_rd (g : Gh) (w : World) {v : Value} {x : MV} (h : constMV v = some x) : Rd g w x v := by
  unfold constMV at h
  split at h <;> first
    | (injection h with h; subst h; first | exact .bool _ | exact .int _ _ | exact .str _ | exact .ptr0 | exact .lst0 | exact .fn0 | exact .iface0 | exact .iface _ _ _ (.int _ _) | exact .iface _ _ _ (.str _))
    | cases h
def evo (env : Env) : Operand → Option MV
  | .tmp t => get env t
  | .const v => constMV v
  | .func f => some (.fn (.func f) [] [])
  | .global _ => none
theorem evo_rd {g : Gh} {w : World} {env : Env} {a : Act} (h : EnvRd g w env a.tmps) {o : Operand} {x : MV} (hx : evo env o = some x) : Rd g w x (a.eval o) := by
  cases o with
  | tmp t =>
    obtain ⟨v, hv, hr⟩ := h t x hx
    simp only [Act.eval, Array.getD_eq_getD_getElem?, hv, Option.getD_some]
    exact hr
  | const v => exact constMV_rd _ _ hx
  | func f =>
    injection hx with hx
    subst hx
    exact .fn' (.nil _ _) (.nil _ _)
  | global _ => cases hx

def OpWp (P : Program) (rd : Option Nat) (o : Oper) (env : Env) (σ : MS) (K : MV → MS → Prop) : Prop :=
  ∀ (g : Gh) (w : World) (a : Act) (F : Fence), FOk g rd F → Rel g σ w → (∀ x ∈ o.op.operands, ∀ m, evo env x = some m → Rd g w m (a.eval x)) →
    o.wpIn F 0 P a w (fun a' w' => ∃ v, a' = a.put o.dst v ∧ Gets g w K v w') (fun _ _ _ => False)

theorem OpWp.mono {P : Program} {rd : Option Nat} {o : Oper} {env : Env} {σ : MS} {K K' : MV → MS → Prop} (h : OpWp P rd o env σ K) (hk : ∀ x σ', K x σ' → K' x σ') : OpWp P rd o env σ K' :=
  fun g w a F hF hr ho => Oper.wpIn_mono (fun a' w' ⟨v, e, hg⟩ => ⟨v, e, hg.mono hk⟩) (h g w a F hF hr ho)

def Marks (m0 : Nat) (w : World) (ds : List Deferred) : Prop := m0 ≤ w.heap.size ∧ (∀ d ∈ ds, ∃ r, m0 ≤ r ∧ d = { target := .collected r, args := #[] } ∧ w.heap[r]? = some (Obj.deferred (some []))) ∧ ds.Pairwise fun d e => ∀ r s, d.target = .collected r → e.target = .collected s → r ≠ s

theorem Marks.nil (w : World) : Marks w.heap.size w [] := ⟨Nat.le_refl _, fun d h => (by cases h), List.Pairwise.nil⟩
theorem Marks.mono {g g' : Gh} {w w' : World} (hl : Le g w g' w') {m0 : Nat} {ds : List Deferred} (h : Marks m0 w ds) : Marks m0 w' ds :=
  ⟨Nat.le_trans h.1 hl.size, fun d hd => let ⟨r, hm, e, hr⟩ := h.2.1 d hd; ⟨r, hm, e, hl.kept _ _ hr⟩, h.2.2⟩

theorem Marks.monoN {N : Nat} {g g' : Gh} {w w' : World} (hl : LeN N g w g' w') {m0 : Nat} {ds : List Deferred} (h : Marks m0 w ds) : Marks m0 w' ds :=
  ⟨Nat.le_trans h.1 hl.size, fun d hd => let ⟨r, hm, e, hr⟩ := h.2.1 d hd; ⟨r, hm, e, hl.kept _ _ hr⟩, h.2.2⟩

/-- What holds where a piece of code is left. -/
def Left_ (N : Nat) (g : Gh) (w : World) (n m0 : Nat) (Q : Exit → Env → MS → Prop) (e : Exit) (a : Act) (w' : World) : Prop :=
  ∃ env σ g', Q e env σ ∧ Rel g' σ w' ∧ EnvRd g' w' env a.tmps ∧ LeN N g w g' w' ∧ a.tmps.size = n ∧ Marks m0 w' a.defers

def mwp (P : Program) (rd : Option Nat) (N n : Nat) (c : Code) (Q : Exit → Env → MS → Prop) (env : Env) (σ : MS) : Prop :=
  ∀ (g : Gh) (w : World) (a : Act) (F : Fence) (m0 : Nat), FOkN N g rd F → Rel g σ w → EnvRd g w env a.tmps → a.tmps.size = n → Marks m0 w a.defers → c.wpIn F 0 P (Left_ N g w n m0 Q) a w

section rules
variable {P : Program} {rd : Option Nat} {N n : Nat} {Q : Exit → Env → MS → Prop} {env : Env} {σ : MS}

theorem Left_.le {m0 : Nat} {g g1 : Gh} {w w1 : World} (hl : LeN N g w g1 w1) {e : Exit} {a : Act} {w' : World} (h : Left_ N g1 w1 n m0 Q e a w') : Left_ N g w n m0 Q e a w' :=
  let ⟨env, σ, g', h1, h2, h3, h4, h5, h6⟩ := h; ⟨env, σ, g', h1, h2, h3, hl.trans h4, h5, h6⟩

theorem mwp_mono {c : Code} {Q' : Exit → Env → MS → Prop} (h : mwp P rd N n c Q env σ) (hq : ∀ e env σ, Q e env σ → Q' e env σ) : mwp P rd N n c Q' env σ :=
  fun g w a F m0 hF hr he hn hm => wpIn_mono (h g w a F m0 hF hr he hn hm) fun e a' w' ⟨env', σ', g', hQ, rest⟩ => ⟨env', σ', g', hq _ _ _ hQ, rest⟩

theorem mwp_skip (h : Q .normal env σ) : mwp P rd N n .skip Q env σ := fun g w a F m0 hF hr he hn hm => wpIn_skip ⟨env, σ, g, h, hr, he, .refl _ _ _, hn, hm⟩
theorem mwp_ret (h : Q .ret env σ) : mwp P rd N n .ret Q env σ := fun g w a F m0 hF hr he hn hm => wpIn_ret ⟨env, σ, g, h, hr, he, .refl _ _ _, hn, hm⟩
theorem mwp_exit {id : Nat} (h : Q (.exit id) env σ) : mwp P rd N n (.exit id) Q env σ := fun g w a F m0 hF hr he hn hm => wpIn_exit ⟨env, σ, g, h, hr, he, .refl _ _ _, hn, hm⟩

@[reducible] def ThenM (N : Env → MS → Prop) (Q : Exit → Env → MS → Prop) : Exit → Env → MS → Prop
  | .normal, env, σ => N env σ
  | e, env, σ => Q e env σ

theorem mwp_seq {x y : Code} (h : mwp P rd N n x (ThenM (mwp P rd N n y Q) Q) env σ) : mwp P rd N n (.seq x y) Q env σ := by
  intro g w a F m0 hF hr he hn hm
  refine wpIn_seq (wpIn_mono (h g w a F m0 hF hr he hn hm) ?_)
  rintro e a' w' ⟨env', σ', g', hQ, hr', he', hl, hn', hm'⟩
  cases e with
  | normal => exact wpIn_mono (hQ g' w' a' F m0 (hF.mono hl) hr' he' hn' hm') (fun e a w h => h.le hl)
  | exit id => exact ⟨env', σ', g', hQ, hr', he', hl, hn', hm'⟩
  | goto l => exact ⟨env', σ', g', hQ, hr', he', hl, hn', hm'⟩
  | ret => exact ⟨env', σ', g', hQ, hr', he', hl, hn', hm'⟩
  | panic c => exact ⟨env', σ', g', hQ, hr', he', hl, hn', hm'⟩
  | outgrown => exact ⟨env', σ', g', hQ, hr', he', hl, hn', hm'⟩

theorem mwp_cond {c : Operand} {x y : Code} {t : Bool} (hc : evo env c = some (.bool t)) (h : mwp P rd N n (if t then x else y) Q env σ) : mwp P rd N n (.cond c x y) Q env σ :=
  fun g w a F m0 hF hr he hn hm => wpIn_cond (t := t) ((evo_rd he hc).inv_bool) (h g w a F m0 hF hr he hn hm)
theorem mwp_cond_split {c : Operand} {x y : Code} {t : Bool} (hc : evo env c = some (.bool t)) (ht : t = true → mwp P rd N n x Q env σ) (hf : t = false → mwp P rd N n y Q env σ) : mwp P rd N n (.cond c x y) Q env σ := by
  cases t with
  | true => exact mwp_cond hc (ht rfl)
  | false => exact mwp_cond hc (hf rfl)

@[reducible] def BlockM (id : Nat) (Q : Exit → Env → MS → Prop) : Exit → Env → MS → Prop
  | .exit id', env, σ => match Nat.beq id' id with | true => Q .normal env σ | false => Q (.exit id') env σ
  | e, env, σ => Q e env σ

theorem mwp_block {id : Nat} {c : Code} (h : mwp P rd N n c (BlockM id Q) env σ) : mwp P rd N n (.block id c) Q env σ := by
  intro g w a F m0 hF hr he hn hm
  refine wpIn_block (wpIn_mono (h g w a F m0 hF hr he hn hm) ?_)
  rintro e a' w' ⟨env', σ', g', hQ, rest⟩
  cases e with
  | exit id' =>
    simp only [BlockM] at hQ
    simp only [Exit.inBlock]
    split
    · rename_i e; rw [e, Nat.beq_refl] at hQ; exact ⟨env', σ', g', hQ, rest⟩
    · rename_i e
      have : Nat.beq id' id = false := by
        cases hb : Nat.beq id' id with
        | true => exact absurd (Nat.eq_of_beq_eq_true hb) e
        | false => rfl
      rw [this] at hQ; exact ⟨env', σ', g', hQ, rest⟩
  | normal => exact ⟨env', σ', g', hQ, rest⟩
  | goto l => exact ⟨env', σ', g', hQ, rest⟩
  | ret => exact ⟨env', σ', g', hQ, rest⟩
  | panic c => exact ⟨env', σ', g', hQ, rest⟩
  | outgrown => exact ⟨env', σ', g', hQ, rest⟩

/-- A step in what is known alone. -/
theorem mwp_ghost {c : Code} {env' : Env} {σ' : MS} (hg : ∀ g w (tmps : Array Value), Rel g σ w → EnvRd g w env tmps → ∃ g', Rel g' σ' w ∧ EnvRd g' w env' tmps ∧ LeN N g w g' w ∧ ∀ F, FOkN N g rd F → FOkN N g' rd F) (h : mwp P rd N n c Q env' σ') : mwp P rd N n c Q env σ := by
  intro g w a F m0 hF hr he hn hm
  obtain ⟨g', hr', he', hl, hf⟩ := hg g w a.tmps hr he
  exact wpIn_mono (h g' w a F m0 (hf F hF) hr' he' hn hm) (fun e a w h => h.le hl)

theorem mwp_env {c : Code} {env' : Env} (hs : ∀ t y, get env' t = some y → ∃ x, get env t = some x ∧ Sub x y) (h : mwp P rd N n c Q env' σ) : mwp P rd N n c Q env σ :=
  mwp_ghost (fun g w tmps hr he => ⟨g, hr, he.of_sub hs, .refl _ _ _, fun _ h => h⟩) h

theorem exists_least (p : Nat → Prop) (h : ∃ n, p n) : ∃ n, p n ∧ ∀ m, m < n → ¬ p m := by
  obtain ⟨n, hn⟩ := h
  induction n using Nat.strongRecOn with
  | _ n ih =>
    by_cases hm : ∃ m, m < n ∧ p m
    · obtain ⟨m, hlt, hp⟩ := hm
      exact ih m hlt hp
    · exact ⟨n, hn, fun m hlt hp => hm ⟨m, hlt, hp⟩⟩

/-- A loop: I is what holds at each round's head, m goes down. -/
theorem mwp_loop {c : Code} {α : Type} (I : α → Env → MS → Prop) (m : α → Nat) (x₀ : α) (h₀ : I x₀ env σ)
    (round : ∀ x env σ, I x env σ → mwp P rd N n c (ThenM (fun env' σ' => ∃ y, m y < m x ∧ I y env' σ') Q) env σ) : mwp P rd N n (.loop c) Q env σ := by
  classical
  intro g w a F m0 hF hr he hn hm
  let J : Act → World → Nat → Prop := fun a' w' k => ∃ x env' σ' g', m x = k ∧ I x env' σ' ∧ Rel g' σ' w' ∧ EnvRd g' w' env' a'.tmps ∧ LeN N g w g' w' ∧ a'.tmps.size = n ∧ Marks m0 w' a'.defers
  let μ : Act → World → Nat := fun a' w' => if h : ∃ k, J a' w' k then Classical.choose (exists_least _ h) else 0
  have hμ : ∀ a' w' k, J a' w' k → J a' w' (μ a' w') ∧ μ a' w' ≤ k := by
    intro a' w' k hk
    have hex : ∃ k, J a' w' k := ⟨k, hk⟩
    have hs := Classical.choose_spec (exists_least _ hex)
    have e : μ a' w' = Classical.choose (exists_least _ hex) := by simp only [μ]; rw [dif_pos hex]
    rw [e]
    exact ⟨hs.1, Nat.le_of_not_lt fun hlt => hs.2 k hlt hk⟩
  refine wpIn_loop (fun a' w' => ∃ k, J a' w' k) μ ⟨_, x₀, env, σ, g, rfl, h₀, hr, he, .refl _ _ _, hn, hm⟩ ?_
  rintro a1 w1 ⟨k1, hk1⟩
  obtain ⟨⟨x, env1, σ1, g1, hx, hI, hr1, he1, hl1, hn1, hm1⟩, _⟩ := hμ a1 w1 k1 hk1
  refine wpIn_mono (round x env1 σ1 hI g1 w1 a1 F m0 (hF.mono hl1) hr1 he1 hn1 hm1) ?_
  rintro e a2 w2 ⟨env2, σ2, g2, hQ, hr2, he2, hl2, hn2, hm2⟩
  cases e with
  | normal =>
    obtain ⟨y, hy, hIy⟩ := hQ
    have hJ : J a2 w2 (m y) := ⟨y, env2, σ2, g2, rfl, hIy, hr2, he2, hl1.trans hl2, hn2, hm2⟩
    have := hμ a2 w2 _ hJ
    exact ⟨⟨_, hJ⟩, by omega⟩
  | exit id => exact ⟨env2, σ2, g2, hQ, hr2, he2, hl1.trans hl2, hn2, hm2⟩
  | goto l => exact ⟨env2, σ2, g2, hQ, hr2, he2, hl1.trans hl2, hn2, hm2⟩
  | ret => exact ⟨env2, σ2, g2, hQ, hr2, he2, hl1.trans hl2, hn2, hm2⟩
  | panic ch => exact ⟨env2, σ2, g2, hQ, hr2, he2, hl1.trans hl2, hn2, hm2⟩
  | outgrown => exact ⟨env2, σ2, g2, hQ, hr2, he2, hl1.trans hl2, hn2, hm2⟩

end rules
end Go.MV
