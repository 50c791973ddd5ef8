/-
  The rules for a range over a function: the statement, the call of yield. No program.
-/
import Derived.Test.YtihpnfpdocnniaaApp
set_option linter.unusedVariables false
set_option linter.unusedSimpArgs false
namespace Go.MV
open Go Go.RowKit

/-- A new object of whatever kind but a row. -/
theorem Rel.alloc_gen {g : Gh} {σ : MS} {w : World} (h : Rel g σ w) (o : Obj) (mo : MObj)
    (H : ∀ g', Le g w g' (w.alloc o) → g'.bk σ.length = some w.heap.size → g'.st w.heap.size = 0 → ObjRel g' (w.alloc o) (some w.heap.size) σ.length mo) :
    ∃ g', Rel g' (σ ++ [mo]) (w.alloc o) ∧ Le g w g' (w.alloc o) ∧ g'.bk σ.length = some w.heap.size := by
  obtain ⟨own, ho0⟩ := h.ex
  have l1 := Le.alloc_stab h o 0
  have r1 := h.alloc_stab o 0
  have l2 : Le (g.stab w.heap.size 0) (w.alloc o) ((g.stab w.heap.size 0).bind σ.length w.heap.size) (w.alloc o) := Le.bind (r1.bkn σ.length (Nat.le_refl _))
  refine ⟨(g.stab w.heap.size 0).bind σ.length w.heap.size, ⟨r1.below, r1.base, r1.fresh, fun id hid => ?_, fun t n ht => r1.lgn t n (by simp at ht; omega), ?_⟩, l1.trans l2, by simp [Gh.bind]⟩
  · simp at hid
    simp only [Gh.bind]
    rw [if_neg (by omega)]
    exact r1.bkn id (by omega)
  · have ho : Owns (g.stab w.heap.size 0) σ (w.alloc o) own := by
      refine ho0.keep l1 (fun id b e => ?_) (fun _ _ => rfl)
      have hlt := (ho0.lt id b e).2.2
      refine ⟨Below.heap_alloc w o b hlt, ?_⟩
      simp only [Gh.stab]
      rw [if_neg (by omega)]
    have ho' := ho.keep l2 (fun _ _ _ => ⟨rfl, rfl⟩) (fun _ _ => rfl)
    have hold : ∀ id b, own id = some b → b < w.heap.size := fun id b e => (ho0.lt id b e).2.2
    refine ⟨fun id => if id = σ.length then some w.heap.size else own id, ⟨fun id o' hid => ?_, fun i j b hi hj => ?_, fun id b hid => ?_⟩⟩
    · by_cases e : id = σ.length
      · subst e
        rw [List.getElem?_append_right (Nat.le_refl _)] at hid
        simp at hid
        subst hid
        simp only [if_true]
        exact H _ (l1.trans l2) (by simp [Gh.bind]) (by simp [Gh.bind, Gh.stab])
      · rw [if_neg e]
        have hlt : id < σ.length := by
          have := (List.getElem?_eq_some_iff.1 hid).1
          simp at this
          omega
        rw [List.getElem?_append_left hlt] at hid
        exact ho'.obj id o' hid
    · by_cases ei : i = σ.length <;> by_cases ej : j = σ.length
      · omega
      · simp only [ei, if_true] at hi
        simp only [ej, if_false] at hj
        have := hold j b hj
        injection hi with hi
        omega
      · simp only [ej, if_true] at hj
        simp only [ei, if_false] at hi
        have := hold i b hi
        injection hj with hj
        omega
      · simp only [ei, ej, if_false] at hi hj
        exact ho'.inj i j b hi hj
    · by_cases e : id = σ.length
      · simp only [e, if_true] at hid
        injection hid with hid
        subst hid
        exact ⟨by simp [e], h.size, by simp⟩
      · simp only [e, if_false] at hid
        obtain ⟨h1, h2, h3⟩ := ho'.lt id b hid
        exact ⟨by simp; omega, h2, h3⟩

/-- A loop's record is written. -/
theorem Rel.loop_set {g : Gh} {σ : MS} {w : World} (h : Rel g σ w) {id b : Nat} {s : LoopState} {p : Option Code} {ls : LS} (hσ : σ[id]? = some (.loop s p ls)) (hb : g.bk id = some b) {l : Loop} (hl : w.heap[b]? = some (Obj.loop l)) (s' : LoopState) (p' : Option Code) :
    Rel g (σ.set id (.loop s' p' ls)) { w with heap := w.heap.setIfInBounds b (Obj.loop { l with state := s', pending := p' }) } ∧ Le g w g { w with heap := w.heap.setIfInBounds b (Obj.loop { l with state := s', pending := p' }) } := by
  obtain ⟨own, hown⟩ := h.ex
  obtain ⟨b', l', e1, e2, e3, e4, e5, e6, e7, e8, e9, e10⟩ := hown.obj _ _ hσ
  rw [hb] at e2; injection e2 with e2; subst e2
  rw [hl] at e3
  injection e3 with e3
  injection e3 with e3
  subst e3
  have hblt : b < w.heap.size := (Array.getElem?_eq_some_iff.1 hl).1
  have hidlt : id < σ.length := (List.getElem?_eq_some_iff.1 hσ).1
  have hne : ∀ c, c ≠ b → ({ w with heap := w.heap.setIfInBounds b (Obj.loop { l with state := s', pending := p' }) } : World).heap[c]? = w.heap[c]? := fun c hc => by
    show (w.heap.setIfInBounds b _)[c]? = _
    rw [Array.getElem?_setIfInBounds_ne (fun e => hc e.symm)]
  have hbB : g.B ≤ b := (hown.lt id b e1).2.1
  have hcell : ∀ a : Addr, ({ w with heap := w.heap.setIfInBounds b (Obj.loop { l with state := s', pending := p' }) } : World).cell? a = w.cell? a := by
    intro a
    by_cases e : a.block = b
    · simp [World.cell?, e, hl, Array.getElem?_setIfInBounds_self_of_lt hblt]
    · exact World.cell?_of_block (w := w) (hne _ e)
  have hle : Le g w g { w with heap := w.heap.setIfInBounds b (Obj.loop { l with state := s', pending := p' }) } :=
    ⟨⟨rfl, rfl, fun c k hk => ⟨hk, hcell _⟩, fun _ _ h => h, fun _ _ _ h => h, by simp⟩, fun c x hx => by
      have : c ≠ b := fun e => by subst e; rw [hl] at hx; cases hx
      exact (hne c this).trans hx⟩
  refine ⟨⟨⟨h.below.os, h.below.tape, h.below.output, by simpa using h.below.size, fun k hk => (hne k (by omega)).trans (h.below.block k hk)⟩, h.base, fun c hc => h.fresh c (by simpa using hc), fun i hi => h.bkn i (by simpa using hi), fun t k ht => h.lgn t k (by simpa using ht), own, ⟨fun i ob hi => ?_, hown.inj, fun i c hc => ?_⟩⟩, hle⟩
  · rw [List.getElem?_set] at hi
    by_cases e : id = i
    · subst e
      rw [if_pos rfl, if_pos hidlt] at hi
      injection hi with hi
      subst hi
      refine ⟨b, { l with state := s', pending := p' }, e1, hb, ?_, rfl, rfl, e6, e7, e8, e9, e10.mono hle⟩
      show (w.heap.setIfInBounds b _)[b]? = _
      rw [Array.getElem?_setIfInBounds_self_of_lt hblt]
    · rw [if_neg e] at hi
      refine (hown.obj i ob hi).keep0 hle.toLe0 (fun c hc => ⟨hne c (fun ec => ?_), rfl⟩) (fun _ => rfl)
      subst ec
      exact e (hown.inj _ _ _ e1 hc)
  · obtain ⟨h1, h2, h3⟩ := hown.lt i c hc
    exact ⟨by simpa using h1, h2, by simpa using h3⟩

theorem Rel.loop_at {g : Gh} {σ : MS} {w : World} (h : Rel g σ w) {id : Nat} {s : LoopState} {p : Option Code} {ls : LS} (hσ : σ[id]? = some (.loop s p ls)) : ∃ b l, g.bk id = some b ∧ w.heap[b]? = some (Obj.loop l) ∧ l.state = s ∧ l.pending = p ∧ l.params = ls.params ∧ l.assign = ls.assign ∧ l.body = ls.body ∧ l.tmps.size = ls.n ∧ EnvRd g w ls.env l.tmps := by
  obtain ⟨own, hown⟩ := h.ex
  obtain ⟨b, l, e1, e2, e3, rest⟩ := hown.obj _ _ hσ
  exact ⟨b, l, e2, e3, rest⟩

/-- An object is forgotten. -/
theorem Rel.gone {g : Gh} {σ : MS} {w : World} (h : Rel g σ w) (id : Nat) : Rel g (σ.set id .gone) w := by
  obtain ⟨own, hown⟩ := h.ex
  refine ⟨h.below, h.base, h.fresh, fun i hi => h.bkn i (by simpa using hi), fun t k ht => h.lgn t k (by simpa using ht), fun i => if i = id then none else own i, ⟨fun i o hi => ?_, fun i j b hi hj => ?_, fun i b hi => ?_⟩⟩
  · by_cases e : i = id
    · subst e
      rw [List.getElem?_set] at hi
      rw [if_pos rfl] at hi
      split at hi
      · injection hi with hi
        subst hi
        simp [ObjRel]
      · cases hi
    · rw [if_neg e]
      rw [List.getElem?_set_ne (fun h => e h.symm)] at hi
      exact hown.obj i o hi
  · split at hi
    · cases hi
    · split at hj
      · cases hj
      · exact hown.inj i j b hi hj
  · split at hi
    · cases hi
    · obtain ⟨h1, h2⟩ := hown.lt i b hi
      exact ⟨by simpa using h1, h2⟩

section
variable {P : Program} {rd : Option Nat} {N n : Nat} {Q : Exit → Env → MS → Prop} {env : Env} {σ : MS} {o : Oper} {K : MV → MS → Prop}

def bindPs : List Tmp → List MV → Env → Env
  | t :: ts, x :: xs, env => bindPs ts xs ((t, x) :: env)
  | _, _, env => env

theorem bindPs_rd {g : Gh} {w : World} : ∀ {ps : List Tmp} {xs : List MV} {us : List Value} {env : Env} {tmps : Array Value}, Rds g w xs us → (∀ t ∈ ps, t < tmps.size) → EnvRd g w env tmps → EnvRd g w (bindPs ps xs env) ((ps.zip us).foldl (fun tmps (p : Tmp × Value) => tmps.setIfInBounds p.1 p.2) tmps)
  | [], xs, us, env, tmps, _, _, he => by simpa [bindPs] using he
  | t :: ts, [], us, env, tmps, hr, _, he => by
    have : us = [] := List.eq_nil_of_length_eq_zero hr.1
    subst this
    simpa [bindPs] using he
  | t :: ts, x :: xs, us, env, tmps, hr, hb, he => by
    obtain ⟨u, us', rfl, h1, h2⟩ := hr.uncons
    simp only [bindPs, List.zip_cons_cons, List.foldl_cons]
    exact bindPs_rd h2 (fun s hs => by simpa using hb s (List.mem_cons_of_mem _ hs)) (he.put (hb t (List.mem_cons_self ..)) h1)
theorem foldl_size : ∀ (l : List (Tmp × Value)) (tmps : Array Value), (l.foldl (fun tmps (p : Tmp × Value) => tmps.setIfInBounds p.1 p.2) tmps).size = tmps.size
  | [], tmps => rfl
  | p :: l, tmps => by rw [List.foldl_cons, foldl_size l]; simp

def RoundQ (id N : Nat) (K : MV → MS → Prop) (e : Exit) (_ : Env) (σf : MS) : Prop :=
  ∃ σ' junk p ls, σf = σ' ++ junk ∧ N ≤ σ'.length ∧ (junk = [] ∨ ClS σ') ∧ σ'[id]? = some (.loop .busy p ls) ∧
    match e with
    | .normal => K (.bool true) (σ'.set id (.loop .ready none ls))
    | .ret => K (.bool false) (σ'.set id (.loop .done (some .ret) ls))
    | .exit x => K (.bool false) (σ'.set id (.loop .done (some (.exit x)) ls))
    | _ => False

theorem run_endRound {w : World} {b : Nat} {l : Loop} (h : w.heap[b]? = some (Obj.loop l)) (j : Option Code) : (Instr.endRound b j).run P w = .ok (.bool j.isNone) { w with heap := w.heap.setIfInBounds b (Obj.loop { l with state := if j.isNone then .ready else .done, pending := j }) } := by
  simp [Instr.endRound, Instr.getLoop, getObj, setObj, Sem.run, h, bind, Sem.bind, pure]
theorem run_beginRound {w : World} {b : Nat} {l : Loop} (h : w.heap[b]? = some (Obj.loop l)) (hs : l.state = .ready) : (Instr.beginRound b).run P w = .ok () { w with heap := w.heap.setIfInBounds b (Obj.loop { l with state := .busy }) } := by
  simp [Instr.beginRound, Instr.getLoop, getObj, setObj, Sem.run, h, hs, bind, Sem.bind, pure]

/-- The call of yield. -/
theorem op_yield {f : Operand} {args : Array Operand} {ts : Array TypeId} {id : Nat} {xs : List MV} {p : Option Code} {ls : LS} (ho : o.op = .call { callee := .value f, args := args, argTypes := ts }) (hf : evo env f = some (.yld id)) (hx : evos env args.toList = some xs)
    (hσ : σ[id]? = some (.loop .ready p ls)) (hps : ls.params.size = args.size) (hpb : ls.params.toList.all (fun t => Nat.blt t ls.n) = true)
    (h : mwp P (some id) σ.length ls.n ls.assign (fun e env1 σ1 => e = .normal ∧ ∃ p1, σ1[id]? = some (.loop .ready p1 ls) ∧ mwp P (some id) σ.length ls.n ls.body (RoundQ id σ.length K) env1 (σ1.set id (.loop .busy p1 ls))) (bindPs ls.params.toList xs ls.env) σ) : OpWp P rd o env σ K := by
  intro g w a F hF hr hop
  refine ⟨fun f _ => hF.fn f, ?_⟩
  rw [Oper.semAt_eq _ _ _ (by simp [ho])]
  obtain ⟨b, hb, e⟩ := (hop f (by simp [ho, Op.operands, Call.operands]) _ hf).inv_yld
  have k3 : Rds g w xs (args.toList.map a.eval) := evos_rds (fun x hx m hm => hop x (by simp [ho, Op.operands, Call.operands]; exact .inr (by simpa using hx)) m hm) hx
  obtain ⟨b', l, hb', hl, l1, l2, l3, l4, l5, l6, l7⟩ := hr.loop_at hσ
  rw [hb] at hb'
  injection hb' with hb'
  subst hb'
  have hidlt : id < σ.length := (List.getElem?_eq_some_iff.1 hσ).1
  have hrun : (execOp a.eval o).run P w = .ok (.round b l.fn ((ls.params.toList.zip (args.toList.map a.eval)).foldl (fun tmps (p : Tmp × Value) => tmps.setIfInBounds p.1 p.2) l.tmps) l.assign l.body) w := by
    have hsz : (Array.map a.eval args).size = l.params.size := by rw [l3, hps]; simp
    have hz : (l.params.zip (Array.map a.eval args)).foldl (fun tmps (p : Tmp × Value) => tmps.setIfInBounds p.1 p.2) l.tmps = (ls.params.toList.zip (args.toList.map a.eval)).foldl (fun tmps (p : Tmp × Value) => tmps.setIfInBounds p.1 p.2) l.tmps := by
      rw [← Array.foldl_toList, Array.toList_zip, l3, Array.toList_map]
    simp [execOp, ho, resolve, e, Deferred.ofValue, invoke, Instr.yield, Instr.getLoop, getObj, Sem.run, hl, bind, Sem.bind, pure, hsz]
    have hmin : min l.params.size args.size = l.params.size := by rw [l3, hps]; simp
    simpa [hmin] using hz
  rw [hrun]
  refine ⟨fun h => hF.depth h, ?_⟩
  have hFr : ∀ {F' : Fence}, FOk g rd F' → F'.inRound b = Fence.wide.inRound b := by
    intro F' hF'
    cases rd with
    | none => rw [show F' = Fence.wide from hF']
    | some i => obtain ⟨c, _, e⟩ := hF'; rw [e]; rfl
  have hR : ∀ R, RoundIn Fence.wide 0 P b l.fn ((ls.params.toList.zip (args.toList.map a.eval)).foldl (fun tmps (p : Tmp × Value) => tmps.setIfInBounds p.1 p.2) l.tmps) l.assign l.body w R → RoundIn F (0 - 1) P b l.fn ((ls.params.toList.zip (args.toList.map a.eval)).foldl (fun tmps (p : Tmp × Value) => tmps.setIfInBounds p.1 p.2) l.tmps) l.assign l.body w R := by
    intro R hR
    cases rd with
    | none => rw [show F = Fence.wide from hF]; exact hR
    | some i => obtain ⟨c, _, e⟩ := hF; rw [e]; exact hR
  refine hR _ (roundIn_of_wpIn trivial ?_)
  have hFb : FOkN σ.length g (some id) (Fence.wide.inRound b) := ⟨hidlt, b, hb, rfl⟩
  have hne : EnvRd g w (bindPs ls.params.toList xs ls.env) ((ls.params.toList.zip (args.toList.map a.eval)).foldl (fun tmps (p : Tmp × Value) => tmps.setIfInBounds p.1 p.2) l.tmps) :=
    bindPs_rd k3 (fun t ht => by rw [List.all_eq_true] at hpb; have := hpb t ht; rw [l6]; simpa using this) l7
  rw [l4]
  refine wpIn_mono (h g w { tmps := _, defers := [] } _ w.heap.size hFb hr hne (by rw [foldl_size]; exact l6) (Marks.nil w)) ?_
  rintro e1 a1 w1 ⟨env1, σ1, g1, ⟨rfl, p1, hσ1, hbody⟩, hr1, he1, hl1, hn1, hm1⟩
  obtain ⟨b1, lo1, hb1, hlo1, m1, m2, m3, m4, m5, m6, m7⟩ := hr1.loop_at hσ1
  have hbb : b1 = b := by
    have := hl1.bk _ _ hidlt hb
    rw [hb1] at this
    injection this
  subst hbb
  obtain ⟨hr2, hle2⟩ := hr1.loop_set hσ1 hb1 hlo1 .busy p1
  have e2 : ({ lo1 with state := LoopState.busy, pending := p1 } : Loop) = { lo1 with state := .busy } := by rw [← m2]
  rw [e2] at hr2 hle2
  refine ⟨_, run_beginRound hlo1 m1, ?_⟩
  rw [l5]
  refine wpIn_mono (hbody g1 _ a1 _ w.heap.size (hFb.mono hl1) hr2 (he1.mono hle2) hn1 (hm1.mono hle2)) ?_
  rintro e3 a3 w3 ⟨env3, σ3, g3, ⟨σ', junk, p3, ls3, hσ3, hN, hcl, hlo, hK⟩, hr3, he3, hl3, hn3, hm3⟩
  -- cut
  subst hσ3
  have hr4 : ∃ g4, Rel g4 σ' w3 ∧ LeN σ.length g3 w3 g4 w3 := by
    rcases hcl with rfl | hcl
    · exact ⟨g3, by simpa using hr3, .refl _ _ _⟩
    · refine ⟨g3.cut σ'.length, hr3.cut' hcl, ⟨rfl, rfl, fun _ _ h => ⟨h, rfl⟩, fun i c hi hc => ?_, fun t k v ht hv => ?_, Nat.le_refl _, fun _ _ h => h⟩⟩
      · simp only [Gh.cut]; rw [if_pos (by omega)]; exact hc
      · simp only [Gh.cut]; rw [if_pos (by omega)]; exact hv
  obtain ⟨g4, hr4, hl4⟩ := hr4
  obtain ⟨b5, lo5, hb5, hlo5, q1, q2, q3, q4, q5, q6, q7⟩ := hr4.loop_at hlo
  have hall : LeN σ.length g w g4 w3 := hl1.trans ((hle2.toN _).trans (hl3.trans hl4))
  have hbb : b5 = b1 := by
    have := hall.bk _ _ hidlt hb
    rw [hb5] at this
    injection this
  subst hbb
  have fin : ∀ (j : Option Code) (bo : Bool), bo = j.isNone → K (.bool bo) (σ'.set id (.loop (if j.isNone then .ready else .done) j ls3)) → ∃ v w', (Instr.endRound b5 j).run P w3 = .ok v w' ∧
      ((fun (x : Ending) w'' => match x, w'' with
        | .returned v, w'' => ∃ v1, a.put o.dst v = a.put o.dst v1 ∧ Gets g w K v1 w''
        | .panicked chain, w'' => False
        | .outgrown, _ => LetsOut (fun _ _ _ => False)) (.returned v) w') := by
    intro j bo hbo hK
    refine ⟨_, _, run_endRound hlo5 j, ?_⟩
    obtain ⟨hr6, hle6⟩ := hr4.loop_set hlo hb5 hlo5 (if j.isNone then .ready else .done) j
    subst hbo
    exact ⟨_, rfl, _, _, g4, hK, hr6, .bool _, (hall.trans (hle6.toN _)).le hr.bkn hr.lgn⟩
  cases e3 with
  | normal => exact fin none true rfl hK
  | ret => exact fin (some .ret) false rfl hK
  | exit x => exact fin (some (.exit x)) false rfl hK
  | goto t => exact hK.elim
  | panic c => exact hK.elim
  | outgrown => exact hK.elim

/-- What is asked behind the call of the function that is ranged over. -/
def RangeQ (id : Nat) (ls : LS) (env : Env) (Q : Exit → Env → MS → Prop) (σ' : MS) : Prop :=
  ∃ s p, σ'[id]? = some (.loop s p ls) ∧ s ≠ .busy ∧
    match p with
    | none => Q .normal env (σ'.set id .gone)
    | some .ret => Q .ret env (σ'.set id .gone)
    | some (.exit x) => Q (.exit x) env (σ'.set id .gone)
    | _ => False

theorem set_set_gone (σ : MS) (id : Nat) (o : MObj) : (σ.set id o).set id .gone = σ.set id .gone := by simp

theorem run_endLoop {w : World} {b : Nat} {l : Loop} (h : w.heap[b]? = some (Obj.loop l)) (hs : l.state ≠ .busy) : (Instr.endLoop b).run P w = .ok l.pending { w with heap := w.heap.setIfInBounds b (Obj.loop { l with state := .exhausted }) } := by
  have hb : (l.state == LoopState.busy) = false := by
    cases hh : l.state <;> first | rfl | exact absurd hh hs
  simp [Instr.endLoop, Instr.getLoop, getObj, setObj, Sem.run, h, hb, bind, Sem.bind, pure]
  intro hh
  exact absurd hh hs


theorem mwp_range {f : Operand} {ps : Array Tmp} {assign body : Code} {k : FuncId} {first caps : List MV} (hf : evo env f = some (.fn (.func k) first caps)) (hb : CallOk P k) (hrd : ∀ id, rd = some id → ∃ s p ls, σ[id]? = some (.loop s p ls)) (hN : N ≤ σ.length)
    (h : MCalls P k (first ++ [.yld σ.length] ++ caps) (σ ++ [.loop .ready none ⟨ps, assign, body, env, n⟩]) (fun _ σ' => RangeQ σ.length ⟨ps, assign, body, env, n⟩ env Q σ')) : mwp P rd N n (.rangeFunc f ps assign body) Q env σ := by
  intro g w a F m0 hF hr he hn hm
  refine wpIn_rangeFunc fun fn hfn => ?_
  -- the record
  have hrec : ∃ (mark : List Deferred) (w1 : World) (gd : Gh), (Instr.enterLoop fn a.tmps ps assign body F.round).run P w = .ok (w1.heap.size, mark) (w1.alloc (Obj.loop { state := .ready, pending := none, fn := fn, tmps := a.tmps, params := ps, assign := assign, body := body, defers := (match F.round with | none => w.heap.size | some b => (match w.heap[b]? with | some (Obj.loop l) => l.defers | _ => 0)) })) ∧
      Rel gd σ w1 ∧ Le g w gd w1 ∧ Marks m0 (w1.alloc (Obj.loop { state := .ready, pending := none, fn := fn, tmps := a.tmps, params := ps, assign := assign, body := body, defers := (match F.round with | none => w.heap.size | some b => (match w.heap[b]? with | some (Obj.loop l) => l.defers | _ => 0)) })) (mark ++ a.defers) := by
    cases hro : F.round with
    | none =>
      have hl := Le.alloc_stab hr (Obj.deferred (some [])) 0
      refine ⟨[{ target := .collected w.heap.size, args := #[] }], w.alloc (Obj.deferred (some [])), _, ?_, hr.alloc_stab (Obj.deferred (some [])) 0, hl, ?_⟩
      · simp [Instr.enterLoop]
      · have hl2 := hl.trans (Le.alloc_stab (hr.alloc_stab (Obj.deferred (some [])) 0) (Obj.loop { state := .ready, pending := none, fn := fn, tmps := a.tmps, params := ps, assign := assign, body := body, defers := w.heap.size }) 0)
        have hm' := hm.mono hl2
        refine ⟨hm'.1, fun d hd => ?_, ?_⟩
        · rcases List.mem_cons.1 hd with rfl | hd
          · refine ⟨w.heap.size, hm.1, rfl, ?_⟩
            rw [Below.heap_alloc _ _ _ (by simp)]
            exact heap_new w _
          · exact hm'.2.1 d hd
        · refine List.pairwise_cons.2 ⟨fun d hd r s hr hs => ?_, hm'.2.2⟩
          obtain ⟨q, _, rfl, hq⟩ := hm.2.1 d hd
          injection hr with hr
          injection hs with hs
          subst hr hs
          have := (Array.getElem?_eq_some_iff.1 hq).1
          omega
    | some b =>
      obtain ⟨id, hid⟩ : ∃ id, rd = some id := by
        cases rd with
        | none => rw [show F = Fence.wide from hF] at hro; cases hro
        | some id => exact ⟨id, rfl⟩
      subst hid
      obtain ⟨s, p, ls, hσ⟩ := hrd id rfl
      obtain ⟨hidN, b', hb', hFb⟩ := hF
      obtain ⟨b2, l, hb2, hl, _⟩ := hr.loop_at hσ
      rw [hb'] at hb2
      injection hb2 with hb2
      subst hb2
      have hbb : b' = b := by
        rw [hFb] at hro
        injection hro
      subst hbb
      refine ⟨[], w, g, ?_, hr, .refl _ _, ?_⟩
      · have hgl : (Instr.getLoop b').run P w = .ok l w := by simp [Instr.getLoop, getObj, Sem.run, hl, bind, Sem.bind, pure]
        simp [Instr.enterLoop, hgl, hl]
      · exact hm.mono (Le.alloc_stab hr _ 0)
  obtain ⟨mark, w1, gd, hent, hrd1, hle1, hmark⟩ := hrec
  generalize hL : ({ state := .ready, pending := none, fn := fn, tmps := a.tmps, params := ps, assign := assign, body := body, defers := (match F.round with | none => w.heap.size | some b => (match w.heap[b]? with | some (Obj.loop l) => l.defers | _ => 0)) } : Loop) = lo at hent hmark
  have f1 : lo.state = .ready := by rw [← hL]
  have f2 : lo.pending = none := by rw [← hL]
  have f3 : lo.params = ps := by rw [← hL]
  have f4 : lo.assign = assign := by rw [← hL]
  have f5 : lo.body = body := by rw [← hL]
  have f6 : lo.tmps = a.tmps := by rw [← hL]
  clear hL
  obtain ⟨g2, hr2, hle2, hb2⟩ := hrd1.alloc_gen (Obj.loop lo) (.loop .ready none ⟨ps, assign, body, env, n⟩) (fun g' hl' hb' hs' => by
    refine ⟨w1.heap.size, lo, rfl, hb', heap_new w1 _, f1, f2, f3, f4, f5, by rw [f6]; exact hn, ?_⟩
    rw [f6]
    exact (he.mono hle1).mono hl')
  have hfv := evo_rd ((he.mono hle1).mono hle2) hf
  obtain ⟨us, vs, e, k1, k2⟩ := hfv.inv_fn
  have hlall := hle1.trans hle2
  have hc := h g2 (w1.alloc (Obj.loop lo)) (us ++ [Value.func (Fn.yield w1.heap.size) #[] #[]] ++ vs) hr2 ((k1.append (.cons (.yld _ _ hb2) (.nil _ _))).append k2)
  have hcF := hF.ok.calls (m := 0 - 1) hc
  refine ⟨w1.heap.size, mark, w1.alloc (Obj.loop lo), { target := .fn (.func k) vs.toArray, args := us.toArray ++ #[Value.func (Fn.yield w1.heap.size) #[] #[]] }, w1.alloc (Obj.loop lo), k, (us ++ [Value.func (Fn.yield w1.heap.size) #[] #[]] ++ vs).toArray, w1.alloc (Obj.loop lo), hent, ?_, fun f' _ => hF.ok.fn f', ?_, fun h => hF.ok.depth h, hcF.mono ?_⟩
  · have e0 : (a.eval f) = .func (.func k) us.toArray vs.toArray := e
    have e1 : a.eval (.const (Value.func (Fn.yield w1.heap.size) #[] #[])) = Value.func (Fn.yield w1.heap.size) #[] #[] := rfl
    simp [resolve, rangeCall, e0, e1, Deferred.ofValue]
  · simp [invoke, hb.run]
  · rintro e3 w3 ⟨v, rfl, x, σ3, g3, ⟨s, p, hσ3, hsb, hp⟩, hr3, hv3, hl3⟩
    obtain ⟨b4, l4, hb4, hlo4, q1, q2, q3⟩ := hr3.loop_at hσ3
    have hbb : b4 = w1.heap.size := by
      have := hl3.bk _ _ hb2
      rw [hb4] at this
      injection this
    subst hbb
    obtain ⟨hr5, hl5⟩ := hr3.loop_set hσ3 hb4 hlo4 .exhausted p
    have e5 : ({ l4 with state := LoopState.exhausted, pending := p } : Loop) = { l4 with state := .exhausted } := by rw [← q2]
    rw [e5] at hr5 hl5
    have hr6 := hr5.gone σ.length
    rw [set_set_gone] at hr6
    have hlfin := hlall.trans (hl3.trans hl5)
    have hmk : Marks m0 _ (mark ++ a.defers) := (hmark.mono hl3).mono hl5
    refine ⟨l4.pending, _, run_endLoop hlo4 (by rw [q1]; exact hsb), ?_⟩
    generalize hw5 : ({ w3 with heap := w3.heap.setIfInBounds w1.heap.size (Obj.loop { l4 with state := .exhausted }) } : World) = w5 at hr6 hlfin hmk ⊢
    rw [q2]
    have fin : ∀ ex, Q ex env (σ3.set σ.length .gone) → Left_ N g w n m0 Q ex { a with defers := mark ++ a.defers } w5 := fun ex hq => ⟨env, _, g3, hq, hr6, he.mono hlfin, hlfin.toN N, hn, hmk⟩
    cases p with
    | none => exact fin .normal hp
    | some c =>
      cases c with
      | ret => exact wpIn_ret (fin .ret hp)
      | exit x => exact wpIn_exit (fin (.exit x) hp)
      | _ => exact hp.elim
end
end Go.MV
