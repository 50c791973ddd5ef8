/-
  Texts on which the proof of CodeNested leans: part 2.
-/
import Derived.Test.YthkikhggmbiffaaGreatCodeNestedA
import Derived.Laws.StructEq
import Derived.Laws.BytesString
import Derived.Test.YthkikhggmbiffaaGreatProg
import Derived.KernelRfl
import Derived.WalkKit
import Derived.LaidEql
import Derived.RowKitTokens
import Derived.Stop.Asserts
section
set_option linter.unusedVariables false
set_option linter.unusedSimpArgs false
namespace Go.MV
open Go Go.RowKit
theorem Rel.alloc_gen {g : Gh} {σ : MS} {w : World} (h : Rel g σ w) (o : Obj) (mo : MObj)
    (H : ∀ g', Le g w g' (w.alloc o) → g'.bk σ.length = some w.heap.size → g'.st w.heap.size = 0 → ObjRel g' (w.alloc o) (some w.heap.size) σ.length mo) :
    ∃ g', Rel g' (σ ++ [mo]) (w.alloc o) ∧ Le g w g' (w.alloc o) ∧ g'.bk σ.length = some w.heap.size := by
  obtain ⟨own, ho0⟩ := h.ex
  have l1 := Le.alloc_stab h o 0
  have r1 := h.alloc_stab o 0
  have l2 : Le (g.stab w.heap.size 0) (w.alloc o) ((g.stab w.heap.size 0).bind σ.length w.heap.size) (w.alloc o) := Le.bind (r1.bkn σ.length (Nat.le_refl _))
  refine ⟨(g.stab w.heap.size 0).bind σ.length w.heap.size, ⟨r1.below, r1.base, r1.fresh, fun id hid => ?_, fun t n ht => r1.lgn t n (by simp at ht; omega), ?_⟩, l1.trans l2, by simp [Gh.bind]⟩
  · simp at hid
    simp only [Gh.bind]
    rw [if_neg (by omega)]
    exact r1.bkn id (by omega)
  · have ho : Owns (g.stab w.heap.size 0) σ (w.alloc o) own := by
      refine ho0.keep l1 (fun id b e => ?_) (fun _ _ => rfl)
      have hlt := (ho0.lt id b e).2.2
      refine ⟨Below.heap_alloc w o b hlt, ?_⟩
      simp only [Gh.stab]
      rw [if_neg (by omega)]
    have ho' := ho.keep l2 (fun _ _ _ => ⟨rfl, rfl⟩) (fun _ _ => rfl)
    have hold : ∀ id b, own id = some b → b < w.heap.size := fun id b e => (ho0.lt id b e).2.2
    refine ⟨fun id => if id = σ.length then some w.heap.size else own id, ⟨fun id o' hid => ?_, fun i j b hi hj => ?_, fun id b hid => ?_⟩⟩
    · by_cases e : id = σ.length
      · subst e
        rw [List.getElem?_append_right (Nat.le_refl _)] at hid
        simp at hid
        subst hid
        simp only [if_true]
        exact H _ (l1.trans l2) (by simp [Gh.bind]) (by simp [Gh.bind, Gh.stab])
      · rw [if_neg e]
        have hlt : id < σ.length := by
          have := (List.getElem?_eq_some_iff.1 hid).1
          simp at this
          omega
        rw [List.getElem?_append_left hlt] at hid
        exact ho'.obj id o' hid
    · by_cases ei : i = σ.length <;> by_cases ej : j = σ.length
      · omega
      · simp only [ei, if_true] at hi
        simp only [ej, if_false] at hj
        have := hold j b hj
        injection hi with hi
        omega
      · simp only [ej, if_true] at hj
        simp only [ei, if_false] at hi
        have := hold i b hi
        injection hj with hj
        omega
      · simp only [ei, ej, if_false] at hi hj
        exact ho'.inj i j b hi hj
    · by_cases e : id = σ.length
      · simp only [e, if_true] at hid
        injection hid with hid
        subst hid
        exact ⟨by simp [e], h.size, by simp⟩
      · simp only [e, if_false] at hid
        obtain ⟨h1, h2, h3⟩ := ho'.lt id b hid
        exact ⟨by simp; omega, h2, h3⟩
theorem Rel.loop_set {g : Gh} {σ : MS} {w : World} (h : Rel g σ w) {id b : Nat} {s : LoopState} {p : Option Code} {ls : LS} (hσ : σ[id]? = some (.loop s p ls)) (hb : g.bk id = some b) {l : Loop} (hl : w.heap[b]? = some (Obj.loop l)) (s' : LoopState) (p' : Option Code) :
    Rel g (σ.set id (.loop s' p' ls)) { w with heap := w.heap.setIfInBounds b (Obj.loop { l with state := s', pending := p' }) } ∧ Le g w g { w with heap := w.heap.setIfInBounds b (Obj.loop { l with state := s', pending := p' }) } := by
  obtain ⟨own, hown⟩ := h.ex
  obtain ⟨b', l', e1, e2, e3, e4, e5, e6, e7, e8, e9, e10⟩ := hown.obj _ _ hσ
  rw [hb] at e2; injection e2 with e2; subst e2
  rw [hl] at e3
  injection e3 with e3
  injection e3 with e3
  subst e3
  have hblt : b < w.heap.size := (Array.getElem?_eq_some_iff.1 hl).1
  have hidlt : id < σ.length := (List.getElem?_eq_some_iff.1 hσ).1
  have hne : ∀ c, c ≠ b → ({ w with heap := w.heap.setIfInBounds b (Obj.loop { l with state := s', pending := p' }) } : World).heap[c]? = w.heap[c]? := fun c hc => by
    show (w.heap.setIfInBounds b _)[c]? = _
    rw [Array.getElem?_setIfInBounds_ne (fun e => hc e.symm)]
  have hbB : g.B ≤ b := (hown.lt id b e1).2.1
  have hcell : ∀ a : Addr, ({ w with heap := w.heap.setIfInBounds b (Obj.loop { l with state := s', pending := p' }) } : World).cell? a = w.cell? a := by
    intro a
    by_cases e : a.block = b
    · simp [World.cell?, e, hl, Array.getElem?_setIfInBounds_self_of_lt hblt]
    · exact World.cell?_of_block (w := w) (hne _ e)
  have hle : Le g w g { w with heap := w.heap.setIfInBounds b (Obj.loop { l with state := s', pending := p' }) } :=
    ⟨⟨rfl, rfl, fun c k hk => ⟨hk, hcell _⟩, fun _ _ h => h, fun _ _ _ h => h, by simp⟩, fun c x hx => by
      have : c ≠ b := fun e => by subst e; rw [hl] at hx; cases hx
      exact (hne c this).trans hx⟩
  refine ⟨⟨⟨h.below.os, h.below.tape, h.below.output, by simpa using h.below.size, fun k hk => (hne k (by omega)).trans (h.below.block k hk)⟩, h.base, fun c hc => h.fresh c (by simpa using hc), fun i hi => h.bkn i (by simpa using hi), fun t k ht => h.lgn t k (by simpa using ht), own, ⟨fun i ob hi => ?_, hown.inj, fun i c hc => ?_⟩⟩, hle⟩
  · rw [List.getElem?_set] at hi
    by_cases e : id = i
    · subst e
      rw [if_pos rfl, if_pos hidlt] at hi
      injection hi with hi
      subst hi
      refine ⟨b, { l with state := s', pending := p' }, e1, hb, ?_, rfl, rfl, e6, e7, e8, e9, e10.mono hle⟩
      show (w.heap.setIfInBounds b _)[b]? = _
      rw [Array.getElem?_setIfInBounds_self_of_lt hblt]
    · rw [if_neg e] at hi
      refine (hown.obj i ob hi).keep0 hle.toLe0 (fun c hc => ⟨hne c (fun ec => ?_), rfl⟩) (fun _ => rfl)
      subst ec
      exact e (hown.inj _ _ _ e1 hc)
  · obtain ⟨h1, h2, h3⟩ := hown.lt i c hc
    exact ⟨by simpa using h1, h2, by simpa using h3⟩
theorem Rel.loop_at {g : Gh} {σ : MS} {w : World} (h : Rel g σ w) {id : Nat} {s : LoopState} {p : Option Code} {ls : LS} (hσ : σ[id]? = some (.loop s p ls)) : ∃ b l, g.bk id = some b ∧ w.heap[b]? = some (Obj.loop l) ∧ l.state = s ∧ l.pending = p ∧ l.params = ls.params ∧ l.assign = ls.assign ∧ l.body = ls.body ∧ l.tmps.size = ls.n ∧ EnvRd g w ls.env l.tmps := by
  obtain ⟨own, hown⟩ := h.ex
  obtain ⟨b, l, e1, e2, e3, rest⟩ := hown.obj _ _ hσ
  exact ⟨b, l, e2, e3, rest⟩
theorem Rel.gone {g : Gh} {σ : MS} {w : World} (h : Rel g σ w) (id : Nat) : Rel g (σ.set id .gone) w := by
  obtain ⟨own, hown⟩ := h.ex
  refine ⟨h.below, h.base, h.fresh, fun i hi => h.bkn i (by simpa using hi), fun t k ht => h.lgn t k (by simpa using ht), fun i => if i = id then none else own i, ⟨fun i o hi => ?_, fun i j b hi hj => ?_, fun i b hi => ?_⟩⟩
  · by_cases e : i = id
    · subst e
      rw [List.getElem?_set] at hi
      rw [if_pos rfl] at hi
      split at hi
      · injection hi with hi
        subst hi
        simp [ObjRel]
      · cases hi
    · rw [if_neg e]
      rw [List.getElem?_set_ne (fun h => e h.symm)] at hi
      exact hown.obj i o hi
  · split at hi
    · cases hi
    · split at hj
      · cases hj
      · exact hown.inj i j b hi hj
  · split at hi
    · cases hi
    · obtain ⟨h1, h2⟩ := hown.lt i b hi
      exact ⟨by simpa using h1, h2⟩
section
variable {P : Program} {rd : Option Nat} {N n : Nat} {Q : Exit → Env → MS → Prop} {env : Env} {σ : MS} {o : Oper} {K : MV → MS → Prop}
def bindPs : List Tmp → List MV → Env → Env
  | t :: ts, x :: xs, env => bindPs ts xs ((t, x) :: env)
  | _, _, env => env
theorem bindPs_rd {g : Gh} {w : World} : ∀ {ps : List Tmp} {xs : List MV} {us : List Value} {env : Env} {tmps : Array Value}, Rds g w xs us → (∀ t ∈ ps, t < tmps.size) → EnvRd g w env tmps → EnvRd g w (bindPs ps xs env) ((ps.zip us).foldl (fun tmps (p : Tmp × Value) => tmps.setIfInBounds p.1 p.2) tmps)
  | [], xs, us, env, tmps, _, _, he => by simpa [bindPs] using he
  | t :: ts, [], us, env, tmps, hr, _, he => by
    have : us = [] := List.eq_nil_of_length_eq_zero hr.1
    subst this
    simpa [bindPs] using he
  | t :: ts, x :: xs, us, env, tmps, hr, hb, he => by
    obtain ⟨u, us', rfl, h1, h2⟩ := hr.uncons
    simp only [bindPs, List.zip_cons_cons, List.foldl_cons]
    exact bindPs_rd h2 (fun s hs => by simpa using hb s (List.mem_cons_of_mem _ hs)) (he.put (hb t (List.mem_cons_self ..)) h1)
theorem foldl_size : ∀ (l : List (Tmp × Value)) (tmps : Array Value), (l.foldl (fun tmps (p : Tmp × Value) => tmps.setIfInBounds p.1 p.2) tmps).size = tmps.size
  | [], tmps => rfl
  | p :: l, tmps => by rw [List.foldl_cons, foldl_size l]; simp
def RoundQ (id N : Nat) (K : MV → MS → Prop) (e : Exit) (_ : Env) (σf : MS) : Prop :=
  ∃ σ' junk p ls, σf = σ' ++ junk ∧ N ≤ σ'.length ∧ (junk = [] ∨ ClS σ') ∧ σ'[id]? = some (.loop .busy p ls) ∧
    match e with
    | .normal => K (.bool true) (σ'.set id (.loop .ready none ls))
    | .ret => K (.bool false) (σ'.set id (.loop .done (some .ret) ls))
    | .exit x => K (.bool false) (σ'.set id (.loop .done (some (.exit x)) ls))
    | _ => False
theorem run_endRound {w : World} {b : Nat} {l : Loop} (h : w.heap[b]? = some (Obj.loop l)) (j : Option Code) : (Instr.endRound b j).run P w = .ok (.bool j.isNone) { w with heap := w.heap.setIfInBounds b (Obj.loop { l with state := if j.isNone then .ready else .done, pending := j }) } := by
  simp [Instr.endRound, Instr.getLoop, getObj, setObj, Sem.run, h, bind, Sem.bind, pure]
theorem run_beginRound {w : World} {b : Nat} {l : Loop} (h : w.heap[b]? = some (Obj.loop l)) (hs : l.state = .ready) : (Instr.beginRound b).run P w = .ok () { w with heap := w.heap.setIfInBounds b (Obj.loop { l with state := .busy }) } := by
  simp [Instr.beginRound, Instr.getLoop, getObj, setObj, Sem.run, h, hs, bind, Sem.bind, pure]
theorem op_yield {f : Operand} {args : Array Operand} {ts : Array TypeId} {id : Nat} {xs : List MV} {p : Option Code} {ls : LS} (ho : o.op = .call { callee := .value f, args := args, argTypes := ts }) (hf : evo env f = some (.yld id)) (hx : evos env args.toList = some xs)
    (hσ : σ[id]? = some (.loop .ready p ls)) (hps : ls.params.size = args.size) (hpb : ls.params.toList.all (fun t => Nat.blt t ls.n) = true)
    (h : mwp P (some id) σ.length ls.n ls.assign (fun e env1 σ1 => e = .normal ∧ ∃ p1, σ1[id]? = some (.loop .ready p1 ls) ∧ mwp P (some id) σ.length ls.n ls.body (RoundQ id σ.length K) env1 (σ1.set id (.loop .busy p1 ls))) (bindPs ls.params.toList xs ls.env) σ) : OpWp P rd o env σ K := by
  intro g w a F hF hr hop
  refine ⟨fun f _ => hF.fn f, ?_⟩
  rw [Oper.semAt_eq _ _ _ (by simp [ho])]
  obtain ⟨b, hb, e⟩ := (hop f (by simp [ho, Op.operands, Call.operands]) _ hf).inv_yld
  have k3 : Rds g w xs (args.toList.map a.eval) := evos_rds (fun x hx m hm => hop x (by simp [ho, Op.operands, Call.operands]; exact .inr (by simpa using hx)) m hm) hx
  obtain ⟨b', l, hb', hl, l1, l2, l3, l4, l5, l6, l7⟩ := hr.loop_at hσ
  rw [hb] at hb'
  injection hb' with hb'
  subst hb'
  have hidlt : id < σ.length := (List.getElem?_eq_some_iff.1 hσ).1
  have hrun : (execOp a.eval o).run P w = .ok (.round b l.fn ((ls.params.toList.zip (args.toList.map a.eval)).foldl (fun tmps (p : Tmp × Value) => tmps.setIfInBounds p.1 p.2) l.tmps) l.assign l.body) w := by
    have hsz : (Array.map a.eval args).size = l.params.size := by rw [l3, hps]; simp
    have hz : (l.params.zip (Array.map a.eval args)).foldl (fun tmps (p : Tmp × Value) => tmps.setIfInBounds p.1 p.2) l.tmps = (ls.params.toList.zip (args.toList.map a.eval)).foldl (fun tmps (p : Tmp × Value) => tmps.setIfInBounds p.1 p.2) l.tmps := by
      rw [← Array.foldl_toList, Array.toList_zip, l3, Array.toList_map]
    simp [execOp, ho, resolve, e, Deferred.ofValue, invoke, Instr.yield, Instr.getLoop, getObj, Sem.run, hl, bind, Sem.bind, pure, hsz]
    have hmin : min l.params.size args.size = l.params.size := by rw [l3, hps]; simp
    simpa [hmin] using hz
  rw [hrun]
  refine ⟨fun h => hF.depth h, ?_⟩
  have hFr : ∀ {F' : Fence}, FOk g rd F' → F'.inRound b = Fence.wide.inRound b := by
    intro F' hF'
    cases rd with
    | none => rw [show F' = Fence.wide from hF']
    | some i => obtain ⟨c, _, e⟩ := hF'; rw [e]; rfl
  have hR : ∀ R, RoundIn Fence.wide 0 P b l.fn ((ls.params.toList.zip (args.toList.map a.eval)).foldl (fun tmps (p : Tmp × Value) => tmps.setIfInBounds p.1 p.2) l.tmps) l.assign l.body w R → RoundIn F (0 - 1) P b l.fn ((ls.params.toList.zip (args.toList.map a.eval)).foldl (fun tmps (p : Tmp × Value) => tmps.setIfInBounds p.1 p.2) l.tmps) l.assign l.body w R := by
    intro R hR
    cases rd with
    | none => rw [show F = Fence.wide from hF]; exact hR
    | some i => obtain ⟨c, _, e⟩ := hF; rw [e]; exact hR
  refine hR _ (roundIn_of_wpIn trivial ?_)
  have hFb : FOkN σ.length g (some id) (Fence.wide.inRound b) := ⟨hidlt, b, hb, rfl⟩
  have hne : EnvRd g w (bindPs ls.params.toList xs ls.env) ((ls.params.toList.zip (args.toList.map a.eval)).foldl (fun tmps (p : Tmp × Value) => tmps.setIfInBounds p.1 p.2) l.tmps) :=
    bindPs_rd k3 (fun t ht => by rw [List.all_eq_true] at hpb; have := hpb t ht; rw [l6]; simpa using this) l7
  rw [l4]
  refine wpIn_mono (h g w { tmps := _, defers := [] } _ w.heap.size hFb hr hne (by rw [foldl_size]; exact l6) (Marks.nil w)) ?_
  rintro e1 a1 w1 ⟨env1, σ1, g1, ⟨rfl, p1, hσ1, hbody⟩, hr1, he1, hl1, hn1, hm1⟩
  obtain ⟨b1, lo1, hb1, hlo1, m1, m2, m3, m4, m5, m6, m7⟩ := hr1.loop_at hσ1
  have hbb : b1 = b := by
    have := hl1.bk _ _ hidlt hb
    rw [hb1] at this
    injection this
  subst hbb
  obtain ⟨hr2, hle2⟩ := hr1.loop_set hσ1 hb1 hlo1 .busy p1
  have e2 : ({ lo1 with state := LoopState.busy, pending := p1 } : Loop) = { lo1 with state := .busy } := by rw [← m2]
  rw [e2] at hr2 hle2
  refine ⟨_, run_beginRound hlo1 m1, ?_⟩
  rw [l5]
  refine wpIn_mono (hbody g1 _ a1 _ w.heap.size (hFb.mono hl1) hr2 (he1.mono hle2) hn1 (hm1.mono hle2)) ?_
  rintro e3 a3 w3 ⟨env3, σ3, g3, ⟨σ', junk, p3, ls3, hσ3, hN, hcl, hlo, hK⟩, hr3, he3, hl3, hn3, hm3⟩
  subst hσ3
  have hr4 : ∃ g4, Rel g4 σ' w3 ∧ LeN σ.length g3 w3 g4 w3 := by
    rcases hcl with rfl | hcl
    · exact ⟨g3, by simpa using hr3, .refl _ _ _⟩
    · refine ⟨g3.cut σ'.length, hr3.cut' hcl, ⟨rfl, rfl, fun _ _ h => ⟨h, rfl⟩, fun i c hi hc => ?_, fun t k v ht hv => ?_, Nat.le_refl _, fun _ _ h => h⟩⟩
      · simp only [Gh.cut]; rw [if_pos (by omega)]; exact hc
      · simp only [Gh.cut]; rw [if_pos (by omega)]; exact hv
  obtain ⟨g4, hr4, hl4⟩ := hr4
  obtain ⟨b5, lo5, hb5, hlo5, q1, q2, q3, q4, q5, q6, q7⟩ := hr4.loop_at hlo
  have hall : LeN σ.length g w g4 w3 := hl1.trans ((hle2.toN _).trans (hl3.trans hl4))
  have hbb : b5 = b1 := by
    have := hall.bk _ _ hidlt hb
    rw [hb5] at this
    injection this
  subst hbb
  have fin : ∀ (j : Option Code) (bo : Bool), bo = j.isNone → K (.bool bo) (σ'.set id (.loop (if j.isNone then .ready else .done) j ls3)) → ∃ v w', (Instr.endRound b5 j).run P w3 = .ok v w' ∧
      ((fun (x : Ending) w'' => match x, w'' with
        | .returned v, w'' => ∃ v1, a.put o.dst v = a.put o.dst v1 ∧ Gets g w K v1 w''
        | .panicked chain, w'' => False
        | .outgrown, _ => LetsOut (fun _ _ _ => False)) (.returned v) w') := by
    intro j bo hbo hK
    refine ⟨_, _, run_endRound hlo5 j, ?_⟩
    obtain ⟨hr6, hle6⟩ := hr4.loop_set hlo hb5 hlo5 (if j.isNone then .ready else .done) j
    subst hbo
    exact ⟨_, rfl, _, _, g4, hK, hr6, .bool _, (hall.trans (hle6.toN _)).le hr.bkn hr.lgn⟩
  cases e3 with
  | normal => exact fin none true rfl hK
  | ret => exact fin (some .ret) false rfl hK
  | exit x => exact fin (some (.exit x)) false rfl hK
  | goto t => exact hK.elim
  | panic c => exact hK.elim
  | outgrown => exact hK.elim
def RangeQ (id : Nat) (ls : LS) (env : Env) (Q : Exit → Env → MS → Prop) (σ' : MS) : Prop :=
  ∃ s p, σ'[id]? = some (.loop s p ls) ∧ s ≠ .busy ∧
    match p with
    | none => Q .normal env (σ'.set id .gone)
    | some .ret => Q .ret env (σ'.set id .gone)
    | some (.exit x) => Q (.exit x) env (σ'.set id .gone)
    | _ => False
theorem set_set_gone (σ : MS) (id : Nat) (o : MObj) : (σ.set id o).set id .gone = σ.set id .gone := by simp
theorem run_endLoop {w : World} {b : Nat} {l : Loop} (h : w.heap[b]? = some (Obj.loop l)) (hs : l.state ≠ .busy) : (Instr.endLoop b).run P w = .ok l.pending { w with heap := w.heap.setIfInBounds b (Obj.loop { l with state := .exhausted }) } := by
  have hb : (l.state == LoopState.busy) = false := by
    cases hh : l.state <;> first | rfl | exact absurd hh hs
  simp [Instr.endLoop, Instr.getLoop, getObj, setObj, Sem.run, h, hb, bind, Sem.bind, pure]
  intro hh
  exact absurd hh hs
theorem mwp_range {f : Operand} {ps : Array Tmp} {assign body : Code} {k : FuncId} {first caps : List MV} (hf : evo env f = some (.fn (.func k) first caps)) (hb : CallOk P k) (hrd : ∀ id, rd = some id → ∃ s p ls, σ[id]? = some (.loop s p ls)) (hN : N ≤ σ.length)
    (h : MCalls P k (first ++ [.yld σ.length] ++ caps) (σ ++ [.loop .ready none ⟨ps, assign, body, env, n⟩]) (fun _ σ' => RangeQ σ.length ⟨ps, assign, body, env, n⟩ env Q σ')) : mwp P rd N n (.rangeFunc f ps assign body) Q env σ := by
  intro g w a F m0 hF hr he hn hm
  refine wpIn_rangeFunc fun fn hfn => ?_
  have hrec : ∃ (mark : List Deferred) (w1 : World) (gd : Gh), (Instr.enterLoop fn a.tmps ps assign body F.round).run P w = .ok (w1.heap.size, mark) (w1.alloc (Obj.loop { state := .ready, pending := none, fn := fn, tmps := a.tmps, params := ps, assign := assign, body := body, defers := (match F.round with | none => w.heap.size | some b => (match w.heap[b]? with | some (Obj.loop l) => l.defers | _ => 0)) })) ∧
      Rel gd σ w1 ∧ Le g w gd w1 ∧ Marks m0 (w1.alloc (Obj.loop { state := .ready, pending := none, fn := fn, tmps := a.tmps, params := ps, assign := assign, body := body, defers := (match F.round with | none => w.heap.size | some b => (match w.heap[b]? with | some (Obj.loop l) => l.defers | _ => 0)) })) (mark ++ a.defers) := by
    cases hro : F.round with
    | none =>
      have hl := Le.alloc_stab hr (Obj.deferred (some [])) 0
      refine ⟨[{ target := .collected w.heap.size, args := #[] }], w.alloc (Obj.deferred (some [])), _, ?_, hr.alloc_stab (Obj.deferred (some [])) 0, hl, ?_⟩
      · simp [Instr.enterLoop]
      · have hl2 := hl.trans (Le.alloc_stab (hr.alloc_stab (Obj.deferred (some [])) 0) (Obj.loop { state := .ready, pending := none, fn := fn, tmps := a.tmps, params := ps, assign := assign, body := body, defers := w.heap.size }) 0)
        have hm' := hm.mono hl2
        refine ⟨hm'.1, fun d hd => ?_, ?_⟩
        · rcases List.mem_cons.1 hd with rfl | hd
          · refine ⟨w.heap.size, hm.1, rfl, ?_⟩
            rw [Below.heap_alloc _ _ _ (by simp)]
            exact heap_new w _
          · exact hm'.2.1 d hd
        · refine List.pairwise_cons.2 ⟨fun d hd r s hr hs => ?_, hm'.2.2⟩
          obtain ⟨q, _, rfl, hq⟩ := hm.2.1 d hd
          injection hr with hr
          injection hs with hs
          subst hr hs
          have := (Array.getElem?_eq_some_iff.1 hq).1
          omega
    | some b =>
      obtain ⟨id, hid⟩ : ∃ id, rd = some id := by
        cases rd with
        | none => rw [show F = Fence.wide from hF] at hro; cases hro
        | some id => exact ⟨id, rfl⟩
      subst hid
      obtain ⟨s, p, ls, hσ⟩ := hrd id rfl
      obtain ⟨hidN, b', hb', hFb⟩ := hF
      obtain ⟨b2, l, hb2, hl, _⟩ := hr.loop_at hσ
      rw [hb'] at hb2
      injection hb2 with hb2
      subst hb2
      have hbb : b' = b := by
        rw [hFb] at hro
        injection hro
      subst hbb
      refine ⟨[], w, g, ?_, hr, .refl _ _, ?_⟩
      · have hgl : (Instr.getLoop b').run P w = .ok l w := by simp [Instr.getLoop, getObj, Sem.run, hl, bind, Sem.bind, pure]
        simp [Instr.enterLoop, hgl, hl]
      · exact hm.mono (Le.alloc_stab hr _ 0)
  obtain ⟨mark, w1, gd, hent, hrd1, hle1, hmark⟩ := hrec
  generalize hL : ({ state := .ready, pending := none, fn := fn, tmps := a.tmps, params := ps, assign := assign, body := body, defers := (match F.round with | none => w.heap.size | some b => (match w.heap[b]? with | some (Obj.loop l) => l.defers | _ => 0)) } : Loop) = lo at hent hmark
  have f1 : lo.state = .ready := by rw [← hL]
  have f2 : lo.pending = none := by rw [← hL]
  have f3 : lo.params = ps := by rw [← hL]
  have f4 : lo.assign = assign := by rw [← hL]
  have f5 : lo.body = body := by rw [← hL]
  have f6 : lo.tmps = a.tmps := by rw [← hL]
  clear hL
  obtain ⟨g2, hr2, hle2, hb2⟩ := hrd1.alloc_gen (Obj.loop lo) (.loop .ready none ⟨ps, assign, body, env, n⟩) (fun g' hl' hb' hs' => by
    refine ⟨w1.heap.size, lo, rfl, hb', heap_new w1 _, f1, f2, f3, f4, f5, by rw [f6]; exact hn, ?_⟩
    rw [f6]
    exact (he.mono hle1).mono hl')
  have hfv := evo_rd ((he.mono hle1).mono hle2) hf
  obtain ⟨us, vs, e, k1, k2⟩ := hfv.inv_fn
  have hlall := hle1.trans hle2
  have hc := h g2 (w1.alloc (Obj.loop lo)) (us ++ [Value.func (Fn.yield w1.heap.size) #[] #[]] ++ vs) hr2 ((k1.append (.cons (.yld _ _ hb2) (.nil _ _))).append k2)
  have hcF := hF.ok.calls (m := 0 - 1) hc
  refine ⟨w1.heap.size, mark, w1.alloc (Obj.loop lo), { target := .fn (.func k) vs.toArray, args := us.toArray ++ #[Value.func (Fn.yield w1.heap.size) #[] #[]] }, w1.alloc (Obj.loop lo), k, (us ++ [Value.func (Fn.yield w1.heap.size) #[] #[]] ++ vs).toArray, w1.alloc (Obj.loop lo), hent, ?_, fun f' _ => hF.ok.fn f', ?_, fun h => hF.ok.depth h, hcF.mono ?_⟩
  · have e0 : (a.eval f) = .func (.func k) us.toArray vs.toArray := e
    have e1 : a.eval (.const (Value.func (Fn.yield w1.heap.size) #[] #[])) = Value.func (Fn.yield w1.heap.size) #[] #[] := rfl
    simp [resolve, rangeCall, e0, e1, Deferred.ofValue]
  · simp [invoke, hb.run]
  · rintro e3 w3 ⟨v, rfl, x, σ3, g3, ⟨s, p, hσ3, hsb, hp⟩, hr3, hv3, hl3⟩
    obtain ⟨b4, l4, hb4, hlo4, q1, q2, q3⟩ := hr3.loop_at hσ3
    have hbb : b4 = w1.heap.size := by
      have := hl3.bk _ _ hb2
      rw [hb4] at this
      injection this
    subst hbb
    obtain ⟨hr5, hl5⟩ := hr3.loop_set hσ3 hb4 hlo4 .exhausted p
    have e5 : ({ l4 with state := LoopState.exhausted, pending := p } : Loop) = { l4 with state := .exhausted } := by rw [← q2]
    rw [e5] at hr5 hl5
    have hr6 := hr5.gone σ.length
    rw [set_set_gone] at hr6
    have hlfin := hlall.trans (hl3.trans hl5)
    have hmk : Marks m0 _ (mark ++ a.defers) := (hmark.mono hl3).mono hl5
    refine ⟨l4.pending, _, run_endLoop hlo4 (by rw [q1]; exact hsb), ?_⟩
    generalize hw5 : ({ w3 with heap := w3.heap.setIfInBounds w1.heap.size (Obj.loop { l4 with state := .exhausted }) } : World) = w5 at hr6 hlfin hmk ⊢
    rw [q2]
    have fin : ∀ ex, Q ex env (σ3.set σ.length .gone) → Left_ N g w n m0 Q ex { a with defers := mark ++ a.defers } w5 := fun ex hq => ⟨env, _, g3, hq, hr6, he.mono hlfin, hlfin.toN N, hn, hmk⟩
    cases p with
    | none => exact fin .normal hp
    | some c =>
      cases c with
      | ret => exact wpIn_ret (fin .ret hp)
      | exit x => exact wpIn_exit (fin (.exit x) hp)
      | _ => exact hp.elim
end
end Go.MV
end
section
set_option linter.unusedVariables false
set_option linter.unusedSimpArgs false
namespace Go.MV
open Go Go.RowKit
section
variable {P : Program} {fn : Func} {S L : MS} {R : MV → MS → Prop} {env : Env}
theorem mcalls_body {f : FuncId} {c : Code} {args : List MV} {n : Nat} (hf : P.funcs[f]? = some fn) (hb : fn.body = some c) (hn : fn.ntmps = n) (ha : args.length ≤ n)
    (h : mwp P none S.length n c (BodyQ P fn S R) (argEnv 0 args) (S ++ [])) : MCalls P f args S R := by
  refine mcalls_of_body hf hb hn ha ?_
  rw [List.append_nil] at h
  exact h
theorem ret_tmp {e : Exit} {t : Nat} {x y : MV} (he : e = .normal ∨ e = .ret) (hres : fn.results = #[.tmp t]) (hx : get env t = some x) (hs : Sub x y) (hc : Cl S.length y) (hR : R y S) : BodyQ P fn S R e env (S ++ L) := by
  refine ⟨he, [x], y, S, L, ?_, hs, hc, rfl, Nat.le_refl _, .inl rfl, hR⟩
  rw [hres]
  exact .tmp hx .nil
theorem ret_cell {e : Exit} {a t k off : Nat} {l : List MV} {ta : Option Nat} {x y : MV} (he : e = .normal ∨ e = .ret) (hres : fn.results = #[.cell a t]) (ha : get env a = some (.ref (S.length + k) off)) (hl : L[k]? = some (.cells l)) (ht : tyAgg P t = some ta) (hm : loadMV ta l off = some x) (hs : Sub x y) (hc : Cl S.length y) (hR : R y S) : BodyQ P fn S R e env (S ++ L) := by
  refine ⟨he, [x], y, S, L, ?_, hs, hc, rfl, Nat.le_refl _, .inl rfl, hR⟩
  rw [hres]
  exact .cell ha (by rw [getElem?_own]; exact hl) ht hm .nil
theorem Sub.of_eq {x y : MV} (h : x = y) : Sub x y := h ▸ .refl x
theorem wrap_i64 {n : Int} (h : -9223372036854775808 ≤ n ∧ n ≤ 9223372036854775807) : IntKind.i64.wrap n = n := by
  rw [IntKind.wrap_i64]; omega
end
theorem int_succ {i n : Nat} (h : i < n) (hn : n ≤ maxLen) : MV.int .i64 (IntKind.i64.wrap ((i : Int) + 1)) = .int .i64 ((i + 1 : Nat) : Int) := by
  rw [wrap_i64 (by simp only [maxLen] at hn; omega)]
  rfl
section
variable {P : Program} {rd : Option Nat} {N n : Nat} {Q : Exit → Env → MS → Prop} {env : Env} {σ : MS} {c : Code}
theorem mwp_len {t : Nat} {tok : Option Nat} {sz : Nat} {xs : List MV} (ht : get env t = some (.lst tok sz xs)) (h : xs.length ≤ maxLen → mwp P rd N n c Q env σ) : mwp P rd N n c Q env σ := by
  intro g w a F m0 hF hr he hn hm
  obtain ⟨v, _, hv⟩ := he t _ ht
  obtain ⟨_, _, _, _, h1, h2, _⟩ := hv.inv_lst
  exact h (by omega) g w a F m0 hF hr he hn hm
end
section
variable {P : Program} {rd : Option Nat} {N n : Nat} {Q : Exit → Env → MS → Prop} {env : Env} {S L : MS} {c : Code}
end
inductive Sch where
  | mk (kind : Int) (ins : List Sch)
  deriving Inhabited
mutual
def encS : Sch → MV
  | .mk k ins => .agg [.int .i64 k, .lst none 2 (encSs ins)]
def encSs : List Sch → List MV
  | [] => []
  | s :: l => encS s :: encSs l
end
theorem encSs_eq : ∀ l : List Sch, encSs l = l.map encS
  | [] => by simp [encSs]
  | s :: l => by simp [encSs, encSs_eq l]
theorem encSs_length (l : List Sch) : (encSs l).length = l.length := by rw [encSs_eq, List.length_map]
theorem encSs_get {l : List Sch} {i : Nat} {s : Sch} (h : l[i]? = some s) : (encSs l)[i]? = some (encS s) := by rw [encSs_eq, List.getElem?_map, h]; rfl
mutual
theorem cl_encS (n : Nat) : ∀ s : Sch, Cl n (encS s)
  | .mk k ins => by
    refine .agg _ fun x hx => ?_
    simp only [encS, List.mem_cons, List.not_mem_nil, or_false] at hx
    rcases hx with rfl | rfl
    · exact .int _ _
    · exact .lst none 2 _ (fun t ht => by cases ht) (cl_encSs n ins)
theorem cl_encSs (n : Nat) : ∀ (l : List Sch), ∀ x ∈ flat (encSs l), Cl n x
  | [], x, hx => by simp [encSs, flat] at hx
  | s :: l, x, hx => by
    rw [encSs, flat_cons, List.mem_append] at hx
    rcases hx with hx | hx
    · have h := cl_encS n s
      cases s with
      | mk k ins =>
        cases h with
        | agg _ h => exact h x hx
    · exact cl_encSs n l x hx
end
end Go.MV
end
section
set_option linter.unusedVariables false
set_option linter.unusedSimpArgs false
namespace Go.MV
open Go Go.RowKit
section
variable {P : Program} {rd : Option Nat} {o : Oper} {env : Env} {σ : MS} {K : MV → MS → Prop}
theorem op_rem {t t' : TypeId} {x y : Operand} {k : IntKind} {m n r : Int} (ho : o.op = .binOp .rem t x y t') (hx : evo env x = some (.int k m)) (hy : evo env y = some (.int k n)) (hn : n ≠ 0) (hr : m.tmod n = r) (h : K (.int k r) σ) : OpWp P rd o env σ K := by
  refine op_bin ho hx hy (fun _ _ _ h => h.inv_int) (fun _ _ _ h => h.inv_int) (vz := .int k r) (fun w => ?_) rfl h
  subst hr
  simp [eqGuard, binOp, Op.intDiv, hn]
theorem op_quo {t t' : TypeId} {x y : Operand} {k : IntKind} {m n r : Int} (ho : o.op = .binOp .quo t x y t') (hx : evo env x = some (.int k m)) (hy : evo env y = some (.int k n)) (hn : n ≠ 0) (hr : k.wrap (m.tdiv n) = r) (h : K (.int k r) σ) : OpWp P rd o env σ K := by
  refine op_bin ho hx hy (fun _ _ _ h => h.inv_int) (fun _ _ _ h => h.inv_int) (vz := .int k r) (fun w => ?_) rfl h
  subst hr
  simp [eqGuard, binOp, Op.intDiv, hn]
def bitsI : BinOp → IntKind → Int → Int → Option Int
  | .and, k, m, n => some (k.wrap (BitVec.ofInt k.bits m &&& BitVec.ofInt k.bits n).toNat)
  | .or, k, m, n => some (k.wrap (BitVec.ofInt k.bits m ||| BitVec.ofInt k.bits n).toNat)
  | .xor, k, m, n => some (k.wrap (BitVec.ofInt k.bits m ^^^ BitVec.ofInt k.bits n).toNat)
  | .andNot, k, m, n => some (k.wrap (BitVec.ofInt k.bits m &&& ~~~BitVec.ofInt k.bits n).toNat)
  | _, _, _, _ => none
theorem op_bits {b : BinOp} {t t' : TypeId} {x y : Operand} {k : IntKind} {m n r : Int} (ho : o.op = .binOp b t x y t') (hx : evo env x = some (.int k m)) (hy : evo env y = some (.int k n)) (hr : bitsI b k m n = some r) (h : K (.int k r) σ) : OpWp P rd o env σ K := by
  refine op_bin ho hx hy (fun _ _ _ h => h.inv_int) (fun _ _ _ h => h.inv_int) (vz := .int k r) (fun w => ?_) rfl h
  cases b <;> simp only [bitsI, Option.some.injEq] at hr <;> first | (cases hr; done) | (subst hr; simp [eqGuard, binOp, Op.intBits]; done)
theorem op_shr {t t' : TypeId} {x y : Operand} {k k' : IntKind} {m n r : Int} (ho : o.op = .binOp .shr t x y t') (hx : evo env x = some (.int k m)) (hy : evo env y = some (.int k' n)) (hn : 0 ≤ n) (hr : m.fdiv (2 ^ min n.toNat k.bits) = r) (h : K (.int k r) σ) : OpWp P rd o env σ K := by
  refine op_bin ho hx hy (fun _ _ _ h => h.inv_int) (fun _ _ _ h => h.inv_int) (vz := .int k r) (fun w => ?_) rfl h
  subst hr
  have : ¬ n < 0 := by omega
  simp [eqGuard, binOp, Op.shift, this]
theorem op_shl {t t' : TypeId} {x y : Operand} {k k' : IntKind} {m n r : Int} (ho : o.op = .binOp .shl t x y t') (hx : evo env x = some (.int k m)) (hy : evo env y = some (.int k' n)) (hn : 0 ≤ n) (hr : k.wrap (m * 2 ^ min n.toNat k.bits) = r) (h : K (.int k r) σ) : OpWp P rd o env σ K := by
  refine op_bin ho hx hy (fun _ _ _ h => h.inv_int) (fun _ _ _ h => h.inv_int) (vz := .int k r) (fun w => ?_) rfl h
  subst hr
  have : ¬ n < 0 := by omega
  simp [eqGuard, binOp, Op.shift, this]
theorem op_strcat {t t' : TypeId} {x y : Operand} {s u : Bs} (ho : o.op = .binOp .add t x y t') (hx : evo env x = some (.str (bs s))) (hy : evo env y = some (.str (bs u))) (hl : s.length + u.length ≤ 9223372036854775807) (h : K (.str (bs (s ++ u))) σ) : OpWp P rd o env σ K := by
  have e : bs s ++ bs u = bs (s ++ u) := by
    apply ByteArray.ext
    simp [bs]
  refine op_bin ho hx hy (fun _ _ _ h => h.inv_str) (fun _ _ _ h => h.inv_str) (vz := .string (bs (s ++ u))) (fun w => ?_) rfl h
  have hs : ¬ (((bs s).size + (bs u).size : Nat) : Int) > IntKind.i64.max := by
    rw [bs_size, bs_size]
    show ¬ ((_ : Nat) : Int) > 9223372036854775807
    omega
  simp only [eqGuard, binOp, Op.stringOp, if_neg hs, e]
  rfl
theorem op_convInt {t t' : TypeId} {x : Operand} {k k' : IntKind} {n r : Int} {d : TypeDesc} (ho : o.op = .convert t t' x) (hs : P.underlying t = some d) (ht : P.underlying t' = some (.int k)) (hx : evo env x = some (.int k' n)) (hr : k.wrap n = r) (h : K (.int k r) σ) : OpWp P rd o env σ K := by
  subst hr
  refine OpWp.of_run (by simp [ho]) fun g w a hr hop => ⟨.int k (k.wrap n), w, ?_, .same h hr (.int _ _)⟩
  have hv := (hop x (by simp [ho, Op.operands]) _ hx).inv_int
  simp [execOp, ho, convert, run_underlying hs, run_underlying ht, hv, Conv.intToInt]
theorem op_index_str {t : TypeId} {x y : Operand} {k : IntKind} {n : Int} {i : Nat} {l : Bs} {b : UInt8} (ho : o.op = .index t x y) (hu : P.underlying t = some .string) (hx : evo env x = some (.str (bs l))) (hy : evo env y = some (.int k n)) (hn : n = (i : Int)) (hm : l[i]? = some b) (h : K (.int .u8 (b.toNat : Int)) σ) : OpWp P rd o env σ K := by
  subst hn
  refine OpWp.of_run (by simp [ho]) fun g w a hr hop => ⟨.int .u8 (b.toNat : Int), w, ?_, .same h hr (.int _ _)⟩
  have hv := (hop x (by simp [ho, Op.operands]) _ hx).inv_str
  have hv2 := (hop y (by simp [ho, Op.operands]) _ hy).inv_int
  have e : (bs l)[i]? = some b := by
    have hlt : i < l.length := (List.getElem?_eq_some_iff.1 hm).1
    have hlt' : i < (bs l).size := by rw [bs_size]; exact hlt
    rw [getElem?_pos (bs l) i hlt']
    rw [List.getElem?_eq_getElem hlt] at hm
    injection hm with hm
    rw [← hm]
    rfl
  have e1 : (if (0 : Int) ≤ (i : Int) then (bs l)[((i : Int)).toNat]? else none) = some b := by
    rw [if_pos (by omega)]
    simpa using e
  simp only [execOp, ho, Instr.index, Sem.run_bind, hv, hv2, asIntOf, Sem.run_pure, Result.andThen_ok, run_underlying hu, e1]
theorem op_slice_str {t : TypeId} {x : Operand} {lo hi : Option Operand} {l : Bs} {i j : Nat} (ho : o.op = .slice t x lo hi none) (hu : P.underlying t = some .string) (hx : evo env x = some (.str (bs l)))
    (hlo : OptInt env 0 lo i) (hhi : OptInt env l.length hi j) (hij : i ≤ j) (hj : j ≤ l.length) (h : K (.str (bs ((l.drop i).take (j - i)))) σ) : OpWp P rd o env σ K := by
  refine OpWp.of_run (by simp [ho]) fun g w a hr hop => ?_
  refine ⟨_, w, ?_, .same h hr (.str _)⟩
  have hv := (hop x (by simp [ho, Op.operands]) _ hx).inv_str
  have e1 : ∀ (x' : Operand) (k : IntKind) (n : Int), lo = some x' → evo env x' = some (.int k n) → a.eval x' = .int k n := fun x' k n e he => (hop x' (by simp [ho, Op.operands, e]) _ he).inv_int
  have e2 : ∀ (x' : Operand) (k : IntKind) (n : Int), hi = some x' → evo env x' = some (.int k n) → a.eval x' = .int k n := fun x' k n e he => (hop x' (by simp [ho, Op.operands, e]) _ he).inv_int
  have e : (bs l).extract i j = bs ((l.drop i).take (j - i)) := by
    apply ByteArray.ext
    simp [bs, ByteArray.data_extract, List.extract_toArray, List.extract_eq_take_drop]
  have hsz := bs_size l
  cases hlo with
  | none =>
    cases hhi with
    | none => simp [execOp, ho, Instr.sliceAt, Instr.slice, run_underlying hu, hv, Instr.sliceBounds, hsz, e]
    | some he en =>
      subst en
      simp [execOp, ho, Instr.sliceAt, Instr.slice, run_underlying hu, hv, Instr.sliceBounds, Instr.sliceBound, asIntOf, e2 _ _ _ rfl he, hsz, hj, e]
  | some he en =>
    subst en
    cases hhi with
    | none => simp [execOp, ho, Instr.sliceAt, Instr.slice, run_underlying hu, hv, Instr.sliceBounds, Instr.sliceBound, asIntOf, e1 _ _ _ rfl he, hsz, hij, e]
    | some he' en' =>
      subst en'
      simp [execOp, ho, Instr.sliceAt, Instr.slice, run_underlying hu, hv, Instr.sliceBounds, Instr.sliceBound, asIntOf, e1 _ _ _ rfl he, e2 _ _ _ rfl he', hsz, hij, hj, e]
theorem op_ptr0 {b : BinOp} {r : Bool} {t e t' : TypeId} {x y : Operand} (ho : o.op = .binOp b t x y t') (hu : P.underlying t = some (.pointer e)) (hx : evo env x = some .ptr0) (hy : evo env y = some .ptr0) (hb : b = .eql ∧ r = true ∨ b = .neq ∧ r = false) (h : K (.bool r) σ) : OpWp P rd o env σ K := by
  refine op_bin ho hx hy (fun _ _ _ h => h.inv_ptr0) (fun _ _ _ h => h.inv_ptr0) (vz := .bool r) (fun w => ?_) rfl h
  have h9 : ∀ d : Nat, (Op.equalIn (d + 1) t (.pointer none) (.pointer none)).run P w = .ok true w := fun d => by simp [Op.equalIn, run_underlying hu]
  rcases hb with ⟨rfl, rfl⟩ | ⟨rfl, rfl⟩ <;> (simp only [eqGuard, binOp]; simp [Op.equal, Op.maxDepth, h9 9999])
def MV.isPtr : MV → Bool
  | .ref _ _ | .sptr _ => true
  | _ => false
theorem ptr_some {g : Gh} {w : World} {m : MV} {v : Value} (h : Rd g w m v) (hm : m.isPtr = true) : ∃ a, v = .pointer (some a) := by
  cases h <;> first | (cases hm; done) | exact ⟨_, rfl⟩
theorem op_ptrnil {b : BinOp} {r : Bool} {t e t' : TypeId} {x y : Operand} {m : MV} (ho : o.op = .binOp b t x y t') (hu : P.underlying t = some (.pointer e)) (hx : evo env x = some m) (hm : m.isPtr = true) (hy : evo env y = some .ptr0) (hb : b = .eql ∧ r = false ∨ b = .neq ∧ r = true) (h : K (.bool r) σ) : OpWp P rd o env σ K := by
  refine OpWp.of_run (by rcases hb with ⟨rfl, rfl⟩ | ⟨rfl, rfl⟩ <;> simp [ho]) fun g w a hr hop => ?_
  obtain ⟨ad, e1⟩ := ptr_some (hop x (by simp [ho, Op.operands]) _ hx) hm
  have e2 := (hop y (by simp [ho, Op.operands]) _ hy).inv_ptr0
  refine ⟨.bool r, w, ?_, .same h hr (.bool _)⟩
  have h9 : ∀ d : Nat, (Op.equalIn (d + 1) t (.pointer (some ad)) (.pointer none)).run P w = .ok false w := fun d => by simp [Op.equalIn, run_underlying hu]
  rcases hb with ⟨rfl, rfl⟩ | ⟨rfl, rfl⟩ <;> (simp only [execOp, ho, e1, e2, Sem.run_bind, Sem.run_pure]; simp [eqGuard, binOp, Op.equal, Op.maxDepth, h9 9999])
theorem op_if0 {b : BinOp} {r : Bool} {t t' : TypeId} {x : Operand} {c : Value} {ms : Array (String × TypeId)} (ho : o.op = .binOp b t x (.const c) t') (hu : P.underlying t = some (.interface ms)) (hx : evo env x = some .iface0) (hy : evo env (.const c) = some .iface0) (hb : b = .eql ∧ r = true ∨ b = .neq ∧ r = false) (h : K (.bool r) σ) : OpWp P rd o env σ K := by
  refine op_bin ho hx hy (fun _ _ _ h => h.inv_iface0) (fun _ _ _ h => h.inv_iface0) (vz := .bool r) (fun w => ?_) rfl h
  have h9 : ∀ d : Nat, (Op.equalIn (d + 1) t .nilIface .nilIface).run P w = .ok true w := fun d => by simp [Op.equalIn, run_underlying hu]
  rcases hb with ⟨rfl, rfl⟩ | ⟨rfl, rfl⟩ <;> (simp only [eqGuard, binOp]; simp [Op.equal, Op.maxDepth, h9 9999])
theorem op_ifnil {b : BinOp} {r : Bool} {t e t' : TypeId} {x y : Operand} {m : MV} {ms : Array (String × TypeId)} (ho : o.op = .binOp b t x y t') (hu : P.underlying t = some (.interface ms)) (hx : evo env x = some (.iface e m)) (hy : evo env y = some .iface0) (hb : b = .eql ∧ r = false ∨ b = .neq ∧ r = true) (h : K (.bool r) σ) : OpWp P rd o env σ K := by
  refine OpWp.of_run (by rcases hb with ⟨rfl, rfl⟩ | ⟨rfl, rfl⟩ <;> simp [ho]) fun g w a hr hop => ?_
  obtain ⟨u, e1, _⟩ := (hop x (by simp [ho, Op.operands]) _ hx).inv_iface
  have e2 := (hop y (by simp [ho, Op.operands]) _ hy).inv_iface0
  refine ⟨.bool r, w, ?_, .same h hr (.bool _)⟩
  have h9 : ∀ d : Nat, (Op.equalIn (d + 1) t (.iface e u) .nilIface).run P w = .ok false w := fun d => by simp [Op.equalIn, run_underlying hu]
  rcases hb with ⟨rfl, rfl⟩ | ⟨rfl, rfl⟩ <;> (simp only [execOp, ho, e1, e2, Sem.run_bind, Sem.run_pure]; simp [eqGuard, binOp, Op.equal, Op.maxDepth, h9 9999])
theorem nat_tmod (a b : Nat) : Int.tmod (a : Int) (b : Int) = ((a % b : Nat) : Int) := rfl
theorem wrap_u64 {n : Int} (h : 0 ≤ n ∧ n < 18446744073709551616) : IntKind.u64.wrap n = n := by
  simp [IntKind.wrap, IntKind.signed, IntKind.bits]
  omega
theorem wrap_u8 {n : Int} (h : 0 ≤ n ∧ n < 256) : IntKind.u8.wrap n = n := by
  simp [IntKind.wrap, IntKind.signed, IntKind.bits]
  omega
theorem wadd {a b c : Nat} (h : a + b = c) (hc : c < 9223372036854775808) : intArith .add .i64 (a : Int) (b : Int) = some (c : Int) := by
  simp only [intArith]
  rw [wrap_i64 (by omega)]
  congr 1
  omega
theorem wsub {a b c : Nat} (h : b + c = a) (hc : a < 9223372036854775808) : intArith .sub .i64 (a : Int) (b : Int) = some (c : Int) := by
  simp only [intArith]
  rw [wrap_i64 (by omega)]
  congr 1
  omega
end
end Go.MV
end
section
set_option linter.unusedVariables false
set_option linter.unusedSimpArgs false
namespace Go.MV
open Go Go.RowKit
def eqOne : TypeDesc → MV → MV → Option Bool
  | .int _, .int k a, .int k' b => if k = k' then some (a == b) else none
  | .bool, .bool a, .bool b => some (a == b)
  | .string, .str a, .str b => some (strL a == strL b)
  | _, _, _ => none
def eqFs (P : Program) (l l' : List MV) : List Field → Option Bool
  | [] => some true
  | f :: fs => match P.underlying f.type, l[f.offset]?, l'[f.offset]? with
    | some d, some x, some y => match eqOne d x y, eqFs P l l' fs with
      | some a, some b => some (a && b)
      | _, _ => none
    | _, _, _ => none
def flatStruct (P : Program) (t : TypeId) : Bool := match P.underlying t with
  | some (.struct fs) => !P.stoodInHeld t && !P.eqGuardType P.depth t && fs.toList.all (fun f => f.name != "_" && match P.underlying f.type with | some (.int _) | some .bool | some .string => true | _ => false)
  | _ => false
theorem eqOne_run {P : Program} {g : Gh} {w w' : World} {t : TypeId} {d : TypeDesc} (hu : P.underlying t = some d) {x y : MV} {u v : Value} {r : Bool} (h : eqOne d x y = some r) (hx : Rd g w x u) (hy : Rd g w y v) (n : Nat) : (Op.equalIn (n + 1) t u v).run P w' = .ok r w' := by
  unfold eqOne at h
  split at h
  · rw [hx.inv_int, hy.inv_int]
    split at h
    · rename_i k a k' b hk
      subst hk
      injection h with h
      subst h
      simp [Op.equalIn, run_underlying hu]
    · cases h
  · rw [hx.inv_bool, hy.inv_bool]
    injection h with h
    subst h
    simp [Op.equalIn, run_underlying hu]
  · rw [hx.inv_str, hy.inv_str]
    injection h with h
    subst h
    rw [run_equalIn_string _ _ _ _ _ hu]
    rw [ByteArray.toList_eq, ByteArray.toList_eq]
    rfl
  · cases h
theorem eqFs_run {P : Program} {g : Gh} {w w' : World} {l l' : List MV} {us vs : List Value} (hl : Rds g w l us) (hl' : Rds g w l' vs) (n : Nat) : ∀ {fs : List Field} {r : Bool}, (fs.all fun f => f.name != "_" && match P.underlying f.type with | some (.int _) | some .bool | some .string => true | _ => false) = true → eqFs P l l' fs = some r → (Op.eqFields (n + 1) us.toArray vs.toArray fs).run P w' = .ok r w'
  | [], r, _, h => by
    injection h with h
    subst h
    simp [Op.eqFields]
  | f :: fs, r, hall, h => by
    simp only [List.all_cons, Bool.and_eq_true] at hall
    unfold eqFs at h
    split at h
    · rename_i d x y hu hx hy
      split at h
      · rename_i a b ha hb
        injection h with h
        subst h
        have ih := eqFs_run (w' := w') hl hl' n hall.2 hb
        obtain ⟨u, hu1, hu2⟩ := hl.get hx
        obtain ⟨v, hv1, hv2⟩ := hl'.get hy
        have hagg : (isAgg f.type).run P w' = .ok false w' := by
          have := hall.1.2
          rw [hu] at this
          unfold isAgg
          simp only [Sem.run_bind, run_underlying hu, Result.andThen_ok]
          cases d <;> first | rfl | (cases this; done)
        have hp1 : (part f.type us.toArray f.offset).run P w' = .ok u w' := by
          unfold part
          simp [hagg, hu1]
        have hp2 : (part f.type vs.toArray f.offset).run P w' = .ok v w' := by
          unfold part
          simp [hagg, hv1]
        have hn : f.name ≠ "_" := by simpa using hall.1.1
        have he := eqOne_run (w' := w') hu ha hu2 hv2 n
        simp only [Op.eqFields, if_pos hn, Sem.run_bind, hp1, hp2, he, Result.andThen_ok]
        cases a with
        | true => simpa using ih
        | false => simp
      · cases h
    · cases h
theorem op_eqstruct {P : Program} {rd : Option Nat} {o : Oper} {env : Env} {σ : MS} {K : MV → MS → Prop} {b : BinOp} {r r' : Bool} {t t' : TypeId} {x y : Operand} {l l' : List MV} (ho : o.op = .binOp b t x y t') (hf : flatStruct P t = true) (hx : evo env x = some (.agg l)) (hy : evo env y = some (.agg l'))
    (he : eqFs P l l' (P.fieldsOf t).toList = some r) (hb : b = .eql ∧ r' = r ∨ b = .neq ∧ r' = !r) (h : K (.bool r') σ) : OpWp P rd o env σ K := by
  refine OpWp.of_run (by rcases hb with ⟨rfl, rfl⟩ | ⟨rfl, rfl⟩ <;> simp [ho]) fun g w a hr hop => ?_
  obtain ⟨us, e1, h1⟩ := (hop x (by simp [ho, Op.operands]) _ hx).inv_agg
  obtain ⟨vs, e2, h2⟩ := (hop y (by simp [ho, Op.operands]) _ hy).inv_agg
  refine ⟨.bool r', w, ?_, .same h hr (.bool _)⟩
  unfold flatStruct at hf
  split at hf
  · rename_i fs hu
    simp only [Bool.and_eq_true, Bool.not_eq_true'] at hf
    have hfo : P.fieldsOf t = fs := by simp [Program.fieldsOf, hu]
    rw [hfo] at he
    have hrun := eqFs_run (w' := w) h1 h2 9998 hf.2 he
    have hq : (Op.equalIn 10000 t (.agg us.toArray) (.agg vs.toArray)).run P w = .ok r w := by
      rw [run_equalIn_struct w 9999 t us.toArray vs.toArray (by rw [hfo]; exact hu) hf.1.1, hfo]
      exact hrun
    rcases hb with ⟨rfl, rfl⟩ | ⟨rfl, rfl⟩ <;> (simp only [execOp, ho, e1, e2, Sem.run_bind, Sem.run_pure]; simp [eqGuard, binOp, Op.equal, Op.maxDepth, hq, hf.1.2])
  · cases hf
end Go.MV
end
section
set_option linter.unusedVariables false
set_option linter.unusedSimpArgs false
namespace Go.MV
open Go Go.RowKit
section
variable {P : Program} {rd : Option Nat} {N n : Nat} {Q : Exit → Env → MS → Prop} {env : Env} {S L : MS} {c : Code}
theorem EnvSub.app {env A B : Env} (h : EnvSub env A) (k : EnvSub env B) : EnvSub env (A ++ B) := by
  induction h with
  | nil => exact k
  | cons h1 h2 _ ih => exact .cons h1 h2 ih
theorem EnvTo.app {n : Nat} {env E0 A B : Env} (h : EnvTo n env E0 A) (k : EnvTo n env E0 B) : EnvTo n env E0 (A ++ B) := by
  induction h with
  | nil => exact k
  | old h1 h2 _ ih => exact .old h1 h2 ih
  | new h1 h2 h3 _ ih => exact .new h1 h2 h3 ih
theorem mwp_loopK {α : Type} {L0 : MS} (K : Env) (E : α → Env) (L : α → MS) (I : α → Prop) (m : α → Nat) (x₀ : α) (hK : EnvSub env K) (hE : EnvSub env (E x₀)) (h₀ : I x₀) (hL : L0 = L x₀)
    (round : ∀ x, I x → mwp P rd N n c (ThenM (fun env' σ' => ∃ y, m y < m x ∧ I y ∧ σ' = S ++ L y ∧ EnvSub env' K ∧ EnvSub env' (E y)) Q) (K ++ E x) (S ++ L x)) : mwp P rd N n (.loop c) Q env (S ++ L0) := by
  refine mwp_loop0 (fun x => K ++ E x) L I m x₀ h₀ hL (hK.app hE) fun x hx => mwp_mono (round x hx) fun e env' σ' h => ?_
  cases e with
  | normal =>
    obtain ⟨y, h1, h2, h3, h4, h5⟩ := h
    exact ⟨y, h1, h2, h3, h4.app h5⟩
  | _ => exact h
theorem mwp_loopKJ {α : Type} {L0 : MS} (K : Env) (E : α → Env) (L : α → MS) (I : α → Prop) (m : α → Nat) (x₀ : α) (hN : N ≤ S.length) (hK : EnvSub env K) (hE : EnvSub env (E x₀)) (h₀ : I x₀) (hL : L0 = L x₀)
    (round : ∀ x, I x → mwp P rd N n c (ThenM (fun env' σ' => ∃ y junk, m y < m x ∧ I y ∧ σ' = S ++ (L y ++ junk) ∧ LTo (S.length + (L x).length) (L x) (L y) ∧ EnvTo (S.length + (L x).length) env' (K ++ E x) K ∧ EnvTo (S.length + (L x).length) env' (K ++ E x) (E y)) Q) (K ++ E x) (S ++ L x)) : mwp P rd N n (.loop c) Q env (S ++ L0) := by
  refine mwp_loopJ (fun x => K ++ E x) L I m x₀ hN h₀ hL (hK.app hE) fun x hx => mwp_mono (round x hx) fun e env' σ' h => ?_
  cases e with
  | normal =>
    obtain ⟨y, junk, h1, h2, h3, h4, h5, h6⟩ := h
    exact ⟨y, junk, h1, h2, h3, h4, h5.app h6⟩
  | _ => exact h
theorem mwp_row0 {L' : MS} (t ty sz : Nat) {k : Nat} (ht : get env t = some .lst0) (hN : N ≤ S.length) (hk : L.length = k) (hL : L ++ [.row ty sz 0] = L') (h : mwp P rd N n c Q ((t, .lst (some (S.length + k)) sz []) :: env) (S ++ L')) : mwp P rd N n c Q env (S ++ L) := by
  subst hk hL
  refine mwp_ghost (fun g w tmps hr he => ?_) h
  obtain ⟨r1, l1, d1⟩ := tok_new hr ty sz
  have hlen : (S ++ L).length = S.length + L.length := List.length_append
  refine ⟨_, by rw [← List.append_assoc]; exact r1, fun s y hy => ?_, l1.toN N, fun F hF => hF.mono (l1.toN N)⟩
  by_cases e : t = s
  · subst e
    rw [get_cons_self] at hy
    injection hy with hy
    subst hy
    obtain ⟨v, hv, hrd⟩ := he t _ ht
    refine ⟨v, hv, ?_⟩
    rw [hrd.inv_lst0, ← hlen]
    exact d1
  · rw [get_cons_ne _ _ e] at hy
    obtain ⟨v, hv, hrd⟩ := he s y hy
    exact ⟨v, hv, hrd.mono l1⟩
end
theorem wOps_case {P : Program} {rd : Option Nat} {ops : Array Oper} {Q : Env → MS → Prop} {rest : List Oper} {t : Nat} {e : Bool} {env : Env} {σ : MS} (hT : e = true → wOps P rd ops Q rest ((t, .bool true) :: env) σ) (hF : e = false → wOps P rd ops Q rest ((t, .bool false) :: env) σ) : wOps P rd ops Q rest (putd (some t) (.bool e) env) σ := by
  cases e
  · exact hF rfl
  · exact hT rfl
theorem dOps_case {P : Program} {rd : Option Nat} {ops : Array Oper} {eff : List Nat} {Ss : List MS} {Q : Env → Prop} {rest : List Oper} {i t : Nat} {e : Bool} {env : Env} (hT : e = true → dOps P rd ops eff Ss Q rest i ((t, .bool true) :: env)) (hF : e = false → dOps P rd ops eff Ss Q rest i ((t, .bool false) :: env)) : dOps P rd ops eff Ss Q rest i (putd (some t) (.bool e) env) := by
  cases e
  · exact hF rfl
  · exact hT rfl
theorem op_min2' {P : Program} {rd : Option Nat} {o : Oper} {env : Env} {σ : MS} {K : MV → MS → Prop} {ts : Array TypeId} {x y : Operand} {k : IntKind} {m n r : Int} (ho : o.op = .call { callee := .builtin .min, args := #[x, y], argTypes := ts }) (hx : evo env x = some (.int k m)) (hy : evo env y = some (.int k n)) (hr : (if n < m then n else m) = r) (h : K (.int k r) σ) : OpWp P rd o env σ K := op_min2 ho hx hy (hr ▸ h)
theorem cl_flat {α : Type} {en : α → MV} {n : Nat} {l : List α} (h : ∀ a ∈ l, Cl n (en a)) (hc : ∀ a, en a = .agg (en a).cells ∨ [en a] = (en a).cells) : ∀ x ∈ flat (l.map en), Cl n x := by
  intro x hx
  obtain ⟨y, hy, hx⟩ := List.mem_flatMap.1 hx
  obtain ⟨a, ha, rfl⟩ := List.mem_map.1 hy
  rcases hc a with e | e
  · have := h a ha
    rw [e] at this
    cases this with
    | agg _ h => exact h x hx
  · rw [← e] at hx
    simp at hx
    subst hx
    exact h a ha
theorem cl_lst {α : Type} {en : α → MV} {n sz : Nat} {l : List α} (h : ∀ a, Cl n (en a)) (hc : ∀ a, en a = .agg (en a).cells ∨ [en a] = (en a).cells) : Cl n (.lst none sz (l.map en)) := .lst none sz _ (fun t ht => by cases ht) (cl_flat (fun a _ => h a) hc)
theorem cl_lstT {α : Type} {en : α → MV} {n sz t : Nat} {l : List α} (ht : t < n) (h : ∀ a, Cl n (en a)) (hc : ∀ a, en a = .agg (en a).cells ∨ [en a] = (en a).cells) : Cl n (.lst (some t) sz (l.map en)) := .lst _ sz _ (fun s hs => by injection hs with hs; omega) (cl_flat (fun a _ => h a) hc)
theorem get_map {α : Type} {en : α → MV} {l : List α} {i : Nat} {a : α} (h : l[i]? = some a) : (l.map en)[i]? = some (en a) := by rw [List.getElem?_map, h]; rfl
end Go.MV
end
section
set_option linter.unusedVariables false
set_option linter.unusedSimpArgs false
namespace Go.MV
open Go Go.RowKit
section
variable {P : Program} {rd : Option Nat} {o : Oper} {env : Env} {σ S L : MS} {K : MV → MS → Prop}
theorem op_nilCheck {x : Operand} {m : MV} (ho : o.op = .nilCheck x) (hx : evo env x = some m) (hm : m.isPtr = true) (h : K m σ) : OpWp P rd o env σ K := by
  refine OpWp.of_run (by simp [ho]) fun g w a hr hop => ?_
  have hv := hop x (by simp [ho, Op.operands]) _ hx
  obtain ⟨ad, e⟩ := ptr_some hv hm
  refine ⟨_, w, ?_, .same h hr hv⟩
  simp [execOp, ho, e, Instr.sureAddr]
theorem op_store_far {t : TypeId} {x y : Operand} {id off : Nat} {l : List MV} {m : MV} {k : Nat} (ho : o.op = .store t x y) (hx : evo env x = some (.ref id off)) (hy : evo env y = some m) (hσ : S[id]? = some (.cells l)) (hk : szOf P t = some k) (hm : m.cells.length = k)
    (h1 : m.cells.all MV.one = true) (hle : off + k ≤ l.length) (h : K (.tup []) (S.set id (.cells (setMany l off m.cells)) ++ L)) : OpWp P rd o env (S ++ L) K := by
  have hlt := (List.getElem?_eq_some_iff.1 hσ).1
  refine op_store ho hx hy (by rw [List.getElem?_append_left hlt]; exact hσ) hk hm h1 hle ?_
  rw [List.set_append_left _ _ hlt]
  exact h
end
section
variable {P : Program} {fn : Func} {S S' L : MS} {R : MV → MS → Prop} {env : Env}
theorem ret_tmpS {e : Exit} {t : Nat} {x y : MV} (he : e = .normal ∨ e = .ret) (hres : fn.results = #[.tmp t]) (hx : get env t = some x) (hs : Sub x y) (hc : Cl S'.length y) (hl : S.length ≤ S'.length) (hS : ClS S') (hR : R y S') : BodyQ P fn S R e env (S' ++ L) := by
  refine ⟨he, [x], y, S', L, ?_, hs, hc, rfl, hl, .inr hS, hR⟩
  rw [hres]
  exact .tmp hx .nil
theorem ret_noneS {e : Exit} (he : e = .normal ∨ e = .ret) (hres : fn.results = #[]) (hl : S.length ≤ S'.length) (hS : ClS S') (hR : R (.tup []) S') : BodyQ P fn S R e env (S' ++ L) := by
  refine ⟨he, [], .tup [], S', L, ?_, .refl _, .tup _ (by simp), rfl, hl, .inr hS, hR⟩
  rw [hres]
  exact .nil
end
theorem ClS.set {S : MS} (h : ClS S) {id : Nat} {o : MObj} (ho : o.cl S.length) : ClS (S.set id o) := by
  intro i p hp
  rw [List.length_set]
  rw [List.getElem?_set] at hp
  split at hp
  · split at hp
    · injection hp with hp
      subst hp
      exact ho
    · cases hp
  · exact h i p hp
theorem get_app {S L : MS} {id : Nat} {o : MObj} (h : S[id]? = some o) : (S ++ L)[id]? = some o := by
  rw [List.getElem?_append_left (List.getElem?_eq_some_iff.1 h).1]
  exact h
theorem get_set {S : MS} {id : Nat} {o p : MObj} (h : S[id]? = some o) : (S.set id p)[id]? = some p := by
  rw [List.getElem?_set, if_pos rfl, if_pos (List.getElem?_eq_some_iff.1 h).1]
theorem set_app {S L : MS} {id : Nat} {o p : MObj} (h : S[id]? = some o) : (S ++ L).set id p = S.set id p ++ L := List.set_append_left _ _ (List.getElem?_eq_some_iff.1 h).1
theorem set_set {S : MS} {id : Nat} {o p : MObj} : (S.set id o).set id p = S.set id p := by simp
end Go.MV
end
section
set_option linter.unusedVariables false
set_option linter.unusedSimpArgs false
namespace Go.MV
open Go Go.RowKit
def encY (b : UInt8) : MV := .int .u8 (b.toNat : Int)
theorem flat_encY (l : Bs) : flat (l.map encY) = l.map encY := by
  induction l with
  | nil => rfl
  | cons b l ih => rw [List.map_cons, flat_cons, ih]; rfl
theorem fold_push : ∀ (l acc : Bs), (l.map fun b => (b.toNat : Int)).foldl (fun r n => r.push (UInt8.ofNat n.toNat)) (bs acc) = bs (acc ++ l)
  | [], acc => by simp
  | b :: l, acc => by
    have e : (bs acc).push (UInt8.ofNat ((b.toNat : Int)).toNat) = bs (acc ++ [b]) := by
      apply ByteArray.ext
      simp [bs, ByteArray.push]
    rw [List.map_cons, List.foldl_cons, e, fold_push l (acc ++ [b]), List.append_assoc]
    rfl
theorem us_bytes {g : Gh} {w : World} : ∀ {l : Bs} {us : List Value}, Rds g w (l.map encY) us → us = (l.map fun b => (b.toNat : Int)).map (Value.int .u8)
  | [], us, h => by
    have := h.1
    simp at this
    simp [this]
  | b :: l, us, h => by
    obtain ⟨u, us', rfl, h1, h2⟩ := Rds.uncons h
    rw [us_bytes h2, h1.inv_int]
    rfl
theorem op_conv_bytes {P : Program} {rd : Option Nat} {o : Oper} {env : Env} {σ : MS} {K : MV → MS → Prop} {t t' e : TypeId} {x : Operand} {tok : Option Nat} {xs : List MV} {l : Bs} (ho : o.op = .convert t t' x) (hs : P.underlying t = some (.slice e)) (he : P.underlying e = some (.int .u8)) (ht : P.underlying t' = some .string)
    (hx : evo env x = some (.lst tok 1 xs)) (hxs : xs = l.map encY) (h : K (.str (bs l)) σ) : OpWp P rd o env σ K := by
  subst hxs
  refine OpWp.of_run (by simp [ho]) fun g w a hr hop => ⟨.string (bs l), w, ?_, .same h hr (.str _)⟩
  obtain ⟨ad, c, us, hv, h1, h2, h3, h4, h5, _⟩ := (hop x (by simp [ho, Op.operands]) _ hx).inv_lst
  rw [flat_encY] at h4
  have hus := us_bytes h4
  simp only [execOp, ho, hv, Sem.run_bind, run_convert_bytes_string w t t' e _ _ _ hs he ht]
  cases ad with
  | none =>
    have hl : l = [] := by
      cases l with
      | nil => rfl
      | cons b l =>
        exfalso
        have hp : 0 < us.length := by rw [h4.1]; simp
        obtain ⟨ad, ha, _⟩ := h5 0 us[0] (List.getElem?_eq_getElem hp)
        cases ha
    subst hl
    rfl
  | some ad =>
    have hrun := run_loadCells_list (P := P) (w := w) ad us (fun j v hv => by
      obtain ⟨ad', ea, hst⟩ := h5 j v hv
      injection ea with ea
      subst ea
      exact hst.2.1)
    have hlen : us.length = (l.map encY).length := h4.1
    rw [hlen, hus] at hrun
    rw [run_bytesToString w ad _ _ _ hrun]
    have := fold_push l []
    rw [List.nil_append] at this
    have e0 : bs [] = ByteArray.empty := rfl
    rw [e0] at this
    rw [this]
    rfl
theorem op_len_bs {P : Program} {rd : Option Nat} {o : Oper} {env : Env} {σ : MS} {K : MV → MS → Prop} {x : Operand} {l : Bs} {t : TypeId} (ho : o.op = .call { callee := .builtin .len, args := #[x], argTypes := #[t] }) (hu : P.underlying t = some .string) (hx : evo env x = some (.str (bs l)))
    (h : K (.int .i64 (l.length : Int)) σ) : OpWp P rd o env σ K := op_len_str ho hu hx (by rw [bs_size]; exact h)
end Go.MV
end
section
set_option linter.unusedVariables false
set_option linter.unusedSimpArgs false
namespace Go.MV
open Go Go.RowKit
def numB (n : Nat) : Bs := if h : n < 128 then [UInt8.ofNat n] else UInt8.ofNat (n % 128 + 128) :: numB (n / 128)
  termination_by n
  decreasing_by omega
def textB (s : Bs) : Bs := numB s.length ++ s
def xorI (h : Int) (b : UInt8) : Int := IntKind.u64.wrap (BitVec.ofInt IntKind.u64.bits h ^^^ BitVec.ofInt IntKind.u64.bits (b.toNat : Int)).toNat
def hashStep (h : Int) (b : UInt8) : Int := IntKind.u64.wrap (xorI h b * 1099511628211)
def hashB (l : Bs) : Int := l.foldl hashStep 14695981039346656037
theorem numB_len {n : Nat} (h : n < 2097152) : 1 ≤ (numB n).length ∧ (numB n).length ≤ 3 := by
  rw [numB]
  split
  · simp
  · rw [numB]
    split
    · simp
    · rw [numB]
      split
      · simp
      · omega
theorem u8_toNat {n : Nat} (h : n < 256) : (UInt8.ofNat n).toNat = n := by simp [UInt8.toNat_ofNat']; omega
end Go.MV
end
section
set_option linter.unusedVariables false
namespace Go.MV
open Go Go.RowKit
section
variable {P : Program} {rd : Option Nat} {N n : Nat} {o : Oper} {rest : List Oper} {ops : Array Oper} {env : Env} {σ S L : MS} {c c1 c2 : Code} {Q : Exit → Env → MS → Prop} {W : Env → MS → Prop}
theorem qM {x : Operand} {m : MV} (hg : guardOk ops env o = some true) (ho : o.op = .move x) (hx : evo env x = some m) (h : wOps P rd ops W rest (putd o.dst m env) σ) : wOps P rd ops W (o :: rest) env σ := wOps_op hg (op_move ho hx h)
theorem qA {x : Operand} {m : MV} (hg : guardOk ops env o = some true) (ho : o.op = .assign x) (hx : evo env x = some m) (h : wOps P rd ops W rest (putd o.dst m env) σ) : wOps P rd ops W (o :: rest) env σ := wOps_op hg (op_assign ho hx h)
theorem qP {x y z : Operand} {b : Bool} {m : MV} (hg : guardOk ops env o = some true) (ho : o.op = .pick x y z) (hc : evo env x = some (.bool b)) (hm : evo env (if b then y else z) = some m) (h : wOps P rd ops W rest (putd o.dst m env) σ) : wOps P rd ops W (o :: rest) env σ := wOps_op hg (op_pick ho hc hm h)
theorem qC {b : BinOp} {t t' : TypeId} {x y : Operand} {k : IntKind} {m p : Int} {r : Bool} (hg : guardOk ops env o = some true) (ho : o.op = .binOp b t x y t') (hx : evo env x = some (.int k m)) (hy : evo env y = some (.int k p)) (hr : intCmp b m p = some r) (h : wOps P rd ops W rest (putd o.dst (.bool r) env) σ) : wOps P rd ops W (o :: rest) env σ := wOps_op hg (op_cmp ho hx hy hr h)
theorem qL {t : TypeId} {x : Operand} {k off : Nat} {l : List MV} {ta : Option Nat} {m : MV} (hg : guardOk ops env o = some true) (ho : o.op = .load t x) (hx : evo env x = some (.ref (S.length + k) off)) (hσ : L[k]? = some (.cells l)) (ht : tyAgg P t = some ta) (hm : loadMV ta l off = some m) (h : wOps P rd ops W rest (putd o.dst m env) (S ++ L)) : wOps P rd ops W (o :: rest) env (S ++ L) := wOps_op hg (op_load' ho hx hσ ht hm h)
theorem qF {t : TypeId} {x : Operand} {f id off fo : Nat} {ft : TypeId} (hg : guardOk ops env o = some true) (ho : o.op = .fieldAddr t x f) (hx : evo env x = some (.ref id off)) (hf : fieldOff P t f = some (fo, ft)) (h : wOps P rd ops W rest (putd o.dst (.ref id (off + fo)) env) σ) : wOps P rd ops W (o :: rest) env σ := wOps_op hg (op_fieldAddr_ref ho hx hf h)
theorem qB {t : TypeId} {x : Operand} {m : MV} {k : Nat} {L' : MS} (hg : guardOk ops env o = some true) (ho : o.op = .box t x) (hx : evo env x = some m) (hk : L.length = k) (hL : L ++ [.cells m.cells] = L') (h : wOps P rd ops W rest (putd o.dst (.ref (S.length + k) 0) env) (S ++ L')) : wOps P rd ops W (o :: rest) env (S ++ L) := wOps_op hg (op_box' ho hx hk hL h)
theorem qE {x : Operand} {tok : Option Nat} {sz : Nat} {xs : List MV} {t e : TypeId} (hg : guardOk ops env o = some true) (ho : o.op = .call { callee := .builtin .len, args := #[x], argTypes := #[t] }) (hu : P.underlying t = some (.slice e)) (hx : evo env x = some (.lst tok sz xs)) (h : wOps P rd ops W rest (putd o.dst (.int .i64 (xs.length : Int)) env) σ) : wOps P rd ops W (o :: rest) env σ := wOps_op hg (op_len_lst ho hu hx h)
theorem qS (hg : guardOk ops env o = some false) (h : wOps P rd ops W rest (putd o.dst (.tup []) env) σ) : wOps P rd ops W (o :: rest) env σ := wOps_skip hg h
theorem qO (hg : guardOk ops env o = some true) (h : OpWp P rd o env σ fun x σ' => wOps P rd ops W rest (putd o.dst x env) σ') : wOps P rd ops W (o :: rest) env σ := wOps_op hg h
theorem qN (h : W env σ) : wOps P rd ops W [] env σ := h
theorem qR {id : Nat} (hb : dstsOk n ops = true) (h : wOps P rd ops (fun env σ => Q .normal env σ) ops.toList env σ) : mwp P rd N n (.region id ops false) Q env σ := mwp_region hb h
section
variable {eff : List Nat} {Ss : List MS} {D : Env → Prop} {i : Nat} {s : MS} {m : MV}
theorem dO (hg : guardOk ops env o = some true) (he : effAt i eff 0 = none) (hs : span_ Ss (loOf ops o eff 0 0) (hiOf ops i eff 0) = [s]) (h : OpWp P rd o env s fun x' σ' => x' = m ∧ σ' = s) (hr : dOps P rd ops eff Ss D rest (i + 1) (putd o.dst m env)) : dOps P rd ops eff Ss D (o :: rest) i env := dOps_op hg he (by rw [hs]; exact .cons h .nil) hr
theorem dS (hg : guardOk ops env o = some false) (he : effAt i eff 0 = none) (hr : dOps P rd ops eff Ss D rest (i + 1) (putd o.dst (.tup []) env)) : dOps P rd ops eff Ss D (o :: rest) i env := dOps_skip hg he hr
end
end
end Go.MV
end
section
set_option linter.unusedVariables false
namespace Go.Proofs.YthkikhggmbiffaaGreat
open Go Go.MV
theorem mo : Tryz.prog.follows .mixedOrders = true := by kernel_rfl
theorem ta3 : tyAgg Tryz.prog 3 = some none := by kernel_rfl
theorem sz3 : szOf Tryz.prog 3 = some 1 := by kernel_rfl
theorem el3 : elemOk Tryz.prog 3 1 8 = true := by kernel_rfl
theorem ta4 : tyAgg Tryz.prog 4 = some none := by kernel_rfl
theorem sz4 : szOf Tryz.prog 4 = some 1 := by kernel_rfl
theorem zm4 : zeroMV Tryz.prog 4 = some [.bool false] := by kernel_rfl
theorem el5 : elemOk Tryz.prog 5 1 1 = true := by kernel_rfl
theorem ta9 : tyAgg Tryz.prog 9 = some none := by kernel_rfl
theorem sz9 : szOf Tryz.prog 9 = some 1 := by kernel_rfl
theorem el9 : elemOk Tryz.prog 9 1 16 = true := by kernel_rfl
theorem ta22 : tyAgg Tryz.prog 22 = some none := by kernel_rfl
theorem sz22 : szOf Tryz.prog 22 = some 1 := by kernel_rfl
theorem ta24 : tyAgg Tryz.prog 24 = some (some 2) := by kernel_rfl
theorem sz24 : szOf Tryz.prog 24 = some 2 := by kernel_rfl
theorem zm24 : zeroMV Tryz.prog 24 = some [.int .i64 0, .lst0] := by kernel_rfl
theorem el24 : elemOk Tryz.prog 24 2 32 = true := by kernel_rfl
theorem fo24_0 : fieldOff Tryz.prog 24 0 = some (0, 3) := by kernel_rfl
theorem fo24_1 : fieldOff Tryz.prog 24 1 = some (1, 22) := by kernel_rfl
theorem ta25 : tyAgg Tryz.prog 25 = some none := by kernel_rfl
theorem sz25 : szOf Tryz.prog 25 = some 1 := by kernel_rfl
theorem ta26 : tyAgg Tryz.prog 26 = some none := by kernel_rfl
theorem sz26 : szOf Tryz.prog 26 = some 1 := by kernel_rfl
theorem ta27 : tyAgg Tryz.prog 27 = some none := by kernel_rfl
theorem sz27 : szOf Tryz.prog 27 = some 1 := by kernel_rfl
theorem ta28 : tyAgg Tryz.prog 28 = some none := by kernel_rfl
theorem sz28 : szOf Tryz.prog 28 = some 1 := by kernel_rfl
theorem ta30 : tyAgg Tryz.prog 30 = some (some 5) := by kernel_rfl
theorem sz30 : szOf Tryz.prog 30 = some 5 := by kernel_rfl
theorem zm30 : zeroMV Tryz.prog 30 = some [.int .u64 0, .int .u64 0, .lst0, .lst0, .lst0] := by kernel_rfl
theorem el30 : elemOk Tryz.prog 30 5 88 = true := by kernel_rfl
theorem fo30_0 : fieldOff Tryz.prog 30 0 = some (0, 25) := by kernel_rfl
theorem fo30_1 : fieldOff Tryz.prog 30 1 = some (1, 25) := by kernel_rfl
theorem fo30_2 : fieldOff Tryz.prog 30 2 = some (2, 26) := by kernel_rfl
theorem fo30_3 : fieldOff Tryz.prog 30 3 = some (3, 27) := by kernel_rfl
theorem fo30_4 : fieldOff Tryz.prog 30 4 = some (4, 28) := by kernel_rfl
theorem ta37 : tyAgg Tryz.prog 37 = some none := by kernel_rfl
theorem sz37 : szOf Tryz.prog 37 = some 1 := by kernel_rfl
theorem ta48 : tyAgg Tryz.prog 48 = some none := by kernel_rfl
theorem sz48 : szOf Tryz.prog 48 = some 1 := by kernel_rfl
theorem ta55 : tyAgg Tryz.prog 55 = some none := by kernel_rfl
theorem sz55 : szOf Tryz.prog 55 = some 1 := by kernel_rfl
theorem fo57_0 : fieldOff Tryz.prog 57 0 = some (0, 55) := by kernel_rfl
theorem fo57_1 : fieldOff Tryz.prog 57 1 = some (1, 48) := by kernel_rfl
theorem zm59 : zeroMV Tryz.prog 59 = some [.ptr0, .lst0] := by kernel_rfl
theorem fo59_0 : fieldOff Tryz.prog 59 0 = some (0, 57) := by kernel_rfl
theorem ta62 : tyAgg Tryz.prog 62 = some none := by kernel_rfl
theorem zm64 : zeroMV Tryz.prog 64 = some [.str (bs []), .iface0] := by kernel_rfl
theorem fo64_0 : fieldOff Tryz.prog 64 0 = some (0, 9) := by kernel_rfl
theorem fo64_1 : fieldOff Tryz.prog 64 1 = some (1, 37) := by kernel_rfl
theorem ta70 : tyAgg Tryz.prog 70 = some none := by kernel_rfl
theorem sz70 : szOf Tryz.prog 70 = some 1 := by kernel_rfl
theorem el70 : elemOk Tryz.prog 70 1 24 = true := by kernel_rfl
theorem ta83 : tyAgg Tryz.prog 83 = some none := by kernel_rfl
theorem sz83 : szOf Tryz.prog 83 = some 1 := by kernel_rfl
theorem zm83 : zeroMV Tryz.prog 83 = some [.fn0] := by kernel_rfl
theorem ta89 : tyAgg Tryz.prog 89 = some (some 2) := by kernel_rfl
theorem sz89 : szOf Tryz.prog 89 = some 2 := by kernel_rfl
theorem zm89 : zeroMV Tryz.prog 89 = some [.int .i64 0, .int .u64 0] := by kernel_rfl
theorem el89 : elemOk Tryz.prog 89 2 16 = true := by kernel_rfl
theorem fo89_0 : fieldOff Tryz.prog 89 0 = some (0, 3) := by kernel_rfl
theorem fo89_1 : fieldOff Tryz.prog 89 1 = some (1, 25) := by kernel_rfl
theorem ta105 : tyAgg Tryz.prog 105 = some none := by kernel_rfl
theorem sz105 : szOf Tryz.prog 105 = some 1 := by kernel_rfl
theorem zm105 : zeroMV Tryz.prog 105 = some [.fn0] := by kernel_rfl
theorem ta122 : tyAgg Tryz.prog 122 = some none := by kernel_rfl
theorem co5 : CallOk Tryz.prog 5 := ⟨_, _, Tryz.func5, by kernel_rfl, rfl⟩
theorem co7 : CallOk Tryz.prog 7 := ⟨_, _, Tryz.func7, by kernel_rfl, rfl⟩
theorem co8 : CallOk Tryz.prog 8 := ⟨_, _, Tryz.func8, by kernel_rfl, rfl⟩
theorem co9 : CallOk Tryz.prog 9 := ⟨_, _, Tryz.func9, by kernel_rfl, rfl⟩
theorem co10 : CallOk Tryz.prog 10 := ⟨_, _, Tryz.func10, by kernel_rfl, rfl⟩
theorem co11 : CallOk Tryz.prog 11 := ⟨_, _, Tryz.func11, by kernel_rfl, rfl⟩
theorem co12 : CallOk Tryz.prog 12 := ⟨_, _, Tryz.func12, by kernel_rfl, rfl⟩
theorem co13 : CallOk Tryz.prog 13 := ⟨_, _, Tryz.func13, by kernel_rfl, rfl⟩
theorem co14 : CallOk Tryz.prog 14 := ⟨_, _, Tryz.func14, by kernel_rfl, rfl⟩
theorem co15 : CallOk Tryz.prog 15 := ⟨_, _, Tryz.func15, by kernel_rfl, rfl⟩
theorem co16 : CallOk Tryz.prog 16 := ⟨_, _, Tryz.func16, by kernel_rfl, rfl⟩
theorem co17 : CallOk Tryz.prog 17 := ⟨_, _, Tryz.func17, by kernel_rfl, rfl⟩
theorem co20 : CallOk Tryz.prog 20 := ⟨_, _, Tryz.func20, by kernel_rfl, rfl⟩
theorem co21 : CallOk Tryz.prog 21 := ⟨_, _, Tryz.func21, by kernel_rfl, rfl⟩
theorem co22 : CallOk Tryz.prog 22 := ⟨_, _, Tryz.func22, by kernel_rfl, rfl⟩
theorem co23 : CallOk Tryz.prog 23 := ⟨_, _, Tryz.func23, by kernel_rfl, rfl⟩
theorem co24 : CallOk Tryz.prog 24 := ⟨_, _, Tryz.func24, by kernel_rfl, rfl⟩
theorem co25 : CallOk Tryz.prog 25 := ⟨_, _, Tryz.func25, by kernel_rfl, rfl⟩
theorem co26 : CallOk Tryz.prog 26 := ⟨_, _, Tryz.func26, by kernel_rfl, rfl⟩
theorem co27 : CallOk Tryz.prog 27 := ⟨_, _, Tryz.func27, by kernel_rfl, rfl⟩
theorem co28 : CallOk Tryz.prog 28 := ⟨_, _, Tryz.func28, by kernel_rfl, rfl⟩
theorem co29 : CallOk Tryz.prog 29 := ⟨_, _, Tryz.func29, by kernel_rfl, rfl⟩
theorem co38 : CallOk Tryz.prog 38 := ⟨_, _, Tryz.func38, by kernel_rfl, rfl⟩
theorem co39 : CallOk Tryz.prog 39 := ⟨_, _, Tryz.func39, by kernel_rfl, rfl⟩
theorem co40 : CallOk Tryz.prog 40 := ⟨_, _, Tryz.func40, by kernel_rfl, rfl⟩
theorem co42 : CallOk Tryz.prog 42 := ⟨_, _, Tryz.func42, by kernel_rfl, rfl⟩
theorem co43 : CallOk Tryz.prog 43 := ⟨_, _, Tryz.func43, by kernel_rfl, rfl⟩
theorem co44 : CallOk Tryz.prog 44 := ⟨_, _, Tryz.func44, by kernel_rfl, rfl⟩
theorem co45 : CallOk Tryz.prog 45 := ⟨_, _, Tryz.func45, by kernel_rfl, rfl⟩
theorem co46 : CallOk Tryz.prog 46 := ⟨_, _, Tryz.func46, by kernel_rfl, rfl⟩
theorem co47 : CallOk Tryz.prog 47 := ⟨_, _, Tryz.func47, by kernel_rfl, rfl⟩
theorem co48 : CallOk Tryz.prog 48 := ⟨_, _, Tryz.func48, by kernel_rfl, rfl⟩
theorem co49 : CallOk Tryz.prog 49 := ⟨_, _, Tryz.func49, by kernel_rfl, rfl⟩
theorem co50 : CallOk Tryz.prog 50 := ⟨_, _, Tryz.func50, by kernel_rfl, rfl⟩
theorem co51 : CallOk Tryz.prog 51 := ⟨_, _, Tryz.func51, by kernel_rfl, rfl⟩
theorem co58 : CallOk Tryz.prog 58 := ⟨_, _, Tryz.func58, by kernel_rfl, rfl⟩
theorem co59 : CallOk Tryz.prog 59 := ⟨_, _, Tryz.func59, by kernel_rfl, rfl⟩
theorem co60 : CallOk Tryz.prog 60 := ⟨_, _, Tryz.func60, by kernel_rfl, rfl⟩
theorem co61 : CallOk Tryz.prog 61 := ⟨_, _, Tryz.func61, by kernel_rfl, rfl⟩
theorem co62 : CallOk Tryz.prog 62 := ⟨_, _, Tryz.func62, by kernel_rfl, rfl⟩
theorem co63 : CallOk Tryz.prog 63 := ⟨_, _, Tryz.func63, by kernel_rfl, rfl⟩
theorem co64 : CallOk Tryz.prog 64 := ⟨_, _, Tryz.func64, by kernel_rfl, rfl⟩
theorem co65 : CallOk Tryz.prog 65 := ⟨_, _, Tryz.func65, by kernel_rfl, rfl⟩
theorem co66 : CallOk Tryz.prog 66 := ⟨_, _, Tryz.func66, by kernel_rfl, rfl⟩
theorem co67 : CallOk Tryz.prog 67 := ⟨_, _, Tryz.func67, by kernel_rfl, rfl⟩
theorem co68 : CallOk Tryz.prog 68 := ⟨_, _, Tryz.func68, by kernel_rfl, rfl⟩
theorem co69 : CallOk Tryz.prog 69 := ⟨_, _, Tryz.func69, by kernel_rfl, rfl⟩
theorem co70 : CallOk Tryz.prog 70 := ⟨_, _, Tryz.func70, by kernel_rfl, rfl⟩
theorem co71 : CallOk Tryz.prog 71 := ⟨_, _, Tryz.func71, by kernel_rfl, rfl⟩
theorem co72 : CallOk Tryz.prog 72 := ⟨_, _, Tryz.func72, by kernel_rfl, rfl⟩
theorem co73 : CallOk Tryz.prog 73 := ⟨_, _, Tryz.func73, by kernel_rfl, rfl⟩
theorem co75 : CallOk Tryz.prog 75 := ⟨_, _, Tryz.func75, by kernel_rfl, rfl⟩
theorem co76 : CallOk Tryz.prog 76 := ⟨_, _, Tryz.func76, by kernel_rfl, rfl⟩
theorem co77 : CallOk Tryz.prog 77 := ⟨_, _, Tryz.func77, by kernel_rfl, rfl⟩
theorem co78 : CallOk Tryz.prog 78 := ⟨_, _, Tryz.func78, by kernel_rfl, rfl⟩
theorem co79 : CallOk Tryz.prog 79 := ⟨_, _, Tryz.func79, by kernel_rfl, rfl⟩
theorem co80 : CallOk Tryz.prog 80 := ⟨_, _, Tryz.func80, by kernel_rfl, rfl⟩
theorem co81 : CallOk Tryz.prog 81 := ⟨_, _, Tryz.func81, by kernel_rfl, rfl⟩
theorem co82 : CallOk Tryz.prog 82 := ⟨_, _, Tryz.func82, by kernel_rfl, rfl⟩
theorem co83 : CallOk Tryz.prog 83 := ⟨_, _, Tryz.func83, by kernel_rfl, rfl⟩
theorem co86 : CallOk Tryz.prog 86 := ⟨_, _, Tryz.func86, by kernel_rfl, rfl⟩
theorem co87 : CallOk Tryz.prog 87 := ⟨_, _, Tryz.func87, by kernel_rfl, rfl⟩
theorem co88 : CallOk Tryz.prog 88 := ⟨_, _, Tryz.func88, by kernel_rfl, rfl⟩
theorem co89 : CallOk Tryz.prog 89 := ⟨_, _, Tryz.func89, by kernel_rfl, rfl⟩
theorem co90 : CallOk Tryz.prog 90 := ⟨_, _, Tryz.func90, by kernel_rfl, rfl⟩
theorem co91 : CallOk Tryz.prog 91 := ⟨_, _, Tryz.func91, by kernel_rfl, rfl⟩
theorem co92 : CallOk Tryz.prog 92 := ⟨_, _, Tryz.func92, by kernel_rfl, rfl⟩
theorem co93 : CallOk Tryz.prog 93 := ⟨_, _, Tryz.func93, by kernel_rfl, rfl⟩
theorem co94 : CallOk Tryz.prog 94 := ⟨_, _, Tryz.func94, by kernel_rfl, rfl⟩
theorem co95 : CallOk Tryz.prog 95 := ⟨_, _, Tryz.func95, by kernel_rfl, rfl⟩
theorem co96 : CallOk Tryz.prog 96 := ⟨_, _, Tryz.func96, by kernel_rfl, rfl⟩
theorem co97 : CallOk Tryz.prog 97 := ⟨_, _, Tryz.func97, by kernel_rfl, rfl⟩
theorem co98 : CallOk Tryz.prog 98 := ⟨_, _, Tryz.func98, by kernel_rfl, rfl⟩
theorem co99 : CallOk Tryz.prog 99 := ⟨_, _, Tryz.func99, by kernel_rfl, rfl⟩
theorem co100 : CallOk Tryz.prog 100 := ⟨_, _, Tryz.func100, by kernel_rfl, rfl⟩
theorem co101 : CallOk Tryz.prog 101 := ⟨_, _, Tryz.func101, by kernel_rfl, rfl⟩
theorem co102 : CallOk Tryz.prog 102 := ⟨_, _, Tryz.func102, by kernel_rfl, rfl⟩
theorem co103 : CallOk Tryz.prog 103 := ⟨_, _, Tryz.func103, by kernel_rfl, rfl⟩
theorem co104 : CallOk Tryz.prog 104 := ⟨_, _, Tryz.func104, by kernel_rfl, rfl⟩
theorem co105 : CallOk Tryz.prog 105 := ⟨_, _, Tryz.func105, by kernel_rfl, rfl⟩
theorem co106 : CallOk Tryz.prog 106 := ⟨_, _, Tryz.func106, by kernel_rfl, rfl⟩
theorem co107 : CallOk Tryz.prog 107 := ⟨_, _, Tryz.func107, by kernel_rfl, rfl⟩
theorem co108 : CallOk Tryz.prog 108 := ⟨_, _, Tryz.func108, by kernel_rfl, rfl⟩
end Go.Proofs.YthkikhggmbiffaaGreat
end
section
set_option linter.unusedVariables false
set_option linter.unusedSimpArgs false
set_option maxRecDepth 20000
set_option maxHeartbeats 400000
namespace Go.MV
open Go Go.RowKit
theorem quo128 {m : Nat} (h : m < 18446744073709551616) : IntKind.u64.wrap (Int.tdiv (m : Int) 128) = ((m / 128 : Nat) : Int) := by
 have e : Int.tdiv (m : Int) 128 = ((m / 128 : Nat) : Int) := rfl
 rw [e, wrap_u64 (by omega)]
theorem rem128 (m : Nat) : Int.tmod (m : Int) 128 = ((m % 128 : Nat) : Int) := rfl
theorem add128 (m : Nat) : intArith .add .u64 ((m % 128 : Nat) : Int) 128 = some ((m % 128 + 128 : Nat) : Int) := by
 show some (IntKind.u64.wrap (((m % 128 : Nat) : Int) + 128)) = _
 rw [wrap_u64 (by omega)]
 rfl
theorem u8_conv {m : Nat} (h : m < 256) : IntKind.u8.wrap (m : Int) = ((UInt8.ofNat m).toNat : Int) := by
 rw [wrap_u8 (by omega), u8_toNat h]
theorem u64_byte (b : UInt8) : IntKind.u64.wrap (b.toNat : Int) = (b.toNat : Int) := by
 have := b.toNat_lt
 rw [wrap_u64 (by omega)]
theorem numB_more {m : Nat} (h : 128 ≤ m) : numB m = UInt8.ofNat (m % 128 + 128) :: numB (m / 128) := by rw [numB, dif_neg (by omega)]
theorem numB_last {m : Nat} (h : m < 128) : numB m = [UInt8.ofNat m] := by rw [numB, dif_pos h]
theorem hash_take {b : Bs} {i : Nat} {c : UInt8} (h : b[i]? = some c) : hashB (b.take (i + 1)) = hashStep (hashB (b.take i)) c := by
 rw [List.take_add_one, h]
 simp [hashB]
theorem drop_at {α : Type} {l : List α} {i : Nat} {a : α} (h : l[i]? = some a) : l.drop i = a :: l.drop (i + 1) := by
 obtain ⟨hlt, e⟩ := List.getElem?_eq_some_iff.1 h
 rw [List.drop_eq_getElem_cons hlt, e]
theorem wmul {a b c : Nat} (h : a * b = c) (hc : c < 9223372036854775808) : intArith .mul .i64 (a : Int) (b : Int) = some (c : Int) := by
 show some (IntKind.i64.wrap ((a : Int) * (b : Int))) = _
 have e : (a : Int) * (b : Int) = (c : Int) := by rw [← h]; exact (Int.natCast_mul a b).symm
 rw [e, wrap_i64 (by omega)]
end Go.MV
namespace Go.Proofs.YthkikhggmbiffaaGreat
open Go Go.MV
theorem codeNum_spec (n : Nat) (hn : n < 18446744073709551616) (hl : (numB n).length ≤ 100) (S : MS) : MCalls Tryz.prog 15 [.int .u64 (n : Int)] S fun v σ' => v = .str (bs (numB n)) ∧ σ' = S := by
 refine mcalls_body Tryz.func15 rfl Tryz.ntmps15 (Nat.le_of_ble_eq_true rfl) ?_
 refine mwp_seq <| qR rfl <| qA rfl rfl rfl <| qN <| mwp_seq <| qR rfl <| qA rfl rfl rfl <| qN <| mwp_seq <| mwp_block <| mwp_row0 3 5 1 rfl (Nat.le_refl _) rfl rfl ?_
 refine mwp_loopKJ (α := Nat × Bs) [] (fun x => [(0, .int .u64 (x.1 : Int)), (3, .lst (some (S.length + 0)) 1 (x.2.map encY))]) (fun x => [.row 5 1 x.2.length]) (fun x => x.2 ++ numB x.1 = numB n ∧ x.1 ≤ n) (fun x => x.1) (⟨n, []⟩) (Nat.le_refl _) (.nil) (.keep rfl (.keep rfl (.nil))) (⟨rfl, Nat.le_refl _⟩) (rfl) ?_
 rintro ⟨m, out⟩ ⟨he, hm⟩
 dsimp only at he hm ⊢
 have hol : out.length ≤ (numB n).length := by rw [← he, List.length_append]; omega
 refine mwp_seq <| mwp_seq <| qR rfl <| qM rfl rfl rfl <| qC rfl rfl rfl rfl rfl <| qN ?_
 refine mwp_cond_split rfl (fun h5 => ?_) (fun h5 => ?_)
 ·
  have hge : 128 ≤ m := by simp at h5; omega
  refine mwp_skip <| mwp_seq <| mwp_block <| qR rfl <| qM rfl rfl rfl <| qM rfl rfl rfl <| qO rfl <| op_rem rfl rfl rfl (by decide) (rem128 m) ?_
  refine qO rfl <| op_arith rfl rfl rfl (add128 m) <| qO rfl <| op_convInt rfl Tryz.underlying25 Tryz.underlying5 rfl (u8_conv (show m % 128 + 128 < 256 by omega)) ?_
  refine qO rfl <| op_buildSlice rfl Tryz.underlying48 el5 rfl rfl (by decide) (by decide) rfl rfl ?_
  refine qO rfl <| op_append' rfl Tryz.underlying48 el5 rfl rfl rfl (by simp) (by simp only [List.length_append, List.length_map, List.length_cons, List.length_nil]; omega) (by simp only [List.length_append, List.length_map, List.length_cons, List.length_nil]; omega) rfl ?_
  refine qA rfl rfl rfl <| qN <| qR rfl <| qM rfl rfl rfl <| qO rfl <| op_quo rfl rfl rfl (by decide) (quo128 (by omega)) ?_
  refine qA rfl rfl rfl <| qN ?_
  refine ⟨⟨m / 128, out ++ [UInt8.ofNat (m % 128 + 128)]⟩, _, by dsimp only; omega, ⟨by dsimp only; rw [← he, numB_more hge]; simp, by dsimp only; omega⟩, by rw [List.length_append]; rfl, .new trivial .nil, (.nil), (.new' rfl (rfl) (.int _ _) (.new' rfl (by rw [List.map_append]; rfl) (.lst _ _ _ (fun s hs => by injection hs with hs; simp; omega) (by rw [flat_encY]; intro y hy; obtain ⟨z, _, rfl⟩ := List.mem_map.1 hy; exact .int _ _)) (.nil)))⟩
 ·
  have hlt : m < 128 := by simp at h5; omega
  refine mwp_exit <| mwp_seq <| qR rfl <| qM rfl rfl rfl <| qM rfl rfl rfl <| qO rfl <| op_convInt rfl Tryz.underlying25 Tryz.underlying5 rfl (u8_conv (show m < 256 by omega)) ?_
  refine qO rfl <| op_buildSlice rfl Tryz.underlying48 el5 rfl rfl (by decide) (by decide) rfl rfl ?_
  refine qO rfl <| op_append' rfl Tryz.underlying48 el5 rfl rfl rfl (by simp) (by simp only [List.length_append, List.length_map, List.length_cons, List.length_nil]; omega) (by simp only [List.length_append, List.length_map, List.length_cons, List.length_nil]; omega) rfl ?_
  refine qO rfl <| op_conv_bytes (l := out ++ [UInt8.ofNat m]) rfl Tryz.underlying48 Tryz.underlying5 Tryz.underlying9 rfl (by rw [List.map_append]; rfl) ?_
  refine qA rfl rfl rfl <| qN <| mwp_ret ?_
  exact ret_tmp (.inr rfl) Tryz.results15 rfl (.of_eq (by rw [← he, numB_last hlt])) (.str _) ⟨rfl, rfl⟩
theorem codeText_spec (s : Bs) (hs : s.length ≤ 1000000) (S : MS) : MCalls Tryz.prog 16 [.str (bs s)] S fun v σ' => v = .str (bs (textB s)) ∧ σ' = S := by
 refine mcalls_body Tryz.func16 rfl Tryz.ntmps16 (Nat.le_of_ble_eq_true rfl) ?_
 have hl := (numB_len (show s.length < 2097152 by omega)).2
 refine mwp_seq <| qR rfl <| qA rfl rfl rfl <| qN <| mwp_seq <| qR rfl <| qM rfl rfl rfl <| qO rfl <| op_len_bs rfl Tryz.underlying9 rfl <| qO rfl <| op_convInt rfl Tryz.underlying3 Tryz.underlying25 rfl (wrap_u64 (by omega)) ?_
 refine wOps_op rfl (op_call rfl rfl rfl co15 ((codeNum_spec s.length (by omega) (by omega) _).mono ?_))
 rintro _ _ ⟨rfl, rfl⟩
 refine qM rfl rfl rfl <| qO rfl <| op_strcat rfl rfl rfl (by omega) ?_
 refine qA rfl rfl rfl <| qN <| mwp_ret ?_
 exact ret_tmp (.inr rfl) Tryz.results16 rfl (.of_eq (rfl)) (.str _) ⟨rfl, rfl⟩
theorem codeHash_spec (b : Bs) (hlen : b.length ≤ 2000000) (S : MS) : MCalls Tryz.prog 17 [.str (bs b)] S fun v σ' => v = .int .u64 (hashB b) ∧ σ' = S := by
 refine mcalls_body Tryz.func17 rfl Tryz.ntmps17 (Nat.le_of_ble_eq_true rfl) ?_
 have hlen' : b.length ≤ maxLen := by simp only [maxLen]; omega
 refine mwp_seq <| qR rfl <| qA rfl rfl rfl <| qN <| mwp_seq <| qR rfl <| qA rfl rfl rfl <| qN <| mwp_seq <| mwp_seq <| qR rfl <| qM rfl rfl rfl <| qO rfl <| op_len_bs rfl Tryz.underlying9 rfl <| qM rfl rfl rfl <| qN <| mwp_block ?_
 refine mwp_loopK (α := Nat) [(0, _), (6, _)] (fun i => [(7, .int .i64 (i : Int)), (3, .int .u64 (hashB (b.take i)))]) (fun i => []) (fun i => i ≤ b.length) (fun i => b.length - i) (0) (.keep rfl (.keep rfl (.nil))) (.keep rfl (.keep rfl (.nil))) (by omega) (rfl) ?_
 rintro i hi
 refine mwp_seq <| qR rfl <| qC rfl rfl rfl rfl rfl <| qN <| mwp_seq ?_
 refine mwp_cond_split rfl (fun h8 => ?_) (fun h8 => ?_)
 ·
  have hlt : i < b.length := by simpa using h8
  obtain ⟨c, hs⟩ : ∃ q_, b[i]? = some q_ := ⟨_, List.getElem?_eq_getElem hlt⟩
  refine mwp_skip <| mwp_seq <| mwp_block <| mwp_seq <| qR rfl <| qM rfl rfl rfl <| qA rfl rfl rfl <| qN <| qR rfl <| qM rfl rfl rfl <| qM rfl rfl rfl <| qM rfl rfl rfl <| qO rfl <| op_index_str rfl Tryz.underlying9 rfl rfl rfl hs <| qO rfl <| op_convInt rfl Tryz.underlying5 Tryz.underlying25 rfl (u64_byte c) <| qO rfl <| op_bits rfl rfl rfl rfl <| qO rfl <| op_arith rfl rfl rfl rfl <| qA rfl rfl rfl <| qN <| qR rfl <| qO rfl <| op_arith rfl rfl rfl rfl ?_
  refine qM rfl rfl rfl <| qN ?_
  refine ⟨i + 1, by omega, by omega, rfl, (.keep rfl (.keep rfl (.nil))), (.eq rfl (int_succ hlt hlen') (.eq rfl (by rw [hash_take hs]; rfl) (.nil)))⟩
 ·
  have hge : i = b.length := by simp at h8; omega
  refine mwp_exit <| mwp_seq <| qR rfl <| qM rfl rfl rfl <| qA rfl rfl rfl <| qN <| mwp_ret ?_
  exact ret_tmp (.inr rfl) Tryz.results17 rfl (.of_eq (by rw [hge, List.take_length])) (.int _ _) ⟨rfl, rfl⟩
end Go.Proofs.YthkikhggmbiffaaGreat
end
section
set_option linter.unusedVariables false
set_option linter.unusedSimpArgs false
set_option maxRecDepth 20000
namespace Go.Proofs.YthkikhggmbiffaaGreat
open Go Go.MV
def partsF (k : Int) : Int := if k = 1 ∨ k = 2 ∨ k = 3 ∨ k = 6 ∨ k = 7 then 0 else if k = 4 ∨ k = 8 then 1 else if k = 5 then 2 else -1
theorem parts_spec (k : Int) (S : MS) : MCalls Tryz.prog 69 [.int .i64 k] S fun v σ' => v = .int .i64 (partsF k) ∧ σ' = S := by
 refine mcalls_body Tryz.func69 rfl Tryz.ntmps69 (Nat.le_of_ble_eq_true rfl) ?_
 refine mwp_seq <| qR rfl <| qA rfl rfl rfl <| qN <| mwp_seq <| mwp_seq <| qR rfl <| qM rfl rfl rfl <| qN <| mwp_block <| mwp_seq <| mwp_seq <| qR rfl <| qC rfl rfl rfl rfl rfl <| qA rfl rfl rfl <| qN ?_
 refine mwp_cond_split rfl (fun h4 => ?_) (fun h4 => ?_)
 ·
  refine mwp_skip <| mwp_cond_t rfl h4 <| mwp_seq <| qR rfl <| qA rfl rfl rfl <| qN <| mwp_ret ?_
  exact ret_tmp (.inr rfl) Tryz.results69 rfl (.refl _) (.int _ _) ⟨by simp_all [partsF], rfl⟩
 ·
  refine mwp_seq <| qR rfl <| qC rfl rfl rfl rfl rfl <| qA rfl rfl rfl <| qN ?_
  refine mwp_cond_split rfl (fun h4 => ?_) (fun h4 => ?_)
  ·
   refine mwp_skip <| mwp_cond_t rfl h4 <| mwp_seq <| qR rfl <| qA rfl rfl rfl <| qN <| mwp_ret ?_
   exact ret_tmp (.inr rfl) Tryz.results69 rfl (.refl _) (.int _ _) ⟨by simp_all [partsF], rfl⟩
  ·
   refine mwp_seq <| qR rfl <| qC rfl rfl rfl rfl rfl <| qA rfl rfl rfl <| qN ?_
   refine mwp_cond_split rfl (fun h4 => ?_) (fun h4 => ?_)
   ·
    refine mwp_skip <| mwp_cond_t rfl h4 <| mwp_seq <| qR rfl <| qA rfl rfl rfl <| qN <| mwp_ret ?_
    exact ret_tmp (.inr rfl) Tryz.results69 rfl (.refl _) (.int _ _) ⟨by simp_all [partsF], rfl⟩
   ·
    refine mwp_seq <| qR rfl <| qC rfl rfl rfl rfl rfl <| qA rfl rfl rfl <| qN ?_
    refine mwp_cond_split rfl (fun h4 => ?_) (fun h4 => ?_)
    ·
     refine mwp_skip <| mwp_cond_t rfl h4 <| mwp_seq <| qR rfl <| qA rfl rfl rfl <| qN <| mwp_ret ?_
     exact ret_tmp (.inr rfl) Tryz.results69 rfl (.refl _) (.int _ _) ⟨by simp_all [partsF], rfl⟩
    ·
     refine qR rfl <| qC rfl rfl rfl rfl rfl <| qA rfl rfl rfl <| qN ?_
     refine mwp_cond_split rfl (fun h4 => ?_) (fun h4 => ?_)
     ·
      refine mwp_seq <| qR rfl <| qA rfl rfl rfl <| qN <| mwp_ret ?_
      exact ret_tmp (.inr rfl) Tryz.results69 rfl (.refl _) (.int _ _) ⟨by simp_all [partsF], rfl⟩
     ·
      refine mwp_seq <| mwp_seq <| qR rfl <| qC rfl rfl rfl rfl rfl <| qA rfl rfl rfl <| qN ?_
      refine mwp_cond_split rfl (fun h10 => ?_) (fun h10 => ?_)
      ·
       refine mwp_skip <| mwp_cond_t rfl h10 <| mwp_seq <| qR rfl <| qA rfl rfl rfl <| qN <| mwp_ret ?_
       exact ret_tmp (.inr rfl) Tryz.results69 rfl (.refl _) (.int _ _) ⟨by simp_all [partsF], rfl⟩
      ·
       refine qR rfl <| qC rfl rfl rfl rfl rfl <| qA rfl rfl rfl <| qN ?_
       refine mwp_cond_split rfl (fun h10 => ?_) (fun h10 => ?_)
       ·
        refine mwp_seq <| qR rfl <| qA rfl rfl rfl <| qN <| mwp_ret ?_
        exact ret_tmp (.inr rfl) Tryz.results69 rfl (.refl _) (.int _ _) ⟨by simp_all [partsF], rfl⟩
       ·
        refine mwp_seq <| qR rfl <| qC rfl rfl rfl rfl rfl <| qA rfl rfl rfl <| qN ?_
        refine mwp_cond_split rfl (fun h13 => ?_) (fun h13 => ?_)
        ·
         refine mwp_seq <| qR rfl <| qA rfl rfl rfl <| qN <| mwp_ret ?_
         exact ret_tmp (.inr rfl) Tryz.results69 rfl (.refl _) (.int _ _) ⟨by simp_all [partsF], rfl⟩
        ·
         refine mwp_skip <| mwp_seq <| qR rfl <| qA rfl rfl rfl <| qN <| mwp_ret ?_
         exact ret_tmp (.inr rfl) Tryz.results69 rfl (.refl _) (.int _ _) ⟨by simp_all [partsF], rfl⟩
theorem all_spec (l : List Sch) (p : Sch → Bool) (kf : FuncId) (first caps : List MV) (S : MS) (hco : CallOk Tryz.prog kf) (hp : ∀ s ∈ l, ∀ X : MS, MCalls Tryz.prog kf (first ++ [encS s] ++ caps) (S ++ X) fun v σ' => v = .bool (p s) ∧ σ' = S ++ X) :
  MCalls Tryz.prog 70 [.lst none 2 (encSs l), .fn (.func kf) first caps] S fun v σ' => v = .bool (l.all p) ∧ σ' = S := by
 refine mcalls_body Tryz.func70 rfl Tryz.ntmps70 (Nat.le_of_ble_eq_true rfl) ?_
 refine mwp_len (t := 0) rfl fun hlen => ?_
 refine mwp_seq <| qR rfl <| qA rfl rfl rfl <| qN <| mwp_seq <| mwp_seq <| qR rfl <| qM rfl rfl rfl <| qE rfl rfl Tryz.underlying22 rfl <| qM rfl rfl rfl <| qN <| mwp_block ?_
 refine mwp_loopJ (α := Nat) (fun i => [(0, .lst none 2 (encSs l)), (1, .fn (.func kf) first caps), (7, .lst none 2 (encSs l)), (8, .int .i64 ((encSs l).length : Int)), (9, .int .i64 (i : Int))]) (fun i => []) (fun i => i ≤ l.length ∧ (l.take i).all p = true) (fun i => l.length - i) (0) (Nat.le_refl _) ⟨by omega, rfl⟩ rfl (.keep rfl (.keep rfl (.keep rfl (.keep rfl (.keep rfl .nil))))) ?_
 rintro i ⟨hi, hall⟩
 refine mwp_seq <| qR rfl <| qC rfl rfl rfl rfl rfl <| qN <| mwp_seq ?_
 refine mwp_cond_split rfl (fun h10 => ?_) (fun h10 => ?_)
 ·
  have hlt : i < l.length := by rw [encSs_length] at h10; simpa using h10
  obtain ⟨⟨k, ins⟩, hs⟩ : ∃ s, l[i]? = some s := ⟨_, List.getElem?_eq_getElem hlt⟩
  refine mwp_skip <| mwp_seq <| mwp_block <| mwp_seq <| qR rfl <| qO rfl <| op_indexAddr rfl Tryz.underlying22 sz24 (by decide) rfl rfl rfl (encSs_get hs) ?_
  refine qO rfl <| op_load_sptr rfl rfl ta24 rfl <| qO rfl <| op_alloc' rfl zm24 rfl rfl <| qO rfl <| op_store' rfl rfl rfl rfl sz24 rfl rfl (Nat.le_of_ble_eq_true rfl) rfl <| qN <| mwp_seq <| qR rfl <| qM rfl rfl rfl <| qL rfl rfl rfl rfl ta24 rfl ?_
  refine wOps_op rfl (op_call rfl rfl rfl hco ((hp _ (List.mem_of_getElem? hs) _).mono ?_))
  rintro _ _ ⟨rfl, rfl⟩
  refine qO rfl <| op_not rfl rfl <| qN ?_
  refine mwp_cond_split rfl (fun h16 => ?_) (fun h16 => ?_)
  ·
   refine mwp_seq <| qR rfl <| qA rfl rfl rfl <| qN <| mwp_ret ?_
   exact ret_tmp (.inr rfl) Tryz.results70 rfl (.refl _) (.bool _) ⟨by rw [List.all_eq_false.2 ⟨_, List.mem_of_getElem? hs, by simpa using h16⟩], rfl⟩
  ·
   refine mwp_skip <| qR rfl <| qO rfl <| op_arith rfl rfl rfl rfl <| qM rfl rfl rfl <| qN ?_
   refine ⟨i + 1, _, by omega, ⟨by omega, ?_⟩, rfl, .nil, .old rfl rfl (.old rfl rfl (.old rfl rfl (.old rfl rfl (.new' rfl (int_succ hlt (by rw [encSs_length] at hlen; exact hlen)) (.int _ _) .nil))))⟩
   rw [List.take_add_one, hs]
   simp [hall]
   simpa using h16
 ·
  have hge : i = l.length := by rw [encSs_length] at h10; simp at h10; omega
  refine mwp_exit <| mwp_seq <| qR rfl <| qA rfl rfl rfl <| qN <| mwp_ret ?_
  exact ret_tmp (.inr rfl) Tryz.results70 rfl (.refl _) (.bool _) ⟨by rw [hge, List.take_length] at hall; rw [hall], rfl⟩
def isF : Nat → Sch → Bool
 | 0, _ => false
 | d + 1, .mk k ins => (partsF k == (ins.length : Int)) && ins.all (isF d)
theorem is1_spec (d : Nat) (hd : d < 1000) (ih : ∀ (s : Sch) (S : MS), MCalls Tryz.prog 42 [encS s, .int .i64 (d : Int)] S fun v σ' => v = .bool (isF d s) ∧ σ' = S) (s : Sch) (id : Nat) (S : MS) (hS : S[id]? = some (.cells [.int .i64 ((d + 1 : Nat) : Int)])) :
  MCalls Tryz.prog 71 [encS s, .ref id 0] S fun v σ' => v = .bool (isF d s) ∧ σ' = S := by
 obtain ⟨k, ins⟩ := s
 have hsub : IntKind.i64.wrap (((d + 1 : Nat) : Int) - 1) = (d : Int) := by rw [wrap_i64 (by omega)]; omega
 refine mcalls_body Tryz.func71 rfl Tryz.ntmps71 (Nat.le_of_ble_eq_true rfl) ?_
 refine mwp_seq <| qR rfl <| qB rfl rfl rfl rfl rfl <| qA rfl rfl rfl <| qN <| mwp_seq <| qR rfl <| qL rfl rfl rfl rfl ta24 rfl <| qO rfl <| op_load_far rfl rfl hS ta3 rfl <| qO rfl <| op_arith rfl rfl rfl rfl ?_
 rw [hsub]
 refine wOps_op rfl (op_call rfl rfl rfl co42 ((ih (.mk k ins) _).mono ?_))
 rintro _ _ ⟨rfl, rfl⟩
 refine qA rfl rfl rfl <| qN <| mwp_ret ?_
 exact ret_tmp (.inr rfl) Tryz.results71 rfl (.refl _) (.bool _) ⟨rfl, rfl⟩
theorem is_spec (d : Nat) : d < 1000 → ∀ (s : Sch) (S : MS), MCalls Tryz.prog 42 [encS s, .int .i64 (d : Int)] S fun v σ' => v = .bool (isF d s) ∧ σ' = S := by
 induction d with
 | zero =>
  rintro - ⟨k, ins⟩ S
  refine mcalls_body Tryz.func42 rfl Tryz.ntmps42 (Nat.le_of_ble_eq_true rfl) ?_
  refine mwp_seq <| qR rfl <| qB rfl rfl rfl rfl rfl <| qB rfl rfl rfl rfl rfl <| qA rfl rfl rfl <| qN <| mwp_seq <| mwp_seq ?_
  refine mwp_draw [] [_] mo (by decide) rfl rfl rfl rfl ?_
  refine dO rfl rfl rfl (op_load' rfl rfl rfl ta3 rfl ⟨rfl, rfl⟩) <| dO rfl rfl rfl (op_cmp rfl rfl rfl rfl ⟨rfl, rfl⟩) <| dO rfl rfl rfl (op_move rfl rfl ⟨rfl, rfl⟩) <| dS rfl rfl <| dS rfl rfl <| dS rfl rfl <| dS rfl rfl <| dS rfl rfl <| dS rfl rfl <| dS rfl rfl <| dO rfl rfl rfl (op_pick rfl rfl rfl ⟨rfl, rfl⟩) <| dOps_nil <| mwp_cond_t rfl (rfl) <| mwp_seq <| qR rfl <| qA rfl rfl rfl <| qN <| mwp_ret ?_
  exact ret_tmp (.inr rfl) Tryz.results42 rfl (.refl _) (.bool _) ⟨by simp [isF], rfl⟩
 | succ d ih =>
  rintro hd ⟨k, ins⟩ S
  have h0 : (((d + 1 : Nat) : Int) == 0) = false := by simp; omega
  refine mcalls_body Tryz.func42 rfl Tryz.ntmps42 (Nat.le_of_ble_eq_true rfl) ?_
  refine mwp_seq <| qR rfl <| qB rfl rfl rfl rfl rfl <| qB rfl rfl rfl rfl rfl <| qA rfl rfl rfl <| qN <| mwp_seq <| mwp_seq ?_
  refine mwp_draw [] [_] mo (by decide) rfl rfl rfl rfl ?_
  refine dO rfl rfl rfl (op_load' rfl rfl rfl ta3 rfl ⟨rfl, rfl⟩) <| dO rfl rfl rfl (op_cmp rfl rfl rfl rfl ⟨rfl, rfl⟩) ?_
  rw [h0]
  refine dO rfl rfl rfl (op_move rfl rfl ⟨rfl, rfl⟩) <| dO rfl rfl rfl (op_fieldAddr_ref rfl rfl fo24_0 ⟨rfl, rfl⟩) <| dO rfl rfl rfl (op_load' rfl rfl rfl ta3 rfl ⟨rfl, rfl⟩) <| dOps_op rfl rfl (.cons (op_call rfl rfl rfl co69 (parts_spec _ _)) .nil) <| dO rfl rfl rfl (op_fieldAddr_ref rfl rfl fo24_1 ⟨rfl, rfl⟩) <| dO rfl rfl rfl (op_load' rfl rfl rfl ta22 rfl ⟨rfl, rfl⟩) <| dO rfl rfl rfl (op_len_lst rfl Tryz.underlying22 rfl ⟨rfl, rfl⟩) <| dO rfl rfl rfl (op_cmp rfl rfl rfl rfl ⟨rfl, rfl⟩) <| dO rfl rfl rfl (op_pick rfl rfl rfl ⟨rfl, rfl⟩) <| dOps_nil ?_
  refine mwp_cond_split rfl (fun h15 => ?_) (fun h15 => ?_)
  ·
   refine mwp_seq <| qR rfl <| qA rfl rfl rfl <| qN <| mwp_ret ?_
   exact ret_tmp (.inr rfl) Tryz.results42 rfl (.refl _) (.bool _) ⟨by rw [encSs_length] at h15; simp at h15; simp [isF, h15], rfl⟩
  ·
   refine mwp_skip <| mwp_seq <| qR rfl <| qF rfl rfl rfl fo24_1 <| qL rfl rfl rfl rfl ta22 rfl <| qO rfl <| op_makeFunc rfl rfl rfl ?_
   refine wOps_op rfl (op_call rfl rfl rfl co70 ((all_spec ins (isF d) _ _ _ _ co71 fun s _ X => is1_spec d (by omega) (ih (by omega)) s _ _ (by rw [List.getElem?_append_left (by simp)]; simp [MV.cells])).mono ?_))
   rintro _ _ ⟨rfl, rfl⟩
   refine qA rfl rfl rfl <| qN <| mwp_ret ?_
   exact ret_tmp (.inr rfl) Tryz.results42 rfl (.refl _) (.bool _) ⟨by rw [encSs_length] at h15; simp at h15; simp [isF, h15], rfl⟩
theorem Is_spec (s : Sch) (S : MS) : MCalls Tryz.prog 23 [encS s] S fun v σ' => v = .bool (isF 16 s) ∧ σ' = S := by
 obtain ⟨k, ins⟩ := s
 refine mcalls_body Tryz.func23 rfl Tryz.ntmps23 (Nat.le_of_ble_eq_true rfl) ?_
 refine mwp_seq <| qR rfl <| qB rfl rfl rfl rfl rfl <| qA rfl rfl rfl <| qN <| mwp_seq <| qR rfl <| qL rfl rfl rfl rfl ta24 rfl ?_
 refine wOps_op rfl (op_call rfl rfl rfl co42 ((is_spec 16 (by omega) (.mk k ins) _).mono ?_))
 rintro _ _ ⟨rfl, rfl⟩
 refine qA rfl rfl rfl <| qN <| mwp_ret ?_
 exact ret_tmp (.inr rfl) Tryz.results23 rfl (.refl _) (.bool _) ⟨rfl, rfl⟩
end Go.Proofs.YthkikhggmbiffaaGreat
end
section
set_option linter.unusedVariables false
set_option linter.unusedSimpArgs false
namespace Go.MV
open Go Go.RowKit
abbrev Tk := Int × Int
def encT (t : Tk) : MV := .agg [.int .i64 t.1, .int .u64 t.2]
theorem encT_agg (t : Tk) : encT t = .agg (encT t).cells ∨ [encT t] = (encT t).cells := .inl rfl
theorem cl_encT (n : Nat) (t : Tk) : Cl n (encT t) := .agg _ fun x hx => by
  simp only [List.mem_cons, List.not_mem_nil, or_false] at hx
  rcases hx with rfl | rfl
  · exact .int _ _
  · exact .int _ _
theorem cl_clock (n : Nat) (c : List Tk) : Cl n (.lst none 2 (c.map encT)) := cl_lst (cl_encT n) encT_agg
def okAt (c : List Tk) (j : Nat) : Bool := match c[j]? with
  | none => true
  | some t => !decide (t.1 < 0) && !decide (1000000 < t.1) && !(t.2 == 0) && (j == 0 || (match c[j - 1]? with | some p => !decide (t.1 ≤ p.1) | none => true))
def isClockF (c : List Tk) : Bool := decide (∀ j, j < c.length → okAt c j = true) && decide (c.length ≤ 40)
theorem isClock_false {c : List Tk} {i : Nat} (hi : i < c.length) (h : okAt c i = false) : isClockF c = false := by
  unfold isClockF
  rw [Bool.and_eq_false_iff]
  left
  rw [decide_eq_false_iff_not]
  intro hc
  rw [hc i hi] at h
  cases h
theorem isClock_end {c : List Tk} (h : ∀ j, j < c.length → okAt c j = true) : isClockF c = decide ((c.length : Int) ≤ 40) := by
  unfold isClockF
  rw [decide_eq_true h, Bool.true_and]
  simp only [decide_eq_decide]
  omega
def ofF : List Tk → Int → Int
  | [], _ => 0
  | t :: c, w => if t.1 = w then t.2 else ofF c w
def mergeF {α : Type} (cmp : α → α → Int) (bo : α → α → α) : List α → List α → List α
  | [], b => b
  | a, [] => a
  | x :: a, y :: b => if cmp x y < 0 then x :: mergeF cmp bo a (y :: b) else if cmp x y > 0 then y :: mergeF cmp bo (x :: a) b else bo x y :: mergeF cmp bo a b
  termination_by a b => a.length + b.length
theorem merge_nil {α : Type} {cmp : α → α → Int} {bo : α → α → α} (a : List α) : mergeF cmp bo a [] = a := by
  cases a <;> simp [mergeF]
theorem nil_merge {α : Type} {cmp : α → α → Int} {bo : α → α → α} (a : List α) : mergeF cmp bo [] a = a := by simp [mergeF]
def cmpI (a b : Int) : Int := if a < b then -1 else if b < a then 1 else 0
def bothT (x y : Tk) : Tk := (x.1, if y.2 > x.2 then y.2 else x.2)
def joinF (a b : List Tk) : List Tk := mergeF (fun x y => cmpI x.1 y.1) bothT a b
def cmpF (a b : List Tk) : Int := if a = b then 0 else if joinF a b = b then -1 else if joinF a b = a then 1 else 2
def Up (c : List Tk) : Prop := c.Pairwise fun x y => x.1 < y.1
theorem of_mem {c : List Tk} (hs : Up c) {t : Tk} (h : t ∈ c) : ofF c t.1 = t.2 := by
  induction c with
  | nil => cases h
  | cons s c ih =>
    have hs' := List.pairwise_cons.1 hs
    rcases List.mem_cons.1 h with rfl | h
    · rw [ofF, if_pos rfl]
    · have := hs'.1 t h
      rw [ofF, if_neg (by omega)]
      exact ih hs'.2 h
end Go.MV
end
section
set_option linter.unusedVariables false
set_option linter.unusedSimpArgs false
namespace Go.MV
open Go Go.RowKit
def YStep (P : Program) (id : Nat) (xs : List MV) (S : MS) (b : Bool) (S' : MS) : Prop :=
  ∀ (L : MS) (rd : Option Nat) (o : Oper) (env : Env) (f : Operand) (args : Array Operand) (ts : Array TypeId), o.op = .call { callee := .value f, args := args, argTypes := ts } → evo env f = some (.yld id) → evos env args.toList = some xs →
    OpWp P rd o env (S ++ L) (fun v σ' => v = .bool b ∧ σ' = S' ++ L)
def IterOk (P : Program) (k : FuncId) (first caps : List MV) (ys : List (List MV)) (ok : MS → Prop) : Prop :=
  ∀ (id : Nat) (T : Nat → MS) (m : Nat), (∀ j, ok (T j)) → (∀ j y, j < m → ys[j]? = some y → YStep P id y (T j) true (T (j + 1))) →
    (m = ys.length → MCalls P k (first ++ [.yld id] ++ caps) (T 0) fun _ σ' => σ' = T m) ∧
    (∀ y, ys[m]? = some y → YStep P id y (T m) false (T (m + 1)) → MCalls P k (first ++ [.yld id] ++ caps) (T 0) fun _ σ' => σ' = T (m + 1))
theorem get_mid {A B : MS} {o : MObj} : (A ++ o :: B)[A.length]? = some o := by
  rw [List.getElem?_append_right (Nat.le_refl _), Nat.sub_self]; rfl
theorem set_mid {A B : MS} {o p : MObj} : (A ++ o :: B).set A.length p = A ++ p :: B := by
  rw [List.set_append_right _ _ (Nat.le_refl _), Nat.sub_self]; rfl
section
variable {P : Program} {rd : Option Nat} {N n : Nat} {Q : Exit → Env → MS → Prop} {env : Env} {S : MS}
end
end Go.MV
end
section
set_option linter.unusedVariables false
set_option linter.unusedSimpArgs false
namespace Go.MV
open Go Go.RowKit
theorem Rel.recell {g : Gh} {σ : MS} {w : World} (h : Rel g σ w) {id : Nat} {l l' : List MV} (hσ : σ[id]? = some (.cells l)) (hl : ∀ us, Rds g w l us → Rds g w l' us) : Rel g (σ.set id (.cells l')) w := by
  have hlt := (List.getElem?_eq_some_iff.1 hσ).1
  refine ⟨h.below, h.base, h.fresh, fun i hi => h.bkn i (by simpa using hi), fun t n ht => h.lgn t n (by simpa using ht), ?_⟩
  obtain ⟨own, ho⟩ := h.ex
  refine ⟨own, ⟨fun i o hi => ?_, ho.inj, fun i b hi => by have := ho.lt i b hi; exact ⟨by simpa using this.1, this.2⟩⟩⟩
  rw [List.getElem?_set] at hi
  split at hi
  · rename_i e
    subst e
    injection hi with hi
    subst hi
    obtain ⟨b, us, ty, h1, h2, h3, h4, h5⟩ := ho.obj _ _ hσ
    exact ⟨b, us, ty, h1, h2, h3, h4, hl us h5⟩
  · exact ho.obj i o hi
section
variable {P : Program} {rd : Option Nat} {N n : Nat} {c : Code} {Q : Exit → Env → MS → Prop} {env : Env} {S L : MS}
theorem YStep.at0 {id : Nat} {xs : List MV} {S S' : MS} {b : Bool} (h : YStep P id xs S b S') {o : Oper} {f : Operand} {args : Array Operand} {ts : Array TypeId} (ho : o.op = .call { callee := .value f, args := args, argTypes := ts }) (hf : evo env f = some (.yld id)) (hx : evos env args.toList = some xs) : OpWp P rd o env S (fun v σ' => v = .bool b ∧ σ' = S') := by
  have := h [] rd o env f args ts ho hf hx
  simpa using this
end
section
variable {P : Program} {fn : Func} {S S' L : MS} {R : MV → MS → Prop} {env : Env}
theorem ret_noneT {e : Exit} (he : e = .normal ∨ e = .ret) (hres : fn.results = #[]) (hl : S.length ≤ S'.length) (hS : ClS S') (hR : R (.tup []) S') : BodyQ P fn S R e env S' := by
  have := ret_noneS (P := P) (env := env) (L := []) he hres hl hS hR
  rwa [List.append_nil] at this
theorem ret_tmpT {e : Exit} {t : Nat} {x y : MV} (he : e = .normal ∨ e = .ret) (hres : fn.results = #[.tmp t]) (hx : get env t = some x) (hs : Sub x y) (hc : Cl S'.length y) (hl : S.length ≤ S'.length) (hS : ClS S') (hR : R y S') : BodyQ P fn S R e env S' := by
  have := ret_tmpS (P := P) (env := env) (L := []) he hres hx hs hc hl hS hR
  rwa [List.append_nil] at this
end
section
variable {P : Program} {rd : Option Nat} {o : Oper} {env : Env} {S L L' R : MS} {K : MV → MS → Prop}
theorem get_mid_ {k : Nat} {ob : MObj} (h : L[k]? = some ob) : ((S ++ L) ++ R)[S.length + k]? = some ob := by
  rw [List.append_assoc, getElem?_own]
  exact get_app h
theorem set_mid_ {k : Nat} {ob p : MObj} (h : L[k]? = some ob) : ((S ++ L) ++ R).set (S.length + k) p = (S ++ L.set k p) ++ R := by
  rw [List.append_assoc, set_own, set_app h, List.append_assoc]
theorem op_store_mid {t : TypeId} {x y : Operand} {i off : Nat} {l : List MV} {m : MV} {k : Nat} (ho : o.op = .store t x y) (hx : evo env x = some (.ref (S.length + i) off)) (hy : evo env y = some m) (hσ : L[i]? = some (.cells l)) (hk : szOf P t = some k) (hm : m.cells.length = k)
    (h1 : m.cells.all MV.one = true) (hle : off + k ≤ l.length) (hL : L.set i (.cells (setMany l off m.cells)) = L') (h : K (.tup []) ((S ++ L') ++ R)) : OpWp P rd o env ((S ++ L) ++ R) K :=
  op_store ho hx hy (get_mid_ hσ) hk hm h1 hle (by rw [set_mid_ hσ, hL]; exact h)
end
end Go.MV
end
section
set_option linter.unusedVariables false
set_option linter.unusedSimpArgs false
namespace Go.MV
open Go Go.RowKit
def encX (s : Bs) : MV := .str (bs s)
theorem cl_encX (n : Nat) (s : Bs) : Cl n (encX s) := .str _
theorem encX_one (s : Bs) : encX s = .agg (encX s).cells ∨ [encX s] = (encX s).cells := .inr rfl
theorem cl_texts (n : Nat) (l : List Bs) : Cl n (.lst none 1 (l.map encX)) := cl_lst (cl_encX n) encX_one
def encC (c : List Tk) : MV := .lst none 2 (c.map encT)
theorem cl_encC (n : Nat) (c : List Tk) : Cl n (encC c) := cl_clock n c
theorem encC_one (c : List Tk) : encC c = .agg (encC c).cells ∨ [encC c] = (encC c).cells := .inr rfl
theorem cl_clocks (n : Nat) (l : List (List Tk)) : Cl n (.lst none 1 (l.map encC)) := cl_lst (cl_encC n) encC_one
inductive Val where
  | mk (n m : Int) (s : List Bs) (c : List (List Tk)) (v : List Val)
  deriving Inhabited
noncomputable instance : DecidableEq Val := fun a b => Classical.propDecidable (a = b)
mutual
def encV : Val → MV
  | .mk n m s c v => .agg [.int .u64 n, .int .u64 m, .lst none 1 (s.map encX), .lst none 1 (c.map encC), .lst none 5 (encVs v)]
def encVs : List Val → List MV
  | [] => []
  | x :: l => encV x :: encVs l
end
theorem encVs_eq : ∀ l : List Val, encVs l = l.map encV
  | [] => by simp [encVs]
  | x :: l => by simp [encVs, encVs_eq l]
theorem encVs_length (l : List Val) : (encVs l).length = l.length := by rw [encVs_eq, List.length_map]
theorem encVs_get {l : List Val} {i : Nat} {s : Val} (h : l[i]? = some s) : (encVs l)[i]? = some (encV s) := by rw [encVs_eq, List.getElem?_map, h]; rfl
mutual
theorem cl_encV (k : Nat) : ∀ x : Val, Cl k (encV x)
  | .mk n m s c v => by
    refine .agg _ fun x hx => ?_
    simp only [encV, List.mem_cons, List.not_mem_nil, or_false] at hx
    rcases hx with rfl | rfl | rfl | rfl | rfl
    · exact .int _ _
    · exact .int _ _
    · exact cl_texts k s
    · exact cl_clocks k c
    · exact .lst none 5 _ (fun t ht => by cases ht) (cl_encVs k v)
theorem cl_encVs (k : Nat) : ∀ (l : List Val), ∀ x ∈ flat (encVs l), Cl k x
  | [], x, hx => by simp [encVs, flat] at hx
  | s :: l, x, hx => by
    rw [encVs, flat_cons, List.mem_append] at hx
    rcases hx with hx | hx
    · have h := cl_encV k s
      cases s with
      | mk n m ss c v =>
        cases h with
        | agg _ h => exact h x hx
    · exact cl_encVs k l x hx
end
def Val.nv : Val → Int | .mk n _ _ _ _ => n
def Val.mv : Val → Int | .mk _ m _ _ _ => m
def Val.sv : Val → List Bs | .mk _ _ s _ _ => s
def Val.cv : Val → List (List Tk) | .mk _ _ _ c _ => c
def Val.vv : Val → List Val | .mk _ _ _ _ v => v
mutual
def vdepth : Val → Nat
  | .mk _ _ _ _ v => 1 + vdepthL v
def vdepthL : List Val → Nat
  | [] => 0
  | x :: l => max (vdepth x) (vdepthL l)
end
theorem vdepth_mem {l : List Val} {x : Val} (h : x ∈ l) : vdepth x ≤ vdepthL l := by
  induction l with
  | nil => cases h
  | cons y l ih =>
    rw [vdepthL]
    rcases List.mem_cons.1 h with rfl | h
    · omega
    · have := ih h; omega
def risesF : List Bs → Bool
  | [] => true
  | [_] => true
  | a :: b :: l => Op.bytesLess a b && risesF (b :: l)
def shortF (l : List Bs) : Bool := l.all fun s => decide (s.length ≤ 16)
def tickC (x y : Tk) : Int := if cmpI x.1 y.1 ≠ 0 then cmpI x.1 y.1 else cmpI x.2 y.2
def byTicksF : List Tk → List Tk → Int
  | [], [] => 0
  | [], _ :: _ => -1
  | _ :: _, [] => 1
  | x :: a, y :: b => if tickC x y ≠ 0 then tickC x y else byTicksF a b
def pairF (a b : List Tk) : Bool := decide (byTicksF a b < 0) && decide (cmpF a b = 2)
def pairsF : List (List Tk) → Bool
  | [] => true
  | a :: l => l.all (pairF a) && pairsF l
def isCauseF (l : List (List Tk)) : Bool := l.all isClockF && pairsF l
def noV : Val := .mk 0 0 [] [] []
end Go.MV
end
section
set_option linter.unusedVariables false
set_option linter.unusedSimpArgs false
namespace Go.Proofs.YthkikhggmbiffaaGreat
open Go Go.MV Go.RowKit
mutual
def bottomF : Sch → Val
  | .mk k ins => if k = 5 then .mk 0 0 [] [] (bottomL ins) else noV
def bottomL : List Sch → List Val
  | [] => []
  | s :: l => bottomF s :: bottomL l
end
def BottomF (s : Sch) : Val := if isF 16 s then bottomF s else noV
noncomputable def noneF (s : Sch) (v : Val) : Bool := decide (BottomF s = v)
def numsK (k : Int) : Bool := k == 1 || k == 2 || k == 6
def textsK (k : Int) : Bool := k == 3 || k == 4 || k == 6
def clocksK (k : Int) : Bool := k == 7 || k == 8
def valuesK (k : Int) : Bool := k == 4 || k == 5 || k == 8
def bareF (k : Int) (v : Val) : Bool := (numsK k || v.nv == 0) && (k == 6 || v.mv == 0) && (textsK k || v.sv.length == 0) && (clocksK k || v.cv.length == 0) && (valuesK k || v.vv.length == 0)
def isRowF (s : List Bs) : Bool := decide (s.length ≤ 40) && risesF s && shortF s
def isLastF (n m : Int) : List Bs → Bool
  | [] => n == 0 && m == 0
  | [t] => decide (t.length ≤ 16) && (!(n == 0) || !(m == 0) || !(t == []))
  | _ => false
noncomputable def isB (k : Int) (ins : List Sch) (fs : List (Val → Bool)) (v : Val) : Bool :=
  bareF k v && decide (v.vv.length ≤ 40) && decide (v.cv.length ≤ 40) &&
  (if k = 1 then true else if k = 2 then decide (v.nv ≤ 1) else if k = 3 then isRowF v.sv
   else if k = 4 then isRowF v.sv && decide (v.sv.length = v.vv.length) && v.vv.all (fun x => fs.headD (fun _ => false) x && !noneF (ins.headD default) x)
   else if k = 5 then (match v.vv with | [x, y] => fs.headD (fun _ => false) x && fs.tail.headD (fun _ => false) y | _ => false)
   else if k = 6 then isLastF v.nv v.mv v.sv
   else if k = 7 then (match v.cv with | [] => true | [c] => decide (0 < c.length) && isClockF c | _ => false)
   else decide (v.cv.length = v.vv.length) && isCauseF v.cv && v.vv.all (fs.headD (fun _ => false)))
mutual
noncomputable def isVF : Sch → Val → Bool
  | .mk k ins, v => isB k ins (isVL ins) v
noncomputable def isVL : List Sch → List (Val → Bool)
  | [] => []
  | s :: l => isVF s :: isVL l
end
def okTk (t : Tk) : Prop := 0 ≤ t.2 ∧ t.2 < 18446744073709551616
mutual
def okV : Val → Prop
  | .mk n m s c v => (0 ≤ n ∧ n < 18446744073709551616) ∧ (0 ≤ m ∧ m < 18446744073709551616) ∧ (∀ x ∈ c, ∀ t ∈ x, okTk t) ∧ okVs v
def okVs : List Val → Prop
  | [] => True
  | x :: l => okV x ∧ okVs l
end
theorem okVs_iff : ∀ {l : List Val}, okVs l ↔ ∀ x ∈ l, okV x
  | [] => by simp [okVs]
  | x :: l => by rw [okVs, okVs_iff (l := l)]; simp
end Go.Proofs.YthkikhggmbiffaaGreat
end
section
set_option linter.unusedVariables false
set_option linter.unusedSimpArgs false
set_option maxRecDepth 20000
namespace Go.Proofs.YthkikhggmbiffaaGreat
open Go Go.MV Go.RowKit
abbrev RdS := Bs × Option Int
def failR (e : Int) (r : RdS) : RdS := (r.1, match r.2 with | none => some e | some x => some x)
def numScan (n i : Nat) : Bs → Except Int (Nat × Bs)
  | [] => .error 11
  | c :: l =>
    if 64 ≤ 7 * i ∨ 18446744073709551616 ≤ (c.toNat % 128) * 2 ^ (7 * i) ∨ (0 < i ∧ c = 0) then .error 10
    else if c.toNat < 128 then .ok (n + c.toNat % 128 * 2 ^ (7 * i), l)
    else numScan (n + c.toNat % 128 * 2 ^ (7 * i)) (i + 1) l
def numM (r : RdS) : Nat × RdS := match r.2 with
  | some _ => (0, r)
  | none => match numScan 0 0 r.1 with | .ok (n, l) => (n, (l, none)) | .error e => (0, (r.1, some e))
def textM (r : RdS) : Bs × RdS :=
  if (numM r).2.2.isSome then ([], (numM r).2)
  else if 16 < (numM r).1 then ([], failR 13 (numM r).2)
  else if (numM r).2.1.length < (numM r).1 then ([], failR 11 (numM r).2)
  else ((numM r).2.1.take (numM r).1, ((numM r).2.1.drop (numM r).1, (numM r).2.2))
def rowGo {α : Type} (one : RdS → α × RdS) : Nat → List α → RdS → List α × RdS
  | 0, acc, r => (acc, r)
  | k + 1, acc, r => if r.2.isSome then ([], r) else rowGo one k (acc ++ [(one r).1]) (one r).2
def rowM {α : Type} (one : RdS → α × RdS) (r : RdS) : List α × RdS := rowGo one (numM r).1 [] (if 40 < (numM r).1 then failR 13 (numM r).2 else (numM r).2)
def whoM (r : RdS) : Nat × RdS := if 1000000 < (numM r).1 then (0, failR 10 (numM r).2) else numM r
def tickM (r : RdS) : Tk × RdS := ((((whoM r).1 : Int), ((numM (whoM r).2).1 : Int)), (numM (whoM r).2).2)
def clockM : RdS → List Tk × RdS := rowM tickM
theorem pow7 (i : Nat) : 2 ^ (7 * (i + 1)) = 128 * 2 ^ (7 * i) := by
  rw [show 7 * (i + 1) = 7 * i + 7 by omega, Nat.pow_add]
  omega
theorem numB_lo {m : Nat} (h : m < 128) : numB m = [UInt8.ofNat m] := by rw [numB, dif_pos h]
theorem numB_hi {m : Nat} (h : ¬ m < 128) : numB m = UInt8.ofNat (m % 128 + 128) :: numB (m / 128) := by rw [numB, dif_neg h]
theorem scan_one : ∀ (b : Bs) (n i v : Nat) (rest : Bs), numScan n i b = .ok (v, rest) → ∃ m, v = n + m * 2 ^ (7 * i) ∧ b = numB m ++ rest ∧ m * 2 ^ (7 * i) < 18446744073709551616 ∧ (0 < i → 0 < m)
  | [], n, i, v, rest, h => by simp [numScan] at h
  | c :: l, n, i, v, rest, h => by
    rw [numScan] at h
    split at h
    · cases h
    · rename_i hc
      have hc' : c = UInt8.ofNat c.toNat := by simp
      have hct := c.toNat_lt
      split at h
      · rename_i hlt
        injection h with h
        injection h with h1 h2
        subst h1 h2
        have e : c.toNat % 128 = c.toNat := Nat.mod_eq_of_lt hlt
        refine ⟨c.toNat, by rw [e], by rw [numB_lo hlt, ← hc']; rfl, by rw [← e]; omega, fun hi => ?_⟩
        rcases Nat.eq_zero_or_pos c.toNat with h0 | h0
        · exact absurd (show c = 0 by rw [hc', h0]; rfl) (fun e => hc (.inr (.inr ⟨hi, e⟩)))
        · exact h0
      · rename_i hge
        obtain ⟨m, e1, e2, e3, e4⟩ := scan_one l _ _ _ _ h
        have hm := e4 (by omega)
        have hd : (128 * m + c.toNat % 128) / 128 = m := by omega
        have hr : (128 * m + c.toNat % 128) % 128 = c.toNat % 128 := by omega
        refine ⟨128 * m + c.toNat % 128, ?_, ?_, ?_, fun _ => by omega⟩
        · rw [e1, pow7, Nat.add_mul, Nat.mul_comm 128 m, Nat.mul_assoc]
          omega
        · rw [numB_hi (by omega), hd, hr, e2, List.cons_append]
          congr 1
          rw [show c.toNat % 128 + 128 = c.toNat by omega]
          exact hc'
        · rw [pow7] at e3
          by_cases h7 : 7 * (i + 1) < 64
          · have hp : 2 ^ (7 * i) * (128 * (m + 1)) ≤ 18446744073709551616 := by
              have hk : m * (128 * 2 ^ (7 * i)) < 18446744073709551616 := e3
              have hdiv : ∃ q, 18446744073709551616 = 128 * 2 ^ (7 * i) * q := ⟨2 ^ (64 - 7 * (i + 1)), by
                rw [← pow7, ← Nat.pow_add, show 7 * (i + 1) + (64 - 7 * (i + 1)) = 64 by omega]⟩
              obtain ⟨q, hq⟩ := hdiv
              have hmq : m < q := by
                rw [hq, Nat.mul_comm m] at hk
                exact Nat.lt_of_mul_lt_mul_left hk
              have : 128 * 2 ^ (7 * i) * (m + 1) ≤ 128 * 2 ^ (7 * i) * q := Nat.mul_le_mul_left _ hmq
              rw [hq]
              calc 2 ^ (7 * i) * (128 * (m + 1)) = 128 * 2 ^ (7 * i) * (m + 1) := by rw [Nat.mul_comm 128 (2 ^ (7 * i)), Nat.mul_assoc]
                _ ≤ _ := this
            have hlt : (128 * m + c.toNat % 128) * 2 ^ (7 * i) < 2 ^ (7 * i) * (128 * (m + 1)) := by
              rw [Nat.mul_comm]
              exact Nat.mul_lt_mul_of_pos_left (by omega) (Nat.two_pow_pos _)
            omega
          · exfalso
            have h1 : 2 ^ 64 ≤ 2 ^ (7 * (i + 1)) := Nat.pow_le_pow_right (by omega) (by omega)
            rw [pow7] at h1
            have h2 : 1 * (128 * 2 ^ (7 * i)) ≤ m * (128 * 2 ^ (7 * i)) := Nat.mul_le_mul_right _ hm
            omega
structure Cod {α : Type} (M : RdS → α × RdS) (E : α → Bs) (P Q : α → Prop) : Prop where
  er : ∀ b e, (M (b, some e)).2 = (b, some e)
  rt : ∀ x rest, P x → M (E x ++ rest, none) = (x, (rest, none))
  sh : ∀ x p q, P x → E x = p ++ q → q ≠ [] → (M (p, none)).2.2 = some 11
  un : ∀ b x rest, M (b, none) = (x, (rest, none)) → Q x → b = E x ++ rest
theorem num_err (b : Bs) (e : Int) : numM (b, some e) = (0, (b, some e)) := rfl
theorem num_ok {b l : Bs} {n : Nat} (h : numScan 0 0 b = .ok (n, l)) : numM (b, none) = (n, (l, none)) := by simp only [numM, h]
theorem num_bad {b : Bs} {e : Int} (h : numScan 0 0 b = .error e) : numM (b, none) = (0, (b, some e)) := by simp only [numM, h]
theorem fail_ok (e : Int) (b : Bs) : failR e (b, none) = (b, some e) := rfl
theorem fail_err (e x : Int) (b : Bs) : failR e (b, some x) = (b, some x) := rfl
section
variable {α : Type} {one : RdS → α × RdS} {E : α → Bs} {P Q : α → Prop} (h : Cod one E P Q)
include h
def rowB {α : Type} (E : α → Bs) (l : List α) : Bs := numB l.length ++ l.flatMap E
omit h in
end
end Go.Proofs.YthkikhggmbiffaaGreat
end
section
set_option linter.unusedVariables false
set_option linter.unusedSimpArgs false
set_option maxRecDepth 20000
set_option maxHeartbeats 400000
namespace Go.Proofs.YthkikhggmbiffaaGreat
open Go Go.MV Go.RowKit
def errV : Option Int → MV
 | none => .iface0
 | some x => .iface 45 (.int .i64 x)
def rdO (r : RdS) : MObj := .cells [.str (bs r.1), errV r.2]
theorem cl_errV (n : Nat) : ∀ e, Cl n (errV e)
 | none => .iface0
 | some x => .iface _ _ (.int _ _)
theorem rd_cl (n : Nat) (r : RdS) : (rdO r).cl n := fun x hx => by
 rcases List.mem_cons.1 hx with rfl | hx
 ·exact .str _
 ·rcases List.mem_cons.1 hx with rfl | hx
  ·exact cl_errV _ _
  ·cases hx
def Reads {α : Type} (k : FuncId) (xs : List MV) (id : Nat) (en : α → MV) (M : RdS → α × RdS) : Prop := ∀ (r : RdS) (S : MS), S[id]? = some (rdO r) → r.1.length ≤ 1000000 → MCalls Tryz.prog k xs S fun v σ' => v = en (M r).1 ∧ σ' = S.set id (rdO (M r).2)
theorem set_sl {S L : MS} {id : Nat} {r : RdS} {o : MObj} (h : S[id]? = some (rdO r)) : (S ++ L).set id o = S.set id o ++ L := List.set_append_left _ _ (List.getElem?_eq_some_iff.1 h).1
theorem get_sl {S L : MS} {id : Nat} {o : MObj} (h : S[id]? = some o) : (S ++ L)[id]? = some o := by rw [List.getElem?_append_left (List.getElem?_eq_some_iff.1 h).1]; exact h
theorem Reads.sl {α : Type} {k : FuncId} {xs : List MV} {id : Nat} {en : α → MV} {M : RdS → α × RdS} (h : Reads k xs id en M) {r : RdS} {S L : MS} (hr : S[id]? = some (rdO r)) (hl : r.1.length ≤ 1000000) : MCalls Tryz.prog k xs (S ++ L) fun v σ' => v = en (M r).1 ∧ σ' = S.set id (rdO (M r).2) ++ L :=
 (h r (S ++ L) (get_sl hr) hl).mono fun v σ' hv => ⟨hv.1, by rw [hv.2, set_sl hr]⟩
theorem set_self_rd {S : MS} {id : Nat} {o : MObj} (h : S[id]? = some o) : S.set id o = S := by
 obtain ⟨hl, e⟩ := List.getElem?_eq_some_iff.1 h
 rw [← e, List.set_getElem_self]
theorem shl_u64 {c k : Nat} (hk : k < 64) (h : c * 2 ^ k < 18446744073709551616) : IntKind.u64.wrap ((c : Int) * 2 ^ min ((k : Int).toNat) IntKind.u64.bits) = ((c * 2 ^ k : Nat) : Int) := by
 rw [show min ((k : Int).toNat) IntKind.u64.bits = k by rw [Int.toNat_natCast]; simp [IntKind.bits]; omega, show (c : Int) * 2 ^ k = ((c * 2 ^ k : Nat) : Int) by simp, wrap_u64 (by omega)]
theorem shl_any (c k : Nat) (hk : k < 64) : IntKind.u64.wrap ((c : Int) * 2 ^ min ((k : Int).toNat) IntKind.u64.bits) = ((c * 2 ^ k % 18446744073709551616 : Nat) : Int) := by
 rw [show min ((k : Int).toNat) IntKind.u64.bits = k by rw [Int.toNat_natCast]; simp [IntKind.bits]; omega, show (c : Int) * 2 ^ k = ((c * 2 ^ k : Nat) : Int) by simp]
 simp [IntKind.wrap, IntKind.signed, IntKind.bits]
theorem shr_nat64 {m i : Nat} (hi : i < 64) : Int.fdiv (m : Int) (2 ^ min ((i : Int).toNat) IntKind.u64.bits) = ((m / 2 ^ i : Nat) : Int) := by
 rw [show min ((i : Int).toNat) IntKind.u64.bits = i by rw [Int.toNat_natCast]; simp [IntKind.bits]; omega, show (2 : Int) ^ i = ((2 ^ i : Nat) : Int) by simp, Int.fdiv_eq_ediv_of_nonneg _ (Int.natCast_nonneg _)]
 rfl
theorem shl_back {c k : Nat} : c * 2 ^ k % 18446744073709551616 / 2 ^ k = c ↔ c * 2 ^ k < 18446744073709551616 := by
 have hp := Nat.two_pow_pos k
 constructor
 ·intro h
  rcases Nat.lt_or_ge (c * 2 ^ k) 18446744073709551616 with hlt | hge
  ·exact hlt
  ·exfalso
   have h1 : c * 2 ^ k % 18446744073709551616 < 18446744073709551616 := Nat.mod_lt _ (by omega)
   have h2 : c * 2 ^ k ≤ c * 2 ^ k % 18446744073709551616 := (Nat.le_div_iff_mul_le hp).1 (by omega)
   omega
 ·intro h
  rw [Nat.mod_eq_of_lt h, Nat.mul_div_cancel _ hp]
theorem or_u64 {n c k : Nat} (hn : n < 2 ^ k) (h : c * 2 ^ k + n < 18446744073709551616) : bitsI .or .u64 (n : Int) ((c * 2 ^ k : Nat) : Int) = some ((n + c * 2 ^ k : Nat) : Int) := by
 show some (IntKind.u64.wrap ((BitVec.ofInt 64 (n : Int) ||| BitVec.ofInt 64 ((c * 2 ^ k : Nat) : Int)).toNat : Int)) = _
 simp only [BitVec.ofInt_natCast, BitVec.toNat_or, BitVec.toNat_ofNat]
 have e : n ||| c * 2 ^ k = n + c * 2 ^ k := by
  rw [Nat.or_comm, Nat.mul_comm c, ← Nat.two_pow_add_eq_or_of_lt hn, Nat.add_comm]
 rw [Nat.mod_eq_of_lt (show n < 2 ^ 64 by omega), Nat.mod_eq_of_lt (show c * 2 ^ k < 2 ^ 64 by omega), e, wrap_u64 (by omega)]
theorem fit_or {n m i : Nat} (hn : n < 2 ^ (7 * i)) (hm : m < 128) (hi : 7 * i < 64) (h : m * 2 ^ (7 * i) < 18446744073709551616) : m * 2 ^ (7 * i) + n < 18446744073709551616 ∧ n + m * 2 ^ (7 * i) < 2 ^ (7 * (i + 1)) := by
 have h1 : (m + 1) * 2 ^ (7 * i) ≤ 128 * 2 ^ (7 * i) := Nat.mul_le_mul_right _ (by omega)
 have h3 : (m + 1) * 2 ^ (7 * i) = m * 2 ^ (7 * i) + 2 ^ (7 * i) := by rw [Nat.add_mul, Nat.one_mul]
 refine ⟨?_, by rw [pow7]; omega⟩
 have hd : m * 2 ^ (7 * i) < 2 ^ (64 - 7 * i) * 2 ^ (7 * i) := by
  rw [← Nat.pow_add, show 64 - 7 * i + 7 * i = 64 by omega]
  exact h
 have hlt : m < 2 ^ (64 - 7 * i) := Nat.lt_of_mul_lt_mul_right hd
 have h2 : (m + 1) * 2 ^ (7 * i) ≤ 2 ^ (64 - 7 * i) * 2 ^ (7 * i) := Nat.mul_le_mul_right _ hlt
 rw [← Nat.pow_add, show 64 - 7 * i + 7 * i = 64 by omega] at h2
 omega
theorem ne_nat (a b : Nat) : intCmp .neq (a : Int) (b : Int) = some (decide (a ≠ b)) := by
 simp only [intCmp, Option.some.injEq]
 by_cases h : a = b
 ·simp [h]
 ·have : (a : Int) ≠ (b : Int) := by omega
  simp [h, this]
theorem fails_none (id : Nat) (b : Bs) (S : MS) (h : S[id]? = some (.cells [.str (bs b), .iface0])) (x : Int) : MCalls Tryz.prog 26 [.ref id 0, .int .i64 x] S fun v σ' => v = .tup [] ∧ σ' = S.set id (rdO (b, some x)) := by
 refine mcalls_body Tryz.func26 rfl Tryz.ntmps26 (Nat.le_of_ble_eq_true rfl) ?_
 refine mwp_facts fun _ hcl => ?_
 rw [List.append_nil] at hcl
 refine mwp_seq <| qR rfl <| qM rfl rfl rfl <| qO rfl <| op_nilCheck rfl rfl rfl <| qF rfl rfl rfl fo64_1 <| qO rfl <| op_load_far rfl rfl h ta37 rfl <| qO rfl <| op_if0 rfl Tryz.underlying37 rfl rfl (.inl ⟨rfl, rfl⟩) <| qN <| mwp_cond_t rfl (rfl) <| qR rfl <| qM rfl rfl rfl <| qM rfl rfl rfl <| qO rfl <| op_makeInterface rfl rfl Tryz.underlying45 (by simp) ?_
 refine qO rfl <| op_nilCheck rfl rfl rfl <| qF rfl rfl rfl fo64_1 <| qO rfl <| op_store_far rfl rfl rfl h sz37 rfl rfl (Nat.le_of_ble_eq_true rfl) <| qN ?_
 exact ret_noneS (by simp) Tryz.results26 (by simp) (hcl.set (rd_cl _ (b, some x))) ⟨rfl, rfl⟩
theorem fails_some (id : Nat) (b : Bs) (e : Int) (S : MS) (h : S[id]? = some (.cells [.str (bs b), .iface 45 (.int .i64 e)])) (x : Int) : MCalls Tryz.prog 26 [.ref id 0, .int .i64 x] S fun v σ' => v = .tup [] ∧ σ' = S := by
 refine mcalls_body Tryz.func26 rfl Tryz.ntmps26 (Nat.le_of_ble_eq_true rfl) ?_
 refine mwp_facts fun _ hcl => ?_
 rw [List.append_nil] at hcl
 refine mwp_seq <| qR rfl <| qM rfl rfl rfl <| qO rfl <| op_nilCheck rfl rfl rfl <| qF rfl rfl rfl fo64_1 <| qO rfl <| op_load_far rfl rfl h ta37 rfl <| qO rfl <| op_ifnil rfl Tryz.underlying37 rfl rfl (.inl ⟨rfl, rfl⟩) <| qN <| mwp_cond_f rfl (rfl) <| mwp_skip ?_
 exact ret_noneS (by simp) Tryz.results26 (by simp) hcl ⟨rfl, rfl⟩
theorem fails_spec (id : Nat) (r : RdS) (S L : MS) (h : S[id]? = some (rdO r)) (x : Int) : MCalls Tryz.prog 26 [.ref id 0, .int .i64 x] (S ++ L) fun v σ' => v = .tup [] ∧ σ' = S.set id (rdO (failR x r)) ++ L := by
 obtain ⟨b, e⟩ := r
 cases e with
 | none =>
  refine (fails_none id b (S ++ L) (get_sl h) x).mono fun v σ' hv => ⟨hv.1, ?_⟩
  rw [hv.2, set_sl h]
  rfl
 | some e =>
  refine (fails_some id b e (S ++ L) (get_sl h) x).mono fun v σ' hv => ⟨hv.1, ?_⟩
  rw [hv.2, fail_err, set_self_rd h]
theorem num_ok_spec (id : Nat) (b : Bs) (S : MS) (h : S[id]? = some (.cells [.str (bs b), .iface0])) (hlen : b.length ≤ 1000000) : MCalls Tryz.prog 44 [.ref id 0] S fun v σ' => v = .int .u64 ((numM (b, none)).1 : Int) ∧ σ' = S.set id (rdO (numM (b, none)).2) := by
 refine mcalls_body Tryz.func44 rfl Tryz.ntmps44 (Nat.le_of_ble_eq_true rfl) ?_
 refine mwp_facts fun _ hcl => ?_
 rw [List.append_nil] at hcl
 have hlen' : b.length ≤ maxLen := by simp only [maxLen]; omega
 refine mwp_seq <| qR rfl <| qA rfl rfl rfl <| qN <| mwp_seq <| qR rfl <| qA rfl rfl rfl <| qN <| mwp_seq <| mwp_seq <| qR rfl <| qA rfl rfl rfl <| qN <| mwp_block ?_
 refine mwp_loopK (α := Nat × Nat) [(0, _)] (fun x => [(3, .int .u64 (x.1 : Int)), (4, .int .i64 (x.2 : Int))]) (fun x => []) (fun x => x.2 ≤ b.length ∧ x.1 < 2 ^ (7 * x.2) ∧ numScan x.1 x.2 (b.drop x.2) = numScan 0 0 b) (fun x => b.length - x.2) (⟨0, 0⟩) (.keep rfl (.nil)) (.keep rfl (.keep rfl (.nil))) (⟨by simp, by simp, by simp⟩) (rfl) ?_
 rintro ⟨n, i⟩ ⟨hi, hnp, he⟩
 dsimp only at hi hnp he ⊢
 refine mwp_seq <| mwp_seq <| qR rfl <| qM rfl rfl rfl <| qO rfl <| op_nilCheck rfl rfl rfl <| qF rfl rfl rfl fo64_1 <| qO rfl <| op_load_far rfl rfl h ta37 rfl <| qO rfl <| op_if0 rfl Tryz.underlying37 rfl rfl (.inl ⟨rfl, rfl⟩) <| qN <| mwp_cond_t rfl (rfl) <| mwp_skip <| mwp_seq <| mwp_block <| mwp_seq <| mwp_seq <| qR rfl <| qM rfl rfl rfl <| qM rfl rfl rfl <| qO rfl <| op_nilCheck rfl rfl rfl <| qF rfl rfl rfl fo64_0 <| qO rfl <| op_load_far rfl rfl h ta9 rfl ?_
 refine qO rfl <| op_len_bs rfl Tryz.underlying9 rfl <| qC rfl rfl rfl rfl rfl <| qN ?_
 refine mwp_cond_split rfl (fun h20 => ?_) (fun h20 => ?_)
 ·
  have hge : i = b.length := by simp at h20; omega
  have hE : numM (b, none) = (0, (b, some 11)) := num_bad (he.symm.trans (by rw [hge, List.drop_length]; rfl))
  refine mwp_seq <| qR rfl <| qM rfl rfl rfl ?_
  refine wOps_op rfl (op_call rfl rfl rfl co26 ((fails_spec id (b, none) S [] h _).mono ?_))
  rintro _ _ ⟨rfl, rfl⟩
  refine qN <| mwp_exit <| mwp_seq <| qR rfl <| qA rfl rfl rfl <| qN <| mwp_ret ?_
  exact ret_tmpS (.inr rfl) Tryz.results44 rfl (.refl _) (.int _ _) (by simp) (hcl.set (rd_cl _ _)) ⟨by rw [hE]; rfl, by rw [hE]; rfl⟩
 ·
  have hlt : i < b.length := by simpa using h20
  obtain ⟨c, hs⟩ : ∃ q_, b[i]? = some q_ := ⟨_, List.getElem?_eq_getElem hlt⟩
  have hcl0 := c.toNat_lt
  rw [drop_at hs] at he
  refine mwp_skip <| mwp_seq <| qR rfl <| qM rfl rfl rfl <| qO rfl <| op_nilCheck rfl rfl rfl <| qF rfl rfl rfl fo64_0 <| qO rfl <| op_load_far rfl rfl h ta9 rfl <| qM rfl rfl rfl <| qO rfl <| op_index_str rfl Tryz.underlying9 rfl rfl rfl hs <| qO rfl <| op_convInt rfl Tryz.underlying5 Tryz.underlying25 rfl (u64_byte c) <| qA rfl rfl rfl <| qN <| mwp_seq <| qR rfl <| qM rfl rfl rfl <| qO rfl <| op_arith rfl rfl rfl (wmul (a := 7) (b := i) rfl (by omega)) ?_
  refine qA rfl rfl rfl <| qN <| mwp_seq <| mwp_seq <| qR rfl <| qM rfl rfl rfl <| qC rfl rfl rfl rfl rfl <| qM rfl rfl rfl ?_
  refine wOps_case (fun h34 => ?_) (fun h34 => ?_)
  ·
   have h64 : 64 ≤ 7 * i := by simp at h34; omega
   have hE : numM (b, none) = (0, (b, some 10)) := num_bad (he.symm.trans (by rw [numScan, if_pos (.inl h64)]))
   refine qS rfl <| qS rfl <| qS rfl <| qS rfl <| qS rfl <| qS rfl <| qS rfl <| qS rfl <| qS rfl <| qP rfl rfl rfl rfl <| qM rfl rfl rfl <| qS rfl <| qS rfl <| qS rfl <| qS rfl <| qS rfl <| qS rfl <| qP rfl rfl rfl rfl <| qN <| mwp_cond_t rfl (rfl) <| mwp_seq <| qR rfl <| qM rfl rfl rfl ?_
   refine wOps_op rfl (op_call rfl rfl rfl co26 ((fails_spec id (b, none) S [] h _).mono ?_))
   rintro _ _ ⟨rfl, rfl⟩
   refine qN <| mwp_exit <| mwp_seq <| qR rfl <| qA rfl rfl rfl <| qN <| mwp_ret ?_
   exact ret_tmpS (.inr rfl) Tryz.results44 rfl (.refl _) (.int _ _) (by simp) (hcl.set (rd_cl _ _)) ⟨by rw [hE]; rfl, by rw [hE]; rfl⟩
  ·
   have h64 : 7 * i < 64 := by simp at h34; omega
   refine qM rfl rfl rfl <| qO rfl <| op_rem rfl rfl rfl (by decide) (rem128 c.toNat) ?_
   refine qM rfl rfl rfl <| qO rfl <| op_shl rfl rfl rfl (by omega) (shl_any (c.toNat % 128) (7 * i) h64) ?_
   refine qM rfl rfl rfl <| qO rfl <| op_shr rfl rfl rfl (by omega) (shr_nat64 h64) ?_
   refine qM rfl rfl rfl <| qO rfl <| op_rem rfl rfl rfl (by decide) (rem128 c.toNat) ?_
   refine qC rfl rfl rfl rfl (ne_nat _ _) <| qP rfl rfl rfl rfl <| qM rfl rfl rfl ?_
   refine wOps_case (fun h45 => ?_) (fun h45 => ?_)
   ·
    have hbig : 18446744073709551616 ≤ (c.toNat % 128) * 2 ^ (7 * i) := by simpa [shl_back] using h45
    have hE : numM (b, none) = (0, (b, some 10)) := num_bad (he.symm.trans (by rw [numScan, if_pos (.inr (.inl hbig))]))
    refine qS rfl <| qS rfl <| qS rfl <| qS rfl <| qS rfl <| qS rfl <| qP rfl rfl rfl rfl <| qN <| mwp_cond_t rfl (rfl) <| mwp_seq <| qR rfl <| qM rfl rfl rfl ?_
    refine wOps_op rfl (op_call rfl rfl rfl co26 ((fails_spec id (b, none) S [] h _).mono ?_))
    rintro _ _ ⟨rfl, rfl⟩
    refine qN <| mwp_exit <| mwp_seq <| qR rfl <| qA rfl rfl rfl <| qN <| mwp_ret ?_
    exact ret_tmpS (.inr rfl) Tryz.results44 rfl (.refl _) (.int _ _) (by simp) (hcl.set (rd_cl _ _)) ⟨by rw [hE]; rfl, by rw [hE]; rfl⟩
   ·
    have hsm : (c.toNat % 128) * 2 ^ (7 * i) < 18446744073709551616 := by simpa [shl_back] using h45
    refine qM rfl rfl rfl <| qC rfl rfl rfl rfl rfl <| qM rfl rfl rfl ?_
    refine wOps_case (fun h48 => ?_) (fun h48 => ?_)
    ·
     have hi0 : 0 < i := by simpa using h48
     refine qM rfl rfl rfl <| qC rfl rfl rfl rfl rfl <| qP rfl rfl rfl rfl <| qP rfl rfl rfl rfl <| qN ?_
     refine mwp_cond_split rfl (fun h52 => ?_) (fun h52 => ?_)
     ·
      have hc0 : c = 0 := by apply UInt8.toNat_inj.1; simp at h52 ⊢; omega
      have hE : numM (b, none) = (0, (b, some 10)) := num_bad (he.symm.trans (by rw [numScan, if_pos (.inr (.inr ⟨hi0, hc0⟩))]))
      refine mwp_seq <| qR rfl <| qM rfl rfl rfl ?_
      refine wOps_op rfl (op_call rfl rfl rfl co26 ((fails_spec id (b, none) S [] h _).mono ?_))
      rintro _ _ ⟨rfl, rfl⟩
      refine qN <| mwp_exit <| mwp_seq <| qR rfl <| qA rfl rfl rfl <| qN <| mwp_ret ?_
      exact ret_tmpS (.inr rfl) Tryz.results44 rfl (.refl _) (.int _ _) (by simp) (hcl.set (rd_cl _ _)) ⟨by rw [hE]; rfl, by rw [hE]; rfl⟩
     ·
      have hc0 : ¬ c.toNat = 0 := by simp at h52; omega
      have hcc : ¬ (64 ≤ 7 * i ∨ 18446744073709551616 ≤ (c.toNat % 128) * 2 ^ (7 * i) ∨ (0 < i ∧ c = 0)) := by rintro (hq | hq | ⟨hq, hq2⟩) <;> first | omega | (subst hq2; exact hc0 rfl)
      have hm := c.toNat_lt
      have hfit := fit_or (m := c.toNat % 128) hnp (by omega) h64 hsm
      refine mwp_skip <| mwp_seq <| qR rfl <| qM rfl rfl rfl <| qM rfl rfl rfl <| qO rfl <| op_rem rfl rfl rfl (by decide) (rem128 c.toNat) ?_
      refine qM rfl rfl rfl <| qO rfl <| op_shl rfl rfl rfl (by omega) (shl_u64 h64 hsm) ?_
      refine qO rfl <| op_bits rfl rfl rfl (or_u64 hnp hfit.1) <| qA rfl rfl rfl <| qN <| mwp_seq <| qR rfl <| qM rfl rfl rfl <| qC rfl rfl rfl rfl rfl <| qN ?_
      refine mwp_cond_split rfl (fun h62 => ?_) (fun h62 => ?_)
      ·
       have hlast : c.toNat < 128 := by simp at h62; omega
       have hE : numM (b, none) = (n + c.toNat % 128 * 2 ^ (7 * i), (b.drop (i + 1), none)) := num_ok (he.symm.trans (by rw [numScan, if_neg hcc, if_pos hlast]))
       refine mwp_seq <| qR rfl <| qM rfl rfl rfl <| qM rfl rfl rfl <| qO rfl <| op_nilCheck rfl rfl rfl <| qF rfl rfl rfl fo64_0 <| qO rfl <| op_load_far rfl rfl h ta9 rfl <| qM rfl rfl rfl <| qO rfl <| op_arith rfl rfl rfl (wadd (a := i) (b := 1) rfl (by omega)) ?_
       refine qO rfl <| op_slice_str rfl Tryz.underlying9 rfl (.some rfl rfl) .none (by omega) (by omega) ?_
       rw [List.take_of_length_le (by simp : (b.drop (i + 1)).length ≤ b.length - (i + 1))]
       refine qO rfl <| op_nilCheck rfl rfl rfl <| qF rfl rfl rfl fo64_0 <| qO rfl <| op_store_far rfl rfl rfl h sz9 rfl rfl (Nat.le_of_ble_eq_true rfl) <| qN <| mwp_seq <| qR rfl <| qM rfl rfl rfl <| qA rfl rfl rfl <| qN <| mwp_ret ?_
       exact ret_tmpS (.inr rfl) Tryz.results44 rfl (.refl _) (.int _ _) (by simp) (hcl.set (rd_cl _ (_, none))) ⟨by rw [hE], by rw [hE]; rfl⟩
      ·
       have hlast : ¬ c.toNat < 128 := by simp at h62; omega
       refine mwp_skip <| qR rfl <| qM rfl rfl rfl <| qO rfl <| op_arith rfl rfl rfl rfl <| qA rfl rfl rfl <| qN ?_
       refine ⟨⟨n + c.toNat % 128 * 2 ^ (7 * i), i + 1⟩, by dsimp only; omega, ⟨by dsimp only; omega, hfit.2, by dsimp only; rw [← he, numScan, if_neg hcc, if_neg hlast]⟩, rfl, (.keep rfl (.nil)), (.eq rfl (rfl) (.eq rfl (int_succ hlt hlen') (.nil)))⟩
    ·
     have hi0 : i = 0 := by simp at h48; omega
     have hcc : ¬ (64 ≤ 7 * i ∨ 18446744073709551616 ≤ (c.toNat % 128) * 2 ^ (7 * i) ∨ (0 < i ∧ c = 0)) := by rintro (hq | hq | ⟨hq, hq2⟩) <;> omega
     have hm := c.toNat_lt
     have hfit := fit_or (m := c.toNat % 128) hnp (by omega) h64 hsm
     refine qS rfl <| qS rfl <| qP rfl rfl rfl rfl <| qP rfl rfl rfl rfl <| qN <| mwp_cond_f rfl (rfl) <| mwp_skip <| mwp_seq <| qR rfl <| qM rfl rfl rfl <| qM rfl rfl rfl <| qO rfl <| op_rem rfl rfl rfl (by decide) (rem128 c.toNat) ?_
     refine qM rfl rfl rfl <| qO rfl <| op_shl rfl rfl rfl (by omega) (shl_u64 h64 hsm) ?_
     refine qO rfl <| op_bits rfl rfl rfl (or_u64 hnp hfit.1) <| qA rfl rfl rfl <| qN <| mwp_seq <| qR rfl <| qM rfl rfl rfl <| qC rfl rfl rfl rfl rfl <| qN ?_
     refine mwp_cond_split rfl (fun h62 => ?_) (fun h62 => ?_)
     ·
      have hlast : c.toNat < 128 := by simp at h62; omega
      have hE : numM (b, none) = (n + c.toNat % 128 * 2 ^ (7 * i), (b.drop (i + 1), none)) := num_ok (he.symm.trans (by rw [numScan, if_neg hcc, if_pos hlast]))
      refine mwp_seq <| qR rfl <| qM rfl rfl rfl <| qM rfl rfl rfl <| qO rfl <| op_nilCheck rfl rfl rfl <| qF rfl rfl rfl fo64_0 <| qO rfl <| op_load_far rfl rfl h ta9 rfl <| qM rfl rfl rfl <| qO rfl <| op_arith rfl rfl rfl (wadd (a := i) (b := 1) rfl (by omega)) ?_
      refine qO rfl <| op_slice_str rfl Tryz.underlying9 rfl (.some rfl rfl) .none (by omega) (by omega) ?_
      rw [List.take_of_length_le (by simp : (b.drop (i + 1)).length ≤ b.length - (i + 1))]
      refine qO rfl <| op_nilCheck rfl rfl rfl <| qF rfl rfl rfl fo64_0 <| qO rfl <| op_store_far rfl rfl rfl h sz9 rfl rfl (Nat.le_of_ble_eq_true rfl) <| qN <| mwp_seq <| qR rfl <| qM rfl rfl rfl <| qA rfl rfl rfl <| qN <| mwp_ret ?_
      exact ret_tmpS (.inr rfl) Tryz.results44 rfl (.refl _) (.int _ _) (by simp) (hcl.set (rd_cl _ (_, none))) ⟨by rw [hE], by rw [hE]; rfl⟩
     ·
      have hlast : ¬ c.toNat < 128 := by simp at h62; omega
      refine mwp_skip <| qR rfl <| qM rfl rfl rfl <| qO rfl <| op_arith rfl rfl rfl rfl <| qA rfl rfl rfl <| qN ?_
      refine ⟨⟨n + c.toNat % 128 * 2 ^ (7 * i), i + 1⟩, by dsimp only; omega, ⟨by dsimp only; omega, hfit.2, by dsimp only; rw [← he, numScan, if_neg hcc, if_neg hlast]⟩, rfl, (.keep rfl (.nil)), (.eq rfl (rfl) (.eq rfl (int_succ hlt hlen') (.nil)))⟩
theorem num_err_spec (id : Nat) (b : Bs) (e : Int) (S : MS) (h : S[id]? = some (.cells [.str (bs b), .iface 45 (.int .i64 e)])) : MCalls Tryz.prog 44 [.ref id 0] S fun v σ' => v = .int .u64 0 ∧ σ' = S := by
 refine mcalls_body Tryz.func44 rfl Tryz.ntmps44 (Nat.le_of_ble_eq_true rfl) ?_
 refine mwp_facts fun _ hcl => ?_
 rw [List.append_nil] at hcl
 refine mwp_seq <| qR rfl <| qA rfl rfl rfl <| qN <| mwp_seq <| qR rfl <| qA rfl rfl rfl <| qN <| mwp_seq <| mwp_seq <| qR rfl <| qA rfl rfl rfl <| qN <| mwp_block ?_
 refine mwp_loopK (α := Nat) [(0, _)] (fun x => [(3, .int .u64 (0 : Int)), (4, .int .i64 (0 : Int))]) (fun x => []) (fun x => True) (fun x => x) (0) (.keep rfl (.nil)) (.keep rfl (.keep rfl (.nil))) (trivial) (rfl) ?_
 rintro i _
 refine mwp_seq <| mwp_seq <| qR rfl <| qM rfl rfl rfl <| qO rfl <| op_nilCheck rfl rfl rfl <| qF rfl rfl rfl fo64_1 <| qO rfl <| op_load_far rfl rfl h ta37 rfl <| qO rfl <| op_ifnil rfl Tryz.underlying37 rfl rfl (.inl ⟨rfl, rfl⟩) <| qN <| mwp_cond_f rfl (rfl) <| mwp_exit <| mwp_seq <| qR rfl <| qA rfl rfl rfl <| qN <| mwp_ret ?_
 exact ret_tmpS (.inr rfl) Tryz.results44 rfl (.refl _) (.int _ _) (by simp) hcl ⟨rfl, rfl⟩
theorem num_reads (id : Nat) : Reads 44 [.ref id 0] id (fun n : Nat => .int .u64 (n : Int)) numM := by
 rintro ⟨b, e⟩ S h hl
 cases e with
 | none => exact num_ok_spec id b S h hl
 | some e =>
  refine (num_err_spec id b e S h).mono fun v σ' hv => ⟨hv.1, ?_⟩
  rw [hv.2, num_err, set_self_rd h]
theorem scan_len : ∀ (b : Bs) (n i : Nat) {v : Nat} {l : Bs}, numScan n i b = .ok (v, l) → l.length ≤ b.length ∧ v < n + 2 ^ 64
 | [], n, i, v, l, h => by simp [numScan] at h
 | c :: b, n, i, v, l, h => by
  obtain ⟨m, e1, e2, e3, _⟩ := scan_one _ _ _ _ _ h
  have := congrArg List.length e2
  simp only [List.length_append] at this
  exact ⟨by omega, by omega⟩
theorem numM_len (r : RdS) : (numM r).2.1.length ≤ r.1.length ∧ (numM r).1 < 18446744073709551616 := by
 obtain ⟨b, e⟩ := r
 cases e with
 | some e => simp [num_err]
 | none =>
  cases hs : numScan 0 0 b with
  | error e => rw [num_bad hs]; simp
  | ok x =>
   obtain ⟨v, l⟩ := x
   have := scan_len b 0 0 hs
   rw [num_ok hs]
   exact ⟨this.1, by simpa using this.2⟩
theorem textM_len (r : RdS) : (textM r).2.1.length ≤ r.1.length := by
 have h := (numM_len r).1
 unfold textM
 split
 ·exact h
 ·split
  ·exact h
  ·split
   ·exact h
   ·simp only [List.length_drop]; omega
theorem text_walk (id : Nat) (r : RdS) (S : MS) (h : S[id]? = some (rdO r)) (hlen : r.1.length ≤ 1000000) : MCalls Tryz.prog 46 [.ref id 0] S fun v σ' => v = .str (bs (textM r).1) ∧ σ' = S.set id (rdO (textM r).2) := by
 refine mcalls_body Tryz.func46 rfl Tryz.ntmps46 (Nat.le_of_ble_eq_true rfl) ?_
 refine mwp_facts fun _ hcl => ?_
 rw [List.append_nil] at hcl
 refine mwp_seq <| qR rfl <| qA rfl rfl rfl <| qN <| mwp_seq <| qR rfl <| qM rfl rfl rfl ?_
 refine wOps_op rfl (op_call rfl rfl rfl co44 (((num_reads id).sl h hlen).mono ?_))
 rintro _ _ ⟨rfl, rfl⟩
 refine qA rfl rfl rfl <| qN <| mwp_seq <| mwp_block <| mwp_seq ?_
 have hg : (S.set id (rdO (numM r).2))[id]? = some (rdO (numM r).2) := get_set h
 have hnl := numM_len r
 generalize hn : numM r = q at hg hnl ⊢
 obtain ⟨n, b, e⟩ := q
 dsimp only at hg hnl ⊢
 rcases e with _ | e
 ·
  replace hg : (S.set id (rdO (b, none)))[id]? = some (.cells [.str (bs b), .iface0]) := hg
  refine qR rfl <| qM rfl rfl rfl <| qO rfl <| op_nilCheck rfl rfl rfl <| qF rfl rfl rfl fo64_1 <| qO rfl <| op_load_far rfl rfl hg ta37 rfl <| qO rfl <| op_if0 rfl Tryz.underlying37 rfl rfl (.inr ⟨rfl, rfl⟩) <| qA rfl rfl rfl <| qN <| mwp_cond_f rfl (rfl) <| mwp_seq <| qR rfl <| qM rfl rfl rfl <| qC rfl rfl rfl rfl rfl <| qA rfl rfl rfl <| qN ?_
  refine mwp_cond_split rfl (fun h13 => ?_) (fun h13 => ?_)
  ·
   have h16 : 16 < n := by simp at h13; omega
   refine mwp_seq <| qR rfl <| qM rfl rfl rfl ?_
   refine wOps_op rfl (op_call rfl rfl rfl co26 ((fails_spec id (b, none) _ [] hg _).mono ?_))
   rintro _ _ ⟨rfl, rfl⟩
   refine qN <| mwp_seq <| qR rfl <| qA rfl rfl rfl <| qN <| mwp_ret ?_
   have hT : textM r = ([], (b, some 13)) := by simp [textM, hn, h16, fail_ok]
   exact ret_tmpS (.inr rfl) Tryz.results46 rfl (.refl _) (.str _) (by simp) ((hcl.set (rd_cl _ _)).set (rd_cl _ _)) ⟨by rw [hT]; try rfl, by rw [hT, set_set]; try rfl⟩
  ·
   have h16 : ¬ 16 < n := by simp at h13; omega
   refine mwp_seq <| qR rfl <| qM rfl rfl rfl <| qM rfl rfl rfl <| qO rfl <| op_nilCheck rfl rfl rfl <| qF rfl rfl rfl fo64_0 <| qO rfl <| op_load_far rfl rfl hg ta9 rfl <| qO rfl <| op_len_bs rfl Tryz.underlying9 rfl <| qO rfl <| op_convInt rfl Tryz.underlying3 Tryz.underlying25 rfl (wrap_u64 (by omega)) ?_
   refine qC rfl rfl rfl rfl rfl <| qA rfl rfl rfl <| qN ?_
   refine mwp_cond_split rfl (fun h18 => ?_) (fun h18 => ?_)
   ·
    have hlt : b.length < n := by simp at h18; omega
    refine mwp_seq <| qR rfl <| qM rfl rfl rfl ?_
    refine wOps_op rfl (op_call rfl rfl rfl co26 ((fails_spec id (b, none) _ [] hg _).mono ?_))
    rintro _ _ ⟨rfl, rfl⟩
    refine qN <| mwp_seq <| qR rfl <| qA rfl rfl rfl <| qN <| mwp_ret ?_
    have hT : textM r = ([], (b, some 11)) := by simp [textM, hn, h16, hlt, fail_ok]
    exact ret_tmpS (.inr rfl) Tryz.results46 rfl (.refl _) (.str _) (by simp) ((hcl.set (rd_cl _ _)).set (rd_cl _ _)) ⟨by rw [hT]; try rfl, by rw [hT, set_set]; try rfl⟩
   ·
    have hlt : ¬ b.length < n := by simp at h18; omega
    refine mwp_skip <| mwp_seq <| qR rfl <| qM rfl rfl rfl <| qO rfl <| op_nilCheck rfl rfl rfl <| qF rfl rfl rfl fo64_0 <| qO rfl <| op_load_far rfl rfl hg ta9 rfl <| qM rfl rfl rfl <| qO rfl <| op_slice_str rfl Tryz.underlying9 rfl .none (.some rfl rfl) (by omega) (by omega) ?_
    rw [List.drop_zero, Nat.sub_zero]
    refine qA rfl rfl rfl <| qN <| mwp_seq <| qR rfl <| qM rfl rfl rfl <| qM rfl rfl rfl <| qO rfl <| op_nilCheck rfl rfl rfl <| qF rfl rfl rfl fo64_0 <| qO rfl <| op_load_far rfl rfl hg ta9 rfl <| qM rfl rfl rfl <| qO rfl <| op_slice_str rfl Tryz.underlying9 rfl (.some rfl rfl) .none (by omega) (by omega) ?_
    rw [List.take_of_length_le (by simp : (b.drop n).length ≤ b.length - n)]
    refine qO rfl <| op_nilCheck rfl rfl rfl <| qF rfl rfl rfl fo64_0 <| qO rfl <| op_store_far rfl rfl rfl hg sz9 rfl rfl (Nat.le_of_ble_eq_true rfl) <| qN <| mwp_seq <| qR rfl <| qM rfl rfl rfl <| qA rfl rfl rfl <| qN <| mwp_ret ?_
    have hT : textM r = (b.take n, (b.drop n, none)) := by simp [textM, hn, h16, hlt]
    exact ret_tmpS (.inr rfl) Tryz.results46 rfl (.refl _) (.str _) (by simp) ((hcl.set (rd_cl _ _)).set (rd_cl _ (_, none))) ⟨by rw [hT]; try rfl, by rw [hT, set_set]; try rfl⟩
 ·
  replace hg : (S.set id (rdO (b, some e)))[id]? = some (.cells [.str (bs b), .iface 45 (.int .i64 e)]) := hg
  refine qR rfl <| qM rfl rfl rfl <| qO rfl <| op_nilCheck rfl rfl rfl <| qF rfl rfl rfl fo64_1 <| qO rfl <| op_load_far rfl rfl hg ta37 rfl <| qO rfl <| op_ifnil rfl Tryz.underlying37 rfl rfl (.inr ⟨rfl, rfl⟩) <| qA rfl rfl rfl <| qN <| mwp_cond_t rfl (rfl) <| mwp_seq <| qR rfl <| qA rfl rfl rfl <| qN <| mwp_ret ?_
  have hT : textM r = ([], (b, some e)) := by simp [textM, hn]
  exact ret_tmpS (.inr rfl) Tryz.results46 rfl (.refl _) (.str _) (by simp) (hcl.set (rd_cl _ _)) ⟨by rw [hT]; try rfl, by rw [hT]⟩
theorem text_reads (id : Nat) : Reads 46 [.ref id 0] id (fun s : Bs => .str (bs s)) textM := fun r S h hl => text_walk id r S h hl
end Go.Proofs.YthkikhggmbiffaaGreat
end
section
set_option linter.unusedVariables false
set_option linter.unusedSimpArgs false
set_option maxHeartbeats 1000000
set_option maxRecDepth 20000
namespace Go.Proofs.YthkikhggmbiffaaGreat
open Go Go.MV Go.RowKit Go.Extern.Stop Go.Extern
theorem tT (v : Value) (w : World) : (Extern.ReflectliteType.typeOf #[.iface 45 v]).run Tryz.prog w = .ok (.iface 91 (.agg #[.pointer (some ⟨Tryz.prog.globals.size, 45, none⟩)])) w := by kernel_rfl
theorem cT (w : World) : ((Extern.ReflectliteType.method fun t => do Extern.Rtype.noPackHeld "Comparable" t; pure (.bool (← typeInfo t).comparable)) #[.agg #[.pointer (some ⟨Tryz.prog.globals.size, 45, none⟩)]]).run Tryz.prog w = .ok (.bool true) w := by kernel_rfl
theorem mR (v : Value) (w : World) : (Go.method 270 91 v "Comparable").run Tryz.prog w = .ok (129, v) w := by kernel_rfl
theorem errComp : (Tryz.prog.info? 45).map (·.comparable) = some true := by kernel_rfl
theorem eqErr (n : Int) (w : World) : (binOp .eql 37 (.iface 45 (.int .i64 n)) (.iface 45 (.int .i64 n))).run Tryz.prog w = .ok (.bool true) w := by
  obtain ⟨i, hi, hcmp⟩ := Option.map_eq_some_iff.1 errComp
  have h : ∀ d : Nat, (Op.equalIn (d + 2) 37 (.iface 45 (.int .i64 n)) (.iface 45 (.int .i64 n))).run Tryz.prog w = .ok true w := fun d => by
    simp [Op.equalIn, run_underlying Tryz.underlying37, run_underlying Tryz.underlying45, typeInfo, hi, hcmp]
  simp only [binOp]
  simp [Op.equal, Op.maxDepth, h 9998]
theorem nilErr (v : Value) (w : World) : (binOp .eql 37 (.iface 45 v) .nilIface).run Tryz.prog w = .ok (.bool false) w := by
  have h : ∀ d : Nat, (Op.equalIn (d + 1) 37 (.iface 45 v) .nilIface).run Tryz.prog w = .ok false w := fun d => by simp [Op.equalIn, run_underlying Tryz.underlying37]
  simp only [binOp]
  simp [Op.equal, Op.maxDepth, h 9999]
theorem isSame (n : Int) (w : World) : Calls Tryz.prog 13 #[.iface 45 (.int .i64 n), .iface 45 (.int .i64 n)] w fun e w' => e = .returned (.bool true) ∧ w' = w := by
  have h8 := @run_callFunc_extern Tryz.prog 30 _ Extern.ReflectliteType.typeOf Tryz.func30 (by kernel_rfl) (by kernel_rfl) (by kernel_rfl) (by kernel_rfl)
  have h32 := @run_callFunc_extern Tryz.prog 129 _ (Extern.ReflectliteType.method fun t => do Extern.Rtype.noPackHeld "Comparable" t; pure (.bool (← typeInfo t).comparable)) Tryz.func129 (by kernel_rfl) (by kernel_rfl) (by kernel_rfl) (by kernel_rfl)
  obtain ⟨H, hT, hC⟩ : ∃ H : Value, (∀ (v : Value) (w : World), (callFunc 30 #[.iface 45 v]).run Tryz.prog w = .ok (.value (.iface 91 H)) w) ∧ (∀ w : World, (callFunc 129 #[H]).run Tryz.prog w = .ok (.value (.bool true)) w) := ⟨_, fun v w => by rw [h8, tT]; rfl, fun w => by rw [h32, cT]; rfl⟩
  clear h8 h32
  have mR := mR
  have heq := eqErr n w
  have hnil := nilErr (.int .i64 n) w
  go_enter Tryz.func13, Tryz.ntmps13
  go_wp2
  refine wp_loop_rounds 1 ?_
  rw [rounds_succ]
  go_wp2
  go_ret
  exact ⟨rfl, rfl⟩
theorem errIs_spec (n : Int) (S : MS) : MCalls Tryz.prog 13 [.iface 45 (.int .i64 n), .iface 45 (.int .i64 n)] S fun v σ' => v = .bool true ∧ σ' = S := by
  intro g w vs hrel hrd
  obtain ⟨u, us, rfl, h1, h2⟩ := hrd.uncons
  obtain ⟨u2, us2, rfl, h3, h4⟩ := h2.uncons
  obtain ⟨a, rfl, ha⟩ := h1.inv_iface
  obtain ⟨b, rfl, hb⟩ := h3.inv_iface
  have e1 := ha.inv_int
  have e2 := hb.inv_int
  have e3 : us2 = [] := List.eq_nil_of_length_eq_zero h4.1
  subst e1 e2 e3
  refine (callsIn_wide.2 (isSame n w)).mono ?_
  rintro e w' ⟨rfl, rfl⟩
  exact ⟨_, rfl, .bool true, S, g, ⟨rfl, rfl⟩, hrel, .bool _, .refl _ _⟩
end Go.Proofs.YthkikhggmbiffaaGreat
end
section
set_option linter.unusedVariables false
set_option linter.unusedSimpArgs false
set_option maxHeartbeats 1000000
set_option maxRecDepth 20000
namespace Go.Proofs.YthkikhggmbiffaaGreat
open Go Go.MV Go.RowKit Go.Extern.Stop Go.Extern
theorem nilErr2 (v : Value) (w : World) : (binOp .eql 37 .nilIface (.iface 45 v)).run Tryz.prog w = .ok (.bool false) w := by
  have h : ∀ d : Nat, (Op.equalIn (d + 1) 37 .nilIface (.iface 45 v)).run Tryz.prog w = .ok false w := fun d => by simp [Op.equalIn, run_underlying Tryz.underlying37]
  simp only [binOp]
  simp [Op.equal, Op.maxDepth, h 9999]
theorem nilNil (w : World) : (binOp .eql 37 .nilIface .nilIface).run Tryz.prog w = .ok (.bool true) w := by
  have h : ∀ d : Nat, (Op.equalIn (d + 1) 37 .nilIface .nilIface).run Tryz.prog w = .ok true w := fun d => by simp [Op.equalIn, run_underlying Tryz.underlying37]
  simp only [binOp]
  simp [Op.equal, Op.maxDepth, h 9999]
theorem isNone (m : Int) (w : World) : Calls Tryz.prog 13 #[.nilIface, .iface 45 (.int .i64 m)] w fun e w' => e = .returned (.bool false) ∧ w' = w := by
  have h1 := nilNil w
  have h2 := nilErr2 (.int .i64 m) w
  go_enter Tryz.func13, Tryz.ntmps13
  go_wp2
  go_ret
  exact ⟨rfl, rfl⟩
end Go.Proofs.YthkikhggmbiffaaGreat
end
section
set_option linter.unusedVariables false
set_option linter.unusedSimpArgs false
set_option maxRecDepth 20000
set_option maxHeartbeats 400000
namespace Go.Proofs.YthkikhggmbiffaaGreat
open Go Go.MV Go.RowKit
structure RdT {γ : Type} (id l : Nat) (T : RdS → γ → MS) : Prop where
 get : ∀ r c, (T r c)[id]? = some (rdO r)
 set : ∀ r r' c, (T r c).set id (rdO r') = T r' c
 len : ∀ r c, (T r c).length = l
 cls : ∀ r c, ClS (T r c)
def rowGoC {α γ : Type} (f : RdS → γ → α × RdS × γ) : Nat → List α → RdS → γ → List α × RdS × γ
 | 0, acc, r, c => (acc, r, c)
 | k + 1, acc, r, c => if r.2.isSome then ([], r, c) else rowGoC f k (acc ++ [(f r c).1]) (f r c).2.1 (f r c).2.2
def rowStart (r : RdS) : RdS := if 40 < (numM r).1 then failR 13 (numM r).2 else (numM r).2
def rowC {α γ : Type} (f : RdS → γ → α × RdS × γ) (r : RdS) (c : γ) : List α × RdS × γ := rowGoC f (numM r).1 [] (rowStart r) c
def OneOk {α γ : Type} (I : Nat → γ → Prop) (kc : FuncId) (fi ca : List MV) (en : α → MV) (T : RdS → γ → MS) (f : RdS → γ → α × RdS × γ) : Prop := ∀ j r c L, j < 40 → I j c → r.1.length ≤ 1000000 → r.2 = none → MCalls Tryz.prog kc (fi ++ [] ++ ca) (T r c ++ L) fun v σ' => v = en (f r c).1 ∧ σ' = T (f r c).2.1 (f r c).2.2 ++ L
theorem rowStart_len (r : RdS) : (rowStart r).1.length ≤ r.1.length := by
 have := (numM_len r).1
 unfold rowStart
 split <;> exact this
theorem get_lastO {A : MS} {l : Nat} {o : MObj} (h : A.length = l) : (A ++ [o])[l]? = some o := by subst h; simp
theorem set_lastO {A : MS} {l : Nat} {o p : MObj} (h : A.length = l) : (A ++ [o]).set l p = A ++ [p] := by subst h; simp
theorem add_u64 {k : Nat} (h : k + 1 < 18446744073709551616) : intArith .add .u64 (k : Int) 1 = some ((k + 1 : Nat) : Int) := by
 show some (IntKind.u64.wrap ((k : Int) + 1)) = _
 rw [wrap_u64 (by omega)]
 rfl
theorem cl_encT' (n : Nat) (t : Tk) : Cl n (encT t) := .agg _ fun x hx => by
 rcases List.mem_cons.1 hx with rfl | hx
 ·exact .int _ _
 ·rcases List.mem_cons.1 hx with rfl | hx
  ·exact .int _ _
  ·cases hx
theorem cl_encX' (n : Nat) (s : Bs) : Cl n (encX s) := .str _
theorem encX_one' (s : Bs) : encX s = .agg (encX s).cells ∨ [encX s] = (encX s).cells := .inr rfl
theorem encT_one' (t : Tk) : encT t = .agg (encT t).cells ∨ [encT t] = (encT t).cells := .inl rfl
theorem encV_one' (x : Val) : encV x = .agg (encV x).cells ∨ [encV x] = (encV x).cells := by cases x; exact .inl rfl
theorem own_getS {S S1 L : MS} {k : Nat} (h : S1.length = S.length) : (S1 ++ L)[S.length + k]? = L[k]? := by rw [← h, getElem?_own]
theorem own_setS {S S1 L : MS} {k : Nat} {o : MObj} (h : S1.length = S.length) : (S1 ++ L).set (S.length + k) o = S1 ++ L.set k o := by rw [← h, set_own]
theorem ret_cellS {P : Program} {fn : Func} {S S' L : MS} {R : MV → MS → Prop} {env : Env} {e : Exit} {a t k off : Nat} {l : List MV} {ta : Option Nat} {x y : MV} (hlen : S'.length = S.length) (he : e = .normal ∨ e = .ret) (hres : fn.results = #[.cell a t]) (ha : get env a = some (.ref (S.length + k) off)) (hl : L[k]? = some (.cells l)) (ht : tyAgg P t = some ta) (hm : loadMV ta l off = some x) (hs : Sub x y) (hc : Cl S'.length y) (hS : ClS S') (hR : R y S') : BodyQ P fn S R e env (S' ++ L) := by
 refine ⟨he, [x], y, S', L, ?_, hs, hc, rfl, by omega, .inr hS, hR⟩
 rw [hres]
 exact .cell ha (by rw [own_getS hlen]; exact hl) ht hm .nil
theorem rowX_spec {γ : Type} {id l : Nat} {T : RdS → γ → MS} (hT : RdT id l T) {kc : FuncId} (hco : CallOk Tryz.prog kc) {fi ca : List MV} {f : RdS → γ → Bs × RdS × γ} {I : Nat → γ → Prop} {c0 : γ} (hI0 : I 0 c0) (hIs : ∀ j r c, I j c → I (j + 1) (f r c).2.2) (hone : OneOk I kc fi ca encX T f) (hfl : ∀ r c, (f r c).2.1.1.length ≤ r.1.length) (r0 : RdS) (hlen : r0.1.length ≤ 1000000) : MCalls Tryz.prog 45 [.ref id 0, .fn (.func kc) fi ca] (T r0 c0) fun v σ' => v = .lst none 1 ((rowC f r0 c0).1.map encX) ∧ σ' = T (rowC f r0 c0).2.1 (rowC f r0 c0).2.2 := by
 have hnl := numM_len r0
 refine mcalls_body Tryz.func45 rfl Tryz.ntmps45 (Nat.le_of_ble_eq_true rfl) ?_
 refine mwp_seq <| qR rfl <| qA rfl rfl rfl <| qN <| mwp_seq <| qR rfl <| qM rfl rfl rfl ?_
 refine wOps_op rfl (op_call rfl rfl rfl co44 (((num_reads id).sl (hT.get r0 c0) hlen).mono ?_))
 rintro _ _ ⟨rfl, rfl⟩
 rw [hT.set]
 refine qA rfl rfl rfl <| qN <| mwp_seq <| mwp_seq <| qR rfl <| qM rfl rfl rfl <| qC rfl rfl rfl rfl rfl <| qN ?_
 refine mwp_cond_split rfl (fun h10 => ?_) (fun h10 => ?_)
 ·
  have hstart : rowStart r0 = failR 13 (numM r0).2 := if_pos (by simp at h10; omega)
  refine qR rfl <| qM rfl rfl rfl ?_
  refine wOps_op rfl (op_call rfl rfl rfl co26 ((fails_spec id (numM r0).2 (T (numM r0).2 c0) [] (hT.get _ _) _).mono ?_))
  rintro _ _ ⟨rfl, rfl⟩
  rw [hT.set]
  refine qN <| mwp_seq <| qR rfl <| qA rfl rfl rfl <| qN <| mwp_seq <| mwp_seq ?_
  rw [show T _ c0 ++ [] = T (rowStart r0) c0 ++ [] by rw [hstart]]
  refine qR rfl <| qM rfl rfl rfl <| qM rfl rfl rfl <| qN <| mwp_block <| mwp_row0 6 9 1 rfl (by rw [hT.len, hT.len]; exact Nat.le_refl _) rfl rfl ?_
  show mwp _ _ _ _ _ _ _ (([] : MS) ++ (T (rowStart r0) c0 ++ [.row 9 1 0]))
  refine mwp_loopK (α := Nat × List (Bs) × RdS × γ) [(0, _), (1, _), (13, _)] (fun x => [(6, .lst (some l) 1 (x.2.1.map encX)), (14, .int .u64 (x.1 : Int))]) (fun x => (T x.2.2.1 x.2.2.2 ++ [.row 9 1 x.2.1.length])) (fun x => x.1 ≤ (numM r0).1 ∧ x.2.1.length = x.1 ∧ ((numM r0).1 ≤ 40 ∨ x.2.2.1.2.isSome = true) ∧ x.2.2.1.1.length ≤ 1000000 ∧ I x.1 x.2.2.2 ∧ rowGoC f ((numM r0).1 - x.1) x.2.1 x.2.2.1 x.2.2.2 = rowC f r0 c0) (fun x => (numM r0).1 - x.1) (⟨0, [], rowStart r0, c0⟩) (.keep rfl (.keep rfl (.keep rfl (.nil)))) (.eq rfl (by rw [hT.len]; rfl) (.keep rfl (.nil))) (⟨by simp, rfl, by unfold rowStart; split; exact .inr (by simp [failR]; cases (numM r0).2.2 <;> rfl); exact .inl (by omega), by have := rowStart_len r0; dsimp only; omega, hI0, rfl⟩) (rfl) ?_
  rintro ⟨k, acc, ⟨b, e⟩, c⟩ ⟨hk, hal, h40, hbl, hi, he⟩
  dsimp only at hk hal h40 hbl hi he ⊢
  have hg := get_sl (L := [MObj.row 9 1 acc.length]) (hT.get (b, e) c)
  refine mwp_seq <| qR rfl <| qC rfl rfl rfl rfl rfl <| qN <| mwp_seq ?_
  refine mwp_cond_split rfl (fun h15 => ?_) (fun h15 => ?_)
  ·
   have hlt : k < (numM r0).1 := by simp at h15; omega
   refine mwp_skip <| mwp_seq <| mwp_block <| mwp_seq <| mwp_seq ?_
   rcases e with _ | e
   ·
    have h40' : (numM r0).1 ≤ 40 := by rcases h40 with h | h; exact h; cases h
    replace hg : (T (b, none) c ++ [MObj.row 9 1 acc.length])[id]? = some (.cells [.str (bs b), .iface0]) := hg
    refine qR rfl <| qM rfl rfl rfl <| qO rfl <| op_nilCheck rfl rfl rfl <| qF rfl rfl rfl fo64_1 <| qO rfl <| op_load_ref rfl rfl hg ta37 rfl <| qO rfl <| op_if0 rfl Tryz.underlying37 rfl rfl (.inr ⟨rfl, rfl⟩) <| qN <| mwp_cond_f rfl (rfl) <| mwp_skip <| qR rfl <| qM rfl rfl rfl <| qM rfl rfl rfl ?_
    refine wOps_op rfl (op_call rfl rfl rfl hco ((hone k (b, none) c _ (by omega) hi hbl rfl).mono ?_))
    rintro _ _ ⟨rfl, rfl⟩
    refine qO rfl <| op_buildSlice rfl Tryz.underlying26 el9 rfl rfl (by decide) (by decide) rfl rfl ?_
    refine qO rfl <| op_append rfl Tryz.underlying26 el9 rfl rfl (get_lastO (hT.len _ _)) (by simp) (by simp; omega) (by simp; omega) ?_
    rw [set_lastO (hT.len _ _)]
    refine qA rfl rfl rfl <| qN <| qR rfl <| qO rfl <| op_arith rfl rfl rfl (add_u64 (by omega)) ?_
    refine qM rfl rfl rfl <| qN ?_
    refine ⟨⟨k + 1, acc ++ [(f (b, none) c).1], (f (b, none) c).2.1, (f (b, none) c).2.2⟩, by dsimp only; omega, ⟨by dsimp only; omega, by simp [hal], .inl h40', by dsimp only; have := hfl (b, none) c; dsimp only at this; omega, hIs _ _ _ hi, by dsimp only; rw [← he, show (numM r0).1 - k = ((numM r0).1 - (k + 1)) + 1 by omega, rowGoC, if_neg (by simp)]⟩, by rw [List.length_append]; rfl, (.keep rfl (.keep rfl (.keep rfl (.nil)))), (.eq rfl (by rw [List.map_append]; rfl) (.eq rfl (rfl) (.nil)))⟩
   ·
    replace hg : (T (b, some e) c ++ [MObj.row 9 1 acc.length])[id]? = some (.cells [.str (bs b), .iface 45 (.int .i64 e)]) := hg
    have hE : rowC f r0 c0 = ([], (b, some e), c) := by rw [← he, show (numM r0).1 - k = ((numM r0).1 - (k + 1)) + 1 by omega, rowGoC]; exact if_pos rfl
    refine qR rfl <| qM rfl rfl rfl <| qO rfl <| op_nilCheck rfl rfl rfl <| qF rfl rfl rfl fo64_1 <| qO rfl <| op_load_ref rfl rfl hg ta37 rfl <| qO rfl <| op_ifnil rfl Tryz.underlying37 rfl rfl (.inr ⟨rfl, rfl⟩) <| qN <| mwp_cond_t rfl (rfl) <| mwp_seq <| qR rfl <| qA rfl rfl rfl <| qN <| mwp_ret ?_
    exact ret_tmpS (S' := T (b, some e) c) (.inr rfl) Tryz.results45 rfl (Sub.nil 1) (.lst _ _ _ (fun t ht => by cases ht) (fun y hy => by cases hy)) (by rw [hT.len, hT.len]; exact Nat.le_refl _) (hT.cls _ _) ⟨by rw [hE]; try rfl, by rw [hE]⟩
  ·
   have hge : k = (numM r0).1 := by simp at h15; omega
   have hE : rowC f r0 c0 = (acc, (b, e), c) := by rw [← he, hge, Nat.sub_self]; rfl
   refine mwp_exit <| mwp_seq <| qR rfl <| qM rfl rfl rfl <| qA rfl rfl rfl <| qN <| mwp_ret ?_
   exact ret_tmpS (S' := T (b, e) c) (.inr rfl) Tryz.results45 rfl (.view _ _ _) (cl_lst (cl_encX' _) (encX_one')) (by rw [hT.len, hT.len]; exact Nat.le_refl _) (hT.cls _ _) ⟨by rw [hE]; try rfl, by rw [hE]⟩
 ·
  have hstart : rowStart r0 = (numM r0).2 := if_neg (by simp at h10; omega)
  refine mwp_skip <| mwp_seq <| qR rfl <| qA rfl rfl rfl <| qN <| mwp_seq <| mwp_seq ?_
  rw [show T _ c0 ++ [] = T (rowStart r0) c0 ++ [] by rw [hstart]]
  refine qR rfl <| qM rfl rfl rfl <| qM rfl rfl rfl <| qN <| mwp_block <| mwp_row0 6 9 1 rfl (by rw [hT.len, hT.len]; exact Nat.le_refl _) rfl rfl ?_
  show mwp _ _ _ _ _ _ _ (([] : MS) ++ (T (rowStart r0) c0 ++ [.row 9 1 0]))
  refine mwp_loopK (α := Nat × List (Bs) × RdS × γ) [(0, _), (1, _), (13, _)] (fun x => [(6, .lst (some l) 1 (x.2.1.map encX)), (14, .int .u64 (x.1 : Int))]) (fun x => (T x.2.2.1 x.2.2.2 ++ [.row 9 1 x.2.1.length])) (fun x => x.1 ≤ (numM r0).1 ∧ x.2.1.length = x.1 ∧ ((numM r0).1 ≤ 40 ∨ x.2.2.1.2.isSome = true) ∧ x.2.2.1.1.length ≤ 1000000 ∧ I x.1 x.2.2.2 ∧ rowGoC f ((numM r0).1 - x.1) x.2.1 x.2.2.1 x.2.2.2 = rowC f r0 c0) (fun x => (numM r0).1 - x.1) (⟨0, [], rowStart r0, c0⟩) (.keep rfl (.keep rfl (.keep rfl (.nil)))) (.eq rfl (by rw [hT.len]; rfl) (.keep rfl (.nil))) (⟨by simp, rfl, by unfold rowStart; split; exact .inr (by simp [failR]; cases (numM r0).2.2 <;> rfl); exact .inl (by omega), by have := rowStart_len r0; dsimp only; omega, hI0, rfl⟩) (rfl) ?_
  rintro ⟨k, acc, ⟨b, e⟩, c⟩ ⟨hk, hal, h40, hbl, hi, he⟩
  dsimp only at hk hal h40 hbl hi he ⊢
  have hg := get_sl (L := [MObj.row 9 1 acc.length]) (hT.get (b, e) c)
  refine mwp_seq <| qR rfl <| qC rfl rfl rfl rfl rfl <| qN <| mwp_seq ?_
  refine mwp_cond_split rfl (fun h15 => ?_) (fun h15 => ?_)
  ·
   have hlt : k < (numM r0).1 := by simp at h15; omega
   refine mwp_skip <| mwp_seq <| mwp_block <| mwp_seq <| mwp_seq ?_
   rcases e with _ | e
   ·
    have h40' : (numM r0).1 ≤ 40 := by rcases h40 with h | h; exact h; cases h
    replace hg : (T (b, none) c ++ [MObj.row 9 1 acc.length])[id]? = some (.cells [.str (bs b), .iface0]) := hg
    refine qR rfl <| qM rfl rfl rfl <| qO rfl <| op_nilCheck rfl rfl rfl <| qF rfl rfl rfl fo64_1 <| qO rfl <| op_load_ref rfl rfl hg ta37 rfl <| qO rfl <| op_if0 rfl Tryz.underlying37 rfl rfl (.inr ⟨rfl, rfl⟩) <| qN <| mwp_cond_f rfl (rfl) <| mwp_skip <| qR rfl <| qM rfl rfl rfl <| qM rfl rfl rfl ?_
    refine wOps_op rfl (op_call rfl rfl rfl hco ((hone k (b, none) c _ (by omega) hi hbl rfl).mono ?_))
    rintro _ _ ⟨rfl, rfl⟩
    refine qO rfl <| op_buildSlice rfl Tryz.underlying26 el9 rfl rfl (by decide) (by decide) rfl rfl ?_
    refine qO rfl <| op_append rfl Tryz.underlying26 el9 rfl rfl (get_lastO (hT.len _ _)) (by simp) (by simp; omega) (by simp; omega) ?_
    rw [set_lastO (hT.len _ _)]
    refine qA rfl rfl rfl <| qN <| qR rfl <| qO rfl <| op_arith rfl rfl rfl (add_u64 (by omega)) ?_
    refine qM rfl rfl rfl <| qN ?_
    refine ⟨⟨k + 1, acc ++ [(f (b, none) c).1], (f (b, none) c).2.1, (f (b, none) c).2.2⟩, by dsimp only; omega, ⟨by dsimp only; omega, by simp [hal], .inl h40', by dsimp only; have := hfl (b, none) c; dsimp only at this; omega, hIs _ _ _ hi, by dsimp only; rw [← he, show (numM r0).1 - k = ((numM r0).1 - (k + 1)) + 1 by omega, rowGoC, if_neg (by simp)]⟩, by rw [List.length_append]; rfl, (.keep rfl (.keep rfl (.keep rfl (.nil)))), (.eq rfl (by rw [List.map_append]; rfl) (.eq rfl (rfl) (.nil)))⟩
   ·
    replace hg : (T (b, some e) c ++ [MObj.row 9 1 acc.length])[id]? = some (.cells [.str (bs b), .iface 45 (.int .i64 e)]) := hg
    have hE : rowC f r0 c0 = ([], (b, some e), c) := by rw [← he, show (numM r0).1 - k = ((numM r0).1 - (k + 1)) + 1 by omega, rowGoC]; exact if_pos rfl
    refine qR rfl <| qM rfl rfl rfl <| qO rfl <| op_nilCheck rfl rfl rfl <| qF rfl rfl rfl fo64_1 <| qO rfl <| op_load_ref rfl rfl hg ta37 rfl <| qO rfl <| op_ifnil rfl Tryz.underlying37 rfl rfl (.inr ⟨rfl, rfl⟩) <| qN <| mwp_cond_t rfl (rfl) <| mwp_seq <| qR rfl <| qA rfl rfl rfl <| qN <| mwp_ret ?_
    exact ret_tmpS (S' := T (b, some e) c) (.inr rfl) Tryz.results45 rfl (Sub.nil 1) (.lst _ _ _ (fun t ht => by cases ht) (fun y hy => by cases hy)) (by rw [hT.len, hT.len]; exact Nat.le_refl _) (hT.cls _ _) ⟨by rw [hE]; try rfl, by rw [hE]⟩
  ·
   have hge : k = (numM r0).1 := by simp at h15; omega
   have hE : rowC f r0 c0 = (acc, (b, e), c) := by rw [← he, hge, Nat.sub_self]; rfl
   refine mwp_exit <| mwp_seq <| qR rfl <| qM rfl rfl rfl <| qA rfl rfl rfl <| qN <| mwp_ret ?_
   exact ret_tmpS (S' := T (b, e) c) (.inr rfl) Tryz.results45 rfl (.view _ _ _) (cl_lst (cl_encX' _) (encX_one')) (by rw [hT.len, hT.len]; exact Nat.le_refl _) (hT.cls _ _) ⟨by rw [hE]; try rfl, by rw [hE]⟩
theorem rowT_spec {γ : Type} {id l : Nat} {T : RdS → γ → MS} (hT : RdT id l T) {kc : FuncId} (hco : CallOk Tryz.prog kc) {fi ca : List MV} {f : RdS → γ → Tk × RdS × γ} {I : Nat → γ → Prop} {c0 : γ} (hI0 : I 0 c0) (hIs : ∀ j r c, I j c → I (j + 1) (f r c).2.2) (hone : OneOk I kc fi ca encT T f) (hfl : ∀ r c, (f r c).2.1.1.length ≤ r.1.length) (r0 : RdS) (hlen : r0.1.length ≤ 1000000) : MCalls Tryz.prog 72 [.ref id 0, .fn (.func kc) fi ca] (T r0 c0) fun v σ' => v = .lst none 2 ((rowC f r0 c0).1.map encT) ∧ σ' = T (rowC f r0 c0).2.1 (rowC f r0 c0).2.2 := by
 have hnl := numM_len r0
 refine mcalls_body Tryz.func72 rfl Tryz.ntmps72 (Nat.le_of_ble_eq_true rfl) ?_
 refine mwp_seq <| qR rfl <| qA rfl rfl rfl <| qN <| mwp_seq <| qR rfl <| qM rfl rfl rfl ?_
 refine wOps_op rfl (op_call rfl rfl rfl co44 (((num_reads id).sl (hT.get r0 c0) hlen).mono ?_))
 rintro _ _ ⟨rfl, rfl⟩
 rw [hT.set]
 refine qA rfl rfl rfl <| qN <| mwp_seq <| mwp_seq <| qR rfl <| qM rfl rfl rfl <| qC rfl rfl rfl rfl rfl <| qN ?_
 refine mwp_cond_split rfl (fun h10 => ?_) (fun h10 => ?_)
 ·
  have hstart : rowStart r0 = failR 13 (numM r0).2 := if_pos (by simp at h10; omega)
  refine qR rfl <| qM rfl rfl rfl ?_
  refine wOps_op rfl (op_call rfl rfl rfl co26 ((fails_spec id (numM r0).2 (T (numM r0).2 c0) [] (hT.get _ _) _).mono ?_))
  rintro _ _ ⟨rfl, rfl⟩
  rw [hT.set]
  refine qN <| mwp_seq <| qR rfl <| qA rfl rfl rfl <| qN <| mwp_seq <| mwp_seq ?_
  rw [show T _ c0 ++ [] = T (rowStart r0) c0 ++ [] by rw [hstart]]
  refine qR rfl <| qM rfl rfl rfl <| qM rfl rfl rfl <| qN <| mwp_block <| mwp_row0 6 89 2 rfl (by rw [hT.len, hT.len]; exact Nat.le_refl _) rfl rfl ?_
  show mwp _ _ _ _ _ _ _ (([] : MS) ++ (T (rowStart r0) c0 ++ [.row 89 2 0]))
  refine mwp_loopK (α := Nat × List (Tk) × RdS × γ) [(0, _), (1, _), (13, _)] (fun x => [(6, .lst (some l) 2 (x.2.1.map encT)), (14, .int .u64 (x.1 : Int))]) (fun x => (T x.2.2.1 x.2.2.2 ++ [.row 89 2 x.2.1.length])) (fun x => x.1 ≤ (numM r0).1 ∧ x.2.1.length = x.1 ∧ ((numM r0).1 ≤ 40 ∨ x.2.2.1.2.isSome = true) ∧ x.2.2.1.1.length ≤ 1000000 ∧ I x.1 x.2.2.2 ∧ rowGoC f ((numM r0).1 - x.1) x.2.1 x.2.2.1 x.2.2.2 = rowC f r0 c0) (fun x => (numM r0).1 - x.1) (⟨0, [], rowStart r0, c0⟩) (.keep rfl (.keep rfl (.keep rfl (.nil)))) (.eq rfl (by rw [hT.len]; rfl) (.keep rfl (.nil))) (⟨by simp, rfl, by unfold rowStart; split; exact .inr (by simp [failR]; cases (numM r0).2.2 <;> rfl); exact .inl (by omega), by have := rowStart_len r0; dsimp only; omega, hI0, rfl⟩) (rfl) ?_
  rintro ⟨k, acc, ⟨b, e⟩, c⟩ ⟨hk, hal, h40, hbl, hi, he⟩
  dsimp only at hk hal h40 hbl hi he ⊢
  have hg := get_sl (L := [MObj.row 89 2 acc.length]) (hT.get (b, e) c)
  refine mwp_seq <| qR rfl <| qC rfl rfl rfl rfl rfl <| qN <| mwp_seq ?_
  refine mwp_cond_split rfl (fun h15 => ?_) (fun h15 => ?_)
  ·
   have hlt : k < (numM r0).1 := by simp at h15; omega
   refine mwp_skip <| mwp_seq <| mwp_block <| mwp_seq <| mwp_seq ?_
   rcases e with _ | e
   ·
    have h40' : (numM r0).1 ≤ 40 := by rcases h40 with h | h; exact h; cases h
    replace hg : (T (b, none) c ++ [MObj.row 89 2 acc.length])[id]? = some (.cells [.str (bs b), .iface0]) := hg
    refine qR rfl <| qM rfl rfl rfl <| qO rfl <| op_nilCheck rfl rfl rfl <| qF rfl rfl rfl fo64_1 <| qO rfl <| op_load_ref rfl rfl hg ta37 rfl <| qO rfl <| op_if0 rfl Tryz.underlying37 rfl rfl (.inr ⟨rfl, rfl⟩) <| qN <| mwp_cond_f rfl (rfl) <| mwp_skip <| qR rfl <| qM rfl rfl rfl <| qM rfl rfl rfl ?_
    refine wOps_op rfl (op_call rfl rfl rfl hco ((hone k (b, none) c _ (by omega) hi hbl rfl).mono ?_))
    rintro _ _ ⟨rfl, rfl⟩
    refine qO rfl <| op_buildSlice rfl Tryz.underlying70 el89 rfl rfl (by decide) (by decide) rfl rfl ?_
    refine qO rfl <| op_append rfl Tryz.underlying70 el89 rfl rfl (get_lastO (hT.len _ _)) (by simp) (by simp; omega) (by simp; omega) ?_
    rw [set_lastO (hT.len _ _)]
    refine qA rfl rfl rfl <| qN <| qR rfl <| qO rfl <| op_arith rfl rfl rfl (add_u64 (by omega)) ?_
    refine qM rfl rfl rfl <| qN ?_
    refine ⟨⟨k + 1, acc ++ [(f (b, none) c).1], (f (b, none) c).2.1, (f (b, none) c).2.2⟩, by dsimp only; omega, ⟨by dsimp only; omega, by simp [hal], .inl h40', by dsimp only; have := hfl (b, none) c; dsimp only at this; omega, hIs _ _ _ hi, by dsimp only; rw [← he, show (numM r0).1 - k = ((numM r0).1 - (k + 1)) + 1 by omega, rowGoC, if_neg (by simp)]⟩, by rw [List.length_append]; rfl, (.keep rfl (.keep rfl (.keep rfl (.nil)))), (.eq rfl (by rw [List.map_append]; rfl) (.eq rfl (rfl) (.nil)))⟩
   ·
    replace hg : (T (b, some e) c ++ [MObj.row 89 2 acc.length])[id]? = some (.cells [.str (bs b), .iface 45 (.int .i64 e)]) := hg
    have hE : rowC f r0 c0 = ([], (b, some e), c) := by rw [← he, show (numM r0).1 - k = ((numM r0).1 - (k + 1)) + 1 by omega, rowGoC]; exact if_pos rfl
    refine qR rfl <| qM rfl rfl rfl <| qO rfl <| op_nilCheck rfl rfl rfl <| qF rfl rfl rfl fo64_1 <| qO rfl <| op_load_ref rfl rfl hg ta37 rfl <| qO rfl <| op_ifnil rfl Tryz.underlying37 rfl rfl (.inr ⟨rfl, rfl⟩) <| qN <| mwp_cond_t rfl (rfl) <| mwp_seq <| qR rfl <| qA rfl rfl rfl <| qN <| mwp_ret ?_
    exact ret_tmpS (S' := T (b, some e) c) (.inr rfl) Tryz.results72 rfl (Sub.nil 2) (.lst _ _ _ (fun t ht => by cases ht) (fun y hy => by cases hy)) (by rw [hT.len, hT.len]; exact Nat.le_refl _) (hT.cls _ _) ⟨by rw [hE]; try rfl, by rw [hE]⟩
  ·
   have hge : k = (numM r0).1 := by simp at h15; omega
   have hE : rowC f r0 c0 = (acc, (b, e), c) := by rw [← he, hge, Nat.sub_self]; rfl
   refine mwp_exit <| mwp_seq <| qR rfl <| qM rfl rfl rfl <| qA rfl rfl rfl <| qN <| mwp_ret ?_
   exact ret_tmpS (S' := T (b, e) c) (.inr rfl) Tryz.results72 rfl (.view _ _ _) (cl_lst (cl_encT' _) (encT_one')) (by rw [hT.len, hT.len]; exact Nat.le_refl _) (hT.cls _ _) ⟨by rw [hE]; try rfl, by rw [hE]⟩
 ·
  have hstart : rowStart r0 = (numM r0).2 := if_neg (by simp at h10; omega)
  refine mwp_skip <| mwp_seq <| qR rfl <| qA rfl rfl rfl <| qN <| mwp_seq <| mwp_seq ?_
  rw [show T _ c0 ++ [] = T (rowStart r0) c0 ++ [] by rw [hstart]]
  refine qR rfl <| qM rfl rfl rfl <| qM rfl rfl rfl <| qN <| mwp_block <| mwp_row0 6 89 2 rfl (by rw [hT.len, hT.len]; exact Nat.le_refl _) rfl rfl ?_
  show mwp _ _ _ _ _ _ _ (([] : MS) ++ (T (rowStart r0) c0 ++ [.row 89 2 0]))
  refine mwp_loopK (α := Nat × List (Tk) × RdS × γ) [(0, _), (1, _), (13, _)] (fun x => [(6, .lst (some l) 2 (x.2.1.map encT)), (14, .int .u64 (x.1 : Int))]) (fun x => (T x.2.2.1 x.2.2.2 ++ [.row 89 2 x.2.1.length])) (fun x => x.1 ≤ (numM r0).1 ∧ x.2.1.length = x.1 ∧ ((numM r0).1 ≤ 40 ∨ x.2.2.1.2.isSome = true) ∧ x.2.2.1.1.length ≤ 1000000 ∧ I x.1 x.2.2.2 ∧ rowGoC f ((numM r0).1 - x.1) x.2.1 x.2.2.1 x.2.2.2 = rowC f r0 c0) (fun x => (numM r0).1 - x.1) (⟨0, [], rowStart r0, c0⟩) (.keep rfl (.keep rfl (.keep rfl (.nil)))) (.eq rfl (by rw [hT.len]; rfl) (.keep rfl (.nil))) (⟨by simp, rfl, by unfold rowStart; split; exact .inr (by simp [failR]; cases (numM r0).2.2 <;> rfl); exact .inl (by omega), by have := rowStart_len r0; dsimp only; omega, hI0, rfl⟩) (rfl) ?_
  rintro ⟨k, acc, ⟨b, e⟩, c⟩ ⟨hk, hal, h40, hbl, hi, he⟩
  dsimp only at hk hal h40 hbl hi he ⊢
  have hg := get_sl (L := [MObj.row 89 2 acc.length]) (hT.get (b, e) c)
  refine mwp_seq <| qR rfl <| qC rfl rfl rfl rfl rfl <| qN <| mwp_seq ?_
  refine mwp_cond_split rfl (fun h15 => ?_) (fun h15 => ?_)
  ·
   have hlt : k < (numM r0).1 := by simp at h15; omega
   refine mwp_skip <| mwp_seq <| mwp_block <| mwp_seq <| mwp_seq ?_
   rcases e with _ | e
   ·
    have h40' : (numM r0).1 ≤ 40 := by rcases h40 with h | h; exact h; cases h
    replace hg : (T (b, none) c ++ [MObj.row 89 2 acc.length])[id]? = some (.cells [.str (bs b), .iface0]) := hg
    refine qR rfl <| qM rfl rfl rfl <| qO rfl <| op_nilCheck rfl rfl rfl <| qF rfl rfl rfl fo64_1 <| qO rfl <| op_load_ref rfl rfl hg ta37 rfl <| qO rfl <| op_if0 rfl Tryz.underlying37 rfl rfl (.inr ⟨rfl, rfl⟩) <| qN <| mwp_cond_f rfl (rfl) <| mwp_skip <| qR rfl <| qM rfl rfl rfl <| qM rfl rfl rfl ?_
    refine wOps_op rfl (op_call rfl rfl rfl hco ((hone k (b, none) c _ (by omega) hi hbl rfl).mono ?_))
    rintro _ _ ⟨rfl, rfl⟩
    refine qO rfl <| op_buildSlice rfl Tryz.underlying70 el89 rfl rfl (by decide) (by decide) rfl rfl ?_
    refine qO rfl <| op_append rfl Tryz.underlying70 el89 rfl rfl (get_lastO (hT.len _ _)) (by simp) (by simp; omega) (by simp; omega) ?_
    rw [set_lastO (hT.len _ _)]
    refine qA rfl rfl rfl <| qN <| qR rfl <| qO rfl <| op_arith rfl rfl rfl (add_u64 (by omega)) ?_
    refine qM rfl rfl rfl <| qN ?_
    refine ⟨⟨k + 1, acc ++ [(f (b, none) c).1], (f (b, none) c).2.1, (f (b, none) c).2.2⟩, by dsimp only; omega, ⟨by dsimp only; omega, by simp [hal], .inl h40', by dsimp only; have := hfl (b, none) c; dsimp only at this; omega, hIs _ _ _ hi, by dsimp only; rw [← he, show (numM r0).1 - k = ((numM r0).1 - (k + 1)) + 1 by omega, rowGoC, if_neg (by simp)]⟩, by rw [List.length_append]; rfl, (.keep rfl (.keep rfl (.keep rfl (.nil)))), (.eq rfl (by rw [List.map_append]; rfl) (.eq rfl (rfl) (.nil)))⟩
   ·
    replace hg : (T (b, some e) c ++ [MObj.row 89 2 acc.length])[id]? = some (.cells [.str (bs b), .iface 45 (.int .i64 e)]) := hg
    have hE : rowC f r0 c0 = ([], (b, some e), c) := by rw [← he, show (numM r0).1 - k = ((numM r0).1 - (k + 1)) + 1 by omega, rowGoC]; exact if_pos rfl
    refine qR rfl <| qM rfl rfl rfl <| qO rfl <| op_nilCheck rfl rfl rfl <| qF rfl rfl rfl fo64_1 <| qO rfl <| op_load_ref rfl rfl hg ta37 rfl <| qO rfl <| op_ifnil rfl Tryz.underlying37 rfl rfl (.inr ⟨rfl, rfl⟩) <| qN <| mwp_cond_t rfl (rfl) <| mwp_seq <| qR rfl <| qA rfl rfl rfl <| qN <| mwp_ret ?_
    exact ret_tmpS (S' := T (b, some e) c) (.inr rfl) Tryz.results72 rfl (Sub.nil 2) (.lst _ _ _ (fun t ht => by cases ht) (fun y hy => by cases hy)) (by rw [hT.len, hT.len]; exact Nat.le_refl _) (hT.cls _ _) ⟨by rw [hE]; try rfl, by rw [hE]⟩
  ·
   have hge : k = (numM r0).1 := by simp at h15; omega
   have hE : rowC f r0 c0 = (acc, (b, e), c) := by rw [← he, hge, Nat.sub_self]; rfl
   refine mwp_exit <| mwp_seq <| qR rfl <| qM rfl rfl rfl <| qA rfl rfl rfl <| qN <| mwp_ret ?_
   exact ret_tmpS (S' := T (b, e) c) (.inr rfl) Tryz.results72 rfl (.view _ _ _) (cl_lst (cl_encT' _) (encT_one')) (by rw [hT.len, hT.len]; exact Nat.le_refl _) (hT.cls _ _) ⟨by rw [hE]; try rfl, by rw [hE]⟩
theorem rowV_spec {γ : Type} {id l : Nat} {T : RdS → γ → MS} (hT : RdT id l T) {kc : FuncId} (hco : CallOk Tryz.prog kc) {fi ca : List MV} {f : RdS → γ → Val × RdS × γ} {I : Nat → γ → Prop} {c0 : γ} (hI0 : I 0 c0) (hIs : ∀ j r c, I j c → I (j + 1) (f r c).2.2) (hone : OneOk I kc fi ca encV T f) (hfl : ∀ r c, (f r c).2.1.1.length ≤ r.1.length) (r0 : RdS) (hlen : r0.1.length ≤ 1000000) : MCalls Tryz.prog 47 [.ref id 0, .fn (.func kc) fi ca] (T r0 c0) fun v σ' => v = .lst none 5 ((rowC f r0 c0).1.map encV) ∧ σ' = T (rowC f r0 c0).2.1 (rowC f r0 c0).2.2 := by
 have hnl := numM_len r0
 refine mcalls_body Tryz.func47 rfl Tryz.ntmps47 (Nat.le_of_ble_eq_true rfl) ?_
 refine mwp_seq <| qR rfl <| qA rfl rfl rfl <| qN <| mwp_seq <| qR rfl <| qM rfl rfl rfl ?_
 refine wOps_op rfl (op_call rfl rfl rfl co44 (((num_reads id).sl (hT.get r0 c0) hlen).mono ?_))
 rintro _ _ ⟨rfl, rfl⟩
 rw [hT.set]
 refine qA rfl rfl rfl <| qN <| mwp_seq <| mwp_seq <| qR rfl <| qM rfl rfl rfl <| qC rfl rfl rfl rfl rfl <| qN ?_
 refine mwp_cond_split rfl (fun h10 => ?_) (fun h10 => ?_)
 ·
  have hstart : rowStart r0 = failR 13 (numM r0).2 := if_pos (by simp at h10; omega)
  refine qR rfl <| qM rfl rfl rfl ?_
  refine wOps_op rfl (op_call rfl rfl rfl co26 ((fails_spec id (numM r0).2 (T (numM r0).2 c0) [] (hT.get _ _) _).mono ?_))
  rintro _ _ ⟨rfl, rfl⟩
  rw [hT.set]
  refine qN <| mwp_seq <| qR rfl <| qA rfl rfl rfl <| qN <| mwp_seq <| mwp_seq ?_
  rw [show T _ c0 ++ [] = T (rowStart r0) c0 ++ [] by rw [hstart]]
  refine qR rfl <| qM rfl rfl rfl <| qM rfl rfl rfl <| qN <| mwp_block <| mwp_row0 6 30 5 rfl (by rw [hT.len, hT.len]; exact Nat.le_refl _) rfl rfl ?_
  show mwp _ _ _ _ _ _ _ (([] : MS) ++ (T (rowStart r0) c0 ++ [.row 30 5 0]))
  refine mwp_loopK (α := Nat × List (Val) × RdS × γ) [(0, _), (1, _), (13, _)] (fun x => [(6, .lst (some l) 5 (x.2.1.map encV)), (14, .int .u64 (x.1 : Int))]) (fun x => (T x.2.2.1 x.2.2.2 ++ [.row 30 5 x.2.1.length])) (fun x => x.1 ≤ (numM r0).1 ∧ x.2.1.length = x.1 ∧ ((numM r0).1 ≤ 40 ∨ x.2.2.1.2.isSome = true) ∧ x.2.2.1.1.length ≤ 1000000 ∧ I x.1 x.2.2.2 ∧ rowGoC f ((numM r0).1 - x.1) x.2.1 x.2.2.1 x.2.2.2 = rowC f r0 c0) (fun x => (numM r0).1 - x.1) (⟨0, [], rowStart r0, c0⟩) (.keep rfl (.keep rfl (.keep rfl (.nil)))) (.eq rfl (by rw [hT.len]; rfl) (.keep rfl (.nil))) (⟨by simp, rfl, by unfold rowStart; split; exact .inr (by simp [failR]; cases (numM r0).2.2 <;> rfl); exact .inl (by omega), by have := rowStart_len r0; dsimp only; omega, hI0, rfl⟩) (rfl) ?_
  rintro ⟨k, acc, ⟨b, e⟩, c⟩ ⟨hk, hal, h40, hbl, hi, he⟩
  dsimp only at hk hal h40 hbl hi he ⊢
  have hg := get_sl (L := [MObj.row 30 5 acc.length]) (hT.get (b, e) c)
  refine mwp_seq <| qR rfl <| qC rfl rfl rfl rfl rfl <| qN <| mwp_seq ?_
  refine mwp_cond_split rfl (fun h15 => ?_) (fun h15 => ?_)
  ·
   have hlt : k < (numM r0).1 := by simp at h15; omega
   refine mwp_skip <| mwp_seq <| mwp_block <| mwp_seq <| mwp_seq ?_
   rcases e with _ | e
   ·
    have h40' : (numM r0).1 ≤ 40 := by rcases h40 with h | h; exact h; cases h
    replace hg : (T (b, none) c ++ [MObj.row 30 5 acc.length])[id]? = some (.cells [.str (bs b), .iface0]) := hg
    refine qR rfl <| qM rfl rfl rfl <| qO rfl <| op_nilCheck rfl rfl rfl <| qF rfl rfl rfl fo64_1 <| qO rfl <| op_load_ref rfl rfl hg ta37 rfl <| qO rfl <| op_if0 rfl Tryz.underlying37 rfl rfl (.inr ⟨rfl, rfl⟩) <| qN <| mwp_cond_f rfl (rfl) <| mwp_skip <| qR rfl <| qM rfl rfl rfl <| qM rfl rfl rfl ?_
    refine wOps_op rfl (op_call rfl rfl rfl hco ((hone k (b, none) c _ (by omega) hi hbl rfl).mono ?_))
    rintro _ _ ⟨rfl, rfl⟩
    refine qO rfl <| op_buildSlice rfl Tryz.underlying28 el30 rfl rfl (by decide) (by decide) (by cases (f (b, none) c).1; rfl) (by cases (f (b, none) c).1; rfl) ?_
    refine qO rfl <| op_append rfl Tryz.underlying28 el30 rfl rfl (get_lastO (hT.len _ _)) (by simp) (by simp; omega) (by simp; omega) ?_
    rw [set_lastO (hT.len _ _)]
    refine qA rfl rfl rfl <| qN <| qR rfl <| qO rfl <| op_arith rfl rfl rfl (add_u64 (by omega)) ?_
    refine qM rfl rfl rfl <| qN ?_
    refine ⟨⟨k + 1, acc ++ [(f (b, none) c).1], (f (b, none) c).2.1, (f (b, none) c).2.2⟩, by dsimp only; omega, ⟨by dsimp only; omega, by simp [hal], .inl h40', by dsimp only; have := hfl (b, none) c; dsimp only at this; omega, hIs _ _ _ hi, by dsimp only; rw [← he, show (numM r0).1 - k = ((numM r0).1 - (k + 1)) + 1 by omega, rowGoC, if_neg (by simp)]⟩, by rw [List.length_append]; rfl, (.keep rfl (.keep rfl (.keep rfl (.nil)))), (.eq rfl (by rw [List.map_append]; rfl) (.eq rfl (rfl) (.nil)))⟩
   ·
    replace hg : (T (b, some e) c ++ [MObj.row 30 5 acc.length])[id]? = some (.cells [.str (bs b), .iface 45 (.int .i64 e)]) := hg
    have hE : rowC f r0 c0 = ([], (b, some e), c) := by rw [← he, show (numM r0).1 - k = ((numM r0).1 - (k + 1)) + 1 by omega, rowGoC]; exact if_pos rfl
    refine qR rfl <| qM rfl rfl rfl <| qO rfl <| op_nilCheck rfl rfl rfl <| qF rfl rfl rfl fo64_1 <| qO rfl <| op_load_ref rfl rfl hg ta37 rfl <| qO rfl <| op_ifnil rfl Tryz.underlying37 rfl rfl (.inr ⟨rfl, rfl⟩) <| qN <| mwp_cond_t rfl (rfl) <| mwp_seq <| qR rfl <| qA rfl rfl rfl <| qN <| mwp_ret ?_
    exact ret_tmpS (S' := T (b, some e) c) (.inr rfl) Tryz.results47 rfl (Sub.nil 5) (.lst _ _ _ (fun t ht => by cases ht) (fun y hy => by cases hy)) (by rw [hT.len, hT.len]; exact Nat.le_refl _) (hT.cls _ _) ⟨by rw [hE]; try rfl, by rw [hE]⟩
  ·
   have hge : k = (numM r0).1 := by simp at h15; omega
   have hE : rowC f r0 c0 = (acc, (b, e), c) := by rw [← he, hge, Nat.sub_self]; rfl
   refine mwp_exit <| mwp_seq <| qR rfl <| qM rfl rfl rfl <| qA rfl rfl rfl <| qN <| mwp_ret ?_
   exact ret_tmpS (S' := T (b, e) c) (.inr rfl) Tryz.results47 rfl (.view _ _ _) (cl_lst (cl_encV _) (encV_one')) (by rw [hT.len, hT.len]; exact Nat.le_refl _) (hT.cls _ _) ⟨by rw [hE]; try rfl, by rw [hE]⟩
 ·
  have hstart : rowStart r0 = (numM r0).2 := if_neg (by simp at h10; omega)
  refine mwp_skip <| mwp_seq <| qR rfl <| qA rfl rfl rfl <| qN <| mwp_seq <| mwp_seq ?_
  rw [show T _ c0 ++ [] = T (rowStart r0) c0 ++ [] by rw [hstart]]
  refine qR rfl <| qM rfl rfl rfl <| qM rfl rfl rfl <| qN <| mwp_block <| mwp_row0 6 30 5 rfl (by rw [hT.len, hT.len]; exact Nat.le_refl _) rfl rfl ?_
  show mwp _ _ _ _ _ _ _ (([] : MS) ++ (T (rowStart r0) c0 ++ [.row 30 5 0]))
  refine mwp_loopK (α := Nat × List (Val) × RdS × γ) [(0, _), (1, _), (13, _)] (fun x => [(6, .lst (some l) 5 (x.2.1.map encV)), (14, .int .u64 (x.1 : Int))]) (fun x => (T x.2.2.1 x.2.2.2 ++ [.row 30 5 x.2.1.length])) (fun x => x.1 ≤ (numM r0).1 ∧ x.2.1.length = x.1 ∧ ((numM r0).1 ≤ 40 ∨ x.2.2.1.2.isSome = true) ∧ x.2.2.1.1.length ≤ 1000000 ∧ I x.1 x.2.2.2 ∧ rowGoC f ((numM r0).1 - x.1) x.2.1 x.2.2.1 x.2.2.2 = rowC f r0 c0) (fun x => (numM r0).1 - x.1) (⟨0, [], rowStart r0, c0⟩) (.keep rfl (.keep rfl (.keep rfl (.nil)))) (.eq rfl (by rw [hT.len]; rfl) (.keep rfl (.nil))) (⟨by simp, rfl, by unfold rowStart; split; exact .inr (by simp [failR]; cases (numM r0).2.2 <;> rfl); exact .inl (by omega), by have := rowStart_len r0; dsimp only; omega, hI0, rfl⟩) (rfl) ?_
  rintro ⟨k, acc, ⟨b, e⟩, c⟩ ⟨hk, hal, h40, hbl, hi, he⟩
  dsimp only at hk hal h40 hbl hi he ⊢
  have hg := get_sl (L := [MObj.row 30 5 acc.length]) (hT.get (b, e) c)
  refine mwp_seq <| qR rfl <| qC rfl rfl rfl rfl rfl <| qN <| mwp_seq ?_
  refine mwp_cond_split rfl (fun h15 => ?_) (fun h15 => ?_)
  ·
   have hlt : k < (numM r0).1 := by simp at h15; omega
   refine mwp_skip <| mwp_seq <| mwp_block <| mwp_seq <| mwp_seq ?_
   rcases e with _ | e
   ·
    have h40' : (numM r0).1 ≤ 40 := by rcases h40 with h | h; exact h; cases h
    replace hg : (T (b, none) c ++ [MObj.row 30 5 acc.length])[id]? = some (.cells [.str (bs b), .iface0]) := hg
    refine qR rfl <| qM rfl rfl rfl <| qO rfl <| op_nilCheck rfl rfl rfl <| qF rfl rfl rfl fo64_1 <| qO rfl <| op_load_ref rfl rfl hg ta37 rfl <| qO rfl <| op_if0 rfl Tryz.underlying37 rfl rfl (.inr ⟨rfl, rfl⟩) <| qN <| mwp_cond_f rfl (rfl) <| mwp_skip <| qR rfl <| qM rfl rfl rfl <| qM rfl rfl rfl ?_
    refine wOps_op rfl (op_call rfl rfl rfl hco ((hone k (b, none) c _ (by omega) hi hbl rfl).mono ?_))
    rintro _ _ ⟨rfl, rfl⟩
    refine qO rfl <| op_buildSlice rfl Tryz.underlying28 el30 rfl rfl (by decide) (by decide) (by cases (f (b, none) c).1; rfl) (by cases (f (b, none) c).1; rfl) ?_
    refine qO rfl <| op_append rfl Tryz.underlying28 el30 rfl rfl (get_lastO (hT.len _ _)) (by simp) (by simp; omega) (by simp; omega) ?_
    rw [set_lastO (hT.len _ _)]
    refine qA rfl rfl rfl <| qN <| qR rfl <| qO rfl <| op_arith rfl rfl rfl (add_u64 (by omega)) ?_
    refine qM rfl rfl rfl <| qN ?_
    refine ⟨⟨k + 1, acc ++ [(f (b, none) c).1], (f (b, none) c).2.1, (f (b, none) c).2.2⟩, by dsimp only; omega, ⟨by dsimp only; omega, by simp [hal], .inl h40', by dsimp only; have := hfl (b, none) c; dsimp only at this; omega, hIs _ _ _ hi, by dsimp only; rw [← he, show (numM r0).1 - k = ((numM r0).1 - (k + 1)) + 1 by omega, rowGoC, if_neg (by simp)]⟩, by rw [List.length_append]; rfl, (.keep rfl (.keep rfl (.keep rfl (.nil)))), (.eq rfl (by rw [List.map_append]; rfl) (.eq rfl (rfl) (.nil)))⟩
   ·
    replace hg : (T (b, some e) c ++ [MObj.row 30 5 acc.length])[id]? = some (.cells [.str (bs b), .iface 45 (.int .i64 e)]) := hg
    have hE : rowC f r0 c0 = ([], (b, some e), c) := by rw [← he, show (numM r0).1 - k = ((numM r0).1 - (k + 1)) + 1 by omega, rowGoC]; exact if_pos rfl
    refine qR rfl <| qM rfl rfl rfl <| qO rfl <| op_nilCheck rfl rfl rfl <| qF rfl rfl rfl fo64_1 <| qO rfl <| op_load_ref rfl rfl hg ta37 rfl <| qO rfl <| op_ifnil rfl Tryz.underlying37 rfl rfl (.inr ⟨rfl, rfl⟩) <| qN <| mwp_cond_t rfl (rfl) <| mwp_seq <| qR rfl <| qA rfl rfl rfl <| qN <| mwp_ret ?_
    exact ret_tmpS (S' := T (b, some e) c) (.inr rfl) Tryz.results47 rfl (Sub.nil 5) (.lst _ _ _ (fun t ht => by cases ht) (fun y hy => by cases hy)) (by rw [hT.len, hT.len]; exact Nat.le_refl _) (hT.cls _ _) ⟨by rw [hE]; try rfl, by rw [hE]⟩
  ·
   have hge : k = (numM r0).1 := by simp at h15; omega
   have hE : rowC f r0 c0 = (acc, (b, e), c) := by rw [← he, hge, Nat.sub_self]; rfl
   refine mwp_exit <| mwp_seq <| qR rfl <| qM rfl rfl rfl <| qA rfl rfl rfl <| qN <| mwp_ret ?_
   exact ret_tmpS (S' := T (b, e) c) (.inr rfl) Tryz.results47 rfl (.view _ _ _) (cl_lst (cl_encV _) (encV_one')) (by rw [hT.len, hT.len]; exact Nat.le_refl _) (hT.cls _ _) ⟨by rw [hE]; try rfl, by rw [hE]⟩
theorem RdT.base {S : MS} {id : Nat} {r : RdS} (h : S[id]? = some (rdO r)) (hcl : ClS S) : RdT (γ := Unit) id S.length (fun r _ => S.set id (rdO r)) where
 get _ _ := get_set h
 set _ _ _ := set_set
 len _ _ := by simp
 cls r _ := hcl.set (rd_cl _ r)
def unitF {α : Type} (M : RdS → α × RdS) (r : RdS) (_ : Unit) : α × RdS × Unit := ((M r).1, (M r).2, ())
theorem rowGoC_unit {α : Type} (M : RdS → α × RdS) : ∀ k acc r, rowGoC (unitF M) k acc r () = ((rowGo M k acc r).1, (rowGo M k acc r).2, ())
 | 0, acc, r => rfl
 | k + 1, acc, r => by
  rw [rowGoC, rowGo]
  split
  ·rfl
  ·exact rowGoC_unit M k _ _
theorem OneOk.base {α : Type} {kc : FuncId} {fi ca : List MV} {en : α → MV} {M : RdS → α × RdS} {S : MS} {id : Nat} {r0 : RdS} (h : S[id]? = some (rdO r0)) (hm : Reads kc (fi ++ [] ++ ca) id en M) : OneOk (γ := Unit) (fun _ _ => True) kc fi ca en (fun r _ => S.set id (rdO r)) (unitF M) := fun _ r c L _ _ hl _ => by
 have := hm.sl (r := r) (S := S.set id (rdO r)) (L := L) (get_set h) hl
 rw [set_set] at this
 exact this
theorem rowX_base {kc : FuncId} (hco : CallOk Tryz.prog kc) {fi ca : List MV} {M : RdS → Bs × RdS} {id : Nat} (hm : Reads kc (fi ++ [] ++ ca) id encX M) (hfl : ∀ r, (M r).2.1.length ≤ r.1.length) (r : RdS) (S : MS) (h : S[id]? = some (rdO r)) (hcl : ClS S) (hlen : r.1.length ≤ 1000000) : MCalls Tryz.prog 45 [.ref id 0, .fn (.func kc) fi ca] S fun v σ' => v = .lst none 1 ((rowM M r).1.map encX) ∧ σ' = S.set id (rdO (rowM M r).2) := by
 have := rowX_spec (c0 := ()) (RdT.base h hcl) hco trivial (fun _ _ _ _ => trivial) (OneOk.base h hm) (fun r _ => hfl r) r hlen
 simp only [set_self_rd h] at this
 rw [rowC, rowGoC_unit] at this
 exact this
theorem rowT_base {kc : FuncId} (hco : CallOk Tryz.prog kc) {fi ca : List MV} {M : RdS → Tk × RdS} {id : Nat} (hm : Reads kc (fi ++ [] ++ ca) id encT M) (hfl : ∀ r, (M r).2.1.length ≤ r.1.length) (r : RdS) (S : MS) (h : S[id]? = some (rdO r)) (hcl : ClS S) (hlen : r.1.length ≤ 1000000) : MCalls Tryz.prog 72 [.ref id 0, .fn (.func kc) fi ca] S fun v σ' => v = .lst none 2 ((rowM M r).1.map encT) ∧ σ' = S.set id (rdO (rowM M r).2) := by
 have := rowT_spec (c0 := ()) (RdT.base h hcl) hco trivial (fun _ _ _ _ => trivial) (OneOk.base h hm) (fun r _ => hfl r) r hlen
 simp only [set_self_rd h] at this
 rw [rowC, rowGoC_unit] at this
 exact this
theorem whoM_len (r : RdS) : (whoM r).2.1.length ≤ r.1.length := by
 have := (numM_len r).1
 unfold whoM
 split <;> exact this
theorem tickM_len (r : RdS) : (tickM r).2.1.length ≤ r.1.length := Nat.le_trans (numM_len _).1 (whoM_len r)
theorem tick_reads (id : Nat) : Reads 73 [.ref id 0] id encT tickM := by
 intro r S h hlen
 have hnl := numM_len r
 refine mcalls_body Tryz.func73 rfl Tryz.ntmps73 (Nat.le_of_ble_eq_true rfl) ?_
 refine mwp_facts fun _ hcl => ?_
 rw [List.append_nil] at hcl
 refine mwp_seq <| qR rfl <| qO rfl <| op_alloc' rfl zm89 rfl rfl <| qN <| mwp_seq <| qR rfl <| qM rfl rfl rfl ?_
 refine wOps_op rfl (op_call rfl rfl rfl co44 (((num_reads id).sl h hlen).mono ?_))
 rintro _ _ ⟨rfl, rfl⟩
 refine qA rfl rfl rfl <| qN <| mwp_seq <| mwp_seq <| qR rfl <| qM rfl rfl rfl <| qC rfl rfl rfl rfl rfl <| qN ?_
 refine mwp_cond_split rfl (fun h7 => ?_) (fun h7 => ?_)
 ·
  have hw : whoM r = (0, failR 10 (numM r).2) := if_pos (by simp at h7; omega)
  refine mwp_seq <| qR rfl <| qM rfl rfl rfl ?_
  refine wOps_op rfl (op_call rfl rfl rfl co26 ((fails_spec id (numM r).2 _ _ (get_set h) _).mono ?_))
  rintro _ _ ⟨rfl, rfl⟩
  rw [set_set]
  refine qN <| qR rfl <| qA rfl rfl rfl <| qN <| mwp_seq <| qR rfl <| qM rfl rfl rfl <| qO rfl <| op_convInt rfl Tryz.underlying25 Tryz.underlying3 rfl (rfl) <| qM rfl rfl rfl ?_
  refine wOps_op rfl (op_call rfl rfl rfl co44 (((num_reads id).sl (r := failR 10 (numM r).2) (get_set h) (Nat.le_trans hnl.1 hlen)).mono ?_))
  rintro _ _ ⟨rfl, rfl⟩
  rw [set_set]
  refine qO rfl <| op_build rfl Tryz.underlying89 zm89 (.cons fo89_0 sz3 rfl rfl (Nat.le_of_ble_eq_true rfl) (.cons fo89_1 sz25 rfl rfl (Nat.le_of_ble_eq_true rfl) .nil)) (by kernel_rfl) ?_
  refine qO rfl <| op_store rfl rfl rfl ((own_getS (by simp)).trans rfl) sz89 rfl rfl (Nat.le_of_ble_eq_true rfl) ?_
  rw [own_setS (by simp)]
  refine qN <| mwp_ret ?_
  exact ret_cellS (by simp) (.inr rfl) Tryz.results73 rfl rfl ta89 rfl (.refl _) (cl_encT' _ (_, _)) (hcl.set (rd_cl _ _)) ⟨by rw [tickM, hw]; try rfl, by rw [tickM, hw]⟩
 ·
  have hbig : ¬ 1000000 < (numM r).1 := by simp at h7; omega
  have hw : whoM r = numM r := if_neg hbig
  refine mwp_skip <| mwp_seq <| qR rfl <| qM rfl rfl rfl <| qO rfl <| op_convInt rfl Tryz.underlying25 Tryz.underlying3 rfl (wrap_i64 (by omega)) ?_
  refine qM rfl rfl rfl ?_
  refine wOps_op rfl (op_call rfl rfl rfl co44 (((num_reads id).sl (get_set h) (Nat.le_trans hnl.1 hlen)).mono ?_))
  rintro _ _ ⟨rfl, rfl⟩
  rw [set_set]
  refine qO rfl <| op_build rfl Tryz.underlying89 zm89 (.cons fo89_0 sz3 rfl rfl (Nat.le_of_ble_eq_true rfl) (.cons fo89_1 sz25 rfl rfl (Nat.le_of_ble_eq_true rfl) .nil)) (by kernel_rfl) ?_
  refine qO rfl <| op_store rfl rfl rfl ((own_getS (by simp)).trans rfl) sz89 rfl rfl (Nat.le_of_ble_eq_true rfl) ?_
  rw [own_setS (by simp)]
  refine qN <| mwp_ret ?_
  exact ret_cellS (by simp) (.inr rfl) Tryz.results73 rfl rfl ta89 rfl (.refl _) (cl_encT' _ (_, _)) (hcl.set (rd_cl _ _)) ⟨by rw [tickM, hw]; try rfl, by rw [tickM, hw]⟩
theorem rowGo_len {α : Type} {M : RdS → α × RdS} (hM : ∀ r, (M r).2.1.length ≤ r.1.length) : ∀ k acc r, (rowGo M k acc r).2.1.length ≤ r.1.length
 | 0, acc, r => Nat.le_refl _
 | k + 1, acc, r => by
  rw [rowGo]
  split
  ·exact Nat.le_refl _
  ·exact Nat.le_trans (rowGo_len hM k _ _) (hM r)
theorem rowM_len {α : Type} {M : RdS → α × RdS} (hM : ∀ r, (M r).2.1.length ≤ r.1.length) (r : RdS) : (rowM M r).2.1.length ≤ r.1.length := Nat.le_trans (rowGo_len hM _ _ _) (rowStart_len r)
theorem clock_reads (id : Nat) : Reads 50 [.ref id 0] id encC clockM := by
 intro r S h hlen
 refine mcalls_body Tryz.func50 rfl Tryz.ntmps50 (Nat.le_of_ble_eq_true rfl) ?_
 refine mwp_facts fun _ hcl => ?_
 have hcl0 := hcl
 rw [List.append_nil] at hcl
 refine mwp_seq <| qR rfl <| qA rfl rfl rfl <| qN <| mwp_seq <| qR rfl <| qM rfl rfl rfl <| qM rfl rfl rfl <| qO rfl <| op_makeFunc rfl rfl rfl ?_
 refine wOps_op rfl (op_call rfl rfl rfl co72 ((rowT_base co73 (tick_reads id) tickM_len r _ (get_sl h) hcl0 hlen).mono ?_))
 rintro _ _ ⟨rfl, rfl⟩
 rw [set_sl h]
 refine qA rfl rfl rfl <| qN <| mwp_ret ?_
 exact ret_tmpS (.inr rfl) Tryz.results50 rfl (.refl _) (cl_encC _ _) (by simp) (hcl.set (rd_cl _ _)) ⟨rfl, rfl⟩
end Go.Proofs.YthkikhggmbiffaaGreat
end
section
set_option linter.unusedVariables false
set_option linter.unusedSimpArgs false
set_option maxRecDepth 20000
namespace Go.Proofs.YthkikhggmbiffaaGreat
open Go Go.MV
theorem gtr_nil {α : Type} {en : α → MV} : intCmp .gtr (((([] : List α).map en).length : Nat) : Int) 0 = some false := rfl
theorem gtr_cons {α : Type} {en : α → MV} {x : α} {l : List α} : intCmp .gtr ((((x :: l).map en).length : Nat) : Int) 0 = some true := by simp [intCmp]
theorem merge_cons {α : Type} {cmp : α → α → Int} {bo : α → α → α} {x y : α} {a b : List α} : mergeF cmp bo (x :: a) (y :: b) = if cmp x y < 0 then x :: mergeF cmp bo a (y :: b) else if cmp x y > 0 then y :: mergeF cmp bo (x :: a) b else bo x y :: mergeF cmp bo a b := by rw [mergeF]
theorem clkIs_spec (c : List Tk) (S : MS) : MCalls Tryz.prog 65 [.lst none 2 (c.map encT)] S fun v σ' => v = .bool (isClockF c) ∧ σ' = S := by
 refine mcalls_body Tryz.func65 rfl Tryz.ntmps65 (Nat.le_of_ble_eq_true rfl) ?_
 refine mwp_len (t := 0) rfl fun hlen => ?_
 rw [List.length_map] at hlen
 refine mwp_seq <| qR rfl <| qA rfl rfl rfl <| qN <| mwp_seq <| mwp_seq <| qR rfl <| qM rfl rfl rfl <| qE rfl rfl Tryz.underlying70 rfl <| qM rfl rfl rfl <| qN <| mwp_block ?_
 refine mwp_loopKJ (α := Nat) [(0, _), (5, _), (6, _)] (fun i => [(7, .int .i64 (i : Int))]) (fun i => []) (fun i => i ≤ c.length ∧ ∀ j, j < i → okAt c j = true) (fun i => c.length - i) (0) (Nat.le_refl _) (.keep rfl (.keep rfl (.keep rfl (.nil)))) (.keep rfl (.nil)) (⟨by omega, fun j hj => by omega⟩) (rfl) ?_
 rintro i ⟨hi, hall⟩
 refine mwp_seq <| qR rfl <| qC rfl rfl rfl rfl rfl <| qN <| mwp_seq ?_
 refine mwp_cond_split rfl (fun h8 => ?_) (fun h8 => ?_)
 ·
  have hlt : i < c.length := by simpa using h8
  obtain ⟨t, hs⟩ : ∃ q_, c[i]? = some q_ := ⟨_, List.getElem?_eq_getElem hlt⟩
  refine mwp_skip <| mwp_seq <| mwp_block <| mwp_seq <| qR rfl <| qM rfl rfl rfl <| qO rfl <| op_indexAddr rfl Tryz.underlying70 sz89 (by decide) rfl rfl rfl (get_map hs) ?_
  refine qO rfl <| op_load_sptr rfl rfl ta89 rfl <| qO rfl <| op_alloc' rfl zm89 rfl rfl <| qA rfl rfl rfl <| qO rfl <| op_store' rfl rfl rfl rfl sz89 rfl rfl (Nat.le_of_ble_eq_true rfl) rfl <| qN <| mwp_seq ?_
  refine mwp_draw [] [_] mo (by decide) rfl rfl rfl rfl ?_
  refine dO rfl rfl rfl (op_fieldAddr_ref rfl rfl fo89_0 ⟨rfl, rfl⟩) <| dO rfl rfl rfl (op_load' rfl rfl rfl ta3 rfl ⟨rfl, rfl⟩) <| dO rfl rfl rfl (op_cmp rfl rfl rfl rfl ⟨rfl, rfl⟩) <| dO rfl rfl rfl (op_move rfl rfl ⟨rfl, rfl⟩) ?_
  refine dOps_case (fun h15 => ?_) (fun h15 => ?_)
  ·
   refine dS rfl rfl <| dS rfl rfl <| dS rfl rfl <| dO rfl rfl rfl (op_pick rfl rfl rfl ⟨rfl, rfl⟩) <| dO rfl rfl rfl (op_move rfl rfl ⟨rfl, rfl⟩) <| dS rfl rfl <| dS rfl rfl <| dS rfl rfl <| dO rfl rfl rfl (op_pick rfl rfl rfl ⟨rfl, rfl⟩) <| dO rfl rfl rfl (op_move rfl rfl ⟨rfl, rfl⟩) <| dS rfl rfl <| dS rfl rfl <| dS rfl rfl <| dS rfl rfl <| dS rfl rfl <| dS rfl rfl <| dS rfl rfl <| dS rfl rfl <| dS rfl rfl <| dS rfl rfl <| dS rfl rfl <| dS rfl rfl <| dS rfl rfl <| dO rfl rfl rfl (op_pick rfl rfl rfl ⟨rfl, rfl⟩) <| dOps_nil <| mwp_cond_t rfl (rfl) <| mwp_seq <| qR rfl <| qA rfl rfl rfl ?_
   refine qN <| mwp_ret ?_
   exact ret_tmp (.inr rfl) Tryz.results65 rfl (.of_eq (by rw [isClock_false hlt (by simp_all [okAt] <;> omega)])) (.bool _) ⟨rfl, rfl⟩
  ·
   refine dO rfl rfl rfl (op_fieldAddr_ref rfl rfl fo89_0 ⟨rfl, rfl⟩) <| dO rfl rfl rfl (op_load' rfl rfl rfl ta3 rfl ⟨rfl, rfl⟩) <| dO rfl rfl rfl (op_cmp rfl rfl rfl rfl ⟨rfl, rfl⟩) <| dO rfl rfl rfl (op_pick rfl rfl rfl ⟨rfl, rfl⟩) <| dO rfl rfl rfl (op_move rfl rfl ⟨rfl, rfl⟩) ?_
   refine dOps_case (fun h20 => ?_) (fun h20 => ?_)
   ·
    refine dS rfl rfl <| dS rfl rfl <| dS rfl rfl <| dO rfl rfl rfl (op_pick rfl rfl rfl ⟨rfl, rfl⟩) <| dO rfl rfl rfl (op_move rfl rfl ⟨rfl, rfl⟩) <| dS rfl rfl <| dS rfl rfl <| dS rfl rfl <| dS rfl rfl <| dS rfl rfl <| dS rfl rfl <| dS rfl rfl <| dS rfl rfl <| dS rfl rfl <| dS rfl rfl <| dS rfl rfl <| dS rfl rfl <| dS rfl rfl <| dO rfl rfl rfl (op_pick rfl rfl rfl ⟨rfl, rfl⟩) <| dOps_nil <| mwp_cond_t rfl (rfl) <| mwp_seq <| qR rfl <| qA rfl rfl rfl <| qN <| mwp_ret ?_
    exact ret_tmp (.inr rfl) Tryz.results65 rfl (.of_eq (by rw [isClock_false hlt (by simp_all [okAt] <;> omega)])) (.bool _) ⟨rfl, rfl⟩
   ·
    refine dO rfl rfl rfl (op_fieldAddr_ref rfl rfl fo89_1 ⟨rfl, rfl⟩) <| dO rfl rfl rfl (op_load' rfl rfl rfl ta25 rfl ⟨rfl, rfl⟩) <| dO rfl rfl rfl (op_cmp rfl rfl rfl rfl ⟨rfl, rfl⟩) <| dO rfl rfl rfl (op_pick rfl rfl rfl ⟨rfl, rfl⟩) <| dO rfl rfl rfl (op_move rfl rfl ⟨rfl, rfl⟩) ?_
    refine dOps_case (fun h25 => ?_) (fun h25 => ?_)
    ·
     refine dS rfl rfl <| dS rfl rfl <| dS rfl rfl <| dS rfl rfl <| dS rfl rfl <| dS rfl rfl <| dS rfl rfl <| dS rfl rfl <| dS rfl rfl <| dS rfl rfl <| dS rfl rfl <| dS rfl rfl <| dS rfl rfl <| dO rfl rfl rfl (op_pick rfl rfl rfl ⟨rfl, rfl⟩) <| dOps_nil <| mwp_cond_t rfl (rfl) <| mwp_seq <| qR rfl <| qA rfl rfl rfl <| qN <| mwp_ret ?_
     exact ret_tmp (.inr rfl) Tryz.results65 rfl (.of_eq (by rw [isClock_false hlt (by simp_all [okAt] <;> omega)])) (.bool _) ⟨rfl, rfl⟩
    ·
     refine dO rfl rfl rfl (op_move rfl rfl ⟨rfl, rfl⟩) <| dO rfl rfl rfl (op_cmp rfl rfl rfl rfl ⟨rfl, rfl⟩) <| dO rfl rfl rfl (op_move rfl rfl ⟨rfl, rfl⟩) ?_
     refine dOps_case (fun h28 => ?_) (fun h28 => ?_)
     ·
      have hi0 : 0 < i := by simpa using h28
      obtain ⟨p, hp⟩ : ∃ a, c[i - 1]? = some a := ⟨_, List.getElem?_eq_getElem (by omega)⟩
      refine dO rfl rfl rfl (op_fieldAddr_ref rfl rfl fo89_0 ⟨rfl, rfl⟩) <| dO rfl rfl rfl (op_load' rfl rfl rfl ta3 rfl ⟨rfl, rfl⟩) <| dO rfl rfl rfl (op_move rfl rfl ⟨rfl, rfl⟩) <| dO rfl rfl rfl (op_move rfl rfl ⟨rfl, rfl⟩) <| dO rfl rfl rfl (op_arith rfl rfl rfl (wsub (a := i) (b := 1) (c := i - 1) (by omega) (by simp only [maxLen] at hlen; omega)) ⟨rfl, rfl⟩) ?_
      refine dO rfl rfl rfl (op_indexAddr rfl Tryz.underlying70 sz89 (by decide) rfl rfl rfl (get_map hp) ⟨rfl, rfl⟩) ?_
      refine dO rfl rfl rfl (op_fieldAddr_sptr rfl rfl fo89_0 ⟨rfl, rfl⟩) <| dO rfl rfl rfl (op_load_sptr rfl rfl ta3 rfl ⟨rfl, rfl⟩) <| dO rfl rfl rfl (op_cmp rfl rfl rfl rfl ⟨rfl, rfl⟩) <| dO rfl rfl rfl (op_pick rfl rfl rfl ⟨rfl, rfl⟩) <| dO rfl rfl rfl (op_pick rfl rfl rfl ⟨rfl, rfl⟩) <| dOps_nil ?_
      refine mwp_cond_split rfl (fun h39 => ?_) (fun h39 => ?_)
      ·
       refine mwp_seq <| qR rfl <| qA rfl rfl rfl <| qN <| mwp_ret ?_
       exact ret_tmp (.inr rfl) Tryz.results65 rfl (.of_eq (by rw [isClock_false hlt (by simp_all [okAt] <;> omega)])) (.bool _) ⟨rfl, rfl⟩
      ·
       refine mwp_skip <| qR rfl <| qO rfl <| op_arith rfl rfl rfl rfl <| qM rfl rfl rfl <| qN ?_
       refine ⟨i + 1, _, by omega, ⟨by omega, fun j hj => ?_⟩, rfl, .nil, (.old rfl rfl (.old rfl rfl (.old rfl rfl (.nil)))), (.new' rfl (int_succ hlt hlen) (.int _ _) (.nil))⟩
       by_cases e : j = i
       ·subst e; simp_all [okAt]
       ·exact hall j (by omega)
     ·
      refine dS rfl rfl <| dS rfl rfl <| dS rfl rfl <| dS rfl rfl <| dS rfl rfl <| dS rfl rfl <| dS rfl rfl <| dS rfl rfl <| dS rfl rfl <| dO rfl rfl rfl (op_pick rfl rfl rfl ⟨rfl, rfl⟩) <| dO rfl rfl rfl (op_pick rfl rfl rfl ⟨rfl, rfl⟩) <| dOps_nil <| mwp_cond_f rfl (rfl) <| mwp_skip <| qR rfl <| qO rfl <| op_arith rfl rfl rfl rfl <| qM rfl rfl rfl <| qN ?_
      refine ⟨i + 1, _, by omega, ⟨by omega, fun j hj => ?_⟩, rfl, .nil, (.old rfl rfl (.old rfl rfl (.old rfl rfl (.nil)))), (.new' rfl (int_succ hlt hlen) (.int _ _) (.nil))⟩
      by_cases e : j = i
      ·subst e; simp_all [okAt]
      ·exact hall j (by omega)
 ·
  have hge : i = c.length := by simp at h8; omega
  refine mwp_exit <| mwp_seq <| qR rfl <| qM rfl rfl rfl <| qE rfl rfl Tryz.underlying70 rfl <| qC rfl rfl rfl rfl rfl <| qA rfl rfl rfl <| qN <| mwp_ret ?_
  exact ret_tmp (.inr rfl) Tryz.results65 rfl (.of_eq (by rw [isClock_end (fun j hj => hall j (by omega)), List.length_map])) (.bool _) ⟨rfl, rfl⟩
theorem tEqual_spec (a b : List Tk) (S : MS) : MCalls Tryz.prog 102 [.lst none 2 (a.map encT), .lst none 2 (b.map encT)] S fun v σ' => v = .bool (decide (a = b)) ∧ σ' = S := by
 refine mcalls_body Tryz.func102 rfl Tryz.ntmps102 (Nat.le_of_ble_eq_true rfl) ?_
 refine mwp_len (t := 0) rfl fun hlen => ?_
 rw [List.length_map] at hlen
 refine mwp_seq <| qR rfl <| qA rfl rfl rfl <| qN <| mwp_seq <| mwp_seq <| qR rfl <| qM rfl rfl rfl <| qE rfl rfl Tryz.underlying70 rfl <| qM rfl rfl rfl <| qE rfl rfl Tryz.underlying70 rfl <| qC rfl rfl rfl rfl rfl <| qN ?_
 refine mwp_cond_split rfl (fun h10 => ?_) (fun h10 => ?_)
 ·
  refine mwp_seq <| qR rfl <| qA rfl rfl rfl <| qN <| mwp_ret ?_
  exact ret_tmp (.inr rfl) Tryz.results102 rfl (.of_eq (by congr 1; symm; rw [decide_eq_false_iff_not]; intro e; subst e; simp at h10)) (.bool _) ⟨rfl, rfl⟩
 ·
  have hab : a.length = b.length := by simp at h10; omega
  refine mwp_skip <| mwp_seq <| mwp_seq <| qR rfl <| qM rfl rfl rfl <| qE rfl rfl Tryz.underlying70 rfl <| qM rfl rfl rfl <| qN <| mwp_block ?_
  refine mwp_loopK (α := Nat) [(0, _), (1, _), (12, _)] (fun i => [(13, .int .i64 (i : Int))]) (fun i => []) (fun i => i ≤ a.length ∧ a.take i = b.take i) (fun i => a.length - i) (0) (.keep rfl (.keep rfl (.keep rfl (.nil)))) (.keep rfl (.nil)) (⟨by omega, rfl⟩) (rfl) ?_
  rintro i ⟨hi, heq⟩
  refine mwp_seq <| qR rfl <| qC rfl rfl rfl rfl rfl <| qN <| mwp_seq ?_
  refine mwp_cond_split rfl (fun h14 => ?_) (fun h14 => ?_)
  ·
   have hlt : i < a.length := by simpa using h14
   obtain ⟨x, hs⟩ : ∃ q_, a[i]? = some q_ := ⟨_, List.getElem?_eq_getElem hlt⟩
   obtain ⟨y, hs2⟩ : ∃ s, b[i]? = some s := ⟨_, List.getElem?_eq_getElem (by omega)⟩
   refine mwp_skip <| mwp_seq <| mwp_block <| mwp_seq <| qR rfl <| qM rfl rfl rfl <| qA rfl rfl rfl <| qN <| mwp_seq ?_
   refine mwp_draw [] [_] mo (by decide) rfl rfl rfl rfl ?_
   refine dO rfl rfl rfl (op_move rfl rfl ⟨rfl, rfl⟩) <| dO rfl rfl rfl (op_move rfl rfl ⟨rfl, rfl⟩) <| dO rfl rfl rfl (op_indexAddr rfl Tryz.underlying70 sz89 (by decide) rfl rfl rfl (get_map hs) ⟨rfl, rfl⟩) ?_
   refine dO rfl rfl rfl (op_load_sptr rfl rfl ta89 rfl ⟨rfl, rfl⟩) <| dO rfl rfl rfl (op_move rfl rfl ⟨rfl, rfl⟩) <| dO rfl rfl rfl (op_move rfl rfl ⟨rfl, rfl⟩) <| dO rfl rfl rfl (op_indexAddr rfl Tryz.underlying70 sz89 (by decide) rfl rfl rfl (get_map hs2) ⟨rfl, rfl⟩) ?_
   refine dO rfl rfl rfl (op_load_sptr rfl rfl ta89 rfl ⟨rfl, rfl⟩) <| dOps_op rfl rfl (.cons (op_eqstruct rfl (by kernel_rfl) rfl rfl rfl (.inr ⟨rfl, rfl⟩) ⟨rfl, rfl⟩) .nil) ?_
   refine dOps_nil ?_
   refine mwp_cond_split rfl (fun h24 => ?_) (fun h24 => ?_)
   ·
    refine mwp_seq <| qR rfl <| qA rfl rfl rfl <| qN <| mwp_ret ?_
    exact ret_tmp (.inr rfl) Tryz.results102 rfl (.of_eq (by congr 1; symm; rw [decide_eq_false_iff_not]; intro e; subst e; rw [hs2] at hs; injection hs with hs; subst hs; simp at h24)) (.bool _) ⟨rfl, rfl⟩
   ·
    refine mwp_skip <| qR rfl <| qO rfl <| op_arith rfl rfl rfl rfl <| qM rfl rfl rfl <| qN ?_
    refine ⟨i + 1, by omega, ⟨by omega, ?_⟩, rfl, (.keep rfl (.keep rfl (.keep rfl (.nil)))), (.eq rfl (int_succ hlt hlen) (.nil))⟩
    rw [List.take_add_one, List.take_add_one, hs, hs2, heq]
    obtain ⟨x1, x2⟩ := x; obtain ⟨y1, y2⟩ := y
    simp at h24
    rw [h24.1, h24.2]
  ·
   have hge : i = a.length := by simp at h14; omega
   refine mwp_exit <| mwp_seq <| qR rfl <| qA rfl rfl rfl <| qN <| mwp_ret ?_
   exact ret_tmp (.inr rfl) Tryz.results102 rfl (.of_eq (by congr 1; symm; rw [decide_eq_true_iff]; rw [hge, List.take_length, hab, List.take_length] at heq; exact heq)) (.bool _) ⟨rfl, rfl⟩
theorem clkSame_spec (a b : List Tk) (S : MS) : MCalls Tryz.prog 90 [.lst none 2 (a.map encT), .lst none 2 (b.map encT)] S fun v σ' => v = .bool (decide (a = b)) ∧ σ' = S := by
 refine mcalls_body Tryz.func90 rfl Tryz.ntmps90 (Nat.le_of_ble_eq_true rfl) ?_
 refine mwp_seq <| qR rfl <| qA rfl rfl rfl <| qN <| mwp_seq <| qR rfl <| qM rfl rfl rfl <| qM rfl rfl rfl ?_
 refine wOps_op rfl (op_call rfl rfl rfl co102 ((tEqual_spec a b _).mono ?_))
 rintro _ _ ⟨rfl, rfl⟩
 refine qA rfl rfl rfl <| qN <| mwp_ret ?_
 exact ret_tmp (.inr rfl) Tryz.results90 rfl (.of_eq (rfl)) (.bool _) ⟨rfl, rfl⟩
theorem isNaN_spec (m : Int) (S : MS) : MCalls Tryz.prog 104 [.int .i64 m] S fun v σ' => v = .bool false ∧ σ' = S := by
 refine mcalls_body Tryz.func104 rfl Tryz.ntmps104 (Nat.le_of_ble_eq_true rfl) ?_
 refine mwp_seq <| qR rfl <| qA rfl rfl rfl <| qN <| mwp_seq <| qR rfl <| qM rfl rfl rfl <| qM rfl rfl rfl <| qC rfl rfl rfl rfl rfl <| qA rfl rfl rfl <| qN <| mwp_ret ?_
 exact ret_tmp (.inr rfl) Tryz.results104 rfl (.of_eq (by simp)) (.bool _) ⟨rfl, rfl⟩
theorem compare_spec (m n : Int) (S : MS) : MCalls Tryz.prog 97 [.int .i64 m, .int .i64 n] S fun v σ' => v = .int .i64 (cmpI m n) ∧ σ' = S := by
 refine mcalls_body Tryz.func97 rfl Tryz.ntmps97 (Nat.le_of_ble_eq_true rfl) ?_
 refine mwp_seq <| qR rfl <| qA rfl rfl rfl <| qN <| mwp_seq <| qR rfl <| qM rfl rfl rfl ?_
 refine wOps_op rfl (op_call rfl rfl rfl co104 ((isNaN_spec m _).mono ?_))
 rintro _ _ ⟨rfl, rfl⟩
 refine qA rfl rfl rfl <| qN <| mwp_seq <| qR rfl <| qM rfl rfl rfl ?_
 refine wOps_op rfl (op_call rfl rfl rfl co104 ((isNaN_spec n _).mono ?_))
 rintro _ _ ⟨rfl, rfl⟩
 refine qA rfl rfl rfl <| qN <| mwp_seq <| mwp_seq <| qR rfl <| qM rfl rfl rfl <| qN <| mwp_cond_f rfl (rfl) <| mwp_skip <| mwp_seq <| mwp_seq <| qR rfl <| qM rfl rfl rfl <| qN <| mwp_cond_f rfl (rfl) <| mwp_skip <| mwp_seq <| mwp_seq <| qR rfl <| qM rfl rfl rfl <| qM rfl rfl rfl <| qC rfl rfl rfl rfl rfl <| qN ?_
 refine mwp_cond_split rfl (fun h16 => ?_) (fun h16 => ?_)
 ·
  refine mwp_seq <| qR rfl <| qA rfl rfl rfl <| qN <| mwp_ret ?_
  exact ret_tmp (.inr rfl) Tryz.results97 rfl (.of_eq (by simp only [decide_eq_true_eq] at h16; rw [cmpI, if_pos h16])) (.int _ _) ⟨rfl, rfl⟩
 ·
  refine mwp_skip <| mwp_seq <| mwp_seq <| qR rfl <| qM rfl rfl rfl <| qM rfl rfl rfl <| qC rfl rfl rfl rfl rfl <| qN ?_
  refine mwp_cond_split rfl (fun h19 => ?_) (fun h19 => ?_)
  ·
   refine mwp_seq <| qR rfl <| qA rfl rfl rfl <| qN <| mwp_ret ?_
   exact ret_tmp (.inr rfl) Tryz.results97 rfl (.of_eq (by simp only [decide_eq_true_eq, decide_eq_false_iff_not] at h16 h19; rw [cmpI, if_neg h16, if_pos h19])) (.int _ _) ⟨rfl, rfl⟩
  ·
   refine mwp_skip <| mwp_seq <| qR rfl <| qA rfl rfl rfl <| qN <| mwp_ret ?_
   exact ret_tmp (.inr rfl) Tryz.results97 rfl (.of_eq (by simp only [decide_eq_true_eq, decide_eq_false_iff_not] at h16 h19; rw [cmpI, if_neg h16, if_neg h19])) (.int _ _) ⟨rfl, rfl⟩
theorem byWho_spec (x y : Tk) (S : MS) : MCalls Tryz.prog 107 [encT x, encT y] S fun v σ' => v = .int .i64 (cmpI x.1 y.1) ∧ σ' = S := by
 refine mcalls_body Tryz.func107 rfl Tryz.ntmps107 (Nat.le_of_ble_eq_true rfl) ?_
 refine mwp_seq <| qR rfl <| qB rfl rfl rfl rfl rfl <| qB rfl rfl rfl rfl rfl <| qA rfl rfl rfl <| qN <| mwp_seq <| qR rfl <| qF rfl rfl rfl fo89_0 <| qL rfl rfl rfl rfl ta3 rfl <| qF rfl rfl rfl fo89_0 <| qL rfl rfl rfl rfl ta3 rfl ?_
 refine wOps_op rfl (op_call rfl rfl rfl co97 ((compare_spec x.1 y.1 _).mono ?_))
 rintro _ _ ⟨rfl, rfl⟩
 refine qA rfl rfl rfl <| qN <| mwp_ret ?_
 exact ret_tmp (.inr rfl) Tryz.results107 rfl (.of_eq (rfl)) (.int _ _) ⟨rfl, rfl⟩
theorem join1_spec (x y : Tk) (S : MS) : MCalls Tryz.prog 108 [encT x, encT y] S fun v σ' => v = encT (bothT x y) ∧ σ' = S := by
 refine mcalls_body Tryz.func108 rfl Tryz.ntmps108 (Nat.le_of_ble_eq_true rfl) ?_
 refine mwp_seq <| qR rfl <| qB rfl rfl rfl rfl rfl <| qB rfl rfl rfl rfl rfl <| qO rfl <| op_alloc' rfl zm89 rfl rfl <| qN <| mwp_seq <| qR rfl <| qF rfl rfl rfl fo89_0 <| qL rfl rfl rfl rfl ta3 rfl <| qF rfl rfl rfl fo89_1 <| qL rfl rfl rfl rfl ta25 rfl <| qF rfl rfl rfl fo89_1 <| qL rfl rfl rfl rfl ta25 rfl <| qO rfl <| op_max2 rfl rfl rfl <| qO rfl <| op_build rfl Tryz.underlying89 zm89 (.cons fo89_0 sz3 rfl rfl (Nat.le_of_ble_eq_true rfl) (.cons fo89_1 sz25 rfl rfl (Nat.le_of_ble_eq_true rfl) .nil)) (by kernel_rfl) ?_
 refine qO rfl <| op_store' rfl rfl rfl rfl sz89 rfl rfl (Nat.le_of_ble_eq_true rfl) rfl <| qN <| mwp_ret ?_
 exact ret_cell (.inr rfl) Tryz.results108 rfl rfl ta89 rfl (.refl _) (cl_encT _ (bothT x y)) ⟨rfl, rfl⟩
theorem merge_spec (a b : List Tk) (cmp : Tk → Tk → Int) (bo : Tk → Tk → Tk) (kc kb : FuncId) (hab : a.length + b.length ≤ 1000000) (hco : CallOk Tryz.prog kc) (hcb : CallOk Tryz.prog kb) (hp : ∀ (x y : Tk) (X : MS), MCalls Tryz.prog kc [encT x, encT y] X fun v σ' => v = .int .i64 (cmp x y) ∧ σ' = X) (hq : ∀ (x y : Tk) (X : MS), MCalls Tryz.prog kb [encT x, encT y] X fun v σ' => v = encT (bo x y) ∧ σ' = X) (S : MS) : MCalls Tryz.prog 106 [.lst none 2 (a.map encT), .lst none 2 (b.map encT), .fn (.func kc) [] [], .fn (.func kb) [] []] S fun v σ' => v = .lst none 2 ((mergeF cmp bo a b).map encT) ∧ σ' = S := by
 refine mcalls_body Tryz.func106 rfl Tryz.ntmps106 (Nat.le_of_ble_eq_true rfl) ?_
 refine mwp_seq <| qR rfl <| qA rfl rfl rfl <| qN <| mwp_seq <| qR rfl <| qA rfl rfl rfl <| qN <| mwp_seq <| mwp_block <| mwp_row0 9 89 2 rfl (Nat.le_refl _) rfl rfl ?_
 refine mwp_loopK (α := List Tk × List Tk × List Tk) [(2, _), (3, _)] (fun x => [(0, .lst none 2 (x.1.map encT)), (1, .lst none 2 (x.2.1.map encT)), (9, .lst (some (S.length + 0)) 2 (x.2.2.map encT))]) (fun x => [.row 89 2 x.2.2.length]) (fun x => x.2.2.length + x.1.length + x.2.1.length ≤ a.length + b.length ∧ x.2.2 ++ mergeF cmp bo x.1 x.2.1 = mergeF cmp bo a b) (fun x => x.1.length + x.2.1.length) (⟨a, b, []⟩) (.keep rfl (.keep rfl (.nil))) (.keep rfl (.keep rfl (.keep rfl (.nil)))) (⟨by simp, by simp⟩) (rfl) ?_
 rintro ⟨a', b', out⟩ ⟨hl, he⟩
 dsimp only at hl he ⊢
 refine mwp_seq <| mwp_seq ?_
 rcases a' with _ | ⟨x, a'⟩
 ·
  refine qR rfl <| qM rfl rfl rfl <| qE rfl rfl Tryz.underlying70 rfl <| qC rfl rfl rfl rfl (gtr_nil) <| qM rfl rfl rfl <| qS rfl <| qS rfl <| qS rfl <| qP rfl rfl rfl rfl <| qN <| mwp_cond_f rfl (rfl) <| mwp_exit <| mwp_seq <| qR rfl <| qM rfl rfl rfl <| qM rfl rfl rfl <| qO rfl <| op_append' rfl Tryz.underlying70 el89 rfl rfl rfl (by simp) (by simp only [List.length_cons, List.length_nil, List.length_map, List.length_append] at hl ⊢; omega) (by simp only [List.length_cons, List.length_nil, List.length_map, List.length_append] at hl ⊢; omega) rfl ?_
  refine qM rfl rfl rfl <| qO rfl <| op_append' rfl Tryz.underlying70 el89 rfl rfl rfl (by simp) (by simp only [List.length_cons, List.length_nil, List.length_map, List.length_append] at hl ⊢; omega) (by simp only [List.length_cons, List.length_nil, List.length_map, List.length_append] at hl ⊢; omega) rfl ?_
  refine qA rfl rfl rfl <| qN <| mwp_ret ?_
  exact ret_tmp (.inr rfl) Tryz.results106 rfl (Sub.trans (.view _ _ _) (.of_eq (by rw [← he]; simp [nil_merge]))) (cl_clock _ _) ⟨rfl, rfl⟩
 ·
  rcases b' with _ | ⟨y, b'⟩
  ·
   refine qR rfl <| qM rfl rfl rfl <| qE rfl rfl Tryz.underlying70 rfl <| qC rfl rfl rfl rfl (gtr_cons) <| qM rfl rfl rfl <| qM rfl rfl rfl <| qE rfl rfl Tryz.underlying70 rfl <| qC rfl rfl rfl rfl (gtr_nil) <| qP rfl rfl rfl rfl <| qN <| mwp_cond_f rfl (rfl) <| mwp_exit <| mwp_seq <| qR rfl <| qM rfl rfl rfl <| qM rfl rfl rfl <| qO rfl <| op_append' rfl Tryz.underlying70 el89 rfl rfl rfl (by simp) (by simp only [List.length_cons, List.length_nil, List.length_map, List.length_append] at hl ⊢; omega) (by simp only [List.length_cons, List.length_nil, List.length_map, List.length_append] at hl ⊢; omega) rfl ?_
   refine qM rfl rfl rfl <| qO rfl <| op_append' rfl Tryz.underlying70 el89 rfl rfl rfl (by simp) (by simp only [List.length_cons, List.length_nil, List.length_map, List.length_append] at hl ⊢; omega) (by simp only [List.length_cons, List.length_nil, List.length_map, List.length_append] at hl ⊢; omega) rfl ?_
   refine qA rfl rfl rfl <| qN <| mwp_ret ?_
   exact ret_tmp (.inr rfl) Tryz.results106 rfl (Sub.trans (.view _ _ _) (.of_eq (by rw [← he]; simp [merge_nil]))) (cl_clock _ _) ⟨rfl, rfl⟩
  ·
   simp only [List.length_cons] at hl
   refine qR rfl <| qM rfl rfl rfl <| qE rfl rfl Tryz.underlying70 rfl <| qC rfl rfl rfl rfl (gtr_cons) <| qM rfl rfl rfl <| qM rfl rfl rfl <| qE rfl rfl Tryz.underlying70 rfl <| qC rfl rfl rfl rfl (gtr_cons) <| qP rfl rfl rfl rfl <| qN <| mwp_cond_t rfl (rfl) <| mwp_skip <| mwp_block <| mwp_seq ?_
   refine mwp_draw [] [_] mo (by decide) rfl rfl rfl rfl ?_
   refine dO rfl rfl rfl (op_move rfl rfl ⟨rfl, rfl⟩) <| dO rfl rfl rfl (op_move rfl rfl ⟨rfl, rfl⟩) <| dO rfl rfl rfl (op_indexAddr rfl Tryz.underlying70 sz89 (by decide) rfl rfl rfl rfl ⟨rfl, rfl⟩) ?_
   refine dO rfl rfl rfl (op_load_sptr rfl rfl ta89 rfl ⟨rfl, rfl⟩) <| dO rfl rfl rfl (op_move rfl rfl ⟨rfl, rfl⟩) <| dO rfl rfl rfl (op_indexAddr rfl Tryz.underlying70 sz89 (by decide) rfl rfl rfl rfl ⟨rfl, rfl⟩) ?_
   refine dO rfl rfl rfl (op_load_sptr rfl rfl ta89 rfl ⟨rfl, rfl⟩) <| dOps_op rfl rfl (.cons (op_call rfl rfl rfl hco (hp x y _)) .nil) <| dO rfl rfl rfl (op_assign rfl rfl ⟨rfl, rfl⟩) <| dOps_nil <| mwp_block <| mwp_seq <| qR rfl <| qM rfl rfl rfl <| qC rfl rfl rfl rfl rfl <| qA rfl rfl rfl <| qN ?_
   refine mwp_cond_split rfl (fun h42 => ?_) (fun h42 => ?_)
   ·
    refine mwp_draw [5] [_, S ++ [.row 89 2 (out.length + 1)]] mo (by decide) rfl rfl rfl rfl ?_
    refine dO rfl rfl rfl (op_move rfl rfl ⟨rfl, rfl⟩) <| dOps_op rfl rfl (.cons (op_move rfl rfl ⟨rfl, rfl⟩) (.cons (op_move rfl rfl ⟨rfl, rfl⟩) (.nil))) <| dOps_op rfl rfl (.cons (op_indexAddr rfl Tryz.underlying70 sz89 (by decide) rfl rfl rfl rfl ⟨rfl, rfl⟩) (.cons (op_indexAddr rfl Tryz.underlying70 sz89 (by decide) rfl rfl rfl rfl ⟨rfl, rfl⟩) (.nil))) ?_
    refine dOps_op rfl rfl (.cons (op_load_sptr rfl rfl ta89 rfl ⟨rfl, rfl⟩) (.cons (op_load_sptr rfl rfl ta89 rfl ⟨rfl, rfl⟩) (.nil))) <| dO rfl rfl rfl (op_buildSlice rfl Tryz.underlying70 el89 rfl rfl (by decide) (by decide) rfl rfl ⟨rfl, rfl⟩) ?_
    refine dOps_eff rfl rfl rfl rfl (op_append' rfl Tryz.underlying70 el89 rfl rfl rfl (by simp) (by simp only [List.length_cons, List.length_nil, List.length_map, List.length_append] at hl ⊢; omega) (by simp only [List.length_cons, List.length_nil, List.length_map, List.length_append] at hl ⊢; omega) rfl ⟨rfl, rfl⟩) ?_
    refine dOps_op rfl rfl (.cons (op_move rfl rfl ⟨rfl, rfl⟩) (.cons (op_move rfl rfl ⟨rfl, rfl⟩) (.nil))) <| dOps_op rfl rfl (.cons (op_slice rfl Tryz.underlying70 sz89 rfl (.some rfl rfl) .none (by simp) (Nat.le_refl _) ⟨rfl, rfl⟩) (.cons (op_slice rfl Tryz.underlying70 sz89 rfl (.some rfl rfl) .none (by simp) (Nat.le_refl _) ⟨rfl, rfl⟩) (.nil))) ?_
    refine dO rfl rfl rfl (op_assign rfl rfl ⟨rfl, rfl⟩) <| dO rfl rfl rfl (op_assign rfl rfl ⟨rfl, rfl⟩) <| dOps_nil ?_
    simp only [decide_eq_true_eq] at h42
    refine ⟨⟨a', y :: b', out ++ [x]⟩, by simp only [List.length_cons, List.length_append, List.length_nil]; omega, ⟨by simp only [List.length_cons, List.length_append, List.length_nil]; omega, by rw [← he, merge_cons, if_pos h42]; simp⟩, by simp, (.keep rfl (.keep rfl (.nil))), (.eq rfl (by simp [List.take_of_length_le]) (.keep rfl (.eq rfl (by rw [List.map_append]; rfl) (.nil))))⟩
   ·
    refine mwp_seq <| qR rfl <| qM rfl rfl rfl <| qC rfl rfl rfl rfl rfl <| qA rfl rfl rfl <| qN ?_
    refine mwp_cond_split rfl (fun h53 => ?_) (fun h53 => ?_)
    ·
     refine mwp_draw [5] [_, S ++ [.row 89 2 (out.length + 1)]] mo (by decide) rfl rfl rfl rfl ?_
     refine dO rfl rfl rfl (op_move rfl rfl ⟨rfl, rfl⟩) <| dOps_op rfl rfl (.cons (op_move rfl rfl ⟨rfl, rfl⟩) (.cons (op_move rfl rfl ⟨rfl, rfl⟩) (.nil))) <| dOps_op rfl rfl (.cons (op_indexAddr rfl Tryz.underlying70 sz89 (by decide) rfl rfl rfl rfl ⟨rfl, rfl⟩) (.cons (op_indexAddr rfl Tryz.underlying70 sz89 (by decide) rfl rfl rfl rfl ⟨rfl, rfl⟩) (.nil))) ?_
     refine dOps_op rfl rfl (.cons (op_load_sptr rfl rfl ta89 rfl ⟨rfl, rfl⟩) (.cons (op_load_sptr rfl rfl ta89 rfl ⟨rfl, rfl⟩) (.nil))) <| dO rfl rfl rfl (op_buildSlice rfl Tryz.underlying70 el89 rfl rfl (by decide) (by decide) rfl rfl ⟨rfl, rfl⟩) ?_
     refine dOps_eff rfl rfl rfl rfl (op_append' rfl Tryz.underlying70 el89 rfl rfl rfl (by simp) (by simp only [List.length_cons, List.length_nil, List.length_map, List.length_append] at hl ⊢; omega) (by simp only [List.length_cons, List.length_nil, List.length_map, List.length_append] at hl ⊢; omega) rfl ⟨rfl, rfl⟩) ?_
     refine dOps_op rfl rfl (.cons (op_move rfl rfl ⟨rfl, rfl⟩) (.cons (op_move rfl rfl ⟨rfl, rfl⟩) (.nil))) <| dOps_op rfl rfl (.cons (op_slice rfl Tryz.underlying70 sz89 rfl (.some rfl rfl) .none (by simp) (Nat.le_refl _) ⟨rfl, rfl⟩) (.cons (op_slice rfl Tryz.underlying70 sz89 rfl (.some rfl rfl) .none (by simp) (Nat.le_refl _) ⟨rfl, rfl⟩) (.nil))) ?_
     refine dO rfl rfl rfl (op_assign rfl rfl ⟨rfl, rfl⟩) <| dO rfl rfl rfl (op_assign rfl rfl ⟨rfl, rfl⟩) <| dOps_nil ?_
     simp only [decide_eq_true_eq, decide_eq_false_iff_not] at h42 h53
     refine ⟨⟨x :: a', b', out ++ [y]⟩, by simp only [List.length_cons, List.length_append, List.length_nil]; omega, ⟨by simp only [List.length_cons, List.length_append, List.length_nil]; omega, by rw [← he, merge_cons, if_neg h42, if_pos h53]; simp⟩, by simp, (.keep rfl (.keep rfl (.nil))), (.keep rfl (.eq rfl (by simp [List.take_of_length_le]) (.eq rfl (by rw [List.map_append]; rfl) (.nil))))⟩
    ·
     refine mwp_draw [10] [_, S ++ [.row 89 2 (out.length + 1)]] mo (by decide) rfl rfl rfl rfl ?_
     refine dO rfl rfl rfl (op_move rfl rfl ⟨rfl, rfl⟩) <| dOps_op rfl rfl (.cons (op_move rfl rfl ⟨rfl, rfl⟩) (.cons (op_move rfl rfl ⟨rfl, rfl⟩) (.nil))) <| dOps_op rfl rfl (.cons (op_move rfl rfl ⟨rfl, rfl⟩) (.cons (op_move rfl rfl ⟨rfl, rfl⟩) (.nil))) <| dOps_op rfl rfl (.cons (op_indexAddr rfl Tryz.underlying70 sz89 (by decide) rfl rfl rfl rfl ⟨rfl, rfl⟩) (.cons (op_indexAddr rfl Tryz.underlying70 sz89 (by decide) rfl rfl rfl rfl ⟨rfl, rfl⟩) (.nil))) ?_
     refine dOps_op rfl rfl (.cons (op_load_sptr rfl rfl ta89 rfl ⟨rfl, rfl⟩) (.cons (op_load_sptr rfl rfl ta89 rfl ⟨rfl, rfl⟩) (.nil))) <| dOps_op rfl rfl (.cons (op_move rfl rfl ⟨rfl, rfl⟩) (.cons (op_move rfl rfl ⟨rfl, rfl⟩) (.nil))) <| dOps_op rfl rfl (.cons (op_indexAddr rfl Tryz.underlying70 sz89 (by decide) rfl rfl rfl rfl ⟨rfl, rfl⟩) (.cons (op_indexAddr rfl Tryz.underlying70 sz89 (by decide) rfl rfl rfl rfl ⟨rfl, rfl⟩) (.nil))) ?_
     refine dOps_op rfl rfl (.cons (op_load_sptr rfl rfl ta89 rfl ⟨rfl, rfl⟩) (.cons (op_load_sptr rfl rfl ta89 rfl ⟨rfl, rfl⟩) (.nil))) <| dOps_op rfl rfl (.cons (op_call rfl rfl rfl hcb (hq x y _)) .nil) <| dO rfl rfl rfl (op_buildSlice rfl Tryz.underlying70 el89 rfl rfl (by decide) (by decide) rfl rfl ⟨rfl, rfl⟩) ?_
     refine dOps_eff rfl rfl rfl rfl (op_append' rfl Tryz.underlying70 el89 rfl rfl rfl (by simp) (by simp only [List.length_cons, List.length_nil, List.length_map, List.length_append] at hl ⊢; omega) (by simp only [List.length_cons, List.length_nil, List.length_map, List.length_append] at hl ⊢; omega) rfl ⟨rfl, rfl⟩) ?_
     refine dOps_op rfl rfl (.cons (op_move rfl rfl ⟨rfl, rfl⟩) (.cons (op_move rfl rfl ⟨rfl, rfl⟩) (.nil))) <| dOps_op rfl rfl (.cons (op_slice rfl Tryz.underlying70 sz89 rfl (.some rfl rfl) .none (by simp) (Nat.le_refl _) ⟨rfl, rfl⟩) (.cons (op_slice rfl Tryz.underlying70 sz89 rfl (.some rfl rfl) .none (by simp) (Nat.le_refl _) ⟨rfl, rfl⟩) (.nil))) ?_
     refine dOps_op rfl rfl (.cons (op_move rfl rfl ⟨rfl, rfl⟩) (.cons (op_move rfl rfl ⟨rfl, rfl⟩) (.nil))) <| dOps_op rfl rfl (.cons (op_slice rfl Tryz.underlying70 sz89 rfl (.some rfl rfl) .none (by simp) (Nat.le_refl _) ⟨rfl, rfl⟩) (.cons (op_slice rfl Tryz.underlying70 sz89 rfl (.some rfl rfl) .none (by simp) (Nat.le_refl _) ⟨rfl, rfl⟩) (.nil))) ?_
     refine dO rfl rfl rfl (op_assign rfl rfl ⟨rfl, rfl⟩) <| dO rfl rfl rfl (op_assign rfl rfl ⟨rfl, rfl⟩) <| dO rfl rfl rfl (op_assign rfl rfl ⟨rfl, rfl⟩) <| dOps_nil ?_
     simp only [decide_eq_false_iff_not] at h42 h53
     refine ⟨⟨a', b', out ++ [bo x y]⟩, by simp only [List.length_cons, List.length_append, List.length_nil]; omega, ⟨by simp only [List.length_cons, List.length_append, List.length_nil]; omega, by rw [← he, merge_cons, if_neg h42, if_neg h53]; simp⟩, by simp, (.keep rfl (.keep rfl (.nil))), (.eq rfl (by simp [List.take_of_length_le]) (.eq rfl (by simp [List.take_of_length_le]) (.eq rfl (by rw [List.map_append]; rfl) (.nil))))⟩
theorem clkJoin_spec (a b : List Tk) (hab : a.length + b.length ≤ 1000000) (S : MS) : MCalls Tryz.prog 99 [.lst none 2 (a.map encT), .lst none 2 (b.map encT)] S fun v σ' => v = .lst none 2 ((joinF a b).map encT) ∧ σ' = S := by
 refine mcalls_body Tryz.func99 rfl Tryz.ntmps99 (Nat.le_of_ble_eq_true rfl) ?_
 refine mwp_seq <| qR rfl <| qA rfl rfl rfl <| qN <| mwp_seq <| qR rfl <| qM rfl rfl rfl <| qM rfl rfl rfl ?_
 refine wOps_op rfl (op_call rfl rfl rfl co106 ((merge_spec a b (fun x y => cmpI x.1 y.1) bothT 107 108 hab co107 co108 byWho_spec join1_spec _).mono ?_))
 rintro _ _ ⟨rfl, rfl⟩
 refine qA rfl rfl rfl <| qN <| mwp_ret ?_
 exact ret_tmp (.inr rfl) Tryz.results99 rfl (.of_eq (rfl)) (cl_clock _ _) ⟨rfl, rfl⟩
theorem clkCmp_spec (a b : List Tk) (hab : a.length + b.length ≤ 1000000) (S : MS) : MCalls Tryz.prog 83 [.lst none 2 (a.map encT), .lst none 2 (b.map encT)] S fun v σ' => v = .int .i64 (cmpF a b) ∧ σ' = S := by
 refine mcalls_body Tryz.func83 rfl Tryz.ntmps83 (Nat.le_of_ble_eq_true rfl) ?_
 refine mwp_seq <| qR rfl <| qA rfl rfl rfl <| qN <| mwp_seq <| qR rfl <| qM rfl rfl rfl <| qM rfl rfl rfl ?_
 refine wOps_op rfl (op_call rfl rfl rfl co99 ((clkJoin_spec a b hab _).mono ?_))
 rintro _ _ ⟨rfl, rfl⟩
 refine qA rfl rfl rfl <| qN <| mwp_seq <| mwp_block <| mwp_seq <| qR rfl <| qM rfl rfl rfl <| qM rfl rfl rfl ?_
 refine wOps_op rfl (op_call rfl rfl rfl co90 ((clkSame_spec a b _).mono ?_))
 rintro _ _ ⟨rfl, rfl⟩
 refine qA rfl rfl rfl <| qN ?_
 refine mwp_cond_split rfl (fun h9 => ?_) (fun h9 => ?_)
 ·
  refine mwp_seq <| qR rfl <| qA rfl rfl rfl <| qN <| mwp_ret ?_
  exact ret_tmp (.inr rfl) Tryz.results83 rfl (.of_eq (by unfold cmpF; simp_all)) (.int _ _) ⟨rfl, rfl⟩
 ·
  refine mwp_seq <| qR rfl <| qM rfl rfl rfl <| qM rfl rfl rfl ?_
  refine wOps_op rfl (op_call rfl rfl rfl co90 ((clkSame_spec (joinF a b) b _).mono ?_))
  rintro _ _ ⟨rfl, rfl⟩
  refine qA rfl rfl rfl <| qN ?_
  refine mwp_cond_split rfl (fun h13 => ?_) (fun h13 => ?_)
  ·
   refine mwp_seq <| qR rfl <| qA rfl rfl rfl <| qN <| mwp_ret ?_
   exact ret_tmp (.inr rfl) Tryz.results83 rfl (.of_eq (by unfold cmpF; simp_all)) (.int _ _) ⟨rfl, rfl⟩
  ·
   refine mwp_seq <| qR rfl <| qM rfl rfl rfl <| qM rfl rfl rfl ?_
   refine wOps_op rfl (op_call rfl rfl rfl co90 ((clkSame_spec (joinF a b) a _).mono ?_))
   rintro _ _ ⟨rfl, rfl⟩
   refine qA rfl rfl rfl <| qN ?_
   refine mwp_cond_split rfl (fun h17 => ?_) (fun h17 => ?_)
   ·
    refine mwp_seq <| qR rfl <| qA rfl rfl rfl <| qN <| mwp_ret ?_
    exact ret_tmp (.inr rfl) Tryz.results83 rfl (.of_eq (by unfold cmpF; simp_all)) (.int _ _) ⟨rfl, rfl⟩
   ·
    refine mwp_skip <| mwp_seq <| qR rfl <| qA rfl rfl rfl <| qN <| mwp_ret ?_
    exact ret_tmp (.inr rfl) Tryz.results83 rfl (.of_eq (by unfold cmpF; simp_all)) (.int _ _) ⟨rfl, rfl⟩
end Go.Proofs.YthkikhggmbiffaaGreat
end
