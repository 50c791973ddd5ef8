/-
  Texts on which the proof of CodeBack leans: part 2.
-/
import Derived.Test.YtplclefbiimnbaaGreatCodeBackA
import Derived.Laws.StructEq
import Derived.Laws.BytesString
import Derived.Test.YtplclefbiimnbaaGreatProg
import Derived.KernelRfl
import Derived.Lib.AppendStr
import Derived.Lib.UnsafeStr
import Derived.Lib.Builder
import Derived.Lib.Bytealg
import Derived.Laws.Externs
set_option linter.unusedVariables false
set_option linter.unusedSimpArgs false
set_option maxRecDepth 20000
set_option maxHeartbeats 8000000
namespace Go.MV
open Go Go.RowKit
section
theorem Rel.alloc_gen {g : Gh} {σ : MS} {w : World} (h : Rel g σ w) (o : Obj) (mo : MObj)
  (H : ∀ g', Le g w g' (w.alloc o) → g'.bk σ.length = some w.heap.size → g'.st w.heap.size = 0 → ObjRel g' (w.alloc o) (some w.heap.size) σ.length mo) :
  ∃ g', Rel g' (σ ++ [mo]) (w.alloc o) ∧ Le g w g' (w.alloc o) ∧ g'.bk σ.length = some w.heap.size := by
 obtain ⟨own, ho0⟩ := h.ex
 have l1 := Le.alloc_stab h o 0
 have r1 := h.alloc_stab o 0
 have l2 : Le (g.stab w.heap.size 0) (w.alloc o) ((g.stab w.heap.size 0).bind σ.length w.heap.size) (w.alloc o) := Le.bind (r1.bkn σ.length (Nat.le_refl _))
 refine ⟨(g.stab w.heap.size 0).bind σ.length w.heap.size, ⟨r1.below, r1.base, r1.fresh, fun id hid => ?_, fun t n ht => r1.lgn t n (by simp at ht; omega), ?_⟩, l1.trans l2, by simp [Gh.bind]⟩
 ·simp at hid
  simp only [Gh.bind]
  rw [if_neg (by omega)]
  exact r1.bkn id (by omega)
 ·have ho : Owns (g.stab w.heap.size 0) σ (w.alloc o) own := by
   refine ho0.keep l1 (fun id b e => ?_) (fun _ _ => V)
   have hlt := (ho0.lt id b e).2.2
   refine ⟨Below.heap_alloc w o b hlt, ?_⟩
   simp only [Gh.stab]
   rw [if_neg (by omega)]
  have ho' := ho.keep l2 (fun _ _ _ => ⟨rfl, rfl⟩) (fun _ _ => rfl)
  have hold : ∀ id b, own id = some b → b < w.heap.size := fun id b e => (ho0.lt id b e).2.2
  refine ⟨fun id => if id = σ.length then some w.heap.size else own id, ⟨fun id o' hid => ?_, fun i j b hi hj => ?_, fun id b hid => ?_⟩⟩
  ·by_cases e : id = σ.length
   ·subst e
    rw [List.getElem?_append_right (Nat.le_refl _)] at hid
    simp at hid
    subst hid
    simp only [if_true]
    exact H _ (l1.trans l2) (by simp [Gh.bind]) (by simp [Gh.bind, Gh.stab])
   ·rw [if_neg e]
    have hlt : id < σ.length := by
     have := (zI.1 hid).1
     simp at this
     omega
    rw [List.getElem?_append_left hlt] at hid
    exact ho'.obj id o' hid
  ·by_cases ei : i = σ.length <;> by_cases ej : j = σ.length
   ·omega
   ·simp only [ei, if_true] at hi
    simp only [ej, if_false] at hj
    have := hold j b hj
    injection hi with hi
    omega
   ·simp only [ej, if_true] at hj
    simp only [ei, if_false] at hi
    have := hold i b hi
    injection hj with hj
    omega
   ·simp only [ei, ej, if_false] at hi hj
    exact ho'.inj i j b hi hj
  ·by_cases e : id = σ.length
   ·simp only [e, if_true] at hid
    injection hid with hid
    subst hid
    exact ⟨by simp [e], h.size, by simp⟩
   ·simp only [e, if_false] at hid
    obtain ⟨h1, h2, h3⟩ := ho'.lt id b hid
    exact ⟨by simp; omega, h2, h3⟩
theorem Rel.loop_set {g : Gh} {σ : MS} {w : World} (h : Rel g σ w) {id b : Nat} {s : LoopState} {p : Option Code} {ls : LS} (hσ : σ[id]? = some (.loop s p ls)) (hb : g.bk id = some b) {l : Loop} (hl : w.heap[b]? = some (Obj.loop l)) (s' : LoopState) (p' : Option Code) :
    Rel g (σ.set id (.loop s' p' ls)) { w with heap := w.heap.setIfInBounds b (Obj.loop { l with state := s', pending := p' }) } ∧ Le g w g { w with heap := w.heap.setIfInBounds b (Obj.loop { l with state := s', pending := p' }) } := by
  obtain ⟨own, hown⟩ := h.ex
  obtain ⟨b', l', e1, e2, e3, e4, e5, e6, e7, e8, e9, e10⟩ := hown.obj _ _ hσ
  rw [hb] at e2; injection e2 with e2; subst e2
  rw [hl] at e3
  injection e3 with e3
  injection e3 with e3
  subst e3
  have hblt : b < w.heap.size := (Array.getElem?_eq_some_iff.1 hl).1
  have hidlt : id < σ.length := (zI.1 hσ).1
  have hne : ∀ c, c ≠ b → ({ w with heap := w.heap.setIfInBounds b (Obj.loop { l with state := s', pending := p' }) } : World).heap[c]? = w.heap[c]? := fun c hc => by
    show (w.heap.setIfInBounds b _)[c]? = _
    rw [Array.getElem?_setIfInBounds_ne (fun e => hc e.symm)]
  have hbB : g.B ≤ b := (hown.lt id b e1).2.1
  have hcell : ∀ a : Addr, ({ w with heap := w.heap.setIfInBounds b (Obj.loop { l with state := s', pending := p' }) } : World).cell? a = w.cell? a := by
    intro a
    by_cases e : a.block = b
    · simp [World.cell?, e, hl, Array.getElem?_setIfInBounds_self_of_lt hblt]
    · exact World.cell?_of_block (w := w) (hne _ e)
  have hle : Le g w g { w with heap := w.heap.setIfInBounds b (Obj.loop { l with state := s', pending := p' }) } :=
    ⟨⟨rfl, rfl, fun c k hk => ⟨hk, hcell _⟩, fun _ _ h => h, fun _ _ _ h => h, by simp⟩, fun c x hx => by
      have : c ≠ b := fun e => by subst e; rw [hl] at hx; cases hx
      exact (hne c this).trans hx⟩
  refine ⟨⟨⟨h.below.os, h.below.tape, h.below.output, by simpa using h.below.size, fun k hk => (hne k (by omega)).trans (h.below.block k hk)⟩, h.base, fun c hc => h.fresh c (by simpa using hc), fun i hi => h.bkn i (by simpa using hi), fun t k ht => h.lgn t k (by simpa using ht), own, ⟨fun i ob hi => ?_, hown.inj, fun i c hc => ?_⟩⟩, hle⟩
  · rw [List.getElem?_set] at hi
    by_cases e : id = i
    · subst e
      rw [if_pos rfl, if_pos hidlt] at hi
      injection hi with hi
      subst hi
      refine ⟨b, { l with state := s', pending := p' }, e1, hb, ?_, rfl, rfl, e6, e7, e8, e9, e10.mono hle⟩
      show (w.heap.setIfInBounds b _)[b]? = _
      rw [Array.getElem?_setIfInBounds_self_of_lt hblt]
    · rw [if_neg e] at hi
      refine (hown.obj i ob hi).keep0 hle.toLe0 (fun c hc => ⟨hne c (fun ec => ?_), rfl⟩) (fun _ => V)
      subst ec
      exact e (hown.inj _ _ _ e1 hc)
  · obtain ⟨h1, h2, h3⟩ := hown.lt i c hc
    exact ⟨by simpa using h1, h2, by simpa using h3⟩
theorem Rel.loop_at {g : Gh} {σ : MS} {w : World} (h : Rel g σ w) {id : Nat} {s : LoopState} {p : Option Code} {ls : LS} (hσ : σ[id]? = some (.loop s p ls)) : ∃ b l, g.bk id = some b ∧ w.heap[b]? = some (Obj.loop l) ∧ l.state = s ∧ l.pending = p ∧ l.params = ls.params ∧ l.assign = ls.assign ∧ l.body = ls.body ∧ l.tmps.size = ls.n ∧ EnvRd g w ls.env l.tmps := by
 obtain ⟨own, hown⟩ := h.ex
 obtain ⟨b, l, e1, e2, e3, rest⟩ := hown.obj _ _ hσ
 exact ⟨b, l, e2, e3, rest⟩
theorem Rel.gone {g : Gh} {σ : MS} {w : World} (h : Rel g σ w) (id : Nat) : Rel g (σ.set id .gone) w := by
 obtain ⟨own, hown⟩ := h.ex
 refine ⟨h.below, h.base, h.fresh, fun i hi => h.bkn i (by simpa using hi), fun t k ht => h.lgn t k (by simpa using ht), fun i => if i = id then none else own i, ⟨fun i o hi => ?_, fun i j b hi hj => ?_, fun i b hi => ?_⟩⟩
 ·by_cases e : i = id
  ·subst e
   rw [List.getElem?_set] at hi
   rw [if_pos rfl] at hi
   split at hi
   ·injection hi with hi
    subst hi
    simp [ObjRel]
   ·cases hi
  ·rw [if_neg e]
   rw [List.getElem?_set_ne (fun h => e h.symm)] at hi
   exact hown.obj i o hi
 ·split at hi
  ·cases hi
  ·split at hj
   ·cases hj
   ·exact hown.inj i j b hi hj
 ·split at hi
  ·cases hi
  ·obtain ⟨h1, h2⟩ := hown.lt i b hi
   exact ⟨by simpa using h1, h2⟩
section
variable {P : Program} {rd : Option Nat} {N n : Nat} {Q : Exit → Env → MS → Prop} {env : Env} {σ : MS} {o : Oper} {K : MV → MS → Prop}
def bindPs : List Tmp → List MV → Env → Env
 | t :: ts, x :: xs, env => bindPs ts xs ((t, x) :: env)
 | _, _, env => env
theorem bindPs_rd {g : Gh} {w : World} : ∀ {ps : List Tmp} {xs : List MV} {us : List Value} {env : Env} {tmps : Array Value}, Rds g w xs us → (∀ t ∈ ps, t < tmps.size) → EnvRd g w env tmps → EnvRd g w (bindPs ps xs env) ((ps.zip us).foldl (fun tmps (p : Tmp × Value) => tmps.setIfInBounds p.1 p.2) tmps)
 | [], xs, us, env, tmps, _, _, he => by simpa [bindPs] using he
 | t :: ts, [], us, env, tmps, hr, _, he => by
  have : us = [] := List.eq_nil_of_length_eq_zero hr.1
  subst this
  simpa [bindPs] using he
 | t :: ts, x :: xs, us, env, tmps, hr, hb, he => by
  obtain ⟨u, us', rfl, h1, h2⟩ := hr.uncons
  simp only [bindPs, List.zip_cons_cons, List.foldl_cons]
  exact bindPs_rd h2 (fun s hs => by simpa using hb s (zM0 _ hs)) (he.put (hb t (zP0 ..)) h1)
theorem foldl_size : ∀ (l : List (Tmp × Value)) (tmps : Array Value), (l.foldl (fun tmps (p : Tmp × Value) => tmps.setIfInBounds p.1 p.2) tmps).size = tmps.size
 | [], tmps => rfl
 | p :: l, tmps => by rw [List.foldl_cons, foldl_size l]; simp
def RoundQ (id N : Nat) (K : MV → MS → Prop) (e : Exit) (_ : Env) (σf : MS) : Prop :=
 ∃ σ' junk p ls, σf = σ' ++ junk ∧ N ≤ σ'.length ∧ (junk = [] ∨ ClS σ') ∧ σ'[id]? = some (.loop .busy p ls) ∧
  match e with
  | .normal => K (.bool true) (σ'.set id (.loop .ready none ls))
  | .ret => K (.bool false) (σ'.set id (.loop .done (some .ret) ls))
  | .exit x => K (.bool false) (σ'.set id (.loop .done (some (.exit x)) ls))
  | _ => False
theorem run_endRound {w : World} {b : Nat} {l : Loop} (h : w.heap[b]? = some (Obj.loop l)) (j : Option Code) : (Instr.endRound b j).run P w = .ok (.bool j.isNone) { w with heap := w.heap.setIfInBounds b (Obj.loop { l with state := if j.isNone then .ready else .done, pending := j }) } := by
 simp [Instr.endRound, Instr.getLoop, getObj, setObj, Sem.run, h, bind, Sem.bind, pure]
theorem run_beginRound {w : World} {b : Nat} {l : Loop} (h : w.heap[b]? = some (Obj.loop l)) (hs : l.state = .ready) : (Instr.beginRound b).run P w = .ok () { w with heap := w.heap.setIfInBounds b (Obj.loop { l with state := .busy }) } := by
 simp [Instr.beginRound, Instr.getLoop, getObj, setObj, Sem.run, h, hs, bind, Sem.bind, pure]
theorem op_yield {f : Operand} {args : Array Operand} {ts : Array TypeId} {id : Nat} {xs : List MV} {p : Option Code} {ls : LS} (ho : o.op = .call { callee := .value f, args := args, argTypes := ts }) (hf : evo env f = some (.yld id)) (hx : evos env args.toList = some xs)
    (hσ : σ[id]? = some (.loop .ready p ls)) (hps : ls.params.size = args.size) (hpb : ls.params.toList.all (fun t => Nat.blt t ls.n) = true)
    (h : mwp P (some id) σ.length ls.n ls.assign (fun e env1 σ1 => e = .normal ∧ ∃ p1, σ1[id]? = some (.loop .ready p1 ls) ∧ mwp P (some id) σ.length ls.n ls.body (RoundQ id σ.length K) env1 (σ1.set id (.loop .busy p1 ls))) (bindPs ls.params.toList xs ls.env) σ) : OpWp P rd o env σ K := by
  intro g w a F hF hr hop
  refine ⟨fun f _ => hF.fn f, ?_⟩
  rw [Oper.semAt_eq _ _ _ (by simp [ho])]
  obtain ⟨b, hb, e⟩ := (hop f (by simp [ho, Op.operands, Call.operands]) _ hf).inv_yld
  have k3 : Rds g w xs (args.toList.map a.eval) := evos_rds (fun x hx m hm => hop x (by simp [ho, Op.operands, Call.operands]; exact .inr (by simpa using hx)) m hm) hx
  obtain ⟨b', l, hb', hl, l1, l2, l3, l4, l5, l6, l7⟩ := hr.loop_at hσ
  rw [hb] at hb'
  injection hb' with hb'
  subst hb'
  have hidlt : id < σ.length := (zI.1 hσ).1
  have hrun : (execOp a.eval o).run P w = .ok (.round b l.fn ((ls.params.toList.zip (args.toList.map a.eval)).foldl (fun tmps (p : Tmp × Value) => tmps.setIfInBounds p.1 p.2) l.tmps) l.assign l.body) w := by
    have hsz : (Array.map a.eval args).size = l.params.size := by rw [l3, hps]; simp
    have hz : (l.params.zip (Array.map a.eval args)).foldl (fun tmps (p : Tmp × Value) => tmps.setIfInBounds p.1 p.2) l.tmps = (ls.params.toList.zip (args.toList.map a.eval)).foldl (fun tmps (p : Tmp × Value) => tmps.setIfInBounds p.1 p.2) l.tmps := by
      rw [← Array.foldl_toList, Array.toList_zip, l3, Array.toList_map]
    simp [execOp, ho, resolve, e, Deferred.ofValue, invoke, Instr.yield, Instr.getLoop, getObj, Sem.run, hl, bind, Sem.bind, pure, hsz]
    have hmin : min l.params.size args.size = l.params.size := by rw [l3, hps]; simp
    simpa [hmin] using hz
  rw [hrun]
  refine ⟨fun h => hF.depth h, ?_⟩
  have hFr : ∀ {F' : Fence}, FOk g rd F' → F'.inRound b = Fence.wide.inRound b := by
    intro F' hF'
    cases rd with
    | none => rw [show F' = Fence.wide from hF']
    | some i => obtain ⟨c, _, e⟩ := hF'; rw [e]; rfl
  have hR : ∀ R, RoundIn Fence.wide 0 P b l.fn ((ls.params.toList.zip (args.toList.map a.eval)).foldl (fun tmps (p : Tmp × Value) => tmps.setIfInBounds p.1 p.2) l.tmps) l.assign l.body w R → RoundIn F (0 - 1) P b l.fn ((ls.params.toList.zip (args.toList.map a.eval)).foldl (fun tmps (p : Tmp × Value) => tmps.setIfInBounds p.1 p.2) l.tmps) l.assign l.body w R := by
    intro R hR
    cases rd with
    | none => rw [show F = Fence.wide from hF]; exact hR
    | some i => obtain ⟨c, _, e⟩ := hF; rw [e]; exact hR
  refine hR _ (roundIn_of_wpIn trivial ?_)
  have hFb : FOkN σ.length g (some id) (Fence.wide.inRound b) := ⟨hidlt, b, hb, rfl⟩
  have hne : EnvRd g w (bindPs ls.params.toList xs ls.env) ((ls.params.toList.zip (args.toList.map a.eval)).foldl (fun tmps (p : Tmp × Value) => tmps.setIfInBounds p.1 p.2) l.tmps) :=
    bindPs_rd k3 (fun t ht => by rw [List.all_eq_true] at hpb; have := hpb t ht; rw [l6]; simpa using this) l7
  rw [l4]
  refine wpIn_mono (h g w { tmps := _, defers := [] } _ w.heap.size hFb hr hne (by rw [foldl_size]; exact l6) (Marks.nil w)) ?_
  rintro e1 a1 w1 ⟨env1, σ1, g1, ⟨rfl, p1, hσ1, hbody⟩, hr1, he1, hl1, hn1, hm1⟩
  obtain ⟨b1, lo1, hb1, hlo1, m1, m2, m3, m4, m5, m6, m7⟩ := hr1.loop_at hσ1
  have hbb : b1 = b := by
    have := hl1.bk _ _ hidlt hb
    rw [hb1] at this
    injection this
  subst hbb
  obtain ⟨hr2, hle2⟩ := hr1.loop_set hσ1 hb1 hlo1 .busy p1
  have e2 : ({ lo1 with state := LoopState.busy, pending := p1 } : Loop) = { lo1 with state := .busy } := by rw [← m2]
  rw [e2] at hr2 hle2
  refine ⟨_, run_beginRound hlo1 m1, ?_⟩
  rw [l5]
  refine wpIn_mono (hbody g1 _ a1 _ w.heap.size (hFb.mono hl1) hr2 (he1.mono hle2) hn1 (hm1.mono hle2)) ?_
  rintro e3 a3 w3 ⟨env3, σ3, g3, ⟨σ', junk, p3, ls3, hσ3, hN, hcl, hlo, hK⟩, hr3, he3, hl3, hn3, hm3⟩
  subst hσ3
  have hr4 : ∃ g4, Rel g4 σ' w3 ∧ LeN σ.length g3 w3 g4 w3 := by
    rcases hcl with rfl | hcl
    · exact ⟨g3, by simpa using hr3, .refl _ _ _⟩
    · refine ⟨g3.cut σ'.length, hr3.cut' hcl, ⟨rfl, rfl, fun _ _ h => ⟨h, rfl⟩, fun i c hi hc => ?_, fun t k v ht hv => ?_, Nat.le_refl _, fun _ _ h => h⟩⟩
      · simp only [Gh.cut]; rw [if_pos (by omega)]; exact hc
      · simp only [Gh.cut]; rw [if_pos (by omega)]; exact hv
  obtain ⟨g4, hr4, hl4⟩ := hr4
  obtain ⟨b5, lo5, hb5, hlo5, q1, q2, q3, q4, q5, q6, q7⟩ := hr4.loop_at hlo
  have hall : LeN σ.length g w g4 w3 := hl1.trans ((hle2.toN _).trans (hl3.trans hl4))
  have hbb : b5 = b1 := by
    have := hall.bk _ _ hidlt hb
    rw [hb5] at this
    injection this
  subst hbb
  have fin : ∀ (j : Option Code) (bo : Bool), bo = j.isNone → K (.bool bo) (σ'.set id (.loop (if j.isNone then .ready else .done) j ls3)) → ∃ v w', (Instr.endRound b5 j).run P w3 = .ok v w' ∧
      ((fun (x : Ending) w'' => match x, w'' with
        | .returned v, w'' => ∃ v1, a.put o.dst v = a.put o.dst v1 ∧ Gets g w K v1 w''
        | .panicked chain, w'' => False
        | .outgrown, _ => LetsOut (fun _ _ _ => False)) (.returned v) w') := by
    intro j bo hbo hK
    refine ⟨_, _, run_endRound hlo5 j, ?_⟩
    obtain ⟨hr6, hle6⟩ := hr4.loop_set hlo hb5 hlo5 (if j.isNone then .ready else .done) j
    subst hbo
    exact ⟨_, rfl, _, _, g4, hK, hr6, .bool _, (hall.trans (hle6.toN _)).le hr.bkn hr.lgn⟩
  cases e3 with
  | normal => exact fin none true rfl hK
  | ret => exact fin (some .ret) false rfl hK
  | exit x => exact fin (some (.exit x)) false rfl hK
  | goto t => exact hK.elim
  | panic c => exact hK.elim
  | outgrown => exact hK.elim
def RangeQ (id : Nat) (ls : LS) (env : Env) (Q : Exit → Env → MS → Prop) (σ' : MS) : Prop :=
 ∃ s p, σ'[id]? = some (.loop s p ls) ∧ s ≠ .busy ∧
  match p with
  | none => Q .normal env (σ'.set id .gone)
  | some .ret => Q .ret env (σ'.set id .gone)
  | some (.exit x) => Q (.exit x) env (σ'.set id .gone)
  | _ => False
theorem set_set_gone (σ : MS) (id : Nat) (o : MObj) : (σ.set id o).set id .gone = σ.set id .gone := by simp
theorem run_endLoop {w : World} {b : Nat} {l : Loop} (h : w.heap[b]? = some (Obj.loop l)) (hs : l.state ≠ .busy) : (Instr.endLoop b).run P w = .ok l.pending { w with heap := w.heap.setIfInBounds b (Obj.loop { l with state := .exhausted }) } := by
 have hb : (l.state == LoopState.busy) = false := by
  cases hh : l.state <;> first | rfl | exact absurd hh hs
 simp [Instr.endLoop, Instr.getLoop, getObj, setObj, Sem.run, h, hb, bind, Sem.bind, pure]
 intro hh
 exact absurd hh hs
theorem mwp_range {f : Operand} {ps : Array Tmp} {assign body : Code} {k : FuncId} {first caps : List MV} (hf : evo env f = some (.fn (.func k) first caps)) (hb : CallOk P k) (hrd : ∀ id, rd = some id → ∃ s p ls, σ[id]? = some (.loop s p ls)) (hN : N ≤ σ.length)
  (h : MCalls P k (first ++ [.yld σ.length] ++ caps) (σ ++ [.loop .ready none ⟨ps, assign, body, env, n⟩]) (fun _ σ' => RangeQ σ.length ⟨ps, assign, body, env, n⟩ env Q σ')) : mwp P rd N n (.rangeFunc f ps assign body) Q env σ := by
 intro g w a F m0 hF hr he hn hm
 refine wpIn_rangeFunc fun fn hfn => ?_
 have hrec : ∃ (mark : List Deferred) (w1 : World) (gd : Gh), (Instr.enterLoop fn a.tmps ps assign body F.round).run P w = .ok (w1.heap.size, mark) (w1.alloc (Obj.loop { state := .ready, pending := none, fn := fn, tmps := a.tmps, params := ps, assign := assign, body := body, defers := (match F.round with | none => w.heap.size | some b => (match w.heap[b]? with | some (Obj.loop l) => l.defers | _ => 0)) })) ∧
   Rel gd σ w1 ∧ Le g w gd w1 ∧ Marks m0 (w1.alloc (Obj.loop { state := .ready, pending := none, fn := fn, tmps := a.tmps, params := ps, assign := assign, body := body, defers := (match F.round with | none => w.heap.size | some b => (match w.heap[b]? with | some (Obj.loop l) => l.defers | _ => 0)) })) (mark ++ a.defers) := by
  cases hro : F.round with
  | none =>
   have hl := Le.alloc_stab hr (Obj.deferred (some [])) 0
   refine ⟨[{ target := .collected w.heap.size, args := #[] }], w.alloc (Obj.deferred (some [])), _, ?_, hr.alloc_stab (Obj.deferred (some [])) 0, hl, ?_⟩
   ·simp [Instr.enterLoop]
   ·have hl2 := hl.trans (Le.alloc_stab (hr.alloc_stab (Obj.deferred (some [])) 0) (Obj.loop { state := .ready, pending := none, fn := fn, tmps := a.tmps, params := ps, assign := assign, body := body, defers := w.heap.size }) 0)
    have hm' := hm.mono hl2
    refine ⟨hm'.1, fun d hd => ?_, ?_⟩
    ·rcases List.mem_cons.1 hd with rfl | hd
     ·refine ⟨w.heap.size, hm.1, rfl, ?_⟩
      rw [Below.heap_alloc _ _ _ (by simp)]
      exact heap_new w _
     ·exact hm'.2.1 d hd
    ·refine zY1.2 ⟨fun d hd r s hr hs => ?_, hm'.2.2⟩
     obtain ⟨q, _, rfl, hq⟩ := hm.2.1 d hd
     injection hr with hr
     injection hs with hs
     subst hr hs
     have := (Array.getElem?_eq_some_iff.1 hq).1
     omega
  | some b =>
   obtain ⟨id, hid⟩ : ∃ id, rd = some id := by
    cases rd with
    | none => rw [show F = Fence.wide from hF] at hro; cases hro
    | some id => exact ⟨id, rfl⟩
   subst hid
   obtain ⟨s, p, ls, hσ⟩ := hrd id rfl
   obtain ⟨hidN, b', hb', hFb⟩ := hF
   obtain ⟨b2, l, hb2, hl, _⟩ := hr.loop_at hσ
   rw [hb'] at hb2
   injection hb2 with hb2
   subst hb2
   have hbb : b' = b := by
    rw [hFb] at hro
    injection hro
   subst hbb
   refine ⟨[], w, g, ?_, hr, .refl _ _, ?_⟩
   ·have hgl : (Instr.getLoop b').run P w = .ok l w := by simp [Instr.getLoop, getObj, Sem.run, hl, bind, Sem.bind, pure]
    simp [Instr.enterLoop, hgl, hl]
   ·exact hm.mono (Le.alloc_stab hr _ 0)
 obtain ⟨mark, w1, gd, hent, hrd1, hle1, hmark⟩ := hrec
 generalize hL : ({ state := .ready, pending := none, fn := fn, tmps := a.tmps, params := ps, assign := assign, body := body, defers := (match F.round with | none => w.heap.size | some b => (match w.heap[b]? with | some (Obj.loop l) => l.defers | _ => 0)) } : Loop) = lo at hent hmark
 have f1 : lo.state = .ready := by rw [← hL]
 have f2 : lo.pending = none := by rw [← hL]
 have f3 : lo.params = ps := by rw [← hL]
 have f4 : lo.assign = assign := by rw [← hL]
 have f5 : lo.body = body := by rw [← hL]
 have f6 : lo.tmps = a.tmps := by rw [← hL]
 clear hL
 obtain ⟨g2, hr2, hle2, hb2⟩ := hrd1.alloc_gen (Obj.loop lo) (.loop .ready none ⟨ps, assign, body, env, n⟩) (fun g' hl' hb' hs' => by
  refine ⟨w1.heap.size, lo, rfl, hb', heap_new w1 _, f1, f2, f3, f4, f5, by rw [f6]; exact hn, ?_⟩
  rw [f6]
  exact (he.mono hle1).mono hl')
 have hfv := evo_rd ((he.mono hle1).mono hle2) hf
 obtain ⟨us, vs, e, k1, k2⟩ := hfv.inv_fn
 have hlall := hle1.trans hle2
 have hc := h g2 (w1.alloc (Obj.loop lo)) (us ++ [Value.func (Fn.yield w1.heap.size) #[] #[]] ++ vs) hr2 ((k1.append (.cons (.yld _ _ hb2) (.nil _ _))).append k2)
 have hcF := hF.ok.calls (m := 0 - 1) hc
 refine ⟨w1.heap.size, mark, w1.alloc (Obj.loop lo), { target := .fn (.func k) vs.toArray, args := us.toArray ++ #[Value.func (Fn.yield w1.heap.size) #[] #[]] }, w1.alloc (Obj.loop lo), k, (us ++ [Value.func (Fn.yield w1.heap.size) #[] #[]] ++ vs).toArray, w1.alloc (Obj.loop lo), hent, ?_, fun f' _ => hF.ok.fn f', ?_, fun h => hF.ok.depth h, hcF.mono ?_⟩
 ·have e0 : (a.eval f) = .func (.func k) us.toArray vs.toArray := e
  have e1 : a.eval (.const (Value.func (Fn.yield w1.heap.size) #[] #[])) = Value.func (Fn.yield w1.heap.size) #[] #[] := rfl
  simp [resolve, rangeCall, e0, e1, Deferred.ofValue]
 ·simp [invoke, hb.run]
 ·rintro e3 w3 ⟨v, rfl, x, σ3, g3, ⟨s, p, hσ3, hsb, hp⟩, hr3, hv3, hl3⟩
  obtain ⟨b4, l4, hb4, hlo4, q1, q2, q3⟩ := hr3.loop_at hσ3
  have hbb : b4 = w1.heap.size := by
   have := hl3.bk _ _ hb2
   rw [hb4] at this
   injection this
  subst hbb
  obtain ⟨hr5, hl5⟩ := hr3.loop_set hσ3 hb4 hlo4 .exhausted p
  have e5 : ({ l4 with state := LoopState.exhausted, pending := p } : Loop) = { l4 with state := .exhausted } := by rw [← q2]
  rw [e5] at hr5 hl5
  have hr6 := hr5.gone σ.length
  rw [set_set_gone] at hr6
  have hlfin := hlall.trans (hl3.trans hl5)
  have hmk : Marks m0 _ (mark ++ a.defers) := (hmark.mono hl3).mono hl5
  refine ⟨l4.pending, _, run_endLoop hlo4 (by rw [q1]; exact hsb), ?_⟩
  generalize hw5 : ({ w3 with heap := w3.heap.setIfInBounds w1.heap.size (Obj.loop { l4 with state := .exhausted }) } : World) = w5 at hr6 hlfin hmk ⊢
  rw [q2]
  have fin : ∀ ex, Q ex env (σ3.set σ.length .gone) → Left_ N g w n m0 Q ex { a with defers := mark ++ a.defers } w5 := fun ex hq => ⟨env, _, g3, hq, hr6, he.mono hlfin, hlfin.toN N, hn, hmk⟩
  cases p with
  | none => exact fin .normal hp
  | some c =>
   cases c with
   | ret => exact wpIn_ret (fin .ret hp)
   | exit x => exact wpIn_exit (fin (.exit x) hp)
   | _ => exact hp.elim
end
end
section
section
variable {P : Program} {fn : Func} {S L : MS} {R : MV → MS → Prop} {env : Env}
theorem mcalls_body {f : FuncId} {c : Code} {args : List MV} {n : Nat} (hf : P.funcs[f]? = some fn) (hb : fn.body = some c) (hn : fn.ntmps = n) (ha : args.length ≤ n)
  (h : mwp P none S.length n c (BodyQ P fn S R) (argEnv 0 args) (S ++ [])) : MCalls P f args S R := by
 refine mcalls_of_body hf hb hn ha ?_
 rw [List.append_nil] at h
 exact h
theorem _root_.zN : type_of% @mcalls_body := @mcalls_body
theorem ret_tmp {e : Exit} {t : Nat} {x y : MV} (he : e = .normal ∨ e = .ret) (hres : fn.results = #[.tmp t]) (hx : get env t = some x) (hs : Sub x y) (hc : Cl S.length y) (hR : R y S) : BodyQ P fn S R e env (S ++ L) := by
 refine ⟨he, [x], y, S, L, ?_, hs, hc, rfl, Nat.le_refl _, .inl rfl, hR⟩
 rw [hres]
 exact .tmp hx .nil
theorem _root_.zK : type_of% @ret_tmp := @ret_tmp
theorem ret_cell {e : Exit} {a t k off : Nat} {l : List MV} {ta : Option Nat} {x y : MV} (he : e = .normal ∨ e = .ret) (hres : fn.results = #[.cell a t]) (ha : get env a = some (.ref (S.length + k) off)) (hl : L[k]? = some (.cells l)) (ht : tyAgg P t = some ta) (hm : loadMV ta l off = some x) (hs : Sub x y) (hc : Cl S.length y) (hR : R y S) : BodyQ P fn S R e env (S ++ L) := by
 refine ⟨he, [x], y, S, L, ?_, hs, hc, rfl, Nat.le_refl _, .inl rfl, hR⟩
 rw [hres]
 exact .cell ha (by rw [getElem?_own]; exact hl) ht hm .nil
theorem _root_.zA4 : type_of% @ret_cell := @ret_cell
theorem Sub.of_eq {x y : MV} (h : x = y) : Sub x y := h ▸ .refl x
theorem wrap_i64 {n : Int} (h : -9223372036854775808 ≤ n ∧ n ≤ 9223372036854775807) : IntKind.i64.wrap n = n := by
 rw [IntKind.wrap_i64]; omega
theorem _root_.zF3 : type_of% @wrap_i64 := @wrap_i64
end
theorem int_succ {i n : Nat} (h : i < n) (hn : n ≤ maxLen) : MV.int .i64 (IntKind.i64.wrap ((i : Int) + 1)) = .int .i64 ((i + 1 : Nat) : Int) := by
 rw [zF3 (by simp only [maxLen] at hn; omega)]
 rfl
theorem _root_.zH1 : type_of% @int_succ := @int_succ
section
variable {P : Program} {rd : Option Nat} {N n : Nat} {Q : Exit → Env → MS → Prop} {env : Env} {σ : MS} {c : Code}
theorem mwp_len {t : Nat} {tok : Option Nat} {sz : Nat} {xs : List MV} (ht : get env t = some (.lst tok sz xs)) (h : xs.length ≤ maxLen → mwp P rd N n c Q env σ) : mwp P rd N n c Q env σ := by
 intro g w a F m0 hF hr he hn hm
 obtain ⟨v, _, hv⟩ := he t _ ht
 obtain ⟨_, _, _, _, h1, h2, _⟩ := hv.inv_lst
 exact h (by omega) g w a F m0 hF hr he hn hm
theorem _root_.zP2 : type_of% @mwp_len := @mwp_len
end
section
variable {P : Program} {rd : Option Nat} {N n : Nat} {Q : Exit → Env → MS → Prop} {env : Env} {S L : MS} {c : Code}
end
inductive Sch where
 | mk (kind : Int) (ins : List Sch)
 deriving Inhabited
mutual
def encS : Sch → MV
 | .mk k ins => .agg [.int .i64 k, .lst none 2 (encSs ins)]
def encSs : List Sch → List MV
 | [] => []
 | s :: l => encS s :: encSs l
end
theorem encSs_eq : ∀ l : List Sch, encSs l = l.map encS
 | [] => by simp [encSs]
 | s :: l => by simp [encSs, encSs_eq l]
theorem _root_.zH : type_of% @List.length_map := @List.length_map
theorem encSs_length (l : List Sch) : (encSs l).length = l.length := by rw [encSs_eq, zH]
theorem _root_.zF2 : type_of% @encSs_length := @encSs_length
theorem _root_.zJ1 : type_of% @List.getElem?_map := @List.getElem?_map
theorem encSs_get {l : List Sch} {i : Nat} {s : Sch} (h : l[i]? = some s) : (encSs l)[i]? = some (encS s) := by rw [encSs_eq, zJ1, h]; rfl
mutual
theorem cl_encS (n : Nat) : ∀ s : Sch, Cl n (encS s)
 | .mk k ins => by
  refine .agg _ fun x hx => ?_
  simp only [encS, List.mem_cons, List.not_mem_nil, or_false] at hx
  rcases hx with rfl | rfl
  ·exact .int _ _
  ·exact .lst none 2 _ (fun t ht => by cases ht) (cl_encSs n ins)
theorem cl_encSs (n : Nat) : ∀ (l : List Sch), ∀ x ∈ flat (encSs l), Cl n x
 | [], x, hx => by simp [encSs, flat] at hx
 | s :: l, x, hx => by
  rw [encSs, zQ4, zX1] at hx
  rcases hx with hx | hx
  ·have h := cl_encS n s
   cases s with
   | mk k ins =>
    cases h with
    | agg _ h => exact h x hx
  ·exact cl_encSs n l x hx
end
end
section
section
variable {P : Program} {rd : Option Nat} {o : Oper} {env : Env} {σ : MS} {K : MV → MS → Prop}
theorem op_rem {t t' : TypeId} {x y : Operand} {k : IntKind} {m n r : Int} (ho : o.op = .binOp .rem t x y t') (hx : evo env x = some (.int k m)) (hy : evo env y = some (.int k n)) (hn : n ≠ 0) (hr : m.tmod n = r) (h : K (.int k r) σ) : OpWp P rd o env σ K := by
 refine op_bin ho hx hy (fun _ _ _ h => h.inv_int) (fun _ _ _ h => h.inv_int) (vz := .int k r) (fun w => ?_) V h
 subst hr
 simp [eqGuard, binOp, Op.intDiv, hn]
theorem op_quo {t t' : TypeId} {x y : Operand} {k : IntKind} {m n r : Int} (ho : o.op = .binOp .quo t x y t') (hx : evo env x = some (.int k m)) (hy : evo env y = some (.int k n)) (hn : n ≠ 0) (hr : k.wrap (m.tdiv n) = r) (h : K (.int k r) σ) : OpWp P rd o env σ K := by
 refine op_bin ho hx hy (fun _ _ _ h => h.inv_int) (fun _ _ _ h => h.inv_int) (vz := .int k r) (fun w => ?_) V h
 subst hr
 simp [eqGuard, binOp, Op.intDiv, hn]
def bitsI : BinOp → IntKind → Int → Int → Option Int
 | .and, k, m, n => some (k.wrap (BitVec.ofInt k.bits m &&& BitVec.ofInt k.bits n).toNat)
 | .or, k, m, n => some (k.wrap (BitVec.ofInt k.bits m ||| BitVec.ofInt k.bits n).toNat)
 | .xor, k, m, n => some (k.wrap (BitVec.ofInt k.bits m ^^^ BitVec.ofInt k.bits n).toNat)
 | .andNot, k, m, n => some (k.wrap (BitVec.ofInt k.bits m &&& ~~~BitVec.ofInt k.bits n).toNat)
 | _, _, _, _ => none
theorem op_bits {b : BinOp} {t t' : TypeId} {x y : Operand} {k : IntKind} {m n r : Int} (ho : o.op = .binOp b t x y t') (hx : evo env x = some (.int k m)) (hy : evo env y = some (.int k n)) (hr : bitsI b k m n = some r) (h : K (.int k r) σ) : OpWp P rd o env σ K := by
 refine op_bin ho hx hy (fun _ _ _ h => h.inv_int) (fun _ _ _ h => h.inv_int) (vz := .int k r) (fun w => ?_) V h
 cases b <;> simp only [bitsI, Option.some.injEq] at hr <;> first | (cases hr; done) | (subst hr; simp [eqGuard, binOp, Op.intBits]; done)
theorem op_shr {t t' : TypeId} {x y : Operand} {k k' : IntKind} {m n r : Int} (ho : o.op = .binOp .shr t x y t') (hx : evo env x = some (.int k m)) (hy : evo env y = some (.int k' n)) (hn : 0 ≤ n) (hr : m.fdiv (2 ^ min n.toNat k.bits) = r) (h : K (.int k r) σ) : OpWp P rd o env σ K := by
 refine op_bin ho hx hy (fun _ _ _ h => h.inv_int) (fun _ _ _ h => h.inv_int) (vz := .int k r) (fun w => ?_) V h
 subst hr
 have : ¬ n < 0 := by omega
 simp [eqGuard, binOp, Op.shift, this]
theorem op_shl {t t' : TypeId} {x y : Operand} {k k' : IntKind} {m n r : Int} (ho : o.op = .binOp .shl t x y t') (hx : evo env x = some (.int k m)) (hy : evo env y = some (.int k' n)) (hn : 0 ≤ n) (hr : k.wrap (m * 2 ^ min n.toNat k.bits) = r) (h : K (.int k r) σ) : OpWp P rd o env σ K := by
 refine op_bin ho hx hy (fun _ _ _ h => h.inv_int) (fun _ _ _ h => h.inv_int) (vz := .int k r) (fun w => ?_) V h
 subst hr
 have : ¬ n < 0 := by omega
 simp [eqGuard, binOp, Op.shift, this]
theorem op_strcat {t t' : TypeId} {x y : Operand} {s u : Bs} (ho : o.op = .binOp .add t x y t') (hx : evo env x = some (.str (bs s))) (hy : evo env y = some (.str (bs u))) (hl : s.length + u.length ≤ 9223372036854775807) (h : K (.str (bs (s ++ u))) σ) : OpWp P rd o env σ K := by
 have e : bs s ++ bs u = bs (s ++ u) := by
  apply ByteArray.ext
  simp [bs]
 refine op_bin ho hx hy (fun _ _ _ h => h.inv_str) (fun _ _ _ h => h.inv_str) (vz := .string (bs (s ++ u))) (fun w => ?_) V h
 have hs : ¬ (((bs s).size + (bs u).size : Nat) : Int) > IntKind.i64.max := by
  rw [bs_size, bs_size]
  show ¬ ((_ : Nat) : Int) > 9223372036854775807
  omega
 simp only [eqGuard, binOp, Op.stringOp, if_neg hs, e]
 rfl
theorem _root_.zD5 : type_of% @op_strcat := @op_strcat
theorem op_convInt {t t' : TypeId} {x : Operand} {k k' : IntKind} {n r : Int} {d : TypeDesc} (ho : o.op = .convert t t' x) (hs : P.underlying t = some d) (ht : P.underlying t' = some (.int k)) (hx : evo env x = some (.int k' n)) (hr : k.wrap n = r) (h : K (.int k r) σ) : OpWp P rd o env σ K := by
 subst hr
 refine OpWp.of_run (by simp [ho]) fun g w a hr hop => ⟨.int k (k.wrap n), w, ?_, .same h hr (.int _ _)⟩
 have hv := (hop x (by simp [ho, Op.operands]) _ hx).inv_int
 simp [execOp, ho, convert, run_underlying hs, run_underlying ht, hv, Conv.intToInt]
theorem _root_.zR1 : type_of% @op_convInt := @op_convInt
theorem op_index_str {t : TypeId} {x y : Operand} {k : IntKind} {n : Int} {i : Nat} {l : Bs} {b : UInt8} (ho : o.op = .index t x y) (hu : P.underlying t = some .string) (hx : evo env x = some (.str (bs l))) (hy : evo env y = some (.int k n)) (hn : n = (i : Int)) (hm : l[i]? = some b) (h : K (.int .u8 (b.toNat : Int)) σ) : OpWp P rd o env σ K := by
 subst hn
 refine OpWp.of_run (by simp [ho]) fun g w a hr hop => ⟨.int .u8 (b.toNat : Int), w, ?_, .same h hr (.int _ _)⟩
 have hv := (hop x (by simp [ho, Op.operands]) _ hx).inv_str
 have hv2 := (hop y (by simp [ho, Op.operands]) _ hy).inv_int
 have e : (bs l)[i]? = some b := by
  have hlt : i < l.length := (zI.1 hm).1
  have hlt' : i < (bs l).size := by rw [bs_size]; exact hlt
  rw [getElem?_pos (bs l) i hlt']
  rw [zD hlt] at hm
  injection hm with hm
  rw [← hm]
  rfl
 have e1 : (if (0 : Int) ≤ (i : Int) then (bs l)[((i : Int)).toNat]? else none) = some b := by
  rw [if_pos (by omega)]
  simpa using e
 simp only [execOp, ho, Instr.index, Sem.run_bind, hv, hv2, asIntOf, Sem.run_pure, Result.andThen_ok, run_underlying hu, e1]
theorem op_slice_str {t : TypeId} {x : Operand} {lo hi : Option Operand} {l : Bs} {i j : Nat} (ho : o.op = .slice t x lo hi none) (hu : P.underlying t = some .string) (hx : evo env x = some (.str (bs l)))
  (hlo : OptInt env 0 lo i) (hhi : OptInt env l.length hi j) (hij : i ≤ j) (hj : j ≤ l.length) (h : K (.str (bs ((l.drop i).take (j - i)))) σ) : OpWp P rd o env σ K := by
 refine OpWp.of_run (by simp [ho]) fun g w a hr hop => ?_
 refine ⟨_, w, ?_, .same h hr (.str _)⟩
 have hv := (hop x (by simp [ho, Op.operands]) _ hx).inv_str
 have e1 : ∀ (x' : Operand) (k : IntKind) (n : Int), lo = some x' → evo env x' = some (.int k n) → a.eval x' = .int k n := fun x' k n e he => (hop x' (by simp [ho, Op.operands, e]) _ he).inv_int
 have e2 : ∀ (x' : Operand) (k : IntKind) (n : Int), hi = some x' → evo env x' = some (.int k n) → a.eval x' = .int k n := fun x' k n e he => (hop x' (by simp [ho, Op.operands, e]) _ he).inv_int
 have e : (bs l).extract i j = bs ((l.drop i).take (j - i)) := by
  apply ByteArray.ext
  simp [bs, ByteArray.data_extract, List.extract_toArray, List.extract_eq_take_drop]
 have hsz := bs_size l
 cases hlo with
 | none =>
  cases hhi with
  | none => simp [execOp, ho, Instr.sliceAt, Instr.slice, run_underlying hu, hv, Instr.sliceBounds, hsz, e]
  | some he en =>
   subst en
   simp [execOp, ho, Instr.sliceAt, Instr.slice, run_underlying hu, hv, Instr.sliceBounds, Instr.sliceBound, asIntOf, e2 _ _ _ rfl he, hsz, hj, e]
 | some he en =>
  subst en
  cases hhi with
  | none => simp [execOp, ho, Instr.sliceAt, Instr.slice, run_underlying hu, hv, Instr.sliceBounds, Instr.sliceBound, asIntOf, e1 _ _ _ rfl he, hsz, hij, e]
  | some he' en' =>
   subst en'
   simp [execOp, ho, Instr.sliceAt, Instr.slice, run_underlying hu, hv, Instr.sliceBounds, Instr.sliceBound, asIntOf, e1 _ _ _ rfl he, e2 _ _ _ rfl he', hsz, hij, hj, e]
theorem _root_.zR2 : type_of% @op_slice_str := @op_slice_str
theorem op_ptr0 {b : BinOp} {r : Bool} {t e t' : TypeId} {x y : Operand} (ho : o.op = .binOp b t x y t') (hu : P.underlying t = some (.pointer e)) (hx : evo env x = some .ptr0) (hy : evo env y = some .ptr0) (hb : b = .eql ∧ r = true ∨ b = .neq ∧ r = false) (h : K (.bool r) σ) : OpWp P rd o env σ K := by
 refine op_bin ho hx hy (fun _ _ _ h => h.inv_ptr0) (fun _ _ _ h => h.inv_ptr0) (vz := .bool r) (fun w => ?_) V h
 have h9 : ∀ d : Nat, (Op.equalIn (d + 1) t (.pointer none) (.pointer none)).run P w = .ok true w := fun d => by simp [Op.equalIn, run_underlying hu]
 rcases hb with ⟨rfl, rfl⟩ | ⟨rfl, rfl⟩ <;> (simp only [eqGuard, binOp]; simp [Op.equal, Op.maxDepth, h9 9999])
def MV.isPtr : MV → Bool
 | .ref _ _ | .sptr _ | .orf _ _ _ => true
 | _ => false
theorem ptr_some {g : Gh} {w : World} {m : MV} {v : Value} (h : Rd g w m v) (hm : m.isPtr = true) : ∃ a, v = .pointer (some a) := by
 cases h <;> first | (cases hm; done) | exact ⟨_, rfl⟩
theorem op_ptrnil {b : BinOp} {r : Bool} {t e t' : TypeId} {x y : Operand} {m : MV} (ho : o.op = .binOp b t x y t') (hu : P.underlying t = some (.pointer e)) (hx : evo env x = some m) (hm : m.isPtr = true) (hy : evo env y = some .ptr0) (hb : b = .eql ∧ r = false ∨ b = .neq ∧ r = true) (h : K (.bool r) σ) : OpWp P rd o env σ K := by
 refine OpWp.of_run (by rcases hb with ⟨rfl, rfl⟩ | Vv <;> simp [ho]) fun g w a hr hop => ?_
 obtain ⟨ad, e1⟩ := ptr_some (hop x (by simp [ho, Op.operands]) _ hx) hm
 have e2 := (hop y (by simp [ho, Op.operands]) _ hy).inv_ptr0
 refine ⟨.bool r, w, ?_, .same h hr (.bool _)⟩
 have h9 : ∀ d : Nat, (Op.equalIn (d + 1) t (.pointer (some ad)) (.pointer none)).run P w = .ok false w := fun d => by simp [Op.equalIn, run_underlying hu]
 rcases hb with ⟨rfl, rfl⟩ | ⟨rfl, rfl⟩ <;> (simp only [execOp, ho, e1, e2, Sem.run_bind, Sem.run_pure]; simp [eqGuard, binOp, Op.equal, Op.maxDepth, h9 9999])
theorem op_if0 {b : BinOp} {r : Bool} {t t' : TypeId} {x : Operand} {c : Value} {ms : Array (String × TypeId)} (ho : o.op = .binOp b t x (.const c) t') (hu : P.underlying t = some (.interface ms)) (hx : evo env x = some .iface0) (hy : evo env (.const c) = some .iface0) (hb : b = .eql ∧ r = true ∨ b = .neq ∧ r = false) (h : K (.bool r) σ) : OpWp P rd o env σ K := by
 refine op_bin ho hx hy (fun _ _ _ h => h.inv_iface0) (fun _ _ _ h => h.inv_iface0) (vz := .bool r) (fun w => ?_) V h
 have h9 : ∀ d : Nat, (Op.equalIn (d + 1) t .nilIface .nilIface).run P w = .ok true w := fun d => by simp [Op.equalIn, run_underlying hu]
 rcases hb with ⟨rfl, rfl⟩ | ⟨rfl, rfl⟩ <;> (simp only [eqGuard, binOp]; simp [Op.equal, Op.maxDepth, h9 9999])
theorem _root_.zC4 : type_of% @op_if0 := @op_if0
theorem op_ifnil {b : BinOp} {r : Bool} {t e t' : TypeId} {x y : Operand} {m : MV} {ms : Array (String × TypeId)} (ho : o.op = .binOp b t x y t') (hu : P.underlying t = some (.interface ms)) (hx : evo env x = some (.iface e m)) (hy : evo env y = some .iface0) (hb : b = .eql ∧ r = false ∨ b = .neq ∧ r = true) (h : K (.bool r) σ) : OpWp P rd o env σ K := by
 refine OpWp.of_run (by rcases hb with ⟨rfl, rfl⟩ | Vv <;> simp [ho]) fun g w a hr hop => ?_
 obtain ⟨u, e1, _⟩ := (hop x (by simp [ho, Op.operands]) _ hx).inv_iface
 have e2 := (hop y (by simp [ho, Op.operands]) _ hy).inv_iface0
 refine ⟨.bool r, w, ?_, .same h hr (.bool _)⟩
 have h9 : ∀ d : Nat, (Op.equalIn (d + 1) t (.iface e u) .nilIface).run P w = .ok false w := fun d => by simp [Op.equalIn, run_underlying hu]
 rcases hb with ⟨rfl, rfl⟩ | ⟨rfl, rfl⟩ <;> (simp only [execOp, ho, e1, e2, Sem.run_bind, Sem.run_pure]; simp [eqGuard, binOp, Op.equal, Op.maxDepth, h9 9999])
theorem _root_.zY2 : type_of% @op_ifnil := @op_ifnil
theorem nat_tmod (a b : Nat) : Int.tmod (a : Int) (b : Int) = ((a % b : Nat) : Int) := rfl
theorem wrap_u64 {n : Int} (h : 0 ≤ n ∧ n < 18446744073709551616) : IntKind.u64.wrap n = n := by
 simp [IntKind.wrap, IntKind.signed, IntKind.bits]
 omega
theorem _root_.zJ3 : type_of% @wrap_u64 := @wrap_u64
theorem wrap_u8 {n : Int} (h : 0 ≤ n ∧ n < 256) : IntKind.u8.wrap n = n := by
 simp [IntKind.wrap, IntKind.signed, IntKind.bits]
 omega
theorem wadd {a b c : Nat} (h : a + b = c) (hc : c < 9223372036854775808) : intArith .add .i64 (a : Int) (b : Int) = some (c : Int) := by
 simp only [intArith]
 rw [zF3 (by omega)]
 congr 1
 omega
theorem wsub {a b c : Nat} (h : b + c = a) (hc : a < 9223372036854775808) : intArith .sub .i64 (a : Int) (b : Int) = some (c : Int) := by
 simp only [intArith]
 rw [zF3 (by omega)]
 congr 1
 omega
end
end
def eqOne : TypeDesc → MV → MV → Option Bool
 | .int _, .int k a, .int k' b => if k = k' then some (a == b) else none
 | .bool, .bool a, .bool b => some (a == b)
 | .string, .str a, .str b => some (strL a == strL b)
 | _, _, _ => none
def eqFs (P : Program) (l l' : List MV) : List Field → Option Bool
 | [] => some true
 | f :: fs => match P.underlying f.type, l[f.offset]?, l'[f.offset]? with
  | some d, some x, some y => match eqOne d x y, eqFs P l l' fs with
   | some a, some b => some (a && b)
   | _, _ => none
  | _, _, _ => none
def flatStruct (P : Program) (t : TypeId) : Bool := match P.underlying t with
 | some (.struct fs) => !P.stoodInHeld t && !P.eqGuardType P.depth t && fs.toList.all (fun f => f.name != "_" && match P.underlying f.type with | some (.int _) | some .bool | some .string => true | _ => false)
 | _ => false
theorem eqOne_run {P : Program} {g : Gh} {w w' : World} {t : TypeId} {d : TypeDesc} (hu : P.underlying t = some d) {x y : MV} {u v : Value} {r : Bool} (h : eqOne d x y = some r) (hx : Rd g w x u) (hy : Rd g w y v) (n : Nat) : (Op.equalIn (n + 1) t u v).run P w' = .ok r w' := by
 unfold eqOne at h
 split at h
 ·rw [hx.inv_int, hy.inv_int]
  split at h
  ·rename_i k a k' b hk
   subst hk
   injection h with h
   subst h
   simp [Op.equalIn, run_underlying hu]
  ·cases h
 ·rw [hx.inv_bool, hy.inv_bool]
  injection h with h
  subst h
  simp [Op.equalIn, run_underlying hu]
 ·rw [hx.inv_str, hy.inv_str]
  injection h with h
  subst h
  rw [run_equalIn_string _ _ _ _ _ hu]
  rw [ByteArray.toList_eq, ByteArray.toList_eq]
  rfl
 ·cases h
theorem eqFs_run {P : Program} {g : Gh} {w w' : World} {l l' : List MV} {us vs : List Value} (hl : Rds g w l us) (hl' : Rds g w l' vs) (n : Nat) : ∀ {fs : List Field} {r : Bool}, (fs.all fun f => f.name != "_" && match P.underlying f.type with | some (.int _) | some .bool | some .string => true | _ => false) = true → eqFs P l l' fs = some r → (Op.eqFields (n + 1) us.toArray vs.toArray fs).run P w' = .ok r w'
 | [], r, _, h => by
  injection h with h
  subst h
  simp [Op.eqFields]
 | f :: fs, r, hall, h => by
  simp only [List.all_cons, Bool.and_eq_true] at hall
  unfold eqFs at h
  split at h
  ·rename_i d x y hu hx hy
   split at h
   ·rename_i a b ha hb
    injection h with h
    subst h
    have ih := eqFs_run (w' := w') hl hl' n hall.2 hb
    obtain ⟨u, hu1, hu2⟩ := hl.get hx
    obtain ⟨v, hv1, hv2⟩ := hl'.get hy
    have hagg : (isAgg f.type).run P w' = .ok false w' := by
     have := hall.1.2
     rw [hu] at this
     unfold isAgg
     simp only [Sem.run_bind, run_underlying hu, Result.andThen_ok]
     cases d <;> first | rfl | (cases this; done)
    have hp1 : (part f.type us.toArray f.offset).run P w' = .ok u w' := by
     unfold part
     simp [hagg, hu1]
    have hp2 : (part f.type vs.toArray f.offset).run P w' = .ok v w' := by
     unfold part
     simp [hagg, hv1]
    have hn : f.name ≠ "_" := by simpa using hall.1.1
    have he := eqOne_run (w' := w') hu ha hu2 hv2 n
    simp only [Op.eqFields, if_pos hn, Sem.run_bind, hp1, hp2, he, Result.andThen_ok]
    cases a with
    | true => simpa using ih
    | false => simp
   ·cases h
  ·cases h
theorem op_eqstruct {P : Program} {rd : Option Nat} {o : Oper} {env : Env} {σ : MS} {K : MV → MS → Prop} {b : BinOp} {r r' : Bool} {t t' : TypeId} {x y : Operand} {l l' : List MV} (ho : o.op = .binOp b t x y t') (hf : flatStruct P t = true) (hx : evo env x = some (.agg l)) (hy : evo env y = some (.agg l'))
  (he : eqFs P l l' (P.fieldsOf t).toList = some r) (hb : b = .eql ∧ r' = r ∨ b = .neq ∧ r' = !r) (h : K (.bool r') σ) : OpWp P rd o env σ K := by
 refine OpWp.of_run (by rcases hb with ⟨rfl, rfl⟩ | Vv <;> simp [ho]) fun g w a hr hop => ?_
 obtain ⟨us, e1, h1⟩ := (hop x (by simp [ho, Op.operands]) _ hx).inv_agg
 obtain ⟨vs, e2, h2⟩ := (hop y (by simp [ho, Op.operands]) _ hy).inv_agg
 refine ⟨.bool r', w, ?_, .same h hr (.bool _)⟩
 unfold flatStruct at hf
 split at hf
 ·rename_i fs hu
  simp only [Bool.and_eq_true, Bool.not_eq_true'] at hf
  have hfo : P.fieldsOf t = fs := by simp [Program.fieldsOf, hu]
  rw [hfo] at he
  have hrun := eqFs_run (w' := w) h1 h2 9998 hf.2 he
  have hq : (Op.equalIn 10000 t (.agg us.toArray) (.agg vs.toArray)).run P w = .ok r w := by
   rw [run_equalIn_struct w 9999 t us.toArray vs.toArray (by rw [hfo]; exact hu) hf.1.1, hfo]
   exact hrun
  rcases hb with ⟨rfl, rfl⟩ | ⟨rfl, rfl⟩ <;> (simp only [execOp, ho, e1, e2, Sem.run_bind, Sem.run_pure]; simp [eqGuard, binOp, Op.equal, Op.maxDepth, hq, hf.1.2])
 ·cases hf
section
section
variable {P : Program} {rd : Option Nat} {N n : Nat} {Q : Exit → Env → MS → Prop} {env : Env} {S L : MS} {c : Code}
theorem EnvSub.app {env A B : Env} (h : EnvSub env A) (k : EnvSub env B) : EnvSub env (A ++ B) := by
 induction h with
 | nil => exact k
 | cons h1 h2 _ ih => exact .cons h1 h2 ih
theorem EnvTo.app {n : Nat} {env E0 A B : Env} (h : EnvTo n env E0 A) (k : EnvTo n env E0 B) : EnvTo n env E0 (A ++ B) := by
 induction h with
 | nil => exact k
 | old h1 h2 _ ih => exact .old h1 h2 ih
 | new h1 h2 h3 _ ih => exact .new h1 h2 h3 ih
theorem mwp_loopK {α : Type} {L0 : MS} (K : Env) (E : α → Env) (L : α → MS) (I : α → Prop) (m : α → Nat) (x₀ : α) (hK : EnvSub env K) (hE : EnvSub env (E x₀)) (h₀ : I x₀) (hL : L0 = L x₀)
  (round : ∀ x, I x → mwp P rd N n c (ThenM (fun env' σ' => ∃ y, m y < m x ∧ I y ∧ σ' = S ++ L y ∧ EnvSub env' K ∧ EnvSub env' (E y)) Q) (K ++ E x) (S ++ L x)) : mwp P rd N n (.loop c) Q env (S ++ L0) := by
 refine mwp_loop0 (fun x => K ++ E x) L I m x₀ h₀ hL (hK.app hE) fun x hx => mwp_mono (round x hx) fun e env' σ' h => ?_
 cases e with
 | normal =>
  obtain ⟨y, h1, h2, h3, h4, h5⟩ := h
  exact ⟨y, h1, h2, h3, h4.app h5⟩
 | _ => exact h
theorem _root_.zD1 : type_of% @mwp_loopK := @mwp_loopK
theorem mwp_loopKJ {α : Type} {L0 : MS} (K : Env) (E : α → Env) (L : α → MS) (I : α → Prop) (m : α → Nat) (x₀ : α) (hN : N ≤ S.length) (hK : EnvSub env K) (hE : EnvSub env (E x₀)) (h₀ : I x₀) (hL : L0 = L x₀)
  (round : ∀ x, I x → mwp P rd N n c (ThenM (fun env' σ' => ∃ y junk, m y < m x ∧ I y ∧ σ' = S ++ (L y ++ junk) ∧ LTo (S.length + (L x).length) (L x) (L y) ∧ EnvTo (S.length + (L x).length) env' (K ++ E x) K ∧ EnvTo (S.length + (L x).length) env' (K ++ E x) (E y)) Q) (K ++ E x) (S ++ L x)) : mwp P rd N n (.loop c) Q env (S ++ L0) := by
 refine mwp_loopJ (fun x => K ++ E x) L I m x₀ hN h₀ hL (hK.app hE) fun x hx => mwp_mono (round x hx) fun e env' σ' h => ?_
 cases e with
 | normal =>
  obtain ⟨y, junk, h1, h2, h3, h4, h5, h6⟩ := h
  exact ⟨y, junk, h1, h2, h3, h4, h5.app h6⟩
 | _ => exact h
theorem mwp_row0 {L' : MS} (t ty sz : Nat) {k : Nat} (ht : get env t = some .lst0) (hN : N ≤ S.length) (hk : L.length = k) (hL : L ++ [.row ty sz 0] = L') (h : mwp P rd N n c Q ((t, .lst (some (S.length + k)) sz []) :: env) (S ++ L')) : mwp P rd N n c Q env (S ++ L) := by
 subst hk hL
 refine mwp_ghost (fun g w tmps hr he => ?_) h
 obtain ⟨r1, l1, d1⟩ := tok_new hr ty sz
 have hlen : (S ++ L).length = S.length + L.length := zF
 refine ⟨_, by rw [← zR]; exact r1, fun s y hy => ?_, l1.toN N, fun F hF => hF.mono (l1.toN N)⟩
 by_cases e : t = s
 ·subst e
  rw [zW3] at hy
  injection hy with hy
  subst hy
  obtain ⟨v, hv, hrd⟩ := he t _ ht
  refine ⟨v, hv, ?_⟩
  rw [hrd.inv_lst0, ← hlen]
  exact d1
 ·rw [zD4 _ _ e] at hy
  obtain ⟨v, hv, hrd⟩ := he s y hy
  exact ⟨v, hv, hrd.mono l1⟩
end
theorem wOps_case {P : Program} {rd : Option Nat} {ops : Array Oper} {Q : Env → MS → Prop} {rest : List Oper} {t : Nat} {e : Bool} {env : Env} {σ : MS} (hT : e = true → wOps P rd ops Q rest ((t, .bool true) :: env) σ) (hF : e = false → wOps P rd ops Q rest ((t, .bool false) :: env) σ) : wOps P rd ops Q rest (putd (some t) (.bool e) env) σ := by
 cases e
 ·exact hF rfl
 ·exact hT rfl
theorem _root_.zB0 : type_of% @wOps_case := @wOps_case
theorem dOps_case {P : Program} {rd : Option Nat} {ops : Array Oper} {eff : List Nat} {Ss : List MS} {Q : Env → Prop} {rest : List Oper} {i t : Nat} {e : Bool} {env : Env} (hT : e = true → dOps P rd ops eff Ss Q rest i ((t, .bool true) :: env)) (hF : e = false → dOps P rd ops eff Ss Q rest i ((t, .bool false) :: env)) : dOps P rd ops eff Ss Q rest i (putd (some t) (.bool e) env) := by
 cases e
 ·exact hF rfl
 ·exact hT rfl
theorem _root_.zS2 : type_of% @dOps_case := @dOps_case
theorem op_min2' {P : Program} {rd : Option Nat} {o : Oper} {env : Env} {σ : MS} {K : MV → MS → Prop} {ts : Array TypeId} {x y : Operand} {k : IntKind} {m n r : Int} (ho : o.op = .call { callee := .builtin .min, args := #[x, y], argTypes := ts }) (hx : evo env x = some (.int k m)) (hy : evo env y = some (.int k n)) (hr : (if n < m then n else m) = r) (h : K (.int k r) σ) : OpWp P rd o env σ K := op_min2 ho hx hy (hr ▸ h)
theorem cl_flat {α : Type} {en : α → MV} {n : Nat} {l : List α} (h : ∀ a ∈ l, Cl n (en a)) (hc : ∀ a, en a = .agg (en a).cells ∨ [en a] = (en a).cells) : ∀ x ∈ flat (l.map en), Cl n x := by
 intro x hx
 obtain ⟨y, hy, hx⟩ := List.mem_flatMap.1 hx
 obtain ⟨a, ha, rfl⟩ := List.mem_map.1 hy
 rcases hc a with e | e
 ·have := h a ha
  rw [e] at this
  cases this with
  | agg _ h => exact h x hx
 ·rw [← e] at hx
  simp at hx
  subst hx
  exact h a ha
theorem cl_lst {α : Type} {en : α → MV} {n sz : Nat} {l : List α} (h : ∀ a, Cl n (en a)) (hc : ∀ a, en a = .agg (en a).cells ∨ [en a] = (en a).cells) : Cl n (.lst none sz (l.map en)) := .lst none sz _ (fun t ht => by cases ht) (cl_flat (fun a _ => h a) hc)
theorem cl_lstT {α : Type} {en : α → MV} {n sz t : Nat} {l : List α} (ht : t < n) (h : ∀ a, Cl n (en a)) (hc : ∀ a, en a = .agg (en a).cells ∨ [en a] = (en a).cells) : Cl n (.lst (some t) sz (l.map en)) := .lst _ sz _ (fun s hs => by injection hs with hs; omega) (cl_flat (fun a _ => h a) hc)
theorem get_map {α : Type} {en : α → MV} {l : List α} {i : Nat} {a : α} (h : l[i]? = some a) : (l.map en)[i]? = some (en a) := by rw [zJ1, h]; rfl
theorem _root_.zE1 : type_of% @get_map := @get_map
end
section
section
variable {P : Program} {rd : Option Nat} {o : Oper} {env : Env} {σ S L : MS} {K : MV → MS → Prop}
theorem op_nilCheck {x : Operand} {m : MV} (ho : o.op = .nilCheck x) (hx : evo env x = some m) (hm : m.isPtr = true) (h : K m σ) : OpWp P rd o env σ K := by
 refine OpWp.of_run (by simp [ho]) fun g w a hr hop => ?_
 have hv := hop x (by simp [ho, Op.operands]) _ hx
 obtain ⟨ad, e⟩ := ptr_some hv hm
 refine ⟨_, w, ?_, .same h hr hv⟩
 simp [execOp, ho, e, Instr.sureAddr]
theorem _root_.zE0 : type_of% @op_nilCheck := @op_nilCheck
theorem op_store_far {t : TypeId} {x y : Operand} {id off : Nat} {l : List MV} {m : MV} {k : Nat} (ho : o.op = .store t x y) (hx : evo env x = some (.ref id off)) (hy : evo env y = some m) (hσ : S[id]? = some (.cells l)) (hk : szOf P t = some k) (hm : m.cells.length = k)
  (h1 : m.cells.all MV.one = true) (hle : off + k ≤ l.length) (h : K (.tup []) (S.set id (.cells (setMany l off m.cells)) ++ L)) : OpWp P rd o env (S ++ L) K := by
 have hlt := (zI.1 hσ).1
 refine zZ3 ho hx hy (by rw [List.getElem?_append_left hlt]; exact hσ) hk hm h1 hle ?_
 rw [List.set_append_left _ _ hlt]
 exact h
end
section
variable {P : Program} {fn : Func} {S S' L : MS} {R : MV → MS → Prop} {env : Env}
theorem ret_tmpS {e : Exit} {t : Nat} {x y : MV} (he : e = .normal ∨ e = .ret) (hres : fn.results = #[.tmp t]) (hx : get env t = some x) (hs : Sub x y) (hc : Cl S'.length y) (hl : S.length ≤ S'.length) (hS : ClS S') (hR : R y S') : BodyQ P fn S R e env (S' ++ L) := by
 refine ⟨he, [x], y, S', L, ?_, hs, hc, rfl, hl, .inr hS, hR⟩
 rw [hres]
 exact .tmp hx .nil
theorem _root_.zE2 : type_of% @ret_tmpS := @ret_tmpS
theorem ret_noneS {e : Exit} (he : e = .normal ∨ e = .ret) (hres : fn.results = #[]) (hl : S.length ≤ S'.length) (hS : ClS S') (hR : R (.tup []) S') : BodyQ P fn S R e env (S' ++ L) := by
 refine ⟨he, [], .tup [], S', L, ?_, .refl _, .tup _ (by simp), rfl, hl, .inr hS, hR⟩
 rw [hres]
 exact .nil
theorem _root_.zT2 : type_of% @ret_noneS := @ret_noneS
end
theorem ClS.set {S : MS} (h : ClS S) {id : Nat} {o : MObj} (ho : o.cl S.length) : ClS (S.set id o) := by
 intro i p hp
 rw [List.length_set]
 rw [List.getElem?_set] at hp
 split at hp
 ·split at hp
  ·injection hp with hp
   subst hp
   exact ho
  ·cases hp
 ·exact h i p hp
theorem get_app {S L : MS} {id : Nat} {o : MObj} (h : S[id]? = some o) : (S ++ L)[id]? = some o := by
 rw [List.getElem?_append_left (zI.1 h).1]
 exact h
theorem get_set {S : MS} {id : Nat} {o p : MObj} (h : S[id]? = some o) : (S.set id p)[id]? = some p := by
 rw [List.getElem?_set, if_pos rfl, if_pos (zI.1 h).1]
theorem _root_.zE3 : type_of% @get_set := @get_set
theorem set_app {S L : MS} {id : Nat} {o p : MObj} (h : S[id]? = some o) : (S ++ L).set id p = S.set id p ++ L := List.set_append_left _ _ (zI.1 h).1
theorem set_set {S : MS} {id : Nat} {o p : MObj} : (S.set id o).set id p = S.set id p := by simp
theorem _root_.zI3 : type_of% @set_set := @set_set
end
def encY (b : UInt8) : MV := .int .u8 (b.toNat : Int)
theorem flat_encY (l : Bs) : flat (l.map encY) = l.map encY := by
 induction l with
 | nil => rfl
 | cons b l ih => rw [List.map_cons, zQ4, ih]; rfl
theorem fold_push : ∀ (l acc : Bs), (l.map fun b => (b.toNat : Int)).foldl (fun r n => r.push (UInt8.ofNat n.toNat)) (bs acc) = bs (acc ++ l)
 | [], acc => by simp
 | b :: l, acc => by
  have e : (bs acc).push (UInt8.ofNat ((b.toNat : Int)).toNat) = bs (acc ++ [b]) := by
   apply ByteArray.ext
   simp [bs, ByteArray.push]
  rw [List.map_cons, List.foldl_cons, e, fold_push l (acc ++ [b]), zR]
  rfl
theorem us_bytes {g : Gh} {w : World} : ∀ {l : Bs} {us : List Value}, Rds g w (l.map encY) us → us = (l.map fun b => (b.toNat : Int)).map (Value.int .u8)
 | [], us, h => by
  have := h.1
  simp at this
  simp [this]
 | b :: l, us, h => by
  obtain ⟨u, us', rfl, h1, h2⟩ := Rds.uncons h
  rw [us_bytes h2, h1.inv_int]
  rfl
theorem op_conv_bytes {P : Program} {rd : Option Nat} {o : Oper} {env : Env} {σ : MS} {K : MV → MS → Prop} {t t' e : TypeId} {x : Operand} {tok : Option Nat} {xs : List MV} {l : Bs} (ho : o.op = .convert t t' x) (hs : P.underlying t = some (.slice e)) (he : P.underlying e = some (.int .u8)) (ht : P.underlying t' = some .string)
  (hx : evo env x = some (.lst tok 1 xs)) (hxs : xs = l.map encY) (h : K (.str (bs l)) σ) : OpWp P rd o env σ K := by
 subst hxs
 refine OpWp.of_run (by simp [ho]) fun g w a hr hop => ⟨.string (bs l), w, ?_, .same h hr (.str _)⟩
 obtain ⟨ad, c, us, hv, h1, h2, h3, h4, h5, _⟩ := (hop x (by simp [ho, Op.operands]) _ hx).inv_lst
 rw [flat_encY] at h4
 have hus := us_bytes h4
 simp only [execOp, ho, hv, Sem.run_bind, run_convert_bytes_string w t t' e _ _ _ hs he ht]
 cases ad with
 | none =>
  have hl : l = [] := by
   cases l with
   | nil => rfl
   | cons b l =>
    exfalso
    have hp : 0 < us.length := by rw [h4.1]; simp
    obtain ⟨ad, ha, _⟩ := h5 0 us[0] (zD hp)
    cases ha
  subst hl
  rfl
 | some ad =>
  have hrun := run_loadCells_list (P := P) (w := w) ad us (fun j v hv => by
   obtain ⟨ad', ea, hst⟩ := h5 j v hv
   injection ea with ea
   subst ea
   exact hst.2.1)
  have hlen : us.length = (l.map encY).length := h4.1
  rw [hlen, hus] at hrun
  rw [run_bytesToString w ad _ _ _ hrun]
  have := fold_push l []
  rw [List.nil_append] at this
  have e0 : bs [] = ByteArray.empty := rfl
  rw [e0] at this
  rw [this]
  rfl
theorem op_len_bs {P : Program} {rd : Option Nat} {o : Oper} {env : Env} {σ : MS} {K : MV → MS → Prop} {x : Operand} {l : Bs} {t : TypeId} (ho : o.op = .call { callee := .builtin .len, args := #[x], argTypes := #[t] }) (hu : P.underlying t = some .string) (hx : evo env x = some (.str (bs l)))
  (h : K (.int .i64 (l.length : Int)) σ) : OpWp P rd o env σ K := op_len_str ho hu hx (by rw [bs_size]; exact h)
theorem _root_.zD2 : type_of% @op_len_bs := @op_len_bs
def numB (n : Nat) : Bs := if h : n < 128 then [UInt8.ofNat n] else UInt8.ofNat (n % 128 + 128) :: numB (n / 128)
 termination_by n
 decreasing_by omega
def textB (s : Bs) : Bs := numB s.length ++ s
def xorI (h : Int) (b : UInt8) : Int := IntKind.u64.wrap (BitVec.ofInt IntKind.u64.bits h ^^^ BitVec.ofInt IntKind.u64.bits (b.toNat : Int)).toNat
def hashStep (h : Int) (b : UInt8) : Int := IntKind.u64.wrap (xorI h b * 1099511628211)
def hashB (l : Bs) : Int := l.foldl hashStep 14695981039346656037
theorem numB_len {n : Nat} (h : n < 2097152) : 1 ≤ (numB n).length ∧ (numB n).length ≤ 3 := by
 rw [numB]
 split
 ·simp
 ·rw [numB]
  split
  ·simp
  ·rw [numB]
   split
   ·simp
   ·omega
theorem u8_toNat {n : Nat} (h : n < 256) : (UInt8.ofNat n).toNat = n := by simp [UInt8.toNat_ofNat']; omega
section
section
variable {P : Program} {rd : Option Nat} {N n : Nat} {o : Oper} {rest : List Oper} {ops : Array Oper} {env : Env} {σ S L : MS} {c c1 c2 : Code} {Q : Exit → Env → MS → Prop} {W : Env → MS → Prop}
theorem qM {x : Operand} {m : MV} (hg : guardOk ops env o = some true) (ho : o.op = .move x) (hx : evo env x = some m) (h : wOps P rd ops W rest (putd o.dst m env) σ) : wOps P rd ops W (o :: rest) env σ := zH3 hg (zY ho hx h)
theorem qA {x : Operand} {m : MV} (hg : guardOk ops env o = some true) (ho : o.op = .assign x) (hx : evo env x = some m) (h : wOps P rd ops W rest (putd o.dst m env) σ) : wOps P rd ops W (o :: rest) env σ := zH3 hg (zC1 ho hx h)
theorem qP {x y z : Operand} {b : Bool} {m : MV} (hg : guardOk ops env o = some true) (ho : o.op = .pick x y z) (hc : evo env x = some (.bool b)) (hm : evo env (if b then y else z) = some m) (h : wOps P rd ops W rest (putd o.dst m env) σ) : wOps P rd ops W (o :: rest) env σ := zH3 hg (zP1 ho hc hm h)
theorem qC {b : BinOp} {t t' : TypeId} {x y : Operand} {k : IntKind} {m p : Int} {r : Bool} (hg : guardOk ops env o = some true) (ho : o.op = .binOp b t x y t') (hx : evo env x = some (.int k m)) (hy : evo env y = some (.int k p)) (hr : intCmp b m p = some r) (h : wOps P rd ops W rest (putd o.dst (.bool r) env) σ) : wOps P rd ops W (o :: rest) env σ := zH3 hg (zX2 ho hx hy hr h)
theorem qL {t : TypeId} {x : Operand} {k off : Nat} {l : List MV} {ta : Option Nat} {m : MV} (hg : guardOk ops env o = some true) (ho : o.op = .load t x) (hx : evo env x = some (.ref (S.length + k) off)) (hσ : L[k]? = some (.cells l)) (ht : tyAgg P t = some ta) (hm : loadMV ta l off = some m) (h : wOps P rd ops W rest (putd o.dst m env) (S ++ L)) : wOps P rd ops W (o :: rest) env (S ++ L) := zH3 hg (zL0 ho hx hσ ht hm h)
theorem qF {t : TypeId} {x : Operand} {f id off fo : Nat} {ft : TypeId} (hg : guardOk ops env o = some true) (ho : o.op = .fieldAddr t x f) (hx : evo env x = some (.ref id off)) (hf : fieldOff P t f = some (fo, ft)) (h : wOps P rd ops W rest (putd o.dst (.ref id (off + fo)) env) σ) : wOps P rd ops W (o :: rest) env σ := zH3 hg (zL ho hx hf h)
theorem qB {t : TypeId} {x : Operand} {m : MV} {k : Nat} {L' : MS} (hg : guardOk ops env o = some true) (ho : o.op = .box t x) (hx : evo env x = some m) (hk : L.length = k) (hL : L ++ [.cells m.cells] = L') (h : wOps P rd ops W rest (putd o.dst (.ref (S.length + k) 0) env) (S ++ L')) : wOps P rd ops W (o :: rest) env (S ++ L) := zH3 hg (op_box' ho hx hk hL h)
theorem qE {x : Operand} {tok : Option Nat} {sz : Nat} {xs : List MV} {t e : TypeId} (hg : guardOk ops env o = some true) (ho : o.op = .call { callee := .builtin .len, args := #[x], argTypes := #[t] }) (hu : P.underlying t = some (.slice e)) (hx : evo env x = some (.lst tok sz xs)) (h : wOps P rd ops W rest (putd o.dst (.int .i64 (xs.length : Int)) env) σ) : wOps P rd ops W (o :: rest) env σ := zH3 hg (op_len_lst ho hu hx h)
theorem qS (hg : guardOk ops env o = some false) (h : wOps P rd ops W rest (putd o.dst (.tup []) env) σ) : wOps P rd ops W (o :: rest) env σ := wOps_skip hg h
theorem qO (hg : guardOk ops env o = some true) (h : OpWp P rd o env σ fun x σ' => wOps P rd ops W rest (putd o.dst x env) σ') : wOps P rd ops W (o :: rest) env σ := zH3 hg h
theorem qN (h : W env σ) : wOps P rd ops W [] env σ := h
theorem qR {id : Nat} (hb : dstsOk n ops = true) (h : wOps P rd ops (fun env σ => Q .normal env σ) ops.toList env σ) : mwp P rd N n (.region id ops false) Q env σ := mwp_region hb h
section
variable {eff : List Nat} {Ss : List MS} {D : Env → Prop} {i : Nat} {s : MS} {m : MV}
theorem dO (hg : guardOk ops env o = some true) (he : effAt i eff 0 = none) (hs : span_ Ss (loOf ops o eff 0 0) (hiOf ops i eff 0) = [s]) (h : OpWp P rd o env s fun x' σ' => x' = m ∧ σ' = s) (hr : dOps P rd ops eff Ss D rest (i + 1) (putd o.dst m env)) : dOps P rd ops eff Ss D (o :: rest) i env := zV hg he (by rw [hs]; exact .cons h .nil) hr
theorem dS (hg : guardOk ops env o = some false) (he : effAt i eff 0 = none) (hr : dOps P rd ops eff Ss D rest (i + 1) (putd o.dst (.tup []) env)) : dOps P rd ops eff Ss D (o :: rest) i env := dOps_skip hg he hr
end
end
theorem qX {P : Program} {rd : Option Nat} {o : Oper} {rest : List Oper} {ops : Array Oper} {env : Env} {σ : MS} {W : Env → MS → Prop} {f : Operand} {args : Array Operand} {ts : Array TypeId} {k : FuncId} {first caps xs : List MV} {X : MV} {T : MS} (hg : guardOk ops env o = some true) (ho : o.op = .call { callee := .value f, args := args, argTypes := ts }) (hf : evo env f = some (.fn (.func k) first caps)) (hx : evos env args.toList = some xs) (hb : CallOk P k) (h : MCalls P k (first ++ xs ++ caps) σ fun v σ' => v = X ∧ σ' = T) (hr : wOps P rd ops W rest (putd o.dst X env) T) : wOps P rd ops W (o :: rest) env σ := zH3 hg (zX0 ho hf hx hb (h.mono fun v σ' e => by obtain ⟨rfl, rfl⟩ := e; exact hr))
theorem qT {P : Program} {rd : Option Nat} {o o2 o3 o4 : Oper} {rest : List Oper} {ops : Array Oper} {env : Env} {σ : MS} {W : Env → MS → Prop} (h1 : guardOk ops env o = some false) (h2 : guardOk ops (putd o.dst (.tup []) env) o2 = some false) (h3 : guardOk ops (putd o2.dst (.tup []) (putd o.dst (.tup []) env)) o3 = some false) (h4 : guardOk ops (putd o3.dst (.tup []) (putd o2.dst (.tup []) (putd o.dst (.tup []) env))) o4 = some false) (h : wOps P rd ops W rest (putd o4.dst (.tup []) (putd o3.dst (.tup []) (putd o2.dst (.tup []) (putd o.dst (.tup []) env)))) σ) : wOps P rd ops W (o :: o2 :: o3 :: o4 :: rest) env σ := qS h1 <| qS h2 <| qS h3 <| qS h4 h
end
end Go.MV
namespace Go.Proofs.YtplclefbiimnbaaGreat
open Go Go.MV
theorem mo : Tryz.prog.follows .mixedOrders = true := by kernel_rfl
theorem ta3 : tyAgg Tryz.prog 3 = some none := by kernel_rfl
theorem sz3 : szOf Tryz.prog 3 = some 1 := by kernel_rfl
theorem el3 : elemOk Tryz.prog 3 1 8 = true := by kernel_rfl
theorem ta4 : tyAgg Tryz.prog 4 = some none := by kernel_rfl
theorem sz4 : szOf Tryz.prog 4 = some 1 := by kernel_rfl
theorem zm4 : zeroMV Tryz.prog 4 = some [.bool false] := by kernel_rfl
theorem el5 : elemOk Tryz.prog 5 1 1 = true := by kernel_rfl
theorem ta9 : tyAgg Tryz.prog 9 = some none := by kernel_rfl
theorem sz9 : szOf Tryz.prog 9 = some 1 := by kernel_rfl
theorem el9 : elemOk Tryz.prog 9 1 16 = true := by kernel_rfl
theorem ta22 : tyAgg Tryz.prog 22 = some none := by kernel_rfl
theorem sz22 : szOf Tryz.prog 22 = some 1 := by kernel_rfl
theorem ta24 : tyAgg Tryz.prog 24 = some (some 2) := by kernel_rfl
theorem sz24 : szOf Tryz.prog 24 = some 2 := by kernel_rfl
theorem zm24 : zeroMV Tryz.prog 24 = some [.int .i64 0, .lst0] := by kernel_rfl
theorem el24 : elemOk Tryz.prog 24 2 32 = true := by kernel_rfl
theorem fo24_0 : fieldOff Tryz.prog 24 0 = some (0, 3) := by kernel_rfl
theorem _root_.zM1 : type_of% @fo24_0 := @fo24_0
theorem fo24_1 : fieldOff Tryz.prog 24 1 = some (1, 22) := by kernel_rfl
theorem _root_.zC2 : type_of% @fo24_1 := @fo24_1
theorem ta25 : tyAgg Tryz.prog 25 = some none := by kernel_rfl
theorem sz25 : szOf Tryz.prog 25 = some 1 := by kernel_rfl
theorem ta26 : tyAgg Tryz.prog 26 = some none := by kernel_rfl
theorem sz26 : szOf Tryz.prog 26 = some 1 := by kernel_rfl
theorem ta27 : tyAgg Tryz.prog 27 = some none := by kernel_rfl
theorem sz27 : szOf Tryz.prog 27 = some 1 := by kernel_rfl
theorem ta28 : tyAgg Tryz.prog 28 = some none := by kernel_rfl
theorem sz28 : szOf Tryz.prog 28 = some 1 := by kernel_rfl
theorem ta30 : tyAgg Tryz.prog 30 = some (some 5) := by kernel_rfl
theorem sz30 : szOf Tryz.prog 30 = some 5 := by kernel_rfl
theorem zm30 : zeroMV Tryz.prog 30 = some [.int .u64 0, .int .u64 0, .lst0, .lst0, .lst0] := by kernel_rfl
theorem el30 : elemOk Tryz.prog 30 5 88 = true := by kernel_rfl
theorem fo30_0 : fieldOff Tryz.prog 30 0 = some (0, 25) := by kernel_rfl
theorem _root_.zB4 : type_of% @fo30_0 := @fo30_0
theorem fo30_1 : fieldOff Tryz.prog 30 1 = some (1, 25) := by kernel_rfl
theorem _root_.zX4 : type_of% @fo30_1 := @fo30_1
theorem fo30_2 : fieldOff Tryz.prog 30 2 = some (2, 26) := by kernel_rfl
theorem _root_.zT1 : type_of% @fo30_2 := @fo30_2
theorem fo30_3 : fieldOff Tryz.prog 30 3 = some (3, 27) := by kernel_rfl
theorem _root_.zS1 : type_of% @fo30_3 := @fo30_3
theorem fo30_4 : fieldOff Tryz.prog 30 4 = some (4, 28) := by kernel_rfl
theorem _root_.zO1 : type_of% @fo30_4 := @fo30_4
theorem ta37 : tyAgg Tryz.prog 37 = some none := by kernel_rfl
theorem sz37 : szOf Tryz.prog 37 = some 1 := by kernel_rfl
theorem ta52 : tyAgg Tryz.prog 52 = some none := by kernel_rfl
theorem sz52 : szOf Tryz.prog 52 = some 1 := by kernel_rfl
theorem ta53 : tyAgg Tryz.prog 53 = some none := by kernel_rfl
theorem sz53 : szOf Tryz.prog 53 = some 1 := by kernel_rfl
theorem fo55_0 : fieldOff Tryz.prog 55 0 = some (0, 52) := by kernel_rfl
theorem fo55_1 : fieldOff Tryz.prog 55 1 = some (1, 53) := by kernel_rfl
theorem zm57 : zeroMV Tryz.prog 57 = some [.ptr0, .lst0] := by kernel_rfl
theorem fo57_0 : fieldOff Tryz.prog 57 0 = some (0, 55) := by kernel_rfl
theorem ta60 : tyAgg Tryz.prog 60 = some none := by kernel_rfl
theorem zm62 : zeroMV Tryz.prog 62 = some [.str (bs []), .iface0] := by kernel_rfl
theorem fo62_0 : fieldOff Tryz.prog 62 0 = some (0, 9) := by kernel_rfl
theorem _root_.zP3 : type_of% @fo62_0 := @fo62_0
theorem fo62_1 : fieldOff Tryz.prog 62 1 = some (1, 37) := by kernel_rfl
theorem _root_.zH2 : type_of% @fo62_1 := @fo62_1
theorem ta68 : tyAgg Tryz.prog 68 = some none := by kernel_rfl
theorem sz68 : szOf Tryz.prog 68 = some 1 := by kernel_rfl
theorem el68 : elemOk Tryz.prog 68 1 24 = true := by kernel_rfl
theorem ta81 : tyAgg Tryz.prog 81 = some none := by kernel_rfl
theorem sz81 : szOf Tryz.prog 81 = some 1 := by kernel_rfl
theorem zm81 : zeroMV Tryz.prog 81 = some [.fn0] := by kernel_rfl
theorem ta87 : tyAgg Tryz.prog 87 = some (some 2) := by kernel_rfl
theorem sz87 : szOf Tryz.prog 87 = some 2 := by kernel_rfl
theorem zm87 : zeroMV Tryz.prog 87 = some [.int .i64 0, .int .u64 0] := by kernel_rfl
theorem el87 : elemOk Tryz.prog 87 2 16 = true := by kernel_rfl
theorem fo87_0 : fieldOff Tryz.prog 87 0 = some (0, 3) := by kernel_rfl
theorem _root_.zQ3 : type_of% @fo87_0 := @fo87_0
theorem fo87_1 : fieldOff Tryz.prog 87 1 = some (1, 25) := by kernel_rfl
theorem _root_.zA5 : type_of% @fo87_1 := @fo87_1
theorem ta103 : tyAgg Tryz.prog 103 = some none := by kernel_rfl
theorem sz103 : szOf Tryz.prog 103 = some 1 := by kernel_rfl
theorem zm103 : zeroMV Tryz.prog 103 = some [.fn0] := by kernel_rfl
theorem ta120 : tyAgg Tryz.prog 120 = some none := by kernel_rfl
theorem co4 : CallOk Tryz.prog 4 := ⟨_, _, Tryz.func4, by kernel_rfl, rfl⟩
theorem co5 : CallOk Tryz.prog 5 := ⟨_, _, Tryz.func5, by kernel_rfl, rfl⟩
theorem co6 : CallOk Tryz.prog 6 := ⟨_, _, Tryz.func6, by kernel_rfl, rfl⟩
theorem co7 : CallOk Tryz.prog 7 := ⟨_, _, Tryz.func7, by kernel_rfl, rfl⟩
theorem co8 : CallOk Tryz.prog 8 := ⟨_, _, Tryz.func8, by kernel_rfl, rfl⟩
theorem co9 : CallOk Tryz.prog 9 := ⟨_, _, Tryz.func9, by kernel_rfl, rfl⟩
theorem co10 : CallOk Tryz.prog 10 := ⟨_, _, Tryz.func10, by kernel_rfl, rfl⟩
theorem co11 : CallOk Tryz.prog 11 := ⟨_, _, Tryz.func11, by kernel_rfl, rfl⟩
theorem co12 : CallOk Tryz.prog 12 := ⟨_, _, Tryz.func12, by kernel_rfl, rfl⟩
theorem co13 : CallOk Tryz.prog 13 := ⟨_, _, Tryz.func13, by kernel_rfl, rfl⟩
theorem co14 : CallOk Tryz.prog 14 := ⟨_, _, Tryz.func14, by kernel_rfl, rfl⟩
theorem co15 : CallOk Tryz.prog 15 := ⟨_, _, Tryz.func15, by kernel_rfl, rfl⟩
theorem co16 : CallOk Tryz.prog 16 := ⟨_, _, Tryz.func16, by kernel_rfl, rfl⟩
theorem _root_.zF4 : type_of% @Tryz.func17 := @Tryz.func17
theorem co17 : CallOk Tryz.prog 17 := ⟨_, _, zF4, by kernel_rfl, rfl⟩
theorem co18 : CallOk Tryz.prog 18 := ⟨_, _, Tryz.func18, by kernel_rfl, rfl⟩
theorem _root_.zS3 : type_of% @Tryz.func19 := @Tryz.func19
theorem co19 : CallOk Tryz.prog 19 := ⟨_, _, zS3, by kernel_rfl, rfl⟩
theorem co20 : CallOk Tryz.prog 20 := ⟨_, _, Tryz.func20, by kernel_rfl, rfl⟩
theorem co21 : CallOk Tryz.prog 21 := ⟨_, _, Tryz.func21, by kernel_rfl, rfl⟩
theorem co22 : CallOk Tryz.prog 22 := ⟨_, _, Tryz.func22, by kernel_rfl, rfl⟩
theorem _root_.zG4 : type_of% @Tryz.func23 := @Tryz.func23
theorem co23 : CallOk Tryz.prog 23 := ⟨_, _, zG4, by kernel_rfl, rfl⟩
theorem co24 : CallOk Tryz.prog 24 := ⟨_, _, Tryz.func24, by kernel_rfl, rfl⟩
theorem co25 : CallOk Tryz.prog 25 := ⟨_, _, Tryz.func25, by kernel_rfl, rfl⟩
theorem co26 : CallOk Tryz.prog 26 := ⟨_, _, Tryz.func26, by kernel_rfl, rfl⟩
theorem co27 : CallOk Tryz.prog 27 := ⟨_, _, Tryz.func27, by kernel_rfl, rfl⟩
theorem co30 : CallOk Tryz.prog 30 := ⟨_, _, Tryz.func30, by kernel_rfl, rfl⟩
theorem _root_.zH4 : type_of% @Tryz.func31 := @Tryz.func31
theorem co31 : CallOk Tryz.prog 31 := ⟨_, _, zH4, by kernel_rfl, rfl⟩
theorem co32 : CallOk Tryz.prog 32 := ⟨_, _, Tryz.func32, by kernel_rfl, rfl⟩
theorem co33 : CallOk Tryz.prog 33 := ⟨_, _, Tryz.func33, by kernel_rfl, rfl⟩
theorem co34 : CallOk Tryz.prog 34 := ⟨_, _, Tryz.func34, by kernel_rfl, rfl⟩
theorem co35 : CallOk Tryz.prog 35 := ⟨_, _, Tryz.func35, by kernel_rfl, rfl⟩
theorem _root_.zI4 : type_of% @Tryz.func36 := @Tryz.func36
theorem co36 : CallOk Tryz.prog 36 := ⟨_, _, zI4, by kernel_rfl, rfl⟩
theorem co37 : CallOk Tryz.prog 37 := ⟨_, _, Tryz.func37, by kernel_rfl, rfl⟩
theorem co38 : CallOk Tryz.prog 38 := ⟨_, _, Tryz.func38, by kernel_rfl, rfl⟩
theorem co39 : CallOk Tryz.prog 39 := ⟨_, _, Tryz.func39, by kernel_rfl, rfl⟩
theorem co40 : CallOk Tryz.prog 40 := ⟨_, _, Tryz.func40, by kernel_rfl, rfl⟩
theorem co41 : CallOk Tryz.prog 41 := ⟨_, _, Tryz.func41, by kernel_rfl, rfl⟩
theorem co42 : CallOk Tryz.prog 42 := ⟨_, _, Tryz.func42, by kernel_rfl, rfl⟩
theorem co43 : CallOk Tryz.prog 43 := ⟨_, _, Tryz.func43, by kernel_rfl, rfl⟩
theorem co44 : CallOk Tryz.prog 44 := ⟨_, _, Tryz.func44, by kernel_rfl, rfl⟩
theorem co45 : CallOk Tryz.prog 45 := ⟨_, _, Tryz.func45, by kernel_rfl, rfl⟩
theorem co46 : CallOk Tryz.prog 46 := ⟨_, _, Tryz.func46, by kernel_rfl, rfl⟩
theorem co47 : CallOk Tryz.prog 47 := ⟨_, _, Tryz.func47, by kernel_rfl, rfl⟩
theorem co48 : CallOk Tryz.prog 48 := ⟨_, _, Tryz.func48, by kernel_rfl, rfl⟩
theorem co49 : CallOk Tryz.prog 49 := ⟨_, _, Tryz.func49, by kernel_rfl, rfl⟩
theorem co50 : CallOk Tryz.prog 50 := ⟨_, _, Tryz.func50, by kernel_rfl, rfl⟩
theorem co51 : CallOk Tryz.prog 51 := ⟨_, _, Tryz.func51, by kernel_rfl, rfl⟩
theorem co52 : CallOk Tryz.prog 52 := ⟨_, _, Tryz.func52, by kernel_rfl, rfl⟩
theorem co53 : CallOk Tryz.prog 53 := ⟨_, _, Tryz.func53, by kernel_rfl, rfl⟩
theorem co54 : CallOk Tryz.prog 54 := ⟨_, _, Tryz.func54, by kernel_rfl, rfl⟩
theorem co55 : CallOk Tryz.prog 55 := ⟨_, _, Tryz.func55, by kernel_rfl, rfl⟩
theorem _root_.zJ4 : type_of% @Tryz.func56 := @Tryz.func56
theorem co56 : CallOk Tryz.prog 56 := ⟨_, _, zJ4, by kernel_rfl, rfl⟩
theorem co57 : CallOk Tryz.prog 57 := ⟨_, _, Tryz.func57, by kernel_rfl, rfl⟩
theorem co58 : CallOk Tryz.prog 58 := ⟨_, _, Tryz.func58, by kernel_rfl, rfl⟩
theorem co59 : CallOk Tryz.prog 59 := ⟨_, _, Tryz.func59, by kernel_rfl, rfl⟩
theorem co60 : CallOk Tryz.prog 60 := ⟨_, _, Tryz.func60, by kernel_rfl, rfl⟩
theorem co61 : CallOk Tryz.prog 61 := ⟨_, _, Tryz.func61, by kernel_rfl, rfl⟩
theorem co62 : CallOk Tryz.prog 62 := ⟨_, _, Tryz.func62, by kernel_rfl, rfl⟩
theorem co63 : CallOk Tryz.prog 63 := ⟨_, _, Tryz.func63, by kernel_rfl, rfl⟩
theorem co64 : CallOk Tryz.prog 64 := ⟨_, _, Tryz.func64, by kernel_rfl, rfl⟩
theorem co65 : CallOk Tryz.prog 65 := ⟨_, _, Tryz.func65, by kernel_rfl, rfl⟩
theorem co66 : CallOk Tryz.prog 66 := ⟨_, _, Tryz.func66, by kernel_rfl, rfl⟩
theorem co67 : CallOk Tryz.prog 67 := ⟨_, _, Tryz.func67, by kernel_rfl, rfl⟩
theorem co68 : CallOk Tryz.prog 68 := ⟨_, _, Tryz.func68, by kernel_rfl, rfl⟩
theorem co69 : CallOk Tryz.prog 69 := ⟨_, _, Tryz.func69, by kernel_rfl, rfl⟩
theorem co70 : CallOk Tryz.prog 70 := ⟨_, _, Tryz.func70, by kernel_rfl, rfl⟩
theorem co71 : CallOk Tryz.prog 71 := ⟨_, _, Tryz.func71, by kernel_rfl, rfl⟩
theorem co72 : CallOk Tryz.prog 72 := ⟨_, _, Tryz.func72, by kernel_rfl, rfl⟩
theorem co73 : CallOk Tryz.prog 73 := ⟨_, _, Tryz.func73, by kernel_rfl, rfl⟩
theorem co74 : CallOk Tryz.prog 74 := ⟨_, _, Tryz.func74, by kernel_rfl, rfl⟩
theorem co75 : CallOk Tryz.prog 75 := ⟨_, _, Tryz.func75, by kernel_rfl, rfl⟩
theorem co76 : CallOk Tryz.prog 76 := ⟨_, _, Tryz.func76, by kernel_rfl, rfl⟩
theorem co77 : CallOk Tryz.prog 77 := ⟨_, _, Tryz.func77, by kernel_rfl, rfl⟩
theorem co78 : CallOk Tryz.prog 78 := ⟨_, _, Tryz.func78, by kernel_rfl, rfl⟩
theorem co79 : CallOk Tryz.prog 79 := ⟨_, _, Tryz.func79, by kernel_rfl, rfl⟩
theorem co80 : CallOk Tryz.prog 80 := ⟨_, _, Tryz.func80, by kernel_rfl, rfl⟩
theorem co81 : CallOk Tryz.prog 81 := ⟨_, _, Tryz.func81, by kernel_rfl, rfl⟩
theorem co83 : CallOk Tryz.prog 83 := ⟨_, _, Tryz.func83, by kernel_rfl, rfl⟩
theorem co84 : CallOk Tryz.prog 84 := ⟨_, _, Tryz.func84, by kernel_rfl, rfl⟩
theorem co85 : CallOk Tryz.prog 85 := ⟨_, _, Tryz.func85, by kernel_rfl, rfl⟩
theorem co86 : CallOk Tryz.prog 86 := ⟨_, _, Tryz.func86, by kernel_rfl, rfl⟩
theorem co87 : CallOk Tryz.prog 87 := ⟨_, _, Tryz.func87, by kernel_rfl, rfl⟩
theorem co88 : CallOk Tryz.prog 88 := ⟨_, _, Tryz.func88, by kernel_rfl, rfl⟩
theorem co89 : CallOk Tryz.prog 89 := ⟨_, _, Tryz.func89, by kernel_rfl, rfl⟩
theorem co90 : CallOk Tryz.prog 90 := ⟨_, _, Tryz.func90, by kernel_rfl, rfl⟩
theorem co91 : CallOk Tryz.prog 91 := ⟨_, _, Tryz.func91, by kernel_rfl, rfl⟩
theorem co92 : CallOk Tryz.prog 92 := ⟨_, _, Tryz.func92, by kernel_rfl, rfl⟩
theorem co93 : CallOk Tryz.prog 93 := ⟨_, _, Tryz.func93, by kernel_rfl, rfl⟩
theorem co94 : CallOk Tryz.prog 94 := ⟨_, _, Tryz.func94, by kernel_rfl, rfl⟩
theorem co95 : CallOk Tryz.prog 95 := ⟨_, _, Tryz.func95, by kernel_rfl, rfl⟩
theorem co96 : CallOk Tryz.prog 96 := ⟨_, _, Tryz.func96, by kernel_rfl, rfl⟩
theorem co97 : CallOk Tryz.prog 97 := ⟨_, _, Tryz.func97, by kernel_rfl, rfl⟩
theorem co98 : CallOk Tryz.prog 98 := ⟨_, _, Tryz.func98, by kernel_rfl, rfl⟩
theorem co99 : CallOk Tryz.prog 99 := ⟨_, _, Tryz.func99, by kernel_rfl, rfl⟩
theorem co100 : CallOk Tryz.prog 100 := ⟨_, _, Tryz.func100, by kernel_rfl, rfl⟩
theorem co101 : CallOk Tryz.prog 101 := ⟨_, _, Tryz.func101, by kernel_rfl, rfl⟩
theorem co102 : CallOk Tryz.prog 102 := ⟨_, _, Tryz.func102, by kernel_rfl, rfl⟩
theorem co103 : CallOk Tryz.prog 103 := ⟨_, _, Tryz.func103, by kernel_rfl, rfl⟩
theorem co104 : CallOk Tryz.prog 104 := ⟨_, _, Tryz.func104, by kernel_rfl, rfl⟩
theorem co105 : CallOk Tryz.prog 105 := ⟨_, _, Tryz.func105, by kernel_rfl, rfl⟩
theorem co106 : CallOk Tryz.prog 106 := ⟨_, _, Tryz.func106, by kernel_rfl, rfl⟩
end Go.Proofs.YtplclefbiimnbaaGreat
section
namespace Go.MV
open Go Go.RowKit
theorem quo128 {m : Nat} (h : m < 18446744073709551616) : IntKind.u64.wrap (Int.tdiv (m : Int) 128) = ((m / 128 : Nat) : Int) := by
 have e : Int.tdiv (m : Int) 128 = ((m / 128 : Nat) : Int) := rfl
 rw [e, zJ3 (by omega)]
theorem rem128 (m : Nat) : Int.tmod (m : Int) 128 = ((m % 128 : Nat) : Int) := rfl
theorem add128 (m : Nat) : intArith .add .u64 ((m % 128 : Nat) : Int) 128 = some ((m % 128 + 128 : Nat) : Int) := by
 show some (IntKind.u64.wrap (((m % 128 : Nat) : Int) + 128)) = _
 rw [zJ3 (by omega)]
 rfl
theorem u8_conv {m : Nat} (h : m < 256) : IntKind.u8.wrap (m : Int) = ((UInt8.ofNat m).toNat : Int) := by
 rw [wrap_u8 (by omega), u8_toNat h]
theorem u64_byte (b : UInt8) : IntKind.u64.wrap (b.toNat : Int) = (b.toNat : Int) := by
 have := b.toNat_lt
 rw [zJ3 (by omega)]
theorem numB_more {m : Nat} (h : 128 ≤ m) : numB m = UInt8.ofNat (m % 128 + 128) :: numB (m / 128) := by rw [numB, dif_neg (by omega)]
theorem numB_last {m : Nat} (h : m < 128) : numB m = [UInt8.ofNat m] := by rw [numB, dif_pos h]
theorem hash_take {b : Bs} {i : Nat} {c : UInt8} (h : b[i]? = some c) : hashB (b.take (i + 1)) = hashStep (hashB (b.take i)) c := by
 rw [List.take_add_one, h]
 simp [hashB]
theorem drop_at {α : Type} {l : List α} {i : Nat} {a : α} (h : l[i]? = some a) : l.drop i = a :: l.drop (i + 1) := by
 obtain ⟨hlt, e⟩ := zI.1 h
 rw [List.drop_eq_getElem_cons hlt, e]
theorem wmul {a b c : Nat} (h : a * b = c) (hc : c < 9223372036854775808) : intArith .mul .i64 (a : Int) (b : Int) = some (c : Int) := by
 show some (IntKind.i64.wrap ((a : Int) * (b : Int))) = _
 have e : (a : Int) * (b : Int) = (c : Int) := by rw [← h]; exact (Int.natCast_mul a b).symm
 rw [e, zF3 (by omega)]
end Go.MV
namespace Go.Proofs.YtplclefbiimnbaaGreat
open Go Go.MV
theorem _root_.zB : type_of% @Nat.le_of_ble_eq_true := @Nat.le_of_ble_eq_true
theorem _root_.zB1 : type_of% @Tryz.underlying25 := @Tryz.underlying25
theorem _root_.zW2 : type_of% @Tryz.underlying53 := @Tryz.underlying53
theorem _root_.zJ0 : type_of% @Tryz.underlying9 := @Tryz.underlying9
theorem codeNum_spec (n : Nat) (hn : n < 18446744073709551616) (hl : (numB n).length ≤ 100) (S : MS) : MCalls Tryz.prog 13 [.int .u64 (n : Int)] S fun v σ' => v = .str (bs (numB n)) ∧ σ' = S := by
 refine zN Tryz.func13 V Tryz.ntmps13 (zB V) ?_
 refine zA <| qR V <| qA V V V <| qN <| zA <| qR V <| qA V V V <| qN <| zA <| zW <| mwp_row0 3 5 1 V (Nat.le_refl _) V V ?_
 refine mwp_loopKJ (α := Nat × Bs) [] (fun x => [(0, .int .u64 (x.1 : Int)), (3, .lst (some (S.length + 0)) 1 (x.2.map encY))]) (fun x => [.row 5 1 x.2.length]) (fun x => x.2 ++ numB x.1 = numB n ∧ x.1 ≤ n) (fun x => x.1) (⟨n, []⟩) (Nat.le_refl _) (.nil) (.keep V (.keep V (.nil))) (⟨rfl, Nat.le_refl _⟩) (V) ?_
 rintro ⟨m, out⟩ ⟨he, hm⟩
 dsimp only at he hm ⊢
 have hol : out.length ≤ (numB n).length := by rw [← he, zF]; omega
 refine zA <| zA <| qR V <| qM V V V <| qC V V V V V <| qN ?_
 refine zE V (fun h5 => ?_) (fun h5 => ?_)
 ·
  have hge : 128 ≤ m := by simp at h5; omega
  refine zQ <| zA <| zW <| qR V <| qM V V V <| qM V V V <| qO V <| op_rem V V V (by decide) (rem128 m) ?_
  refine qO V <| zU0 V V V (add128 m) <| qO V <| zR1 V zB1 Tryz.underlying5 V (u8_conv (show m % 128 + 128 < 256 by omega)) ?_
  refine qO V <| zI1 V zW2 el5 V V (by decide) (by decide) V V ?_
  refine qO V <| zE4 V zW2 el5 V V V (by simp) (by simp only [zF, zH, zC0, List.length_nil]; omega) (by simp only [zF, zH, zC0, List.length_nil]; omega) V ?_
  refine qA V V V <| qN <| qR V <| qM V V V <| qO V <| op_quo V V V (by decide) (quo128 (by omega)) ?_
  refine qA V V V <| qN ?_
  refine ⟨⟨m / 128, out ++ [UInt8.ofNat (m % 128 + 128)]⟩, _, by dsimp only; omega, ⟨by dsimp only; rw [← he, numB_more hge]; simp, by dsimp only; omega⟩, by rw [zF]; rfl, .new trivial .nil, (.nil), (.new' V (V) (.int _ _) (.new' V (by rw [List.map_append]; rfl) (.lst _ _ _ (fun s hs => by injection hs with hs; simp; omega) (by rw [flat_encY]; intro y hy; obtain ⟨z, _, rfl⟩ := List.mem_map.1 hy; exact .int _ _)) (.nil)))⟩
 ·
  have hlt : m < 128 := by simp at h5; omega
  refine zA1 <| zA <| qR V <| qM V V V <| qM V V V <| qO V <| zR1 V zB1 Tryz.underlying5 V (u8_conv (show m < 256 by omega)) ?_
  refine qO V <| zI1 V zW2 el5 V V (by decide) (by decide) V V ?_
  refine qO V <| zE4 V zW2 el5 V V V (by simp) (by simp only [zF, zH, zC0, List.length_nil]; omega) (by simp only [zF, zH, zC0, List.length_nil]; omega) V ?_
  refine qO V <| op_conv_bytes (l := out ++ [UInt8.ofNat m]) V zW2 Tryz.underlying5 zJ0 V (by rw [List.map_append]; rfl) ?_
  refine qA V V V <| qN <| zG ?_
  exact zK (.inr V) Tryz.results13 V (.of_eq (by rw [← he, numB_last hlt])) (.str _) Vv
theorem _root_.zZ0 : type_of% @Tryz.underlying3 := @Tryz.underlying3
theorem codeText_spec (s : Bs) (hs : s.length ≤ 1000000) (S : MS) : MCalls Tryz.prog 14 [.str (bs s)] S fun v σ' => v = .str (bs (textB s)) ∧ σ' = S := by
 refine zN Tryz.func14 V Tryz.ntmps14 (zB V) ?_
 have hl := (numB_len (show s.length < 2097152 by omega)).2
 refine zA <| qR V <| qA V V V <| qN <| zA <| qR V <| qM V V V <| qO V <| zD2 V zJ0 V <| qO V <| zR1 V zZ0 zB1 V (zJ3 (by omega)) ?_
 refine qX V V V V co13 (codeNum_spec s.length (by omega) (by omega) _) ?_
 refine qM V V V <| qO V <| zD5 V V V (by omega) ?_
 refine qA V V V <| qN <| zG ?_
 exact zK (.inr V) Tryz.results14 V (.of_eq (V)) (.str _) Vv
theorem codeHash_spec (b : Bs) (hlen : b.length ≤ 2000000) (S : MS) : MCalls Tryz.prog 15 [.str (bs b)] S fun v σ' => v = .int .u64 (hashB b) ∧ σ' = S := by
 refine zN Tryz.func15 V Tryz.ntmps15 (zB V) ?_
 have hlen' : b.length ≤ maxLen := by simp only [maxLen]; omega
 refine zA <| qR V <| qA V V V <| qN <| zA <| qR V <| qA V V V <| qN <| zA <| zA <| qR V <| qM V V V <| qO V <| zD2 V zJ0 V <| qM V V V <| qN <| zW ?_
 refine zD1 (α := Nat) [(0, _), (6, _)] (fun i => [(7, .int .i64 (i : Int)), (3, .int .u64 (hashB (b.take i)))]) (fun i => []) (fun i => i ≤ b.length) (fun i => b.length - i) (0) (.keep V (.keep V (.nil))) (.keep V (.keep V (.nil))) (by omega) (V) ?_
 rintro i hi
 refine zA <| qR V <| qC V V V V V <| qN <| zA ?_
 refine zE V (fun h8 => ?_) (fun h8 => ?_)
 ·
  have hlt : i < b.length := by simpa using h8
  obtain ⟨c, hs⟩ : ∃ q_, b[i]? = some q_ := ⟨_, zD hlt⟩
  refine zQ <| zA <| zW <| zA <| qR V <| qM V V V <| qA V V V <| qN <| qR V <| qM V V V <| qM V V V <| qM V V V <| qO V <| op_index_str V zJ0 V V V hs <| qO V <| zR1 V Tryz.underlying5 zB1 V (u64_byte c) <| qO V <| op_bits V V V V <| qO V <| zU0 V V V V <| qA V V V <| qN <| qR V <| qO V <| zU0 V V V V ?_
  refine qM V V V <| qN ?_
  refine ⟨i + 1, by omega, by omega, rfl, (.keep V (.keep V (.nil))), (.eq V (zH1 hlt hlen') (.eq V (by rw [hash_take hs]; rfl) (.nil)))⟩
 ·
  have hge : i = b.length := by simp at h8; omega
  refine zA1 <| zA <| qR V <| qM V V V <| qA V V V <| qN <| zG ?_
  exact zK (.inr V) Tryz.results15 V (.of_eq (by rw [hge, List.take_length])) (.int _ _) Vv
end Go.Proofs.YtplclefbiimnbaaGreat
end
namespace Go.Proofs.YtplclefbiimnbaaGreat
open Go Go.MV
def partsF (k : Int) : Int := if k = 1 ∨ k = 2 ∨ k = 3 ∨ k = 6 ∨ k = 7 then 0 else if k = 4 ∨ k = 8 then 1 else if k = 5 then 2 else -1
theorem _root_.zB3 : type_of% @Tryz.results67 := @Tryz.results67
theorem parts_spec (k : Int) (S : MS) : MCalls Tryz.prog 67 [.int .i64 k] S fun v σ' => v = .int .i64 (partsF k) ∧ σ' = S := by
 refine zN Tryz.func67 V Tryz.ntmps67 (zB V) ?_
 refine zA <| qR V <| qA V V V <| qN <| zA <| zA <| qR V <| qM V V V <| qN <| zW <| zA <| zA <| qR V <| qC V V V V V <| qA V V V <| qN ?_
 refine zE V (fun h4 => ?_) (fun h4 => ?_)
 ·
  refine zQ <| zX V h4 <| zA <| qR V <| qA V V V <| qN <| zG ?_
  exact zK (.inr V) zB3 V (.refl _) (.int _ _) ⟨by simp_all [partsF], rfl⟩
 ·
  refine zA <| qR V <| qC V V V V V <| qA V V V <| qN ?_
  refine zE V (fun h4 => ?_) (fun h4 => ?_)
  ·
   refine zQ <| zX V h4 <| zA <| qR V <| qA V V V <| qN <| zG ?_
   exact zK (.inr V) zB3 V (.refl _) (.int _ _) ⟨by simp_all [partsF], rfl⟩
  ·
   refine zA <| qR V <| qC V V V V V <| qA V V V <| qN ?_
   refine zE V (fun h4 => ?_) (fun h4 => ?_)
   ·
    refine zQ <| zX V h4 <| zA <| qR V <| qA V V V <| qN <| zG ?_
    exact zK (.inr V) zB3 V (.refl _) (.int _ _) ⟨by simp_all [partsF], rfl⟩
   ·
    refine zA <| qR V <| qC V V V V V <| qA V V V <| qN ?_
    refine zE V (fun h4 => ?_) (fun h4 => ?_)
    ·
     refine zQ <| zX V h4 <| zA <| qR V <| qA V V V <| qN <| zG ?_
     exact zK (.inr V) zB3 V (.refl _) (.int _ _) ⟨by simp_all [partsF], rfl⟩
    ·
     refine qR V <| qC V V V V V <| qA V V V <| qN ?_
     refine zE V (fun h4 => ?_) (fun h4 => ?_)
     ·
      refine zA <| qR V <| qA V V V <| qN <| zG ?_
      exact zK (.inr V) zB3 V (.refl _) (.int _ _) ⟨by simp_all [partsF], rfl⟩
     ·
      refine zA <| zA <| qR V <| qC V V V V V <| qA V V V <| qN ?_
      refine zE V (fun h10 => ?_) (fun h10 => ?_)
      ·
       refine zQ <| zX V h10 <| zA <| qR V <| qA V V V <| qN <| zG ?_
       exact zK (.inr V) zB3 V (.refl _) (.int _ _) ⟨by simp_all [partsF], rfl⟩
      ·
       refine qR V <| qC V V V V V <| qA V V V <| qN ?_
       refine zE V (fun h10 => ?_) (fun h10 => ?_)
       ·
        refine zA <| qR V <| qA V V V <| qN <| zG ?_
        exact zK (.inr V) zB3 V (.refl _) (.int _ _) ⟨by simp_all [partsF], rfl⟩
       ·
        refine zA <| qR V <| qC V V V V V <| qA V V V <| qN ?_
        refine zE V (fun h13 => ?_) (fun h13 => ?_)
        ·
         refine zA <| qR V <| qA V V V <| qN <| zG ?_
         exact zK (.inr V) zB3 V (.refl _) (.int _ _) ⟨by simp_all [partsF], rfl⟩
        ·
         refine zQ <| zA <| qR V <| qA V V V <| qN <| zG ?_
         exact zK (.inr V) zB3 V (.refl _) (.int _ _) ⟨by simp_all [partsF], rfl⟩
theorem _root_.zD0 : type_of% @Tryz.underlying22 := @Tryz.underlying22
theorem all_spec (l : List Sch) (p : Sch → Bool) (kf : FuncId) (first caps : List MV) (S : MS) (hco : CallOk Tryz.prog kf) (hp : ∀ s ∈ l, ∀ X : MS, MCalls Tryz.prog kf (first ++ [encS s] ++ caps) (S ++ X) fun v σ' => v = .bool (p s) ∧ σ' = S ++ X) :
  MCalls Tryz.prog 68 [.lst none 2 (encSs l), .fn (.func kf) first caps] S fun v σ' => v = .bool (l.all p) ∧ σ' = S := by
 refine zN Tryz.func68 V Tryz.ntmps68 (zB V) ?_
 refine zP2 (t := 0) V fun hlen => ?_
 refine zA <| qR V <| qA V V V <| qN <| zA <| zA <| qR V <| qM V V V <| qE V V zD0 V <| qM V V V <| qN <| zW ?_
 refine mwp_loopJ (α := Nat) (fun i => [(0, .lst none 2 (encSs l)), (1, .fn (.func kf) first caps), (7, .lst none 2 (encSs l)), (8, .int .i64 ((encSs l).length : Int)), (9, .int .i64 (i : Int))]) (fun i => []) (fun i => i ≤ l.length ∧ (l.take i).all p = true) (fun i => l.length - i) (0) (Nat.le_refl _) ⟨by omega, rfl⟩ V (.keep V (.keep V (.keep V (.keep V (.keep V .nil))))) ?_
 rintro i ⟨hi, hall⟩
 refine zA <| qR V <| qC V V V V V <| qN <| zA ?_
 refine zE V (fun h10 => ?_) (fun h10 => ?_)
 ·
  have hlt : i < l.length := by rw [zF2] at h10; simpa using h10
  obtain ⟨⟨k, ins⟩, hs⟩ : ∃ s, l[i]? = some s := ⟨_, zD hlt⟩
  refine zQ <| zA <| zW <| zA <| qR V <| qO V <| zO V zD0 sz24 (by decide) V V V (encSs_get hs) ?_
  refine qO V <| zP V V ta24 V <| qO V <| zH0 V zm24 V V <| qO V <| zT0 V V V V sz24 V V (zB V) V <| qN <| zA <| qR V <| qM V V V <| qL V V V V ta24 V ?_
  refine zH3 V (zX0 V V V hco ((hp _ (zU hs) _).mono ?_))
  rintro _ _ ⟨rfl, rfl⟩
  refine qO V <| zL1 V V <| qN ?_
  refine zE V (fun h16 => ?_) (fun h16 => ?_)
  ·
   refine zA <| qR V <| qA V V V <| qN <| zG ?_
   exact zK (.inr V) Tryz.results68 V (.refl _) (.bool _) ⟨by rw [List.all_eq_false.2 ⟨_, zU hs, by simpa using h16⟩], rfl⟩
  ·
   refine zQ <| qR V <| qO V <| zU0 V V V V <| qM V V V <| qN ?_
   refine ⟨i + 1, _, by omega, ⟨by omega, ?_⟩, rfl, .nil, .old V V (.old V V (.old V V (.old V V (.new' V (zH1 hlt (by rw [zF2] at hlen; exact hlen)) (.int _ _) .nil))))⟩
   rw [List.take_add_one, hs]
   simp [hall]
   simpa using h16
 ·
  have hge : i = l.length := by rw [zF2] at h10; simp at h10; omega
  refine zA1 <| zA <| qR V <| qA V V V <| qN <| zG ?_
  exact zK (.inr V) Tryz.results68 V (.refl _) (.bool _) ⟨by rw [hge, List.take_length] at hall; rw [hall], rfl⟩
def isF : Nat → Sch → Bool
 | 0, _ => false
 | d + 1, .mk k ins => (partsF k == (ins.length : Int)) && ins.all (isF d)
theorem is1_spec (d : Nat) (hd : d < 1000) (ih : ∀ (s : Sch) (S : MS), MCalls Tryz.prog 40 [encS s, .int .i64 (d : Int)] S fun v σ' => v = .bool (isF d s) ∧ σ' = S) (s : Sch) (id : Nat) (S : MS) (hS : S[id]? = some (.cells [.int .i64 ((d + 1 : Nat) : Int)])) :
  MCalls Tryz.prog 69 [encS s, .ref id 0] S fun v σ' => v = .bool (isF d s) ∧ σ' = S := by
 obtain ⟨k, ins⟩ := s
 have hsub : IntKind.i64.wrap (((d + 1 : Nat) : Int) - 1) = (d : Int) := by rw [zF3 (by omega)]; omega
 refine zN Tryz.func69 V Tryz.ntmps69 (zB V) ?_
 refine zA <| qR V <| qB V V V V V <| qA V V V <| qN <| zA <| qR V <| qL V V V V ta24 V <| qO V <| zQ1 V V hS ta3 V <| qO V <| zU0 V V V V ?_
 rw [hsub]
 refine qX V V V V co40 (ih (.mk k ins) _) ?_
 refine qA V V V <| qN <| zG ?_
 exact zK (.inr V) Tryz.results69 V (.refl _) (.bool _) Vv
theorem is_spec (d : Nat) : d < 1000 → ∀ (s : Sch) (S : MS), MCalls Tryz.prog 40 [encS s, .int .i64 (d : Int)] S fun v σ' => v = .bool (isF d s) ∧ σ' = S := by
 induction d with
 | zero =>
  rintro - ⟨k, ins⟩ S
  refine zN Tryz.func40 V Tryz.ntmps40 (zB V) ?_
  refine zA <| qR V <| qB V V V V V <| qB V V V V V <| qA V V V <| qN <| zA <| zA ?_
  refine zV0 [] [_] mo (by decide) V V V V ?_
  refine dO V V V (zL0 V V V ta3 V Vv) <| dO V V V (zX2 V V V V Vv) <| dO V V V (zY V V Vv) <| dS V V <| dS V V <| dS V V <| dS V V <| dS V V <| dS V V <| dS V V <| dO V V V (zP1 V V V Vv) <| zO0 <| zX V (V) <| zA <| qR V <| qA V V V <| qN <| zG ?_
  exact zK (.inr V) Tryz.results40 V (.refl _) (.bool _) ⟨by simp [isF], rfl⟩
 | succ d ih =>
  rintro hd ⟨k, ins⟩ S
  have h0 : (((d + 1 : Nat) : Int) == 0) = false := by simp; omega
  refine zN Tryz.func40 V Tryz.ntmps40 (zB V) ?_
  refine zA <| qR V <| qB V V V V V <| qB V V V V V <| qA V V V <| qN <| zA <| zA ?_
  refine zV0 [] [_] mo (by decide) V V V V ?_
  refine dO V V V (zL0 V V V ta3 V Vv) <| dO V V V (zX2 V V V V Vv) ?_
  rw [h0]
  refine dO V V V (zY V V Vv) <| dO V V V (zL V V zM1 Vv) <| dO V V V (zL0 V V V ta3 V Vv) <| zV V V (.cons (zX0 V V V co67 (parts_spec _ _)) .nil) <| dO V V V (zL V V zC2 Vv) <| dO V V V (zL0 V V V ta22 V Vv) <| dO V V V (op_len_lst V zD0 V Vv) <| dO V V V (zX2 V V V V Vv) <| dO V V V (zP1 V V V Vv) <| zO0 ?_
  refine zE V (fun h15 => ?_) (fun h15 => ?_)
  ·
   refine zA <| qR V <| qA V V V <| qN <| zG ?_
   exact zK (.inr V) Tryz.results40 V (.refl _) (.bool _) ⟨by rw [zF2] at h15; simp at h15; simp [isF, h15], rfl⟩
  ·
   refine zQ <| zA <| qR V <| qF V V V zC2 <| qL V V V V ta22 V <| qO V <| zN1 V V V ?_
   refine qX V V V V co68 (all_spec ins (isF d) _ _ _ _ co69 fun s _ X => is1_spec d (by omega) (ih (by omega)) s _ _ (by rw [List.getElem?_append_left (by simp)]; simp [MV.cells])) ?_
   refine qA V V V <| qN <| zG ?_
   exact zK (.inr V) Tryz.results40 V (.refl _) (.bool _) ⟨by rw [zF2] at h15; simp at h15; simp [isF, h15], rfl⟩
theorem Is_spec (s : Sch) (S : MS) : MCalls Tryz.prog 21 [encS s] S fun v σ' => v = .bool (isF 16 s) ∧ σ' = S := by
 obtain ⟨k, ins⟩ := s
 refine zN Tryz.func21 V Tryz.ntmps21 (zB V) ?_
 refine zA <| qR V <| qB V V V V V <| qA V V V <| qN <| zA <| qR V <| qL V V V V ta24 V ?_
 refine qX V V V V co40 (is_spec 16 (by omega) (.mk k ins) _) ?_
 refine qA V V V <| qN <| zG ?_
 exact zK (.inr V) Tryz.results21 V (.refl _) (.bool _) Vv
end Go.Proofs.YtplclefbiimnbaaGreat
namespace Go.MV
open Go Go.RowKit
abbrev Tk := Int × Int
def encT (t : Tk) : MV := .agg [.int .i64 t.1, .int .u64 t.2]
theorem encT_agg (t : Tk) : encT t = .agg (encT t).cells ∨ [encT t] = (encT t).cells := .inl rfl
theorem cl_encT (n : Nat) (t : Tk) : Cl n (encT t) := .agg _ fun x hx => by
 simp only [List.mem_cons, List.not_mem_nil, or_false] at hx
 rcases hx with rfl | rfl
 ·exact .int _ _
 ·exact .int _ _
theorem cl_clock (n : Nat) (c : List Tk) : Cl n (.lst none 2 (c.map encT)) := cl_lst (cl_encT n) encT_agg
def okAt (c : List Tk) (j : Nat) : Bool := match c[j]? with
 | none => true
 | some t => !decide (t.1 < 0) && !decide (1000000 < t.1) && !(t.2 == 0) && (j == 0 || (match c[j - 1]? with | some p => !decide (t.1 ≤ p.1) | none => true))
def isClockF (c : List Tk) : Bool := decide (∀ j, j < c.length → okAt c j = true) && decide (c.length ≤ 40)
theorem isClock_false {c : List Tk} {i : Nat} (hi : i < c.length) (h : okAt c i = false) : isClockF c = false := by
 unfold isClockF
 rw [Bool.and_eq_false_iff]
 left
 rw [decide_eq_false_iff_not]
 intro hc
 rw [hc i hi] at h
 cases h
theorem _root_.zK3 : type_of% @isClock_false := @isClock_false
theorem isClock_end {c : List Tk} (h : ∀ j, j < c.length → okAt c j = true) : isClockF c = decide ((c.length : Int) ≤ 40) := by
 unfold isClockF
 rw [decide_eq_true h, Bool.true_and]
 simp only [decide_eq_decide]
 omega
def ofF : List Tk → Int → Int
 | [], _ => 0
 | t :: c, w => if t.1 = w then t.2 else ofF c w
theorem of_drop {c : List Tk} {w : Int} : ∀ {i : Nat}, (∀ j, j < i → ∀ t, c[j]? = some t → t.1 ≠ w) → ofF (c.drop i) w = ofF c w := by
 induction c with
 | nil => intro i h; simp
 | cons t c ih =>
  intro i h
  cases i with
  | zero => rfl
  | succ i =>
   have h0 := h 0 (by omega) t rfl
   rw [List.drop_succ_cons, ofF, if_neg h0]
   exact ih fun j hj t ht => h (j + 1) (by omega) t ht
def mergeF {α : Type} (cmp : α → α → Int) (bo : α → α → α) : List α → List α → List α
 | [], b => b
 | a, [] => a
 | x :: a, y :: b => if cmp x y < 0 then x :: mergeF cmp bo a (y :: b) else if cmp x y > 0 then y :: mergeF cmp bo (x :: a) b else bo x y :: mergeF cmp bo a b
 termination_by a b => a.length + b.length
theorem merge_nil {α : Type} {cmp : α → α → Int} {bo : α → α → α} (a : List α) : mergeF cmp bo a [] = a := by
 cases a <;> simp [mergeF]
theorem nil_merge {α : Type} {cmp : α → α → Int} {bo : α → α → α} (a : List α) : mergeF cmp bo [] a = a := by simp [mergeF]
def cmpI (a b : Int) : Int := if a < b then -1 else if b < a then 1 else 0
def bothT (x y : Tk) : Tk := (x.1, if y.2 > x.2 then y.2 else x.2)
def joinF (a b : List Tk) : List Tk := mergeF (fun x y => cmpI x.1 y.1) bothT a b
theorem join_cons (x : Tk) (a : List Tk) (y : Tk) (b : List Tk) : joinF (x :: a) (y :: b) = if x.1 < y.1 then x :: joinF a (y :: b) else if y.1 < x.1 then y :: joinF (x :: a) b else bothT x y :: joinF a b := by
 unfold joinF
 rw [mergeF]
 unfold cmpI
 by_cases h1 : x.1 < y.1
 ·simp [h1]
 ·by_cases h2 : y.1 < x.1
  ·simp [h1, h2]
  ·simp [h1, h2]
theorem join_nil (a : List Tk) : joinF a [] = a := merge_nil a
theorem nil_join (a : List Tk) : joinF [] a = a := nil_merge a
def cmpF (a b : List Tk) : Int := if a = b then 0 else if joinF a b = b then -1 else if joinF a b = a then 1 else 2
def underF (a b : List Tk) : Bool := a.all fun t => !decide (t.2 > ofF b t.1)
def rcmpF (a b : List Tk) : Int := if underF a b = true then (if underF b a = true then 0 else -1) else if underF b a = true then 1 else 2
def Up (c : List Tk) : Prop := c.Pairwise fun x y => x.1 < y.1
def Pos (c : List Tk) : Prop := ∀ t ∈ c, 0 < t.2 ∧ t.2 < 18446744073709551616
theorem of_pos {c : List Tk} (h : Pos c) (w : Int) : 0 ≤ ofF c w ∧ ofF c w < 18446744073709551616 := by
 induction c with
 | nil => simp [ofF]
 | cons t c ih =>
  rw [ofF]
  split
  ·have := h t (zP0 ..); omega
  ·exact ih fun t ht => h t (zM0 _ ht)
theorem of_absent {c : List Tk} {w : Int} (h : ∀ t ∈ c, t.1 ≠ w) : ofF c w = 0 := by
 induction c with
 | nil => rfl
 | cons t c ih =>
  rw [ofF, if_neg (h t (zP0 ..))]
  exact ih fun t ht => h t (zM0 _ ht)
theorem of_mem {c : List Tk} (hs : Up c) {t : Tk} (h : t ∈ c) : ofF c t.1 = t.2 := by
 induction c with
 | nil => cases h
 | cons s c ih =>
  have hs' := zY1.1 hs
  rcases List.mem_cons.1 h with rfl | h
  ·rw [ofF, if_pos rfl]
  ·have := hs'.1 t h
   rw [ofF, if_neg (by omega)]
   exact ih hs'.2 h
theorem of_low {c : List Tk} {w : Int} {x : Tk} (hs : Up (x :: c)) (h : w ≤ x.1) : ofF c w = 0 :=
 of_absent fun t ht => by have := (zY1.1 hs).1 t ht; omega
theorem clock_ext {a : List Tk} : ∀ {b : List Tk}, Up a → Up b → Pos a → Pos b → (∀ w, ofF a w = ofF b w) → a = b := by
 induction a with
 | nil =>
  intro b _ _ _ pb h
  cases b with
  | nil => rfl
  | cons t b =>
   have := h t.1
   rw [ofF, ofF, if_pos rfl] at this
   have := pb t (zP0 ..)
   omega
 | cons s a ih =>
  intro b ha hb pa pb h
  cases b with
  | nil =>
   have := h s.1
   rw [ofF, ofF, if_pos rfl] at this
   have := pa s (zP0 ..)
   omega
  | cons t b =>
   have ps := pa s (zP0 ..)
   have pt := pb t (zP0 ..)
   have e1 : s.1 = t.1 := by
    rcases Int.lt_trichotomy s.1 t.1 with hlt | heq | hgt
    ·have h1 := h s.1
     rw [ofF, if_pos rfl, ofF, if_neg (by omega), of_low hb (by omega)] at h1
     omega
    ·exact heq
    ·have h1 := h t.1
     rw [ofF, if_neg (by omega), of_low ha (by omega), ofF, if_pos rfl] at h1
     omega
   have e2 : s.2 = t.2 := by
    have h1 := h s.1
    rw [ofF, if_pos rfl, ofF, if_pos e1.symm] at h1
    exact h1
   have e : s = t := Prod.ext e1 e2
   subst e
   congr 1
   refine ih (zY1.1 ha).2 (zY1.1 hb).2 (fun t ht => pa t (zM0 _ ht)) (fun t ht => pb t (zM0 _ ht)) fun w => ?_
   by_cases hw : s.1 = w
   ·rw [of_low ha (by omega), of_low hb (by omega)]
   ·have h1 := h w
    rw [ofF, if_neg hw, ofF, if_neg hw] at h1
    exact h1
theorem join_mem : ∀ (n : Nat) {a b : List Tk}, a.length + b.length ≤ n → ∀ t ∈ joinF a b, (∃ s ∈ a, s.1 = t.1) ∨ ∃ s ∈ b, s.1 = t.1 := by
 intro n
 induction n with
 | zero =>
  intro a b h t ht
  cases a <;> cases b <;> simp_all [joinF, mergeF]
 | succ n ih =>
  intro a b h t ht
  cases a with
  | nil => rw [nil_join] at ht; exact .inr ⟨t, ht, rfl⟩
  | cons x a =>
   cases b with
   | nil => rw [join_nil] at ht; exact .inl ⟨t, ht, rfl⟩
   | cons y b =>
    simp only [zC0] at h
    rw [join_cons] at ht
    split at ht
    ·rcases List.mem_cons.1 ht with rfl | ht
     ·exact .inl ⟨_, zP0 .., rfl⟩
     ·rcases ih (by simp only [zC0]; omega) t ht with ⟨s, h1, h2⟩ | ⟨s, h1, h2⟩
      ·exact .inl ⟨s, zM0 _ h1, h2⟩
      ·exact .inr ⟨s, h1, h2⟩
    ·split at ht
     ·rcases List.mem_cons.1 ht with rfl | ht
      ·exact .inr ⟨_, zP0 .., rfl⟩
      ·rcases ih (by simp only [zC0]; omega) t ht with ⟨s, h1, h2⟩ | ⟨s, h1, h2⟩
       ·exact .inl ⟨s, h1, h2⟩
       ·exact .inr ⟨s, zM0 _ h1, h2⟩
     ·rcases List.mem_cons.1 ht with rfl | ht
      ·exact .inl ⟨_, zP0 .., rfl⟩
      ·rcases ih (by omega) t ht with ⟨s, h1, h2⟩ | ⟨s, h1, h2⟩
       ·exact .inl ⟨s, zM0 _ h1, h2⟩
       ·exact .inr ⟨s, zM0 _ h1, h2⟩
theorem join_laws : ∀ (n : Nat) {a b : List Tk}, a.length + b.length ≤ n → Up a → Up b → Pos a → Pos b → Up (joinF a b) ∧ Pos (joinF a b) ∧ ∀ w, ofF (joinF a b) w = max (ofF a w) (ofF b w) := by
 intro n
 induction n with
 | zero =>
  intro a b h ha hb pa pb
  cases a <;> cases b <;> simp_all [joinF, mergeF, ofF]
 | succ n ih =>
  intro a b h ha hb pa pb
  cases a with
  | nil =>
   rw [nil_join]
   refine ⟨hb, pb, fun w => ?_⟩
   have := of_pos pb w
   simp only [ofF]
   omega
  | cons x a =>
   cases b with
   | nil =>
    rw [join_nil]
    refine ⟨ha, pa, fun w => ?_⟩
    have := of_pos pa w
    simp only [ofF] at *
    omega
   | cons y b =>
    simp only [zC0] at h
    have ha' := zY1.1 ha
    have hb' := zY1.1 hb
    have pa' : Pos a := fun t ht => pa t (zM0 _ ht)
    have pb' : Pos b := fun t ht => pb t (zM0 _ ht)
    have px := pa x (zP0 ..)
    have py := pb y (zP0 ..)
    rw [join_cons]
    split
    ·rename_i hlt
     obtain ⟨h1, h2, h3⟩ := ih (a := a) (b := y :: b) (by simp only [zC0]; omega) ha'.2 hb pa' pb
     refine ⟨zY1.2 ⟨fun t ht => ?_, h1⟩, fun t ht => ?_, fun w => ?_⟩
     ·rcases join_mem _ (Nat.le_refl _) t ht with ⟨s, hs, e⟩ | ⟨s, hs, e⟩
      ·have := ha'.1 s hs; omega
      ·rcases List.mem_cons.1 hs with rfl | hs
       ·omega
       ·have := hb'.1 s hs; omega
     ·rcases List.mem_cons.1 ht with rfl | ht
      ·exact px
      ·exact h2 t ht
     ·rw [ofF]
      split
      ·rename_i hw
       rw [ofF, if_pos hw]
       have : ofF (y :: b) w = 0 := of_absent fun t ht => by
        rcases List.mem_cons.1 ht with rfl | ht
        ·omega
        ·have := hb'.1 t ht; omega
       omega
      ·rename_i hw
       have e : ofF (x :: a) w = ofF a w := by rw [ofF, if_neg hw]
       rw [h3, e]
    ·split
     ·rename_i hnl hlt
      obtain ⟨h1, h2, h3⟩ := ih (a := x :: a) (b := b) (by simp only [zC0]; omega) ha hb'.2 pa pb'
      refine ⟨zY1.2 ⟨fun t ht => ?_, h1⟩, fun t ht => ?_, fun w => ?_⟩
      ·rcases join_mem _ (Nat.le_refl _) t ht with ⟨s, hs, e⟩ | ⟨s, hs, e⟩
       ·rcases List.mem_cons.1 hs with rfl | hs
        ·omega
        ·have := ha'.1 s hs; omega
       ·have := hb'.1 s hs; omega
      ·rcases List.mem_cons.1 ht with rfl | ht
       ·exact py
       ·exact h2 t ht
      ·rw [ofF]
       split
       ·rename_i hw
        have e : ofF (y :: b) w = y.2 := by rw [ofF, if_pos hw]
        have : ofF (x :: a) w = 0 := of_absent fun t ht => by
         rcases List.mem_cons.1 ht with rfl | ht
         ·omega
         ·have := ha'.1 t ht; omega
        omega
       ·rename_i hw
        have e : ofF (y :: b) w = ofF b w := by rw [ofF, if_neg hw]
        rw [h3, e]
     ·rename_i hn1 hn2
      have exy : x.1 = y.1 := by omega
      obtain ⟨h1, h2, h3⟩ := ih (a := a) (b := b) (by omega) ha'.2 hb'.2 pa' pb'
      refine ⟨zY1.2 ⟨fun t ht => ?_, h1⟩, fun t ht => ?_, fun w => ?_⟩
      ·show x.1 < t.1
       rcases join_mem _ (Nat.le_refl _) t ht with ⟨s, hs, e⟩ | ⟨s, hs, e⟩
       ·have := ha'.1 s hs; omega
       ·have := hb'.1 s hs; omega
      ·rcases List.mem_cons.1 ht with rfl | ht
       ·simp only [bothT]; split <;> omega
       ·exact h2 t ht
      ·by_cases hw : x.1 = w
       ·have e1 : ofF (x :: a) w = x.2 := by rw [ofF, if_pos hw]
        have e2 : ofF (y :: b) w = y.2 := by rw [ofF, if_pos (by omega)]
        rw [e1, e2, ofF, if_pos (show (bothT x y).1 = w from hw)]
        simp only [bothT]
        split <;> omega
       ·have e1 : ofF (x :: a) w = ofF a w := by rw [ofF, if_neg hw]
        have e2 : ofF (y :: b) w = ofF b w := by rw [ofF, if_neg (by omega)]
        rw [e1, e2, ofF, if_neg (show ¬ (bothT x y).1 = w from hw), h3]
theorem okAt_spec {c : List Tk} (h : ∀ j, j < c.length → okAt c j = true) (hu : ∀ t ∈ c, 0 ≤ t.2 ∧ t.2 < 18446744073709551616) : Up c ∧ Pos c := by
 refine ⟨?_, fun t ht => ?_⟩
 ·have hadj : ∀ j, (hj : j + 1 < c.length) → (c[j]'(by omega)).1 < (c[j + 1]).1 := by
   intro j hj
   have := h (j + 1) hj
   unfold okAt at this
   rw [zD hj] at this
   simp only [Nat.add_sub_cancel, zD (show j < c.length by omega)] at this
   simp only [Bool.and_eq_true, Bool.or_eq_true, Bool.not_eq_true', decide_eq_false_iff_not] at this
   rcases this.2 with h0 | h0
   ·simp at h0
   ·omega
  unfold Up
  rw [List.pairwise_iff_getElem]
  intro i j hi hj hij
  obtain ⟨d, rfl⟩ : ∃ d, j = i + d + 1 := ⟨j - i - 1, by omega⟩
  clear hij
  induction d with
  | zero => exact hadj i hj
  | succ d ih => exact Int.lt_trans (ih (by omega)) (hadj (i + d + 1) hj)
 ·obtain ⟨j, hj⟩ := List.getElem?_of_mem ht
  have hlt := (zI.1 hj).1
  have := h j hlt
  unfold okAt at this
  rw [hj] at this
  simp only [Bool.and_eq_true, Bool.not_eq_true', beq_eq_false_iff_ne] at this
  have h2 := hu t ht
  have h3 := this.1.2
  omega
theorem isClock_spec {c : List Tk} (h : isClockF c = true) (hu : ∀ t ∈ c, 0 ≤ t.2 ∧ t.2 < 18446744073709551616) : Up c ∧ Pos c ∧ c.length ≤ 40 := by
 unfold isClockF at h
 simp only [Bool.and_eq_true, decide_eq_true_eq] at h
 exact ⟨(okAt_spec h.1 hu).1, (okAt_spec h.1 hu).2, h.2⟩
theorem under_iff {a b : List Tk} (ha : Up a) (pb : Pos b) : underF a b = true ↔ ∀ w, ofF a w ≤ ofF b w := by
 unfold underF
 simp only [List.all_eq_true, Bool.not_eq_true', decide_eq_false_iff_not]
 constructor
 ·intro h w
  by_cases hw : ∃ t ∈ a, t.1 = w
  ·obtain ⟨t, ht, rfl⟩ := hw
   have := h t ht
   rw [of_mem ha ht]
   omega
  ·rw [of_absent fun t ht e => hw ⟨t, ht, e⟩]
   exact (of_pos pb w).1
 ·intro h t ht
  have := h t.1
  rw [of_mem ha ht] at this
  omega
theorem cmp_eq {a b : List Tk} (ha : Up a) (hb : Up b) (pa : Pos a) (pb : Pos b) : cmpF a b = rcmpF a b := by
 obtain ⟨h1, h2, h3⟩ := join_laws _ (Nat.le_refl _) ha hb pa pb
 have e1 : joinF a b = b ↔ underF a b = true := by
  rw [under_iff ha pb]
  constructor
  ·intro e w
   have := h3 w
   rw [e] at this
   omega
  ·intro h
   exact clock_ext h1 hb h2 pb fun w => by rw [h3]; have := h w; omega
 have e2 : joinF a b = a ↔ underF b a = true := by
  rw [under_iff hb pa]
  constructor
  ·intro e w
   have := h3 w
   rw [e] at this
   omega
  ·intro h
   exact clock_ext h1 ha h2 pa fun w => by rw [h3]; have := h w; omega
 have e3 : a = b ↔ underF a b = true ∧ underF b a = true := by
  rw [under_iff ha pb, under_iff hb pa]
  constructor
  ·rintro rfl
   exact ⟨fun w => Int.le_refl _, fun w => Int.le_refl _⟩
  ·rintro ⟨x, y⟩
   exact clock_ext ha hb pa pb fun w => Int.le_antisymm (x w) (y w)
 unfold cmpF rcmpF
 by_cases x : underF a b = true <;> by_cases y : underF b a = true
 ·rw [if_pos (e3.2 ⟨x, y⟩), if_pos x, if_pos y]
 ·rw [if_neg (fun e => y (e3.1 e).2), if_pos (e1.2 x), if_pos x, if_neg y]
 ·rw [if_neg (fun e => x (e3.1 e).1), if_neg (fun e => x (e1.1 e)), if_pos (e2.2 y), if_neg x, if_pos y]
 ·rw [if_neg (fun e => x (e3.1 e).1), if_neg (fun e => x (e1.1 e)), if_neg (fun e => y (e2.1 e)), if_neg x, if_neg y]
section
def YStep (P : Program) (id : Nat) (xs : List MV) (S : MS) (b : Bool) (S' : MS) : Prop :=
 ∀ (L : MS) (rd : Option Nat) (o : Oper) (env : Env) (f : Operand) (args : Array Operand) (ts : Array TypeId), o.op = .call { callee := .value f, args := args, argTypes := ts } → evo env f = some (.yld id) → evos env args.toList = some xs →
  OpWp P rd o env (S ++ L) (fun v σ' => v = .bool b ∧ σ' = S' ++ L)
def IterOk (P : Program) (k : FuncId) (first caps : List MV) (ys : List (List MV)) (ok : MS → Prop) : Prop :=
 ∀ (id : Nat) (T : Nat → MS) (m : Nat), (∀ j, ok (T j)) → (∀ j y, j < m → ys[j]? = some y → YStep P id y (T j) true (T (j + 1))) →
  (m = ys.length → MCalls P k (first ++ [.yld id] ++ caps) (T 0) fun _ σ' => σ' = T m) ∧
  (∀ y, ys[m]? = some y → YStep P id y (T m) false (T (m + 1)) → MCalls P k (first ++ [.yld id] ++ caps) (T 0) fun _ σ' => σ' = T (m + 1))
theorem get_mid {A B : MS} {o : MObj} : (A ++ o :: B)[A.length]? = some o := by
 rw [List.getElem?_append_right (Nat.le_refl _), Nat.sub_self]; rfl
theorem set_mid {A B : MS} {o p : MObj} : (A ++ o :: B).set A.length p = A ++ p :: B := by
 rw [List.set_append_right _ _ (Nat.le_refl _), Nat.sub_self]; rfl
section
variable {P : Program} {rd : Option Nat} {N n : Nat} {Q : Exit → Env → MS → Prop} {env : Env} {S : MS}
end
end
section
theorem Rel.recell {g : Gh} {σ : MS} {w : World} (h : Rel g σ w) {id : Nat} {l l' : List MV} (hσ : σ[id]? = some (.cells l)) (hl : ∀ us, Rds g w l us → Rds g w l' us) : Rel g (σ.set id (.cells l')) w := by
 have hlt := (zI.1 hσ).1
 refine ⟨h.below, h.base, h.fresh, fun i hi => h.bkn i (by simpa using hi), fun t n ht => h.lgn t n (by simpa using ht), ?_⟩
 obtain ⟨own, ho⟩ := h.ex
 refine ⟨own, ⟨fun i o hi => ?_, ho.inj, fun i b hi => by have := ho.lt i b hi; exact ⟨by simpa using this.1, this.2⟩⟩⟩
 rw [List.getElem?_set] at hi
 split at hi
 ·rename_i e
  subst e
  injection hi with hi
  subst hi
  obtain ⟨b, us, ty, h1, h2, h3, h4, h5⟩ := ho.obj _ _ hσ
  exact ⟨b, us, ty, h1, h2, h3, h4, hl us h5⟩
 ·exact ho.obj i o hi
section
variable {P : Program} {rd : Option Nat} {N n : Nat} {c : Code} {Q : Exit → Env → MS → Prop} {env : Env} {S L : MS}
theorem YStep.at0 {id : Nat} {xs : List MV} {S S' : MS} {b : Bool} (h : YStep P id xs S b S') {o : Oper} {f : Operand} {args : Array Operand} {ts : Array TypeId} (ho : o.op = .call { callee := .value f, args := args, argTypes := ts }) (hf : evo env f = some (.yld id)) (hx : evos env args.toList = some xs) : OpWp P rd o env S (fun v σ' => v = .bool b ∧ σ' = S') := by
 have := h [] rd o env f args ts ho hf hx
 simpa using this
end
section
variable {P : Program} {fn : Func} {S S' L : MS} {R : MV → MS → Prop} {env : Env}
theorem ret_noneT {e : Exit} (he : e = .normal ∨ e = .ret) (hres : fn.results = #[]) (hl : S.length ≤ S'.length) (hS : ClS S') (hR : R (.tup []) S') : BodyQ P fn S R e env S' := by
 have := zT2 (P := P) (env := env) (L := []) he hres hl hS hR
 rwa [List.append_nil] at this
theorem ret_tmpT {e : Exit} {t : Nat} {x y : MV} (he : e = .normal ∨ e = .ret) (hres : fn.results = #[.tmp t]) (hx : get env t = some x) (hs : Sub x y) (hc : Cl S'.length y) (hl : S.length ≤ S'.length) (hS : ClS S') (hR : R y S') : BodyQ P fn S R e env S' := by
 have := zE2 (P := P) (env := env) (L := []) he hres hx hs hc hl hS hR
 rwa [List.append_nil] at this
end
section
variable {P : Program} {rd : Option Nat} {o : Oper} {env : Env} {S L L' R : MS} {K : MV → MS → Prop}
theorem get_mid_ {k : Nat} {ob : MObj} (h : L[k]? = some ob) : ((S ++ L) ++ R)[S.length + k]? = some ob := by
 rw [zR, getElem?_own]
 exact get_app h
theorem set_mid_ {k : Nat} {ob p : MObj} (h : L[k]? = some ob) : ((S ++ L) ++ R).set (S.length + k) p = (S ++ L.set k p) ++ R := by
 rw [zR, zY3, set_app h, zR]
theorem op_store_mid {t : TypeId} {x y : Operand} {i off : Nat} {l : List MV} {m : MV} {k : Nat} (ho : o.op = .store t x y) (hx : evo env x = some (.ref (S.length + i) off)) (hy : evo env y = some m) (hσ : L[i]? = some (.cells l)) (hk : szOf P t = some k) (hm : m.cells.length = k)
  (h1 : m.cells.all MV.one = true) (hle : off + k ≤ l.length) (hL : L.set i (.cells (setMany l off m.cells)) = L') (h : K (.tup []) ((S ++ L') ++ R)) : OpWp P rd o env ((S ++ L) ++ R) K :=
 zZ3 ho hx hy (get_mid_ hσ) hk hm h1 hle (by rw [set_mid_ hσ, hL]; exact h)
end
theorem strNe' {a b : Bs} (h : a = b) : strCmp .neq a b = some false := by simp [strCmp, h]
end
def encX (s : Bs) : MV := .str (bs s)
theorem cl_encX (n : Nat) (s : Bs) : Cl n (encX s) := .str _
theorem encX_one (s : Bs) : encX s = .agg (encX s).cells ∨ [encX s] = (encX s).cells := .inr rfl
theorem cl_texts (n : Nat) (l : List Bs) : Cl n (.lst none 1 (l.map encX)) := cl_lst (cl_encX n) encX_one
def encC (c : List Tk) : MV := .lst none 2 (c.map encT)
theorem cl_encC (n : Nat) (c : List Tk) : Cl n (encC c) := cl_clock n c
theorem encC_one (c : List Tk) : encC c = .agg (encC c).cells ∨ [encC c] = (encC c).cells := .inr rfl
theorem cl_clocks (n : Nat) (l : List (List Tk)) : Cl n (.lst none 1 (l.map encC)) := cl_lst (cl_encC n) encC_one
inductive Val where
 | mk (n m : Int) (s : List Bs) (c : List (List Tk)) (v : List Val)
 deriving Inhabited
noncomputable instance : DecidableEq Val := fun a b => Classical.propDecidable (a = b)
mutual
def encV : Val → MV
 | .mk n m s c v => .agg [.int .u64 n, .int .u64 m, .lst none 1 (s.map encX), .lst none 1 (c.map encC), .lst none 5 (encVs v)]
def encVs : List Val → List MV
 | [] => []
 | x :: l => encV x :: encVs l
end
theorem encVs_eq : ∀ l : List Val, encVs l = l.map encV
 | [] => by simp [encVs]
 | x :: l => by simp [encVs, encVs_eq l]
theorem encVs_length (l : List Val) : (encVs l).length = l.length := by rw [encVs_eq, zH]
theorem _root_.zZ : type_of% @encVs_length := @encVs_length
theorem encVs_get {l : List Val} {i : Nat} {s : Val} (h : l[i]? = some s) : (encVs l)[i]? = some (encV s) := by rw [encVs_eq, zJ1, h]; rfl
theorem _root_.zE5 : type_of% @encVs_get := @encVs_get
mutual
theorem cl_encV (k : Nat) : ∀ x : Val, Cl k (encV x)
 | .mk n m s c v => by
  refine .agg _ fun x hx => ?_
  simp only [encV, List.mem_cons, List.not_mem_nil, or_false] at hx
  rcases hx with rfl | rfl | rfl | rfl | rfl
  ·exact .int _ _
  ·exact .int _ _
  ·exact cl_texts k s
  ·exact cl_clocks k c
  ·exact .lst none 5 _ (fun t ht => by cases ht) (cl_encVs k v)
theorem cl_encVs (k : Nat) : ∀ (l : List Val), ∀ x ∈ flat (encVs l), Cl k x
 | [], x, hx => by simp [encVs, flat] at hx
 | s :: l, x, hx => by
  rw [encVs, zQ4, zX1] at hx
  rcases hx with hx | hx
  ·have h := cl_encV k s
   cases s with
   | mk n m ss c v =>
    cases h with
    | agg _ h => exact h x hx
  ·exact cl_encVs k l x hx
end
theorem _root_.zG2 : type_of% @cl_encV := @cl_encV
def Val.nv : Val → Int | .mk n _ _ _ _ => n
def Val.mv : Val → Int | .mk _ m _ _ _ => m
def Val.sv : Val → List Bs | .mk _ _ s _ _ => s
def Val.cv : Val → List (List Tk) | .mk _ _ _ c _ => c
def Val.vv : Val → List Val | .mk _ _ _ _ v => v
mutual
def vdepth : Val → Nat
 | .mk _ _ _ _ v => 1 + vdepthL v
def vdepthL : List Val → Nat
 | [] => 0
 | x :: l => max (vdepth x) (vdepthL l)
end
theorem vdepth_mem {l : List Val} {x : Val} (h : x ∈ l) : vdepth x ≤ vdepthL l := by
 induction l with
 | nil => cases h
 | cons y l ih =>
  rw [vdepthL]
  rcases List.mem_cons.1 h with rfl | h
  ·omega
  ·have := ih h; omega
def risesF : List Bs → Bool
 | [] => true
 | [_] => true
 | a :: b :: l => Op.bytesLess a b && risesF (b :: l)
def shortF (l : List Bs) : Bool := l.all fun s => decide (s.length ≤ 16)
def tickC (x y : Tk) : Int := if cmpI x.1 y.1 ≠ 0 then cmpI x.1 y.1 else cmpI x.2 y.2
def byTicksF : List Tk → List Tk → Int
 | [], [] => 0
 | [], _ :: _ => -1
 | _ :: _, [] => 1
 | x :: a, y :: b => if tickC x y ≠ 0 then tickC x y else byTicksF a b
def pairF (a b : List Tk) : Bool := decide (byTicksF a b < 0) && decide (cmpF a b = 2)
def pairsF : List (List Tk) → Bool
 | [] => true
 | a :: l => l.all (pairF a) && pairsF l
def isCauseF (l : List (List Tk)) : Bool := l.all isClockF && pairsF l
def noV : Val := .mk 0 0 [] [] []
end Go.MV
namespace Go.Proofs.YtplclefbiimnbaaGreat
open Go Go.MV Go.RowKit
mutual
def bottomF : Sch → Val
 | .mk k ins => if k = 5 then .mk 0 0 [] [] (bottomL ins) else noV
def bottomL : List Sch → List Val
 | [] => []
 | s :: l => bottomF s :: bottomL l
end
def BottomF (s : Sch) : Val := if isF 16 s then bottomF s else noV
noncomputable def noneF (s : Sch) (v : Val) : Bool := decide (BottomF s = v)
def numsK (k : Int) : Bool := k == 1 || k == 2 || k == 6
def textsK (k : Int) : Bool := k == 3 || k == 4 || k == 6
def clocksK (k : Int) : Bool := k == 7 || k == 8
def valuesK (k : Int) : Bool := k == 4 || k == 5 || k == 8
def bareF (k : Int) (v : Val) : Bool := (numsK k || v.nv == 0) && (k == 6 || v.mv == 0) && (textsK k || v.sv.length == 0) && (clocksK k || v.cv.length == 0) && (valuesK k || v.vv.length == 0)
def isRowF (s : List Bs) : Bool := decide (s.length ≤ 40) && risesF s && shortF s
def isLastF (n m : Int) : List Bs → Bool
 | [] => n == 0 && m == 0
 | [t] => decide (t.length ≤ 16) && (!(n == 0) || !(m == 0) || !(t == []))
 | _ => false
noncomputable def isB (k : Int) (ins : List Sch) (fs : List (Val → Bool)) (v : Val) : Bool :=
  bareF k v && decide (v.vv.length ≤ 40) && decide (v.cv.length ≤ 40) &&
  (if k = 1 then true else if k = 2 then decide (v.nv ≤ 1) else if k = 3 then isRowF v.sv
   else if k = 4 then isRowF v.sv && decide (v.sv.length = v.vv.length) && v.vv.all (fun x => fs.headD (fun _ => false) x && !noneF (ins.headD default) x)
   else if k = 5 then (match v.vv with | [x, y] => fs.headD (fun _ => false) x && fs.tail.headD (fun _ => false) y | _ => false)
   else if k = 6 then isLastF v.nv v.mv v.sv
   else if k = 7 then (match v.cv with | [] => true | [c] => decide (0 < c.length) && isClockF c | _ => false)
   else decide (v.cv.length = v.vv.length) && isCauseF v.cv && v.vv.all (fs.headD (fun _ => false)))
mutual
noncomputable def isVF : Sch → Val → Bool
 | .mk k ins, v => isB k ins (isVL ins) v
noncomputable def isVL : List Sch → List (Val → Bool)
 | [] => []
 | s :: l => isVF s :: isVL l
end
theorem isVL_eq : ∀ l : List Sch, isVL l = l.map isVF
 | [] => by simp [isVL]
 | s :: l => by simp [isVL, isVL_eq l]
def hasF (v : Val) (n m s c w : Bool) : Bool := (n || v.nv == 0) && (m || v.mv == 0) && (s || v.sv.length == 0) && (c || v.cv.length == 0) && (w || v.vv.length == 0)
def fitsF (k : Int) (v : Val) : Bool :=
 if k = 1 then hasF v true false false false false
 else if k = 2 then hasF v true false false false false && decide (v.nv ≤ 1)
 else if k = 3 then hasF v false false true false false && shortF v.sv
 else if k = 4 then hasF v false false true false true && shortF v.sv && decide (v.sv.length = v.vv.length)
 else if k = 5 then hasF v false false false false true && decide (v.vv.length = 2)
 else if k = 6 then (match v.sv with | [] => hasF v false false false false false | [t] => hasF v true true true false false && decide (t.length ≤ 16) && (!(v.nv == 0) || !(v.mv == 0) || !(t == [])) | _ => false)
 else if k = 7 then hasF v false false false true false && decide (v.cv.length ≤ 1)
 else hasF v false false false true true && decide (v.cv.length = v.vv.length)
def aheadF : List Tk → List Tk → Bool
 | [], [] => false
 | [], _ :: _ => true
 | _ :: _, [] => false
 | x :: a, y :: b => if x.1 ≠ y.1 then decide (x.1 < y.1) else if x.2 ≠ y.2 then decide (x.2 < y.2) else aheadF a b
def sibAt (f : Val → Bool) (c : List (List Tk)) (v : List Val) (i : Nat) : Bool :=
 isClockF (c.getD i []) && f (v.getD i noV) && (i == 0 || aheadF (c.getD (i - 1) []) (c.getD i [])) && decide (∀ j, j < i → cmpF (c.getD j []) (c.getD i []) = 2)
def sibsF (f : Val → Bool) (c : List (List Tk)) (v : List Val) : Bool := decide (c.length ≤ 40) && decide (∀ i, i < c.length → sibAt f c v i = true)
noncomputable def isRB (k : Int) (ins : List Sch) (fs : List (Val → Bool)) (v : Val) : Bool :=
  fitsF k v && risesF v.sv && decide (v.sv.length ≤ 40) &&
  (if k = 4 then v.vv.all (fun x => fs.headD (fun _ => false) x && !noneF (ins.headD default) x)
   else if k = 5 then (match v.vv with | [x, y] => fs.headD (fun _ => false) x && fs.tail.headD (fun _ => false) y | _ => false)
   else if k = 7 then (match v.cv with | [] => true | [c] => isClockF c && decide (0 < c.length) | _ => false)
   else if k = 8 then sibsF (fs.headD (fun _ => false)) v.cv v.vv else true)
mutual
noncomputable def isRF : Sch → Val → Bool
 | .mk k ins, v => isRB k ins (isRL ins) v
noncomputable def isRL : List Sch → List (Val → Bool)
 | [] => []
 | s :: l => isRF s :: isRL l
end
theorem isRL_eq : ∀ l : List Sch, isRL l = l.map isRF
 | [] => by simp [isRL]
 | s :: l => by simp [isRL, isRL_eq l]
theorem tick_zero {x y : Tk} : tickC x y = 0 ↔ x = y := by
 obtain ⟨a, b⟩ := x; obtain ⟨c, d⟩ := y
 simp only [tickC, cmpI, Prod.mk.injEq]
 split <;> split <;> (try split) <;> (try split) <;> omega
theorem tick_neg {x y : Tk} : tickC x y < 0 ↔ x.1 < y.1 ∨ (x.1 = y.1 ∧ x.2 < y.2) := by
 simp only [tickC, cmpI]
 split <;> split <;> (try split) <;> (try split) <;> omega
theorem ticks_ahead : ∀ a b : List Tk, aheadF a b = decide (byTicksF a b < 0)
 | [], [] => rfl
 | [], _ :: _ => rfl
 | _ :: _, [] => rfl
 | x :: a, y :: b => by
  rw [aheadF, byTicksF]
  by_cases h : tickC x y = 0
  ·have e := tick_zero.1 h
   subst e
   rw [if_neg (by simp), if_neg (by simp), if_neg (fun hn => hn h), ticks_ahead a b]
  ·rw [if_pos h]
   have h1 : ¬ x = y := fun e => h (tick_zero.2 e)
   by_cases hn : tickC x y < 0
   ·have := tick_neg.1 hn
    rw [decide_eq_true hn]
    split
    ·rw [decide_eq_true (by omega)]
    ·rw [if_pos (by omega), decide_eq_true (by omega)]
   ·have h2 : ¬ (x.1 < y.1 ∨ (x.1 = y.1 ∧ x.2 < y.2)) := fun e => hn (tick_neg.2 e)
    rw [decide_eq_false hn]
    split
    ·rw [decide_eq_false (by omega)]
    ·have h3 : x.2 ≠ y.2 := fun e => h1 (Prod.ext (by omega) e)
     rw [if_pos h3, decide_eq_false (by omega)]
theorem ticks_trans : ∀ {a b c : List Tk}, byTicksF a b < 0 → byTicksF b c < 0 → byTicksF a c < 0
 | [], [], _, h, _ => by simp [byTicksF] at h
 | [], _ :: _, [], _, h => by simp [byTicksF] at h
 | [], _ :: _, _ :: _, _, _ => by simp [byTicksF]
 | _ :: _, [], _, h, _ => by simp [byTicksF] at h
 | _ :: _, _ :: _, [], _, h => by simp [byTicksF] at h
 | x :: a, y :: b, z :: c, h1, h2 => by
  rw [byTicksF] at h1 h2 ⊢
  by_cases e1 : tickC x y = 0
  ·have := tick_zero.1 e1
   subst this
   rw [if_neg (by simpa using e1)] at h1
   by_cases e2 : tickC x z = 0
   ·rw [if_neg (by simpa using e2)] at h2 ⊢
    exact ticks_trans h1 h2
   ·rw [if_pos e2] at h2 ⊢
    exact h2
  ·rw [if_pos e1] at h1
   by_cases e2 : tickC y z = 0
   ·have := tick_zero.1 e2
    subst this
    rw [if_pos e1]
    exact h1
   ·rw [if_pos e2] at h2
    have h3 := tick_neg.1 h1
    have h4 := tick_neg.1 h2
    have h5 : tickC x z < 0 := tick_neg.2 (by omega)
    rw [if_pos (by omega)]
    exact h5
theorem pairsF_iff : ∀ l : List (List Tk), pairsF l = true ↔ l.Pairwise fun a b => byTicksF a b < 0 ∧ cmpF a b = 2
 | [] => by simp [pairsF]
 | a :: l => by
  rw [pairsF, Bool.and_eq_true, pairsF_iff l, zY1, List.all_eq_true]
  simp [pairF]
theorem getD_lt {α : Type} {l : List α} {i : Nat} (d : α) (h : i < l.length) : l.getD i d = l[i] := by simp [h]
theorem _root_.zC : type_of% @Bool.eq_iff_iff := @Bool.eq_iff_iff
theorem sibs_eq {f : Val → Bool} {c : List (List Tk)} {v : List Val} (hl : c.length = v.length) : (decide (c.length ≤ 40) && (isCauseF c && v.all f)) = sibsF f c v := by
 unfold sibsF
 congr 1
 rw [zC, decide_eq_true_iff, Bool.and_eq_true, isCauseF, Bool.and_eq_true, pairsF_iff, List.all_eq_true, List.all_eq_true]
 constructor
 ·rintro ⟨⟨h1, h2⟩, h3⟩ i hi
  have hp := List.pairwise_iff_getElem.1 h2
  unfold sibAt
  rw [getD_lt _ hi, getD_lt _ (by omega : i < v.length), h1 _ (List.getElem_mem _), h3 _ (List.getElem_mem _)]
  simp only [Bool.true_and, Bool.and_eq_true, Bool.or_eq_true, decide_eq_true_eq, beq_iff_eq]
  refine ⟨?_, fun j hj => ?_⟩
  ·cases i with
   | zero => exact .inl rfl
   | succ i =>
    refine .inr ?_
    rw [Nat.add_sub_cancel, getD_lt _ (by omega : i < c.length), ticks_ahead, decide_eq_true_eq]
    exact (hp i (i + 1) (by omega) hi (by omega)).1
  ·rw [getD_lt _ (by omega : j < c.length)]
   exact (hp j i (by omega) hi hj).2
 ·intro h
  have h0 : ∀ i, ∀ hi : i < c.length, isClockF c[i] = true ∧ f (v[i]'(by omega)) = true ∧ (i = 0 ∨ byTicksF (c[i - 1]'(by omega)) c[i] < 0) ∧ ∀ j, ∀ hj : j < i, cmpF (c[j]'(by omega)) c[i] = 2 := by
   intro i hi
   have := h i hi
   unfold sibAt at this
   rw [getD_lt _ hi, getD_lt _ (by omega : i < v.length), getD_lt _ (by omega : i - 1 < c.length), ticks_ahead] at this
   simp only [Bool.and_eq_true, Bool.or_eq_true, decide_eq_true_eq, beq_iff_eq] at this
   obtain ⟨⟨⟨a1, a2⟩, a3⟩, a4⟩ := this
   refine ⟨a1, a2, a3, fun j hj => ?_⟩
   have := a4 j hj
   rwa [getD_lt _ (by omega : j < c.length)] at this
  have hlt : ∀ d i, ∀ hi : i + d + 1 < c.length, byTicksF (c[i]'(by omega)) c[i + d + 1] < 0 := by
   intro d
   induction d with
   | zero =>
    intro i hi
    rcases (h0 (i + 1) hi).2.2.1 with h | h
    ·omega
    ·exact h
   | succ d ih =>
    intro i hi
    have h1 := ih i (by omega)
    rcases (h0 (i + (d + 1) + 1) hi).2.2.1 with h | h
    ·omega
    ·exact ticks_trans h1 h
  refine ⟨⟨fun x hx => ?_, ?_⟩, fun x hx => ?_⟩
  ·obtain ⟨i, hi, rfl⟩ := List.mem_iff_getElem.1 hx
   exact (h0 i hi).1
  ·rw [List.pairwise_iff_getElem]
   intro i j hi hj hij
   obtain ⟨d, rfl⟩ : ∃ d, j = i + d + 1 := ⟨j - i - 1, by omega⟩
   exact ⟨hlt d i hj, (h0 _ hj).2.2.2 i hij⟩
  ·obtain ⟨i, hi, rfl⟩ := List.mem_iff_getElem.1 hx
   exact (h0 i (by omega)).2.1
theorem isB_eq {k : Int} {ins : List Sch} {fs : List (Val → Bool)} {v : Val} (hk : partsF k = (ins.length : Int)) : isB k ins fs v = isRB k ins fs v := by
 obtain ⟨n, m, s, c, w⟩ := v
 have hk8 : k = 1 ∨ k = 2 ∨ k = 3 ∨ k = 4 ∨ k = 5 ∨ k = 6 ∨ k = 7 ∨ k = 8 := by
  unfold partsF at hk
  split at hk
  ·omega
  ·split at hk
   ·omega
   ·split at hk <;> omega
 rcases hk8 with rfl | rfl | rfl | rfl | rfl | rfl | rfl | rfl
 ·rw [zC]
  simp [isB, isRB, bareF, fitsF, hasF, numsK, textsK, clocksK, valuesK, Val.nv, Val.mv, Val.sv, Val.cv, Val.vv]
  constructor <;> intro h <;> simp_all [risesF]
 ·rw [zC]
  simp [isB, isRB, bareF, fitsF, hasF, numsK, textsK, clocksK, valuesK, Val.nv, Val.mv, Val.sv, Val.cv, Val.vv]
  constructor <;> intro h <;> simp_all [risesF]
 ·rw [zC]
  simp [isB, isRB, bareF, fitsF, hasF, numsK, textsK, clocksK, valuesK, Val.nv, Val.mv, Val.sv, Val.cv, Val.vv, isRowF]
  constructor <;> intro h <;> simp_all
 ·rw [zC]
  by_cases hl : s.length = w.length
  ·by_cases h4 : w.length ≤ 40
   ·simp [isB, isRB, bareF, fitsF, hasF, numsK, textsK, clocksK, valuesK, Val.nv, Val.mv, Val.sv, Val.cv, Val.vv, isRowF, hl, h4]
    constructor <;> intro h <;> simp_all
   ·simp [isB, isRB, bareF, fitsF, hasF, numsK, textsK, clocksK, valuesK, Val.nv, Val.mv, Val.sv, Val.cv, Val.vv, isRowF, hl, h4]
  ·simp [isB, isRB, bareF, fitsF, hasF, numsK, textsK, clocksK, valuesK, Val.nv, Val.mv, Val.sv, Val.cv, Val.vv, isRowF, hl]
 ·rw [zC]
  match w with
  | [x, y] =>
   simp [isB, isRB, bareF, fitsF, hasF, numsK, textsK, clocksK, valuesK, Val.nv, Val.mv, Val.sv, Val.cv, Val.vv]
   intro _ _
   constructor <;> intro h <;> simp_all [risesF]
  | [] => simp [isB, isRB, bareF, fitsF, hasF, numsK, textsK, clocksK, valuesK, Val.nv, Val.mv, Val.sv, Val.cv, Val.vv]
  | [x] => simp [isB, isRB, bareF, fitsF, hasF, numsK, textsK, clocksK, valuesK, Val.nv, Val.mv, Val.sv, Val.cv, Val.vv]
  | _ :: _ :: _ :: _ => simp [isB, isRB, bareF, fitsF, hasF, numsK, textsK, clocksK, valuesK, Val.nv, Val.mv, Val.sv, Val.cv, Val.vv]
 ·rw [zC]
  simp [isB, isRB, bareF, fitsF, hasF, numsK, textsK, clocksK, valuesK, Val.nv, Val.mv, Val.sv, Val.cv, Val.vv]
  match s with
  | [] => simp [isLastF, risesF]; constructor <;> intro h <;> simp_all
  | [t] =>
   simp [isLastF, risesF]
   constructor <;> intro h <;> simp_all
  | _ :: _ :: _ => simp [isLastF]
 ·rw [zC]
  simp [isB, isRB, bareF, fitsF, hasF, numsK, textsK, clocksK, valuesK, Val.nv, Val.mv, Val.sv, Val.cv, Val.vv]
  match c with
  | [] => simp; constructor <;> intro h <;> simp_all [risesF]
  | [t] => simp; constructor <;> intro h <;> simp_all [risesF]
  | _ :: _ :: _ => simp
 ·by_cases hl : c.length = w.length
  ·have hs := sibs_eq (f := fs.headD (fun _ => false)) hl
   rw [zC]
   rw [zC] at hs
   simp [isB, isRB, bareF, fitsF, hasF, numsK, textsK, clocksK, valuesK, Val.nv, Val.mv, Val.sv, Val.cv, Val.vv] at hs ⊢
   constructor
   ·intro h
    have := hs.1
    simp_all [risesF]
   ·intro h
    have := hs.2 h.2
    simp_all
  ·rw [zC]
   simp [isB, isRB, bareF, fitsF, hasF, numsK, textsK, clocksK, valuesK, Val.nv, Val.mv, Val.sv, Val.cv, Val.vv, hl]
theorem isVF_eq : ∀ (d : Nat) (s : Sch), isF d s = true → isVF s = isRF s
 | 0, s, h => by simp [isF] at h
 | d + 1, .mk k ins, h => by
  simp only [isF, Bool.and_eq_true, beq_iff_eq, List.all_eq_true] at h
  funext v
  rw [isVF, isRF, isB_eq h.1, isVL_eq, isRL_eq]
  congr 1
  exact List.map_congr_left fun x hx => isVF_eq d x (h.2 x hx)
def okTk (t : Tk) : Prop := 0 ≤ t.2 ∧ t.2 < 18446744073709551616
mutual
def okV : Val → Prop
 | .mk n m s c v => (0 ≤ n ∧ n < 18446744073709551616) ∧ (0 ≤ m ∧ m < 18446744073709551616) ∧ (∀ x ∈ c, ∀ t ∈ x, okTk t) ∧ okVs v
def okVs : List Val → Prop
 | [] => True
 | x :: l => okV x ∧ okVs l
end
theorem okVs_iff : ∀ {l : List Val}, okVs l ↔ ∀ x ∈ l, okV x
 | [] => by simp [okVs]
 | x :: l => by rw [okVs, okVs_iff (l := l)]; simp
theorem isF_mono : ∀ (d : Nat) (s : Sch), isF d s = true → isF (d + 1) s = true
 | 0, s, h => by simp [isF] at h
 | d + 1, .mk k ins, h => by
  rw [isF] at h ⊢
  simp only [Bool.and_eq_true, List.all_eq_true] at h ⊢
  exact ⟨h.1, fun x hx => isF_mono d x (h.2 x hx)⟩
theorem isF_le {d e : Nat} (hde : d ≤ e) {s : Sch} (h : isF d s = true) : isF e s = true := by
 obtain ⟨k, rfl⟩ : ∃ k, e = d + k := ⟨e - d, by omega⟩
 induction k with
 | zero => exact h
 | succ k ih => exact isF_mono _ _ (ih (by omega))
section
abbrev RdS := Bs × Option Int
def failR (e : Int) (r : RdS) : RdS := (r.1, match r.2 with | none => some e | some x => some x)
def numScan (n i : Nat) : Bs → Except Int (Nat × Bs)
 | [] => .error 11
 | c :: l =>
  if 64 ≤ 7 * i ∨ 18446744073709551616 ≤ (c.toNat % 128) * 2 ^ (7 * i) ∨ (0 < i ∧ c = 0) then .error 10
  else if c.toNat < 128 then .ok (n + c.toNat % 128 * 2 ^ (7 * i), l)
  else numScan (n + c.toNat % 128 * 2 ^ (7 * i)) (i + 1) l
def numM (r : RdS) : Nat × RdS := match r.2 with
 | some _ => (0, r)
 | none => match numScan 0 0 r.1 with | .ok (n, l) => (n, (l, none)) | .error e => (0, (r.1, some e))
def textM (r : RdS) : Bs × RdS :=
 if (numM r).2.2.isSome then ([], (numM r).2)
 else if 16 < (numM r).1 then ([], failR 13 (numM r).2)
 else if (numM r).2.1.length < (numM r).1 then ([], failR 11 (numM r).2)
 else ((numM r).2.1.take (numM r).1, ((numM r).2.1.drop (numM r).1, (numM r).2.2))
def rowGo {α : Type} (one : RdS → α × RdS) : Nat → List α → RdS → List α × RdS
 | 0, acc, r => (acc, r)
 | k + 1, acc, r => if r.2.isSome then ([], r) else rowGo one k (acc ++ [(one r).1]) (one r).2
def rowM {α : Type} (one : RdS → α × RdS) (r : RdS) : List α × RdS := rowGo one (numM r).1 [] (if 40 < (numM r).1 then failR 13 (numM r).2 else (numM r).2)
def whoM (r : RdS) : Nat × RdS := if 1000000 < (numM r).1 then (0, failR 10 (numM r).2) else numM r
def tickM (r : RdS) : Tk × RdS := ((((whoM r).1 : Int), ((numM (whoM r).2).1 : Int)), (numM (whoM r).2).2)
def clockM : RdS → List Tk × RdS := rowM tickM
theorem pow7 (i : Nat) : 2 ^ (7 * (i + 1)) = 128 * 2 ^ (7 * i) := by
 rw [show 7 * (i + 1) = 7 * i + 7 by omega, Nat.pow_add]
 omega
theorem pow7_lt {i m : Nat} (h : m * 2 ^ (7 * i) < 18446744073709551616) (hm : 0 < i → 0 < m) : ¬ 64 ≤ 7 * i := by
 intro hi
 have h1 : 2 ^ 64 ≤ 2 ^ (7 * i) := Nat.pow_le_pow_right (by omega) hi
 have h2 : 1 * 2 ^ (7 * i) ≤ m * 2 ^ (7 * i) := Nat.mul_le_mul_right _ (hm (by omega))
 omega
theorem numB_lo {m : Nat} (h : m < 128) : numB m = [UInt8.ofNat m] := by rw [numB, dif_pos h]
theorem _root_.zC5 : type_of% @numB_lo := @numB_lo
theorem numB_hi {m : Nat} (h : ¬ m < 128) : numB m = UInt8.ofNat (m % 128 + 128) :: numB (m / 128) := by rw [numB, dif_neg h]
theorem u8_is0 {m : Nat} (h : m < 256) : UInt8.ofNat m = 0 ↔ m = 0 := by
 constructor
 ·intro e
  have := congrArg UInt8.toNat e
  rw [u8_toNat h] at this
  simpa using this
 ·rintro rfl; rfl
theorem scan_back : ∀ (m n i : Nat) (rest : Bs), m * 2 ^ (7 * i) < 18446744073709551616 → (0 < i → 0 < m) → numScan n i (numB m ++ rest) = .ok (n + m * 2 ^ (7 * i), rest) := by
 intro m
 induction m using Nat.strongRecOn with
 | _ m ih =>
  intro n i rest h hm
  have hi := pow7_lt h hm
  by_cases hlt : m < 128
  ·have e : m % 128 = m := Nat.mod_eq_of_lt hlt
   rw [zC5 hlt, List.singleton_append, numScan, u8_toNat (by omega), e, if_neg, if_pos hlt]
   rw [u8_is0 (by omega)]
   omega
  ·have hb : m % 128 + 128 < 256 := by omega
   have e : (m % 128 + 128) % 128 = m % 128 := by omega
   have hle : m % 128 * 2 ^ (7 * i) ≤ m * 2 ^ (7 * i) := Nat.mul_le_mul_right _ (Nat.mod_le _ _)
   have hdm : m / 128 * 2 ^ (7 * (i + 1)) + m % 128 * 2 ^ (7 * i) = m * 2 ^ (7 * i) := by
    rw [pow7, ← Nat.mul_assoc, ← Nat.add_mul]
    congr 1
    omega
   rw [numB_hi hlt, List.cons_append, numScan, u8_toNat hb, e, if_neg, if_neg (by omega), ih (m / 128) (by omega) _ _ _ (by omega) (by omega)]
   ·congr 2
    omega
   ·rw [u8_is0 hb]
    omega
theorem scan_short : ∀ (m n i : Nat) (p q : Bs), m * 2 ^ (7 * i) < 18446744073709551616 → (0 < i → 0 < m) → numB m = p ++ q → q ≠ [] → numScan n i p = .error 11 := by
 intro m
 induction m using Nat.strongRecOn with
 | _ m ih =>
  intro n i p q h hm e hq
  have hi := pow7_lt h hm
  cases p with
  | nil => rfl
  | cons c p =>
   by_cases hlt : m < 128
   ·rw [zC5 hlt, List.cons_append] at e
    injection e with e1 e2
    have := congrArg List.length e2
    have hq' := List.length_pos_iff.2 hq
    simp at this
    omega
   ·have hb : m % 128 + 128 < 256 := by omega
    have hle : m % 128 * 2 ^ (7 * i) ≤ m * 2 ^ (7 * i) := Nat.mul_le_mul_right _ (Nat.mod_le _ _)
    have hdm : m / 128 * 2 ^ (7 * (i + 1)) + m % 128 * 2 ^ (7 * i) = m * 2 ^ (7 * i) := by
     rw [pow7, ← Nat.mul_assoc, ← Nat.add_mul]
     congr 1
     omega
    rw [numB_hi hlt, List.cons_append] at e
    injection e with e1 e2
    subst e1
    rw [numScan, u8_toNat hb, show (m % 128 + 128) % 128 = m % 128 by omega, if_neg, if_neg (by omega)]
    ·exact ih (m / 128) (by omega) _ _ _ _ (by omega) (by omega) e2 hq
    ·rw [u8_is0 hb]
     omega
theorem scan_one : ∀ (b : Bs) (n i v : Nat) (rest : Bs), numScan n i b = .ok (v, rest) → ∃ m, v = n + m * 2 ^ (7 * i) ∧ b = numB m ++ rest ∧ m * 2 ^ (7 * i) < 18446744073709551616 ∧ (0 < i → 0 < m)
 | [], n, i, v, rest, h => by simp [numScan] at h
 | c :: l, n, i, v, rest, h => by
  rw [numScan] at h
  split at h
  ·cases h
  ·rename_i hc
   have hc' : c = UInt8.ofNat c.toNat := by simp
   have hct := c.toNat_lt
   split at h
   ·rename_i hlt
    injection h with h
    injection h with h1 h2
    subst h1 h2
    have e : c.toNat % 128 = c.toNat := Nat.mod_eq_of_lt hlt
    refine ⟨c.toNat, by rw [e], by rw [zC5 hlt, ← hc']; rfl, by rw [← e]; omega, fun hi => ?_⟩
    rcases Nat.eq_zero_or_pos c.toNat with h0 | h0
    ·exact absurd (show c = 0 by rw [hc', h0]; rfl) (fun e => hc (.inr (.inr ⟨hi, e⟩)))
    ·exact h0
   ·rename_i hge
    obtain ⟨m, e1, e2, e3, e4⟩ := scan_one l _ _ _ _ h
    have hm := e4 (by omega)
    have hd : (128 * m + c.toNat % 128) / 128 = m := by omega
    have hr : (128 * m + c.toNat % 128) % 128 = c.toNat % 128 := by omega
    refine ⟨128 * m + c.toNat % 128, ?_, ?_, ?_, fun _ => by omega⟩
    ·rw [e1, pow7, Nat.add_mul, Nat.mul_comm 128 m, Nat.mul_assoc]
     omega
    ·rw [numB_hi (by omega), hd, hr, e2, List.cons_append]
     congr 1
     rw [show c.toNat % 128 + 128 = c.toNat by omega]
     exact hc'
    ·rw [pow7] at e3
     by_cases h7 : 7 * (i + 1) < 64
     ·have hp : 2 ^ (7 * i) * (128 * (m + 1)) ≤ 18446744073709551616 := by
       have hk : m * (128 * 2 ^ (7 * i)) < 18446744073709551616 := e3
       have hdiv : ∃ q, 18446744073709551616 = 128 * 2 ^ (7 * i) * q := ⟨2 ^ (64 - 7 * (i + 1)), by
        rw [← pow7, ← Nat.pow_add, show 7 * (i + 1) + (64 - 7 * (i + 1)) = 64 by omega]⟩
       obtain ⟨q, hq⟩ := hdiv
       have hmq : m < q := by
        rw [hq, Nat.mul_comm m] at hk
        exact Nat.lt_of_mul_lt_mul_left hk
       have : 128 * 2 ^ (7 * i) * (m + 1) ≤ 128 * 2 ^ (7 * i) * q := Nat.mul_le_mul_left _ hmq
       rw [hq]
       calc 2 ^ (7 * i) * (128 * (m + 1)) = 128 * 2 ^ (7 * i) * (m + 1) := by rw [Nat.mul_comm 128 (2 ^ (7 * i)), Nat.mul_assoc]
        _ ≤ _ := this
      have hlt : (128 * m + c.toNat % 128) * 2 ^ (7 * i) < 2 ^ (7 * i) * (128 * (m + 1)) := by
       rw [Nat.mul_comm]
       exact Nat.mul_lt_mul_of_pos_left (by omega) (Nat.two_pow_pos _)
      omega
     ·exfalso
      have h1 : 2 ^ 64 ≤ 2 ^ (7 * (i + 1)) := Nat.pow_le_pow_right (by omega) (by omega)
      rw [pow7] at h1
      have h2 : 1 * (128 * 2 ^ (7 * i)) ≤ m * (128 * 2 ^ (7 * i)) := Nat.mul_le_mul_right _ hm
      omega
structure Cod {α : Type} (M : RdS → α × RdS) (E : α → Bs) (P Q : α → Prop) : Prop where
 er : ∀ b e, (M (b, some e)).2 = (b, some e)
 rt : ∀ x rest, P x → M (E x ++ rest, none) = (x, (rest, none))
 sh : ∀ x p q, P x → E x = p ++ q → q ≠ [] → (M (p, none)).2.2 = some 11
 un : ∀ b x rest, M (b, none) = (x, (rest, none)) → Q x → b = E x ++ rest
theorem num_err (b : Bs) (e : Int) : numM (b, some e) = (0, (b, some e)) := rfl
theorem num_ok {b l : Bs} {n : Nat} (h : numScan 0 0 b = .ok (n, l)) : numM (b, none) = (n, (l, none)) := by simp only [numM, h]
theorem num_bad {b : Bs} {e : Int} (h : numScan 0 0 b = .error e) : numM (b, none) = (0, (b, some e)) := by simp only [numM, h]
theorem num_back (m : Nat) (rest : Bs) (h : m < 18446744073709551616) : numM (numB m ++ rest, none) = (m, (rest, none)) := by
 have := scan_back m 0 0 rest (by simpa using h) (by omega)
 rw [num_ok this]
 simp
theorem _root_.zL4 : type_of% @num_back := @num_back
theorem num_short {m : Nat} {p q : Bs} (h : m < 18446744073709551616) (e : numB m = p ++ q) (hq : q ≠ []) : numM (p, none) = (0, (p, some 11)) := num_bad (scan_short m 0 0 p q (by simpa using h) (by omega) e hq)
theorem num_one {b rest : Bs} {v : Nat} (h : numM (b, none) = (v, (rest, none))) : b = numB v ++ rest ∧ v < 18446744073709551616 := by
 unfold numM at h
 simp only at h
 cases hs : numScan 0 0 b with
 | error e => rw [hs] at h; simp at h
 | ok x =>
  obtain ⟨n, l⟩ := x
  rw [hs] at h
  simp only [Prod.mk.injEq, and_true] at h
  obtain ⟨rfl, rfl⟩ := h
  obtain ⟨m, e1, e2, e3, _⟩ := scan_one b 0 0 n l hs
  have : n = m := by simpa using e1
  subst this
  exact ⟨e2, by simpa using e3⟩
theorem num_cases (b : Bs) : (∃ e, numM (b, none) = (0, (b, some e))) ∨ ∃ v rest, numM (b, none) = (v, (rest, none)) := by
 unfold numM
 simp only
 cases numScan 0 0 b with
 | error e => exact .inl ⟨e, rfl⟩
 | ok x => exact .inr ⟨x.1, x.2, rfl⟩
theorem cod_num : Cod numM numB (fun m => m < 18446744073709551616) (fun _ => True) where
 er _ _ := rfl
 rt m rest h := zL4 m rest h
 sh m p q h e hq := by rw [num_short h e hq]
 un b m rest h _ := (num_one h).1
theorem cut_two {a b p q : Bs} (h : a ++ b = p ++ q) (hq : q ≠ []) : (∃ q', a = p ++ q' ∧ q' ≠ []) ∨ ∃ p', p = a ++ p' ∧ b = p' ++ q := by
 rcases List.append_eq_append_iff.1 h with ⟨c, h1, h2⟩ | ⟨c, h1, h2⟩
 ·exact .inr ⟨c, h1, h2⟩
 ·by_cases hc : c = []
  ·subst hc
   exact .inr ⟨[], by simpa using h1.symm, by simpa using h2.symm⟩
  ·exact .inl ⟨c, h1, hc⟩
theorem fail_ok (e : Int) (b : Bs) : failR e (b, none) = (b, some e) := rfl
theorem fail_err (e x : Int) (b : Bs) : failR e (b, some x) = (b, some x) := rfl
theorem cod_text : Cod textM textB (fun s => s.length ≤ 16) (fun _ => True) where
 er b e := by simp [textM, num_err]
 rt s rest h := by
  have hn := zL4 s.length (s ++ rest) (by omega)
  unfold textM textB
  rw [zR, hn]
  simp only [Option.isSome_none, Bool.false_eq_true, if_false]
  rw [if_neg (by omega), if_neg (by simp)]
  simp
 sh s p q h e hq := by
  unfold textB at e
  rcases cut_two e hq with ⟨q', e1, hq'⟩ | ⟨p', e1, e2⟩
  ·unfold textM
   rw [num_short (by omega) e1 hq']
   rfl
  ·subst e1
   unfold textM
   rw [zL4 s.length p' (by omega)]
   have hl := congrArg List.length e2
   have hq' := List.length_pos_iff.2 hq
   rw [zF] at hl
   simp only [Option.isSome_none, Bool.false_eq_true, if_false]
   rw [if_neg (by omega), if_pos (by omega)]
   rfl
 un b s rest h _ := by
  unfold textM at h
  rcases num_cases b with ⟨e, hn⟩ | ⟨v, l, hn⟩
  ·rw [hn] at h; simp at h
  ·rw [hn] at h
   simp only [Option.isSome_none, Bool.false_eq_true, if_false] at h
   split at h
   ·simp [fail_ok] at h
   ·split at h
    ·simp [fail_ok] at h
    ·rename_i h1 h2
     simp only [Prod.mk.injEq, and_true] at h
     obtain ⟨rfl, rfl⟩ := h
     have hb := (num_one hn).1
     have hl : (l.take v).length = v := by rw [List.length_take]; omega
     rw [hb, textB, hl, zR, List.take_append_drop]
def listGo {α : Type} (one : RdS → α × RdS) : Nat → RdS → List α × RdS
 | 0, r => ([], r)
 | k + 1, r => if r.2.isSome then ([], r) else ((one r).1 :: (listGo one k (one r).2).1, (listGo one k (one r).2).2)
theorem rowGo_list {α : Type} (one : RdS → α × RdS) : ∀ k acc r, (rowGo one k acc r).2 = (listGo one k r).2 ∧ ((listGo one k r).2.2 = none → (rowGo one k acc r).1 = acc ++ (listGo one k r).1)
 | 0, acc, r => by simp [rowGo, listGo]
 | k + 1, acc, r => by
  rw [rowGo, listGo]
  by_cases h : r.2.isSome = true
  ·rw [if_pos h, if_pos h]
   refine ⟨rfl, fun hn => ?_⟩
   rw [show (([] : List α), r).2.2 = r.2 from rfl] at hn
   rw [hn] at h
   cases h
  ·rw [if_neg h, if_neg h]
   obtain ⟨h1, h2⟩ := rowGo_list one k (acc ++ [(one r).1]) (one r).2
   refine ⟨h1, fun hn => ?_⟩
   rw [h2 hn]
   simp
theorem listGo_err {α : Type} (one : RdS → α × RdS) (b : Bs) (e : Int) : ∀ k, listGo one k (b, some e) = ([], (b, some e))
 | 0 => rfl
 | k + 1 => rfl
section
variable {α : Type} {one : RdS → α × RdS} {E : α → Bs} {P Q : α → Prop} (h : Cod one E P Q)
include h
theorem list_back : ∀ (l : List α) (rest : Bs), (∀ x ∈ l, P x) → listGo one l.length (l.flatMap E ++ rest, none) = (l, (rest, none))
 | [], rest, _ => rfl
 | x :: l, rest, hl => by
  have h1 := h.rt x (l.flatMap E ++ rest) (hl x (.head _))
  have h2 := list_back l rest fun y hy => hl y (.tail _ hy)
  rw [zC0, listGo, List.flatMap_cons, zR, if_neg (by simp), h1]
  simp only [h2]
theorem list_short : ∀ (l : List α) (p q : Bs), (∀ x ∈ l, P x) → l.flatMap E = p ++ q → q ≠ [] → (listGo one l.length (p, none)).2.2 = some 11
 | [], p, q, _, e, hq => by
  have := congrArg List.length e
  have := List.length_pos_iff.2 hq
  simp only [List.flatMap_nil, List.length_nil, zF] at *
  omega
 | x :: l, p, q, hl, e, hq => by
  rw [List.flatMap_cons] at e
  rw [zC0, listGo, if_neg (by simp)]
  rcases cut_two e hq with ⟨q', e1, hq'⟩ | ⟨p', e1, e2⟩
  ·have h1 := h.sh x p q' (hl x (.head _)) e1 hq'
   show (listGo one l.length (one (p, none)).2).2.2 = some 11
   rw [show (one (p, none)).2 = ((one (p, none)).2.1, some 11) from Prod.ext rfl h1, listGo_err]
  ·subst e1
   rw [h.rt x p' (hl x (.head _))]
   exact list_short l p' q (fun y hy => hl y (.tail _ hy)) e2 hq
theorem list_one : ∀ (k : Nat) (b : Bs) (l : List α) (rest : Bs), listGo one k (b, none) = (l, (rest, none)) → (∀ x ∈ l, Q x) → b = l.flatMap E ++ rest ∧ l.length = k
 | 0, b, l, rest, hk, _ => by
  simp only [listGo, Prod.mk.injEq, and_true] at hk
  obtain ⟨rfl, rfl⟩ := hk
  exact ⟨rfl, rfl⟩
 | k + 1, b, l, rest, hk, hq => by
  rw [listGo, if_neg (by simp)] at hk
  injection hk with h1 h2
  cases he : (one (b, none)).2.2 with
  | some e =>
   rw [show (one (b, none)).2 = ((one (b, none)).2.1, some e) from Prod.ext rfl he, listGo_err] at h2
   cases h2
  | none =>
   have hr : (one (b, none)).2 = ((one (b, none)).2.1, none) := Prod.ext rfl he
   subst h1
   have ih := list_one k (one (b, none)).2.1 (listGo one k (one (b, none)).2).1 rest (by rw [hr] at h2 ⊢; exact Prod.ext rfl h2) fun x hx => hq x (.tail _ hx)
   have hu := h.un b (one (b, none)).1 (one (b, none)).2.1 (Prod.ext rfl hr) (hq _ (.head _))
   refine ⟨?_, by rw [zC0, ih.2]⟩
   rw [List.flatMap_cons, zR, ← ih.1]
   exact hu
def rowB {α : Type} (E : α → Bs) (l : List α) : Bs := numB l.length ++ l.flatMap E
omit h in
theorem rowM_ok {b l : Bs} {n : Nat} (hn : numM (b, none) = (n, (l, none))) (h40 : n ≤ 40) : rowM one (b, none) = rowGo one n [] (l, none) := by
 unfold rowM
 rw [hn, if_neg (by simpa using h40)]
omit h in
theorem rowM_large {b l : Bs} {n : Nat} (hn : numM (b, none) = (n, (l, none))) (h40 : 40 < n) : rowM one (b, none) = ([], (l, some 13)) := by
 unfold rowM
 rw [hn, if_pos h40]
 obtain ⟨k, rfl⟩ : ∃ k, n = k + 1 := ⟨n - 1, by omega⟩
 rfl
omit h in
theorem rowM_bad {b : Bs} {e : Int} (hn : numM (b, none) = (0, (b, some e))) : rowM one (b, none) = ([], (b, some e)) := by
 unfold rowM
 rw [hn]
 rfl
theorem cod_row : Cod (rowM one) (rowB E) (fun l => l.length ≤ 40 ∧ ∀ x ∈ l, P x) (fun l => ∀ x ∈ l, Q x) where
 er b e := rfl
 rt l rest hl := by
  have h1 := zL4 l.length (l.flatMap E ++ rest) (by omega)
  unfold rowB
  rw [zR, rowM_ok h1 hl.1]
  have h2 := list_back h l rest hl.2
  obtain ⟨h3, h4⟩ := rowGo_list one l.length [] (l.flatMap E ++ rest, none)
  rw [h2] at h3 h4
  exact Prod.ext (h4 rfl) h3
 sh l p q hl e hq := by
  unfold rowB at e
  rcases cut_two e hq with ⟨q', e1, hq'⟩ | ⟨p', e1, e2⟩
  ·rw [rowM_bad (num_short (by omega) e1 hq')]
  ·subst e1
   rw [rowM_ok (zL4 l.length p' (by omega)) hl.1, (rowGo_list one l.length [] (p', none)).1]
   exact list_short h l p' q hl.2 e2 hq
 un b l rest hl hq := by
  rcases num_cases b with ⟨e, hn⟩ | ⟨v, m, hn⟩
  ·rw [rowM_bad hn] at hl; cases hl
  ·rcases Nat.lt_or_ge 40 v with h40 | h40
   ·rw [rowM_large hn h40] at hl; cases hl
   ·rw [rowM_ok hn h40] at hl
    obtain ⟨h3, h4⟩ := rowGo_list one v [] (m, none)
    rw [hl] at h3 h4
    have hlist : listGo one v (m, none) = (l, (rest, none)) := by
     have := h4 (by rw [← h3])
     exact Prod.ext (by simpa using this.symm) h3.symm
    obtain ⟨e1, e2⟩ := list_one h v m l rest hlist hq
    unfold rowB
    rw [(num_one hn).1, e2, e1, zR]
end
end
def errV : Option Int → MV
 | none => .iface0
 | some x => .iface 45 (.int .i64 x)
def rdO (r : RdS) : MObj := .cells [.str (bs r.1), errV r.2]
theorem cl_errV (n : Nat) : ∀ e, Cl n (errV e)
 | none => .iface0
 | some x => .iface _ _ (.int _ _)
theorem rd_cl (n : Nat) (r : RdS) : (rdO r).cl n := fun x hx => by
 rcases List.mem_cons.1 hx with rfl | hx
 ·exact .str _
 ·rcases List.mem_cons.1 hx with rfl | hx
  ·exact cl_errV _ _
  ·cases hx
theorem _root_.zG3 : type_of% @rd_cl := @rd_cl
def Reads {α : Type} (k : FuncId) (xs : List MV) (id : Nat) (en : α → MV) (M : RdS → α × RdS) : Prop := ∀ (r : RdS) (S : MS), S[id]? = some (rdO r) → r.1.length ≤ 8000000 → MCalls Tryz.prog k xs S fun v σ' => v = en (M r).1 ∧ σ' = S.set id (rdO (M r).2)
theorem set_sl {S L : MS} {id : Nat} {r : RdS} {o : MObj} (h : S[id]? = some (rdO r)) : (S ++ L).set id o = S.set id o ++ L := List.set_append_left _ _ (zI.1 h).1
theorem get_sl {S L : MS} {id : Nat} {o : MObj} (h : S[id]? = some o) : (S ++ L)[id]? = some o := by rw [List.getElem?_append_left (zI.1 h).1]; exact h
theorem _root_.zO3 : type_of% @get_sl := @get_sl
theorem Reads.sl {α : Type} {k : FuncId} {xs : List MV} {id : Nat} {en : α → MV} {M : RdS → α × RdS} (h : Reads k xs id en M) {r : RdS} {S L : MS} (hr : S[id]? = some (rdO r)) (hl : r.1.length ≤ 8000000) : MCalls Tryz.prog k xs (S ++ L) fun v σ' => v = en (M r).1 ∧ σ' = S.set id (rdO (M r).2) ++ L :=
 (h r (S ++ L) (zO3 hr) hl).mono fun v σ' hv => ⟨hv.1, by rw [hv.2, set_sl hr]⟩
theorem set_self_rd {S : MS} {id : Nat} {o : MObj} (h : S[id]? = some o) : S.set id o = S := by
 obtain ⟨hl, e⟩ := zI.1 h
 rw [← e, List.set_getElem_self]
theorem shl_u64 {c k : Nat} (hk : k < 64) (h : c * 2 ^ k < 18446744073709551616) : IntKind.u64.wrap ((c : Int) * 2 ^ min ((k : Int).toNat) IntKind.u64.bits) = ((c * 2 ^ k : Nat) : Int) := by
 rw [show min ((k : Int).toNat) IntKind.u64.bits = k by rw [Int.toNat_natCast]; simp [IntKind.bits]; omega, show (c : Int) * 2 ^ k = ((c * 2 ^ k : Nat) : Int) by simp, zJ3 (by omega)]
theorem shl_any (c k : Nat) (hk : k < 64) : IntKind.u64.wrap ((c : Int) * 2 ^ min ((k : Int).toNat) IntKind.u64.bits) = ((c * 2 ^ k % 18446744073709551616 : Nat) : Int) := by
 rw [show min ((k : Int).toNat) IntKind.u64.bits = k by rw [Int.toNat_natCast]; simp [IntKind.bits]; omega, show (c : Int) * 2 ^ k = ((c * 2 ^ k : Nat) : Int) by simp]
 simp [IntKind.wrap, IntKind.signed, IntKind.bits]
theorem shr_nat64 {m i : Nat} (hi : i < 64) : Int.fdiv (m : Int) (2 ^ min ((i : Int).toNat) IntKind.u64.bits) = ((m / 2 ^ i : Nat) : Int) := by
 rw [show min ((i : Int).toNat) IntKind.u64.bits = i by rw [Int.toNat_natCast]; simp [IntKind.bits]; omega, show (2 : Int) ^ i = ((2 ^ i : Nat) : Int) by simp, Int.fdiv_eq_ediv_of_nonneg _ (Int.natCast_nonneg _)]
 rfl
theorem shl_back {c k : Nat} : c * 2 ^ k % 18446744073709551616 / 2 ^ k = c ↔ c * 2 ^ k < 18446744073709551616 := by
 have hp := Nat.two_pow_pos k
 constructor
 ·intro h
  rcases Nat.lt_or_ge (c * 2 ^ k) 18446744073709551616 with hlt | hge
  ·exact hlt
  ·exfalso
   have h1 : c * 2 ^ k % 18446744073709551616 < 18446744073709551616 := Nat.mod_lt _ (by omega)
   have h2 : c * 2 ^ k ≤ c * 2 ^ k % 18446744073709551616 := (Nat.le_div_iff_mul_le hp).1 (by omega)
   omega
 ·intro h
  rw [Nat.mod_eq_of_lt h, Nat.mul_div_cancel _ hp]
theorem or_u64 {n c k : Nat} (hn : n < 2 ^ k) (h : c * 2 ^ k + n < 18446744073709551616) : bitsI .or .u64 (n : Int) ((c * 2 ^ k : Nat) : Int) = some ((n + c * 2 ^ k : Nat) : Int) := by
 show some (IntKind.u64.wrap ((BitVec.ofInt 64 (n : Int) ||| BitVec.ofInt 64 ((c * 2 ^ k : Nat) : Int)).toNat : Int)) = _
 simp only [BitVec.ofInt_natCast, BitVec.toNat_or, BitVec.toNat_ofNat]
 have e : n ||| c * 2 ^ k = n + c * 2 ^ k := by
  rw [Nat.or_comm, Nat.mul_comm c, ← Nat.two_pow_add_eq_or_of_lt hn, Nat.add_comm]
 rw [Nat.mod_eq_of_lt (show n < 2 ^ 64 by omega), Nat.mod_eq_of_lt (show c * 2 ^ k < 2 ^ 64 by omega), e, zJ3 (by omega)]
theorem fit_or {n m i : Nat} (hn : n < 2 ^ (7 * i)) (hm : m < 128) (hi : 7 * i < 64) (h : m * 2 ^ (7 * i) < 18446744073709551616) : m * 2 ^ (7 * i) + n < 18446744073709551616 ∧ n + m * 2 ^ (7 * i) < 2 ^ (7 * (i + 1)) := by
 have h1 : (m + 1) * 2 ^ (7 * i) ≤ 128 * 2 ^ (7 * i) := Nat.mul_le_mul_right _ (by omega)
 have h3 : (m + 1) * 2 ^ (7 * i) = m * 2 ^ (7 * i) + 2 ^ (7 * i) := by rw [Nat.add_mul, Nat.one_mul]
 refine ⟨?_, by rw [pow7]; omega⟩
 have hd : m * 2 ^ (7 * i) < 2 ^ (64 - 7 * i) * 2 ^ (7 * i) := by
  rw [← Nat.pow_add, show 64 - 7 * i + 7 * i = 64 by omega]
  exact h
 have hlt : m < 2 ^ (64 - 7 * i) := Nat.lt_of_mul_lt_mul_right hd
 have h2 : (m + 1) * 2 ^ (7 * i) ≤ 2 ^ (64 - 7 * i) * 2 ^ (7 * i) := Nat.mul_le_mul_right _ hlt
 rw [← Nat.pow_add, show 64 - 7 * i + 7 * i = 64 by omega] at h2
 omega
theorem ne_nat (a b : Nat) : intCmp .neq (a : Int) (b : Int) = some (decide (a ≠ b)) := by
 simp only [intCmp, Option.some.injEq]
 by_cases h : a = b
 ·simp [h]
 ·have : (a : Int) ≠ (b : Int) := by omega
  simp [h, this]
theorem _root_.zG0 : type_of% @Tryz.underlying37 := @Tryz.underlying37
theorem _root_.zI2 : type_of% @Tryz.underlying45 := @Tryz.underlying45
theorem fails_none (id : Nat) (b : Bs) (S : MS) (h : S[id]? = some (.cells [.str (bs b), .iface0])) (x : Int) : MCalls Tryz.prog 24 [.ref id 0, .int .i64 x] S fun v σ' => v = .tup [] ∧ σ' = S.set id (rdO (b, some x)) := by
 refine zN Tryz.func24 V Tryz.ntmps24 (zB V) ?_
 refine zS0 fun _ hcl => ?_
 rw [List.append_nil] at hcl
 refine zA <| qR V <| qM V V V <| qO V <| zE0 V V V <| qF V V V zH2 <| qO V <| zQ1 V V h ta37 V <| qO V <| zC4 V zG0 V V (.inl Vv) <| qN <| zX V (V) <| qR V <| qM V V V <| qM V V V <| qO V <| zM2 V V zI2 (by simp) ?_
 refine qO V <| zE0 V V V <| qF V V V zH2 <| qO V <| op_store_far V V V h sz37 V V (zB V) <| qN ?_
 exact zT2 (by simp) Tryz.results24 (by simp) (hcl.set (zG3 _ (b, some x))) Vv
theorem fails_some (id : Nat) (b : Bs) (e : Int) (S : MS) (h : S[id]? = some (.cells [.str (bs b), .iface 45 (.int .i64 e)])) (x : Int) : MCalls Tryz.prog 24 [.ref id 0, .int .i64 x] S fun v σ' => v = .tup [] ∧ σ' = S := by
 refine zN Tryz.func24 V Tryz.ntmps24 (zB V) ?_
 refine zS0 fun _ hcl => ?_
 rw [List.append_nil] at hcl
 refine zA <| qR V <| qM V V V <| qO V <| zE0 V V V <| qF V V V zH2 <| qO V <| zQ1 V V h ta37 V <| qO V <| zY2 V zG0 V V (.inl Vv) <| qN <| zJ V (V) <| zQ ?_
 exact zT2 (by simp) Tryz.results24 (by simp) hcl Vv
theorem fails_spec (id : Nat) (r : RdS) (S L : MS) (h : S[id]? = some (rdO r)) (x : Int) : MCalls Tryz.prog 24 [.ref id 0, .int .i64 x] (S ++ L) fun v σ' => v = .tup [] ∧ σ' = S.set id (rdO (failR x r)) ++ L := by
 obtain ⟨b, e⟩ := r
 cases e with
 | none =>
  refine (fails_none id b (S ++ L) (zO3 h) x).mono fun v σ' hv => ⟨hv.1, ?_⟩
  rw [hv.2, set_sl h]
  rfl
 | some e =>
  refine (fails_some id b e (S ++ L) (zO3 h) x).mono fun v σ' hv => ⟨hv.1, ?_⟩
  rw [hv.2, fail_err, set_self_rd h]
theorem _root_.zK2 : type_of% @fails_spec := @fails_spec
theorem _root_.zM4 : type_of% @Tryz.results42 := @Tryz.results42
theorem num_ok_spec (id : Nat) (b : Bs) (S : MS) (h : S[id]? = some (.cells [.str (bs b), .iface0])) (hlen : b.length ≤ 8000000) : MCalls Tryz.prog 42 [.ref id 0] S fun v σ' => v = .int .u64 ((numM (b, none)).1 : Int) ∧ σ' = S.set id (rdO (numM (b, none)).2) := by
 refine zN Tryz.func42 V Tryz.ntmps42 (zB V) ?_
 refine zS0 fun _ hcl => ?_
 rw [List.append_nil] at hcl
 have hlen' : b.length ≤ maxLen := by simp only [maxLen]; omega
 refine zA <| qR V <| qA V V V <| qN <| zA <| qR V <| qA V V V <| qN <| zA <| zA <| qR V <| qA V V V <| qN <| zW ?_
 refine zD1 (α := Nat × Nat) [(0, _)] (fun x => [(3, .int .u64 (x.1 : Int)), (4, .int .i64 (x.2 : Int))]) (fun x => []) (fun x => x.2 ≤ b.length ∧ x.1 < 2 ^ (7 * x.2) ∧ numScan x.1 x.2 (b.drop x.2) = numScan 0 0 b) (fun x => b.length - x.2) (⟨0, 0⟩) (.keep V (.nil)) (.keep V (.keep V (.nil))) (⟨by simp, by simp, by simp⟩) (V) ?_
 rintro ⟨n, i⟩ ⟨hi, hnp, he⟩
 dsimp only at hi hnp he ⊢
 refine zA <| zA <| qR V <| qM V V V <| qO V <| zE0 V V V <| qF V V V zH2 <| qO V <| zQ1 V V h ta37 V <| qO V <| zC4 V zG0 V V (.inl Vv) <| qN <| zX V (V) <| zQ <| zA <| zW <| zA <| zA <| qR V <| qM V V V <| qM V V V <| qO V <| zE0 V V V <| qF V V V zP3 <| qO V <| zQ1 V V h ta9 V ?_
 refine qO V <| zD2 V zJ0 V <| qC V V V V V <| qN ?_
 refine zE V (fun h20 => ?_) (fun h20 => ?_)
 ·
  have hge : i = b.length := by simp at h20; omega
  have hE : numM (b, none) = (0, (b, some 11)) := num_bad (he.symm.trans (by rw [hge, List.drop_length]; rfl))
  refine zA <| qR V <| qM V V V ?_
  refine qX V V V V co24 (zK2 id (b, none) S [] h _) ?_
  refine qN <| zA1 <| zA <| qR V <| qA V V V <| qN <| zG ?_
  exact zE2 (.inr V) zM4 V (.refl _) (.int _ _) (by simp) (hcl.set (zG3 _ _)) ⟨by rw [hE]; rfl, by rw [hE]; rfl⟩
 ·
  have hlt : i < b.length := by simpa using h20
  obtain ⟨c, hs⟩ : ∃ q_, b[i]? = some q_ := ⟨_, zD hlt⟩
  have hcl0 := c.toNat_lt
  rw [drop_at hs] at he
  refine zQ <| zA <| qR V <| qM V V V <| qO V <| zE0 V V V <| qF V V V zP3 <| qO V <| zQ1 V V h ta9 V <| qM V V V <| qO V <| op_index_str V zJ0 V V V hs <| qO V <| zR1 V Tryz.underlying5 zB1 V (u64_byte c) <| qA V V V <| qN <| zA <| qR V <| qM V V V <| qO V <| zU0 V V V (wmul (a := 7) (b := i) V (by omega)) ?_
  refine qA V V V <| qN <| zA <| zA <| qR V <| qM V V V <| qC V V V V V <| qM V V V ?_
  refine zB0 (fun h34 => ?_) (fun h34 => ?_)
  ·
   have h64 : 64 ≤ 7 * i := by simp at h34; omega
   have hE : numM (b, none) = (0, (b, some 10)) := num_bad (he.symm.trans (by rw [numScan, if_pos (.inl h64)]))
   refine qT V V V V <| qT V V V V <| qS V <| qP V V V V <| qM V V V <| qT V V V V <| qS V <| qS V <| qP V V V V <| qN <| zX V (V) <| zA <| qR V <| qM V V V ?_
   refine qX V V V V co24 (zK2 id (b, none) S [] h _) ?_
   refine qN <| zA1 <| zA <| qR V <| qA V V V <| qN <| zG ?_
   exact zE2 (.inr V) zM4 V (.refl _) (.int _ _) (by simp) (hcl.set (zG3 _ _)) ⟨by rw [hE]; rfl, by rw [hE]; rfl⟩
  ·
   have h64 : 7 * i < 64 := by simp at h34; omega
   refine qM V V V <| qO V <| op_rem V V V (by decide) (rem128 c.toNat) ?_
   refine qM V V V <| qO V <| op_shl V V V (by omega) (shl_any (c.toNat % 128) (7 * i) h64) ?_
   refine qM V V V <| qO V <| op_shr V V V (by omega) (shr_nat64 h64) ?_
   refine qM V V V <| qO V <| op_rem V V V (by decide) (rem128 c.toNat) ?_
   refine qC V V V V (ne_nat _ _) <| qP V V V V <| qM V V V ?_
   refine zB0 (fun h45 => ?_) (fun h45 => ?_)
   ·
    have hbig : 18446744073709551616 ≤ (c.toNat % 128) * 2 ^ (7 * i) := by simpa [shl_back] using h45
    have hE : numM (b, none) = (0, (b, some 10)) := num_bad (he.symm.trans (by rw [numScan, if_pos (.inr (.inl hbig))]))
    refine qT V V V V <| qS V <| qS V <| qP V V V V <| qN <| zX V (V) <| zA <| qR V <| qM V V V ?_
    refine qX V V V V co24 (zK2 id (b, none) S [] h _) ?_
    refine qN <| zA1 <| zA <| qR V <| qA V V V <| qN <| zG ?_
    exact zE2 (.inr V) zM4 V (.refl _) (.int _ _) (by simp) (hcl.set (zG3 _ _)) ⟨by rw [hE]; rfl, by rw [hE]; rfl⟩
   ·
    have hsm : (c.toNat % 128) * 2 ^ (7 * i) < 18446744073709551616 := by simpa [shl_back] using h45
    refine qM V V V <| qC V V V V V <| qM V V V ?_
    refine zB0 (fun h48 => ?_) (fun h48 => ?_)
    ·
     have hi0 : 0 < i := by simpa using h48
     refine qM V V V <| qC V V V V V <| qP V V V V <| qP V V V V <| qN ?_
     refine zE V (fun h52 => ?_) (fun h52 => ?_)
     ·
      have hc0 : c = 0 := by apply UInt8.toNat_inj.1; simp at h52 ⊢; omega
      have hE : numM (b, none) = (0, (b, some 10)) := num_bad (he.symm.trans (by rw [numScan, if_pos (.inr (.inr ⟨hi0, hc0⟩))]))
      refine zA <| qR V <| qM V V V ?_
      refine qX V V V V co24 (zK2 id (b, none) S [] h _) ?_
      refine qN <| zA1 <| zA <| qR V <| qA V V V <| qN <| zG ?_
      exact zE2 (.inr V) zM4 V (.refl _) (.int _ _) (by simp) (hcl.set (zG3 _ _)) ⟨by rw [hE]; rfl, by rw [hE]; rfl⟩
     ·
      have hc0 : ¬ c.toNat = 0 := by simp at h52; omega
      have hcc : ¬ (64 ≤ 7 * i ∨ 18446744073709551616 ≤ (c.toNat % 128) * 2 ^ (7 * i) ∨ (0 < i ∧ c = 0)) := by rintro (hq | hq | ⟨hq, hq2⟩) <;> first | omega | (subst hq2; exact hc0 rfl)
      have hm := c.toNat_lt
      have hfit := fit_or (m := c.toNat % 128) hnp (by omega) h64 hsm
      refine zQ <| zA <| qR V <| qM V V V <| qM V V V <| qO V <| op_rem V V V (by decide) (rem128 c.toNat) ?_
      refine qM V V V <| qO V <| op_shl V V V (by omega) (shl_u64 h64 hsm) ?_
      refine qO V <| op_bits V V V (or_u64 hnp hfit.1) <| qA V V V <| qN <| zA <| qR V <| qM V V V <| qC V V V V V <| qN ?_
      refine zE V (fun h62 => ?_) (fun h62 => ?_)
      ·
       have hlast : c.toNat < 128 := by simp at h62; omega
       have hE : numM (b, none) = (n + c.toNat % 128 * 2 ^ (7 * i), (b.drop (i + 1), none)) := num_ok (he.symm.trans (by rw [numScan, if_neg hcc, if_pos hlast]))
       refine zA <| qR V <| qM V V V <| qM V V V <| qO V <| zE0 V V V <| qF V V V zP3 <| qO V <| zQ1 V V h ta9 V <| qM V V V <| qO V <| zU0 V V V (wadd (a := i) (b := 1) V (by omega)) ?_
       refine qO V <| zR2 V zJ0 V (.some V V) .none (by omega) (by omega) ?_
       rw [List.take_of_length_le (by simp : (b.drop (i + 1)).length ≤ b.length - (i + 1))]
       refine qO V <| zE0 V V V <| qF V V V zP3 <| qO V <| op_store_far V V V h sz9 V V (zB V) <| qN <| zA <| qR V <| qM V V V <| qA V V V <| qN <| zG ?_
       exact zE2 (.inr V) zM4 V (.refl _) (.int _ _) (by simp) (hcl.set (zG3 _ (_, none))) ⟨by rw [hE], by rw [hE]; rfl⟩
      ·
       have hlast : ¬ c.toNat < 128 := by simp at h62; omega
       refine zQ <| qR V <| qM V V V <| qO V <| zU0 V V V V <| qA V V V <| qN ?_
       refine ⟨⟨n + c.toNat % 128 * 2 ^ (7 * i), i + 1⟩, by dsimp only; omega, ⟨by dsimp only; omega, hfit.2, by dsimp only; rw [← he, numScan, if_neg hcc, if_neg hlast]⟩, rfl, (.keep V (.nil)), (.eq V (V) (.eq V (zH1 hlt hlen') (.nil)))⟩
    ·
     have hi0 : i = 0 := by simp at h48; omega
     have hcc : ¬ (64 ≤ 7 * i ∨ 18446744073709551616 ≤ (c.toNat % 128) * 2 ^ (7 * i) ∨ (0 < i ∧ c = 0)) := by rintro (hq | hq | ⟨hq, hq2⟩) <;> omega
     have hm := c.toNat_lt
     have hfit := fit_or (m := c.toNat % 128) hnp (by omega) h64 hsm
     refine qS V <| qS V <| qP V V V V <| qP V V V V <| qN <| zJ V (V) <| zQ <| zA <| qR V <| qM V V V <| qM V V V <| qO V <| op_rem V V V (by decide) (rem128 c.toNat) ?_
     refine qM V V V <| qO V <| op_shl V V V (by omega) (shl_u64 h64 hsm) ?_
     refine qO V <| op_bits V V V (or_u64 hnp hfit.1) <| qA V V V <| qN <| zA <| qR V <| qM V V V <| qC V V V V V <| qN ?_
     refine zE V (fun h62 => ?_) (fun h62 => ?_)
     ·
      have hlast : c.toNat < 128 := by simp at h62; omega
      have hE : numM (b, none) = (n + c.toNat % 128 * 2 ^ (7 * i), (b.drop (i + 1), none)) := num_ok (he.symm.trans (by rw [numScan, if_neg hcc, if_pos hlast]))
      refine zA <| qR V <| qM V V V <| qM V V V <| qO V <| zE0 V V V <| qF V V V zP3 <| qO V <| zQ1 V V h ta9 V <| qM V V V <| qO V <| zU0 V V V (wadd (a := i) (b := 1) V (by omega)) ?_
      refine qO V <| zR2 V zJ0 V (.some V V) .none (by omega) (by omega) ?_
      rw [List.take_of_length_le (by simp : (b.drop (i + 1)).length ≤ b.length - (i + 1))]
      refine qO V <| zE0 V V V <| qF V V V zP3 <| qO V <| op_store_far V V V h sz9 V V (zB V) <| qN <| zA <| qR V <| qM V V V <| qA V V V <| qN <| zG ?_
      exact zE2 (.inr V) zM4 V (.refl _) (.int _ _) (by simp) (hcl.set (zG3 _ (_, none))) ⟨by rw [hE], by rw [hE]; rfl⟩
     ·
      have hlast : ¬ c.toNat < 128 := by simp at h62; omega
      refine zQ <| qR V <| qM V V V <| qO V <| zU0 V V V V <| qA V V V <| qN ?_
      refine ⟨⟨n + c.toNat % 128 * 2 ^ (7 * i), i + 1⟩, by dsimp only; omega, ⟨by dsimp only; omega, hfit.2, by dsimp only; rw [← he, numScan, if_neg hcc, if_neg hlast]⟩, rfl, (.keep V (.nil)), (.eq V (V) (.eq V (zH1 hlt hlen') (.nil)))⟩
theorem num_err_spec (id : Nat) (b : Bs) (e : Int) (S : MS) (h : S[id]? = some (.cells [.str (bs b), .iface 45 (.int .i64 e)])) : MCalls Tryz.prog 42 [.ref id 0] S fun v σ' => v = .int .u64 0 ∧ σ' = S := by
 refine zN Tryz.func42 V Tryz.ntmps42 (zB V) ?_
 refine zS0 fun _ hcl => ?_
 rw [List.append_nil] at hcl
 refine zA <| qR V <| qA V V V <| qN <| zA <| qR V <| qA V V V <| qN <| zA <| zA <| qR V <| qA V V V <| qN <| zW ?_
 refine zD1 (α := Nat) [(0, _)] (fun x => [(3, .int .u64 (0 : Int)), (4, .int .i64 (0 : Int))]) (fun x => []) (fun x => True) (fun x => x) (0) (.keep V (.nil)) (.keep V (.keep V (.nil))) (trivial) (V) ?_
 rintro i _
 refine zA <| zA <| qR V <| qM V V V <| qO V <| zE0 V V V <| qF V V V zH2 <| qO V <| zQ1 V V h ta37 V <| qO V <| zY2 V zG0 V V (.inl Vv) <| qN <| zJ V (V) <| zA1 <| zA <| qR V <| qA V V V <| qN <| zG ?_
 exact zE2 (.inr V) zM4 V (.refl _) (.int _ _) (by simp) hcl Vv
theorem num_reads (id : Nat) : Reads 42 [.ref id 0] id (fun n : Nat => .int .u64 (n : Int)) numM := by
 rintro ⟨b, e⟩ S h hl
 cases e with
 | none => exact num_ok_spec id b S h hl
 | some e =>
  refine (num_err_spec id b e S h).mono fun v σ' hv => ⟨hv.1, ?_⟩
  rw [hv.2, num_err, set_self_rd h]
theorem _root_.zU2 : type_of% @num_reads := @num_reads
theorem scan_len : ∀ (b : Bs) (n i : Nat) {v : Nat} {l : Bs}, numScan n i b = .ok (v, l) → l.length ≤ b.length ∧ v < n + 2 ^ 64
 | [], n, i, v, l, h => by simp [numScan] at h
 | c :: b, n, i, v, l, h => by
  obtain ⟨m, e1, e2, e3, _⟩ := scan_one _ _ _ _ _ h
  have := congrArg List.length e2
  simp only [zF] at this
  exact ⟨by omega, by omega⟩
theorem numM_len (r : RdS) : (numM r).2.1.length ≤ r.1.length ∧ (numM r).1 < 18446744073709551616 := by
 obtain ⟨b, e⟩ := r
 cases e with
 | some e => simp [num_err]
 | none =>
  cases hs : numScan 0 0 b with
  | error e => rw [num_bad hs]; simp
  | ok x =>
   obtain ⟨v, l⟩ := x
   have := scan_len b 0 0 hs
   rw [num_ok hs]
   exact ⟨this.1, by simpa using this.2⟩
theorem _root_.zV2 : type_of% @numM_len := @numM_len
theorem fail_len (e : Int) (r : RdS) : (failR e r).1 = r.1 := rfl
theorem textM_len (r : RdS) : (textM r).2.1.length ≤ r.1.length := by
 have h := (zV2 r).1
 unfold textM
 split
 ·exact h
 ·split
  ·exact h
  ·split
   ·exact h
   ·simp only [List.length_drop]; omega
theorem text_walk (id : Nat) (r : RdS) (S : MS) (h : S[id]? = some (rdO r)) (hlen : r.1.length ≤ 8000000) : MCalls Tryz.prog 44 [.ref id 0] S fun v σ' => v = .str (bs (textM r).1) ∧ σ' = S.set id (rdO (textM r).2) := by
 refine zN Tryz.func44 V Tryz.ntmps44 (zB V) ?_
 refine zS0 fun _ hcl => ?_
 rw [List.append_nil] at hcl
 refine zA <| qR V <| qA V V V <| qN <| zA <| qR V <| qM V V V ?_
 refine qX V V V V co42 ((zU2 id).sl h hlen) ?_
 refine qA V V V <| qN <| zA <| zW <| zA ?_
 have hg : (S.set id (rdO (numM r).2))[id]? = some (rdO (numM r).2) := zE3 h
 have hnl := zV2 r
 generalize hn : numM r = q at hg hnl ⊢
 obtain ⟨n, b, e⟩ := q
 dsimp only at hg hnl ⊢
 rcases e with _ | e
 ·
  replace hg : (S.set id (rdO (b, none)))[id]? = some (.cells [.str (bs b), .iface0]) := hg
  refine qR V <| qM V V V <| qO V <| zE0 V V V <| qF V V V zH2 <| qO V <| zQ1 V V hg ta37 V <| qO V <| zC4 V zG0 V V (.inr Vv) <| qA V V V <| qN <| zJ V (V) <| zA <| qR V <| qM V V V <| qC V V V V V <| qA V V V <| qN ?_
  refine zE V (fun h13 => ?_) (fun h13 => ?_)
  ·
   have h16 : 16 < n := by simp at h13; omega
   refine zA <| qR V <| qM V V V ?_
   refine qX V V V V co24 (zK2 id (b, none) _ [] hg _) ?_
   refine qN <| zA <| qR V <| qA V V V <| qN <| zG ?_
   have hT : textM r = ([], (b, some 13)) := by simp [textM, hn, h16, fail_ok]
   exact zE2 (.inr V) Tryz.results44 V (.refl _) (.str _) (by simp) ((hcl.set (zG3 _ _)).set (zG3 _ _)) ⟨by rw [hT]; try rfl, by rw [hT, zI3]; try rfl⟩
  ·
   have h16 : ¬ 16 < n := by simp at h13; omega
   refine zA <| qR V <| qM V V V <| qM V V V <| qO V <| zE0 V V V <| qF V V V zP3 <| qO V <| zQ1 V V hg ta9 V <| qO V <| zD2 V zJ0 V <| qO V <| zR1 V zZ0 zB1 V (zJ3 (by omega)) ?_
   refine qC V V V V V <| qA V V V <| qN ?_
   refine zE V (fun h18 => ?_) (fun h18 => ?_)
   ·
    have hlt : b.length < n := by simp at h18; omega
    refine zA <| qR V <| qM V V V ?_
    refine qX V V V V co24 (zK2 id (b, none) _ [] hg _) ?_
    refine qN <| zA <| qR V <| qA V V V <| qN <| zG ?_
    have hT : textM r = ([], (b, some 11)) := by simp [textM, hn, h16, hlt, fail_ok]
    exact zE2 (.inr V) Tryz.results44 V (.refl _) (.str _) (by simp) ((hcl.set (zG3 _ _)).set (zG3 _ _)) ⟨by rw [hT]; try rfl, by rw [hT, zI3]; try rfl⟩
   ·
    have hlt : ¬ b.length < n := by simp at h18; omega
    refine zQ <| zA <| qR V <| qM V V V <| qO V <| zE0 V V V <| qF V V V zP3 <| qO V <| zQ1 V V hg ta9 V <| qM V V V <| qO V <| zR2 V zJ0 V .none (.some V V) (by omega) (by omega) ?_
    rw [List.drop_zero, Nat.sub_zero]
    refine qA V V V <| qN <| zA <| qR V <| qM V V V <| qM V V V <| qO V <| zE0 V V V <| qF V V V zP3 <| qO V <| zQ1 V V hg ta9 V <| qM V V V <| qO V <| zR2 V zJ0 V (.some V V) .none (by omega) (by omega) ?_
    rw [List.take_of_length_le (by simp : (b.drop n).length ≤ b.length - n)]
    refine qO V <| zE0 V V V <| qF V V V zP3 <| qO V <| op_store_far V V V hg sz9 V V (zB V) <| qN <| zA <| qR V <| qM V V V <| qA V V V <| qN <| zG ?_
    have hT : textM r = (b.take n, (b.drop n, none)) := by simp [textM, hn, h16, hlt]
    exact zE2 (.inr V) Tryz.results44 V (.refl _) (.str _) (by simp) ((hcl.set (zG3 _ _)).set (zG3 _ (_, none))) ⟨by rw [hT]; try rfl, by rw [hT, zI3]; try rfl⟩
 ·
  replace hg : (S.set id (rdO (b, some e)))[id]? = some (.cells [.str (bs b), .iface 45 (.int .i64 e)]) := hg
  refine qR V <| qM V V V <| qO V <| zE0 V V V <| qF V V V zH2 <| qO V <| zQ1 V V hg ta37 V <| qO V <| zY2 V zG0 V V (.inr Vv) <| qA V V V <| qN <| zX V (V) <| zA <| qR V <| qA V V V <| qN <| zG ?_
  have hT : textM r = ([], (b, some e)) := by simp [textM, hn]
  exact zE2 (.inr V) Tryz.results44 V (.refl _) (.str _) (by simp) (hcl.set (zG3 _ _)) ⟨by rw [hT]; try rfl, by rw [hT]⟩
theorem text_reads (id : Nat) : Reads 44 [.ref id 0] id (fun s : Bs => .str (bs s)) textM := fun r S h hl => text_walk id r S h hl
end Go.Proofs.YtplclefbiimnbaaGreat
namespace Go.MV
open Go Go.RowKit
section
section
variable {P : Program} {rd : Option Nat} {o : Oper} {env : Env} {σ : MS} {K : MV → MS → Prop}
theorem gets_appendS {g : Gh} {w : World} (hr : Rel g σ w) {tt tu ty' e sz bytes t n : Nat} (hsz1 : sz = 1) (hu : P.underlying tt = some (.slice e)) (hut : P.underlying tu = some .string) (he : elemOk P e sz bytes = true) (hσ : σ[t]? = some (.row e sz n)) {xs ys : List MV} {l : Bs} (hys : ys = l.map encY) {v : Value} (hx : Rd g w (.lst (some t) sz xs) v) (hn : xs.length = n)
   (hbound : (n + ys.length) * bytes ≤ 140737488355328) (hml : n + ys.length ≤ 4611686018427387904) (hK : K (.lst (some t) sz (xs ++ ys)) (σ.set t (.row e sz (n + ys.length)))) :
    ∃ v' w', (Builtin.append_ #[tt, tu] ty' #[v, .string (bs l)]).run P w = .ok v' w' ∧ Gets g w K v' w' := by
  obtain ⟨i, z, hi, hz, hs, hb, hzs, hpos⟩ := elemOk_spec he
  obtain ⟨a, c, us, hv, h1, h2, h3, h4, h5, h6⟩ := hx.inv_lst
  have hbl0 : (bs l).size = l.length := by simp [bs, ByteArray.size]
  have hyl : l.length = ys.length := by rw [hys, zH]
  rw [hyl] at hbl0
  obtain ⟨us', hus'⟩ : ∃ us', us' = Lib.strCells (bs l) := ⟨_, rfl⟩
  have k3 : ∀ y ∈ ys, y.cells.length = sz := fun y hy => by
    rw [hys] at hy
    obtain ⟨b, _, rfl⟩ := List.mem_map.1 hy
    rw [hsz1]; rfl
  have hfys : flat ys = ys := by rw [hys, flat_encY]
  have k4 : Rds g w (flat ys) us' := by
    rw [hfys, hys, hus']
    refine ⟨by simp [Lib.strCells, bs], fun j y u hy hu => ?_⟩
    simp only [Lib.strCells, bs] at hu
    rw [zJ1] at hy hu
    obtain ⟨b, hb, rfl⟩ := Option.map_eq_some_iff.1 hy
    rw [hb] at hu
    injection hu with hu
    rw [← hu]
    exact .int _ _
  have hsmall : n + ys.length ≤ maxLen := by simp only [maxLen]; omega
  have hlen' : us'.length = ys.length * i.size := by rw [hs, k4.1, flat_length k3]
  have hlen : us.length = n * i.size := by rw [hs, h4.1, flat_length h3, hn]
  by_cases hm : ys = []
  · have hl0 : l = [] := List.eq_nil_of_length_eq_zero (by rw [hyl, hm]; rfl)
    subst hl0
    rw [hm] at hK
    simp only [List.append_nil, List.length_nil, Nat.add_zero] at hK
    rw [set_self hσ] at hK
    refine ⟨v, w, ?_, .same hK hr hx⟩
    subst hv
    have e0 : (bs []).size = 0 := rfl
    have e1 : ((bs []).extract 0 0).data = #[] := rfl
    cases a with
    | none => simp [Builtin.append_, run_underlying hu, run_underlying hut, sizeOf, typeInfo, hi, Builtin.lenOf, Builtin.firstCells, h1, e0, e1]
    | some ad => simp [Builtin.append_, run_underlying hu, run_underlying hut, sizeOf, typeInfo, hi, Builtin.lenOf, Builtin.firstCells, h1, e0, e1, storeCells]
  have hmpos : 0 < ys.length := List.length_pos_iff.2 hm
  have hp' : 0 < us'.length := by rw [hlen', hs]; exact Nat.mul_pos hmpos hpos
  have hone : ∀ u ∈ us', u.oneCell' = true := by rw [hus']; exact Lib.strCells_oneCell _
  have hone0 : ∀ u ∈ us, u.oneCell' = true := fun u hmem => by
    obtain ⟨j, hj⟩ := List.getElem?_of_mem hmem
    obtain ⟨_, _, hst⟩ := h5 j u hj
    exact hst.2.2
  have holds : ∀ (j : Nat) (u : Value), us[j]? = some u → ∃ ad, a = some ad ∧ w.cell? (ad.add j) = some u := fun j u hj => by
    obtain ⟨ad2, e2, hst⟩ := h5 j u hj
    exact ⟨ad2, e2, hst.2.1⟩
  obtain ⟨own, ho⟩ := hr.ex
  obtain ⟨v0, us0, f1, f2, f3, f4, f5⟩ := ho.obj t _ hσ
  have hvv : v0 = v := by
    have := h6 t rfl
    rw [hn, f1] at this
    injection this
  subst hvv
  have hall3 : ∀ x ∈ xs ++ ys, x.cells.length = sz := fun x hx => by
    rcases zX1.1 hx with h | h
    · exact h3 x h
    · exact k3 x h
  have hallone : ∀ u ∈ us ++ us', u.oneCell' = true := fun u hu => by
    rcases zX1.1 hu with h | h
    · exact hone0 u h
    · exact hone u h
  have hfl : flat (xs ++ ys) = flat xs ++ flat ys := flat_append xs ys
  have hlenx : (xs ++ ys).length = n + ys.length := by rw [zF, hn]
  have fresh_case : ∀ (cap : Nat) (rest : Array Value), n + ys.length ≤ cap → cap ≤ maxLen → rest.size = (cap - (n + ys.length)) * sz →
      Gets g w K (.slice (some ⟨w.heap.size, 0, none⟩) (n + ys.length) cap) (w.drew.alloc (.cells (us.toArray ++ us'.toArray ++ rest) e)) := by
    intro cap rest hcap hcm hrest
    have harr : us.toArray ++ us'.toArray ++ rest = (us ++ us' ++ rest.toList).toArray := by
      apply Array.ext'
      simp
    rw [harr]
    have hr1 := hr.drew
    have l1 := Le.drew g w
    have l2 := Le.alloc_stab hr1 (.cells (us ++ us' ++ rest.toList).toArray e) ((n + ys.length) * sz)
    have r2 := hr1.alloc_stab (.cells (us ++ us' ++ rest.toList).toArray e) ((n + ys.length) * sz)
    generalize hg1 : g.stab w.drew.heap.size ((n + ys.length) * sz) = g1 at l2 r2
    generalize hw1 : w.drew.alloc (.cells (us ++ us' ++ rest.toList).toArray e) = w1 at l2 r2
    have ho1 : Owns g1 σ w1 own := by
      refine ho.keep (l1.trans l2) (fun id b e => ?_) (fun _ _ => by rw [← hg1]; rfl)
      have hlt := (ho.lt id b e).2.2
      rw [← hg1, ← hw1]
      refine ⟨Below.heap_alloc w.drew _ b hlt, ?_⟩
      simp only [Gh.stab]
      exact if_neg (Nat.ne_of_lt hlt)
    have l3 : Le g1 w1 (g1.log t (n + ys.length) (.slice (some ⟨w.heap.size, 0, none⟩) (n + ys.length) cap)) w1 := by
      refine ⟨⟨rfl, rfl, fun _ _ h => ⟨h, rfl⟩, fun _ _ h => h, fun s k u hv => ?_, Nat.le_refl _⟩, fun _ _ h => h⟩
      simp only [Gh.log]
      rw [if_neg]
      · exact hv
      · rintro ⟨rfl, rfl⟩
        have : g1.lg s (n + ys.length) = g.lg s (n + ys.length) := by rw [← hg1]; rfl
        rw [this, f5 _ (by omega)] at hv
        cases hv
    have hheap : w1.heap[w.heap.size]? = some (.cells (us ++ us' ++ rest.toList).toArray e (0, 0)) := by rw [← hw1]; exact heap_new w.drew _
    have hsz : w1.heap.size = w.heap.size + 1 := by rw [← hw1]; simp
    have hcurlen : (us ++ us' ++ rest.toList).length = cap * sz := by
      simp only [zF, hlen, hlen', hs, Array.length_toList, hrest]
      rw [← Nat.add_mul, ← Nat.add_mul]
      congr 1
      omega
    have hlall : (us ++ us').length = (n + ys.length) * sz := by rw [zF, hlen, hlen', hs, Nat.add_mul]
    have lall := l1.trans (l2.trans l3)
    refine ⟨_, _, g1.log t (n + ys.length) (.slice (some ⟨w.heap.size, 0, none⟩) (n + ys.length) cap), hK, ?_, ?_, lall⟩
    · refine Rel.row_set r2 hσ ho1 l3 r2.below r2.fresh V (fun id k hid => ?_) (fun id b hid hb => Vv) (ob := some w.heap.size) ?_ (fun id b hid hb e => ?_) (fun b hb => ?_)
      · simp only [Gh.log]; rw [if_neg (fun h => hid h.1)]
      · refine ⟨.slice (some ⟨w.heap.size, 0, none⟩) (n + ys.length) cap, us ++ us', by simp [Gh.log], ?_, rfl, fun b hb => ?_, fun k hk => ?_⟩
        · refine ⟨hlall, .inr ⟨w.heap.size, cap, _, rfl, ?_, hheap, hcap, hcm, by simpa using hcurlen, ?_⟩⟩
          · have : (g1.log t (n + ys.length) (.slice (some ⟨w.heap.size, 0, none⟩) (n + ys.length) cap)).B = g.B := lall.B
            rw [this]
            exact hr.size
          · rw [← hlall]
            exact List.take_left
        · injection hb with hb
          subst hb
          rw [← hg1]
          simp only [Gh.log, Gh.stab]
          exact if_pos rfl
        · simp only [Gh.log]
          rw [if_neg (by omega), ← hg1]
          exact f5 k (by omega)
      · have := (ho.lt id b hb).2.2
        injection e with e
        omega
      · injection hb with hb
        subst hb
        refine ⟨?_, by omega⟩
        rw [← hg1]
        exact hr.size
    · refine .lst' hlenx hcap hcm hall3 (us := us ++ us') ?_ (fun j u hj => ⟨⟨w.heap.size, 0, none⟩, rfl, ?_⟩) (fun s hs => ?_)
      · rw [hfl]
        exact (h4.mono lall).append (k4.mono lall)
      · have hjl : j < (us ++ us').length := (zI.1 hj).1
        refine ⟨?_, ?_, hallone u (zU hj)⟩
        · rw [zX3]
          show 0 + j < (g1.log t _ _).st w.heap.size
          rw [← hg1]
          simp only [Gh.log, Gh.stab]
          have : (if w.heap.size = w.drew.heap.size then (n + ys.length) * sz else g.st w.heap.size) = (n + ys.length) * sz := if_pos rfl
          rw [this]
          omega
        · rw [zX3]
          simp only [World.cell?, hheap]
          simp only [Nat.zero_add, Option.isSome_none, Bool.false_eq_true, if_false]
          rw [List.getElem?_toArray, List.getElem?_append_left hjl]
          exact hj
      · injection hs with hs
        subst hs
        simp [Gh.log]
  rcases f2.2 with ⟨hv0, hn0⟩ | ⟨b, cap, cur, hv0, hbB, hheap, hnc, hcm, hcs, htake⟩
  ·
    rw [hv0] at hv
    injection hv with ea en ec
    subst hv0
    have hus : us = [] := List.eq_nil_of_length_eq_zero (by rw [hlen, hn0]; simp)
    have hrun := run_append_nil_string (P := P) w tt tu ty' e i z hu hut hi hz (bs l) (by omega) (by omega) (by rw [hb, hbl0]; rw [hn0] at hbound; simp only [Nat.zero_add] at hbound; omega)
    rw [hbl0, show Array.map (fun b : UInt8 => Value.int .u8 (b.toNat : Int)) (bs l).data = us'.toArray by rw [hus']; apply Array.ext'; simp [Lib.strCells]] at hrun
    have hfc := fresh_case (grownCap w ys.length 0 e) (Builtin.zeroCells z.cells (grownCap w ys.length 0 e - ys.length)) (by rw [hn0, Nat.zero_add]; exact grownCap_ge w _ _ _) (grownCap_le_maxLen w _ _ _ (by rw [hn0] at hsmall; omega)) (by rw [size_zeroCells, hzs, hn0]; simp)
    rw [hus, hn0] at hfc
    simp only [Nat.zero_add, Array.empty_append] at hfc
    refine ⟨_, _, hrun, ?_⟩
    have e1 : #[] ++ us'.toArray = us'.toArray := Array.empty_append
    exact hfc
  · have hvb : a = some ⟨b, 0, none⟩ ∧ c = cap := by
      rw [hv0] at hv
      injection hv with e1 e2 e3
      exact ⟨e1.symm, e3.symm⟩
    obtain ⟨rfl, rfl⟩ := hvb
    have holds' : ∀ (j : Nat) (u : Value), us[j]? = some u → w.cell? ((⟨b, 0, none⟩ : Addr).add j) = some u := fun j u hj => by
      obtain ⟨ad2, e2, h⟩ := holds j u hj
      injection e2 with e2
      subst e2
      exact h
    by_cases hroom : n + ys.length ≤ c
    ·
      have hfit : n * i.size + us'.length ≤ cur.size := by rw [hlen', hcs, hs, ← Nat.add_mul]; exact Nat.mul_le_mul_right _ hroom
      have hul : us'.length = ys.length := by rw [hlen', hs, hsz1, Nat.mul_one]
      have hrun := Lib.run_append_room_string (P := P) w tt tu ty' e i hu hut hi (by rw [hs, hsz1]) b n c cur hheap (bs l) (by omega) (by rw [hs, hsz1] at hfit; omega)
      rw [hbl0, ← hus', show n = n * i.size by rw [hs, hsz1, Nat.mul_one], show ys.length = us'.length from hul.symm] at hrun
      rw [show n * i.size = n by rw [hs, hsz1, Nat.mul_one], hul] at hrun
      have hncl : n * i.size = n := by rw [hs, hsz1, Nat.mul_one]
      generalize hnc' : (cur.toList.take n ++ us' ++ cur.toList.drop (n + ys.length)).toArray = ncur at hrun
      rw [show cur.toList.take n ++ us' ++ cur.toList.drop (n + ys.length) = cur.toList.take (n * i.size) ++ us' ++ cur.toList.drop (n * i.size + us'.length) by rw [hncl, hul]] at hnc'
      have hob : own t = some b := by rw [← f3, hv0]; rfl
      have hstb : g.st b = n * sz := f4 b hob
      have hbl := ho.lt t b hob
      have hus0 : us0 = us := by
        have e1 : us0 = cur.toList.take (n * sz) := htake.symm
        apply List.ext_getElem?
        intro j
        by_cases hj : j < n * sz
        · have hjl : j < us.length := by rw [hlen, hs]; exact hj
          have hc := holds' j us[j] (zD hjl)
          rw [zX3] at hc
          simp only [World.cell?, hheap, Nat.zero_add, Option.isSome_none, Bool.false_eq_true, if_false] at hc
          rw [e1, List.getElem?_take, if_pos hj, zD hjl, ← hc]
          simp
        · rw [List.getElem?_eq_none (by rw [f2.1]; omega), List.getElem?_eq_none (by rw [hlen, hs]; omega)]
      subst hus0
      have hheap' : (w.setRow b ncur).heap[b]? = some (.cells ncur e (0, 0)) := setRow_heap w b cur ncur e _ hheap
      have hother : ∀ k, k ≠ b → (w.setRow b ncur).heap[k]? = w.heap[k]? := fun k hk => setRow_other w b k ncur hk
      have hncur : ncur.toList = us0 ++ us' ++ cur.toList.drop ((n + ys.length) * sz) := by
        rw [← hnc', hs, htake, hlen', hs, ← Nat.add_mul]
      have hlall : (us0 ++ us').length = (n + ys.length) * sz := by rw [zF, hlen, hlen', hs, Nat.add_mul]
      have hcell : ∀ j, j < (n + ys.length) * sz → (w.setRow b ncur).cell? ⟨b, j, none⟩ = (us0 ++ us')[j]? := fun j hj => by
        simp only [World.cell?, hheap', Option.isSome_none, Bool.false_eq_true, if_false]
        rw [← Array.getElem?_toList, hncur, List.getElem?_append_left (by omega)]
      let g1 : Gh := (g.stab b ((n + ys.length) * sz)).log t (n + ys.length) (.slice (some ⟨b, 0, none⟩) (n + ys.length) c)
      have hlall2 : n * sz ≤ (n + ys.length) * sz := Nat.mul_le_mul_right _ (by omega)
      have hl : Le g w g1 (w.setRow b ncur) := by
        refine ⟨⟨rfl, rfl, fun k j hj => ?_, fun _ _ h => h, fun s k u hu => ?_, by simp⟩, fun k x hx => ?_⟩
        · by_cases ek : k = b
          · subst ek
            refine ⟨?_, ?_⟩
            · show j < if k = k then (n + ys.length) * sz else g.st k
              rw [if_pos rfl]
              omega
            · rw [hstb] at hj
              rw [hcell j (by omega), List.getElem?_append_left (by rw [hlen, hs]; exact hj)]
              have hjl : j < us0.length := by rw [hlen, hs]; exact hj
              have := holds' j us0[j] (zD hjl)
              rw [zX3, Nat.zero_add] at this
              rw [this, zD hjl]
          · refine ⟨?_, World.cell?_of_block (w := w) (a := ⟨k, j, none⟩) (hother k ek)⟩
            show j < if k = b then (n + ys.length) * sz else g.st k
            rw [if_neg ek]
            exact hj
        · show (if s = t ∧ k = n + ys.length then _ else g.lg s k) = _
          rw [if_neg]
          · exact hu
          · rintro ⟨rfl, rfl⟩
            rw [f5 _ (by omega)] at hu
            cases hu
        · have : k ≠ b := fun e => by subst e; rw [hheap] at hx; cases hx
          exact (hother k this).trans hx
      refine ⟨_, _, by rw [hv0]; exact hrun, _, _, g1, hK, ?_, ?_, hl⟩
      · refine Rel.row_set hr hσ ho hl (hr.below.trans ⟨rfl, rfl, rfl, by simp, fun k hk => hother k (by omega)⟩) (fun k hk => ?_) V (fun id k hid => ?_) (fun id k hid hk => ?_) (ob := some b) ?_ (fun id k hid hk e => ?_) (fun k hk => ?_)
        · simp only [setRow_size] at hk
          show (if k = b then _ else g.st k) = 0
          rw [if_neg (by omega)]
          exact hr.fresh k hk
        · show (if id = t ∧ k = n + ys.length then _ else g.lg id k) = _
          rw [if_neg (fun h => hid h.1)]
        · have hkb : k ≠ b := fun e => by subst e; exact hid (ho.inj _ _ _ hk hob)
          refine ⟨hother k hkb, ?_⟩
          show (if k = b then _ else g.st k) = _
          rw [if_neg hkb]
        · refine ⟨.slice (some ⟨b, 0, none⟩) (n + ys.length) c, us0 ++ us', ?_, ⟨hlall, .inr ⟨b, c, ncur, rfl, hbB, hheap', hroom, hcm, ?_, ?_⟩⟩, rfl, fun k hk => ?_, fun k hk => ?_⟩
          · show (if t = t ∧ n + ys.length = n + ys.length then _ else _) = _
            rw [if_pos ⟨rfl, rfl⟩]
          · have hcl : cur.toList.length = c * sz := by rw [Array.length_toList, hcs]
            have : (n + ys.length) * sz ≤ c * sz := Nat.mul_le_mul_right _ hroom
            rw [← Array.length_toList, hncur, zF, hlall, List.length_drop, hcl]
            omega
          · rw [hncur, ← hlall, zR, ← zR us0 us']
            exact List.take_left
          · injection hk with hk
            subst hk
            show (if b = b then _ else _) = _
            rw [if_pos rfl]
          · show (if t = t ∧ k = n + ys.length then _ else g.lg t k) = none
            rw [if_neg (by omega)]
            exact f5 k (by omega)
        · injection e with e
          subst e
          exact hid (ho.inj _ _ _ hk hob)
        · injection hk with hk
          subst hk
          exact ⟨hbl.2.1, by simpa using hbl.2.2⟩
      · refine .lst' hlenx hroom hcm hall3 (us := us0 ++ us') ?_ (fun j u hj => ⟨⟨b, 0, none⟩, rfl, ?_⟩) (fun s hs => ?_)
        · rw [hfl]
          exact (h4.mono hl).append (k4.mono hl)
        · have hjl : j < (us0 ++ us').length := (zI.1 hj).1
          refine ⟨?_, ?_, hallone u (zU hj)⟩
          · rw [zX3]
            show 0 + j < if b = b then (n + ys.length) * sz else g.st b
            rw [if_pos rfl]
            omega
          · rw [zX3, Nat.zero_add, hcell j (by omega)]
            exact hj
        · injection hs with hs
          subst hs
          show (if t = t ∧ n + ys.length = n + ys.length then _ else _) = _
          rw [if_pos ⟨rfl, rfl⟩]
    ·
      have hrun := Lib.run_append_grow_string (P := P) w tt tu ty' e i z hu hut hi hz ⟨b, 0, none⟩ n c us hlen holds' (bs l) (by omega) (by omega) (growslice_fits (by omega) (by rw [hb, hbl0]; exact hbound))
      rw [hbl0, ← hus'] at hrun
      refine ⟨_, _, by rw [hv0]; exact hrun, fresh_case _ _ (grownCap_ge w _ _ _) (grownCap_le_maxLen w _ _ _ hsmall) (by rw [size_zeroCells, hzs])⟩
theorem op_appendS {t u e bytes id n : Nat} {x y : Operand} {xs : List MV} {l : Bs} (ho : o.op = .call { callee := .builtin .append, args := #[x, y], argTypes := #[t, u] }) (hu : P.underlying t = some (.slice e)) (hut : P.underlying u = some .string) (he : elemOk P e 1 bytes = true)
  (hx : evo env x = some (.lst (some id) 1 xs)) (hy : evo env y = some (.str (bs l))) (hσ : σ[id]? = some (.row e 1 n)) (hn : xs.length = n) (hb : (n + l.length) * bytes ≤ 140737488355328) (hml : n + l.length ≤ 4611686018427387904)
  (hK : K (.lst (some id) 1 (xs ++ l.map encY)) (σ.set id (.row e 1 (n + l.length)))) : OpWp P rd o env σ K := by
 refine OpWp.of_run (by simp [ho]) fun g w a hr hop => ?_
 have hv := (hop y (by simp [ho, Op.operands, Call.operands]) _ hy).inv_str
 obtain ⟨v', w', hrun, hg⟩ := gets_appendS (ty' := o.type) hr rfl hu hut he hσ (ys := l.map encY) rfl (hop x (by simp [ho, Op.operands, Call.operands]) _ hx) hn (by simpa using hb) (by simpa using hml) (by simpa using hK)
 refine ⟨v', w', ?_, hg⟩
 simp [execOp, ho, resolve, invoke, builtin, hv, hrun]
end
end
section
section
variable {P : Program} {rd : Option Nat} {o : Oper} {env : Env} {σ : MS} {K : MV → MS → Prop}
theorem Rel.pin {g : Gh} {w : World} (hr : Rel g σ w) {t e n b c : Nat} {l : Bs} (hl : l ≠ []) (hσ : σ[t]? = some (.row e 1 n)) (hn : l.length = n) (hlg : g.lg t n = some (.slice (some ⟨b, 0, none⟩) n c)) (hcell : ∀ j x, l[j]? = some x → w.cell? ⟨b, j, none⟩ = some (.int .u8 (x.toNat : Int))) :
  Rel (g.bind σ.length b) (σ.set t .gone ++ [.pin e l]) w ∧ Le g w (g.bind σ.length b) w := by
 have hle : Le g w (g.bind σ.length b) w := by
  refine ⟨⟨rfl, rfl, fun _ _ h => ⟨h, rfl⟩, fun i b' h => ?_, fun _ _ _ h => h, Nat.le_refl _⟩, fun _ _ h => h⟩
  simp only [Gh.bind]
  rw [if_neg]
  ·exact h
  ·rintro rfl
   rw [hr.bkn _ (Nat.le_refl _)] at h
   cases h
 obtain ⟨own, ho⟩ := hr.ex
 have htl : t < σ.length := (zI.1 hσ).1
 obtain ⟨v0, us0, f1, f2, f3, f4, f5⟩ := ho.obj t _ hσ
 rw [hlg] at f1
 injection f1 with f1
 subst f1
 have hob : own t = some b := f3.symm
 rcases f2.2 with ⟨hv0, _⟩ | ⟨b', cap, cur, hv0, hbB, hheap, hnc, hcm, hcs, htake⟩
 ·cases hv0
 injection hv0 with e1 e2 e3
 injection e1 with e1
 injection e1 with e1
 subst e1
 refine ⟨⟨hr.below, hr.base, hr.fresh, fun i hi => ?_, fun s k hs => hr.lgn s k (by simp at hs; omega), fun i => if i = t then none else if i = σ.length then some b else own i, ⟨fun i ob hi => ?_, fun i j d hi hj => ?_, fun i d hi => ?_⟩⟩, hle⟩
 ·simp at hi
  simp only [Gh.bind]
  rw [if_neg (by omega)]
  exact hr.bkn i (by omega)
 ·by_cases hil : i < σ.length
  ·rw [List.getElem?_append_left (by simpa using hil)] at hi
   by_cases e : i = t
   ·subst e
    rw [List.getElem?_set_self htl] at hi
    injection hi with hi
    subst hi
    simp [ObjRel]
   ·rw [if_neg e, if_neg (by omega)]
    rw [List.getElem?_set_ne (fun h => e h.symm)] at hi
    exact (ho.obj i ob hi).keep0 hle.toLe0 (fun _ _ => ⟨rfl, rfl⟩) (fun _ => rfl)
  ·have hi2 : i = σ.length := by
    have := (zI.1 hi).1
    simp at this
    omega
   subst hi2
   rw [List.getElem?_append_right (by simp)] at hi
   simp at hi
   subst hi
   rw [if_neg (by omega), if_pos rfl]
   refine ⟨b, cur, rfl, by simp [Gh.bind], ?_, hheap, by rw [hcs, hn]; omega, fun j x hj => ?_⟩
   ·show g.st b = l.length
    rw [f4 b hob, hn, Nat.mul_one]
   ·have := hcell j x hj
    simpa [World.cell?, hheap] using this
 ·by_cases ei : i = t
  ·rw [if_pos ei] at hi; cases hi
  ·by_cases ej : j = t
   ·rw [if_pos ej] at hj; cases hj
   ·rw [if_neg ei] at hi
    rw [if_neg ej] at hj
    by_cases fi : i = σ.length
    ·by_cases fj : j = σ.length
     ·omega
     ·rw [if_pos fi] at hi
      rw [if_neg fj] at hj
      injection hi with hi
      subst hi
      exact absurd (ho.inj _ _ _ hj hob) ej
    ·by_cases fj : j = σ.length
     ·rw [if_neg fi] at hi
      rw [if_pos fj] at hj
      injection hj with hj
      subst hj
      exact absurd (ho.inj _ _ _ hi hob) ei
     ·rw [if_neg fi] at hi
      rw [if_neg fj] at hj
      exact ho.inj i j d hi hj
 ·by_cases ei : i = t
  ·rw [if_pos ei] at hi; cases hi
  ·rw [if_neg ei] at hi
   by_cases fi : i = σ.length
   ·rw [if_pos fi] at hi
    injection hi with hi
    subst hi
    exact ⟨by simp; omega, (ho.lt t _ hob).2⟩
   ·rw [if_neg fi] at hi
    obtain ⟨h1, h2, h3⟩ := ho.lt i d hi
    exact ⟨by simp; omega, h2, h3⟩
theorem op_sliceData {u e id n : Nat} {x : Operand} {l : Bs} (ho : o.op = .call { callee := .builtin .unsafeSliceData, args := #[x], argTypes := #[u] }) (hx : evo env x = some (.lst (some id) 1 (l.map encY))) (hl : l ≠ []) (hσ : σ[id]? = some (.row e 1 n)) (hn : l.length = n)
  (hK : K (.ref σ.length 0) (σ.set id .gone ++ [.pin e l])) : OpWp P rd o env σ K := by
 refine OpWp.of_run (by simp [ho]) fun g w a hr hop => ?_
 obtain ⟨ad, c, us, hv, h1, h2, h3, h4, h5, h6⟩ := (hop x (by simp [ho, Op.operands, Call.operands]) _ hx).inv_lst
 have hpos : 0 < l.length := List.length_pos_iff.2 hl
 have hlg := h6 id rfl
 obtain ⟨own, hown⟩ := hr.ex
 obtain ⟨v0, us0, f1, f2, f3, f4, f5⟩ := hown.obj id _ hσ
 rw [zH, hn] at hlg
 rw [f1] at hlg
 injection hlg with hlg
 rcases f2.2 with ⟨hv0, hn0⟩ | ⟨b, cap, cur, hv0, hbB, hheap, hnc, hcm, hcs, htake⟩
 ·omega
 have hv1 : Value.slice ad (l.map encY).length c = .slice (some ⟨b, 0, none⟩) n cap := by rw [← hv, ← hlg, hv0]
 injection hv1 with e1 e2 e3
 subst e1 e3
 have hrds : us = l.map fun c => Value.int .u8 (c.toNat : Int) := by
  rw [flat_encY] at h4
  rw [us_bytes h4, List.map_map]
  rfl
 obtain ⟨hr', hle⟩ := hr.pin hl hσ hn (by rw [f1, hv0]) (fun j x hj => by
  obtain ⟨ad2, q1, q2⟩ := h5 j (.int .u8 (x.toNat : Int)) (by rw [hrds, zJ1, hj]; rfl)
  injection q1 with q1
  subst q1
  have := q2.2.1
  simpa [zX3] using this)
 refine ⟨.pointer (some ⟨b, 0, none⟩), w, ?_, ⟨_, _, _, hK, hr', .ref _ _ _ (by simp [Gh.bind]), hle⟩⟩
 rw [zH] at hv h1
 have hrun := fun ts ty => Lib.run_unsafeSliceData_row (P := P) w ts ty ⟨b, 0, none⟩ l.length c (by omega)
 simp [execOp, ho, resolve, invoke, builtin, hv, hrun]
theorem freeze_cell {w : World} {b n : Nat} (p : Addr) : (w.freeze ⟨b, 0, none⟩ n).cell? p = w.cell? p := by
 unfold World.freeze
 split
 ·rfl
 ·unfold World.cell?
  simp only [Array.getElem?_modify]
  by_cases e : b = p.block
  ·subst e
   rw [if_pos rfl]
   cases w.heap[p.block]? with
   | none => rfl
   | some ob => cases ob <;> rfl
  ·rw [if_neg e]
theorem freeze_other {w : World} {b n k : Nat} (h : k ≠ b) : (w.freeze ⟨b, 0, none⟩ n).heap[k]? = w.heap[k]? := by
 unfold World.freeze
 split
 ·rfl
 ·simp only [Array.getElem?_modify]
  rw [if_neg (fun e => h e.symm)]
theorem freeze_size {w : World} {b n : Nat} : (w.freeze ⟨b, 0, none⟩ n).heap.size = w.heap.size := by
 unfold World.freeze
 split
 ·rfl
 ·simp
theorem op_unsafeString {t t' e id : Nat} {x y : Operand} {l : Bs} {m : Int} (ho : o.op = .call { callee := .builtin .unsafeString, args := #[x, y], argTypes := #[t, t'] }) (hu : P.underlying t = some (.pointer e)) (hc : P.cellsOf e = 1) (hx : evo env x = some (.ref id 0)) (hy : evo env y = some (.int .i64 m)) (hm : m = (l.length : Int)) (hl : l ≠ []) (hlen : l.length ≤ maxLen) (hσ : σ[id]? = some (.pin e l))
  (hK : K (.str (bs l)) (σ.set id .gone)) : OpWp P rd o env σ K := by
 subst hm
 refine OpWp.of_run (by simp [ho]) fun g w a hr hop => ?_
 obtain ⟨b', hb', hv⟩ := (hop x (by simp [ho, Op.operands, Call.operands]) _ hx).inv_ref
 have hv2 := (hop y (by simp [ho, Op.operands, Call.operands]) _ hy).inv_int
 obtain ⟨own, hown⟩ := hr.ex
 obtain ⟨b, cur, e1, e2, e3, e4, e5, e6⟩ := hown.obj _ _ hσ
 rw [hb'] at e2
 injection e2 with e2
 subst e2
 have hrun := fun ty => Lib.run_unsafeString_row (P := P) w t t' ty e hu hc b' cur.size (by simp [World.shape?, e4]) l hl e5 (by simp only [maxLen] at hlen; omega) (fun j x hj => by
  rw [zX3, Nat.zero_add]
  simp [World.cell?, e4, e6 j x hj])
 have hle : Le g w g (w.freeze ⟨b', 0, none⟩ l.length) := by
  refine ⟨⟨rfl, rfl, fun c i hi => ⟨hi, freeze_cell _⟩, fun _ _ h => h, fun _ _ _ h => h, by rw [freeze_size]; exact Nat.le_refl _⟩, fun c q hq => ?_⟩
  rw [freeze_other]
  ·exact hq
  ·rintro rfl
   rw [e4] at hq
   cases hq
 refine ⟨.string (bs l), _, ?_, ⟨_, _, g, hK, ?_, .str _, hle⟩⟩
 ·simp [execOp, ho, resolve, invoke, builtin, hv, hv2, hrun]
  rfl
 ·have hB := (hown.lt id b' e1).2.1
  refine ⟨?_, hr.base, fun c hc => hr.fresh c (by rw [freeze_size] at hc; exact hc), fun i hi => hr.bkn i (by simpa using hi), fun s q hs => hr.lgn s q (by simpa using hs), fun i => if i = id then none else own i, ⟨fun i ob hi => ?_, fun i j c hi hj => ?_, fun i c hi => ?_⟩⟩
  ·exact Lib.below_freeze hr.below (p := ⟨b', 0, none⟩) hB _
  ·by_cases ei : i = id
   ·subst ei
    rw [List.getElem?_set, if_pos rfl] at hi
    split at hi
    ·injection hi with hi
     subst hi
     simp [ObjRel]
    ·cases hi
   ·rw [if_neg ei]
    rw [List.getElem?_set_ne (fun h => ei h.symm)] at hi
    refine (hown.obj i ob hi).keep0 hle.toLe0 (fun c hc => ⟨freeze_other ?_, rfl⟩) (fun _ => V)
    rintro rfl
    exact ei (hown.inj _ _ _ hc e1)
  ·split at hi
   ·cases hi
   ·split at hj
    ·cases hj
    ·exact hown.inj i j c hi hj
  ·split at hi
   ·cases hi
   ·obtain ⟨h1, h2, h3⟩ := hown.lt i c hi
    exact ⟨by simpa using h1, h2, by rw [freeze_size]; exact h3⟩
end
end
section
def exCode : Exit → Code
 | .ret => .ret
 | .exit x => .exit x
 | _ => .skip
theorem first_bad (p : Nat → Bool) : ∀ n : Nat, (∀ j, j < n → p j = true) ∨ ∃ m, m < n ∧ p m = false ∧ ∀ j, j < m → p j = true
 | 0 => .inl fun j h => by omega
 | n + 1 => by
  rcases first_bad p n with hall | ⟨m, h1, h2, h3⟩
  ·cases h : p n with
   | false => exact .inr ⟨n, by omega, h, hall⟩
   | true =>
    refine .inl fun j hj => ?_
    rcases Nat.lt_or_ge j n with h' | h'
    ·exact hall j h'
    ·have : j = n := by omega
     subst this
     exact h
  ·exact .inr ⟨m, by omega, h2, h3⟩
theorem iterOk_of {P : Program} {k : FuncId} {first caps : List MV} {ys : List (List MV)} {ok : MS → Prop} (h : ∀ (id : Nat) (T : Nat → MS) (m : Nat), (∀ j, ok (T j)) → m ≤ ys.length → (∀ j y, j < m → ys[j]? = some y → YStep P id y (T j) true (T (j + 1))) → (∀ j y, j = m → ys[j]? = some y → YStep P id y (T j) false (T (j + 1))) →
  MCalls P k (first ++ [.yld id] ++ caps) (T 0) fun v σ' => v = .tup [] ∧ σ' = T (if m < ys.length then m + 1 else m)) : IterOk P k first caps ys ok := by
 intro id T m hok hyt
 refine ⟨fun hm => ?_, fun y hy hyf => ?_⟩
 ·refine (h id T m hok (by omega) hyt (fun j y hj hy => ?_)).mono ?_
  ·have := (zI.1 hy).1; omega
  ·rintro v σ' ⟨_, h⟩
   rw [h, if_neg (by omega)]
 ·have hm := (zI.1 hy).1
  refine (h id T m hok (by omega) hyt (fun j z hj hz => ?_)).mono ?_
  ·subst hj
   rw [hy] at hz
   injection hz with hz
   subst hz
   exact hyf
  ·rintro v σ' ⟨_, h⟩
   rw [h, if_pos hm]
section
variable {P : Program} {rd : Option Nat} {N n : Nat} {Q : Exit → Env → MS → Prop} {env : Env} {S : MS}
theorem evos_len {env : Env} : ∀ (l : List Operand) (ys : List MV), evos env l = some ys → l.length = ys.length := by
 intro l
 induction l with
 | nil => intro ys h; injection h with h; subst h; rfl
 | cons x l ih =>
  intro ys h
  simp only [evos] at h
  cases hx : evo env x with
  | none => rw [hx] at h; cases h
  | some m =>
   rw [hx] at h
   cases hl : evos env l with
   | none => simp only [hl] at h; cases h
   | some ms =>
    simp only [hl] at h
    injection h with h
    subst h
    simp [ih _ hl]
theorem cls_swap {A B B' C0 C' : MS} {s s' : LoopState} {q q' : Option Code} {ls : LS} {l : Nat} (h1 : B.length = l) (h2 : B'.length = l) (hB : ∀ o, o ∈ B' → ∀ n, (A ++ C0).length ≤ n → o.cl n) (hm : C0.length = l) (h : ClS ((A ++ B) ++ .loop s q ls :: C')) : ClS ((A ++ B') ++ .loop s' q' ls :: C') := by
 have hle : ((A ++ B') ++ MObj.loop s' q' ls :: C').length = ((A ++ B) ++ MObj.loop s q ls :: C').length := by simp [h1, h2]
 intro id o hid
 rw [hle]
 by_cases c1 : id < A.length
 ·refine h id o ?_
  rw [zR, List.getElem?_append_left c1] at hid ⊢
  exact hid
 ·by_cases c2 : id < (A ++ B').length
  ·rw [List.getElem?_append_left c2, List.getElem?_append_right (by omega)] at hid
   refine hB o (zU hid) _ ?_
   simp only [zF, zC0]
   omega
  ·by_cases c3 : id = (A ++ B').length
   ·subst c3
    rw [get_mid] at hid
    injection hid with hid
    subst hid
    have := h (A ++ B).length (.loop s q ls) get_mid
    exact this
   ·refine h id o ?_
    have hl : (A ++ B).length = (A ++ B').length := by simp [h1, h2]
    rw [List.getElem?_append_right (by omega)] at hid ⊢
    rw [hl]
    obtain ⟨d, hd⟩ : ∃ d, id - (A ++ B').length = d + 1 := ⟨id - (A ++ B').length - 1, by omega⟩
    rw [hd] at hid ⊢
    simpa using hid
theorem cls_loop {A : MS} {s : LoopState} {q : Option Code} {ps : Array Tmp} {assign body : Code} {env : Env} {n : Nat} (h : ClS A) (he : ∀ t x, get env t = some x → Cl A.length x) : ClS (A ++ [.loop s q ⟨ps, assign, body, env, n⟩]) := by
 intro id o hid
 by_cases c : id < A.length
 ·rw [List.getElem?_append_left c] at hid
  have := h id o hid
  cases o with
  | cells l => exact fun x hx => (this x hx).mono (by simp)
  | loop s p ls => exact fun t x hx => (this t x hx).mono (by simp)
  | row _ _ _ => exact trivial
  | mp _ es => exact fun e he => (this e he).mono (by simp)
  | mit m _ _ _ => exact Nat.lt_of_lt_of_le this (by simp)
  | pin _ _ => exact trivial
  | tcells _ l => exact fun x hx => (this x hx).mono (by simp)
  | orow _ _ _ l => exact fun x hx => (this x hx).mono (by simp)
  | fixed _ _ => exact trivial
  | gone => exact trivial
 ·rw [List.getElem?_append_right (by omega)] at hid
  obtain ⟨d, hd⟩ : ∃ d, id - A.length = d := ⟨_, rfl⟩
  rw [hd] at hid
  cases d with
  | zero =>
   simp at hid
   subst hid
   exact fun t x hx => (he t x hx).mono (by simp)
  | succ d => simp at hid
theorem IterOk.weak {P : Program} {k : FuncId} {first caps : List MV} {ys : List (List MV)} {ok ok' : MS → Prop} (h : IterOk P k first caps ys ok) (hw : ∀ σ, ok' σ → ok σ) : IterOk P k first caps ys ok' :=
 fun id T m hok hyt => h id T m (fun j => hw _ (hok j)) hyt
theorem mwp_rangeB {f : Operand} {ps : Array Tmp} {assign body : Code} {k : FuncId} {first caps : List MV} {ys : List (List MV)} {ok : MS → Prop} {L0 : MS} (ex : Exit) (hex : ex = .ret ∨ ∃ x, ex = .exit x) (p : Nat → Bool) (L Ls : Nat → MS) (hlen : ∀ j, (L j).length = (L 0).length) (hlens : ∀ j, (Ls j).length = (L 0).length) (hL0 : L0 = L 0)
  (hcl : ∀ j o, o ∈ L j → ∀ n, (S ++ L 0).length ≤ n → o.cl n) (hcls : ∀ j o, o ∈ Ls j → ∀ n, (S ++ L 0).length ≤ n → o.cl n)
  (hf : evo env f = some (.fn (.func k) first caps)) (hb : CallOk P k) (hrd : rd = none) (hN : N ≤ S.length)
  (hit : IterOk P k first caps ys (fun σ => ok σ ∧ ClS σ)) (hok : ∀ j, ok ((S ++ L j) ++ [.loop .ready none ⟨ps, assign, body, env, n⟩])) (hoks : ∀ j s q, ok ((S ++ Ls j) ++ [.loop s q ⟨ps, assign, body, env, n⟩])) (hpb : ps.toList.all (fun t => Nat.blt t n) = true) (hps : ∀ y ∈ ys, ps.size = y.length)
  (hround : ∀ j y, ys[j]? = some y → (∀ i, i < j → p i = true) → ∀ L' : MS, mwp P (some (S ++ L 0).length) ((S ++ L j).length + 1 + L'.length) n assign (fun e env1 σ1 => e = .normal ∧ ∃ J, σ1 = ((S ++ L j) ++ .loop .ready none ⟨ps, assign, body, env, n⟩ :: L') ++ J ∧
   mwp P (some (S ++ L 0).length) ((S ++ L j).length + 1 + L'.length) n body (fun e2 env2 σ2 =>
    (p j = true ∧ e2 = .normal ∧ ∃ junk, σ2 = ((S ++ L (j + 1)) ++ .loop .busy none ⟨ps, assign, body, env, n⟩ :: L') ++ junk) ∨
    (p j = false ∧ e2 = ex ∧ ∃ junk, σ2 = ((S ++ Ls j) ++ .loop .busy none ⟨ps, assign, body, env, n⟩ :: L') ++ junk)) env1 (((S ++ L j) ++ .loop .busy none ⟨ps, assign, body, env, n⟩ :: L') ++ J)) (bindPs ps.toList y env) ((S ++ L j) ++ .loop .ready none ⟨ps, assign, body, env, n⟩ :: L'))
  (hend : (∀ j, j < ys.length → p j = true) → Q .normal env ((S ++ L ys.length) ++ [.gone]))
  (hstop : ∀ j y, ys[j]? = some y → p j = false → Q ex env ((S ++ Ls j) ++ [.gone])) : mwp P rd N n (.rangeFunc f ps assign body) Q env (S ++ L0) := by
 subst hL0 hrd
 have hid : ∀ j, (S ++ L j).length = (S ++ L 0).length := fun j => by simp [hlen j]
 have hids : ∀ j, (S ++ Ls j).length = (S ++ L 0).length := fun j => by simp [hlens j]
 refine zS0 fun hce hcs => ?_
 have hc0 : ∀ s q, ClS ((S ++ L 0) ++ [.loop s q ⟨ps, assign, body, env, n⟩]) := fun s q => cls_loop hcs hce
 refine mwp_range hf hb (fun id h => by cases h) (by simp; omega) ?_
 have hstep : ∀ j y, ys[j]? = some y → (∀ i, i < j → p i = true) → ∀ (K : MV → MS → Prop) (L' : MS) (rd' : Option Nat) (o : Oper) (env' : Env) (f' : Operand) (args : Array Operand) (ts : Array TypeId), o.op = .call { callee := .value f', args := args, argTypes := ts } → evo env' f' = some (.yld (S ++ L 0).length) → evos env' args.toList = some y →
   (p j = true → K (.bool true) ((S ++ L (j + 1)) ++ .loop .ready none ⟨ps, assign, body, env, n⟩ :: L')) →
   (p j = false → K (.bool false) ((S ++ Ls j) ++ .loop .done (some (exCode ex)) ⟨ps, assign, body, env, n⟩ :: L')) →
   OpWp P rd' o env' ((S ++ L j) ++ .loop .ready none ⟨ps, assign, body, env, n⟩ :: L') K := by
  intro j y hy hbef K L' rd' o env' f' args ts ho hf' hargs hk1 hk2
  have hsz : args.size = y.length := by
   have := evos_len _ _ hargs
   simpa using this
  have hget : ((S ++ L j) ++ MObj.loop .ready none ⟨ps, assign, body, env, n⟩ :: L')[(S ++ L 0).length]? = some (.loop .ready none ⟨ps, assign, body, env, n⟩) := by
   rw [← hid j]; exact get_mid
  have hN' : ((S ++ L j) ++ MObj.loop .ready none ⟨ps, assign, body, env, n⟩ :: L').length = (S ++ L j).length + 1 + L'.length := by
   rw [zF, zC0]; omega
  refine op_yield ho hf' hargs hget (by rw [hsz]; exact hps y (zU hy)) hpb ?_
  rw [hN']
  refine zS0 fun _ hcl0 => ?_
  refine mwp_mono (hround j y hy hbef L') ?_
  rintro e env1 σ1 ⟨rfl, J, rfl, h⟩
  refine ⟨rfl, none, get_app hget, ?_⟩
  have hset : (((S ++ L j) ++ MObj.loop .ready none ⟨ps, assign, body, env, n⟩ :: L') ++ J).set (S ++ L 0).length (.loop .busy none ⟨ps, assign, body, env, n⟩) = ((S ++ L j) ++ .loop .busy none ⟨ps, assign, body, env, n⟩ :: L') ++ J := by
   rw [set_app hget, ← hid j]; exact congrArg (· ++ J) set_mid
  rw [hset]
  refine mwp_mono h ?_
  rintro e2 env2 σ2 (⟨hp, rfl, junk, rfl⟩ | ⟨hp, rfl, junk, rfl⟩)
  ·refine ⟨_, junk, none, ⟨ps, assign, body, env, n⟩, rfl, ?_, .inr (cls_swap (hlen j) (hlen (j + 1)) (hcl (j + 1)) (by simp) hcl0), ?_, ?_⟩
   ·have h1 := hid (j + 1)
    have h2 := hid j
    simp only [zF, zC0] at *
    omega
   ·rw [← hid (j + 1)]; exact get_mid
   ·show K (.bool true) _
    rw [← hid (j + 1), set_mid]
    exact hk1 hp
  ·refine ⟨_, junk, none, ⟨ps, assign, body, env, n⟩, rfl, ?_, .inr (cls_swap (hlen j) (hlens j) (hcls j) (by simp) hcl0), ?_, ?_⟩
   ·have h1 := hids j
    have h2 := hid j
    simp only [zF, zC0] at *
    omega
   ·rw [← hids j]; exact get_mid
   ·rcases hex with rfl | ⟨x, rfl⟩
    ·show K (.bool false) _
     rw [← hids j, set_mid]
     exact hk2 hp
    ·show K (.bool false) _
     rw [← hids j, set_mid]
     exact hk2 hp
 have hgo : ∀ m, (∀ j, j < m → p j = true) → ∀ (T : Nat → MS), (∀ j, j ≤ m → T j = (S ++ L j) ++ [.loop .ready none ⟨ps, assign, body, env, n⟩]) → ∀ j y, j < m → ys[j]? = some y → YStep P (S ++ L 0).length y (T j) true (T (j + 1)) := by
  intro m hm T hT j y hj hy L' rd' o env' f' args ts ho hf' hargs
  have e1 : ∀ i (X : MObj), ((S ++ L i) ++ [X]) ++ L' = (S ++ L i) ++ X :: L' := fun i X => by simp
  rw [hT j (by omega), hT (j + 1) (by omega), e1, e1]
  exact hstep j y hy (fun i hi => hm i (by omega)) _ L' rd' o env' f' args ts ho hf' hargs (fun _ => ⟨rfl, rfl⟩) (fun h => by rw [hm j hj] at h; cases h)
 rcases first_bad p ys.length with hall | ⟨m, hm, hp, hbef⟩
 ·refine ((hit (S ++ L 0).length (fun j => (S ++ L j) ++ [.loop .ready none ⟨ps, assign, body, env, n⟩]) ys.length (fun j => ⟨hok j, cls_swap (hlen 0) (hlen j) (hcl j) V (hc0 .ready none)⟩) (hgo ys.length hall _ (fun j _ => V))).1 V).mono ?_
  rintro v σ' rfl
  refine ⟨.ready, none, by rw [← hid ys.length]; exact get_mid, by simp, ?_⟩
  show Q .normal env _
  rw [← hid ys.length, set_mid]
  exact hend hall
 ·obtain ⟨y, hy⟩ : ∃ y, ys[m]? = some y := ⟨_, zD hm⟩
  let q : Code := exCode ex
  let T : Nat → MS := fun j => if j ≤ m then (S ++ L j) ++ [.loop .ready none ⟨ps, assign, body, env, n⟩] else (S ++ Ls m) ++ [.loop .done (some q) ⟨ps, assign, body, env, n⟩]
  have hT : ∀ j, j ≤ m → T j = (S ++ L j) ++ [.loop .ready none ⟨ps, assign, body, env, n⟩] := fun j hj => by simp [T, hj]
  have hT1 : T (m + 1) = (S ++ Ls m) ++ [.loop .done (some q) ⟨ps, assign, body, env, n⟩] := by simp [T]
  have h0 : T 0 = (S ++ L 0) ++ [.loop .ready none ⟨ps, assign, body, env, n⟩] := hT 0 (by omega)
  have hokT : ∀ j, ok (T j) ∧ ClS (T j) := fun j => by
   by_cases hj : j ≤ m
   ·rw [hT j hj]; exact ⟨hok j, cls_swap (hlen 0) (hlen j) (hcl j) rfl (hc0 .ready none)⟩
   ·simp only [T, if_neg hj]; exact ⟨hoks m _ _, cls_swap (hlen 0) (hlens m) (hcls m) rfl (hc0 .ready none)⟩
  have := (hit (S ++ L 0).length T m hokT (hgo m hbef T hT)).2 y hy (by
   intro L' rd' o env' f' args ts ho hf' hargs
   have e1 : ∀ (A : MS) (X : MObj), ((S ++ A) ++ [X]) ++ L' = (S ++ A) ++ X :: L' := fun i X => by simp
   rw [hT m (Nat.le_refl _), hT1, e1, e1]
   exact hstep m y hy hbef _ L' rd' o env' f' args ts ho hf' hargs (fun h => by rw [hp] at h; cases h) (fun _ => ⟨rfl, rfl⟩))
  rw [h0] at this
  refine this.mono ?_
  rintro v σ' rfl
  rw [hT1]
  refine ⟨.done, some q, by rw [← hids m]; exact get_mid, by simp, ?_⟩
  rw [← hids m, set_mid]
  rcases hex with rfl | ⟨x, rfl⟩
  ·exact hstop m y hy hp
  ·exact hstop m y hy hp
end
section
variable {P : Program} {rd : Option Nat} {o : Oper} {env : Env} {σ : MS} {K : MV → MS → Prop}
theorem op_store_last {t : TypeId} {x y : Operand} {off : Nat} {l : List MV} {m : MV} {k : Nat} (ho : o.op = .store t x y) (hx : evo env x = some (.ref σ.length off)) (hy : evo env y = some m) (hk : szOf P t = some k) (hm : m.cells.length = k) (h1 : m.cells.all MV.one = true) (hle : off + k ≤ l.length)
  (h : K (.tup []) (σ ++ [.cells (setMany l off m.cells)])) : OpWp P rd o env (σ ++ [.cells l]) K :=
 zZ3 ho hx hy get_mid hk hm h1 hle (by rw [set_mid]; exact h)
end
theorem get_box {A R : MS} {x x' y : MObj} : ((A ++ [x, y]) ++ R)[(A ++ [x']).length]? = some y := by rw [zF, zR, getElem?_own]; rfl
section
variable {P : Program} {rd : Option Nat} {o : Oper} {env : Env} {σ σ2 : MS} {K : MV → MS → Prop}
theorem op_viewTo {x y : MV} (h : OpWp P rd o env σ fun v σ' => v = x ∧ σ' = σ2) (hs : Sub x y) (hk : K y σ2) : OpWp P rd o env σ K := by
 intro g w a F hF hr hop
 refine Oper.wpIn_mono ?_ (h g w a F hF hr hop)
 rintro a' w' ⟨v, e, x', σ', g', ⟨rfl, rfl⟩, hrel, hrd, hle⟩
 exact ⟨v, e, y, _, g', hk, hrel, hs _ _ _ hrd, hle⟩
variable {N n : Nat} {Q : Exit → Env → MS → Prop}
end
theorem mwp_cellrowAt {P : Program} {rd : Option Nat} {N n : Nat} {c : Code} {Q : Exit → Env → MS → Prop} {env : Env} {S L L' : MS} (k i ty sz : Nat) {m : Nat} {l : List MV} (hk : L[k]? = some (.cells l)) (hi : l[i]? = some .lst0) (hN : N ≤ S.length) (hm : L.length = m) (hL : L.set k (.cells (l.set i (.lst (some (S.length + m)) sz []))) ++ [.row ty sz 0] = L') (h : mwp P rd N n c Q env (S ++ L')) : mwp P rd N n c Q env (S ++ L) := by
 subst hm hL
 refine mwp_ghost (fun g w tmps hr he => ?_) h
 obtain ⟨r1, l1, d1⟩ := tok_new hr ty sz
 have hlen : (S ++ L).length = S.length + L.length := zF
 refine ⟨_, ?_, he.mono l1, l1.toN N, fun F hF => hF.mono (l1.toN N)⟩
 have hlt := (zI.1 hk).1
 have e : S ++ (L.set k (.cells (l.set i (.lst (some (S.length + L.length)) sz []))) ++ [.row ty sz 0]) = ((S ++ L) ++ [MObj.row ty sz 0]).set (S.length + k) (.cells (l.set i (.lst (some (S.length + L.length)) sz []))) := by
  rw [zR, zY3, List.set_append_left _ _ hlt]
 rw [e]
 refine r1.recell (l := l) (by rw [zR, getElem?_own, List.getElem?_append_left hlt]; exact hk) fun us hus => ?_
 obtain ⟨u, hu, hrd⟩ := hus.get hi
 have hs := hus.set i (x := .lst (some (S.length + L.length)) sz []) (u := u) (by rw [hrd.inv_lst0, ← hlen]; exact d1)
 obtain ⟨hul, hue⟩ := zI.1 hu
 rwa [show us.set i u = us by rw [← hue]; exact List.set_getElem_self hul] at hs
end
section
theorem Rel.retype {g : Gh} {σ : MS} {w : World} (h : Rel g σ w) {id b : Nat} {l : List MV} {us : List Value} {ty : TypeId} (hσ : σ[id]? = some (.cells l)) (hb : g.bk id = some b) (hh : w.heap[b]? = some (.cells us.toArray ty (0, 0))) : Rel g (σ.set id (.tcells ty l)) w := by
 obtain ⟨own, hown⟩ := h.ex
 obtain ⟨b', us', ty', e1, e2, e3, ⟨fr, e4, _⟩, e5⟩ := hown.obj _ _ hσ
 rw [hb] at e2; injection e2 with e2; subst e2
 rw [hh] at e4; injection e4 with e4; injection e4 with e4 e6 e7
 have e4' : us = us' := by simpa using congrArg Array.toList e4
 subst e4'
 refine ⟨h.below, h.base, h.fresh, fun i hi => h.bkn i (by simpa using hi), fun t k ht => h.lgn t k (by simpa using ht), own, ⟨fun i ob hi => ?_, hown.inj, fun i c hc => by simpa using hown.lt i c hc⟩⟩
 rw [List.getElem?_set] at hi
 by_cases e : id = i
 ·subst e
  rw [if_pos rfl] at hi
  split at hi
  ·injection hi with hi
   subst hi
   exact ⟨b, us, e1, hb, e3, hh, e5⟩
  ·cases hi
 ·rw [if_neg e] at hi
  exact hown.obj i ob hi
theorem Rel.untype {g : Gh} {σ : MS} {w : World} (h : Rel g σ w) {id : Nat} {l : List MV} {ty : TypeId} (hσ : σ[id]? = some (.tcells ty l)) : Rel g (σ.set id (.cells l)) w := by
 obtain ⟨own, hown⟩ := h.ex
 obtain ⟨b, us, e1, e2, e3, e4, e5⟩ := hown.obj _ _ hσ
 refine ⟨h.below, h.base, h.fresh, fun i hi => h.bkn i (by simpa using hi), fun t k ht => h.lgn t k (by simpa using ht), own, ⟨fun i ob hi => ?_, hown.inj, fun i c hc => by simpa using hown.lt i c hc⟩⟩
 rw [List.getElem?_set] at hi
 by_cases e : id = i
 ·subst e
  rw [if_pos rfl] at hi
  split at hi
  ·injection hi with hi
   subst hi
   exact ⟨b, us, ty, e1, e2, e3, ⟨_, e4, .inl rfl⟩, e5⟩
  ·cases hi
 ·rw [if_neg e] at hi
  exact hown.obj i ob hi
section
variable {P : Program} {rd : Option Nat} {o : Oper} {env : Env} {σ : MS} {K : MV → MS → Prop}
theorem op_boxT {t : TypeId} {x : Operand} {m : MV} (ho : o.op = .box t x) (hx : evo env x = some m) (h : K (.ref σ.length 0) (σ ++ [.tcells t m.cells])) : OpWp P rd o env σ K := by
 refine OpWp.of_run (by simp [ho]) fun g w a hr hop => ?_
 obtain ⟨us, e, k1⟩ := rds_cells (hop x (by simp [ho, Op.operands]) _ hx)
 obtain ⟨g', h1, h2, h3⟩ := hr.alloc_obj k1 t
 have hr' := h1.retype (id := σ.length) (l := m.cells) (us := us) (ty := t) (by simp) h3 (heap_new w _)
 have hset : (σ ++ [MObj.cells m.cells]).set σ.length (.tcells t m.cells) = σ ++ [.tcells t m.cells] := by simp
 rw [hset] at hr'
 refine ⟨.pointer (some ⟨w.heap.size, 0, none⟩), w.alloc (.cells us.toArray t), ?_, ⟨_, _, g', h, hr', .ref _ _ _ h3, h2⟩⟩
 simp [execOp, ho, Instr.box, newVar, newRow, e]
theorem op_load_T {t ty : TypeId} {x : Operand} {id off : Nat} {l : List MV} {ta : Option Nat} {m : MV} (ho : o.op = .load t x) (hx : evo env x = some (.ref id off)) (hσ : σ[id]? = some (.tcells ty l)) (ht : tyAgg P t = some ta) (hm : loadMV ta l off = some m) (h : K m σ) : OpWp P rd o env σ K := by
 refine OpWp.of_run (by simp [ho]) fun g w a hr hop => ?_
 obtain ⟨b, hb, e⟩ := (hop x (by simp [ho, Op.operands]) _ hx).inv_ref
 obtain ⟨own, hown⟩ := hr.ex
 obtain ⟨b', us, e1, e2, e3, e4, e5⟩ := hown.obj _ _ hσ
 rw [hb] at e2
 injection e2 with e2
 subst e2
 obtain ⟨v, hv, hy⟩ := run_loadVar_at ht (e5.drop off) (fun j u hu => cells_at e4 off j hu) (loadMV_drop hm)
 refine ⟨v, w, ?_, .same h hr hy⟩
 simp [execOp, ho, e, Instr.loadAt, Instr.sureAddr, hv]
theorem _root_.zF5 : type_of% @op_load_T := @op_load_T
theorem op_store_T {t ty : TypeId} {x y : Operand} {id off : Nat} {l : List MV} {m : MV} {k : Nat} (ho : o.op = .store t x y) (hx : evo env x = some (.ref id off)) (hy : evo env y = some m) (hσ : σ[id]? = some (.tcells ty l)) (hk : szOf P t = some k) (hm : m.cells.length = k)
  (h1 : m.cells.all MV.one = true) (hle : off + k ≤ l.length) (h : K (.tup []) (σ.set id (.tcells ty (setMany l off m.cells)))) : OpWp P rd o env σ K := by
 refine OpWp.of_skip (by simp [ho]) fun g w a hr0 hop => ?_
 have hidl : id < σ.length := (zI.1 hσ).1
 have hr := hr0.untype hσ
 have hσ' : (σ.set id (.cells l))[id]? = some (.cells l) := by rw [List.getElem?_set_self hidl]
 obtain ⟨b, hb, e⟩ := (hop x (by simp [ho, Op.operands]) _ hx).inv_ref
 have hrd := hop y (by simp [ho, Op.operands]) _ hy
 obtain ⟨us, hus, hrds⟩ := rds_cells hrd
 obtain ⟨own, hown⟩ := hr0.ex
 obtain ⟨b', old, e1, e2, e3, e4, e5⟩ := hown.obj _ _ hσ
 rw [hb] at e2; injection e2 with e2; subst e2
 have hlen : us.length = k := by rw [hrds.1, hm]
 have hone : ∀ v ∈ us, v.oneCell' = true := by
  intro v hv
  obtain ⟨j, hj⟩ := List.getElem?_of_mem hv
  have hjl : j < m.cells.length := by rw [hm, ← hlen]; exact (zI.1 hj).1
  have := hrds.2 j _ v (zD hjl) hj
  rw [List.all_eq_true] at h1
  exact one_cell this (h1 _ (List.getElem_mem hjl))
 have hrun := run_storeCells_fr P b off ty (0, 0) us 0 old.toArray w e4 (.inl rfl) (by rw [hlen]; simpa [e5.1] using hle) hone
 obtain ⟨hrel, hl⟩ := hr.store hσ' hrds (by rw [hm]; exact hle) hb e4
 have hrel' := hrel.retype (id := id) (by rw [List.getElem?_set_self (by simpa using hidl)]) hb (setRow_heap w b _ _ ty _ e4)
 have hset : ((σ.set id (MObj.cells l)).set id (.cells (setMany l off m.cells))).set id (.tcells ty (setMany l off m.cells)) = σ.set id (.tcells ty (setMany l off m.cells)) := by
  rw [List.set_set, List.set_set]
 rw [hset] at hrel'
 refine ⟨_, ?_, .tup [], _, g, h, hrel', rd_undef _ _, hl⟩
 have hsz : (a.eval y).cells.size = k := by rw [hus]; simpa using hlen
 have hst : (storeVar t ⟨b, off, none⟩ (a.eval y)).run P w = (storeCells ⟨b, off, none⟩ us).run P w := by
  simp [storeVar, szOf_run hk, hsz, hus, hlen]
 simp only [execOp, ho, e, Instr.storeAt, Instr.sureAddr, Sem.run_bind, Sem.run_pure, Result.andThen_ok, hst, hrun, Nat.add_zero]
theorem op_toUnsafe {t t' e ty : TypeId} {x : Operand} {id k : Nat} {l : List MV} (ho : o.op = .convert t t' x) (hs : P.underlying t = some (.pointer e)) (hd : P.underlying t' = some .unsafePointer) (hk : szOf P e = some k) (hk0 : k ≠ 0) (hx : evo env x = some (.ref id 0)) (hσ : σ[id]? = some (.tcells ty l)) (hl : 0 < l.length) (h : K (.ref id 0) σ) : OpWp P rd o env σ K := by
 refine OpWp.of_run (by simp [ho]) fun g w a hr hop => ?_
 have hrd := hop x (by simp [ho, Op.operands]) _ hx
 obtain ⟨b, hb, e0⟩ := hrd.inv_ref
 obtain ⟨own, hown⟩ := hr.ex
 obtain ⟨b', us, e1, e2, e3, e4, e5⟩ := hown.obj _ _ hσ
 rw [hb] at e2; injection e2 with e2; subst e2
 obtain ⟨i, hi, hz⟩ : ∃ i, P.info? e = some i ∧ i.size = k := by
  unfold szOf at hk
  split at hk
  ·rename_i i hi
   injection hk with hk
   exact ⟨i, hi, hk⟩
  ·cases hk
 refine ⟨.pointer (some ⟨b, 0, none⟩), w, ?_, .same h hr (.ref _ _ _ hb)⟩
 have hrun := Lib.run_to_unsafe (P := P) w ⟨b, 0, none⟩ hs hd hi (by rw [hz]; exact hk0) (e := ty) (cells := us.length) (by simp [World.shape?, e4]) (by rw [e5.1]; exact hl)
 simp [execOp, ho, e0, hrun]
theorem op_fromUnsafe {t t' e ty : TypeId} {x : Operand} {id k : Nat} {l : List MV} (ho : o.op = .convert t t' x) (hs : P.underlying t = some .unsafePointer) (hd : P.underlying t' = some (.pointer e)) (hk : szOf P e = some k) (hx : evo env x = some (.ref id 0)) (hσ : σ[id]? = some (.tcells ty l)) (hlies : liesAt P P.depth ty (l.length / P.cellsOf ty) 0 e 1 = true) (h : K (.ref id 0) σ) : OpWp P rd o env σ K := by
 refine OpWp.of_run (by simp [ho]) fun g w a hr hop => ?_
 obtain ⟨b, hb, e0⟩ := (hop x (by simp [ho, Op.operands]) _ hx).inv_ref
 obtain ⟨own, hown⟩ := hr.ex
 obtain ⟨b', us, e1, e2, e3, e4, e5⟩ := hown.obj _ _ hσ
 rw [hb] at e2; injection e2 with e2; subst e2
 obtain ⟨i, hi, hz⟩ : ∃ i, P.info? e = some i ∧ i.size = k := by
  unfold szOf at hk
  split at hk
  ·rename_i i hi
   injection hk with hk
   exact ⟨i, hi, hk⟩
  ·cases hk
 refine ⟨.pointer (some ⟨b, 0, none⟩), w, ?_, .same h hr (.ref _ _ _ hb)⟩
 have hrun := Lib.run_from_unsafe (P := P) w ⟨b, 0, none⟩ hs hd hi (e := ty) (cells := us.length) (by simp [World.shape?, e4]) (by rw [e5.1]; exact hlies)
 simp [execOp, ho, e0, hrun]
theorem op_ptrsame {b : BinOp} {r : Bool} {t e t' : TypeId} {x y : Operand} {id off k : Nat} (ho : o.op = .binOp b t x y t') (hu : P.underlying t = some (.pointer e)) (hk : szOf P e = some k) (hk0 : k ≠ 0) (hx : evo env x = some (.ref id off)) (hy : evo env y = some (.ref id off)) (hb : b = .eql ∧ r = true ∨ b = .neq ∧ r = false) (h : K (.bool r) σ) : OpWp P rd o env σ K := by
 refine OpWp.of_run (by rcases hb with ⟨rfl, rfl⟩ | Vv <;> simp [ho]) fun g w a hr hop => ?_
 obtain ⟨b1, hb1, e1⟩ := (hop x (by simp [ho, Op.operands]) _ hx).inv_ref
 obtain ⟨b2, hb2, e2⟩ := (hop y (by simp [ho, Op.operands]) _ hy).inv_ref
 rw [hb1] at hb2; injection hb2 with hb2; subst hb2
 refine ⟨.bool r, w, ?_, .same h hr (.bool _)⟩
 have h9 : ∀ d : Nat, (Op.equalIn (d + 1) t (.pointer (some ⟨b1, off, none⟩)) (.pointer (some ⟨b1, off, none⟩))).run P w = .ok true w := fun d => by
  simp [Op.equalIn, run_underlying hu, szOf_run hk, hk0, sameAddr]
 rcases hb with ⟨rfl, rfl⟩ | ⟨rfl, rfl⟩ <;> (simp only [execOp, ho, e1, e2, Sem.run_bind, Sem.run_pure]; simp [eqGuard, binOp, Op.equal, Op.maxDepth, h9 9999])
end
theorem Rel.recellT {g : Gh} {σ : MS} {w : World} (h : Rel g σ w) {id : Nat} {ty : TypeId} {l l' : List MV} (hσ : σ[id]? = some (.tcells ty l)) (hl : ∀ us, Rds g w l us → Rds g w l' us) : Rel g (σ.set id (.tcells ty l')) w := by
 refine ⟨h.below, h.base, h.fresh, fun i hi => h.bkn i (by simpa using hi), fun t n ht => h.lgn t n (by simpa using ht), ?_⟩
 obtain ⟨own, ho⟩ := h.ex
 refine ⟨own, ⟨fun i o hi => ?_, ho.inj, fun i b hi => by have := ho.lt i b hi; exact ⟨by simpa using this.1, this.2⟩⟩⟩
 rw [List.getElem?_set] at hi
 split at hi
 ·rename_i e
  subst e
  split at hi
  ·injection hi with hi
   subst hi
   obtain ⟨b, us, h1, h2, h3, h4, h5⟩ := ho.obj _ _ hσ
   exact ⟨b, us, h1, h2, h3, h4, hl us h5⟩
  ·cases hi
 ·exact ho.obj i o hi
theorem mwp_cellrowT {P : Program} {rd : Option Nat} {N n : Nat} {c : Code} {Q : Exit → Env → MS → Prop} {env : Env} {S L L' : MS} (k i ty sz : Nat) {m tt : Nat} {l : List MV} (hk : L[k]? = some (.tcells tt l)) (hi : l[i]? = some .lst0) (hN : N ≤ S.length) (hm : L.length = m) (hL : L.set k (.tcells tt (l.set i (.lst (some (S.length + m)) sz []))) ++ [.row ty sz 0] = L') (h : mwp P rd N n c Q env (S ++ L')) : mwp P rd N n c Q env (S ++ L) := by
 subst hm hL
 refine mwp_ghost (fun g w tmps hr he => ?_) h
 obtain ⟨r1, l1, d1⟩ := tok_new hr ty sz
 have hlen : (S ++ L).length = S.length + L.length := zF
 refine ⟨_, ?_, he.mono l1, l1.toN N, fun F hF => hF.mono (l1.toN N)⟩
 have hlt := (zI.1 hk).1
 have e : S ++ (L.set k (.tcells tt (l.set i (.lst (some (S.length + L.length)) sz []))) ++ [.row ty sz 0]) = ((S ++ L) ++ [MObj.row ty sz 0]).set (S.length + k) (.tcells tt (l.set i (.lst (some (S.length + L.length)) sz []))) := by
  rw [zR, zY3, List.set_append_left _ _ hlt]
 rw [e]
 refine r1.recellT (l := l) (by rw [zR, getElem?_own, List.getElem?_append_left hlt]; exact hk) fun us hus => ?_
 obtain ⟨u, hu, hrd⟩ := hus.get hi
 have hs := hus.set i (x := .lst (some (S.length + L.length)) sz []) (u := u) (by rw [hrd.inv_lst0, ← hlen]; exact d1)
 obtain ⟨hul, hue⟩ := zI.1 hu
 rwa [show us.set i u = us by rw [← hue]; exact List.set_getElem_self hul] at hs
end
section
section
variable {P : Program} {rd : Option Nat} {o : Oper} {env : Env} {σ : MS} {K : MV → MS → Prop}
end
end
end Go.MV
namespace Go.Proofs.YtplclefbiimnbaaGreat
open Go Go.MV Go.RowKit
theorem run_same {P : Program} {k : FuncId} {fn : Func} (hf : P.funcs[k]? = some fn) (hname : (fn.name == "runtime.NumGoroutine") = false) (hb : fn.body.isNone = true) (hn : Extern.findNext fn = none) (he : Extern.find fn = some Extern.AbiNoEscape.same) (v : Value) (w : World) :
  (callFunc k #[v]).run P w = .ok (.value v) w := by
 rw [run_callFunc_extern hf hname hb hn he, Go.Lib.run_noEscape]
 rfl
theorem op_same {P : Program} {rd : Option Nat} {o : Oper} {env : Env} {σ : MS} {K : MV → MS → Prop} {f x : Operand} {k : FuncId} {fn : Func} {m : MV} {ts : Array TypeId} (ho : o.op = .call { callee := .value f, args := #[x], argTypes := ts }) (hf : evo env f = some (.fn (.func k) [] [])) (hfn : P.funcs[k]? = some fn) (hname : (fn.name == "runtime.NumGoroutine") = false) (hb : fn.body.isNone = true) (hn : Extern.findNext fn = none) (he : Extern.find fn = some Extern.AbiNoEscape.same) (hx : evo env x = some m) (h : K m σ) : OpWp P rd o env σ K := by
 refine OpWp.of_run (by simp [ho]) fun g w a hr hop => ?_
 obtain ⟨us, vs, e, k1, k2⟩ := (hop f (by simp [ho, Op.operands, Call.operands]) _ hf).inv_fn
 have hrd := hop x (by simp [ho, Op.operands, Call.operands]) _ hx
 have e1 : us = [] := List.eq_nil_of_length_eq_zero k1.1
 have e2 : vs = [] := List.eq_nil_of_length_eq_zero k2.1
 subst e1 e2
 have hrun := run_same (P := P) hfn hname hb hn he (a.eval x) w
 refine ⟨a.eval x, w, ?_, .same h hr hrd⟩
 simp [execOp, ho, resolve, e, Deferred.ofValue, invoke, hrun]
theorem get_slO {S L : MS} {id : Nat} {o : MObj} (h : S[id]? = some o) : (S ++ L)[id]? = some o := zO3 h
theorem _root_.zN2 : type_of% @get_slO := @get_slO
theorem set_slO {S L : MS} {id : Nat} {o p : MObj} (h : S[id]? = some p) : (S ++ L).set id o = S.set id o ++ L := List.set_append_left _ _ (zI.1 h).1
theorem cls_tc {S : MS} {id : Nat} {ty : TypeId} {l : List MV} (h : ClS S) (hl : ∀ x ∈ l, Cl S.length x) : ClS (S.set id (.tcells ty l)) := by
 intro i o ho
 rw [List.length_set]
 rcases List.mem_or_eq_of_mem_set (zU ho) with hm | rfl
 ·obtain ⟨j, hj⟩ := List.getElem?_of_mem hm
  exact h j o hj
 ·exact hl
theorem _root_.zG5 : type_of% @Tryz.underlying52 := @Tryz.underlying52
theorem check_new (id : Nat) (q : MV) (S : MS) (h : S[id]? = some (.tcells 57 [.ptr0, q])) : MCalls Tryz.prog 66 [.ref id 0] S fun v σ' => v = .tup [] ∧ σ' = S.set id (.tcells 57 [.ref id 0, q]) := by
 refine zN Tryz.func66 V Tryz.ntmps66 (zB V) ?_
 refine zS0 fun _ hcl => ?_
 rw [List.append_nil] at hcl
 have hidl := (zI.1 h).1
 refine zA <| qR V <| qM V V V <| qO V <| zE0 V V V <| qF V V V fo55_0 <| qO V <| zF5 V V (zN2 h) ta52 V <| qO V <| op_ptr0 V zG5 V V (.inl Vv) <| qN <| zX V (V) <| qR V <| qM V V V <| qM V V V <| qO V <| op_toUnsafe V zG5 Tryz.underlying115 (k := 2) (by kernel_rfl) (by decide) V (zN2 h) (by simp) ?_
 refine qO V <| op_same V V Tryz.func82 (by kernel_rfl) (by kernel_rfl) (by kernel_rfl) (by kernel_rfl) V ?_
 refine qO V <| op_fromUnsafe V Tryz.underlying115 zG5 (k := 2) (by kernel_rfl) V (zN2 h) (by kernel_rfl) ?_
 refine qO V <| zE0 V V V <| qF V V V fo55_0 <| qO V <| op_store_T V V V (zN2 h) sz52 V V (zB V) ?_
 rw [set_slO h]
 refine qN ?_
 exact zT2 (by simp) Tryz.results66 (by simp) (cls_tc hcl (fun x hx => by
   have hob := hcl id _ h
   rcases List.mem_cons.1 hx with rfl | hx
   ·exact .ref _ _ hidl
   ·exact hob x (.tail _ hx))) ⟨rfl, rfl⟩
theorem check_used (id : Nat) (q : MV) (S : MS) (h : S[id]? = some (.tcells 57 [.ref id 0, q])) : MCalls Tryz.prog 66 [.ref id 0] S fun v σ' => v = .tup [] ∧ σ' = S := by
 refine zN Tryz.func66 V Tryz.ntmps66 (zB V) ?_
 refine zS0 fun _ hcl => ?_
 rw [List.append_nil] at hcl
 refine zA <| qR V <| qM V V V <| qO V <| zE0 V V V <| qF V V V fo55_0 <| qO V <| zF5 V V (zN2 h) ta52 V <| qO V <| op_ptrnil V zG5 V V V (.inl Vv) <| qN <| zJ V (V) <| zA <| qR V <| qM V V V <| qO V <| zE0 V V V <| qF V V V fo55_0 <| qO V <| zF5 V V (zN2 h) ta52 V <| qM V V V <| qO V <| op_ptrsame V zG5 (k := 2) (by kernel_rfl) (by decide) V V (.inr Vv) ?_
 refine qN <| zJ V (V) <| zQ ?_
 exact zT2 (by simp) Tryz.results66 (by simp) hcl Vv
end Go.Proofs.YtplclefbiimnbaaGreat
