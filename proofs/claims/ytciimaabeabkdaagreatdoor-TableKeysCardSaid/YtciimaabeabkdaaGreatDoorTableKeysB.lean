/-
  Texts on which the proof of TableKeys leans: part 2.
-/
import Derived.Test.YtciimaabeabkdaaGreatDoorTableKeysA
import Derived.Laws.StructEq
import Derived.Laws.BytesString
import Derived.Test.YtciimaabeabkdaaGreatDoorProg
import Derived.KernelRfl
import Derived.Laws.MakeOwn
import Derived.Laws.IdiomStrings
import Derived.Lib.SliceRun
set_option linter.unusedVariables false
set_option linter.unusedSimpArgs false
set_option maxRecDepth 20000
set_option maxHeartbeats 8000000
namespace Go.MV
open Go Go.RowKit
section
theorem Rel.alloc_gen {g : Gh} {σ : MS} {w : World} (h : Rel g σ w) (o : Obj) (mo : MObj)
  (H : ∀ g', Le g w g' (w.alloc o) → g'.bk σ.length = some w.heap.size → g'.st w.heap.size = 0 → ObjRel g' (w.alloc o) (some w.heap.size) σ.length mo) :
  ∃ g', Rel g' (σ ++ [mo]) (w.alloc o) ∧ Le g w g' (w.alloc o) ∧ g'.bk σ.length = some w.heap.size := by
 obtain ⟨own, ho0⟩ := h.ex
 have l1 := Le.alloc_stab h o 0
 have r1 := h.alloc_stab o 0
 have l2 : Le (g.stab w.heap.size 0) (w.alloc o) ((g.stab w.heap.size 0).bind σ.length w.heap.size) (w.alloc o) := Le.bind (r1.bkn σ.length (Nat.le_refl _))
 refine ⟨(g.stab w.heap.size 0).bind σ.length w.heap.size, ⟨r1.below, r1.base, r1.fresh, fun id hid => ?_, fun t n ht => r1.lgn t n (by simp at ht; omega), ?_⟩, l1.trans l2, by simp [Gh.bind]⟩
 ·simp at hid
  simp only [Gh.bind]
  rw [if_neg (by omega)]
  exact r1.bkn id (by omega)
 ·have ho : Owns (g.stab w.heap.size 0) σ (w.alloc o) own := by
   refine ho0.keep l1 (fun id b e => ?_) (fun _ _ => V)
   have hlt := (ho0.lt id b e).2.2
   refine ⟨Below.heap_alloc w o b hlt, ?_⟩
   simp only [Gh.stab]
   rw [if_neg (by omega)]
  have ho' := ho.keep l2 (fun _ _ _ => ⟨rfl, rfl⟩) (fun _ _ => rfl)
  have hold : ∀ id b, own id = some b → b < w.heap.size := fun id b e => (ho0.lt id b e).2.2
  refine ⟨fun id => if id = σ.length then some w.heap.size else own id, ⟨fun id o' hid => ?_, fun i j b hi hj => ?_, fun id b hid => ?_⟩⟩
  ·by_cases e : id = σ.length
   ·subst e
    rw [List.getElem?_append_right (Nat.le_refl _)] at hid
    simp at hid
    subst hid
    simp only [if_true]
    exact H _ (l1.trans l2) (by simp [Gh.bind]) (by simp [Gh.bind, Gh.stab])
   ·rw [if_neg e]
    have hlt : id < σ.length := by
     have := (zD.1 hid).1
     simp at this
     omega
    rw [List.getElem?_append_left hlt] at hid
    exact ho'.obj id o' hid
  ·by_cases ei : i = σ.length <;> by_cases ej : j = σ.length
   ·omega
   ·simp only [ei, if_true] at hi
    simp only [ej, if_false] at hj
    have := hold j b hj
    injection hi with hi
    omega
   ·simp only [ej, if_true] at hj
    simp only [ei, if_false] at hi
    have := hold i b hi
    injection hj with hj
    omega
   ·simp only [ei, ej, if_false] at hi hj
    exact ho'.inj i j b hi hj
  ·by_cases e : id = σ.length
   ·simp only [e, if_true] at hid
    injection hid with hid
    subst hid
    exact ⟨by simp [e], h.size, by simp⟩
   ·simp only [e, if_false] at hid
    obtain ⟨h1, h2, h3⟩ := ho'.lt id b hid
    exact ⟨by simp; omega, h2, h3⟩
theorem Rel.loop_set {g : Gh} {σ : MS} {w : World} (h : Rel g σ w) {id b : Nat} {s : LoopState} {p : Option Code} {ls : LS} (hσ : σ[id]? = some (.loop s p ls)) (hb : g.bk id = some b) {l : Loop} (hl : w.heap[b]? = some (Obj.loop l)) (s' : LoopState) (p' : Option Code) :
    Rel g (σ.set id (.loop s' p' ls)) { w with heap := w.heap.setIfInBounds b (Obj.loop { l with state := s', pending := p' }) } ∧ Le g w g { w with heap := w.heap.setIfInBounds b (Obj.loop { l with state := s', pending := p' }) } := by
  obtain ⟨own, hown⟩ := h.ex
  obtain ⟨b', l', e1, e2, e3, e4, e5, e6, e7, e8, e9, e10⟩ := hown.obj _ _ hσ
  rw [hb] at e2; injection e2 with e2; subst e2
  rw [hl] at e3
  injection e3 with e3
  injection e3 with e3
  subst e3
  have hblt : b < w.heap.size := (Array.getElem?_eq_some_iff.1 hl).1
  have hidlt : id < σ.length := (zD.1 hσ).1
  have hne : ∀ c, c ≠ b → ({ w with heap := w.heap.setIfInBounds b (Obj.loop { l with state := s', pending := p' }) } : World).heap[c]? = w.heap[c]? := fun c hc => by
    show (w.heap.setIfInBounds b _)[c]? = _
    rw [Array.getElem?_setIfInBounds_ne (fun e => hc e.symm)]
  have hbB : g.B ≤ b := (hown.lt id b e1).2.1
  have hcell : ∀ a : Addr, ({ w with heap := w.heap.setIfInBounds b (Obj.loop { l with state := s', pending := p' }) } : World).cell? a = w.cell? a := by
    intro a
    by_cases e : a.block = b
    · simp [World.cell?, e, hl, Array.getElem?_setIfInBounds_self_of_lt hblt]
    · exact World.cell?_of_block (w := w) (hne _ e)
  have hle : Le g w g { w with heap := w.heap.setIfInBounds b (Obj.loop { l with state := s', pending := p' }) } :=
    ⟨⟨rfl, rfl, fun c k hk => ⟨hk, hcell _⟩, fun _ _ h => h, fun _ _ _ h => h, by simp⟩, fun c x hx => by
      have : c ≠ b := fun e => by subst e; rw [hl] at hx; cases hx
      exact (hne c this).trans hx⟩
  refine ⟨⟨⟨h.below.os, h.below.tape, h.below.output, by simpa using h.below.size, fun k hk => (hne k (by omega)).trans (h.below.block k hk)⟩, h.base, fun c hc => h.fresh c (by simpa using hc), fun i hi => h.bkn i (by simpa using hi), fun t k ht => h.lgn t k (by simpa using ht), own, ⟨fun i ob hi => ?_, hown.inj, fun i c hc => ?_⟩⟩, hle⟩
  · rw [List.getElem?_set] at hi
    by_cases e : id = i
    · subst e
      rw [if_pos rfl, if_pos hidlt] at hi
      injection hi with hi
      subst hi
      refine ⟨b, { l with state := s', pending := p' }, e1, hb, ?_, rfl, rfl, e6, e7, e8, e9, e10.mono hle⟩
      show (w.heap.setIfInBounds b _)[b]? = _
      rw [Array.getElem?_setIfInBounds_self_of_lt hblt]
    · rw [if_neg e] at hi
      refine (hown.obj i ob hi).keep0 hle.toLe0 (fun c hc => ⟨hne c (fun ec => ?_), rfl⟩) (fun _ => V)
      subst ec
      exact e (hown.inj _ _ _ e1 hc)
  · obtain ⟨h1, h2, h3⟩ := hown.lt i c hc
    exact ⟨by simpa using h1, h2, by simpa using h3⟩
theorem Rel.loop_at {g : Gh} {σ : MS} {w : World} (h : Rel g σ w) {id : Nat} {s : LoopState} {p : Option Code} {ls : LS} (hσ : σ[id]? = some (.loop s p ls)) : ∃ b l, g.bk id = some b ∧ w.heap[b]? = some (Obj.loop l) ∧ l.state = s ∧ l.pending = p ∧ l.params = ls.params ∧ l.assign = ls.assign ∧ l.body = ls.body ∧ l.tmps.size = ls.n ∧ EnvRd g w ls.env l.tmps := by
 obtain ⟨own, hown⟩ := h.ex
 obtain ⟨b, l, e1, e2, e3, rest⟩ := hown.obj _ _ hσ
 exact ⟨b, l, e2, e3, rest⟩
theorem Rel.gone {g : Gh} {σ : MS} {w : World} (h : Rel g σ w) (id : Nat) : Rel g (σ.set id .gone) w := by
 obtain ⟨own, hown⟩ := h.ex
 refine ⟨h.below, h.base, h.fresh, fun i hi => h.bkn i (by simpa using hi), fun t k ht => h.lgn t k (by simpa using ht), fun i => if i = id then none else own i, ⟨fun i o hi => ?_, fun i j b hi hj => ?_, fun i b hi => ?_⟩⟩
 ·by_cases e : i = id
  ·subst e
   rw [List.getElem?_set] at hi
   rw [if_pos rfl] at hi
   split at hi
   ·injection hi with hi
    subst hi
    simp [ObjRel]
   ·cases hi
  ·rw [if_neg e]
   rw [List.getElem?_set_ne (fun h => e h.symm)] at hi
   exact hown.obj i o hi
 ·split at hi
  ·cases hi
  ·split at hj
   ·cases hj
   ·exact hown.inj i j b hi hj
 ·split at hi
  ·cases hi
  ·obtain ⟨h1, h2⟩ := hown.lt i b hi
   exact ⟨by simpa using h1, h2⟩
section
variable {P : Program} {rd : Option Nat} {N n : Nat} {Q : Exit → Env → MS → Prop} {env : Env} {σ : MS} {o : Oper} {K : MV → MS → Prop}
def bindPs : List Tmp → List MV → Env → Env
 | t :: ts, x :: xs, env => bindPs ts xs ((t, x) :: env)
 | _, _, env => env
theorem bindPs_rd {g : Gh} {w : World} : ∀ {ps : List Tmp} {xs : List MV} {us : List Value} {env : Env} {tmps : Array Value}, Rds g w xs us → (∀ t ∈ ps, t < tmps.size) → EnvRd g w env tmps → EnvRd g w (bindPs ps xs env) ((ps.zip us).foldl (fun tmps (p : Tmp × Value) => tmps.setIfInBounds p.1 p.2) tmps)
 | [], xs, us, env, tmps, _, _, he => by simpa [bindPs] using he
 | t :: ts, [], us, env, tmps, hr, _, he => by
  have : us = [] := List.eq_nil_of_length_eq_zero hr.1
  subst this
  simpa [bindPs] using he
 | t :: ts, x :: xs, us, env, tmps, hr, hb, he => by
  obtain ⟨u, us', rfl, h1, h2⟩ := hr.uncons
  simp only [bindPs, List.zip_cons_cons, List.foldl_cons]
  exact bindPs_rd h2 (fun s hs => by simpa using hb s (zW1 _ hs)) (he.put (hb t (zZ1 ..)) h1)
theorem foldl_size : ∀ (l : List (Tmp × Value)) (tmps : Array Value), (l.foldl (fun tmps (p : Tmp × Value) => tmps.setIfInBounds p.1 p.2) tmps).size = tmps.size
 | [], tmps => rfl
 | p :: l, tmps => by rw [List.foldl_cons, foldl_size l]; simp
def RoundQ (id N : Nat) (K : MV → MS → Prop) (e : Exit) (_ : Env) (σf : MS) : Prop :=
 ∃ σ' junk p ls, σf = σ' ++ junk ∧ N ≤ σ'.length ∧ (junk = [] ∨ ClS σ') ∧ σ'[id]? = some (.loop .busy p ls) ∧
  match e with
  | .normal => K (.bool true) (σ'.set id (.loop .ready none ls))
  | .ret => K (.bool false) (σ'.set id (.loop .done (some .ret) ls))
  | .exit x => K (.bool false) (σ'.set id (.loop .done (some (.exit x)) ls))
  | _ => False
theorem run_endRound {w : World} {b : Nat} {l : Loop} (h : w.heap[b]? = some (Obj.loop l)) (j : Option Code) : (Instr.endRound b j).run P w = .ok (.bool j.isNone) { w with heap := w.heap.setIfInBounds b (Obj.loop { l with state := if j.isNone then .ready else .done, pending := j }) } := by
 simp [Instr.endRound, Instr.getLoop, getObj, setObj, Sem.run, h, bind, Sem.bind, pure]
theorem run_beginRound {w : World} {b : Nat} {l : Loop} (h : w.heap[b]? = some (Obj.loop l)) (hs : l.state = .ready) : (Instr.beginRound b).run P w = .ok () { w with heap := w.heap.setIfInBounds b (Obj.loop { l with state := .busy }) } := by
 simp [Instr.beginRound, Instr.getLoop, getObj, setObj, Sem.run, h, hs, bind, Sem.bind, pure]
theorem op_yield {f : Operand} {args : Array Operand} {ts : Array TypeId} {id : Nat} {xs : List MV} {p : Option Code} {ls : LS} (ho : o.op = .call { callee := .value f, args := args, argTypes := ts }) (hf : evo env f = some (.yld id)) (hx : evos env args.toList = some xs)
    (hσ : σ[id]? = some (.loop .ready p ls)) (hps : ls.params.size = args.size) (hpb : ls.params.toList.all (fun t => Nat.blt t ls.n) = true)
    (h : mwp P (some id) σ.length ls.n ls.assign (fun e env1 σ1 => e = .normal ∧ ∃ p1, σ1[id]? = some (.loop .ready p1 ls) ∧ mwp P (some id) σ.length ls.n ls.body (RoundQ id σ.length K) env1 (σ1.set id (.loop .busy p1 ls))) (bindPs ls.params.toList xs ls.env) σ) : OpWp P rd o env σ K := by
  intro g w a F hF hr hop
  refine ⟨fun f _ => hF.fn f, ?_⟩
  rw [Oper.semAt_eq _ _ _ (by simp [ho])]
  obtain ⟨b, hb, e⟩ := (hop f (by simp [ho, Op.operands, Call.operands]) _ hf).inv_yld
  have k3 : Rds g w xs (args.toList.map a.eval) := evos_rds (fun x hx m hm => hop x (by simp [ho, Op.operands, Call.operands]; exact .inr (by simpa using hx)) m hm) hx
  obtain ⟨b', l, hb', hl, l1, l2, l3, l4, l5, l6, l7⟩ := hr.loop_at hσ
  rw [hb] at hb'
  injection hb' with hb'
  subst hb'
  have hidlt : id < σ.length := (zD.1 hσ).1
  have hrun : (execOp a.eval o).run P w = .ok (.round b l.fn ((ls.params.toList.zip (args.toList.map a.eval)).foldl (fun tmps (p : Tmp × Value) => tmps.setIfInBounds p.1 p.2) l.tmps) l.assign l.body) w := by
    have hsz : (Array.map a.eval args).size = l.params.size := by rw [l3, hps]; simp
    have hz : (l.params.zip (Array.map a.eval args)).foldl (fun tmps (p : Tmp × Value) => tmps.setIfInBounds p.1 p.2) l.tmps = (ls.params.toList.zip (args.toList.map a.eval)).foldl (fun tmps (p : Tmp × Value) => tmps.setIfInBounds p.1 p.2) l.tmps := by
      rw [← Array.foldl_toList, Array.toList_zip, l3, Array.toList_map]
    simp [execOp, ho, resolve, e, Deferred.ofValue, invoke, Instr.yield, Instr.getLoop, getObj, Sem.run, hl, bind, Sem.bind, pure, hsz]
    have hmin : min l.params.size args.size = l.params.size := by rw [l3, hps]; simp
    simpa [hmin] using hz
  rw [hrun]
  refine ⟨fun h => hF.depth h, ?_⟩
  have hFr : ∀ {F' : Fence}, FOk g rd F' → F'.inRound b = Fence.wide.inRound b := by
    intro F' hF'
    cases rd with
    | none => rw [show F' = Fence.wide from hF']
    | some i => obtain ⟨c, _, e⟩ := hF'; rw [e]; rfl
  have hR : ∀ R, RoundIn Fence.wide 0 P b l.fn ((ls.params.toList.zip (args.toList.map a.eval)).foldl (fun tmps (p : Tmp × Value) => tmps.setIfInBounds p.1 p.2) l.tmps) l.assign l.body w R → RoundIn F (0 - 1) P b l.fn ((ls.params.toList.zip (args.toList.map a.eval)).foldl (fun tmps (p : Tmp × Value) => tmps.setIfInBounds p.1 p.2) l.tmps) l.assign l.body w R := by
    intro R hR
    cases rd with
    | none => rw [show F = Fence.wide from hF]; exact hR
    | some i => obtain ⟨c, _, e⟩ := hF; rw [e]; exact hR
  refine hR _ (roundIn_of_wpIn trivial ?_)
  have hFb : FOkN σ.length g (some id) (Fence.wide.inRound b) := ⟨hidlt, b, hb, rfl⟩
  have hne : EnvRd g w (bindPs ls.params.toList xs ls.env) ((ls.params.toList.zip (args.toList.map a.eval)).foldl (fun tmps (p : Tmp × Value) => tmps.setIfInBounds p.1 p.2) l.tmps) :=
    bindPs_rd k3 (fun t ht => by rw [List.all_eq_true] at hpb; have := hpb t ht; rw [l6]; simpa using this) l7
  rw [l4]
  refine wpIn_mono (h g w { tmps := _, defers := [] } _ w.heap.size hFb hr hne (by rw [foldl_size]; exact l6) (Marks.nil w)) ?_
  rintro e1 a1 w1 ⟨env1, σ1, g1, ⟨rfl, p1, hσ1, hbody⟩, hr1, he1, hl1, hn1, hm1⟩
  obtain ⟨b1, lo1, hb1, hlo1, m1, m2, m3, m4, m5, m6, m7⟩ := hr1.loop_at hσ1
  have hbb : b1 = b := by
    have := hl1.bk _ _ hidlt hb
    rw [hb1] at this
    injection this
  subst hbb
  obtain ⟨hr2, hle2⟩ := hr1.loop_set hσ1 hb1 hlo1 .busy p1
  have e2 : ({ lo1 with state := LoopState.busy, pending := p1 } : Loop) = { lo1 with state := .busy } := by rw [← m2]
  rw [e2] at hr2 hle2
  refine ⟨_, run_beginRound hlo1 m1, ?_⟩
  rw [l5]
  refine wpIn_mono (hbody g1 _ a1 _ w.heap.size (hFb.mono hl1) hr2 (he1.mono hle2) hn1 (hm1.mono hle2)) ?_
  rintro e3 a3 w3 ⟨env3, σ3, g3, ⟨σ', junk, p3, ls3, hσ3, hN, hcl, hlo, hK⟩, hr3, he3, hl3, hn3, hm3⟩
  subst hσ3
  have hr4 : ∃ g4, Rel g4 σ' w3 ∧ LeN σ.length g3 w3 g4 w3 := by
    rcases hcl with rfl | hcl
    · exact ⟨g3, by simpa using hr3, .refl _ _ _⟩
    · refine ⟨g3.cut σ'.length, hr3.cut' hcl, ⟨rfl, rfl, fun _ _ h => ⟨h, rfl⟩, fun i c hi hc => ?_, fun t k v ht hv => ?_, Nat.le_refl _, fun _ _ h => h⟩⟩
      · simp only [Gh.cut]; rw [if_pos (by omega)]; exact hc
      · simp only [Gh.cut]; rw [if_pos (by omega)]; exact hv
  obtain ⟨g4, hr4, hl4⟩ := hr4
  obtain ⟨b5, lo5, hb5, hlo5, q1, q2, q3, q4, q5, q6, q7⟩ := hr4.loop_at hlo
  have hall : LeN σ.length g w g4 w3 := hl1.trans ((hle2.toN _).trans (hl3.trans hl4))
  have hbb : b5 = b1 := by
    have := hall.bk _ _ hidlt hb
    rw [hb5] at this
    injection this
  subst hbb
  have fin : ∀ (j : Option Code) (bo : Bool), bo = j.isNone → K (.bool bo) (σ'.set id (.loop (if j.isNone then .ready else .done) j ls3)) → ∃ v w', (Instr.endRound b5 j).run P w3 = .ok v w' ∧
      ((fun (x : Ending) w'' => match x, w'' with
        | .returned v, w'' => ∃ v1, a.put o.dst v = a.put o.dst v1 ∧ Gets g w K v1 w''
        | .panicked chain, w'' => False
        | .outgrown, _ => LetsOut (fun _ _ _ => False)) (.returned v) w') := by
    intro j bo hbo hK
    refine ⟨_, _, run_endRound hlo5 j, ?_⟩
    obtain ⟨hr6, hle6⟩ := hr4.loop_set hlo hb5 hlo5 (if j.isNone then .ready else .done) j
    subst hbo
    exact ⟨_, rfl, _, _, g4, hK, hr6, .bool _, (hall.trans (hle6.toN _)).le hr.bkn hr.lgn⟩
  cases e3 with
  | normal => exact fin none true rfl hK
  | ret => exact fin (some .ret) false rfl hK
  | exit x => exact fin (some (.exit x)) false rfl hK
  | goto t => exact hK.elim
  | panic c => exact hK.elim
  | outgrown => exact hK.elim
def RangeQ (id : Nat) (ls : LS) (env : Env) (Q : Exit → Env → MS → Prop) (σ' : MS) : Prop :=
 ∃ s p, σ'[id]? = some (.loop s p ls) ∧ s ≠ .busy ∧
  match p with
  | none => Q .normal env (σ'.set id .gone)
  | some .ret => Q .ret env (σ'.set id .gone)
  | some (.exit x) => Q (.exit x) env (σ'.set id .gone)
  | _ => False
theorem set_set_gone (σ : MS) (id : Nat) (o : MObj) : (σ.set id o).set id .gone = σ.set id .gone := by simp
theorem run_endLoop {w : World} {b : Nat} {l : Loop} (h : w.heap[b]? = some (Obj.loop l)) (hs : l.state ≠ .busy) : (Instr.endLoop b).run P w = .ok l.pending { w with heap := w.heap.setIfInBounds b (Obj.loop { l with state := .exhausted }) } := by
 have hb : (l.state == LoopState.busy) = false := by
  cases hh : l.state <;> first | rfl | exact absurd hh hs
 simp [Instr.endLoop, Instr.getLoop, getObj, setObj, Sem.run, h, hb, bind, Sem.bind, pure]
 intro hh
 exact absurd hh hs
theorem mwp_range {f : Operand} {ps : Array Tmp} {assign body : Code} {k : FuncId} {first caps : List MV} (hf : evo env f = some (.fn (.func k) first caps)) (hb : CallOk P k) (hrd : ∀ id, rd = some id → ∃ s p ls, σ[id]? = some (.loop s p ls)) (hN : N ≤ σ.length)
  (h : MCalls P k (first ++ [.yld σ.length] ++ caps) (σ ++ [.loop .ready none ⟨ps, assign, body, env, n⟩]) (fun _ σ' => RangeQ σ.length ⟨ps, assign, body, env, n⟩ env Q σ')) : mwp P rd N n (.rangeFunc f ps assign body) Q env σ := by
 intro g w a F m0 hF hr he hn hm
 refine wpIn_rangeFunc fun fn hfn => ?_
 have hrec : ∃ (mark : List Deferred) (w1 : World) (gd : Gh), (Instr.enterLoop fn a.tmps ps assign body F.round).run P w = .ok (w1.heap.size, mark) (w1.alloc (Obj.loop { state := .ready, pending := none, fn := fn, tmps := a.tmps, params := ps, assign := assign, body := body, defers := (match F.round with | none => w.heap.size | some b => (match w.heap[b]? with | some (Obj.loop l) => l.defers | _ => 0)) })) ∧
   Rel gd σ w1 ∧ Le g w gd w1 ∧ Marks m0 (w1.alloc (Obj.loop { state := .ready, pending := none, fn := fn, tmps := a.tmps, params := ps, assign := assign, body := body, defers := (match F.round with | none => w.heap.size | some b => (match w.heap[b]? with | some (Obj.loop l) => l.defers | _ => 0)) })) (mark ++ a.defers) := by
  cases hro : F.round with
  | none =>
   have hl := Le.alloc_stab hr (Obj.deferred (some [])) 0
   refine ⟨[{ target := .collected w.heap.size, args := #[] }], w.alloc (Obj.deferred (some [])), _, ?_, hr.alloc_stab (Obj.deferred (some [])) 0, hl, ?_⟩
   ·simp [Instr.enterLoop]
   ·have hl2 := hl.trans (Le.alloc_stab (hr.alloc_stab (Obj.deferred (some [])) 0) (Obj.loop { state := .ready, pending := none, fn := fn, tmps := a.tmps, params := ps, assign := assign, body := body, defers := w.heap.size }) 0)
    have hm' := hm.mono hl2
    refine ⟨hm'.1, fun d hd => ?_, ?_⟩
    ·rcases List.mem_cons.1 hd with rfl | hd
     ·refine ⟨w.heap.size, hm.1, rfl, ?_⟩
      rw [Below.heap_alloc _ _ _ (by simp)]
      exact heap_new w _
     ·exact hm'.2.1 d hd
    ·refine zI5.2 ⟨fun d hd r s hr hs => ?_, hm'.2.2⟩
     obtain ⟨q, _, rfl, hq⟩ := hm.2.1 d hd
     injection hr with hr
     injection hs with hs
     subst hr hs
     have := (Array.getElem?_eq_some_iff.1 hq).1
     omega
  | some b =>
   obtain ⟨id, hid⟩ : ∃ id, rd = some id := by
    cases rd with
    | none => rw [show F = Fence.wide from hF] at hro; cases hro
    | some id => exact ⟨id, rfl⟩
   subst hid
   obtain ⟨s, p, ls, hσ⟩ := hrd id rfl
   obtain ⟨hidN, b', hb', hFb⟩ := hF
   obtain ⟨b2, l, hb2, hl, _⟩ := hr.loop_at hσ
   rw [hb'] at hb2
   injection hb2 with hb2
   subst hb2
   have hbb : b' = b := by
    rw [hFb] at hro
    injection hro
   subst hbb
   refine ⟨[], w, g, ?_, hr, .refl _ _, ?_⟩
   ·have hgl : (Instr.getLoop b').run P w = .ok l w := by simp [Instr.getLoop, getObj, Sem.run, hl, bind, Sem.bind, pure]
    simp [Instr.enterLoop, hgl, hl]
   ·exact hm.mono (Le.alloc_stab hr _ 0)
 obtain ⟨mark, w1, gd, hent, hrd1, hle1, hmark⟩ := hrec
 generalize hL : ({ state := .ready, pending := none, fn := fn, tmps := a.tmps, params := ps, assign := assign, body := body, defers := (match F.round with | none => w.heap.size | some b => (match w.heap[b]? with | some (Obj.loop l) => l.defers | _ => 0)) } : Loop) = lo at hent hmark
 have f1 : lo.state = .ready := by rw [← hL]
 have f2 : lo.pending = none := by rw [← hL]
 have f3 : lo.params = ps := by rw [← hL]
 have f4 : lo.assign = assign := by rw [← hL]
 have f5 : lo.body = body := by rw [← hL]
 have f6 : lo.tmps = a.tmps := by rw [← hL]
 clear hL
 obtain ⟨g2, hr2, hle2, hb2⟩ := hrd1.alloc_gen (Obj.loop lo) (.loop .ready none ⟨ps, assign, body, env, n⟩) (fun g' hl' hb' hs' => by
  refine ⟨w1.heap.size, lo, rfl, hb', heap_new w1 _, f1, f2, f3, f4, f5, by rw [f6]; exact hn, ?_⟩
  rw [f6]
  exact (he.mono hle1).mono hl')
 have hfv := evo_rd ((he.mono hle1).mono hle2) hf
 obtain ⟨us, vs, e, k1, k2⟩ := hfv.inv_fn
 have hlall := hle1.trans hle2
 have hc := h g2 (w1.alloc (Obj.loop lo)) (us ++ [Value.func (Fn.yield w1.heap.size) #[] #[]] ++ vs) hr2 ((k1.append (.cons (.yld _ _ hb2) (.nil _ _))).append k2)
 have hcF := hF.ok.calls (m := 0 - 1) hc
 refine ⟨w1.heap.size, mark, w1.alloc (Obj.loop lo), { target := .fn (.func k) vs.toArray, args := us.toArray ++ #[Value.func (Fn.yield w1.heap.size) #[] #[]] }, w1.alloc (Obj.loop lo), k, (us ++ [Value.func (Fn.yield w1.heap.size) #[] #[]] ++ vs).toArray, w1.alloc (Obj.loop lo), hent, ?_, fun f' _ => hF.ok.fn f', ?_, fun h => hF.ok.depth h, hcF.mono ?_⟩
 ·have e0 : (a.eval f) = .func (.func k) us.toArray vs.toArray := e
  have e1 : a.eval (.const (Value.func (Fn.yield w1.heap.size) #[] #[])) = Value.func (Fn.yield w1.heap.size) #[] #[] := rfl
  simp [resolve, rangeCall, e0, e1, Deferred.ofValue]
 ·simp [invoke, hb.run]
 ·rintro e3 w3 ⟨v, rfl, x, σ3, g3, ⟨s, p, hσ3, hsb, hp⟩, hr3, hv3, hl3⟩
  obtain ⟨b4, l4, hb4, hlo4, q1, q2, q3⟩ := hr3.loop_at hσ3
  have hbb : b4 = w1.heap.size := by
   have := hl3.bk _ _ hb2
   rw [hb4] at this
   injection this
  subst hbb
  obtain ⟨hr5, hl5⟩ := hr3.loop_set hσ3 hb4 hlo4 .exhausted p
  have e5 : ({ l4 with state := LoopState.exhausted, pending := p } : Loop) = { l4 with state := .exhausted } := by rw [← q2]
  rw [e5] at hr5 hl5
  have hr6 := hr5.gone σ.length
  rw [set_set_gone] at hr6
  have hlfin := hlall.trans (hl3.trans hl5)
  have hmk : Marks m0 _ (mark ++ a.defers) := (hmark.mono hl3).mono hl5
  refine ⟨l4.pending, _, run_endLoop hlo4 (by rw [q1]; exact hsb), ?_⟩
  generalize hw5 : ({ w3 with heap := w3.heap.setIfInBounds w1.heap.size (Obj.loop { l4 with state := .exhausted }) } : World) = w5 at hr6 hlfin hmk ⊢
  rw [q2]
  have fin : ∀ ex, Q ex env (σ3.set σ.length .gone) → Left_ N g w n m0 Q ex { a with defers := mark ++ a.defers } w5 := fun ex hq => ⟨env, _, g3, hq, hr6, he.mono hlfin, hlfin.toN N, hn, hmk⟩
  cases p with
  | none => exact fin .normal hp
  | some c =>
   cases c with
   | ret => exact wpIn_ret (fin .ret hp)
   | exit x => exact wpIn_exit (fin (.exit x) hp)
   | _ => exact hp.elim
end
end
section
section
variable {P : Program} {fn : Func} {S L : MS} {R : MV → MS → Prop} {env : Env}
theorem mcalls_body {f : FuncId} {c : Code} {args : List MV} {n : Nat} (hf : P.funcs[f]? = some fn) (hb : fn.body = some c) (hn : fn.ntmps = n) (ha : args.length ≤ n)
  (h : mwp P none S.length n c (BodyQ P fn S R) (argEnv 0 args) (S ++ [])) : MCalls P f args S R := by
 refine mcalls_of_body hf hb hn ha ?_
 rw [List.append_nil] at h
 exact h
theorem _root_.zR : type_of% @mcalls_body := @mcalls_body
theorem ret_tmp {e : Exit} {t : Nat} {x y : MV} (he : e = .normal ∨ e = .ret) (hres : fn.results = #[.tmp t]) (hx : get env t = some x) (hs : Sub x y) (hc : Cl S.length y) (hR : R y S) : BodyQ P fn S R e env (S ++ L) := by
 refine ⟨he, [x], y, S, L, ?_, hs, hc, rfl, Nat.le_refl _, .inl rfl, hR⟩
 rw [hres]
 exact .tmp hx .nil
theorem _root_.zT : type_of% @ret_tmp := @ret_tmp
theorem ret_tmp2 {e : Exit} {t t' : Nat} {x y x' y' : MV} (he : e = .normal ∨ e = .ret) (hres : fn.results = #[.tmp t, .tmp t']) (hx : get env t = some x) (hx' : get env t' = some x') (hs : Sub x y) (hs' : Sub x' y') (hc : Cl S.length y) (hc' : Cl S.length y') (hR : R (.tup [y, y']) S) : BodyQ P fn S R e env (S ++ L) := by
 refine ⟨he, [x, x'], .tup [y, y'], S, L, ?_, .tup (.cons hs (.cons hs' .nil)), .tup _ (fun z hz => ?_), rfl, Nat.le_refl _, .inl rfl, hR⟩
 ·rw [hres]
  exact .tmp hx (.tmp hx' .nil)
 ·simp at hz
  rcases hz with rfl | rfl
  ·exact hc
  ·exact hc'
theorem ret_cell {e : Exit} {a t k off : Nat} {l : List MV} {ta : Option Nat} {x y : MV} (he : e = .normal ∨ e = .ret) (hres : fn.results = #[.cell a t]) (ha : get env a = some (.ref (S.length + k) off)) (hl : L[k]? = some (.cells l)) (ht : tyAgg P t = some ta) (hm : loadMV ta l off = some x) (hs : Sub x y) (hc : Cl S.length y) (hR : R y S) : BodyQ P fn S R e env (S ++ L) := by
 refine ⟨he, [x], y, S, L, ?_, hs, hc, rfl, Nat.le_refl _, .inl rfl, hR⟩
 rw [hres]
 exact .cell ha (by rw [getElem?_own]; exact hl) ht hm .nil
theorem _root_.zF3 : type_of% @ret_cell := @ret_cell
theorem Sub.of_eq {x y : MV} (h : x = y) : Sub x y := h ▸ .refl x
theorem wrap_i64 {n : Int} (h : -9223372036854775808 ≤ n ∧ n ≤ 9223372036854775807) : IntKind.i64.wrap n = n := by
 rw [IntKind.wrap_i64]; omega
end
theorem int_succ {i n : Nat} (h : i < n) (hn : n ≤ maxLen) : MV.int .i64 (IntKind.i64.wrap ((i : Int) + 1)) = .int .i64 ((i + 1 : Nat) : Int) := by
 rw [wrap_i64 (by simp only [maxLen] at hn; omega)]
 rfl
theorem _root_.zH2 : type_of% @int_succ := @int_succ
section
variable {P : Program} {rd : Option Nat} {N n : Nat} {Q : Exit → Env → MS → Prop} {env : Env} {σ : MS} {c : Code}
theorem mwp_len {t : Nat} {tok : Option Nat} {sz : Nat} {xs : List MV} (ht : get env t = some (.lst tok sz xs)) (h : xs.length ≤ maxLen → mwp P rd N n c Q env σ) : mwp P rd N n c Q env σ := by
 intro g w a F m0 hF hr he hn hm
 obtain ⟨v, _, hv⟩ := he t _ ht
 obtain ⟨_, _, _, _, h1, h2, _⟩ := hv.inv_lst
 exact h (by omega) g w a F m0 hF hr he hn hm
theorem _root_.zZ3 : type_of% @mwp_len := @mwp_len
end
section
variable {P : Program} {rd : Option Nat} {N n : Nat} {Q : Exit → Env → MS → Prop} {env : Env} {S L : MS} {c : Code}
end
inductive Sch where
 | mk (kind : Int) (ins : List Sch)
 deriving Inhabited
mutual
def encS : Sch → MV
 | .mk k ins => .agg [.int .i64 k, .lst none 2 (encSs ins)]
def encSs : List Sch → List MV
 | [] => []
 | s :: l => encS s :: encSs l
end
theorem encSs_eq : ∀ l : List Sch, encSs l = l.map encS
 | [] => by simp [encSs]
 | s :: l => by simp [encSs, encSs_eq l]
theorem _root_.zF : type_of% @List.length_map := @List.length_map
theorem encSs_length (l : List Sch) : (encSs l).length = l.length := by rw [encSs_eq, zF]
theorem _root_.zA3 : type_of% @encSs_length := @encSs_length
theorem _root_.zI0 : type_of% @List.getElem?_map := @List.getElem?_map
theorem encSs_get {l : List Sch} {i : Nat} {s : Sch} (h : l[i]? = some s) : (encSs l)[i]? = some (encS s) := by rw [encSs_eq, zI0, h]; rfl
mutual
theorem cl_encS (n : Nat) : ∀ s : Sch, Cl n (encS s)
 | .mk k ins => by
  refine .agg _ fun x hx => ?_
  simp only [encS, List.mem_cons, List.not_mem_nil, or_false] at hx
  rcases hx with rfl | rfl
  ·exact .int _ _
  ·exact .lst none 2 _ (fun t ht => by cases ht) (cl_encSs n ins)
theorem cl_encSs (n : Nat) : ∀ (l : List Sch), ∀ x ∈ flat (encSs l), Cl n x
 | [], x, hx => by simp [encSs, flat] at hx
 | s :: l, x, hx => by
  rw [encSs, zZ4, zQ2] at hx
  rcases hx with hx | hx
  ·have h := cl_encS n s
   cases s with
   | mk k ins =>
    cases h with
    | agg _ h => exact h x hx
  ·exact cl_encSs n l x hx
end
theorem cl_encSl (n : Nat) (l : List Sch) : Cl n (.lst none 2 (encSs l)) := .lst none 2 _ (fun t ht => by cases ht) (cl_encSs n l)
end
section
section
variable {P : Program} {rd : Option Nat} {o : Oper} {env : Env} {σ : MS} {K : MV → MS → Prop}
theorem op_rem {t t' : TypeId} {x y : Operand} {k : IntKind} {m n r : Int} (ho : o.op = .binOp .rem t x y t') (hx : evo env x = some (.int k m)) (hy : evo env y = some (.int k n)) (hn : n ≠ 0) (hr : m.tmod n = r) (h : K (.int k r) σ) : OpWp P rd o env σ K := by
 refine op_bin ho hx hy (fun _ _ _ h => h.inv_int) (fun _ _ _ h => h.inv_int) (vz := .int k r) (fun w => ?_) V h
 subst hr
 simp [eqGuard, binOp, Op.intDiv, hn]
theorem op_quo {t t' : TypeId} {x y : Operand} {k : IntKind} {m n r : Int} (ho : o.op = .binOp .quo t x y t') (hx : evo env x = some (.int k m)) (hy : evo env y = some (.int k n)) (hn : n ≠ 0) (hr : k.wrap (m.tdiv n) = r) (h : K (.int k r) σ) : OpWp P rd o env σ K := by
 refine op_bin ho hx hy (fun _ _ _ h => h.inv_int) (fun _ _ _ h => h.inv_int) (vz := .int k r) (fun w => ?_) V h
 subst hr
 simp [eqGuard, binOp, Op.intDiv, hn]
def bitsI : BinOp → IntKind → Int → Int → Option Int
 | .and, k, m, n => some (k.wrap (BitVec.ofInt k.bits m &&& BitVec.ofInt k.bits n).toNat)
 | .or, k, m, n => some (k.wrap (BitVec.ofInt k.bits m ||| BitVec.ofInt k.bits n).toNat)
 | .xor, k, m, n => some (k.wrap (BitVec.ofInt k.bits m ^^^ BitVec.ofInt k.bits n).toNat)
 | .andNot, k, m, n => some (k.wrap (BitVec.ofInt k.bits m &&& ~~~BitVec.ofInt k.bits n).toNat)
 | _, _, _, _ => none
theorem op_bits {b : BinOp} {t t' : TypeId} {x y : Operand} {k : IntKind} {m n r : Int} (ho : o.op = .binOp b t x y t') (hx : evo env x = some (.int k m)) (hy : evo env y = some (.int k n)) (hr : bitsI b k m n = some r) (h : K (.int k r) σ) : OpWp P rd o env σ K := by
 refine op_bin ho hx hy (fun _ _ _ h => h.inv_int) (fun _ _ _ h => h.inv_int) (vz := .int k r) (fun w => ?_) V h
 cases b <;> simp only [bitsI, Option.some.injEq] at hr <;> first | (cases hr; done) | (subst hr; simp [eqGuard, binOp, Op.intBits]; done)
theorem op_shr {t t' : TypeId} {x y : Operand} {k k' : IntKind} {m n r : Int} (ho : o.op = .binOp .shr t x y t') (hx : evo env x = some (.int k m)) (hy : evo env y = some (.int k' n)) (hn : 0 ≤ n) (hr : m.fdiv (2 ^ min n.toNat k.bits) = r) (h : K (.int k r) σ) : OpWp P rd o env σ K := by
 refine op_bin ho hx hy (fun _ _ _ h => h.inv_int) (fun _ _ _ h => h.inv_int) (vz := .int k r) (fun w => ?_) V h
 subst hr
 have : ¬ n < 0 := by omega
 simp [eqGuard, binOp, Op.shift, this]
theorem op_strcat {t t' : TypeId} {x y : Operand} {s u : Bs} (ho : o.op = .binOp .add t x y t') (hx : evo env x = some (.str (bs s))) (hy : evo env y = some (.str (bs u))) (hl : s.length + u.length ≤ 9223372036854775807) (h : K (.str (bs (s ++ u))) σ) : OpWp P rd o env σ K := by
 have e : bs s ++ bs u = bs (s ++ u) := by
  apply ByteArray.ext
  simp [bs]
 refine op_bin ho hx hy (fun _ _ _ h => h.inv_str) (fun _ _ _ h => h.inv_str) (vz := .string (bs (s ++ u))) (fun w => ?_) V h
 have hs : ¬ (((bs s).size + (bs u).size : Nat) : Int) > IntKind.i64.max := by
  rw [bs_size, bs_size]
  show ¬ ((_ : Nat) : Int) > 9223372036854775807
  omega
 simp only [eqGuard, binOp, Op.stringOp, if_neg hs, e]
 rfl
theorem op_convInt {t t' : TypeId} {x : Operand} {k k' : IntKind} {n r : Int} {d : TypeDesc} (ho : o.op = .convert t t' x) (hs : P.underlying t = some d) (ht : P.underlying t' = some (.int k)) (hx : evo env x = some (.int k' n)) (hr : k.wrap n = r) (h : K (.int k r) σ) : OpWp P rd o env σ K := by
 subst hr
 refine OpWp.of_run (by simp [ho]) fun g w a hr hop => ⟨.int k (k.wrap n), w, ?_, .same h hr (.int _ _)⟩
 have hv := (hop x (by simp [ho, Op.operands]) _ hx).inv_int
 simp [execOp, ho, convert, run_underlying hs, run_underlying ht, hv, Conv.intToInt]
theorem _root_.zL3 : type_of% @op_convInt := @op_convInt
theorem op_index_str {t : TypeId} {x y : Operand} {k : IntKind} {n : Int} {i : Nat} {l : Bs} {b : UInt8} (ho : o.op = .index t x y) (hu : P.underlying t = some .string) (hx : evo env x = some (.str (bs l))) (hy : evo env y = some (.int k n)) (hn : n = (i : Int)) (hm : l[i]? = some b) (h : K (.int .u8 (b.toNat : Int)) σ) : OpWp P rd o env σ K := by
 subst hn
 refine OpWp.of_run (by simp [ho]) fun g w a hr hop => ⟨.int .u8 (b.toNat : Int), w, ?_, .same h hr (.int _ _)⟩
 have hv := (hop x (by simp [ho, Op.operands]) _ hx).inv_str
 have hv2 := (hop y (by simp [ho, Op.operands]) _ hy).inv_int
 have e : (bs l)[i]? = some b := by
  have hlt : i < l.length := (zD.1 hm).1
  have hlt' : i < (bs l).size := by rw [bs_size]; exact hlt
  rw [getElem?_pos (bs l) i hlt']
  rw [zC hlt] at hm
  injection hm with hm
  rw [← hm]
  rfl
 have e1 : (if (0 : Int) ≤ (i : Int) then (bs l)[((i : Int)).toNat]? else none) = some b := by
  rw [if_pos (by omega)]
  simpa using e
 simp only [execOp, ho, Instr.index, Sem.run_bind, hv, hv2, asIntOf, Sem.run_pure, Result.andThen_ok, run_underlying hu, e1]
theorem _root_.zJ5 : type_of% @op_index_str := @op_index_str
theorem op_slice_str {t : TypeId} {x : Operand} {lo hi : Option Operand} {l : Bs} {i j : Nat} (ho : o.op = .slice t x lo hi none) (hu : P.underlying t = some .string) (hx : evo env x = some (.str (bs l)))
  (hlo : OptInt env 0 lo i) (hhi : OptInt env l.length hi j) (hij : i ≤ j) (hj : j ≤ l.length) (h : K (.str (bs ((l.drop i).take (j - i)))) σ) : OpWp P rd o env σ K := by
 refine OpWp.of_run (by simp [ho]) fun g w a hr hop => ?_
 refine ⟨_, w, ?_, .same h hr (.str _)⟩
 have hv := (hop x (by simp [ho, Op.operands]) _ hx).inv_str
 have e1 : ∀ (x' : Operand) (k : IntKind) (n : Int), lo = some x' → evo env x' = some (.int k n) → a.eval x' = .int k n := fun x' k n e he => (hop x' (by simp [ho, Op.operands, e]) _ he).inv_int
 have e2 : ∀ (x' : Operand) (k : IntKind) (n : Int), hi = some x' → evo env x' = some (.int k n) → a.eval x' = .int k n := fun x' k n e he => (hop x' (by simp [ho, Op.operands, e]) _ he).inv_int
 have e : (bs l).extract i j = bs ((l.drop i).take (j - i)) := by
  apply ByteArray.ext
  simp [bs, ByteArray.data_extract, List.extract_toArray, List.extract_eq_take_drop]
 have hsz := bs_size l
 cases hlo with
 | none =>
  cases hhi with
  | none => simp [execOp, ho, Instr.sliceAt, Instr.slice, run_underlying hu, hv, Instr.sliceBounds, hsz, e]
  | some he en =>
   subst en
   simp [execOp, ho, Instr.sliceAt, Instr.slice, run_underlying hu, hv, Instr.sliceBounds, Instr.sliceBound, asIntOf, e2 _ _ _ rfl he, hsz, hj, e]
 | some he en =>
  subst en
  cases hhi with
  | none => simp [execOp, ho, Instr.sliceAt, Instr.slice, run_underlying hu, hv, Instr.sliceBounds, Instr.sliceBound, asIntOf, e1 _ _ _ rfl he, hsz, hij, e]
  | some he' en' =>
   subst en'
   simp [execOp, ho, Instr.sliceAt, Instr.slice, run_underlying hu, hv, Instr.sliceBounds, Instr.sliceBound, asIntOf, e1 _ _ _ rfl he, e2 _ _ _ rfl he', hsz, hij, hj, e]
theorem op_ptr0 {b : BinOp} {r : Bool} {t e t' : TypeId} {x y : Operand} (ho : o.op = .binOp b t x y t') (hu : P.underlying t = some (.pointer e)) (hx : evo env x = some .ptr0) (hy : evo env y = some .ptr0) (hb : b = .eql ∧ r = true ∨ b = .neq ∧ r = false) (h : K (.bool r) σ) : OpWp P rd o env σ K := by
 refine op_bin ho hx hy (fun _ _ _ h => h.inv_ptr0) (fun _ _ _ h => h.inv_ptr0) (vz := .bool r) (fun w => ?_) V h
 have h9 : ∀ d : Nat, (Op.equalIn (d + 1) t (.pointer none) (.pointer none)).run P w = .ok true w := fun d => by simp [Op.equalIn, run_underlying hu]
 rcases hb with ⟨rfl, rfl⟩ | ⟨rfl, rfl⟩ <;> (simp only [eqGuard, binOp]; simp [Op.equal, Op.maxDepth, h9 9999])
def MV.isPtr : MV → Bool
 | .ref _ _ | .sptr _ | .orf _ _ _ => true
 | _ => false
theorem ptr_some {g : Gh} {w : World} {m : MV} {v : Value} (h : Rd g w m v) (hm : m.isPtr = true) : ∃ a, v = .pointer (some a) := by
 cases h <;> first | (cases hm; done) | exact ⟨_, rfl⟩
theorem op_ptrnil {b : BinOp} {r : Bool} {t e t' : TypeId} {x y : Operand} {m : MV} (ho : o.op = .binOp b t x y t') (hu : P.underlying t = some (.pointer e)) (hx : evo env x = some m) (hm : m.isPtr = true) (hy : evo env y = some .ptr0) (hb : b = .eql ∧ r = false ∨ b = .neq ∧ r = true) (h : K (.bool r) σ) : OpWp P rd o env σ K := by
 refine OpWp.of_run (by rcases hb with ⟨rfl, rfl⟩ | Vv <;> simp [ho]) fun g w a hr hop => ?_
 obtain ⟨ad, e1⟩ := ptr_some (hop x (by simp [ho, Op.operands]) _ hx) hm
 have e2 := (hop y (by simp [ho, Op.operands]) _ hy).inv_ptr0
 refine ⟨.bool r, w, ?_, .same h hr (.bool _)⟩
 have h9 : ∀ d : Nat, (Op.equalIn (d + 1) t (.pointer (some ad)) (.pointer none)).run P w = .ok false w := fun d => by simp [Op.equalIn, run_underlying hu]
 rcases hb with ⟨rfl, rfl⟩ | ⟨rfl, rfl⟩ <;> (simp only [execOp, ho, e1, e2, Sem.run_bind, Sem.run_pure]; simp [eqGuard, binOp, Op.equal, Op.maxDepth, h9 9999])
theorem op_if0 {b : BinOp} {r : Bool} {t t' : TypeId} {x : Operand} {c : Value} {ms : Array (String × TypeId)} (ho : o.op = .binOp b t x (.const c) t') (hu : P.underlying t = some (.interface ms)) (hx : evo env x = some .iface0) (hy : evo env (.const c) = some .iface0) (hb : b = .eql ∧ r = true ∨ b = .neq ∧ r = false) (h : K (.bool r) σ) : OpWp P rd o env σ K := by
 refine op_bin ho hx hy (fun _ _ _ h => h.inv_iface0) (fun _ _ _ h => h.inv_iface0) (vz := .bool r) (fun w => ?_) V h
 have h9 : ∀ d : Nat, (Op.equalIn (d + 1) t .nilIface .nilIface).run P w = .ok true w := fun d => by simp [Op.equalIn, run_underlying hu]
 rcases hb with ⟨rfl, rfl⟩ | ⟨rfl, rfl⟩ <;> (simp only [eqGuard, binOp]; simp [Op.equal, Op.maxDepth, h9 9999])
theorem _root_.zV3 : type_of% @op_if0 := @op_if0
theorem op_ifnil {b : BinOp} {r : Bool} {t e t' : TypeId} {x y : Operand} {m : MV} {ms : Array (String × TypeId)} (ho : o.op = .binOp b t x y t') (hu : P.underlying t = some (.interface ms)) (hx : evo env x = some (.iface e m)) (hy : evo env y = some .iface0) (hb : b = .eql ∧ r = false ∨ b = .neq ∧ r = true) (h : K (.bool r) σ) : OpWp P rd o env σ K := by
 refine OpWp.of_run (by rcases hb with ⟨rfl, rfl⟩ | Vv <;> simp [ho]) fun g w a hr hop => ?_
 obtain ⟨u, e1, _⟩ := (hop x (by simp [ho, Op.operands]) _ hx).inv_iface
 have e2 := (hop y (by simp [ho, Op.operands]) _ hy).inv_iface0
 refine ⟨.bool r, w, ?_, .same h hr (.bool _)⟩
 have h9 : ∀ d : Nat, (Op.equalIn (d + 1) t (.iface e u) .nilIface).run P w = .ok false w := fun d => by simp [Op.equalIn, run_underlying hu]
 rcases hb with ⟨rfl, rfl⟩ | ⟨rfl, rfl⟩ <;> (simp only [execOp, ho, e1, e2, Sem.run_bind, Sem.run_pure]; simp [eqGuard, binOp, Op.equal, Op.maxDepth, h9 9999])
theorem _root_.zS2 : type_of% @op_ifnil := @op_ifnil
theorem nat_tmod (a b : Nat) : Int.tmod (a : Int) (b : Int) = ((a % b : Nat) : Int) := rfl
theorem wrap_u64 {n : Int} (h : 0 ≤ n ∧ n < 18446744073709551616) : IntKind.u64.wrap n = n := by
 simp [IntKind.wrap, IntKind.signed, IntKind.bits]
 omega
theorem _root_.zK5 : type_of% @wrap_u64 := @wrap_u64
theorem wrap_u8 {n : Int} (h : 0 ≤ n ∧ n < 256) : IntKind.u8.wrap n = n := by
 simp [IntKind.wrap, IntKind.signed, IntKind.bits]
 omega
theorem wadd {a b c : Nat} (h : a + b = c) (hc : c < 9223372036854775808) : intArith .add .i64 (a : Int) (b : Int) = some (c : Int) := by
 simp only [intArith]
 rw [wrap_i64 (by omega)]
 congr 1
 omega
theorem wsub {a b c : Nat} (h : b + c = a) (hc : a < 9223372036854775808) : intArith .sub .i64 (a : Int) (b : Int) = some (c : Int) := by
 simp only [intArith]
 rw [wrap_i64 (by omega)]
 congr 1
 omega
end
end
def eqOne : TypeDesc → MV → MV → Option Bool
 | .int _, .int k a, .int k' b => if k = k' then some (a == b) else none
 | .bool, .bool a, .bool b => some (a == b)
 | .string, .str a, .str b => some (strL a == strL b)
 | _, _, _ => none
def eqFs (P : Program) (l l' : List MV) : List Field → Option Bool
 | [] => some true
 | f :: fs => match P.underlying f.type, l[f.offset]?, l'[f.offset]? with
  | some d, some x, some y => match eqOne d x y, eqFs P l l' fs with
   | some a, some b => some (a && b)
   | _, _ => none
  | _, _, _ => none
def flatStruct (P : Program) (t : TypeId) : Bool := match P.underlying t with
 | some (.struct fs) => !P.stoodInHeld t && !P.eqGuardType P.depth t && fs.toList.all (fun f => f.name != "_" && match P.underlying f.type with | some (.int _) | some .bool | some .string => true | _ => false)
 | _ => false
theorem eqOne_run {P : Program} {g : Gh} {w w' : World} {t : TypeId} {d : TypeDesc} (hu : P.underlying t = some d) {x y : MV} {u v : Value} {r : Bool} (h : eqOne d x y = some r) (hx : Rd g w x u) (hy : Rd g w y v) (n : Nat) : (Op.equalIn (n + 1) t u v).run P w' = .ok r w' := by
 unfold eqOne at h
 split at h
 ·rw [hx.inv_int, hy.inv_int]
  split at h
  ·rename_i k a k' b hk
   subst hk
   injection h with h
   subst h
   simp [Op.equalIn, run_underlying hu]
  ·cases h
 ·rw [hx.inv_bool, hy.inv_bool]
  injection h with h
  subst h
  simp [Op.equalIn, run_underlying hu]
 ·rw [hx.inv_str, hy.inv_str]
  injection h with h
  subst h
  rw [run_equalIn_string _ _ _ _ _ hu]
  rw [ByteArray.toList_eq, ByteArray.toList_eq]
  rfl
 ·cases h
theorem eqFs_run {P : Program} {g : Gh} {w w' : World} {l l' : List MV} {us vs : List Value} (hl : Rds g w l us) (hl' : Rds g w l' vs) (n : Nat) : ∀ {fs : List Field} {r : Bool}, (fs.all fun f => f.name != "_" && match P.underlying f.type with | some (.int _) | some .bool | some .string => true | _ => false) = true → eqFs P l l' fs = some r → (Op.eqFields (n + 1) us.toArray vs.toArray fs).run P w' = .ok r w'
 | [], r, _, h => by
  injection h with h
  subst h
  simp [Op.eqFields]
 | f :: fs, r, hall, h => by
  simp only [List.all_cons, Bool.and_eq_true] at hall
  unfold eqFs at h
  split at h
  ·rename_i d x y hu hx hy
   split at h
   ·rename_i a b ha hb
    injection h with h
    subst h
    have ih := eqFs_run (w' := w') hl hl' n hall.2 hb
    obtain ⟨u, hu1, hu2⟩ := hl.get hx
    obtain ⟨v, hv1, hv2⟩ := hl'.get hy
    have hagg : (isAgg f.type).run P w' = .ok false w' := by
     have := hall.1.2
     rw [hu] at this
     unfold isAgg
     simp only [Sem.run_bind, run_underlying hu, Result.andThen_ok]
     cases d <;> first | rfl | (cases this; done)
    have hp1 : (part f.type us.toArray f.offset).run P w' = .ok u w' := by
     unfold part
     simp [hagg, hu1]
    have hp2 : (part f.type vs.toArray f.offset).run P w' = .ok v w' := by
     unfold part
     simp [hagg, hv1]
    have hn : f.name ≠ "_" := by simpa using hall.1.1
    have he := eqOne_run (w' := w') hu ha hu2 hv2 n
    simp only [Op.eqFields, if_pos hn, Sem.run_bind, hp1, hp2, he, Result.andThen_ok]
    cases a with
    | true => simpa using ih
    | false => simp
   ·cases h
  ·cases h
theorem op_eqstruct {P : Program} {rd : Option Nat} {o : Oper} {env : Env} {σ : MS} {K : MV → MS → Prop} {b : BinOp} {r r' : Bool} {t t' : TypeId} {x y : Operand} {l l' : List MV} (ho : o.op = .binOp b t x y t') (hf : flatStruct P t = true) (hx : evo env x = some (.agg l)) (hy : evo env y = some (.agg l'))
  (he : eqFs P l l' (P.fieldsOf t).toList = some r) (hb : b = .eql ∧ r' = r ∨ b = .neq ∧ r' = !r) (h : K (.bool r') σ) : OpWp P rd o env σ K := by
 refine OpWp.of_run (by rcases hb with ⟨rfl, rfl⟩ | Vv <;> simp [ho]) fun g w a hr hop => ?_
 obtain ⟨us, e1, h1⟩ := (hop x (by simp [ho, Op.operands]) _ hx).inv_agg
 obtain ⟨vs, e2, h2⟩ := (hop y (by simp [ho, Op.operands]) _ hy).inv_agg
 refine ⟨.bool r', w, ?_, .same h hr (.bool _)⟩
 unfold flatStruct at hf
 split at hf
 ·rename_i fs hu
  simp only [Bool.and_eq_true, Bool.not_eq_true'] at hf
  have hfo : P.fieldsOf t = fs := by simp [Program.fieldsOf, hu]
  rw [hfo] at he
  have hrun := eqFs_run (w' := w) h1 h2 9998 hf.2 he
  have hq : (Op.equalIn 10000 t (.agg us.toArray) (.agg vs.toArray)).run P w = .ok r w := by
   rw [run_equalIn_struct w 9999 t us.toArray vs.toArray (by rw [hfo]; exact hu) hf.1.1, hfo]
   exact hrun
  rcases hb with ⟨rfl, rfl⟩ | ⟨rfl, rfl⟩ <;> (simp only [execOp, ho, e1, e2, Sem.run_bind, Sem.run_pure]; simp [eqGuard, binOp, Op.equal, Op.maxDepth, hq, hf.1.2])
 ·cases hf
section
section
variable {P : Program} {rd : Option Nat} {N n : Nat} {Q : Exit → Env → MS → Prop} {env : Env} {S L : MS} {c : Code}
theorem EnvSub.app {env A B : Env} (h : EnvSub env A) (k : EnvSub env B) : EnvSub env (A ++ B) := by
 induction h with
 | nil => exact k
 | cons h1 h2 _ ih => exact .cons h1 h2 ih
theorem EnvTo.app {n : Nat} {env E0 A B : Env} (h : EnvTo n env E0 A) (k : EnvTo n env E0 B) : EnvTo n env E0 (A ++ B) := by
 induction h with
 | nil => exact k
 | old h1 h2 _ ih => exact .old h1 h2 ih
 | new h1 h2 h3 _ ih => exact .new h1 h2 h3 ih
theorem mwp_loopK {α : Type} {L0 : MS} (K : Env) (E : α → Env) (L : α → MS) (I : α → Prop) (m : α → Nat) (x₀ : α) (hK : EnvSub env K) (hE : EnvSub env (E x₀)) (h₀ : I x₀) (hL : L0 = L x₀)
  (round : ∀ x, I x → mwp P rd N n c (ThenM (fun env' σ' => ∃ y, m y < m x ∧ I y ∧ σ' = S ++ L y ∧ EnvSub env' K ∧ EnvSub env' (E y)) Q) (K ++ E x) (S ++ L x)) : mwp P rd N n (.loop c) Q env (S ++ L0) := by
 refine mwp_loop0 (fun x => K ++ E x) L I m x₀ h₀ hL (hK.app hE) fun x hx => mwp_mono (round x hx) fun e env' σ' h => ?_
 cases e with
 | normal =>
  obtain ⟨y, h1, h2, h3, h4, h5⟩ := h
  exact ⟨y, h1, h2, h3, h4.app h5⟩
 | _ => exact h
theorem _root_.zK2 : type_of% @mwp_loopK := @mwp_loopK
theorem mwp_loopKJ {α : Type} {L0 : MS} (K : Env) (E : α → Env) (L : α → MS) (I : α → Prop) (m : α → Nat) (x₀ : α) (hN : N ≤ S.length) (hK : EnvSub env K) (hE : EnvSub env (E x₀)) (h₀ : I x₀) (hL : L0 = L x₀)
  (round : ∀ x, I x → mwp P rd N n c (ThenM (fun env' σ' => ∃ y junk, m y < m x ∧ I y ∧ σ' = S ++ (L y ++ junk) ∧ LTo (S.length + (L x).length) (L x) (L y) ∧ EnvTo (S.length + (L x).length) env' (K ++ E x) K ∧ EnvTo (S.length + (L x).length) env' (K ++ E x) (E y)) Q) (K ++ E x) (S ++ L x)) : mwp P rd N n (.loop c) Q env (S ++ L0) := by
 refine mwp_loopJ (fun x => K ++ E x) L I m x₀ hN h₀ hL (hK.app hE) fun x hx => mwp_mono (round x hx) fun e env' σ' h => ?_
 cases e with
 | normal =>
  obtain ⟨y, junk, h1, h2, h3, h4, h5, h6⟩ := h
  exact ⟨y, junk, h1, h2, h3, h4, h5.app h6⟩
 | _ => exact h
theorem _root_.zO4 : type_of% @mwp_loopKJ := @mwp_loopKJ
theorem mwp_row0 {L' : MS} (t ty sz : Nat) {k : Nat} (ht : get env t = some .lst0) (hN : N ≤ S.length) (hk : L.length = k) (hL : L ++ [.row ty sz 0] = L') (h : mwp P rd N n c Q ((t, .lst (some (S.length + k)) sz []) :: env) (S ++ L')) : mwp P rd N n c Q env (S ++ L) := by
 subst hk hL
 refine mwp_ghost (fun g w tmps hr he => ?_) h
 obtain ⟨r1, l1, d1⟩ := tok_new hr ty sz
 have hlen : (S ++ L).length = S.length + L.length := zE
 refine ⟨_, by rw [← zO]; exact r1, fun s y hy => ?_, l1.toN N, fun F hF => hF.mono (l1.toN N)⟩
 by_cases e : t = s
 ·subst e
  rw [zE4] at hy
  injection hy with hy
  subst hy
  obtain ⟨v, hv, hrd⟩ := he t _ ht
  refine ⟨v, hv, ?_⟩
  rw [hrd.inv_lst0, ← hlen]
  exact d1
 ·rw [zY3 _ _ e] at hy
  obtain ⟨v, hv, hrd⟩ := he s y hy
  exact ⟨v, hv, hrd.mono l1⟩
end
theorem wOps_case {P : Program} {rd : Option Nat} {ops : Array Oper} {Q : Env → MS → Prop} {rest : List Oper} {t : Nat} {e : Bool} {env : Env} {σ : MS} (hT : e = true → wOps P rd ops Q rest ((t, .bool true) :: env) σ) (hF : e = false → wOps P rd ops Q rest ((t, .bool false) :: env) σ) : wOps P rd ops Q rest (putd (some t) (.bool e) env) σ := by
 cases e
 ·exact hF rfl
 ·exact hT rfl
theorem _root_.zH0 : type_of% @wOps_case := @wOps_case
theorem dOps_case {P : Program} {rd : Option Nat} {ops : Array Oper} {eff : List Nat} {Ss : List MS} {Q : Env → Prop} {rest : List Oper} {i t : Nat} {e : Bool} {env : Env} (hT : e = true → dOps P rd ops eff Ss Q rest i ((t, .bool true) :: env)) (hF : e = false → dOps P rd ops eff Ss Q rest i ((t, .bool false) :: env)) : dOps P rd ops eff Ss Q rest i (putd (some t) (.bool e) env) := by
 cases e
 ·exact hF rfl
 ·exact hT rfl
theorem _root_.zR3 : type_of% @dOps_case := @dOps_case
theorem op_max2' {P : Program} {rd : Option Nat} {o : Oper} {env : Env} {σ : MS} {K : MV → MS → Prop} {ts : Array TypeId} {x y : Operand} {k : IntKind} {m n r : Int} (ho : o.op = .call { callee := .builtin .max, args := #[x, y], argTypes := ts }) (hx : evo env x = some (.int k m)) (hy : evo env y = some (.int k n)) (hr : (if n > m then n else m) = r) (h : K (.int k r) σ) : OpWp P rd o env σ K := op_max2 ho hx hy (hr ▸ h)
theorem cl_flat {α : Type} {en : α → MV} {n : Nat} {l : List α} (h : ∀ a ∈ l, Cl n (en a)) (hc : ∀ a, en a = .agg (en a).cells ∨ [en a] = (en a).cells) : ∀ x ∈ flat (l.map en), Cl n x := by
 intro x hx
 obtain ⟨y, hy, hx⟩ := List.mem_flatMap.1 hx
 obtain ⟨a, ha, rfl⟩ := List.mem_map.1 hy
 rcases hc a with e | e
 ·have := h a ha
  rw [e] at this
  cases this with
  | agg _ h => exact h x hx
 ·rw [← e] at hx
  simp at hx
  subst hx
  exact h a ha
theorem cl_lst {α : Type} {en : α → MV} {n sz : Nat} {l : List α} (h : ∀ a, Cl n (en a)) (hc : ∀ a, en a = .agg (en a).cells ∨ [en a] = (en a).cells) : Cl n (.lst none sz (l.map en)) := .lst none sz _ (fun t ht => by cases ht) (cl_flat (fun a _ => h a) hc)
theorem cl_lstT {α : Type} {en : α → MV} {n sz t : Nat} {l : List α} (ht : t < n) (h : ∀ a, Cl n (en a)) (hc : ∀ a, en a = .agg (en a).cells ∨ [en a] = (en a).cells) : Cl n (.lst (some t) sz (l.map en)) := .lst _ sz _ (fun s hs => by injection hs with hs; omega) (cl_flat (fun a _ => h a) hc)
theorem get_map {α : Type} {en : α → MV} {l : List α} {i : Nat} {a : α} (h : l[i]? = some a) : (l.map en)[i]? = some (en a) := by rw [zI0, h]; rfl
theorem _root_.zM1 : type_of% @get_map := @get_map
end
section
section
variable {P : Program} {rd : Option Nat} {o : Oper} {env : Env} {σ S L : MS} {K : MV → MS → Prop}
theorem op_nilCheck {x : Operand} {m : MV} (ho : o.op = .nilCheck x) (hx : evo env x = some m) (hm : m.isPtr = true) (h : K m σ) : OpWp P rd o env σ K := by
 refine OpWp.of_run (by simp [ho]) fun g w a hr hop => ?_
 have hv := hop x (by simp [ho, Op.operands]) _ hx
 obtain ⟨ad, e⟩ := ptr_some hv hm
 refine ⟨_, w, ?_, .same h hr hv⟩
 simp [execOp, ho, e, Instr.sureAddr]
theorem _root_.zY0 : type_of% @op_nilCheck := @op_nilCheck
theorem op_store_far {t : TypeId} {x y : Operand} {id off : Nat} {l : List MV} {m : MV} {k : Nat} (ho : o.op = .store t x y) (hx : evo env x = some (.ref id off)) (hy : evo env y = some m) (hσ : S[id]? = some (.cells l)) (hk : szOf P t = some k) (hm : m.cells.length = k)
  (h1 : m.cells.all MV.one = true) (hle : off + k ≤ l.length) (h : K (.tup []) (S.set id (.cells (setMany l off m.cells)) ++ L)) : OpWp P rd o env (S ++ L) K := by
 have hlt := (zD.1 hσ).1
 refine zK4 ho hx hy (by rw [List.getElem?_append_left hlt]; exact hσ) hk hm h1 hle ?_
 rw [List.set_append_left _ _ hlt]
 exact h
end
section
variable {P : Program} {fn : Func} {S S' L : MS} {R : MV → MS → Prop} {env : Env}
theorem ret_tmpS {e : Exit} {t : Nat} {x y : MV} (he : e = .normal ∨ e = .ret) (hres : fn.results = #[.tmp t]) (hx : get env t = some x) (hs : Sub x y) (hc : Cl S'.length y) (hl : S.length ≤ S'.length) (hS : ClS S') (hR : R y S') : BodyQ P fn S R e env (S' ++ L) := by
 refine ⟨he, [x], y, S', L, ?_, hs, hc, rfl, hl, .inr hS, hR⟩
 rw [hres]
 exact .tmp hx .nil
theorem ret_noneS {e : Exit} (he : e = .normal ∨ e = .ret) (hres : fn.results = #[]) (hl : S.length ≤ S'.length) (hS : ClS S') (hR : R (.tup []) S') : BodyQ P fn S R e env (S' ++ L) := by
 refine ⟨he, [], .tup [], S', L, ?_, .refl _, .tup _ (by simp), rfl, hl, .inr hS, hR⟩
 rw [hres]
 exact .nil
theorem _root_.zN2 : type_of% @ret_noneS := @ret_noneS
end
theorem ClS.set {S : MS} (h : ClS S) {id : Nat} {o : MObj} (ho : o.cl S.length) : ClS (S.set id o) := by
 intro i p hp
 rw [List.length_set]
 rw [List.getElem?_set] at hp
 split at hp
 ·split at hp
  ·injection hp with hp
   subst hp
   exact ho
  ·cases hp
 ·exact h i p hp
theorem get_app {S L : MS} {id : Nat} {o : MObj} (h : S[id]? = some o) : (S ++ L)[id]? = some o := by
 rw [List.getElem?_append_left (zD.1 h).1]
 exact h
theorem _root_.zQ : type_of% @get_app := @get_app
theorem get_set {S : MS} {id : Nat} {o p : MObj} (h : S[id]? = some o) : (S.set id p)[id]? = some p := by
 rw [List.getElem?_set, if_pos rfl, if_pos (zD.1 h).1]
theorem set_app {S L : MS} {id : Nat} {o p : MObj} (h : S[id]? = some o) : (S ++ L).set id p = S.set id p ++ L := List.set_append_left _ _ (zD.1 h).1
theorem set_set {S : MS} {id : Nat} {o p : MObj} : (S.set id o).set id p = S.set id p := by simp
end
def encY (b : UInt8) : MV := .int .u8 (b.toNat : Int)
theorem flat_encY (l : Bs) : flat (l.map encY) = l.map encY := by
 induction l with
 | nil => rfl
 | cons b l ih => rw [List.map_cons, zZ4, ih]; rfl
theorem fold_push : ∀ (l acc : Bs), (l.map fun b => (b.toNat : Int)).foldl (fun r n => r.push (UInt8.ofNat n.toNat)) (bs acc) = bs (acc ++ l)
 | [], acc => by simp
 | b :: l, acc => by
  have e : (bs acc).push (UInt8.ofNat ((b.toNat : Int)).toNat) = bs (acc ++ [b]) := by
   apply ByteArray.ext
   simp [bs, ByteArray.push]
  rw [List.map_cons, List.foldl_cons, e, fold_push l (acc ++ [b]), zO]
  rfl
theorem us_bytes {g : Gh} {w : World} : ∀ {l : Bs} {us : List Value}, Rds g w (l.map encY) us → us = (l.map fun b => (b.toNat : Int)).map (Value.int .u8)
 | [], us, h => by
  have := h.1
  simp at this
  simp [this]
 | b :: l, us, h => by
  obtain ⟨u, us', rfl, h1, h2⟩ := Rds.uncons h
  rw [us_bytes h2, h1.inv_int]
  rfl
theorem op_conv_bytes {P : Program} {rd : Option Nat} {o : Oper} {env : Env} {σ : MS} {K : MV → MS → Prop} {t t' e : TypeId} {x : Operand} {tok : Option Nat} {xs : List MV} {l : Bs} (ho : o.op = .convert t t' x) (hs : P.underlying t = some (.slice e)) (he : P.underlying e = some (.int .u8)) (ht : P.underlying t' = some .string)
  (hx : evo env x = some (.lst tok 1 xs)) (hxs : xs = l.map encY) (h : K (.str (bs l)) σ) : OpWp P rd o env σ K := by
 subst hxs
 refine OpWp.of_run (by simp [ho]) fun g w a hr hop => ⟨.string (bs l), w, ?_, .same h hr (.str _)⟩
 obtain ⟨ad, c, us, hv, h1, h2, h3, h4, h5, _⟩ := (hop x (by simp [ho, Op.operands]) _ hx).inv_lst
 rw [flat_encY] at h4
 have hus := us_bytes h4
 simp only [execOp, ho, hv, Sem.run_bind, run_convert_bytes_string w t t' e _ _ _ hs he ht]
 cases ad with
 | none =>
  have hl : l = [] := by
   cases l with
   | nil => rfl
   | cons b l =>
    exfalso
    have hp : 0 < us.length := by rw [h4.1]; simp
    obtain ⟨ad, ha, _⟩ := h5 0 us[0] (zC hp)
    cases ha
  subst hl
  rfl
 | some ad =>
  have hrun := run_loadCells_list (P := P) (w := w) ad us (fun j v hv => by
   obtain ⟨ad', ea, hst⟩ := h5 j v hv
   injection ea with ea
   subst ea
   exact hst.2.1)
  have hlen : us.length = (l.map encY).length := h4.1
  rw [hlen, hus] at hrun
  rw [run_bytesToString w ad _ _ _ hrun]
  have := fold_push l []
  rw [List.nil_append] at this
  have e0 : bs [] = ByteArray.empty := rfl
  rw [e0] at this
  rw [this]
  rfl
theorem op_len_bs {P : Program} {rd : Option Nat} {o : Oper} {env : Env} {σ : MS} {K : MV → MS → Prop} {x : Operand} {l : Bs} {t : TypeId} (ho : o.op = .call { callee := .builtin .len, args := #[x], argTypes := #[t] }) (hu : P.underlying t = some .string) (hx : evo env x = some (.str (bs l)))
  (h : K (.int .i64 (l.length : Int)) σ) : OpWp P rd o env σ K := op_len_str ho hu hx (by rw [bs_size]; exact h)
theorem _root_.zO3 : type_of% @op_len_bs := @op_len_bs
def numB (n : Nat) : Bs := if h : n < 128 then [UInt8.ofNat n] else UInt8.ofNat (n % 128 + 128) :: numB (n / 128)
 termination_by n
 decreasing_by omega
def textB (s : Bs) : Bs := numB s.length ++ s
def xorI (h : Int) (b : UInt8) : Int := IntKind.u64.wrap (BitVec.ofInt IntKind.u64.bits h ^^^ BitVec.ofInt IntKind.u64.bits (b.toNat : Int)).toNat
def hashStep (h : Int) (b : UInt8) : Int := IntKind.u64.wrap (xorI h b * 1099511628211)
def hashB (l : Bs) : Int := l.foldl hashStep 14695981039346656037
theorem numB_len {n : Nat} (h : n < 2097152) : 1 ≤ (numB n).length ∧ (numB n).length ≤ 3 := by
 rw [numB]
 split
 ·simp
 ·rw [numB]
  split
  ·simp
  ·rw [numB]
   split
   ·simp
   ·omega
theorem u8_toNat {n : Nat} (h : n < 256) : (UInt8.ofNat n).toNat = n := by simp [UInt8.toNat_ofNat']; omega
section
section
variable {P : Program} {rd : Option Nat} {N n : Nat} {o : Oper} {rest : List Oper} {ops : Array Oper} {env : Env} {σ S L : MS} {c c1 c2 : Code} {Q : Exit → Env → MS → Prop} {W : Env → MS → Prop}
theorem qM {x : Operand} {m : MV} (hg : guardOk ops env o = some true) (ho : o.op = .move x) (hx : evo env x = some m) (h : wOps P rd ops W rest (putd o.dst m env) σ) : wOps P rd ops W (o :: rest) env σ := zM4 hg (zY ho hx h)
theorem qA {x : Operand} {m : MV} (hg : guardOk ops env o = some true) (ho : o.op = .assign x) (hx : evo env x = some m) (h : wOps P rd ops W rest (putd o.dst m env) σ) : wOps P rd ops W (o :: rest) env σ := zM4 hg (zZ0 ho hx h)
theorem qP {x y z : Operand} {b : Bool} {m : MV} (hg : guardOk ops env o = some true) (ho : o.op = .pick x y z) (hc : evo env x = some (.bool b)) (hm : evo env (if b then y else z) = some m) (h : wOps P rd ops W rest (putd o.dst m env) σ) : wOps P rd ops W (o :: rest) env σ := zM4 hg (zP1 ho hc hm h)
theorem qC {b : BinOp} {t t' : TypeId} {x y : Operand} {k : IntKind} {m p : Int} {r : Bool} (hg : guardOk ops env o = some true) (ho : o.op = .binOp b t x y t') (hx : evo env x = some (.int k m)) (hy : evo env y = some (.int k p)) (hr : intCmp b m p = some r) (h : wOps P rd ops W rest (putd o.dst (.bool r) env) σ) : wOps P rd ops W (o :: rest) env σ := zM4 hg (zR2 ho hx hy hr h)
theorem qL {t : TypeId} {x : Operand} {k off : Nat} {l : List MV} {ta : Option Nat} {m : MV} (hg : guardOk ops env o = some true) (ho : o.op = .load t x) (hx : evo env x = some (.ref (S.length + k) off)) (hσ : L[k]? = some (.cells l)) (ht : tyAgg P t = some ta) (hm : loadMV ta l off = some m) (h : wOps P rd ops W rest (putd o.dst m env) (S ++ L)) : wOps P rd ops W (o :: rest) env (S ++ L) := zM4 hg (zN0 ho hx hσ ht hm h)
theorem qF {t : TypeId} {x : Operand} {f id off fo : Nat} {ft : TypeId} (hg : guardOk ops env o = some true) (ho : o.op = .fieldAddr t x f) (hx : evo env x = some (.ref id off)) (hf : fieldOff P t f = some (fo, ft)) (h : wOps P rd ops W rest (putd o.dst (.ref id (off + fo)) env) σ) : wOps P rd ops W (o :: rest) env σ := zM4 hg (zG ho hx hf h)
theorem qB {t : TypeId} {x : Operand} {m : MV} {k : Nat} {L' : MS} (hg : guardOk ops env o = some true) (ho : o.op = .box t x) (hx : evo env x = some m) (hk : L.length = k) (hL : L ++ [.cells m.cells] = L') (h : wOps P rd ops W rest (putd o.dst (.ref (S.length + k) 0) env) (S ++ L')) : wOps P rd ops W (o :: rest) env (S ++ L) := zM4 hg (op_box' ho hx hk hL h)
theorem qE {x : Operand} {tok : Option Nat} {sz : Nat} {xs : List MV} {t e : TypeId} (hg : guardOk ops env o = some true) (ho : o.op = .call { callee := .builtin .len, args := #[x], argTypes := #[t] }) (hu : P.underlying t = some (.slice e)) (hx : evo env x = some (.lst tok sz xs)) (h : wOps P rd ops W rest (putd o.dst (.int .i64 (xs.length : Int)) env) σ) : wOps P rd ops W (o :: rest) env σ := zM4 hg (zU1 ho hu hx h)
theorem qS (hg : guardOk ops env o = some false) (h : wOps P rd ops W rest (putd o.dst (.tup []) env) σ) : wOps P rd ops W (o :: rest) env σ := wOps_skip hg h
theorem qO (hg : guardOk ops env o = some true) (h : OpWp P rd o env σ fun x σ' => wOps P rd ops W rest (putd o.dst x env) σ') : wOps P rd ops W (o :: rest) env σ := zM4 hg h
theorem qN (h : W env σ) : wOps P rd ops W [] env σ := h
theorem qR {id : Nat} (hb : dstsOk n ops = true) (h : wOps P rd ops (fun env σ => Q .normal env σ) ops.toList env σ) : mwp P rd N n (.region id ops false) Q env σ := mwp_region hb h
section
variable {eff : List Nat} {Ss : List MS} {D : Env → Prop} {i : Nat} {s : MS} {m : MV}
theorem dO (hg : guardOk ops env o = some true) (he : effAt i eff 0 = none) (hs : span_ Ss (loOf ops o eff 0 0) (hiOf ops i eff 0) = [s]) (h : OpWp P rd o env s fun x' σ' => x' = m ∧ σ' = s) (hr : dOps P rd ops eff Ss D rest (i + 1) (putd o.dst m env)) : dOps P rd ops eff Ss D (o :: rest) i env := zN hg he (by rw [hs]; exact .cons h .nil) hr
theorem dS (hg : guardOk ops env o = some false) (he : effAt i eff 0 = none) (hr : dOps P rd ops eff Ss D rest (i + 1) (putd o.dst (.tup []) env)) : dOps P rd ops eff Ss D (o :: rest) i env := dOps_skip hg he hr
end
end
theorem qX {P : Program} {rd : Option Nat} {o : Oper} {rest : List Oper} {ops : Array Oper} {env : Env} {σ : MS} {W : Env → MS → Prop} {f : Operand} {args : Array Operand} {ts : Array TypeId} {k : FuncId} {first caps xs : List MV} {X : MV} {T : MS} (hg : guardOk ops env o = some true) (ho : o.op = .call { callee := .value f, args := args, argTypes := ts }) (hf : evo env f = some (.fn (.func k) first caps)) (hx : evos env args.toList = some xs) (hb : CallOk P k) (h : MCalls P k (first ++ xs ++ caps) σ fun v σ' => v = X ∧ σ' = T) (hr : wOps P rd ops W rest (putd o.dst X env) T) : wOps P rd ops W (o :: rest) env σ := zM4 hg (zT0 ho hf hx hb (h.mono fun v σ' e => by obtain ⟨rfl, rfl⟩ := e; exact hr))
theorem qT {P : Program} {rd : Option Nat} {o o2 o3 o4 : Oper} {rest : List Oper} {ops : Array Oper} {env : Env} {σ : MS} {W : Env → MS → Prop} (h1 : guardOk ops env o = some false) (h2 : guardOk ops (putd o.dst (.tup []) env) o2 = some false) (h3 : guardOk ops (putd o2.dst (.tup []) (putd o.dst (.tup []) env)) o3 = some false) (h4 : guardOk ops (putd o3.dst (.tup []) (putd o2.dst (.tup []) (putd o.dst (.tup []) env))) o4 = some false) (h : wOps P rd ops W rest (putd o4.dst (.tup []) (putd o3.dst (.tup []) (putd o2.dst (.tup []) (putd o.dst (.tup []) env)))) σ) : wOps P rd ops W (o :: o2 :: o3 :: o4 :: rest) env σ := qS h1 <| qS h2 <| qS h3 <| qS h4 h
end
end Go.MV
namespace Go.Proofs.YtciimaabeabkdaaGreatDoor
open Go Go.MV
theorem mo : Tryz.prog.follows .mixedOrders = true := by kernel_rfl
theorem ta2 : tyAgg Tryz.prog 2 = some none := by kernel_rfl
theorem ta3 : tyAgg Tryz.prog 3 = some none := by kernel_rfl
theorem sz3 : szOf Tryz.prog 3 = some 1 := by kernel_rfl
theorem el3 : elemOk Tryz.prog 3 1 8 = true := by kernel_rfl
theorem ta4 : tyAgg Tryz.prog 4 = some none := by kernel_rfl
theorem sz4 : szOf Tryz.prog 4 = some 1 := by kernel_rfl
theorem zm4 : zeroMV Tryz.prog 4 = some [.bool false] := by kernel_rfl
theorem sz5 : szOf Tryz.prog 5 = some 1 := by kernel_rfl
theorem zm5 : zeroMV Tryz.prog 5 = some [.int .u8 0] := by kernel_rfl
theorem el5 : elemOk Tryz.prog 5 1 1 = true := by kernel_rfl
theorem ta9 : tyAgg Tryz.prog 9 = some none := by kernel_rfl
theorem sz9 : szOf Tryz.prog 9 = some 1 := by kernel_rfl
theorem el9 : elemOk Tryz.prog 9 1 16 = true := by kernel_rfl
theorem ta22 : tyAgg Tryz.prog 22 = some none := by kernel_rfl
theorem sz22 : szOf Tryz.prog 22 = some 1 := by kernel_rfl
theorem ta23 : tyAgg Tryz.prog 23 = some none := by kernel_rfl
theorem sz23 : szOf Tryz.prog 23 = some 1 := by kernel_rfl
theorem zm23 : zeroMV Tryz.prog 23 = some [.lst0] := by kernel_rfl
theorem ta24 : tyAgg Tryz.prog 24 = some none := by kernel_rfl
theorem sz24 : szOf Tryz.prog 24 = some 1 := by kernel_rfl
theorem ta25 : tyAgg Tryz.prog 25 = some none := by kernel_rfl
theorem sz25 : szOf Tryz.prog 25 = some 1 := by kernel_rfl
theorem ta27 : tyAgg Tryz.prog 27 = some (some 5) := by kernel_rfl
theorem sz27 : szOf Tryz.prog 27 = some 5 := by kernel_rfl
theorem zm27 : zeroMV Tryz.prog 27 = some [.int .u64 0, .int .u64 0, .lst0, .lst0, .lst0] := by kernel_rfl
theorem el27 : elemOk Tryz.prog 27 5 88 = true := by kernel_rfl
theorem fo27_0 : fieldOff Tryz.prog 27 0 = some (0, 22) := by kernel_rfl
theorem _root_.zX3 : type_of% @fo27_0 := @fo27_0
theorem fo27_1 : fieldOff Tryz.prog 27 1 = some (1, 22) := by kernel_rfl
theorem fo27_2 : fieldOff Tryz.prog 27 2 = some (2, 23) := by kernel_rfl
theorem _root_.zZ2 : type_of% @fo27_2 := @fo27_2
theorem fo27_3 : fieldOff Tryz.prog 27 3 = some (3, 24) := by kernel_rfl
theorem _root_.zO2 : type_of% @fo27_3 := @fo27_3
theorem fo27_4 : fieldOff Tryz.prog 27 4 = some (4, 25) := by kernel_rfl
theorem _root_.zG2 : type_of% @fo27_4 := @fo27_4
theorem ta28 : tyAgg Tryz.prog 28 = some none := by kernel_rfl
theorem sz28 : szOf Tryz.prog 28 = some 1 := by kernel_rfl
theorem zm28 : zeroMV Tryz.prog 28 = some [.lst0] := by kernel_rfl
theorem ta39 : tyAgg Tryz.prog 39 = some none := by kernel_rfl
theorem sz39 : szOf Tryz.prog 39 = some 1 := by kernel_rfl
theorem ta43 : tyAgg Tryz.prog 43 = some none := by kernel_rfl
theorem sz43 : szOf Tryz.prog 43 = some 1 := by kernel_rfl
theorem zm43 : zeroMV Tryz.prog 43 = some [.iface0] := by kernel_rfl
theorem ta47 : tyAgg Tryz.prog 47 = some none := by kernel_rfl
theorem sz47 : szOf Tryz.prog 47 = some 1 := by kernel_rfl
theorem ta51 : tyAgg Tryz.prog 51 = some none := by kernel_rfl
theorem sz51 : szOf Tryz.prog 51 = some 1 := by kernel_rfl
theorem ta53 : tyAgg Tryz.prog 53 = some (some 2) := by kernel_rfl
theorem sz53 : szOf Tryz.prog 53 = some 2 := by kernel_rfl
theorem zm53 : zeroMV Tryz.prog 53 = some [.int .i64 0, .lst0] := by kernel_rfl
theorem el53 : elemOk Tryz.prog 53 2 32 = true := by kernel_rfl
theorem fo53_0 : fieldOff Tryz.prog 53 0 = some (0, 3) := by kernel_rfl
theorem _root_.zB2 : type_of% @fo53_0 := @fo53_0
theorem fo53_1 : fieldOff Tryz.prog 53 1 = some (1, 51) := by kernel_rfl
theorem _root_.zG3 : type_of% @fo53_1 := @fo53_1
theorem ta55 : tyAgg Tryz.prog 55 = some (some 4) := by kernel_rfl
theorem sz55 : szOf Tryz.prog 55 = some 4 := by kernel_rfl
theorem zm55 : zeroMV Tryz.prog 55 = some [.str (bs []), .int .i64 0, .int .i64 0, .lst0] := by kernel_rfl
theorem el55 : elemOk Tryz.prog 55 4 56 = true := by kernel_rfl
theorem fo55_0 : fieldOff Tryz.prog 55 0 = some (0, 9) := by kernel_rfl
theorem fo55_1 : fieldOff Tryz.prog 55 1 = some (1, 3) := by kernel_rfl
theorem fo55_2 : fieldOff Tryz.prog 55 2 = some (2, 53) := by kernel_rfl
theorem _root_.zT4 : type_of% @fo55_2 := @fo55_2
theorem ta117 : tyAgg Tryz.prog 117 = some none := by kernel_rfl
theorem sz117 : szOf Tryz.prog 117 = some 1 := by kernel_rfl
theorem fo119_0 : fieldOff Tryz.prog 119 0 = some (0, 117) := by kernel_rfl
theorem fo119_1 : fieldOff Tryz.prog 119 1 = some (1, 47) := by kernel_rfl
theorem zm132 : zeroMV Tryz.prog 132 = some [.str (bs []), .int .u64 0, .int .u64 0, .lst0, .lst0, .lst0] := by kernel_rfl
theorem el132 : elemOk Tryz.prog 132 6 104 = true := by kernel_rfl
theorem fo132_0 : fieldOff Tryz.prog 132 0 = some (0, 9) := by kernel_rfl
theorem fo132_1 : fieldOff Tryz.prog 132 1 = some (1, 27) := by kernel_rfl
theorem ta146 : tyAgg Tryz.prog 146 = some none := by kernel_rfl
theorem sz146 : szOf Tryz.prog 146 = some 1 := by kernel_rfl
theorem sz148 : szOf Tryz.prog 148 = some 2 := by kernel_rfl
theorem zm148 : zeroMV Tryz.prog 148 = some [.lst0, .map0] := by kernel_rfl
theorem fo148_0 : fieldOff Tryz.prog 148 0 = some (0, 23) := by kernel_rfl
theorem fo148_1 : fieldOff Tryz.prog 148 1 = some (1, 146) := by kernel_rfl
theorem zm150 : zeroMV Tryz.prog 150 = some [.lst0, .lst0, .map0] := by kernel_rfl
theorem fo150_0 : fieldOff Tryz.prog 150 0 = some (0, 39) := by kernel_rfl
theorem fo150_1 : fieldOff Tryz.prog 150 1 = some (1, 148) := by kernel_rfl
theorem ta202 : tyAgg Tryz.prog 202 = some none := by kernel_rfl
theorem sz202 : szOf Tryz.prog 202 = some 1 := by kernel_rfl
theorem el202 : elemOk Tryz.prog 202 1 24 = true := by kernel_rfl
theorem ta223 : tyAgg Tryz.prog 223 = some none := by kernel_rfl
theorem zm232 : zeroMV Tryz.prog 232 = some [.ptr0, .lst0] := by kernel_rfl
theorem fo232_0 : fieldOff Tryz.prog 232 0 = some (0, 119) := by kernel_rfl
theorem ta252 : tyAgg Tryz.prog 252 = some none := by kernel_rfl
theorem ta262 : tyAgg Tryz.prog 262 = some (some 2) := by kernel_rfl
theorem sz262 : szOf Tryz.prog 262 = some 2 := by kernel_rfl
theorem zm262 : zeroMV Tryz.prog 262 = some [.int .i64 0, .int .u64 0] := by kernel_rfl
theorem el262 : elemOk Tryz.prog 262 2 16 = true := by kernel_rfl
theorem fo262_0 : fieldOff Tryz.prog 262 0 = some (0, 3) := by kernel_rfl
theorem _root_.zD5 : type_of% @fo262_0 := @fo262_0
theorem fo262_1 : fieldOff Tryz.prog 262 1 = some (1, 22) := by kernel_rfl
theorem ta265 : tyAgg Tryz.prog 265 = some (some 256) := by kernel_rfl
theorem sz265 : szOf Tryz.prog 265 = some 256 := by kernel_rfl
theorem zm265 : zeroMV Tryz.prog 265 = some [.bool false, .bool false, .bool false, .bool false, .bool false, .bool false, .bool false, .bool false, .bool false, .bool false, .bool false, .bool false, .bool false, .bool false, .bool false, .bool false, .bool false, .bool false, .bool false, .bool false, .bool false, .bool false, .bool false, .bool false, .bool false, .bool false, .bool false, .bool false, .bool false, .bool false, .bool false, .bool false, .bool false, .bool false, .bool false, .bool false, .bool false, .bool false, .bool false, .bool false, .bool false, .bool false, .bool false, .bool false, .bool false, .bool false, .bool false, .bool false, .bool false, .bool false, .bool false, .bool false, .bool false, .bool false, .bool false, .bool false, .bool false, .bool false, .bool false, .bool false, .bool false, .bool false, .bool false, .bool false, .bool false, .bool false, .bool false, .bool false, .bool false, .bool false, .bool false, .bool false, .bool false, .bool false, .bool false, .bool false, .bool false, .bool false, .bool false, .bool false, .bool false, .bool false, .bool false, .bool false, .bool false, .bool false, .bool false, .bool false, .bool false, .bool false, .bool false, .bool false, .bool false, .bool false, .bool false, .bool false, .bool false, .bool false, .bool false, .bool false, .bool false, .bool false, .bool false, .bool false, .bool false, .bool false, .bool false, .bool false, .bool false, .bool false, .bool false, .bool false, .bool false, .bool false, .bool false, .bool false, .bool false, .bool false, .bool false, .bool false, .bool false, .bool false, .bool false, .bool false, .bool false, .bool false, .bool false, .bool false, .bool false, .bool false, .bool false, .bool false, .bool false, .bool false, .bool false, .bool false, .bool false, .bool false, .bool false, .bool false, .bool false, .bool false, .bool false, .bool false, .bool false, .bool false, .bool false, .bool false, .bool false, .bool false, .bool false, .bool false, .bool false, .bool false, .bool false, .bool false, .bool false, .bool false, .bool false, .bool false, .bool false, .bool false, .bool false, .bool false, .bool false, .bool false, .bool false, .bool false, .bool false, .bool false, .bool false, .bool false, .bool false, .bool false, .bool false, .bool false, .bool false, .bool false, .bool false, .bool false, .bool false, .bool false, .bool false, .bool false, .bool false, .bool false, .bool false, .bool false, .bool false, .bool false, .bool false, .bool false, .bool false, .bool false, .bool false, .bool false, .bool false, .bool false, .bool false, .bool false, .bool false, .bool false, .bool false, .bool false, .bool false, .bool false, .bool false, .bool false, .bool false, .bool false, .bool false, .bool false, .bool false, .bool false, .bool false, .bool false, .bool false, .bool false, .bool false, .bool false, .bool false, .bool false, .bool false, .bool false, .bool false, .bool false, .bool false, .bool false, .bool false, .bool false, .bool false, .bool false, .bool false, .bool false, .bool false, .bool false, .bool false, .bool false, .bool false, .bool false, .bool false, .bool false, .bool false, .bool false, .bool false, .bool false, .bool false, .bool false, .bool false, .bool false, .bool false, .bool false, .bool false, .bool false, .bool false, .bool false] := by kernel_rfl
theorem ta286 : tyAgg Tryz.prog 286 = some none := by kernel_rfl
theorem sz286 : szOf Tryz.prog 286 = some 1 := by kernel_rfl
theorem zm286 : zeroMV Tryz.prog 286 = some [.fn0] := by kernel_rfl
theorem ta304 : tyAgg Tryz.prog 304 = some none := by kernel_rfl
theorem ta320 : tyAgg Tryz.prog 320 = some none := by kernel_rfl
theorem sz320 : szOf Tryz.prog 320 = some 1 := by kernel_rfl
theorem ta322 : tyAgg Tryz.prog 322 = some none := by kernel_rfl
theorem ta323 : tyAgg Tryz.prog 323 = some none := by kernel_rfl
theorem sz323 : szOf Tryz.prog 323 = some 1 := by kernel_rfl
theorem ta325 : tyAgg Tryz.prog 325 = some (some 3) := by kernel_rfl
theorem sz325 : szOf Tryz.prog 325 = some 3 := by kernel_rfl
theorem zm325 : zeroMV Tryz.prog 325 = some [.str (bs []), .ptr0, .ptr0] := by kernel_rfl
theorem el325 : elemOk Tryz.prog 325 3 32 = true := by kernel_rfl
theorem fo325_0 : fieldOff Tryz.prog 325 0 = some (0, 9) := by kernel_rfl
theorem fo325_1 : fieldOff Tryz.prog 325 1 = some (1, 323) := by kernel_rfl
theorem fo325_2 : fieldOff Tryz.prog 325 2 = some (2, 323) := by kernel_rfl
theorem ta329 : tyAgg Tryz.prog 329 = some none := by kernel_rfl
theorem sz329 : szOf Tryz.prog 329 = some 1 := by kernel_rfl
theorem ta332 : tyAgg Tryz.prog 332 = some (some 3) := by kernel_rfl
theorem sz332 : szOf Tryz.prog 332 = some 3 := by kernel_rfl
theorem zm332 : zeroMV Tryz.prog 332 = some [.lst0, .ptr0, .ptr0] := by kernel_rfl
theorem el332 : elemOk Tryz.prog 332 3 40 = true := by kernel_rfl
theorem fo332_0 : fieldOff Tryz.prog 332 0 = some (0, 202) := by kernel_rfl
theorem _root_.zQ5 : type_of% @fo332_0 := @fo332_0
theorem fo332_1 : fieldOff Tryz.prog 332 1 = some (1, 323) := by kernel_rfl
theorem fo332_2 : fieldOff Tryz.prog 332 2 = some (2, 323) := by kernel_rfl
theorem co18 : CallOk Tryz.prog 18 := ⟨_, _, Tryz.func18, by kernel_rfl, rfl⟩
theorem co19 : CallOk Tryz.prog 19 := ⟨_, _, Tryz.func19, by kernel_rfl, rfl⟩
theorem co20 : CallOk Tryz.prog 20 := ⟨_, _, Tryz.func20, by kernel_rfl, rfl⟩
theorem co22 : CallOk Tryz.prog 22 := ⟨_, _, Tryz.func22, by kernel_rfl, rfl⟩
theorem co25 : CallOk Tryz.prog 25 := ⟨_, _, Tryz.func25, by kernel_rfl, rfl⟩
theorem co26 : CallOk Tryz.prog 26 := ⟨_, _, Tryz.func26, by kernel_rfl, rfl⟩
theorem co27 : CallOk Tryz.prog 27 := ⟨_, _, Tryz.func27, by kernel_rfl, rfl⟩
theorem co28 : CallOk Tryz.prog 28 := ⟨_, _, Tryz.func28, by kernel_rfl, rfl⟩
theorem co31 : CallOk Tryz.prog 31 := ⟨_, _, Tryz.func31, by kernel_rfl, rfl⟩
theorem co32 : CallOk Tryz.prog 32 := ⟨_, _, Tryz.func32, by kernel_rfl, rfl⟩
theorem co62 : CallOk Tryz.prog 62 := ⟨_, _, Tryz.func62, by kernel_rfl, rfl⟩
theorem co65 : CallOk Tryz.prog 65 := ⟨_, _, Tryz.func65, by kernel_rfl, rfl⟩
theorem co66 : CallOk Tryz.prog 66 := ⟨_, _, Tryz.func66, by kernel_rfl, rfl⟩
theorem co68 : CallOk Tryz.prog 68 := ⟨_, _, Tryz.func68, by kernel_rfl, rfl⟩
theorem co75 : CallOk Tryz.prog 75 := ⟨_, _, Tryz.func75, by kernel_rfl, rfl⟩
theorem co76 : CallOk Tryz.prog 76 := ⟨_, _, Tryz.func76, by kernel_rfl, rfl⟩
theorem co77 : CallOk Tryz.prog 77 := ⟨_, _, Tryz.func77, by kernel_rfl, rfl⟩
theorem co79 : CallOk Tryz.prog 79 := ⟨_, _, Tryz.func79, by kernel_rfl, rfl⟩
theorem co80 : CallOk Tryz.prog 80 := ⟨_, _, Tryz.func80, by kernel_rfl, rfl⟩
theorem co81 : CallOk Tryz.prog 81 := ⟨_, _, Tryz.func81, by kernel_rfl, rfl⟩
theorem co83 : CallOk Tryz.prog 83 := ⟨_, _, Tryz.func83, by kernel_rfl, rfl⟩
theorem co84 : CallOk Tryz.prog 84 := ⟨_, _, Tryz.func84, by kernel_rfl, rfl⟩
theorem co85 : CallOk Tryz.prog 85 := ⟨_, _, Tryz.func85, by kernel_rfl, rfl⟩
theorem co86 : CallOk Tryz.prog 86 := ⟨_, _, Tryz.func86, by kernel_rfl, rfl⟩
theorem co89 : CallOk Tryz.prog 89 := ⟨_, _, Tryz.func89, by kernel_rfl, rfl⟩
theorem co90 : CallOk Tryz.prog 90 := ⟨_, _, Tryz.func90, by kernel_rfl, rfl⟩
theorem co116 : CallOk Tryz.prog 116 := ⟨_, _, Tryz.func116, by kernel_rfl, rfl⟩
theorem co118 : CallOk Tryz.prog 118 := ⟨_, _, Tryz.func118, by kernel_rfl, rfl⟩
theorem co119 : CallOk Tryz.prog 119 := ⟨_, _, Tryz.func119, by kernel_rfl, rfl⟩
theorem co125 : CallOk Tryz.prog 125 := ⟨_, _, Tryz.func125, by kernel_rfl, rfl⟩
theorem co126 : CallOk Tryz.prog 126 := ⟨_, _, Tryz.func126, by kernel_rfl, rfl⟩
theorem co133 : CallOk Tryz.prog 133 := ⟨_, _, Tryz.func133, by kernel_rfl, rfl⟩
theorem co134 : CallOk Tryz.prog 134 := ⟨_, _, Tryz.func134, by kernel_rfl, rfl⟩
theorem co135 : CallOk Tryz.prog 135 := ⟨_, _, Tryz.func135, by kernel_rfl, rfl⟩
theorem co136 : CallOk Tryz.prog 136 := ⟨_, _, Tryz.func136, by kernel_rfl, rfl⟩
theorem co139 : CallOk Tryz.prog 139 := ⟨_, _, Tryz.func139, by kernel_rfl, rfl⟩
theorem co140 : CallOk Tryz.prog 140 := ⟨_, _, Tryz.func140, by kernel_rfl, rfl⟩
theorem co141 : CallOk Tryz.prog 141 := ⟨_, _, Tryz.func141, by kernel_rfl, rfl⟩
theorem co142 : CallOk Tryz.prog 142 := ⟨_, _, Tryz.func142, by kernel_rfl, rfl⟩
theorem co144 : CallOk Tryz.prog 144 := ⟨_, _, Tryz.func144, by kernel_rfl, rfl⟩
theorem co145 : CallOk Tryz.prog 145 := ⟨_, _, Tryz.func145, by kernel_rfl, rfl⟩
theorem co146 : CallOk Tryz.prog 146 := ⟨_, _, Tryz.func146, by kernel_rfl, rfl⟩
theorem co147 : CallOk Tryz.prog 147 := ⟨_, _, Tryz.func147, by kernel_rfl, rfl⟩
theorem co148 : CallOk Tryz.prog 148 := ⟨_, _, Tryz.func148, by kernel_rfl, rfl⟩
theorem co152 : CallOk Tryz.prog 152 := ⟨_, _, Tryz.func152, by kernel_rfl, rfl⟩
theorem _root_.zA4 : type_of% @Tryz.func153 := @Tryz.func153
theorem co153 : CallOk Tryz.prog 153 := ⟨_, _, zA4, by kernel_rfl, rfl⟩
theorem _root_.zP4 : type_of% @Tryz.func165 := @Tryz.func165
theorem co165 : CallOk Tryz.prog 165 := ⟨_, _, zP4, by kernel_rfl, rfl⟩
theorem co166 : CallOk Tryz.prog 166 := ⟨_, _, Tryz.func166, by kernel_rfl, rfl⟩
theorem co167 : CallOk Tryz.prog 167 := ⟨_, _, Tryz.func167, by kernel_rfl, rfl⟩
theorem co170 : CallOk Tryz.prog 170 := ⟨_, _, Tryz.func170, by kernel_rfl, rfl⟩
theorem co171 : CallOk Tryz.prog 171 := ⟨_, _, Tryz.func171, by kernel_rfl, rfl⟩
theorem co175 : CallOk Tryz.prog 175 := ⟨_, _, Tryz.func175, by kernel_rfl, rfl⟩
theorem co176 : CallOk Tryz.prog 176 := ⟨_, _, Tryz.func176, by kernel_rfl, rfl⟩
theorem co177 : CallOk Tryz.prog 177 := ⟨_, _, Tryz.func177, by kernel_rfl, rfl⟩
theorem co180 : CallOk Tryz.prog 180 := ⟨_, _, Tryz.func180, by kernel_rfl, rfl⟩
theorem co181 : CallOk Tryz.prog 181 := ⟨_, _, Tryz.func181, by kernel_rfl, rfl⟩
theorem co182 : CallOk Tryz.prog 182 := ⟨_, _, Tryz.func182, by kernel_rfl, rfl⟩
theorem co185 : CallOk Tryz.prog 185 := ⟨_, _, Tryz.func185, by kernel_rfl, rfl⟩
theorem co186 : CallOk Tryz.prog 186 := ⟨_, _, Tryz.func186, by kernel_rfl, rfl⟩
theorem _root_.zP3 : type_of% @Tryz.func188 := @Tryz.func188
theorem co188 : CallOk Tryz.prog 188 := ⟨_, _, zP3, by kernel_rfl, rfl⟩
theorem co189 : CallOk Tryz.prog 189 := ⟨_, _, Tryz.func189, by kernel_rfl, rfl⟩
theorem co190 : CallOk Tryz.prog 190 := ⟨_, _, Tryz.func190, by kernel_rfl, rfl⟩
theorem co194 : CallOk Tryz.prog 194 := ⟨_, _, Tryz.func194, by kernel_rfl, rfl⟩
theorem co195 : CallOk Tryz.prog 195 := ⟨_, _, Tryz.func195, by kernel_rfl, rfl⟩
theorem _root_.zQ4 : type_of% @Tryz.func205 := @Tryz.func205
theorem co205 : CallOk Tryz.prog 205 := ⟨_, _, zQ4, by kernel_rfl, rfl⟩
theorem co206 : CallOk Tryz.prog 206 := ⟨_, _, Tryz.func206, by kernel_rfl, rfl⟩
theorem co207 : CallOk Tryz.prog 207 := ⟨_, _, Tryz.func207, by kernel_rfl, rfl⟩
theorem co208 : CallOk Tryz.prog 208 := ⟨_, _, Tryz.func208, by kernel_rfl, rfl⟩
theorem co209 : CallOk Tryz.prog 209 := ⟨_, _, Tryz.func209, by kernel_rfl, rfl⟩
theorem co210 : CallOk Tryz.prog 210 := ⟨_, _, Tryz.func210, by kernel_rfl, rfl⟩
theorem co211 : CallOk Tryz.prog 211 := ⟨_, _, Tryz.func211, by kernel_rfl, rfl⟩
theorem co212 : CallOk Tryz.prog 212 := ⟨_, _, Tryz.func212, by kernel_rfl, rfl⟩
theorem co213 : CallOk Tryz.prog 213 := ⟨_, _, Tryz.func213, by kernel_rfl, rfl⟩
theorem co214 : CallOk Tryz.prog 214 := ⟨_, _, Tryz.func214, by kernel_rfl, rfl⟩
theorem co215 : CallOk Tryz.prog 215 := ⟨_, _, Tryz.func215, by kernel_rfl, rfl⟩
theorem co220 : CallOk Tryz.prog 220 := ⟨_, _, Tryz.func220, by kernel_rfl, rfl⟩
theorem co224 : CallOk Tryz.prog 224 := ⟨_, _, Tryz.func224, by kernel_rfl, rfl⟩
theorem co225 : CallOk Tryz.prog 225 := ⟨_, _, Tryz.func225, by kernel_rfl, rfl⟩
theorem co226 : CallOk Tryz.prog 226 := ⟨_, _, Tryz.func226, by kernel_rfl, rfl⟩
theorem co228 : CallOk Tryz.prog 228 := ⟨_, _, Tryz.func228, by kernel_rfl, rfl⟩
theorem co229 : CallOk Tryz.prog 229 := ⟨_, _, Tryz.func229, by kernel_rfl, rfl⟩
theorem co230 : CallOk Tryz.prog 230 := ⟨_, _, Tryz.func230, by kernel_rfl, rfl⟩
theorem co231 : CallOk Tryz.prog 231 := ⟨_, _, Tryz.func231, by kernel_rfl, rfl⟩
theorem co232 : CallOk Tryz.prog 232 := ⟨_, _, Tryz.func232, by kernel_rfl, rfl⟩
theorem co233 : CallOk Tryz.prog 233 := ⟨_, _, Tryz.func233, by kernel_rfl, rfl⟩
theorem co234 : CallOk Tryz.prog 234 := ⟨_, _, Tryz.func234, by kernel_rfl, rfl⟩
theorem co235 : CallOk Tryz.prog 235 := ⟨_, _, Tryz.func235, by kernel_rfl, rfl⟩
theorem co247 : CallOk Tryz.prog 247 := ⟨_, _, Tryz.func247, by kernel_rfl, rfl⟩
theorem co248 : CallOk Tryz.prog 248 := ⟨_, _, Tryz.func248, by kernel_rfl, rfl⟩
theorem co249 : CallOk Tryz.prog 249 := ⟨_, _, Tryz.func249, by kernel_rfl, rfl⟩
theorem co250 : CallOk Tryz.prog 250 := ⟨_, _, Tryz.func250, by kernel_rfl, rfl⟩
theorem co251 : CallOk Tryz.prog 251 := ⟨_, _, Tryz.func251, by kernel_rfl, rfl⟩
theorem co252 : CallOk Tryz.prog 252 := ⟨_, _, Tryz.func252, by kernel_rfl, rfl⟩
theorem co265 : CallOk Tryz.prog 265 := ⟨_, _, Tryz.func265, by kernel_rfl, rfl⟩
theorem co266 : CallOk Tryz.prog 266 := ⟨_, _, Tryz.func266, by kernel_rfl, rfl⟩
theorem co267 : CallOk Tryz.prog 267 := ⟨_, _, Tryz.func267, by kernel_rfl, rfl⟩
theorem co268 : CallOk Tryz.prog 268 := ⟨_, _, Tryz.func268, by kernel_rfl, rfl⟩
theorem co269 : CallOk Tryz.prog 269 := ⟨_, _, Tryz.func269, by kernel_rfl, rfl⟩
theorem co270 : CallOk Tryz.prog 270 := ⟨_, _, Tryz.func270, by kernel_rfl, rfl⟩
theorem co271 : CallOk Tryz.prog 271 := ⟨_, _, Tryz.func271, by kernel_rfl, rfl⟩
theorem co272 : CallOk Tryz.prog 272 := ⟨_, _, Tryz.func272, by kernel_rfl, rfl⟩
theorem co273 : CallOk Tryz.prog 273 := ⟨_, _, Tryz.func273, by kernel_rfl, rfl⟩
theorem co274 : CallOk Tryz.prog 274 := ⟨_, _, Tryz.func274, by kernel_rfl, rfl⟩
theorem co275 : CallOk Tryz.prog 275 := ⟨_, _, Tryz.func275, by kernel_rfl, rfl⟩
theorem co276 : CallOk Tryz.prog 276 := ⟨_, _, Tryz.func276, by kernel_rfl, rfl⟩
theorem co277 : CallOk Tryz.prog 277 := ⟨_, _, Tryz.func277, by kernel_rfl, rfl⟩
theorem co278 : CallOk Tryz.prog 278 := ⟨_, _, Tryz.func278, by kernel_rfl, rfl⟩
theorem co279 : CallOk Tryz.prog 279 := ⟨_, _, Tryz.func279, by kernel_rfl, rfl⟩
theorem co285 : CallOk Tryz.prog 285 := ⟨_, _, Tryz.func285, by kernel_rfl, rfl⟩
theorem co286 : CallOk Tryz.prog 286 := ⟨_, _, Tryz.func286, by kernel_rfl, rfl⟩
theorem co287 : CallOk Tryz.prog 287 := ⟨_, _, Tryz.func287, by kernel_rfl, rfl⟩
theorem co288 : CallOk Tryz.prog 288 := ⟨_, _, Tryz.func288, by kernel_rfl, rfl⟩
theorem co295 : CallOk Tryz.prog 295 := ⟨_, _, Tryz.func295, by kernel_rfl, rfl⟩
theorem co296 : CallOk Tryz.prog 296 := ⟨_, _, Tryz.func296, by kernel_rfl, rfl⟩
theorem co298 : CallOk Tryz.prog 298 := ⟨_, _, Tryz.func298, by kernel_rfl, rfl⟩
theorem co299 : CallOk Tryz.prog 299 := ⟨_, _, Tryz.func299, by kernel_rfl, rfl⟩
theorem co300 : CallOk Tryz.prog 300 := ⟨_, _, Tryz.func300, by kernel_rfl, rfl⟩
theorem co301 : CallOk Tryz.prog 301 := ⟨_, _, Tryz.func301, by kernel_rfl, rfl⟩
theorem co302 : CallOk Tryz.prog 302 := ⟨_, _, Tryz.func302, by kernel_rfl, rfl⟩
theorem co303 : CallOk Tryz.prog 303 := ⟨_, _, Tryz.func303, by kernel_rfl, rfl⟩
theorem co304 : CallOk Tryz.prog 304 := ⟨_, _, Tryz.func304, by kernel_rfl, rfl⟩
theorem co305 : CallOk Tryz.prog 305 := ⟨_, _, Tryz.func305, by kernel_rfl, rfl⟩
end Go.Proofs.YtciimaabeabkdaaGreatDoor
section
namespace Go.MV
open Go Go.RowKit
theorem quo128 {m : Nat} (h : m < 18446744073709551616) : IntKind.u64.wrap (Int.tdiv (m : Int) 128) = ((m / 128 : Nat) : Int) := by
 have e : Int.tdiv (m : Int) 128 = ((m / 128 : Nat) : Int) := rfl
 rw [e, zK5 (by omega)]
theorem rem128 (m : Nat) : Int.tmod (m : Int) 128 = ((m % 128 : Nat) : Int) := rfl
theorem add128 (m : Nat) : intArith .add .u64 ((m % 128 : Nat) : Int) 128 = some ((m % 128 + 128 : Nat) : Int) := by
 show some (IntKind.u64.wrap (((m % 128 : Nat) : Int) + 128)) = _
 rw [zK5 (by omega)]
 rfl
theorem u8_conv {m : Nat} (h : m < 256) : IntKind.u8.wrap (m : Int) = ((UInt8.ofNat m).toNat : Int) := by
 rw [wrap_u8 (by omega), u8_toNat h]
theorem u64_byte (b : UInt8) : IntKind.u64.wrap (b.toNat : Int) = (b.toNat : Int) := by
 have := b.toNat_lt
 rw [zK5 (by omega)]
theorem numB_more {m : Nat} (h : 128 ≤ m) : numB m = UInt8.ofNat (m % 128 + 128) :: numB (m / 128) := by rw [numB, dif_neg (by omega)]
theorem numB_last {m : Nat} (h : m < 128) : numB m = [UInt8.ofNat m] := by rw [numB, dif_pos h]
theorem hash_take {b : Bs} {i : Nat} {c : UInt8} (h : b[i]? = some c) : hashB (b.take (i + 1)) = hashStep (hashB (b.take i)) c := by
 rw [List.take_add_one, h]
 simp [hashB]
theorem drop_at {α : Type} {l : List α} {i : Nat} {a : α} (h : l[i]? = some a) : l.drop i = a :: l.drop (i + 1) := by
 obtain ⟨hlt, e⟩ := zD.1 h
 rw [List.drop_eq_getElem_cons hlt, e]
end Go.MV
namespace Go.Proofs.YtciimaabeabkdaaGreatDoor
open Go Go.MV
theorem _root_.zA : type_of% @Nat.le_of_ble_eq_true := @Nat.le_of_ble_eq_true
theorem _root_.zD3 : type_of% @Tryz.underlying22 := @Tryz.underlying22
theorem _root_.zC1 : type_of% @Tryz.underlying5 := @Tryz.underlying5
theorem _root_.zS0 : type_of% @Tryz.underlying47 := @Tryz.underlying47
theorem _root_.zL0 : type_of% @Tryz.underlying9 := @Tryz.underlying9
theorem codeNum_spec (n : Nat) (hn : n < 18446744073709551616) (hl : (numB n).length ≤ 100) (S : MS) : MCalls Tryz.prog 170 [.int .u64 (n : Int)] S fun v σ' => v = .str (bs (numB n)) ∧ σ' = S := by
 refine zR Tryz.func170 V Tryz.ntmps170 (zA V) ?_
 refine zB <| qR V <| qA V V V <| qN <| zB <| qR V <| qA V V V <| qN <| zB <| zB0 <| mwp_row0 3 5 1 V (Nat.le_refl _) V V ?_
 refine zO4 (α := Nat × Bs) [] (fun x => [(0, .int .u64 (x.1 : Int)), (3, .lst (some (S.length + 0)) 1 (x.2.map encY))]) (fun x => [.row 5 1 x.2.length]) (fun x => x.2 ++ numB x.1 = numB n ∧ x.1 ≤ n) (fun x => x.1) (⟨n, []⟩) (Nat.le_refl _) (.nil) (.keep V (.keep V (.nil))) (⟨rfl, Nat.le_refl _⟩) (V) ?_
 rintro ⟨m, out⟩ ⟨he, hm⟩
 dsimp only at he hm ⊢
 have hol : out.length ≤ (numB n).length := by rw [← he, zE]; omega
 refine zB <| zB <| qR V <| qM V V V <| qC V V V V V <| qN ?_
 refine zM V (fun h5 => ?_) (fun h5 => ?_)
 ·
  have hge : 128 ≤ m := by simp at h5; omega
  refine zX <| zB <| zB0 <| qR V <| qM V V V <| qM V V V <| qO V <| op_rem V V V (by decide) (rem128 m) ?_
  refine qO V <| zH1 V V V (add128 m) <| qO V <| zL3 V zD3 zC1 V (u8_conv (show m % 128 + 128 < 256 by omega)) ?_
  refine qO V <| zL1 V zS0 el5 V V (by decide) (by decide) V V ?_
  refine qO V <| zK3 V zS0 el5 V V V (by simp) (by simp only [zE, zF, zF0, List.length_nil]; omega) (by simp only [zE, zF, zF0, List.length_nil]; omega) V ?_
  refine qA V V V <| qN <| qR V <| qM V V V <| qO V <| op_quo V V V (by decide) (quo128 (by omega)) ?_
  refine qA V V V <| qN ?_
  refine ⟨⟨m / 128, out ++ [UInt8.ofNat (m % 128 + 128)]⟩, _, by dsimp only; omega, ⟨by dsimp only; rw [← he, numB_more hge]; simp, by dsimp only; omega⟩, by rw [zE]; rfl, .new trivial .nil, (.nil), (.new' V (V) (.int _ _) (.new' V (by rw [List.map_append]; rfl) (.lst _ _ _ (fun s hs => by injection hs with hs; simp; omega) (by rw [flat_encY]; intro y hy; obtain ⟨z, _, rfl⟩ := List.mem_map.1 hy; exact .int _ _)) (.nil)))⟩
 ·
  have hlt : m < 128 := by simp at h5; omega
  refine zV1 <| zB <| qR V <| qM V V V <| qM V V V <| qO V <| zL3 V zD3 zC1 V (u8_conv (show m < 256 by omega)) ?_
  refine qO V <| zL1 V zS0 el5 V V (by decide) (by decide) V V ?_
  refine qO V <| zK3 V zS0 el5 V V V (by simp) (by simp only [zE, zF, zF0, List.length_nil]; omega) (by simp only [zE, zF, zF0, List.length_nil]; omega) V ?_
  refine qO V <| op_conv_bytes (l := out ++ [UInt8.ofNat m]) V zS0 zC1 zL0 V (by rw [List.map_append]; rfl) ?_
  refine qA V V V <| qN <| zH ?_
  exact zT (.inr V) Tryz.results170 V (.of_eq (by rw [← he, numB_last hlt])) (.str _) Vv
theorem _root_.zX2 : type_of% @Tryz.underlying3 := @Tryz.underlying3
theorem codeText_spec (s : Bs) (hs : s.length ≤ 1000000) (S : MS) : MCalls Tryz.prog 126 [.str (bs s)] S fun v σ' => v = .str (bs (textB s)) ∧ σ' = S := by
 refine zR Tryz.func126 V Tryz.ntmps126 (zA V) ?_
 have hl := (numB_len (show s.length < 2097152 by omega)).2
 refine zB <| qR V <| qA V V V <| qN <| zB <| qR V <| qM V V V <| qO V <| zO3 V zL0 V <| qO V <| zL3 V zX2 zD3 V (zK5 (by omega)) ?_
 refine qX V V V V co170 (codeNum_spec s.length (by omega) (by omega) _) ?_
 refine qM V V V <| qO V <| op_strcat V V V (by omega) ?_
 refine qA V V V <| qN <| zH ?_
 exact zT (.inr V) Tryz.results126 V (.of_eq (V)) (.str _) Vv
theorem codeHash_spec (b : Bs) (hlen : b.length ≤ 2000000) (S : MS) : MCalls Tryz.prog 65 [.str (bs b)] S fun v σ' => v = .int .u64 (hashB b) ∧ σ' = S := by
 refine zR Tryz.func65 V Tryz.ntmps65 (zA V) ?_
 have hlen' : b.length ≤ maxLen := by simp only [maxLen]; omega
 refine zB <| qR V <| qA V V V <| qN <| zB <| qR V <| qA V V V <| qN <| zB <| zB <| qR V <| qM V V V <| qO V <| zO3 V zL0 V <| qM V V V <| qN <| zB0 ?_
 refine zK2 (α := Nat) [(0, _), (6, _)] (fun i => [(7, .int .i64 (i : Int)), (3, .int .u64 (hashB (b.take i)))]) (fun i => []) (fun i => i ≤ b.length) (fun i => b.length - i) (0) (.keep V (.keep V (.nil))) (.keep V (.keep V (.nil))) (by omega) (V) ?_
 rintro i hi
 refine zB <| qR V <| qC V V V V V <| qN <| zB ?_
 refine zM V (fun h8 => ?_) (fun h8 => ?_)
 ·
  have hlt : i < b.length := by simpa using h8
  obtain ⟨c, hs⟩ : ∃ q_, b[i]? = some q_ := ⟨_, zC hlt⟩
  refine zX <| zB <| zB0 <| zB <| qR V <| qM V V V <| qA V V V <| qN <| qR V <| qM V V V <| qM V V V <| qM V V V <| qO V <| zJ5 V zL0 V V V hs <| qO V <| zL3 V zC1 zD3 V (u64_byte c) <| qO V <| op_bits V V V V <| qO V <| zH1 V V V V <| qA V V V <| qN <| qR V <| qO V <| zH1 V V V V ?_
  refine qM V V V <| qN ?_
  refine ⟨i + 1, by omega, by omega, rfl, (.keep V (.keep V (.nil))), (.eq V (zH2 hlt hlen') (.eq V (by rw [hash_take hs]; rfl) (.nil)))⟩
 ·
  have hge : i = b.length := by simp at h8; omega
  refine zV1 <| zB <| qR V <| qM V V V <| qA V V V <| qN <| zH ?_
  exact zT (.inr V) Tryz.results65 V (.of_eq (by rw [hge, List.take_length])) (.int _ _) Vv
end Go.Proofs.YtciimaabeabkdaaGreatDoor
end
namespace Go.MV
open Go Go.RowKit
section
def YStep (P : Program) (id : Nat) (xs : List MV) (S : MS) (b : Bool) (S' : MS) : Prop :=
 ∀ (L : MS) (rd : Option Nat) (o : Oper) (env : Env) (f : Operand) (args : Array Operand) (ts : Array TypeId), o.op = .call { callee := .value f, args := args, argTypes := ts } → evo env f = some (.yld id) → evos env args.toList = some xs →
  OpWp P rd o env (S ++ L) (fun v σ' => v = .bool b ∧ σ' = S' ++ L)
def IterOk (P : Program) (k : FuncId) (first caps : List MV) (ys : List (List MV)) (ok : MS → Prop) : Prop :=
 ∀ (id : Nat) (T : Nat → MS) (m : Nat), (∀ j, ok (T j)) → (∀ j y, j < m → ys[j]? = some y → YStep P id y (T j) true (T (j + 1))) →
  (m = ys.length → MCalls P k (first ++ [.yld id] ++ caps) (T 0) fun _ σ' => σ' = T m) ∧
  (∀ y, ys[m]? = some y → YStep P id y (T m) false (T (m + 1)) → MCalls P k (first ++ [.yld id] ++ caps) (T 0) fun _ σ' => σ' = T (m + 1))
theorem get_mid {A B : MS} {o : MObj} : (A ++ o :: B)[A.length]? = some o := by
 rw [List.getElem?_append_right (Nat.le_refl _), Nat.sub_self]; rfl
theorem _root_.zI4 : type_of% @get_mid := @get_mid
theorem set_mid {A B : MS} {o p : MObj} : (A ++ o :: B).set A.length p = A ++ p :: B := by
 rw [List.set_append_right _ _ (Nat.le_refl _), Nat.sub_self]; rfl
theorem _root_.zX4 : type_of% @set_mid := @set_mid
section
variable {P : Program} {rd : Option Nat} {N n : Nat} {Q : Exit → Env → MS → Prop} {env : Env} {S : MS}
end
end
section
theorem Rel.recell {g : Gh} {σ : MS} {w : World} (h : Rel g σ w) {id : Nat} {l l' : List MV} (hσ : σ[id]? = some (.cells l)) (hl : ∀ us, Rds g w l us → Rds g w l' us) : Rel g (σ.set id (.cells l')) w := by
 have hlt := (zD.1 hσ).1
 refine ⟨h.below, h.base, h.fresh, fun i hi => h.bkn i (by simpa using hi), fun t n ht => h.lgn t n (by simpa using ht), ?_⟩
 obtain ⟨own, ho⟩ := h.ex
 refine ⟨own, ⟨fun i o hi => ?_, ho.inj, fun i b hi => by have := ho.lt i b hi; exact ⟨by simpa using this.1, this.2⟩⟩⟩
 rw [List.getElem?_set] at hi
 split at hi
 ·rename_i e
  subst e
  injection hi with hi
  subst hi
  obtain ⟨b, us, ty, h1, h2, h3, h4, h5⟩ := ho.obj _ _ hσ
  exact ⟨b, us, ty, h1, h2, h3, h4, hl us h5⟩
 ·exact ho.obj i o hi
section
variable {P : Program} {rd : Option Nat} {N n : Nat} {c : Code} {Q : Exit → Env → MS → Prop} {env : Env} {S L : MS}
theorem mwp_cellrow {L' : MS} (k ty sz : Nat) {m : Nat} (hk : L[k]? = some (.cells [.lst0])) (hN : N ≤ S.length) (hm : L.length = m) (hL : L.set k (.cells [.lst (some (S.length + m)) sz []]) ++ [.row ty sz 0] = L') (h : mwp P rd N n c Q env (S ++ L')) : mwp P rd N n c Q env (S ++ L) := by
 subst hm hL
 refine mwp_ghost (fun g w tmps hr he => ?_) h
 obtain ⟨r1, l1, d1⟩ := tok_new hr ty sz
 have hlen : (S ++ L).length = S.length + L.length := zE
 refine ⟨_, ?_, he.mono l1, l1.toN N, fun F hF => hF.mono (l1.toN N)⟩
 have hlt := (zD.1 hk).1
 have e : S ++ (L.set k (.cells [.lst (some (S.length + L.length)) sz []]) ++ [.row ty sz 0]) = ((S ++ L) ++ [MObj.row ty sz 0]).set (S.length + k) (.cells [.lst (some (S.length + L.length)) sz []]) := by
  rw [zO, set_own, List.set_append_left _ _ hlt]
 rw [e]
 refine r1.recell (l := [.lst0]) (by rw [zO, getElem?_own, List.getElem?_append_left hlt]; exact hk) fun us hus => ?_
 obtain ⟨u, us', rfl, h1, h2⟩ := hus.uncons
 refine .cons ?_ ?_
 ·rw [h1.inv_lst0, ← hlen]; exact d1
 ·cases us' with
  | nil => exact .nil _ _
  | cons _ _ => have := h2.1; simp at this
theorem YStep.at0 {id : Nat} {xs : List MV} {S S' : MS} {b : Bool} (h : YStep P id xs S b S') {o : Oper} {f : Operand} {args : Array Operand} {ts : Array TypeId} (ho : o.op = .call { callee := .value f, args := args, argTypes := ts }) (hf : evo env f = some (.yld id)) (hx : evos env args.toList = some xs) : OpWp P rd o env S (fun v σ' => v = .bool b ∧ σ' = S') := by
 have := h [] rd o env f args ts ho hf hx
 simpa using this
end
section
variable {P : Program} {fn : Func} {S S' L : MS} {R : MV → MS → Prop} {env : Env}
theorem ret_noneT {e : Exit} (he : e = .normal ∨ e = .ret) (hres : fn.results = #[]) (hl : S.length ≤ S'.length) (hS : ClS S') (hR : R (.tup []) S') : BodyQ P fn S R e env S' := by
 have := zN2 (P := P) (env := env) (L := []) he hres hl hS hR
 rwa [List.append_nil] at this
theorem _root_.zV2 : type_of% @ret_noneT := @ret_noneT
theorem ret_tmpT {e : Exit} {t : Nat} {x y : MV} (he : e = .normal ∨ e = .ret) (hres : fn.results = #[.tmp t]) (hx : get env t = some x) (hs : Sub x y) (hc : Cl S'.length y) (hl : S.length ≤ S'.length) (hS : ClS S') (hR : R y S') : BodyQ P fn S R e env S' := by
 have := ret_tmpS (P := P) (env := env) (L := []) he hres hx hs hc hl hS hR
 rwa [List.append_nil] at this
end
section
variable {P : Program} {rd : Option Nat} {o : Oper} {env : Env} {S L L' R : MS} {K : MV → MS → Prop}
theorem get_mid_ {k : Nat} {ob : MObj} (h : L[k]? = some ob) : ((S ++ L) ++ R)[S.length + k]? = some ob := by
 rw [zO, getElem?_own]
 exact zQ h
theorem _root_.zL4 : type_of% @get_mid_ := @get_mid_
theorem set_mid_ {k : Nat} {ob p : MObj} (h : L[k]? = some ob) : ((S ++ L) ++ R).set (S.length + k) p = (S ++ L.set k p) ++ R := by
 rw [zO, set_own, set_app h, zO]
theorem op_load_mid {t : TypeId} {x : Operand} {k off : Nat} {l : List MV} {ta : Option Nat} {m : MV} (ho : o.op = .load t x) (hx : evo env x = some (.ref (S.length + k) off)) (hσ : L[k]? = some (.cells l)) (ht : tyAgg P t = some ta) (hm : loadMV ta l off = some m) (h : K m ((S ++ L) ++ R)) : OpWp P rd o env ((S ++ L) ++ R) K :=
 zJ ho hx (zL4 hσ) ht hm h
theorem _root_.zN4 : type_of% @op_load_mid := @op_load_mid
theorem op_store_mid {t : TypeId} {x y : Operand} {i off : Nat} {l : List MV} {m : MV} {k : Nat} (ho : o.op = .store t x y) (hx : evo env x = some (.ref (S.length + i) off)) (hy : evo env y = some m) (hσ : L[i]? = some (.cells l)) (hk : szOf P t = some k) (hm : m.cells.length = k)
  (h1 : m.cells.all MV.one = true) (hle : off + k ≤ l.length) (hL : L.set i (.cells (setMany l off m.cells)) = L') (h : K (.tup []) ((S ++ L') ++ R)) : OpWp P rd o env ((S ++ L) ++ R) K :=
 zK4 ho hx hy (zL4 hσ) hk hm h1 hle (by rw [set_mid_ hσ, hL]; exact h)
theorem _root_.zB4 : type_of% @op_store_mid := @op_store_mid
theorem op_append_mid {t e sz bytes k n : Nat} {x y : Operand} {tok : Option Nat} {xs ys : List MV} (ho : o.op = .call { callee := .builtin .append, args := #[x, y], argTypes := #[t, t] }) (hu : P.underlying t = some (.slice e)) (he : elemOk P e sz bytes = true)
  (hx : evo env x = some (.lst (some (S.length + k)) sz xs)) (hy : evo env y = some (.lst tok sz ys)) (hσ : L[k]? = some (.row e sz n)) (hn : xs.length = n) (hb : (n + ys.length) * bytes ≤ 140737488355328) (hml : n + ys.length ≤ 4611686018427387904)
  (hL : L.set k (.row e sz (n + ys.length)) = L') (hK : K (.lst (some (S.length + k)) sz (xs ++ ys)) ((S ++ L') ++ R)) : OpWp P rd o env ((S ++ L) ++ R) K :=
 op_append ho hu he hx hy (zL4 hσ) hn hb hml (by rw [set_mid_ hσ, hL]; exact hK)
end
end
section
section
variable {P : Program} {rd : Option Nat} {o : Oper} {env : Env} {σ : MS} {K : MV → MS → Prop}
end
end
abbrev Tk := Int × Int
def encT (t : Tk) : MV := .agg [.int .i64 t.1, .int .u64 t.2]
theorem encT_agg (t : Tk) : encT t = .agg (encT t).cells ∨ [encT t] = (encT t).cells := .inl rfl
theorem cl_encT (n : Nat) (t : Tk) : Cl n (encT t) := .agg _ fun x hx => by
 simp only [List.mem_cons, List.not_mem_nil, or_false] at hx
 rcases hx with rfl | rfl
 ·exact .int _ _
 ·exact .int _ _
theorem cl_clock (n : Nat) (c : List Tk) : Cl n (.lst none 2 (c.map encT)) := cl_lst (cl_encT n) encT_agg
def okAt (c : List Tk) (j : Nat) : Bool := match c[j]? with
 | none => true
 | some t => !decide (t.1 < 0) && !decide (1000000 < t.1) && !(t.2 == 0) && (j == 0 || (match c[j - 1]? with | some p => !decide (t.1 ≤ p.1) | none => true))
def isClockF (c : List Tk) : Bool := decide (∀ j, j < c.length → okAt c j = true) && decide (c.length ≤ 40)
theorem isClock_false {c : List Tk} {i : Nat} (hi : i < c.length) (h : okAt c i = false) : isClockF c = false := by
 unfold isClockF
 rw [Bool.and_eq_false_iff]
 left
 rw [decide_eq_false_iff_not]
 intro hc
 rw [hc i hi] at h
 cases h
theorem isClock_end {c : List Tk} (h : ∀ j, j < c.length → okAt c j = true) : isClockF c = decide ((c.length : Int) ≤ 40) := by
 unfold isClockF
 rw [decide_eq_true h, Bool.true_and]
 simp only [decide_eq_decide]
 omega
def ofF : List Tk → Int → Int
 | [], _ => 0
 | t :: c, w => if t.1 = w then t.2 else ofF c w
def mergeF {α : Type} (cmp : α → α → Int) (bo : α → α → α) : List α → List α → List α
 | [], b => b
 | a, [] => a
 | x :: a, y :: b => if cmp x y < 0 then x :: mergeF cmp bo a (y :: b) else if cmp x y > 0 then y :: mergeF cmp bo (x :: a) b else bo x y :: mergeF cmp bo a b
 termination_by a b => a.length + b.length
theorem merge_nil {α : Type} {cmp : α → α → Int} {bo : α → α → α} (a : List α) : mergeF cmp bo a [] = a := by
 cases a <;> simp [mergeF]
theorem nil_merge {α : Type} {cmp : α → α → Int} {bo : α → α → α} (a : List α) : mergeF cmp bo [] a = a := by simp [mergeF]
def cmpI (a b : Int) : Int := if a < b then -1 else if b < a then 1 else 0
def bothT (x y : Tk) : Tk := (x.1, if y.2 > x.2 then y.2 else x.2)
def joinF (a b : List Tk) : List Tk := mergeF (fun x y => cmpI x.1 y.1) bothT a b
def cmpF (a b : List Tk) : Int := if a = b then 0 else if joinF a b = b then -1 else if joinF a b = a then 1 else 2
def Up (c : List Tk) : Prop := c.Pairwise fun x y => x.1 < y.1
def Pos (c : List Tk) : Prop := ∀ t ∈ c, 0 < t.2 ∧ t.2 < 18446744073709551616
theorem of_mem {c : List Tk} (hs : Up c) {t : Tk} (h : t ∈ c) : ofF c t.1 = t.2 := by
 induction c with
 | nil => cases h
 | cons s c ih =>
  have hs' := zI5.1 hs
  rcases List.mem_cons.1 h with rfl | h
  ·rw [ofF, if_pos rfl]
  ·have := hs'.1 t h
   rw [ofF, if_neg (by omega)]
   exact ih hs'.2 h
section
section
variable {P : Program} {rd : Option Nat} {o : Oper} {env : Env} {σ : MS} {K : MV → MS → Prop}
theorem op_indexAddr_arr {t e : TypeId} {len sz id off i : Nat} {x y : Operand} {k : IntKind} {n : Int} (ho : o.op = .indexAddr t x y) (hu : P.underlying t = some (.array len e)) (hs : szOf P e = some sz) (hx : evo env x = some (.ref id off)) (hy : evo env y = some (.int k n)) (hn : n = (i : Int)) (hi : i < len) (h : K (.ref id (off + i * sz)) σ) : OpWp P rd o env σ K := by
 subst hn
 refine OpWp.of_run (by simp [ho]) fun g w a hr hop => ?_
 obtain ⟨b, hb, e1⟩ := (hop x (by simp [ho, Op.operands]) _ hx).inv_ref
 have e2 := (hop y (by simp [ho, Op.operands]) _ hy).inv_int
 refine ⟨.pointer (some ⟨b, off + i * sz, none⟩), w, ?_, .same h hr (.ref _ _ b hb)⟩
 simp [execOp, ho, Instr.indexAt, e1, e2, asIntOf, run_underlying hu, Instr.sureAddr, hi, zC5 hs, zH4]
end
end
def encX (s : Bs) : MV := .str (bs s)
theorem cl_encX (n : Nat) (s : Bs) : Cl n (encX s) := .str _
theorem encX_one (s : Bs) : encX s = .agg (encX s).cells ∨ [encX s] = (encX s).cells := .inr rfl
theorem cl_texts (n : Nat) (l : List Bs) : Cl n (.lst none 1 (l.map encX)) := cl_lst (cl_encX n) encX_one
theorem _root_.zL5 : type_of% @cl_texts := @cl_texts
def encC (c : List Tk) : MV := .lst none 2 (c.map encT)
theorem cl_encC (n : Nat) (c : List Tk) : Cl n (encC c) := cl_clock n c
theorem encC_one (c : List Tk) : encC c = .agg (encC c).cells ∨ [encC c] = (encC c).cells := .inr rfl
theorem cl_clocks (n : Nat) (l : List (List Tk)) : Cl n (.lst none 1 (l.map encC)) := cl_lst (cl_encC n) encC_one
inductive Val where
 | mk (n m : Int) (s : List Bs) (c : List (List Tk)) (v : List Val)
 deriving Inhabited
noncomputable instance : DecidableEq Val := fun a b => Classical.propDecidable (a = b)
mutual
def encV : Val → MV
 | .mk n m s c v => .agg [.int .u64 n, .int .u64 m, .lst none 1 (s.map encX), .lst none 1 (c.map encC), .lst none 5 (encVs v)]
def encVs : List Val → List MV
 | [] => []
 | x :: l => encV x :: encVs l
end
theorem encVs_eq : ∀ l : List Val, encVs l = l.map encV
 | [] => by simp [encVs]
 | x :: l => by simp [encVs, encVs_eq l]
theorem encVs_length (l : List Val) : (encVs l).length = l.length := by rw [encVs_eq, zF]
theorem _root_.zX0 : type_of% @encVs_length := @encVs_length
theorem encVs_get {l : List Val} {i : Nat} {s : Val} (h : l[i]? = some s) : (encVs l)[i]? = some (encV s) := by rw [encVs_eq, zI0, h]; rfl
theorem _root_.zC4 : type_of% @encVs_get := @encVs_get
theorem encVs_append (a b : List Val) : encVs (a ++ b) = encVs a ++ encVs b := by simp [encVs_eq]
mutual
theorem cl_encV (k : Nat) : ∀ x : Val, Cl k (encV x)
 | .mk n m s c v => by
  refine .agg _ fun x hx => ?_
  simp only [encV, List.mem_cons, List.not_mem_nil, or_false] at hx
  rcases hx with rfl | rfl | rfl | rfl | rfl
  ·exact .int _ _
  ·exact .int _ _
  ·exact zL5 k s
  ·exact cl_clocks k c
  ·exact .lst none 5 _ (fun t ht => by cases ht) (cl_encVs k v)
theorem cl_encVs (k : Nat) : ∀ (l : List Val), ∀ x ∈ flat (encVs l), Cl k x
 | [], x, hx => by simp [encVs, flat] at hx
 | s :: l, x, hx => by
  rw [encVs, zZ4, zQ2] at hx
  rcases hx with hx | hx
  ·have h := cl_encV k s
   cases s with
   | mk n m ss c v =>
    cases h with
    | agg _ h => exact h x hx
  ·exact cl_encVs k l x hx
end
theorem _root_.zO1 : type_of% @cl_encV := @cl_encV
def Val.nv : Val → Int | .mk n _ _ _ _ => n
def Val.mv : Val → Int | .mk _ m _ _ _ => m
def Val.sv : Val → List Bs | .mk _ _ s _ _ => s
def Val.cv : Val → List (List Tk) | .mk _ _ _ c _ => c
def Val.vv : Val → List Val | .mk _ _ _ _ v => v
mutual
def vdepth : Val → Nat
 | .mk _ _ _ _ v => 1 + vdepthL v
def vdepthL : List Val → Nat
 | [] => 0
 | x :: l => max (vdepth x) (vdepthL l)
end
theorem vdepth_mem {l : List Val} {x : Val} (h : x ∈ l) : vdepth x ≤ vdepthL l := by
 induction l with
 | nil => cases h
 | cons y l ih =>
  rw [vdepthL]
  rcases List.mem_cons.1 h with rfl | h
  ·omega
  ·have := ih h; omega
def risesF : List Bs → Bool
 | [] => true
 | [_] => true
 | a :: b :: l => Op.bytesLess a b && risesF (b :: l)
def shortF (l : List Bs) : Bool := l.all fun s => decide (s.length ≤ 16)
def tickC (x y : Tk) : Int := if cmpI x.1 y.1 ≠ 0 then cmpI x.1 y.1 else cmpI x.2 y.2
def byTicksF : List Tk → List Tk → Int
 | [], [] => 0
 | [], _ :: _ => -1
 | _ :: _, [] => 1
 | x :: a, y :: b => if tickC x y ≠ 0 then tickC x y else byTicksF a b
def pairF (a b : List Tk) : Bool := decide (byTicksF a b < 0) && decide (cmpF a b = 2)
def pairsF : List (List Tk) → Bool
 | [] => true
 | a :: l => l.all (pairF a) && pairsF l
def isCauseF (l : List (List Tk)) : Bool := l.all isClockF && pairsF l
def noV : Val := .mk 0 0 [] [] []
section
def exCode : Exit → Code
 | .ret => .ret
 | .exit x => .exit x
 | _ => .skip
theorem first_bad (p : Nat → Bool) : ∀ n : Nat, (∀ j, j < n → p j = true) ∨ ∃ m, m < n ∧ p m = false ∧ ∀ j, j < m → p j = true
 | 0 => .inl fun j h => by omega
 | n + 1 => by
  rcases first_bad p n with hall | ⟨m, h1, h2, h3⟩
  ·cases h : p n with
   | false => exact .inr ⟨n, by omega, h, hall⟩
   | true =>
    refine .inl fun j hj => ?_
    rcases Nat.lt_or_ge j n with h' | h'
    ·exact hall j h'
    ·have : j = n := by omega
     subst this
     exact h
  ·exact .inr ⟨m, by omega, h2, h3⟩
theorem iterOk_of {P : Program} {k : FuncId} {first caps : List MV} {ys : List (List MV)} {ok : MS → Prop} (h : ∀ (id : Nat) (T : Nat → MS) (m : Nat), (∀ j, ok (T j)) → m ≤ ys.length → (∀ j y, j < m → ys[j]? = some y → YStep P id y (T j) true (T (j + 1))) → (∀ j y, j = m → ys[j]? = some y → YStep P id y (T j) false (T (j + 1))) →
  MCalls P k (first ++ [.yld id] ++ caps) (T 0) fun v σ' => v = .tup [] ∧ σ' = T (if m < ys.length then m + 1 else m)) : IterOk P k first caps ys ok := by
 intro id T m hok hyt
 refine ⟨fun hm => ?_, fun y hy hyf => ?_⟩
 ·refine (h id T m hok (by omega) hyt (fun j y hj hy => ?_)).mono ?_
  ·have := (zD.1 hy).1; omega
  ·rintro v σ' ⟨_, h⟩
   rw [h, if_neg (by omega)]
 ·have hm := (zD.1 hy).1
  refine (h id T m hok (by omega) hyt (fun j z hj hz => ?_)).mono ?_
  ·subst hj
   rw [hy] at hz
   injection hz with hz
   subst hz
   exact hyf
  ·rintro v σ' ⟨_, h⟩
   rw [h, if_pos hm]
section
variable {P : Program} {rd : Option Nat} {N n : Nat} {Q : Exit → Env → MS → Prop} {env : Env} {S : MS}
theorem evos_len {env : Env} : ∀ (l : List Operand) (ys : List MV), evos env l = some ys → l.length = ys.length := by
 intro l
 induction l with
 | nil => intro ys h; injection h with h; subst h; rfl
 | cons x l ih =>
  intro ys h
  simp only [evos] at h
  cases hx : evo env x with
  | none => rw [hx] at h; cases h
  | some m =>
   rw [hx] at h
   cases hl : evos env l with
   | none => simp only [hl] at h; cases h
   | some ms =>
    simp only [hl] at h
    injection h with h
    subst h
    simp [ih _ hl]
theorem cls_swap {A B B' C0 C' : MS} {s s' : LoopState} {q q' : Option Code} {ls : LS} {l : Nat} (h1 : B.length = l) (h2 : B'.length = l) (hB : ∀ o, o ∈ B' → ∀ n, (A ++ C0).length ≤ n → o.cl n) (hm : C0.length = l) (h : ClS ((A ++ B) ++ .loop s q ls :: C')) : ClS ((A ++ B') ++ .loop s' q' ls :: C') := by
 have hle : ((A ++ B') ++ MObj.loop s' q' ls :: C').length = ((A ++ B) ++ MObj.loop s q ls :: C').length := by simp [h1, h2]
 intro id o hid
 rw [hle]
 by_cases c1 : id < A.length
 ·refine h id o ?_
  rw [zO, List.getElem?_append_left c1] at hid ⊢
  exact hid
 ·by_cases c2 : id < (A ++ B').length
  ·rw [List.getElem?_append_left c2, List.getElem?_append_right (by omega)] at hid
   refine hB o (zW hid) _ ?_
   simp only [zE, zF0]
   omega
  ·by_cases c3 : id = (A ++ B').length
   ·subst c3
    rw [zI4] at hid
    injection hid with hid
    subst hid
    have := h (A ++ B).length (.loop s q ls) zI4
    exact this
   ·refine h id o ?_
    have hl : (A ++ B).length = (A ++ B').length := by simp [h1, h2]
    rw [List.getElem?_append_right (by omega)] at hid ⊢
    rw [hl]
    obtain ⟨d, hd⟩ : ∃ d, id - (A ++ B').length = d + 1 := ⟨id - (A ++ B').length - 1, by omega⟩
    rw [hd] at hid ⊢
    simpa using hid
theorem _root_.zM5 : type_of% @cls_swap := @cls_swap
theorem cls_loop {A : MS} {s : LoopState} {q : Option Code} {ps : Array Tmp} {assign body : Code} {env : Env} {n : Nat} (h : ClS A) (he : ∀ t x, get env t = some x → Cl A.length x) : ClS (A ++ [.loop s q ⟨ps, assign, body, env, n⟩]) := by
 intro id o hid
 by_cases c : id < A.length
 ·rw [List.getElem?_append_left c] at hid
  have := h id o hid
  cases o with
  | cells l => exact fun x hx => (this x hx).mono (by simp)
  | loop s p ls => exact fun t x hx => (this t x hx).mono (by simp)
  | row _ _ _ => exact trivial
  | mp _ es => exact fun e he => (this e he).mono (by simp)
  | mit m _ _ _ => exact Nat.lt_of_lt_of_le this (by simp)
  | pin _ _ => exact trivial
  | tcells _ l => exact fun x hx => (this x hx).mono (by simp)
  | orow _ _ _ l => exact fun x hx => (this x hx).mono (by simp)
  | fixed _ _ => exact trivial
  | gone => exact trivial
 ·rw [List.getElem?_append_right (by omega)] at hid
  obtain ⟨d, hd⟩ : ∃ d, id - A.length = d := ⟨_, rfl⟩
  rw [hd] at hid
  cases d with
  | zero =>
   simp at hid
   subst hid
   exact fun t x hx => (he t x hx).mono (by simp)
  | succ d => simp at hid
theorem IterOk.weak {P : Program} {k : FuncId} {first caps : List MV} {ys : List (List MV)} {ok ok' : MS → Prop} (h : IterOk P k first caps ys ok) (hw : ∀ σ, ok' σ → ok σ) : IterOk P k first caps ys ok' :=
 fun id T m hok hyt => h id T m (fun j => hw _ (hok j)) hyt
theorem mwp_rangeB {f : Operand} {ps : Array Tmp} {assign body : Code} {k : FuncId} {first caps : List MV} {ys : List (List MV)} {ok : MS → Prop} {L0 : MS} (ex : Exit) (hex : ex = .ret ∨ ∃ x, ex = .exit x) (p : Nat → Bool) (L Ls : Nat → MS) (hlen : ∀ j, (L j).length = (L 0).length) (hlens : ∀ j, (Ls j).length = (L 0).length) (hL0 : L0 = L 0)
  (hcl : ∀ j o, o ∈ L j → ∀ n, (S ++ L 0).length ≤ n → o.cl n) (hcls : ∀ j o, o ∈ Ls j → ∀ n, (S ++ L 0).length ≤ n → o.cl n)
  (hf : evo env f = some (.fn (.func k) first caps)) (hb : CallOk P k) (hrd : rd = none) (hN : N ≤ S.length)
  (hit : IterOk P k first caps ys (fun σ => ok σ ∧ ClS σ)) (hok : ∀ j, ok ((S ++ L j) ++ [.loop .ready none ⟨ps, assign, body, env, n⟩])) (hoks : ∀ j s q, ok ((S ++ Ls j) ++ [.loop s q ⟨ps, assign, body, env, n⟩])) (hpb : ps.toList.all (fun t => Nat.blt t n) = true) (hps : ∀ y ∈ ys, ps.size = y.length)
  (hround : ∀ j y, ys[j]? = some y → (∀ i, i < j → p i = true) → ∀ L' : MS, mwp P (some (S ++ L 0).length) ((S ++ L j).length + 1 + L'.length) n assign (fun e env1 σ1 => e = .normal ∧ ∃ J, σ1 = ((S ++ L j) ++ .loop .ready none ⟨ps, assign, body, env, n⟩ :: L') ++ J ∧
   mwp P (some (S ++ L 0).length) ((S ++ L j).length + 1 + L'.length) n body (fun e2 env2 σ2 =>
    (p j = true ∧ e2 = .normal ∧ ∃ junk, σ2 = ((S ++ L (j + 1)) ++ .loop .busy none ⟨ps, assign, body, env, n⟩ :: L') ++ junk) ∨
    (p j = false ∧ e2 = ex ∧ ∃ junk, σ2 = ((S ++ Ls j) ++ .loop .busy none ⟨ps, assign, body, env, n⟩ :: L') ++ junk)) env1 (((S ++ L j) ++ .loop .busy none ⟨ps, assign, body, env, n⟩ :: L') ++ J)) (bindPs ps.toList y env) ((S ++ L j) ++ .loop .ready none ⟨ps, assign, body, env, n⟩ :: L'))
  (hend : (∀ j, j < ys.length → p j = true) → Q .normal env ((S ++ L ys.length) ++ [.gone]))
  (hstop : ∀ j y, ys[j]? = some y → p j = false → Q ex env ((S ++ Ls j) ++ [.gone])) : mwp P rd N n (.rangeFunc f ps assign body) Q env (S ++ L0) := by
 subst hL0 hrd
 have hid : ∀ j, (S ++ L j).length = (S ++ L 0).length := fun j => by simp [hlen j]
 have hids : ∀ j, (S ++ Ls j).length = (S ++ L 0).length := fun j => by simp [hlens j]
 refine zG1 fun hce hcs => ?_
 have hc0 : ∀ s q, ClS ((S ++ L 0) ++ [.loop s q ⟨ps, assign, body, env, n⟩]) := fun s q => cls_loop hcs hce
 refine mwp_range hf hb (fun id h => by cases h) (by simp; omega) ?_
 have hstep : ∀ j y, ys[j]? = some y → (∀ i, i < j → p i = true) → ∀ (K : MV → MS → Prop) (L' : MS) (rd' : Option Nat) (o : Oper) (env' : Env) (f' : Operand) (args : Array Operand) (ts : Array TypeId), o.op = .call { callee := .value f', args := args, argTypes := ts } → evo env' f' = some (.yld (S ++ L 0).length) → evos env' args.toList = some y →
   (p j = true → K (.bool true) ((S ++ L (j + 1)) ++ .loop .ready none ⟨ps, assign, body, env, n⟩ :: L')) →
   (p j = false → K (.bool false) ((S ++ Ls j) ++ .loop .done (some (exCode ex)) ⟨ps, assign, body, env, n⟩ :: L')) →
   OpWp P rd' o env' ((S ++ L j) ++ .loop .ready none ⟨ps, assign, body, env, n⟩ :: L') K := by
  intro j y hy hbef K L' rd' o env' f' args ts ho hf' hargs hk1 hk2
  have hsz : args.size = y.length := by
   have := evos_len _ _ hargs
   simpa using this
  have hget : ((S ++ L j) ++ MObj.loop .ready none ⟨ps, assign, body, env, n⟩ :: L')[(S ++ L 0).length]? = some (.loop .ready none ⟨ps, assign, body, env, n⟩) := by
   rw [← hid j]; exact zI4
  have hN' : ((S ++ L j) ++ MObj.loop .ready none ⟨ps, assign, body, env, n⟩ :: L').length = (S ++ L j).length + 1 + L'.length := by
   rw [zE, zF0]; omega
  refine op_yield ho hf' hargs hget (by rw [hsz]; exact hps y (zW hy)) hpb ?_
  rw [hN']
  refine zG1 fun _ hcl0 => ?_
  refine mwp_mono (hround j y hy hbef L') ?_
  rintro e env1 σ1 ⟨rfl, J, rfl, h⟩
  refine ⟨rfl, none, zQ hget, ?_⟩
  have hset : (((S ++ L j) ++ MObj.loop .ready none ⟨ps, assign, body, env, n⟩ :: L') ++ J).set (S ++ L 0).length (.loop .busy none ⟨ps, assign, body, env, n⟩) = ((S ++ L j) ++ .loop .busy none ⟨ps, assign, body, env, n⟩ :: L') ++ J := by
   rw [set_app hget, ← hid j]; exact congrArg (· ++ J) zX4
  rw [hset]
  refine mwp_mono h ?_
  rintro e2 env2 σ2 (⟨hp, rfl, junk, rfl⟩ | ⟨hp, rfl, junk, rfl⟩)
  ·refine ⟨_, junk, none, ⟨ps, assign, body, env, n⟩, rfl, ?_, .inr (zM5 (hlen j) (hlen (j + 1)) (hcl (j + 1)) (by simp) hcl0), ?_, ?_⟩
   ·have h1 := hid (j + 1)
    have h2 := hid j
    simp only [zE, zF0] at *
    omega
   ·rw [← hid (j + 1)]; exact zI4
   ·show K (.bool true) _
    rw [← hid (j + 1), zX4]
    exact hk1 hp
  ·refine ⟨_, junk, none, ⟨ps, assign, body, env, n⟩, rfl, ?_, .inr (zM5 (hlen j) (hlens j) (hcls j) (by simp) hcl0), ?_, ?_⟩
   ·have h1 := hids j
    have h2 := hid j
    simp only [zE, zF0] at *
    omega
   ·rw [← hids j]; exact zI4
   ·rcases hex with rfl | ⟨x, rfl⟩
    ·show K (.bool false) _
     rw [← hids j, zX4]
     exact hk2 hp
    ·show K (.bool false) _
     rw [← hids j, zX4]
     exact hk2 hp
 have hgo : ∀ m, (∀ j, j < m → p j = true) → ∀ (T : Nat → MS), (∀ j, j ≤ m → T j = (S ++ L j) ++ [.loop .ready none ⟨ps, assign, body, env, n⟩]) → ∀ j y, j < m → ys[j]? = some y → YStep P (S ++ L 0).length y (T j) true (T (j + 1)) := by
  intro m hm T hT j y hj hy L' rd' o env' f' args ts ho hf' hargs
  have e1 : ∀ i (X : MObj), ((S ++ L i) ++ [X]) ++ L' = (S ++ L i) ++ X :: L' := fun i X => by simp
  rw [hT j (by omega), hT (j + 1) (by omega), e1, e1]
  exact hstep j y hy (fun i hi => hm i (by omega)) _ L' rd' o env' f' args ts ho hf' hargs (fun _ => ⟨rfl, rfl⟩) (fun h => by rw [hm j hj] at h; cases h)
 rcases first_bad p ys.length with hall | ⟨m, hm, hp, hbef⟩
 ·refine ((hit (S ++ L 0).length (fun j => (S ++ L j) ++ [.loop .ready none ⟨ps, assign, body, env, n⟩]) ys.length (fun j => ⟨hok j, zM5 (hlen 0) (hlen j) (hcl j) V (hc0 .ready none)⟩) (hgo ys.length hall _ (fun j _ => V))).1 V).mono ?_
  rintro v σ' rfl
  refine ⟨.ready, none, by rw [← hid ys.length]; exact zI4, by simp, ?_⟩
  show Q .normal env _
  rw [← hid ys.length, zX4]
  exact hend hall
 ·obtain ⟨y, hy⟩ : ∃ y, ys[m]? = some y := ⟨_, zC hm⟩
  let q : Code := exCode ex
  let T : Nat → MS := fun j => if j ≤ m then (S ++ L j) ++ [.loop .ready none ⟨ps, assign, body, env, n⟩] else (S ++ Ls m) ++ [.loop .done (some q) ⟨ps, assign, body, env, n⟩]
  have hT : ∀ j, j ≤ m → T j = (S ++ L j) ++ [.loop .ready none ⟨ps, assign, body, env, n⟩] := fun j hj => by simp [T, hj]
  have hT1 : T (m + 1) = (S ++ Ls m) ++ [.loop .done (some q) ⟨ps, assign, body, env, n⟩] := by simp [T]
  have h0 : T 0 = (S ++ L 0) ++ [.loop .ready none ⟨ps, assign, body, env, n⟩] := hT 0 (by omega)
  have hokT : ∀ j, ok (T j) ∧ ClS (T j) := fun j => by
   by_cases hj : j ≤ m
   ·rw [hT j hj]; exact ⟨hok j, zM5 (hlen 0) (hlen j) (hcl j) rfl (hc0 .ready none)⟩
   ·simp only [T, if_neg hj]; exact ⟨hoks m _ _, zM5 (hlen 0) (hlens m) (hcls m) rfl (hc0 .ready none)⟩
  have := (hit (S ++ L 0).length T m hokT (hgo m hbef T hT)).2 y hy (by
   intro L' rd' o env' f' args ts ho hf' hargs
   have e1 : ∀ (A : MS) (X : MObj), ((S ++ A) ++ [X]) ++ L' = (S ++ A) ++ X :: L' := fun i X => by simp
   rw [hT m (Nat.le_refl _), hT1, e1, e1]
   exact hstep m y hy hbef _ L' rd' o env' f' args ts ho hf' hargs (fun h => by rw [hp] at h; cases h) (fun _ => ⟨rfl, rfl⟩))
  rw [h0] at this
  refine this.mono ?_
  rintro v σ' rfl
  rw [hT1]
  refine ⟨.done, some q, by rw [← hids m]; exact zI4, by simp, ?_⟩
  rw [← hids m, zX4]
  rcases hex with rfl | ⟨x, rfl⟩
  ·exact hstop m y hy hp
  ·exact hstop m y hy hp
end
section
variable {P : Program} {rd : Option Nat} {o : Oper} {env : Env} {σ : MS} {K : MV → MS → Prop}
theorem op_store_last {t : TypeId} {x y : Operand} {off : Nat} {l : List MV} {m : MV} {k : Nat} (ho : o.op = .store t x y) (hx : evo env x = some (.ref σ.length off)) (hy : evo env y = some m) (hk : szOf P t = some k) (hm : m.cells.length = k) (h1 : m.cells.all MV.one = true) (hle : off + k ≤ l.length)
  (h : K (.tup []) (σ ++ [.cells (setMany l off m.cells)])) : OpWp P rd o env (σ ++ [.cells l]) K :=
 zK4 ho hx hy zI4 hk hm h1 hle (by rw [zX4]; exact h)
theorem _root_.zY2 : type_of% @op_store_last := @op_store_last
theorem YStep.at2 {id : Nat} {xs : List MV} {S S' J J' : MS} {b : Bool} (h : YStep P id xs S b S') {f : Operand} {args : Array Operand} {ts : Array TypeId} (ho : o.op = .call { callee := .value f, args := args, argTypes := ts }) (hf : evo env f = some (.yld id)) (hx : evos env args.toList = some xs) (hk : K (.bool b) ((S' ++ J) ++ J')) : OpWp P rd o env ((S ++ J) ++ J') K := by
 have := h (J ++ J') rd o env f args ts ho hf hx
 rw [← zO] at this
 refine this.mono ?_
 rintro v σ' ⟨rfl, rfl⟩
 rw [← zO]
 exact hk
end
theorem get_box {A R : MS} {x x' y : MObj} : ((A ++ [x, y]) ++ R)[(A ++ [x']).length]? = some y := by rw [zE, zO, getElem?_own]; rfl
theorem get_rt {A L' : MS} {x y c : MObj} : (A ++ ((y :: L') ++ [c]))[(A ++ x :: L').length]? = some c := by
 have e : (A ++ x :: L').length = (A ++ y :: L').length := by simp
 rw [← zO, e]
 exact zI4
theorem mwp_abs {P : Program} {rd : Option Nat} {N n : Nat} {c : Code} {Q : Exit → Env → MS → Prop} {env : Env} {A R : MS} (h : ∀ R', R' = R → mwp P rd N n c Q env (A ++ R')) : mwp P rd N n c Q env (A ++ R) := h R rfl
section
variable {P : Program} {rd : Option Nat} {o : Oper} {env : Env} {σ σ2 : MS} {K : MV → MS → Prop}
theorem op_viewTo {x y : MV} (h : OpWp P rd o env σ fun v σ' => v = x ∧ σ' = σ2) (hs : Sub x y) (hk : K y σ2) : OpWp P rd o env σ K := by
 intro g w a F hF hr hop
 refine Oper.wpIn_mono ?_ (h g w a F hF hr hop)
 rintro a' w' ⟨v, e, x', σ', g', ⟨rfl, rfl⟩, hrel, hrd, hle⟩
 exact ⟨v, e, y, _, g', hk, hrel, hs _ _ _ hrd, hle⟩
theorem _root_.zH3 : type_of% @op_viewTo := @op_viewTo
variable {N n : Nat} {Q : Exit → Env → MS → Prop}
end
theorem mwp_cellrowAt {P : Program} {rd : Option Nat} {N n : Nat} {c : Code} {Q : Exit → Env → MS → Prop} {env : Env} {S L L' : MS} (k i ty sz : Nat) {m : Nat} {l : List MV} (hk : L[k]? = some (.cells l)) (hi : l[i]? = some .lst0) (hN : N ≤ S.length) (hm : L.length = m) (hL : L.set k (.cells (l.set i (.lst (some (S.length + m)) sz []))) ++ [.row ty sz 0] = L') (h : mwp P rd N n c Q env (S ++ L')) : mwp P rd N n c Q env (S ++ L) := by
 subst hm hL
 refine mwp_ghost (fun g w tmps hr he => ?_) h
 obtain ⟨r1, l1, d1⟩ := tok_new hr ty sz
 have hlen : (S ++ L).length = S.length + L.length := zE
 refine ⟨_, ?_, he.mono l1, l1.toN N, fun F hF => hF.mono (l1.toN N)⟩
 have hlt := (zD.1 hk).1
 have e : S ++ (L.set k (.cells (l.set i (.lst (some (S.length + L.length)) sz []))) ++ [.row ty sz 0]) = ((S ++ L) ++ [MObj.row ty sz 0]).set (S.length + k) (.cells (l.set i (.lst (some (S.length + L.length)) sz []))) := by
  rw [zO, set_own, List.set_append_left _ _ hlt]
 rw [e]
 refine r1.recell (l := l) (by rw [zO, getElem?_own, List.getElem?_append_left hlt]; exact hk) fun us hus => ?_
 obtain ⟨u, hu, hrd⟩ := hus.get hi
 have hs := hus.set i (x := .lst (some (S.length + L.length)) sz []) (u := u) (by rw [hrd.inv_lst0, ← hlen]; exact d1)
 obtain ⟨hul, hue⟩ := zD.1 hu
 rwa [show us.set i u = us by rw [← hue]; exact List.set_getElem_self hul] at hs
end
section
def IterOk2 (P : Program) (k : FuncId) (first caps : List MV) (ys : List (List MV)) (okT : MS → Prop) (okU : Nat → MS → MS → Prop) : Prop :=
 ∀ (id : Nat) (T U : Nat → MS) (m : Nat), (∀ j, okT (T j)) → (∀ j, j ≤ m → okU j (T j) (U j)) → (∀ j y, j < m → ys[j]? = some y → YStep P id y (U j) true (T (j + 1))) →
  (m = ys.length → MCalls P k (first ++ [.yld id] ++ caps) (T 0) fun _ σ' => σ' = T m) ∧
  (∀ y, ys[m]? = some y → YStep P id y (U m) false (T (m + 1)) → MCalls P k (first ++ [.yld id] ++ caps) (T 0) fun _ σ' => σ' = T (m + 1))
theorem iterOk2_of {P : Program} {k : FuncId} {first caps : List MV} {ys : List (List MV)} {okT : MS → Prop} {okU : Nat → MS → MS → Prop} (h : ∀ (id : Nat) (T U : Nat → MS) (m : Nat), (∀ j, okT (T j)) → (∀ j, j ≤ m → okU j (T j) (U j)) → m ≤ ys.length → (∀ j y, j < m → ys[j]? = some y → YStep P id y (U j) true (T (j + 1))) → (∀ j y, j = m → ys[j]? = some y → YStep P id y (U j) false (T (j + 1))) →
  MCalls P k (first ++ [.yld id] ++ caps) (T 0) fun v σ' => v = .tup [] ∧ σ' = T (if m < ys.length then m + 1 else m)) : IterOk2 P k first caps ys okT okU := by
 intro id T U m hok hoku hyt
 refine ⟨fun hm => ?_, fun y hy hyf => ?_⟩
 ·refine (h id T U m hok hoku (by omega) hyt (fun j y hj hy => ?_)).mono ?_
  ·have := (zD.1 hy).1; omega
  ·rintro v σ' ⟨_, h⟩
   rw [h, if_neg (by omega)]
 ·have hm := (zD.1 hy).1
  refine (h id T U m hok hoku (by omega) hyt (fun j z hj hz => ?_)).mono ?_
  ·subst hj
   rw [hy] at hz
   injection hz with hz
   subst hz
   exact hyf
  ·rintro v σ' ⟨_, h⟩
   rw [h, if_pos hm]
section
variable {P : Program} {rd : Option Nat} {N n : Nat} {Q : Exit → Env → MS → Prop} {env : Env} {S : MS}
theorem mwp_rangeC {f : Operand} {ps : Array Tmp} {assign body : Code} {k : FuncId} {first caps : List MV} {ys : List (List MV)} {okT : MS → Prop} {okU : Nat → MS → MS → Prop} {L0 : MS} (ex : Exit) (hex : ex = .ret ∨ ∃ x, ex = .exit x) (p : Nat → Bool) (L LU Ls : Nat → MS) (hlen : ∀ j, (L j).length = (L 0).length) (hlenu : ∀ j, (LU j).length = (L 0).length) (hlens : ∀ j, (Ls j).length = (L 0).length) (hL0 : L0 = L 0)
  (hcl : ∀ j o, o ∈ L j → ∀ n, (S ++ L 0).length ≤ n → o.cl n) (hclu : ∀ j o, o ∈ LU j → ∀ n, (S ++ L 0).length ≤ n → o.cl n) (hcls : ∀ j o, o ∈ Ls j → ∀ n, (S ++ L 0).length ≤ n → o.cl n)
  (hf : evo env f = some (.fn (.func k) first caps)) (hb : CallOk P k) (hrd : rd = none) (hN : N ≤ (S ++ L 0).length)
  (hit : IterOk2 P k first caps ys (fun σ => okT σ ∧ ClS σ) okU) (hok : ∀ j, okT ((S ++ L j) ++ [.loop .ready none ⟨ps, assign, body, env, n⟩])) (hoku : ∀ j, j ≤ ys.length → okU j ((S ++ L j) ++ [.loop .ready none ⟨ps, assign, body, env, n⟩]) ((S ++ LU j) ++ [.loop .ready none ⟨ps, assign, body, env, n⟩])) (hoks : ∀ j s q, okT ((S ++ Ls j) ++ [.loop s q ⟨ps, assign, body, env, n⟩])) (hpb : ps.toList.all (fun t => Nat.blt t n) = true) (hps : ∀ y ∈ ys, ps.size = y.length)
  (hround : ∀ j y, ys[j]? = some y → (∀ i, i < j → p i = true) → ∀ L' : MS, mwp P (some (S ++ L 0).length) ((S ++ LU j).length + 1 + L'.length) n assign (fun e env1 σ1 => e = .normal ∧ ∃ J, σ1 = ((S ++ LU j) ++ .loop .ready none ⟨ps, assign, body, env, n⟩ :: L') ++ J ∧
   mwp P (some (S ++ L 0).length) ((S ++ LU j).length + 1 + L'.length) n body (fun e2 env2 σ2 =>
    (p j = true ∧ e2 = .normal ∧ ∃ junk, σ2 = ((S ++ L (j + 1)) ++ .loop .busy none ⟨ps, assign, body, env, n⟩ :: L') ++ junk) ∨
    (p j = false ∧ e2 = ex ∧ ∃ junk, σ2 = ((S ++ Ls j) ++ .loop .busy none ⟨ps, assign, body, env, n⟩ :: L') ++ junk)) env1 (((S ++ LU j) ++ .loop .busy none ⟨ps, assign, body, env, n⟩ :: L') ++ J)) (bindPs ps.toList y env) ((S ++ LU j) ++ .loop .ready none ⟨ps, assign, body, env, n⟩ :: L'))
  (hend : (∀ j, j < ys.length → p j = true) → Q .normal env ((S ++ L ys.length) ++ [.gone]))
  (hstop : ∀ j y, ys[j]? = some y → p j = false → Q ex env ((S ++ Ls j) ++ [.gone])) : mwp P rd N n (.rangeFunc f ps assign body) Q env (S ++ L0) := by
 subst hL0 hrd
 have hid : ∀ j, (S ++ L j).length = (S ++ L 0).length := fun j => by simp [hlen j]
 have hidu : ∀ j, (S ++ LU j).length = (S ++ L 0).length := fun j => by simp [hlenu j]
 have hids : ∀ j, (S ++ Ls j).length = (S ++ L 0).length := fun j => by simp [hlens j]
 refine zG1 fun hce hcs => ?_
 have hc0 : ∀ s q, ClS ((S ++ L 0) ++ [.loop s q ⟨ps, assign, body, env, n⟩]) := fun s q => cls_loop hcs hce
 refine mwp_range hf hb (fun id h => by cases h) hN ?_
 have hstep : ∀ j y, ys[j]? = some y → (∀ i, i < j → p i = true) → ∀ (K : MV → MS → Prop) (L' : MS) (rd' : Option Nat) (o : Oper) (env' : Env) (f' : Operand) (args : Array Operand) (ts : Array TypeId), o.op = .call { callee := .value f', args := args, argTypes := ts } → evo env' f' = some (.yld (S ++ L 0).length) → evos env' args.toList = some y →
   (p j = true → K (.bool true) ((S ++ L (j + 1)) ++ .loop .ready none ⟨ps, assign, body, env, n⟩ :: L')) →
   (p j = false → K (.bool false) ((S ++ Ls j) ++ .loop .done (some (exCode ex)) ⟨ps, assign, body, env, n⟩ :: L')) →
   OpWp P rd' o env' ((S ++ LU j) ++ .loop .ready none ⟨ps, assign, body, env, n⟩ :: L') K := by
  intro j y hy hbef K L' rd' o env' f' args ts ho hf' hargs hk1 hk2
  have hsz : args.size = y.length := by
   have := evos_len _ _ hargs
   simpa using this
  have hget : ((S ++ LU j) ++ MObj.loop .ready none ⟨ps, assign, body, env, n⟩ :: L')[(S ++ L 0).length]? = some (.loop .ready none ⟨ps, assign, body, env, n⟩) := by
   rw [← hidu j]; exact zI4
  have hN' : ((S ++ LU j) ++ MObj.loop .ready none ⟨ps, assign, body, env, n⟩ :: L').length = (S ++ LU j).length + 1 + L'.length := by
   rw [zE, zF0]; omega
  refine op_yield ho hf' hargs hget (by rw [hsz]; exact hps y (zW hy)) hpb ?_
  rw [hN']
  refine zG1 fun _ hcl0 => ?_
  refine mwp_mono (hround j y hy hbef L') ?_
  rintro e env1 σ1 ⟨rfl, J, rfl, h⟩
  refine ⟨rfl, none, zQ hget, ?_⟩
  have hset : (((S ++ LU j) ++ MObj.loop .ready none ⟨ps, assign, body, env, n⟩ :: L') ++ J).set (S ++ L 0).length (.loop .busy none ⟨ps, assign, body, env, n⟩) = ((S ++ LU j) ++ .loop .busy none ⟨ps, assign, body, env, n⟩ :: L') ++ J := by
   rw [set_app hget, ← hidu j]; exact congrArg (· ++ J) zX4
  rw [hset]
  refine mwp_mono h ?_
  rintro e2 env2 σ2 (⟨hp, rfl, junk, rfl⟩ | ⟨hp, rfl, junk, rfl⟩)
  ·refine ⟨_, junk, none, ⟨ps, assign, body, env, n⟩, rfl, ?_, .inr (zM5 (hlenu j) (hlen (j + 1)) (hcl (j + 1)) (by simp) hcl0), ?_, ?_⟩
   ·have h1 := hid (j + 1)
    have h2 := hidu j
    simp only [zE, zF0] at *
    omega
   ·rw [← hid (j + 1)]; exact zI4
   ·show K (.bool true) _
    rw [← hid (j + 1), zX4]
    exact hk1 hp
  ·refine ⟨_, junk, none, ⟨ps, assign, body, env, n⟩, rfl, ?_, .inr (zM5 (hlenu j) (hlens j) (hcls j) (by simp) hcl0), ?_, ?_⟩
   ·have h1 := hids j
    have h2 := hidu j
    simp only [zE, zF0] at *
    omega
   ·rw [← hids j]; exact zI4
   ·rcases hex with rfl | ⟨x, rfl⟩
    ·show K (.bool false) _
     rw [← hids j, zX4]
     exact hk2 hp
    ·show K (.bool false) _
     rw [← hids j, zX4]
     exact hk2 hp
 have hgo : ∀ m, (∀ j, j < m → p j = true) → ∀ (T : Nat → MS), (∀ j, j ≤ m → T j = (S ++ L j) ++ [.loop .ready none ⟨ps, assign, body, env, n⟩]) → ∀ j y, j < m → ys[j]? = some y → YStep P (S ++ L 0).length y ((S ++ LU j) ++ [.loop .ready none ⟨ps, assign, body, env, n⟩]) true (T (j + 1)) := by
  intro m hm T hT j y hj hy L' rd' o env' f' args ts ho hf' hargs
  have e1 : ∀ (A : MS) (X : MObj), ((S ++ A) ++ [X]) ++ L' = (S ++ A) ++ X :: L' := fun i X => by simp
  rw [hT (j + 1) (by omega), e1, e1]
  exact hstep j y hy (fun i hi => hm i (by omega)) _ L' rd' o env' f' args ts ho hf' hargs (fun _ => ⟨rfl, rfl⟩) (fun h => by rw [hm j hj] at h; cases h)
 rcases first_bad p ys.length with hall | ⟨m, hm, hp, hbef⟩
 ·refine ((hit (S ++ L 0).length (fun j => (S ++ L j) ++ [.loop .ready none ⟨ps, assign, body, env, n⟩]) (fun j => (S ++ LU j) ++ [.loop .ready none ⟨ps, assign, body, env, n⟩]) ys.length (fun j => ⟨hok j, zM5 (hlen 0) (hlen j) (hcl j) V (hc0 .ready none)⟩) (fun j hj => hoku j hj) (hgo ys.length hall _ (fun j _ => V))).1 V).mono ?_
  rintro v σ' rfl
  refine ⟨.ready, none, by rw [← hid ys.length]; exact zI4, by simp, ?_⟩
  show Q .normal env _
  rw [← hid ys.length, zX4]
  exact hend hall
 ·obtain ⟨y, hy⟩ : ∃ y, ys[m]? = some y := ⟨_, zC hm⟩
  let q : Code := exCode ex
  let T : Nat → MS := fun j => if j ≤ m then (S ++ L j) ++ [.loop .ready none ⟨ps, assign, body, env, n⟩] else (S ++ Ls m) ++ [.loop .done (some q) ⟨ps, assign, body, env, n⟩]
  have hT : ∀ j, j ≤ m → T j = (S ++ L j) ++ [.loop .ready none ⟨ps, assign, body, env, n⟩] := fun j hj => by simp [T, hj]
  have hT1 : T (m + 1) = (S ++ Ls m) ++ [.loop .done (some q) ⟨ps, assign, body, env, n⟩] := by simp [T]
  have h0 : T 0 = (S ++ L 0) ++ [.loop .ready none ⟨ps, assign, body, env, n⟩] := hT 0 (by omega)
  have hokT : ∀ j, okT (T j) ∧ ClS (T j) := fun j => by
   by_cases hj : j ≤ m
   ·rw [hT j hj]; exact ⟨hok j, zM5 (hlen 0) (hlen j) (hcl j) rfl (hc0 .ready none)⟩
   ·simp only [T, if_neg hj]; exact ⟨hoks m _ _, zM5 (hlen 0) (hlens m) (hcls m) rfl (hc0 .ready none)⟩
  have := (hit (S ++ L 0).length T (fun j => (S ++ LU j) ++ [.loop .ready none ⟨ps, assign, body, env, n⟩]) m hokT (fun j hj => by rw [hT j hj]; exact hoku j (by omega)) (hgo m hbef T hT)).2 y hy (by
   intro L' rd' o env' f' args ts ho hf' hargs
   have e1 : ∀ (A : MS) (X : MObj), ((S ++ A) ++ [X]) ++ L' = (S ++ A) ++ X :: L' := fun i X => by simp
   rw [hT1, e1, e1]
   exact hstep m y hy hbef _ L' rd' o env' f' args ts ho hf' hargs (fun h => by rw [hp] at h; cases h) (fun _ => ⟨rfl, rfl⟩))
  rw [h0] at this
  refine this.mono ?_
  rintro v σ' rfl
  rw [hT1]
  refine ⟨.done, some q, by rw [← hids m]; exact zI4, by simp, ?_⟩
  rw [← hids m, zX4]
  rcases hex with rfl | ⟨x, rfl⟩
  ·exact hstop m y hy hp
  ·exact hstop m y hy hp
end
end
section
section
variable {κ : Type} (cmp : κ → κ → Int)
abbrev REnt (κ : Type) := κ × Val
abbrev Ent (κ : Type) := κ × Val × Option Val
def mergeE : List (REnt κ) → List (REnt κ) → List (Ent κ)
 | [], [] => []
 | x :: a, [] => (x.1, x.2, none) :: mergeE a []
 | [], y :: b => (y.1, y.2, none) :: mergeE [] b
 | x :: a, y :: b => if cmp x.1 y.1 < 0 then (x.1, x.2, none) :: mergeE a (y :: b) else if cmp y.1 x.1 < 0 then (y.1, y.2, none) :: mergeE (x :: a) b else (x.1, x.2, some y.2) :: mergeE a b
 termination_by a b => a.length + b.length
def stepE : List (REnt κ) × List (REnt κ) → List (REnt κ) × List (REnt κ)
 | ([], []) => ([], [])
 | (_ :: a, []) => (a, [])
 | ([], _ :: b) => ([], b)
 | (x :: a, y :: b) => if cmp x.1 y.1 < 0 then (a, y :: b) else if cmp y.1 x.1 < 0 then (x :: a, b) else (a, b)
def restE (a b : List (REnt κ)) : Nat → List (REnt κ) × List (REnt κ)
 | 0 => (a, b)
 | j + 1 => stepE cmp (restE a b j)
theorem mergeE_len : ∀ a b : List (REnt κ), (mergeE cmp a b).length ≤ a.length + b.length := by
 intro a b
 induction a, b using mergeE.induct cmp with
 | case1 => simp [mergeE]
 | case2 x a ih => rw [mergeE]; simp at ih ⊢; omega
 | case3 y b ih => rw [mergeE]; simp at ih ⊢; omega
 | case4 x a y b h ih => rw [mergeE, if_pos h]; simp at ih ⊢; omega
 | case5 x a y b h h2 ih => rw [mergeE, if_neg h, if_pos h2]; simp at ih ⊢; omega
 | case6 x a y b h h2 ih => rw [mergeE, if_neg h, if_neg h2]; simp at ih ⊢; omega
end
def ptrE : Option Val → MV
 | none => .ptr0
 | some v => .sptr (encV v).cells
def encR {κ : Type} (ek : κ → MV) (e : REnt κ) : MV := .agg [ek e.1, .sptr (encV e.2).cells, .ptr0]
def encE {κ : Type} (ek : κ → MV) (e : Ent κ) : MV := .agg [ek e.1, .sptr (encV e.2.1).cells, ptrE e.2.2]
theorem cl_sptrV (n : Nat) (v : Val) : Cl n (.sptr (encV v).cells) := .sptr _ fun x hx => by
 have h := zO1 n v
 cases v with
 | mk a b c d e =>
  cases h with
  | agg _ h => exact h x hx
theorem cl_ptrE (n : Nat) : ∀ o : Option Val, Cl n (ptrE o)
 | none => .ptr0
 | some v => cl_sptrV n v
theorem cl_encR {κ : Type} {ek : κ → MV} (hk : ∀ n k, Cl n (ek k)) (n : Nat) (e : REnt κ) : Cl n (encR ek e) := .agg _ fun x hx => by
 simp only [List.mem_cons, List.not_mem_nil, or_false] at hx
 rcases hx with rfl | rfl | rfl
 ·exact hk _ _
 ·exact cl_sptrV _ _
 ·exact .ptr0
theorem cl_encE {κ : Type} {ek : κ → MV} (hk : ∀ n k, Cl n (ek k)) (n : Nat) (e : Ent κ) : Cl n (encE ek e) := .agg _ fun x hx => by
 simp only [List.mem_cons, List.not_mem_nil, or_false] at hx
 rcases hx with rfl | rfl | rfl
 ·exact hk _ _
 ·exact cl_sptrV _ _
 ·exact cl_ptrE _ _
section
variable {P : Program} {rd : Option Nat} {o : Oper} {env : Env} {K : MV → MS → Prop} {A J C : MS}
theorem op_store_box {t : TypeId} {x y : Operand} {id off : Nat} {l : List MV} {m : MV} {k : Nat} (ho : o.op = .store t x y) (hx : evo env x = some (.ref id off)) (hy : evo env y = some m) (hσ : A[id]? = some (.cells l)) (hk : szOf P t = some k) (hm : m.cells.length = k)
  (h1 : m.cells.all MV.one = true) (hle : off + k ≤ l.length) (h : K (.tup []) ((A.set id (.cells (setMany l off m.cells)) ++ J) ++ C)) : OpWp P rd o env ((A ++ J) ++ C) K := by
 refine zK4 ho hx hy (zQ (zQ hσ)) hk hm h1 hle ?_
 rw [set_app (zQ hσ), set_app hσ]
 exact h
theorem _root_.zJ3 : type_of% @op_store_box := @op_store_box
end
section
variable {P : Program} {fn : Func} {S S' L : MS} {R : MV → MS → Prop} {env : Env}
theorem ret_cell_tmp {e : Exit} {a t k off t2 : Nat} {l : List MV} {ta : Option Nat} {x y x2 y2 : MV} (he : e = .normal ∨ e = .ret) (hres : fn.results = #[.cell a t, .tmp t2]) (ha : get env a = some (.ref (S.length + k) off)) (hl : L[k]? = some (.cells l)) (ht : tyAgg P t = some ta) (hm : loadMV ta l off = some x) (hs : Sub x y) (hc : Cl S.length y)
  (hx2 : get env t2 = some x2) (hs2 : Sub x2 y2) (hc2 : Cl S.length y2) (hR : R (.tup [y, y2]) S) : BodyQ P fn S R e env (S ++ L) := by
 refine ⟨he, [x, x2], .tup [y, y2], S, L, ?_, .tup (.cons hs (.cons hs2 .nil)), .tup _ (fun z hz => ?_), rfl, Nat.le_refl _, .inl rfl, hR⟩
 ·rw [hres]
  exact .cell ha (by rw [getElem?_own]; exact hl) ht hm (.tmp hx2 .nil)
 ·simp only [List.mem_cons, List.not_mem_nil, or_false] at hz
  rcases hz with rfl | rfl
  ·exact hc
  ·exact hc2
theorem _root_.zJ1 : type_of% @ret_cell_tmp := @ret_cell_tmp
theorem ret_cell_cell {e : Exit} {a t k off a2 t2 k2 off2 : Nat} {l l2 : List MV} {ta ta2 : Option Nat} {x y x2 y2 : MV} (he : e = .normal ∨ e = .ret) (hres : fn.results = #[.cell a t, .cell a2 t2]) (ha : get env a = some (.ref (S.length + k) off)) (hl : L[k]? = some (.cells l)) (ht : tyAgg P t = some ta) (hm : loadMV ta l off = some x) (hs : Sub x y) (hc : Cl S.length y)
  (ha2 : get env a2 = some (.ref (S.length + k2) off2)) (hl2 : L[k2]? = some (.cells l2)) (ht2 : tyAgg P t2 = some ta2) (hm2 : loadMV ta2 l2 off2 = some x2) (hs2 : Sub x2 y2) (hc2 : Cl S.length y2) (hR : R (.tup [y, y2]) S) : BodyQ P fn S R e env (S ++ L) := by
 refine ⟨he, [x, x2], .tup [y, y2], S, L, ?_, .tup (.cons hs (.cons hs2 .nil)), .tup _ (fun z hz => ?_), rfl, Nat.le_refl _, .inl rfl, hR⟩
 ·rw [hres]
  exact .cell ha (by rw [getElem?_own]; exact hl) ht hm (.cell ha2 (by rw [getElem?_own]; exact hl2) ht2 hm2 .nil)
 ·simp only [List.mem_cons, List.not_mem_nil, or_false] at hz
  rcases hz with rfl | rfl
  ·exact hc
  ·exact hc2
end
theorem get_o0 {A A' R : MS} {a b : MObj} (h : A'.length = A.length) : ((A' ++ [a, b]) ++ R)[A.length + 0]? = some a := by rw [← h]; exact zL4 (k := 0) rfl
theorem get_o1 {A A' R : MS} {a b : MObj} (h : A'.length = A.length) : ((A' ++ [a, b]) ++ R)[A.length + 1]? = some b := by rw [← h]; exact zL4 (k := 1) rfl
theorem set_o01 {A A' R : MS} {a b a' b' : MObj} (h : A'.length = A.length) : (((A' ++ [a, b]) ++ R).set (A.length + 1) b').set (A.length + 0) a' = (A' ++ [a', b']) ++ R := by
 rw [← h, set_mid_ (k := 1) (ob := b) rfl, set_mid_ (k := 0) (ob := a) rfl]
 rfl
theorem get_o0' {A A' R : MS} {a b b' : MObj} (h : A'.length = A.length) : (((A' ++ [a, b]) ++ R).set (A.length + 1) b')[A.length + 0]? = some a := by
 rw [← h, set_mid_ (k := 1) (ob := b) rfl]
 exact zL4 (k := 0) rfl
end
section
section
variable {P : Program} {rd : Option Nat} {N n : Nat} {Q : Exit → Env → MS → Prop} {env : Env} {σ : MS}
theorem mwp_joinX {c rest : Code} {E : Env} (σ3 : MS) (φ : Prop) (h1 : mwp P rd N n c (fun e env1 σ1 => (e = .normal ∧ σ1 = σ3 ∧ EnvSub env1 E ∧ φ) ∨ (e ≠ .normal ∧ Q e env1 σ1)) env σ) (h2 : φ → mwp P rd N n rest Q E σ3) : mwp P rd N n (.seq c rest) Q env σ := by
 refine zB (mwp_mono h1 ?_)
 rintro e env1 σ1 (⟨rfl, rfl, hs, hφ⟩ | ⟨hne, hq⟩)
 ·exact mwp_env hs.get_ (h2 hφ)
 ·cases e with
  | normal => exact absurd rfl hne
  | _ => exact hq
theorem wOps_at {rest : List Oper} {ops : Array Oper} {W : Env → MS → Prop} (σ' : MS) (e : σ = σ') (h : wOps P rd ops W rest env σ') : wOps P rd ops W rest env σ := e ▸ h
end
end
end Go.MV
section
namespace Go.MV
open Go Go.RowKit
def arr (P : Nat → Bool) : List MV := (List.range 256).map fun j => .bool (P j)
theorem arr_len (P : Nat → Bool) : (arr P).length = 256 := by simp [arr]
theorem _root_.zE5 : type_of% @arr_len := @arr_len
theorem arr_get {P : Nat → Bool} {c : Nat} (h : c < 256) : (arr P)[0 + c * 1]? = some (.bool (P c)) := by
 rw [Nat.zero_add, Nat.mul_one, arr, zI0, List.getElem?_range h]
 rfl
theorem arr_load (P : Nat → Bool) : loadMV (some 256) (arr P) 0 = some (.agg (arr P)) := by
 show (if 0 + 256 ≤ (arr P).length then some (MV.agg (((arr P).drop 0).take 256)) else none) = _
 rw [if_pos (by rw [zE5]; exact Nat.le_refl _), List.drop_zero, List.take_of_length_le (by rw [zE5]; exact Nat.le_refl _)]
theorem arr_set {P : Nat → Bool} {c : Nat} (h : c < 256) : setMany (arr P) (0 + c * 1) [.bool true] = arr (fun j => P j || j == c) := by
 have h1 : setMany (arr P) (0 + c * 1) [.bool true] = (arr P).set c (.bool true) := by
  rw [Nat.zero_add, Nat.mul_one, setMany, List.set_eq_take_append_cons_drop, if_pos (by rw [zE5]; exact h)]
  simp
 rw [h1]
 apply List.ext_getElem?
 intro j
 rw [List.getElem?_set]
 by_cases hj : j < 256
 ·have e1 := arr_get (P := P) hj
  have e2 := arr_get (P := fun j => P j || j == c) hj
  rw [Nat.zero_add, Nat.mul_one] at e1 e2
  rw [e2]
  by_cases hc : c = j
  ·subst hc
   rw [if_pos rfl, if_pos (by rw [zE5]; exact h)]
   simp
  ·rw [if_neg hc, e1]
   have : (j == c) = false := by simp; omega
   simp [this]
 ·rw [List.getElem?_eq_none (by rw [zE5]; omega), if_neg (by omega), List.getElem?_eq_none (by rw [zE5]; omega)]
theorem arr_store (P Q : Nat → Bool) : setMany (arr P) 0 (arr Q) = arr Q := by
 rw [setMany, List.take_zero, List.nil_append, Nat.zero_add, zE5, List.drop_eq_nil_of_le (by rw [zE5]; exact Nat.le_refl _), List.append_nil]
theorem arr_cl (P : Nat → Bool) (n : Nat) : ∀ x ∈ arr P, Cl n x := fun x hx => by
 obtain ⟨j, _, rfl⟩ := List.mem_map.1 hx
 exact .bool _
def setP (l : Bs) (j : Nat) : Bool := l.any fun c => c.toNat == j
theorem setP_nil : setP [] = fun _ => false := rfl
theorem _root_.zP : type_of% @Bool.eq_iff_iff := @Bool.eq_iff_iff
theorem setP_succ {l : Bs} {i : Nat} {c : UInt8} (h : l[i]? = some c) : setP (l.take (i + 1)) = fun j => setP (l.take i) j || j == c.toNat := by
 funext j
 unfold setP
 rw [List.take_add_one, h, List.any_append]
 congr 1
 rw [zP]
 simp
 omega
def trR (P : Nat → Bool) (s : Bs) : Bs := (s.reverse.dropWhile fun c => P c.toNat).reverse
def trL (P : Nat → Bool) (s : Bs) : Bs := s.dropWhile fun c => P c.toNat
theorem trR_more {P : Nat → Bool} {s : Bs} {c : UInt8} (h : s[s.length - 1]? = some c) (hp : P c.toNat = true) : trR P (s.take (s.length - 1)) = trR P s := by
 have hs : s = s.take (s.length - 1) ++ [c] := by
  have hlt := (zD.1 h).1
  have h1 : s.take (s.length - 1 + 1) = s := List.take_of_length_le (by omega)
  rw [List.take_add_one, h] at h1
  exact h1.symm
 conv => rhs; rw [hs]
 unfold trR
 rw [List.reverse_append, List.reverse_singleton, List.singleton_append, List.dropWhile_cons_of_pos (p := fun c : UInt8 => P c.toNat) hp]
theorem trR_last {P : Nat → Bool} {s : Bs} {c : UInt8} (h : s[s.length - 1]? = some c) (hp : P c.toNat = false) : trR P s = s := by
 have hs : s = s.take (s.length - 1) ++ [c] := by
  have hlt := (zD.1 h).1
  have h1 : s.take (s.length - 1 + 1) = s := List.take_of_length_le (by omega)
  rw [List.take_add_one, h] at h1
  exact h1.symm
 rw [hs]
 unfold trR
 rw [List.reverse_append, List.reverse_singleton, List.singleton_append, List.dropWhile_cons_of_neg (p := fun c : UInt8 => P c.toNat) (by simp [hp])]
 simp
theorem trR_le (P : Nat → Bool) (s : Bs) : (trR P s).length ≤ s.length := by
 unfold trR
 rw [List.length_reverse]
 have := (List.dropWhile_suffix (l := s.reverse) (fun c : UInt8 => P c.toNat)).length_le
 rw [List.length_reverse] at this
 exact this
theorem tr_nil {P : Nat → Bool} {s : Bs} : trL P (trR P s) = [] ↔ s.all (fun c => P c.toNat) = true := by
 have h1 : ∀ l : Bs, l.dropWhile (fun c => P c.toNat) = [] ↔ ∀ c ∈ l, P c.toNat = true := by
  intro l
  induction l with
  | nil => simp
  | cons a l ih =>
   rw [List.dropWhile_cons]
   by_cases ha : P a.toNat = true
   ·rw [if_pos ha, ih]
    simp [ha]
   ·rw [if_neg ha]
    simp [ha]
 unfold trL
 rw [h1, List.all_eq_true]
 constructor
 ·intro h c hc
  by_cases hp : P c.toNat = true
  ·exact hp
  ·exfalso
   have h2 : ∀ l : Bs, (∀ x ∈ l.dropWhile (fun c => P c.toNat), P x.toNat = true) → ∀ x ∈ l, P x.toNat = true := by
    intro l
    induction l with
    | nil => intro _ x hx; cases hx
    | cons a l ih =>
     intro hl x hx
     rw [List.dropWhile_cons] at hl
     by_cases ha : P a.toNat = true
     ·rw [if_pos ha] at hl
      rcases List.mem_cons.1 hx with rfl | hx
      ·exact ha
      ·exact ih hl x hx
     ·rw [if_neg ha] at hl
      exact absurd (hl a (.head _)) ha
   have h3 := h2 s.reverse (fun x hx => h x (by unfold trR; rw [List.mem_reverse]; exact hx)) c (List.mem_reverse.2 hc)
   exact hp h3
 ·intro h c hc
  unfold trR at hc
  rw [List.mem_reverse] at hc
  exact h c (List.mem_reverse.1 ((List.dropWhile_suffix _).subset hc))
def cutB : Bs := [97, 98, 99, 100, 101, 102, 103, 104, 105, 106, 107, 108, 109, 110, 111, 112, 113, 114, 115, 116, 117, 118, 119, 120, 121, 122, 48, 49, 50, 51, 52, 53, 54, 55, 56, 57]
def plainC (c : UInt8) : Bool := decide (97 ≤ c.toNat) && decide (c.toNat ≤ 122) || decide (48 ≤ c.toNat) && decide (c.toNat ≤ 57)
theorem cut_plain (c : UInt8) : setP cutB c.toNat = plainC c := by
 have h : ∀ n, n < 256 → setP cutB n = (decide (97 ≤ n) && decide (n ≤ 122) || decide (48 ≤ n) && decide (n ≤ 57)) := by decide
 exact h _ c.toNat_lt
def plainS (s : Bs) : Bool := s.all plainC
theorem trim_plain (s : Bs) : trL (setP cutB) (trR (setP cutB) s) = [] ↔ plainS s = true := by
 rw [tr_nil]
 unfold plainS
 have : (fun c : UInt8 => setP cutB c.toNat) = plainC := funext cut_plain
 rw [this]
theorem cut_low : ∀ c ∈ cutB, c.toNat < 128 := by decide
end Go.MV
namespace Go.Proofs.YtciimaabeabkdaaGreatDoor
open Go Go.MV
theorem ascii_spec (id : Nat) (P : Nat → Bool) (c : UInt8) (S : MS) (h : S[id]? = some (.cells (arr P))) : MCalls Tryz.prog 220 [.ref id 0, .int .u8 (c.toNat : Int)] S fun v σ' => v = .bool (P c.toNat) ∧ σ' = S := by
 refine zR Tryz.func220 V Tryz.ntmps220 (zA V) ?_
 refine zB <| qR V <| qA V V V <| qN <| zB <| qR V <| qM V V V <| qM V V V <| qO V <| zY0 V V V <| qO V <| op_indexAddr_arr V Tryz.underlying265 sz4 V V V c.toNat_lt <| qO V <| zJ V V (zQ h) ta4 (arr_get c.toNat_lt) <| qA V V V <| qN <| zH ?_
 exact zT (.inr V) Tryz.results220 V (.of_eq (V)) (.bool _) Vv
theorem trimR_spec (id : Nat) (P : Nat → Bool) (s : Bs) (hs : s.length ≤ 1000000) (S : MS) (h : S[id]? = some (.cells (arr P))) : MCalls Tryz.prog 182 [.str (bs s), .ref id 0] S fun v σ' => v = .str (bs (trR P s)) ∧ σ' = S := by
 refine zR Tryz.func182 V Tryz.ntmps182 (zA V) ?_
 refine zB <| qR V <| qA V V V <| qN <| zB <| zB0 ?_
 refine zK2 (α := Bs) [(1, _)] (fun x => [(0, .str (bs x))]) (fun x => []) (fun x => trR P x = trR P s ∧ x.length ≤ s.length) (fun x => x.length) (s) (.keep V (.nil)) (.keep V (.nil)) (⟨rfl, Nat.le_refl _⟩) (V) ?_
 rintro x ⟨he, hx⟩
 refine zB <| zB <| qR V <| qM V V V <| qO V <| zO3 V zL0 V <| qC V V V V V <| qN ?_
 refine zM V (fun h7 => ?_) (fun h7 => ?_)
 ·
  have h0 : 0 < x.length := by simpa using h7
  obtain ⟨c, hc⟩ : ∃ c, x[x.length - 1]? = some c := ⟨_, zC (by omega)⟩
  refine zX <| zB0 <| zB <| zB <| qR V <| qM V V V <| qM V V V <| qM V V V <| qO V <| zO3 V zL0 V <| qO V <| zH1 V V V (wsub (a := x.length) (b := 1) (c := x.length - 1) (by omega) (by omega)) ?_
  refine qO V <| zJ5 V zL0 V V V hc ?_
  refine qX V V V V co220 (ascii_spec id P c _ (zQ h)) ?_
  refine qO V <| zF1 V V <| qN ?_
  refine zM V (fun h15 => ?_) (fun h15 => ?_)
  ·
   have hp : P c.toNat = false := by simpa using h15
   have hE : trR P s = x := by rw [← he, trR_last hc hp]
   refine zV1 <| zB <| qR V <| qM V V V <| qA V V V <| qN <| zH ?_
   exact zT (.inr V) Tryz.results182 V (.of_eq (by rw [hE])) (.str _) Vv
  ·
   have hp : P c.toNat = true := by simpa using h15
   refine zX <| qR V <| qM V V V <| qM V V V <| qO V <| zO3 V zL0 V <| qO V <| zH1 V V V (wsub (a := x.length) (b := 1) (c := x.length - 1) (by omega) (by omega)) ?_
   refine qO V <| op_slice_str V zL0 V .none (.some V V) (by omega) (by omega) ?_
   rw [List.drop_zero, Nat.sub_zero]
   refine qA V V V <| qN ?_
   refine ⟨x.take (x.length - 1), by simp only [List.length_take]; omega, ⟨by rw [trR_more hc hp]; exact he, by simp only [List.length_take]; omega⟩, rfl, (.keep V (.nil)), (.eq V (V) (.nil))⟩
 ·
  have h0 : x = [] := by simpa using h7
  subst h0
  have hE : trR P s = [] := by rw [← he]; rfl
  refine zV1 <| zB <| qR V <| qM V V V <| qA V V V <| qN <| zH ?_
  exact zT (.inr V) Tryz.results182 V (.of_eq (by rw [hE])) (.str _) Vv
theorem trimL_spec (id : Nat) (P : Nat → Bool) (s : Bs) (hs : s.length ≤ 1000000) (S : MS) (h : S[id]? = some (.cells (arr P))) : MCalls Tryz.prog 181 [.str (bs s), .ref id 0] S fun v σ' => v = .str (bs (trL P s)) ∧ σ' = S := by
 refine zR Tryz.func181 V Tryz.ntmps181 (zA V) ?_
 refine zB <| qR V <| qA V V V <| qN <| zB <| zB0 ?_
 refine zK2 (α := Bs) [(1, _)] (fun x => [(0, .str (bs x))]) (fun x => []) (fun x => trL P x = trL P s ∧ x.length ≤ s.length) (fun x => x.length) (s) (.keep V (.nil)) (.keep V (.nil)) (⟨rfl, Nat.le_refl _⟩) (V) ?_
 rintro x ⟨he, hx⟩
 refine zB <| zB <| qR V <| qM V V V <| qO V <| zO3 V zL0 V <| qC V V V V V <| qN ?_
 refine zM V (fun h7 => ?_) (fun h7 => ?_)
 ·
  have h0 : 0 < x.length := by simpa using h7
  obtain ⟨c, y, hc⟩ : ∃ c y, x = c :: y := by cases x with
   | nil => simp at h0
   | cons c y => exact ⟨c, y, rfl⟩
  have hs0 : x[0]? = some c := by rw [hc]; rfl
  refine zX <| zB0 <| zB <| zB <| qR V <| qM V V V <| qM V V V <| qO V <| zJ5 V zL0 V V V hs0 ?_
  refine qX V V V V co220 (ascii_spec id P c _ (zQ h)) ?_
  refine qO V <| zF1 V V <| qN ?_
  refine zM V (fun h12 => ?_) (fun h12 => ?_)
  ·
   have hp : P c.toNat = false := by simpa using h12
   have hE : trL P s = x := by rw [← he, hc, trL, List.dropWhile_cons_of_neg (p := fun c : UInt8 => P c.toNat) (by simp [hp])]
   refine zV1 <| zB <| qR V <| qM V V V <| qA V V V <| qN <| zH ?_
   exact zT (.inr V) Tryz.results181 V (.of_eq (by rw [hE])) (.str _) Vv
  ·
   have hp : P c.toNat = true := by simpa using h12
   refine zX <| qR V <| qM V V V <| qO V <| op_slice_str V zL0 V (.some V V) .none (by show 1 ≤ x.length; omega) (by omega) ?_
   rw [show (x.drop 1).take (x.length - 1) = x.tail by rw [List.take_of_length_le (by simp), List.drop_one]]
   refine qA V V V <| qN ?_
   refine ⟨x.tail, by simp only [List.length_tail]; omega, ⟨by rw [← he, hc, trL, trL, List.tail_cons, List.dropWhile_cons_of_pos (p := fun c : UInt8 => P c.toNat) hp], by simp only [List.length_tail]; omega⟩, rfl, (.keep V (.nil)), (.eq V (V) (.nil))⟩
 ·
  have h0 : x = [] := by simpa using h7
  subst h0
  have hE : trL P s = [] := by rw [← he]; rfl
  refine zV1 <| zB <| qR V <| qM V V V <| qA V V V <| qN <| zH ?_
  exact zT (.inr V) Tryz.results181 V (.of_eq (by rw [hE])) (.str _) Vv
theorem mkset_spec (l : Bs) (hl : l.length ≤ 1000000) (hlow : ∀ c ∈ l, c.toNat < 128) (S : MS) : MCalls Tryz.prog 180 [.str (bs l)] S fun v σ' => v = .tup [.agg (arr (setP l)), .bool true] ∧ σ' = S := by
 refine zR Tryz.func180 V Tryz.ntmps180 (zA V) ?_
 refine zB <| qR V <| qO V <| zM0 V zm265 V V <| qA V V V <| qN <| zB <| zB <| qR V <| qA V V V <| qN <| zB0 ?_
 refine zK2 (α := Nat) [(0, _), (2, _)] (fun i => [(4, .int .i64 (i : Int))]) (fun i => [.cells (arr (setP (l.take i)))]) (fun i => i ≤ l.length) (fun i => l.length - i) (0) (.keep V (.keep V (.nil))) (.keep V (.nil)) (by omega) (by rw [List.take_zero, setP_nil]; rfl) ?_
 rintro i hi
 refine zB <| zB <| qR V <| qM V V V <| qM V V V <| qO V <| zO3 V zL0 V <| qC V V V V V <| qN ?_
 refine zM V (fun h9 => ?_) (fun h9 => ?_)
 ·
  have hlt : i < l.length := by simpa using h9
  obtain ⟨c, hs⟩ : ∃ q_, l[i]? = some q_ := ⟨_, zC hlt⟩
  have hc128 := hlow c (zW hs)
  refine zX <| zB <| zB0 <| zB <| qR V <| qM V V V <| qM V V V <| qO V <| zJ5 V zL0 V V V hs <| qA V V V <| qN <| zB <| zB <| qR V <| qM V V V <| qC V V V V V <| qN <| zK V (decide_eq_false (by omega)) ?_
  refine zX <| qR V <| qM V V V <| qO V <| op_indexAddr_arr V Tryz.underlying265 sz4 V V V c.toNat_lt <| qO V <| zK4 V V V (by simp : (S ++ [MObj.cells (arr (setP (l.take i)))])[S.length]? = some (.cells (arr (setP (l.take i))))) sz4 V V (by rw [zE5]; have := c.toNat_lt; show 0 + c.toNat * 1 + 1 ≤ 256; omega) ?_
  refine wOps_at (S ++ [MObj.cells (arr (setP (l.take (i + 1))))]) (by rw [show (MV.bool true).cells = [MV.bool true] from rfl, arr_set c.toNat_lt, ← setP_succ hs]; simp) ?_
  refine qN <| qR V <| qM V V V <| qO V <| zH1 V V V V <| qA V V V <| qN ?_
  refine ⟨i + 1, by omega, by omega, rfl, (.keep V (.keep V (.nil))), (.eq V (zH2 hlt (by simp only [maxLen]; omega)) (.nil))⟩
 ·
  have hge : i = l.length := by simp at h9; omega
  rw [hge, List.take_length]
  refine zV1 <| zB <| qR V <| qO V <| zJ V V (by simp : (S ++ [MObj.cells (arr (setP l))])[S.length]? = some (.cells (arr (setP l)))) ta265 (arr_load _) ?_
  refine qO V <| zK4 V V V (by simp : (S ++ [MObj.cells (arr (setP l))])[S.length]? = some (.cells (arr (setP l)))) sz265 (by exact zE5 _) V (by show 0 + (arr (setP l)).length ≤ _; omega) ?_
  refine wOps_at (S ++ [MObj.cells (arr (setP l))]) (by rw [show (MV.agg (arr (setP l))).cells = arr (setP l) from rfl, arr_store]; simp) ?_
  refine qA V V V <| qN <| zH ?_
  exact zJ1 (.inr V) Tryz.results180 V V ta265 (arr_load _) (.refl _) (.agg _ (arr_cl _ _)) V (.refl _) (.bool _) Vv
theorem strEq_f {a b : Bs} (h : a ≠ b) : strCmp .eql a b = some false := by simp [strCmp, h]
theorem strEq_d {a b : Bs} {r : Bool} (h : a = b ↔ r = true) : strCmp .eql a b = some r := by
 simp only [strCmp]
 congr 1
 rw [zP, beq_iff_eq]
 exact h
theorem trim_spec (s : Bs) (hne : s ≠ []) (hs : s.length ≤ 1000000) (S : MS) : MCalls Tryz.prog 139 [.str (bs s), .str (bs cutB)] S fun v σ' => v = .str (bs (trL (setP cutB) (trR (setP cutB) s))) ∧ σ' = S := by
 refine zR Tryz.func139 V Tryz.ntmps139 (zA V) ?_
 refine zB <| qR V <| qA V V V <| qN <| zB <| zB <| qR V <| qM V V V <| qO V <| zB3 V V V (strEq_f hne) <| qM V V V <| qM V V V <| qO V <| zB3 V V V (V) <| qP V V V V <| qN <| zK V (V) <| zX <| zB <| zB <| qR V <| qM V V V <| qO V <| zO3 V zL0 V ?_
 refine qC V V V V V <| qM V V V <| qS V <| qS V <| qS V <| qP V V V V <| qN <| zK V (V) <| zX <| zB <| zB <| qR V <| qM V V V ?_
 refine qX V V V V co180 (mkset_spec cutB (by decide) cut_low _) ?_
 refine qM V V V <| qO V <| zS V V V <| qO V <| zS V V V <| qO V <| zM0 V zm265 V V ?_
 refine wOps_at (S ++ [MObj.cells (arr fun _ => false)]) V ?_
 refine qO V <| zK4 V V V (by simp : (S ++ [MObj.cells (arr fun _ => false)])[S.length]? = some (.cells (arr fun _ => false))) sz265 (by exact zE5 _) V (by show 0 + (arr (setP cutB)).length ≤ _; rw [zE5, zE5]; exact Nat.le_refl _) ?_
 refine wOps_at (S ++ [MObj.cells (arr (setP cutB))]) (by rw [show (MV.agg (arr (setP cutB))).cells = arr (setP cutB) from rfl, arr_store]; simp) ?_
 refine qA V V V <| qN <| zB <| qR V <| qM V V V <| qN <| zU V (V) <| zB <| qR V <| qM V V V ?_
 refine qX V V V V co182 (trimR_spec S.length (setP cutB) s hs (S ++ [MObj.cells (arr (setP cutB))]) (by simp : (S ++ [MObj.cells (arr (setP cutB))])[S.length]? = some (.cells (arr (setP cutB))))) ?_
 refine qX V V V V co181 (trimL_spec S.length (setP cutB) (trR (setP cutB) s) (by have := trR_le (setP cutB) s; omega) (S ++ [MObj.cells (arr (setP cutB))]) (by simp : (S ++ [MObj.cells (arr (setP cutB))])[S.length]? = some (.cells (arr (setP cutB))))) ?_
 refine qA V V V <| qN <| zH ?_
 exact zT (.inr V) Tryz.results139 V (.of_eq (V)) (.str _) Vv
theorem isPlain_spec (s : Bs) (hne : s ≠ []) (hs : s.length ≤ 1000000) (S : MS) : MCalls Tryz.prog 75 [.str (bs s)] S fun v σ' => v = .bool (plainS s) ∧ σ' = S := by
 refine zR Tryz.func75 V Tryz.ntmps75 (zA V) ?_
 refine zB <| qR V <| qA V V V <| qN <| zB <| qR V <| qM V V V ?_
 refine qX V V V V co139 (trim_spec s hne hs _) ?_
 refine qO V <| zB3 V V V (strEq_d (trim_plain s)) <| qA V V V <| qN <| zH ?_
 exact zT (.inr V) Tryz.results75 V (.of_eq (V)) (.bool _) Vv
end Go.Proofs.YtciimaabeabkdaaGreatDoor
end
namespace Go.Proofs.YtciimaabeabkdaaGreatDoor
open Go Go.MV
def partsF (k : Int) : Int := if k = 1 ∨ k = 2 ∨ k = 3 ∨ k = 6 ∨ k = 7 then 0 else if k = 4 ∨ k = 8 then 1 else if k = 5 then 2 else -1
theorem _root_.zS3 : type_of% @Tryz.results224 := @Tryz.results224
theorem parts_spec (k : Int) (S : MS) : MCalls Tryz.prog 224 [.int .i64 k] S fun v σ' => v = .int .i64 (partsF k) ∧ σ' = S := by
 refine zR Tryz.func224 V Tryz.ntmps224 (zA V) ?_
 refine zB <| qR V <| qA V V V <| qN <| zB <| zB <| qR V <| qM V V V <| qN <| zB0 <| zB <| zB <| qR V <| qC V V V V V <| qA V V V <| qN ?_
 refine zM V (fun h4 => ?_) (fun h4 => ?_)
 ·
  refine zX <| zU V h4 <| zB <| qR V <| qA V V V <| qN <| zH ?_
  exact zT (.inr V) zS3 V (.refl _) (.int _ _) ⟨by simp_all [partsF], rfl⟩
 ·
  refine zB <| qR V <| qC V V V V V <| qA V V V <| qN ?_
  refine zM V (fun h4 => ?_) (fun h4 => ?_)
  ·
   refine zX <| zU V h4 <| zB <| qR V <| qA V V V <| qN <| zH ?_
   exact zT (.inr V) zS3 V (.refl _) (.int _ _) ⟨by simp_all [partsF], rfl⟩
  ·
   refine zB <| qR V <| qC V V V V V <| qA V V V <| qN ?_
   refine zM V (fun h4 => ?_) (fun h4 => ?_)
   ·
    refine zX <| zU V h4 <| zB <| qR V <| qA V V V <| qN <| zH ?_
    exact zT (.inr V) zS3 V (.refl _) (.int _ _) ⟨by simp_all [partsF], rfl⟩
   ·
    refine zB <| qR V <| qC V V V V V <| qA V V V <| qN ?_
    refine zM V (fun h4 => ?_) (fun h4 => ?_)
    ·
     refine zX <| zU V h4 <| zB <| qR V <| qA V V V <| qN <| zH ?_
     exact zT (.inr V) zS3 V (.refl _) (.int _ _) ⟨by simp_all [partsF], rfl⟩
    ·
     refine qR V <| qC V V V V V <| qA V V V <| qN ?_
     refine zM V (fun h4 => ?_) (fun h4 => ?_)
     ·
      refine zB <| qR V <| qA V V V <| qN <| zH ?_
      exact zT (.inr V) zS3 V (.refl _) (.int _ _) ⟨by simp_all [partsF], rfl⟩
     ·
      refine zB <| zB <| qR V <| qC V V V V V <| qA V V V <| qN ?_
      refine zM V (fun h10 => ?_) (fun h10 => ?_)
      ·
       refine zX <| zU V h10 <| zB <| qR V <| qA V V V <| qN <| zH ?_
       exact zT (.inr V) zS3 V (.refl _) (.int _ _) ⟨by simp_all [partsF], rfl⟩
      ·
       refine qR V <| qC V V V V V <| qA V V V <| qN ?_
       refine zM V (fun h10 => ?_) (fun h10 => ?_)
       ·
        refine zB <| qR V <| qA V V V <| qN <| zH ?_
        exact zT (.inr V) zS3 V (.refl _) (.int _ _) ⟨by simp_all [partsF], rfl⟩
       ·
        refine zB <| qR V <| qC V V V V V <| qA V V V <| qN ?_
        refine zM V (fun h13 => ?_) (fun h13 => ?_)
        ·
         refine zB <| qR V <| qA V V V <| qN <| zH ?_
         exact zT (.inr V) zS3 V (.refl _) (.int _ _) ⟨by simp_all [partsF], rfl⟩
        ·
         refine zX <| zB <| qR V <| qA V V V <| qN <| zH ?_
         exact zT (.inr V) zS3 V (.refl _) (.int _ _) ⟨by simp_all [partsF], rfl⟩
theorem _root_.zO0 : type_of% @Tryz.underlying51 := @Tryz.underlying51
theorem all_spec (l : List Sch) (p : Sch → Bool) (kf : FuncId) (first caps : List MV) (S : MS) (hco : CallOk Tryz.prog kf) (hp : ∀ s ∈ l, ∀ X : MS, MCalls Tryz.prog kf (first ++ [encS s] ++ caps) (S ++ X) fun v σ' => v = .bool (p s) ∧ σ' = S ++ X) :
  MCalls Tryz.prog 225 [.lst none 2 (encSs l), .fn (.func kf) first caps] S fun v σ' => v = .bool (l.all p) ∧ σ' = S := by
 refine zR Tryz.func225 V Tryz.ntmps225 (zA V) ?_
 refine zZ3 (t := 0) V fun hlen => ?_
 refine zB <| qR V <| qA V V V <| qN <| zB <| zB <| qR V <| qM V V V <| qE V V zO0 V <| qM V V V <| qN <| zB0 ?_
 refine mwp_loopJ (α := Nat) (fun i => [(0, .lst none 2 (encSs l)), (1, .fn (.func kf) first caps), (7, .lst none 2 (encSs l)), (8, .int .i64 ((encSs l).length : Int)), (9, .int .i64 (i : Int))]) (fun i => []) (fun i => i ≤ l.length ∧ (l.take i).all p = true) (fun i => l.length - i) (0) (Nat.le_refl _) ⟨by omega, rfl⟩ V (.keep V (.keep V (.keep V (.keep V (.keep V .nil))))) ?_
 rintro i ⟨hi, hall⟩
 refine zB <| qR V <| qC V V V V V <| qN <| zB ?_
 refine zM V (fun h10 => ?_) (fun h10 => ?_)
 ·
  have hlt : i < l.length := by rw [zA3] at h10; simpa using h10
  obtain ⟨⟨k, ins⟩, hs⟩ : ∃ s, l[i]? = some s := ⟨_, zC hlt⟩
  refine zX <| zB <| zB0 <| zB <| qR V <| qO V <| zI V zO0 sz53 (by decide) V V V (encSs_get hs) ?_
  refine qO V <| zL V V ta53 V <| qO V <| zM0 V zm53 V V <| qO V <| zZ V V V V sz53 V V (zA V) V <| qN <| zB <| qR V <| qM V V V <| qL V V V V ta53 V ?_
  refine zM4 V (zT0 V V V hco ((hp _ (zW hs) _).mono ?_))
  rintro _ _ ⟨rfl, rfl⟩
  refine qO V <| zF1 V V <| qN ?_
  refine zM V (fun h16 => ?_) (fun h16 => ?_)
  ·
   refine zB <| qR V <| qA V V V <| qN <| zH ?_
   exact zT (.inr V) Tryz.results225 V (.refl _) (.bool _) ⟨by rw [List.all_eq_false.2 ⟨_, zW hs, by simpa using h16⟩], rfl⟩
  ·
   refine zX <| qR V <| qO V <| zH1 V V V V <| qM V V V <| qN ?_
   refine ⟨i + 1, _, by omega, ⟨by omega, ?_⟩, rfl, .nil, .old V V (.old V V (.old V V (.old V V (.new' V (zH2 hlt (by rw [zA3] at hlen; exact hlen)) (.int _ _) .nil))))⟩
   rw [List.take_add_one, hs]
   simp [hall]
   simpa using h16
 ·
  have hge : i = l.length := by rw [zA3] at h10; simp at h10; omega
  refine zV1 <| zB <| qR V <| qA V V V <| qN <| zH ?_
  exact zT (.inr V) Tryz.results225 V (.refl _) (.bool _) ⟨by rw [hge, List.take_length] at hall; rw [hall], rfl⟩
def isF : Nat → Sch → Bool
 | 0, _ => false
 | d + 1, .mk k ins => (partsF k == (ins.length : Int)) && ins.all (isF d)
theorem is1_spec (d : Nat) (hd : d < 1000) (ih : ∀ (s : Sch) (S : MS), MCalls Tryz.prog 185 [encS s, .int .i64 (d : Int)] S fun v σ' => v = .bool (isF d s) ∧ σ' = S) (s : Sch) (id : Nat) (S : MS) (hS : S[id]? = some (.cells [.int .i64 ((d + 1 : Nat) : Int)])) :
  MCalls Tryz.prog 226 [encS s, .ref id 0] S fun v σ' => v = .bool (isF d s) ∧ σ' = S := by
 obtain ⟨k, ins⟩ := s
 have hsub : IntKind.i64.wrap (((d + 1 : Nat) : Int) - 1) = (d : Int) := by rw [wrap_i64 (by omega)]; omega
 refine zR Tryz.func226 V Tryz.ntmps226 (zA V) ?_
 refine zB <| qR V <| qB V V V V V <| qA V V V <| qN <| zB <| qR V <| qL V V V V ta53 V <| qO V <| zA2 V V hS ta3 V <| qO V <| zH1 V V V V ?_
 rw [hsub]
 refine qX V V V V co185 (ih (.mk k ins) _) ?_
 refine qA V V V <| qN <| zH ?_
 exact zT (.inr V) Tryz.results226 V (.refl _) (.bool _) Vv
theorem is_spec (d : Nat) : d < 1000 → ∀ (s : Sch) (S : MS), MCalls Tryz.prog 185 [encS s, .int .i64 (d : Int)] S fun v σ' => v = .bool (isF d s) ∧ σ' = S := by
 induction d with
 | zero =>
  rintro - ⟨k, ins⟩ S
  refine zR Tryz.func185 V Tryz.ntmps185 (zA V) ?_
  refine zB <| qR V <| qB V V V V V <| qB V V V V V <| qA V V V <| qN <| zB <| zB ?_
  refine zW0 [] [_] mo (by decide) V V V V ?_
  refine dO V V V (zN0 V V V ta3 V Vv) <| dO V V V (zR2 V V V V Vv) <| dO V V V (zY V V Vv) <| dS V V <| dS V V <| dS V V <| dS V V <| dS V V <| dS V V <| dS V V <| dO V V V (zP1 V V V Vv) <| zQ0 <| zU V (V) <| zB <| qR V <| qA V V V <| qN <| zH ?_
  exact zT (.inr V) Tryz.results185 V (.refl _) (.bool _) ⟨by simp [isF], rfl⟩
 | succ d ih =>
  rintro hd ⟨k, ins⟩ S
  have h0 : (((d + 1 : Nat) : Int) == 0) = false := by simp; omega
  refine zR Tryz.func185 V Tryz.ntmps185 (zA V) ?_
  refine zB <| qR V <| qB V V V V V <| qB V V V V V <| qA V V V <| qN <| zB <| zB ?_
  refine zW0 [] [_] mo (by decide) V V V V ?_
  refine dO V V V (zN0 V V V ta3 V Vv) <| dO V V V (zR2 V V V V Vv) ?_
  rw [h0]
  refine dO V V V (zY V V Vv) <| dO V V V (zG V V zB2 Vv) <| dO V V V (zN0 V V V ta3 V Vv) <| zN V V (.cons (zT0 V V V co224 (parts_spec _ _)) .nil) <| dO V V V (zG V V zG3 Vv) <| dO V V V (zN0 V V V ta51 V Vv) <| dO V V V (zU1 V zO0 V Vv) <| dO V V V (zR2 V V V V Vv) <| dO V V V (zP1 V V V Vv) <| zQ0 ?_
  refine zM V (fun h15 => ?_) (fun h15 => ?_)
  ·
   refine zB <| qR V <| qA V V V <| qN <| zH ?_
   exact zT (.inr V) Tryz.results185 V (.refl _) (.bool _) ⟨by rw [zA3] at h15; simp at h15; simp [isF, h15], rfl⟩
  ·
   refine zX <| zB <| qR V <| qF V V V zG3 <| qL V V V V ta51 V <| qO V <| zI2 V V V ?_
   refine qX V V V V co225 (all_spec ins (isF d) _ _ _ _ co226 fun s _ X => is1_spec d (by omega) (ih (by omega)) s _ _ (by rw [List.getElem?_append_left (by simp)]; simp [MV.cells])) ?_
   refine qA V V V <| qN <| zH ?_
   exact zT (.inr V) Tryz.results185 V (.refl _) (.bool _) ⟨by rw [zA3] at h15; simp at h15; simp [isF, h15], rfl⟩
theorem Is_spec (s : Sch) (S : MS) : MCalls Tryz.prog 140 [encS s] S fun v σ' => v = .bool (isF 16 s) ∧ σ' = S := by
 obtain ⟨k, ins⟩ := s
 refine zR Tryz.func140 V Tryz.ntmps140 (zA V) ?_
 refine zB <| qR V <| qB V V V V V <| qA V V V <| qN <| zB <| qR V <| qL V V V V ta53 V ?_
 refine qX V V V V co185 (is_spec 16 (by omega) (.mk k ins) _) ?_
 refine qA V V V <| qN <| zH ?_
 exact zT (.inr V) Tryz.results140 V (.refl _) (.bool _) Vv
mutual
def depth : Sch → Nat
 | .mk _ ins => 1 + depthL ins
def depthL : List Sch → Nat
 | [] => 0
 | s :: l => max (depth s) (depthL l)
end
theorem depthL_append : ∀ a b : List Sch, depthL (a ++ b) = max (depthL a) (depthL b)
 | [], b => by simp [depthL]
 | s :: a, b => by simp only [List.cons_append, depthL, depthL_append a b]; omega
theorem depthL_succ {l : List Sch} {i : Nat} {s : Sch} (h : l[i]? = some s) : depthL (l.take (i + 1)) = max (depthL (l.take i)) (depth s) := by
 rw [List.take_add_one, h, Option.toList_some, depthL_append]
 simp [depthL]
theorem depthL_le (l : List Sch) (i : Nat) : depthL (l.take i) ≤ depthL l := by
 have := depthL_append (l.take i) (l.drop i)
 rw [List.take_append_drop] at this
 omega
noncomputable instance : DecidableEq Sch := fun a b => Classical.propDecidable (a = b)
theorem bothSch_spec (a b : List Sch) (kf : FuncId) (first caps : List MV) (S : MS) (hco : CallOk Tryz.prog kf) (hp : ∀ x y : Sch, x ∈ a → y ∈ b → ∀ X : MS, MCalls Tryz.prog kf (first ++ [encS x, encS y] ++ caps) (S ++ X) fun v σ' => v = .bool (decide (x = y)) ∧ σ' = S ++ X) :
  MCalls Tryz.prog 186 [.lst none 2 (encSs a), .lst none 2 (encSs b), .fn (.func kf) first caps] S fun v σ' => v = .bool (decide (a = b)) ∧ σ' = S := by
 refine zR Tryz.func186 V Tryz.ntmps186 (zA V) ?_
 refine zZ3 (t := 0) V fun hlen => ?_
 refine zB <| qR V <| qA V V V <| qN <| zB <| zB <| qR V <| qM V V V <| qE V V zO0 V <| qM V V V <| qE V V zO0 V <| qC V V V V V <| qN ?_
 refine zM V (fun h12 => ?_) (fun h12 => ?_)
 ·
  refine zB <| qR V <| qA V V V <| qN <| zH ?_
  exact zT (.inr V) Tryz.results186 V (.refl _) (.bool _) ⟨by rw [zA3, zA3] at h12; simp at h12; congr 1; symm; rw [decide_eq_false_iff_not]; exact fun e => h12 (by rw [e]), rfl⟩
 ·
  have hab : a.length = b.length := by rw [zA3, zA3] at h12; simp at h12; omega
  refine zX <| zB <| zB <| qR V <| qM V V V <| qE V V zO0 V <| qM V V V <| qN <| zB0 ?_
  refine mwp_loop0 (α := Nat) (fun i => [(0, .lst none 2 (encSs a)), (1, .lst none 2 (encSs b)), (2, .fn (.func kf) first caps), (14, .int .i64 ((encSs a).length : Int)), (15, .int .i64 (i : Int))]) (fun i => []) (fun i => i ≤ a.length ∧ a.take i = b.take i) (fun i => a.length - i) (0) ⟨by omega, rfl⟩ V (.keep V (.keep V (.keep V (.keep V (.keep V .nil))))) ?_
  rintro i ⟨hi, heq⟩
  refine zB <| qR V <| qC V V V V V <| qN <| zB ?_
  refine zM V (fun h16 => ?_) (fun h16 => ?_)
  ·
   have hlt : i < a.length := by rw [zA3] at h16; simpa using h16
   obtain ⟨⟨k, ins⟩, hs⟩ : ∃ s, a[i]? = some s := ⟨_, zC hlt⟩
   obtain ⟨⟨k2, ins2⟩, hs2⟩ : ∃ s, b[i]? = some s := ⟨_, zC (by omega)⟩
   refine zX <| zB <| zB0 <| zB <| qR V <| qM V V V <| qA V V V <| qN <| zB ?_
   refine zW0 [] [_] mo (by decide) V V V V ?_
   refine dO V V V (zY V V Vv) <| dO V V V (zY V V Vv) <| dO V V V (zY V V Vv) <| dO V V V (zI V zO0 sz53 (by decide) V V V (encSs_get hs) Vv) ?_
   refine dO V V V (zL V V ta53 V Vv) <| dO V V V (zY V V Vv) <| dO V V V (zY V V Vv) <| dO V V V (zI V zO0 sz53 (by decide) V V V (encSs_get hs2) Vv) ?_
   refine dO V V V (zL V V ta53 V Vv) <| zN V V (.cons (zT0 V V V hco (hp _ _ (zW hs) (zW hs2) _)) .nil) <| dO V V V (zF1 V V Vv) <| zQ0 ?_
   refine zM V (fun h28 => ?_) (fun h28 => ?_)
   ·
    refine zB <| qR V <| qA V V V <| qN <| zH ?_
    exact zT (.inr V) Tryz.results186 V (.refl _) (.bool _) ⟨by congr 1; symm; rw [decide_eq_false_iff_not]; intro e; rw [e, hs2] at hs; injection hs with hs; simp [hs] at h28, rfl⟩
   ·
    refine zX <| qR V <| qO V <| zH1 V V V V <| qM V V V <| qN ?_
    refine ⟨i + 1, by omega, ⟨by omega, ?_⟩, rfl, .keep V (.keep V (.keep V (.keep V (.eq V (zH2 hlt (by rw [zA3] at hlen; exact hlen)) .nil))))⟩
    rw [List.take_add_one, List.take_add_one, hs, hs2, heq]
    simp at h28
    rw [h28.1, h28.2]
  ·
   have hge : i = a.length := by rw [zA3] at h16; simp at h16; omega
   refine zV1 <| zB <| qR V <| qA V V V <| qN <| zH ?_
   exact zT (.inr V) Tryz.results186 V (.refl _) (.bool _) ⟨by congr 1; symm; rw [decide_eq_true_iff]; rw [hge, List.take_length, hab, List.take_length] at heq; exact heq, rfl⟩
theorem sameSch_spec (n : Nat) : ∀ (a b : Sch), depth a ≤ n → ∀ S : MS, MCalls Tryz.prog 141 [encS a, encS b] S fun v σ' => v = .bool (decide (a = b)) ∧ σ' = S := by
 induction n with
 | zero => rintro ⟨k, ins⟩ b h; simp [depth] at h
 | succ n ih =>
 rintro ⟨k, ins⟩ ⟨k2, ins2⟩ hd S
 have hmem : ∀ x ∈ ins, depth x ≤ n := by
  intro x hx
  obtain ⟨i, hi⟩ := List.getElem?_of_mem hx
  have h1 := depthL_succ hi
  have h2 := depthL_le ins (i + 1)
  simp only [depth] at hd
  omega
 by_cases hk : k = k2
 ·have hkb : (k == k2) = true := by simpa using hk
  refine zR Tryz.func141 V Tryz.ntmps141 (zA V) ?_
  refine zB <| qR V <| qB V V V V V <| qB V V V V V <| qA V V V <| qN <| zB <| qR V <| qF V V V zB2 <| qL V V V V ta3 V <| qF V V V zB2 <| qL V V V V ta3 V <| qC V V V V V ?_
  rw [hkb]
  refine qM V V V <| qF V V V zG3 <| qL V V V V ta51 V <| qF V V V zG3 <| qL V V V V ta51 V ?_
  refine qX V V V V co186 (bothSch_spec ins ins2 _ [] [] _ co141 fun x y hx _ X => ih x y (hmem x hx) _) ?_
  refine qP V V V V <| qA V V V <| qN <| zH ?_
  exact zT (.inr V) Tryz.results141 V (.refl _) (.bool _) ⟨by subst hk; simp, rfl⟩
 ·have hkb : (k == k2) = false := by simpa using hk
  refine zR Tryz.func141 V Tryz.ntmps141 (zA V) ?_
  refine zB <| qR V <| qB V V V V V <| qB V V V V V <| qA V V V <| qN <| zB <| qR V <| qF V V V zB2 <| qL V V V V ta3 V <| qF V V V zB2 <| qL V V V V ta3 V <| qC V V V V V ?_
  rw [hkb]
  refine qM V V V <| qT V V V V <| qS V <| qP V V V V <| qA V V V <| qN <| zH ?_
  exact zT (.inr V) Tryz.results141 V (.refl _) (.bool _) ⟨by simp [hk], rfl⟩
def causeS (s : Sch) : Sch := .mk 8 [.mk 5 [.mk 4 [.mk 7 []], s]]
theorem _root_.zT2 : type_of% @Tryz.underlying53 := @Tryz.underlying53
theorem causeSch_spec (s : Sch) (S : MS) : MCalls Tryz.prog 142 [encS s] S fun v σ' => v = encS (causeS s) ∧ σ' = S := by
 obtain ⟨k, ins⟩ := s
 refine zR Tryz.func142 V Tryz.ntmps142 (zA V) ?_
 refine zB <| qR V <| qB V V V V V <| qO V <| zM0 V zm53 V V <| qN <| zB <| qR V <| qO V <| zR1 V zT2 zm53 (.cons zB2 sz3 V V (zA V) .nil) (by kernel_rfl) ?_
 refine qO V <| zL1 V zO0 el53 V V (by decide) (by decide) V V ?_
 refine qO V <| zR1 V zT2 zm53 (.cons zB2 sz3 V V (zA V) (.cons zG3 sz51 V V (zA V) .nil)) (by kernel_rfl) ?_
 refine qO V <| zM0 V zm53 V V <| qO V <| zZ V V V V sz53 V V (zA V) V <| qN <| zB <| qR V <| qL V V V V ta53 V <| qL V V V V ta53 V <| qO V <| zL1 V zO0 el53 V V (by decide) (by decide) V V ?_
 refine qO V <| zR1 V zT2 zm53 (.cons zB2 sz3 V V (zA V) (.cons zG3 sz51 V V (zA V) .nil)) (by kernel_rfl) ?_
 refine qO V <| zL1 V zO0 el53 V V (by decide) (by decide) V V ?_
 refine qO V <| zR1 V zT2 zm53 (.cons zB2 sz3 V V (zA V) (.cons zG3 sz51 V V (zA V) .nil)) (by kernel_rfl) ?_
 refine qO V <| zZ V V V V sz53 V V (zA V) V <| qN <| zH ?_
 exact zF3 (.inr V) Tryz.results142 V V ta53 V (.agg (.cons (.refl _) (.cons (.lstE (.agg (.cons (.refl _) (.cons (.lstE (.agg (.cons (.refl _) (.cons (.lstE (.agg (.cons (.refl _) (.cons (.nil 2) .nil)) .nil) V) .nil)) (.same .nil)) V) .nil)) .nil) V) .nil))) (cl_encS _ (causeS (.mk k ins))) Vv
theorem rCauseSch_spec (s : Sch) (S : MS) : MCalls Tryz.prog 62 [encS s] S fun v σ' => v = encS (causeS s) ∧ σ' = S := by
 obtain ⟨k, ins⟩ := s
 refine zR Tryz.func62 V Tryz.ntmps62 (zA V) ?_
 refine zB <| qR V <| qB V V V V V <| qO V <| zM0 V zm53 V V <| qN <| zB <| qR V <| qO V <| zR1 V zT2 zm53 (.cons zB2 sz3 V V (zA V) .nil) (by kernel_rfl) ?_
 refine qO V <| zL1 V zO0 el53 V V (by decide) (by decide) V V ?_
 refine qO V <| zR1 V zT2 zm53 (.cons zB2 sz3 V V (zA V) (.cons zG3 sz51 V V (zA V) .nil)) (by kernel_rfl) ?_
 refine qO V <| zM0 V zm53 V V <| qO V <| zZ V V V V sz53 V V (zA V) V <| qN <| zB <| qR V <| qL V V V V ta53 V <| qL V V V V ta53 V <| qO V <| zL1 V zO0 el53 V V (by decide) (by decide) V V ?_
 refine qO V <| zR1 V zT2 zm53 (.cons zB2 sz3 V V (zA V) (.cons zG3 sz51 V V (zA V) .nil)) (by kernel_rfl) ?_
 refine qO V <| zL1 V zO0 el53 V V (by decide) (by decide) V V ?_
 refine qO V <| zR1 V zT2 zm53 (.cons zB2 sz3 V V (zA V) (.cons zG3 sz51 V V (zA V) .nil)) (by kernel_rfl) ?_
 refine qO V <| zZ V V V V sz53 V V (zA V) V <| qN <| zH ?_
 exact zF3 (.inr V) Tryz.results62 V V ta53 V (.agg (.cons (.refl _) (.cons (.lstE (.agg (.cons (.refl _) (.cons (.lstE (.agg (.cons (.refl _) (.cons (.lstE (.agg (.cons (.refl _) (.cons (.nil 2) .nil)) .nil) V) .nil)) (.same .nil)) V) .nil)) .nil) V) .nil))) (cl_encS _ (causeS (.mk k ins))) Vv
noncomputable def levelF (s : Sch) : Int :=
 if isF 16 s = false then 0 else match s with
  | .mk k ins => if k = 6 then 2 else if k = 8 then (match ins with
   | [.mk 5 [_, y]] => if Sch.mk k ins = causeS y then 3 else 1
   | _ => 1) else 1
theorem is_cause {k : Int} {ins : List Sch} (h : isF 16 (.mk k ins) = true) (hk : k = 8) : ∃ k1 l1, ins = [.mk k1 l1] ∧ (k1 = 5 → ∃ a b, l1 = [a, b]) := by
 subst hk
 simp only [isF, Bool.and_eq_true] at h
 have h1 : ins.length = 1 := by have := h.1; simp [partsF] at this; omega
 match ins, h1 with
 | [.mk k1 l1], _ =>
  refine ⟨k1, l1, rfl, fun h5 => ?_⟩
  subst h5
  have h2 := h.2
  simp only [List.all_cons, isF, Bool.and_eq_true] at h2
  have h3 : l1.length = 2 := by have := h2.1.1; simp [partsF] at this; omega
  match l1, h3 with
  | [a, b], _ => exact ⟨a, b, rfl⟩
theorem _root_.zR5 : type_of% @Tryz.results79 := @Tryz.results79
theorem levelSch_spec (s : Sch) (S : MS) : MCalls Tryz.prog 79 [encS s] S fun v σ' => v = .int .i64 (levelF s) ∧ σ' = S := by
 obtain ⟨k, ins⟩ := s
 cases his : isF 16 (.mk k ins) with
 | false =>
  refine zR Tryz.func79 V Tryz.ntmps79 (zA V) ?_
  refine zB <| qR V <| qB V V V V V <| qA V V V <| qN <| zB <| zB0 <| zB <| qR V <| qL V V V V ta53 V ?_
  refine qX V V V V co140 (Is_spec (.mk k ins) _) ?_
  rw [his]
  refine qO V <| zF1 V V <| qA V V V <| qN <| zU V (V) <| zB <| qR V <| qA V V V <| qN <| zH ?_
  exact zT (.inr V) zR5 V (.refl _) (.int _ _) ⟨by simp [levelF, his], rfl⟩
 | true =>
 by_cases h6 : k = 6
 ·subst h6
  refine zR Tryz.func79 V Tryz.ntmps79 (zA V) ?_
  refine zB <| qR V <| qB V V V V V <| qA V V V <| qN <| zB <| zB0 <| zB <| qR V <| qL V V V V ta53 V ?_
  refine qX V V V V co140 (Is_spec (.mk 6 ins) _) ?_
  rw [his]
  refine qO V <| zF1 V V <| qA V V V <| qN <| zK V (V) <| zB <| qR V <| qF V V V zB2 <| qL V V V V ta3 V <| qC V V V V V <| qA V V V <| qN <| zU V (V) <| zB <| qR V <| qA V V V <| qN <| zH ?_
  exact zT (.inr V) zR5 V (.refl _) (.int _ _) ⟨by simp [levelF, his], rfl⟩
 have h6b : (k == 6) = false := by simpa using h6
 by_cases h8 : k = 8
 ·obtain ⟨k1, l1, rfl, h5⟩ := is_cause his h8
  subst h8
  by_cases hk1 : k1 = 5
  ·obtain ⟨⟨ka, la⟩, ⟨kb, lb⟩, rfl⟩ := h5 hk1
   subst hk1
   refine zR Tryz.func79 V Tryz.ntmps79 (zA V) ?_
   refine zB <| qR V <| qB V V V V V <| qA V V V <| qN <| zB <| zB0 <| zB <| qR V <| qL V V V V ta53 V ?_
   refine qX V V V V co140 (Is_spec (.mk 8 [.mk 5 [.mk ka la, .mk kb lb]]) _) ?_
   rw [his]
   refine qO V <| zF1 V V <| qA V V V <| qN <| zK V (V) <| zB <| qR V <| qF V V V zB2 <| qL V V V V ta3 V <| qC V V V V V <| qA V V V <| qN <| zK V (V) <| zB ?_
   refine zW0 [] [_] mo (by decide) V V V V ?_
   refine dO V V V (zG V V zB2 Vv) <| dO V V V (zN0 V V V ta3 V Vv) <| dO V V V (zR2 V V V V Vv) <| dO V V V (zY V V Vv) <| dO V V V (zG V V zG3 Vv) <| dO V V V (zN0 V V V ta51 V Vv) <| dO V V V (zI V zO0 sz53 (by decide) V V V V Vv) ?_
   refine dO V V V (zS1 V V zB2 Vv) <| dO V V V (zL V V ta3 V Vv) <| dO V V V (zR2 V V V V Vv) <| dO V V V (zP1 V V V Vv) <| dO V V V (zY V V Vv) <| dO V V V (zN0 V V V ta53 V Vv) <| dO V V V (zG V V zG3 Vv) <| dO V V V (zN0 V V V ta51 V Vv) <| dO V V V (zI V zO0 sz53 (by decide) V V V V Vv) ?_
   refine dO V V V (zS1 V V zG3 Vv) <| dO V V V (zL V V ta51 V Vv) <| dO V V V (zI V zO0 sz53 (by decide) V V V V Vv) ?_
   refine dO V V V (zL V V ta53 V Vv) <| zN V V (.cons (zT0 V V V co142 (causeSch_spec (.mk kb lb) _)) .nil) <| zN V V (.cons (zT0 V V V co141 (sameSch_spec _ (.mk 8 [.mk 5 [.mk ka la, .mk kb lb]]) (causeS (.mk kb lb)) (Nat.le_refl _) _)) .nil) <| dO V V V (zP1 V V V Vv) <| dO V V V (zZ0 V V Vv) <| zQ0 ?_
   refine zM V (fun h11 => ?_) (fun h11 => ?_)
   ·
    refine zB <| qR V <| qA V V V <| qN <| zH ?_
    exact zT (.inr V) zR5 V (.refl _) (.int _ _) ⟨by simp only [decide_eq_true_eq] at h11; simp [levelF, his, ← h11], rfl⟩
   ·
    refine zX <| zB <| qR V <| qA V V V <| qN <| zH ?_
    exact zT (.inr V) zR5 V (.refl _) (.int _ _) ⟨by simp only [decide_eq_false_iff_not] at h11; simp [levelF, his, h11], rfl⟩
  ·have hk1b : (k1 == 5) = false := by simpa using hk1
   refine zR Tryz.func79 V Tryz.ntmps79 (zA V) ?_
   refine zB <| qR V <| qB V V V V V <| qA V V V <| qN <| zB <| zB0 <| zB <| qR V <| qL V V V V ta53 V ?_
   refine qX V V V V co140 (Is_spec (.mk 8 [.mk k1 l1]) _) ?_
   rw [his]
   refine qO V <| zF1 V V <| qA V V V <| qN <| zK V (V) <| zB <| qR V <| qF V V V zB2 <| qL V V V V ta3 V <| qC V V V V V <| qA V V V <| qN <| zK V (V) <| zB ?_
   refine zW0 [] [_] mo (by decide) V V V V ?_
   refine dO V V V (zG V V zB2 Vv) <| dO V V V (zN0 V V V ta3 V Vv) <| dO V V V (zR2 V V V V Vv) <| dO V V V (zY V V Vv) <| dO V V V (zG V V zG3 Vv) <| dO V V V (zN0 V V V ta51 V Vv) <| dO V V V (zI V zO0 sz53 (by decide) V V V V Vv) ?_
   refine dO V V V (zS1 V V zB2 Vv) <| dO V V V (zL V V ta3 V Vv) <| dO V V V (zR2 V V V V Vv) ?_
   rw [hk1b]
   refine dO V V V (zP1 V V V Vv) <| dO V V V (zY V V Vv) <| dS V V <| dS V V <| dS V V <| dS V V <| dS V V <| dS V V <| dS V V <| dS V V <| dS V V <| dS V V <| dO V V V (zP1 V V V Vv) <| dO V V V (zZ0 V V Vv) <| zQ0 <| zK V (V) <| zX <| zB <| qR V <| qA V V V <| qN <| zH ?_
   exact zT (.inr V) zR5 V (.refl _) (.int _ _) ⟨by simp only [levelF, his]; simp; split <;> simp_all, rfl⟩
 ·have h8b : (k == 8) = false := by simpa using h8
  refine zR Tryz.func79 V Tryz.ntmps79 (zA V) ?_
  refine zB <| qR V <| qB V V V V V <| qA V V V <| qN <| zB <| zB0 <| zB <| qR V <| qL V V V V ta53 V ?_
  refine qX V V V V co140 (Is_spec (.mk k ins) _) ?_
  rw [his]
  refine qO V <| zF1 V V <| qA V V V <| qN <| zK V (V) <| zB <| qR V <| qF V V V zB2 <| qL V V V V ta3 V <| qC V V V V V ?_
  rw [h6b]
  refine qA V V V <| qN <| zK V (V) <| zB ?_
  refine zW0 [] [_] mo (by decide) V V V V ?_
  refine dO V V V (zG V V zB2 Vv) <| dO V V V (zN0 V V V ta3 V Vv) <| dO V V V (zR2 V V V V Vv) ?_
  rw [h8b]
  refine dO V V V (zY V V Vv) <| dS V V <| dS V V <| dS V V <| dS V V <| dS V V <| dS V V <| dO V V V (zP1 V V V Vv) <| dO V V V (zY V V Vv) <| dS V V <| dS V V <| dS V V <| dS V V <| dS V V <| dS V V <| dS V V <| dS V V <| dS V V <| dS V V <| dO V V V (zP1 V V V Vv) <| dO V V V (zZ0 V V Vv) <| zQ0 <| zK V (V) <| zX <| zB <| qR V <| qA V V V <| qN <| zH ?_
  exact zT (.inr V) zR5 V (.refl _) (.int _ _) ⟨by simp [levelF, his, h6, h8], rfl⟩
end Go.Proofs.YtciimaabeabkdaaGreatDoor
namespace Go.MV
open Go Go.RowKit
section
section
variable {P : Program} {rd : Option Nat} {o : Oper} {env : Env} {σ : MS} {K : MV → MS → Prop}
end
def Sees (F : List (Nat × MObj)) (σ : MS) : Prop := ∀ p ∈ F, σ[p.1]? = some p.2
theorem Sees.app {F : List (Nat × MObj)} {A B : MS} (h : Sees F A) : Sees F (A ++ B) := fun p hp => zQ (h p hp)
theorem Sees.cons {F : List (Nat × MObj)} {A : MS} {i : Nat} {o : MObj} (h1 : A[i]? = some o) (h : Sees F A) : Sees ((i, o) :: F) A := fun p hp => by
 rcases List.mem_cons.1 hp with rfl | hp
 ·exact h1
 ·exact h p hp
theorem Sees.nil {A : MS} : Sees [] A := fun p hp => by cases hp
theorem ClS.app {A B : MS} (h : ClS A) (hB : ∀ o ∈ B, o.cl (A ++ B).length) : ClS (A ++ B) := by
 intro id o hid
 by_cases c : id < A.length
 ·rw [List.getElem?_append_left c] at hid
  have := h id o hid
  cases o with
  | cells l => exact fun x hx => (this x hx).mono (by simp)
  | loop s p ls => exact fun t x hx => (this t x hx).mono (by simp)
  | row _ _ _ => exact trivial
  | mp _ es => exact fun e he => (this e he).mono (by simp)
  | mit m _ _ _ => exact Nat.lt_of_lt_of_le this (by simp)
  | pin _ _ => exact trivial
  | tcells _ l => exact fun x hx => (this x hx).mono (by simp)
  | orow _ _ _ l => exact fun x hx => (this x hx).mono (by simp)
  | fixed _ _ => exact trivial
  | gone => exact trivial
 ·rw [List.getElem?_append_right (by omega)] at hid
  exact hB o (zW hid)
theorem YStep.frame {P : Program} {id : Nat} {xs : List MV} {S S' : MS} {b : Bool} (h : YStep P id xs S b S') (J : MS) : YStep P id xs (S ++ J) b (S' ++ J) := by
 intro L rd o env f args ts ho hf hx
 have := h (J ++ L) rd o env f args ts ho hf hx
 rwa [← zO, ← zO] at this
end
section
section
variable {P : Program} {rd : Option Nat} {o : Oper} {env : Env} {σ : MS} {K : MV → MS → Prop}
theorem gets_vec {g : Gh} {w : World} (hr : Rel g σ w) {l : List MV} {us : List Value} {sz n c : Nat} (hl : Rds g w l us) (ty : TypeId) {fr : Nat × Nat} (hfr : FrOk fr us.length) (hn : n ≤ c) (hc : c ≤ maxLen) (h : K (.vec σ.length 0 sz n c) (σ ++ [.cells l])) :
  Gets g w K (.slice (some ⟨w.heap.size, 0, none⟩) n c) (w.alloc (.cells us.toArray ty fr)) := by
 obtain ⟨g', h1, h2, h3⟩ := hr.alloc_objF hl ty fr hfr
 exact ⟨_, _, g', h, h1, .vec _ _ _ _ _ _ h3 hn hc, h2⟩
theorem op_makeSliceV {t e n bytes : Nat} {x y : Operand} {kx ky : IntKind} {m : Int} {z : MV} (ho : o.op = .makeSlice t x y) (hu : P.underlying t = some (.slice e)) (he : elemOk P e 1 bytes = true) (hz : zeroMV P e = some [z]) (hx : evo env x = some (.int kx m)) (hy : evo env y = some (.int ky m)) (hm : m = (n : Int))
  (hb : bytes * n ≤ 281474976710656) (hn : n ≤ maxLen) (h : K (.vec σ.length 0 1 n n) (σ ++ [.cells (List.replicate n z)])) : OpWp P rd o env σ K := by
 subst hm
 refine OpWp.of_run (by simp [ho]) fun g w a hr hop => ?_
 obtain ⟨i, v, hi, hv, hs, hby, hvs, _⟩ := elemOk_spec he
 have e1 := (hop x (by simp [ho, Op.operands]) _ hx).inv_int
 have e2 := (hop y (by simp [ho, Op.operands]) _ hy).inv_int
 have hn' : (n : Int) ≤ 9223372036854775807 := by simp only [maxLen] at hn; omega
 have hb' : (i.bytes : Int) * (n : Int) ≤ 281474976710656 := by
  rw [hby]
  have : ((bytes * n : Nat) : Int) ≤ 281474976710656 := by omega
  rwa [Int.natCast_mul] at this
 have hrun := run_make (P := P) w t e i v hu hi hv kx ky (n : Int) (n : Int) (by omega) (Int.le_refl _) hb' hn'
 rw [hs, Nat.mul_one, Int.toNat_natCast] at hrun
 obtain ⟨u, hu1⟩ : ∃ u, v.cells = #[u] := Array.size_eq_one_iff.1 hvs
 have hm : madeCells v.cells n = (List.replicate n u).toArray := by
  unfold madeCells
  rw [hu1]
  apply Array.ext
  ·simp
  ·intro j h1 h2
   simp [Nat.mod_one]
 rw [hm] at hrun
 have hzu : Rd g w z u := by
  obtain ⟨v', k0, k1⟩ := zeroMV_some hz
  have hvv : v' = v := by
   have := k0 w
   simp [zeroValue, typeInfo, hi, hv] at this
   exact this.symm
  subst hvv
  have := k1 g w
  rw [hu1] at this
  exact this.2 0 _ _ rfl rfl
 refine ⟨_, _, ?_, gets_vec hr (l := List.replicate n z) (us := List.replicate n u) ?_ e (.inl V) (Nat.le_refl n) hn h⟩
 ·simp only [execOp, ho, Sem.run_bind, e1, e2]
  simp [hrun]
 ·refine ⟨by simp, fun j y w' hy hw => ?_⟩
  rw [List.eq_of_mem_replicate (zW hy), List.eq_of_mem_replicate (zW hw)]
  exact hzu
theorem op_indexAddr_vec {t e : TypeId} {x y : Operand} {id off sz n c i : Nat} {k : IntKind} {m : Int} (ho : o.op = .indexAddr t x y) (hu : P.underlying t = some (.slice e)) (hs : szOf P e = some sz) (hx : evo env x = some (.vec id off sz n c)) (hy : evo env y = some (.int k m)) (hm : m = (i : Int)) (hi : i < n) (h : K (.ref id (off + i * sz)) σ) : OpWp P rd o env σ K := by
 refine OpWp.of_run (by simp [ho]) fun g w a hr hop => ?_
 subst hm
 obtain ⟨b, hb, h1, h2, hv⟩ := (hop x (by simp [ho, Op.operands]) _ hx).inv_vec
 have hv2 := (hop y (by simp [ho, Op.operands]) _ hy).inv_int
 refine ⟨.pointer (some ⟨b, off + i * sz, none⟩), w, ?_, .same h hr (.ref _ _ _ hb)⟩
 simp [execOp, ho, Instr.indexAt, hv, hv2, asIntOf, run_underlying hu, hi, zC5 hs, zH4]
theorem op_conv_vec {t t' e : TypeId} {x : Operand} {id off c : Nat} {xs : List MV} {l : Bs} (ho : o.op = .convert t t' x) (hs : P.underlying t = some (.slice e)) (he : P.underlying e = some (.int .u8)) (ht : P.underlying t' = some .string)
  (hx : evo env x = some (.vec id off 1 l.length c)) (hσ : σ[id]? = some (.cells xs)) (hxs : (xs.drop off).take l.length = l.map encY) (h : K (.str (bs l)) σ) : OpWp P rd o env σ K := by
 refine OpWp.of_run (by simp [ho]) fun g w a hr hop => ⟨.string (bs l), w, ?_, .same h hr (.str _)⟩
 obtain ⟨b, hb, h1, h2, hv⟩ := (hop x (by simp [ho, Op.operands]) _ hx).inv_vec
 obtain ⟨own, hown⟩ := hr.ex
 obtain ⟨b', us, ty, e1, e2, e3, ⟨fr, e4, _⟩, e5⟩ := hown.obj _ _ hσ
 rw [hb] at e2
 injection e2 with e2
 subst e2
 have hrd := (e5.drop off).take l.length
 rw [hxs] at hrd
 have hus := us_bytes hrd
 have hrun := run_convert_bytes_back (P := P) w t t' e ⟨b, off, none⟩ c l hs he ht (fun j hj => by
  refine cells_at e4 off j ?_
  have : ((us.drop off).take l.length)[j]? = some (.int .u8 (l[j].toNat : Int)) := by
   rw [hus]
   simp [hj]
  rw [List.getElem?_take, if_pos hj] at this
  exact this)
 simp only [execOp, ho, hv, Sem.run_bind, hrun]
 rfl
theorem _root_.zD2 : type_of% @op_conv_vec := @op_conv_vec
end
theorem Rel.freeze {g : Gh} {σ : MS} {w : World} (h : Rel g σ w) {id b k : Nat} {l : List MV} (hσ : σ[id]? = some (.cells l)) (hb : g.bk id = some b) (hk : k ≤ l.length) :
  Rel (g.stab b k) (σ.set id .gone) w ∧ Le g w (g.stab b k) w := by
 obtain ⟨own, hown⟩ := h.ex
 obtain ⟨b', us, ty, e1, e2, e3, ⟨fr, e4, _⟩, e5⟩ := hown.obj _ _ hσ
 rw [hb] at e2
 injection e2 with e2
 subst e2
 have hle : Le g w (g.stab b k) w := by
  refine ⟨⟨rfl, rfl, fun c i hi => ⟨?_, rfl⟩, fun _ _ h => h, fun _ _ _ h => h, Nat.le_refl _⟩, fun _ _ h => h⟩
  simp only [Gh.stab]
  split
  ·rename_i e; subst e; omega
  ·exact hi
 have hg := h.gone id
 refine ⟨⟨h.below, h.base, fun c hc => ?_, fun i hi => h.bkn i (by simpa using hi), fun t n ht => h.lgn t n (by simpa using ht), ?_⟩, hle⟩
 ·simp only [Gh.stab]
  split
  ·rename_i e
   subst e
   have := (hown.lt id c e1).2.2
   omega
  ·exact h.fresh c hc
 ·refine ⟨fun i => if i = id then none else own i, ⟨fun i ob hi => ?_, fun i j c hi hj => ?_, fun i c hi => ?_⟩⟩
  ·by_cases e : i = id
   ·subst e
    rw [List.getElem?_set, if_pos rfl] at hi
    split at hi
    ·injection hi with hi
     subst hi
     simp [ObjRel]
    ·cases hi
   ·rw [if_neg e]
    rw [List.getElem?_set_ne (fun h => e h.symm)] at hi
    refine (hown.obj i ob hi).keep0 hle.toLe0 (fun c hc => ⟨rfl, ?_⟩) (fun _ => V)
    simp only [Gh.stab]
    rw [if_neg]
    intro ec
    subst ec
    exact e (hown.inj _ _ _ hc e1)
  ·split at hi
   ·cases hi
   ·split at hj
    ·cases hj
    ·exact hown.inj i j c hi hj
  ·split at hi
   ·cases hi
   ·obtain ⟨h1, h2⟩ := hown.lt i c hi
    exact ⟨by simpa using h1, h2⟩
section
variable {P : Program} {rd : Option Nat} {N n : Nat} {c : Code} {Q : Exit → Env → MS → Prop} {env : Env} {S L : MS}
end
end
section
theorem Rel.obj_set {g g' : Gh} {σ : MS} {w w' : World} (h : Rel g σ w) {t : Nat} {mo : MObj} (htl : t < σ.length) {own : Nat → Option Nat} (ho : Owns g σ w own) (hl : Le g w g' w') (hb : Below g.B g.w0 w') (hfr : ∀ b, w'.heap.size ≤ b → g'.st b = 0) (hbk : g'.bk = g.bk)
  (hlg : ∀ id k, id ≠ t → g'.lg id k = g.lg id k) (hst : ∀ id b, id ≠ t → own id = some b → w'.heap[b]? = w.heap[b]? ∧ g'.st b = g.st b) {ob : Option Nat} (hob : ObjRel g' w' ob t mo) (hne : ∀ id b, id ≠ t → own id = some b → ob ≠ some b) (hblt : ∀ b, ob = some b → g.B ≤ b ∧ b < w'.heap.size) :
  Rel g' (σ.set t mo) w' := by
 refine ⟨by rw [hl.B, hl.w0]; exact hb, by rw [hl.B, hl.w0]; exact h.base, hfr, fun id hid => by rw [hbk]; exact h.bkn id (by simpa using hid), fun s k hs => by rw [hlg s k (by simp at hs; omega)]; exact h.lgn s k (by simpa using hs), fun id => if id = t then ob else own id, ⟨fun id o hid => ?_, fun i j b hi hj => ?_, fun id b hid => ?_⟩⟩
 ·by_cases e : id = t
  ·subst e
   simp only [if_true]
   rw [List.getElem?_set_self htl] at hid
   injection hid with hid
   subst hid
   exact hob
  ·rw [if_neg e]
   rw [List.getElem?_set_ne (fun h => e h.symm)] at hid
   exact (ho.obj id o hid).keep0 hl.toLe0 (fun b hb => hst id b e hb) fun k => hlg id k e
 ·by_cases ei : i = t
  ·by_cases ej : j = t
   ·omega
   ·simp only [ei, if_true] at hi
    simp only [ej, if_false] at hj
    exact absurd hi (hne j b ej hj)
  ·by_cases ej : j = t
   ·simp only [ej, if_true] at hj
    simp only [ei, if_false] at hi
    exact absurd hj (hne i b ei hi)
   ·simp only [ei, ej, if_false] at hi hj
    exact ho.inj i j b hi hj
 ·by_cases e : id = t
  ·subst e
   simp only [if_true] at hid
   obtain ⟨h1, h2⟩ := hblt b hid
   exact ⟨by simpa using htl, by rw [hl.B]; exact h1, h2⟩
  ·simp only [e, if_false] at hid
   obtain ⟨h1, h2, h3⟩ := ho.lt id b hid
   exact ⟨by simpa using h1, by rw [hl.B]; exact h2, Nat.lt_of_lt_of_le h3 hl.size⟩
section
variable {P : Program} {rd : Option Nat} {o : Oper} {env : Env} {σ : MS} {K : MV → MS → Prop}
end
end
section
def OkD (ops : Array Oper) (i : Nat) (o : Oper) (D : Nat → Bool) : Prop := D i = false ∧ (∀ e, bindsOn o e = true → D e = true) ∧ ∀ (j : Nat) (p : Oper), ops[j]? = some p → D j = true → ∀ e, bindsOn p e = true → D e = true
def updD (D : Nat → Bool) (i : Nat) : Nat → Bool := fun j => if j = i then true else D j
section
variable {P : Program} {rd : Option Nat} {N n : Nat} {ops : Array Oper} {env : Env} {σ : MS} {st : (Nat → Bool) → MS}
structure RowS (P : Program) (rd : Option Nat) (ops : Array Oper) (st : (Nat → Bool) → MS) (E : Nat → Env) (X : Nat → MV) (B : Nat → Bool) (from_ n : Nat) : Prop where
 step : ∀ (i : Nat) (o : Oper), from_ ≤ i → ops[i]? = some o → guardOk ops (E i) o = some (B i) ∧
  (B i = true → ∀ D, OkD ops i o D → OpWp P rd o (E i) (st D) fun x' σ' => x' = X i ∧ σ' = st (updD D i)) ∧
  (B i = false → (∀ D, st (updD D i) = st D) ∧ X i = .tup []) ∧ E (i + 1) = putd o.dst (X i) (E i)
theorem rowS_get {E : Nat → Env} {X : Nat → MV} {B : Nat → Bool} (hx : LexS n ops) (hrow : RowS P rd ops st E X B 0 ops.size) : ∀ (i : Nat), i ≤ ops.size → ∀ t,
  (∀ (j : Nat) (p : Oper), j < i → ops[j]? = some p → p.dst = some t → get (E i) t = some (X j)) ∧ ((∀ (j : Nat) (p : Oper), j < i → ops[j]? = some p → p.dst ≠ some t) → get (E i) t = get (E 0) t)
 | 0, _, t => ⟨fun j p hj => by omega, fun _ => rfl⟩
 | i + 1, hi, t => by
  obtain ⟨h1, h2⟩ := rowS_get hx hrow i (by omega) t
  have ho : ops[i]? = some ops[i] := Array.getElem?_eq_getElem (by omega)
  obtain ⟨_, _, _, hE⟩ := hrow.step i _ (Nat.zero_le _) ho
  rw [hE]
  refine ⟨fun j p hj hp hd => ?_, fun hno => ?_⟩
  ·by_cases e : j = i
   ·subst e
    rw [ho] at hp
    injection hp with hp
    subst hp
    rw [hd]
    exact zE4 _ _ _
   ·have hne : ops[i].dst ≠ some t := fun hd' => e (hx.inj j i p _ t hp ho hd hd')
    cases hdo : ops[i].dst with
    | none => exact h1 j p (by omega) hp hd
    | some d =>
     rw [hdo] at hne
     show get ((d, X i) :: E i) t = _
     rw [zY3 _ _ (fun e => hne (by rw [e]))]
     exact h1 j p (by omega) hp hd
  ·have hne := hno i _ (by omega) ho
   have hold := h2 fun j p hj => hno j p (by omega)
   cases hdo : ops[i].dst with
   | none => exact hold
   | some d =>
    rw [hdo] at hne
    show get ((d, X i) :: E i) t = _
    rw [zY3 _ _ (fun e => hne (by rw [e]))]
    exact hold
structure DInvS (P : Program) (rd : Option Nat) (N n m0 : Nat) (ops : Array Oper) (st : (Nat → Bool) → MS) (E : Nat → Env) (X : Nat → MV) (g0 : Gh) (w0 : World) (F : Fence) (listed : Array Bool) (a : Act) (w : World) (g : Gh) : Prop where
 fok : FOkN N g rd F
 rel : Rel g (st fun j => listed.getD j false) w
 le : LeN N g0 w0 g w
 sz : a.tmps.size = n
 marks : Marks m0 w a.defers
 old : ∀ t x, get (E 0) t = some x → (∀ (j : Nat) (p : Oper), ops[j]? = some p → p.dst = some t → listed.getD j true = false) → ∃ v, a.tmps[t]? = some v ∧ Rd g w x v
 new : ∀ (j : Nat) (p : Oper) (d : Nat), listed.getD j false = true → ops[j]? = some p → p.dst = some d → ∃ v, a.tmps[d]? = some v ∧ Rd g w (X j) v
 lsz : listed.size = ops.size
theorem DInvS.reads {m0 : Nat} {E : Nat → Env} {X : Nat → MV} {B : Nat → Bool} {g0 : Gh} {w0 : World} {F : Fence} {listed : Array Bool} {a : Act} {w : World} {g : Gh} (hx : LexS n ops) (hrow : RowS P rd ops st E X B 0 ops.size) (hI : DInvS P rd N n m0 ops st E X g0 w0 F listed a w g)
  {i : Nat} {o : Oper} (hi : ops[i]? = some o) (hnl : listed.getD i true = false) (hdep : ∀ e ∈ o.after, Region.binds .any e = true → listed.getD e.on false = true)
  (hcl : ∀ (j : Nat) (p : Oper), ops[j]? = some p → listed.getD j false = true → ∀ e ∈ p.after, Region.binds .any e = true → listed.getD e.on false = true) {t : Nat} (ht : t ∈ readsOf ops o) {x : MV} (hg : get (E i) t = some x) : ∃ v, a.tmps[t]? = some v ∧ Rd g w x v := by
 have hlt : i < ops.size := (Array.getElem?_eq_some_iff.1 hi).1
 obtain ⟨h1, h2⟩ := rowS_get hx hrow i (by omega) t
 by_cases hex : ∃ (j : Nat) (p : Oper), j < i ∧ ops[j]? = some p ∧ p.dst = some t
 ·obtain ⟨j, p, hji, hp, hd⟩ := hex
  rcases hx.dep i j o p t hi hp ht hd with ⟨_, e, he, hb, hon⟩ | ⟨hij, _⟩ | hij
  ·rw [h1 j p hji hp hd] at hg
   injection hg with hg
   subst hg
   exact hI.new j p t (by rw [← hon]; exact hdep e he hb) hp hd
  ·omega
  ·omega
 ·have hno : ∀ (j : Nat) (p : Oper), j < i → ops[j]? = some p → p.dst ≠ some t := fun j p hj hp hd => hex ⟨j, p, hj, hp, hd⟩
  rw [h2 hno] at hg
  refine hI.old t x hg fun j p hp hd => ?_
  have hjs : j < ops.size := (Array.getElem?_eq_some_iff.1 hp).1
  have hji : ¬ j < i := fun hj => hno j p hj hp hd
  rcases hx.dep i j o p t hi hp ht hd with ⟨hj, _⟩ | ⟨hij, e, he, hb, hon⟩ | hij
  ·omega
  ·cases hl : listed.getD j true with
   | false => rfl
   | true =>
    rw [getD_ff hI.lsz hjs] at hl
    have := hcl j p hp hl e he hb
    rw [hon, ← getD_ff hI.lsz hlt, hnl] at this
    cases this
  ·subst hij; exact hnl
end
end
section
section
variable {P : Program} {rd : Option Nat} {o : Oper} {env : Env} {σ : MS} {K : MV → MS → Prop}
end
def hol (ty sz : Nat) (z v : List MV) (p q : Bool) : MObj := if p = true then .orow ty sz 1 (if q = true then v else z) else .orow ty sz 0 []
section
variable {P : Program} {rd : Option Nat} {o : Oper} {env : Env} {B : MS} {ty sz a b c d : Nat} {z vx vy : List MV} {D : Nat → Bool}
end
end
section
theorem row_new0 {g : Gh} {σ : MS} {w : World} (h : Rel g σ w) (ty sz : Nat) (mo : MObj)
  (hmo : ∀ (g' : Gh) (w' : World) (b : Nat) (v : Value), g'.lg σ.length 0 = some v → w'.ownsRow g'.B ty sz v 0 [] → v.ownBlock = some b → g'.st b = 0 → (∀ k, 0 < k → g'.lg σ.length k = none) → ObjRel g' w' (some b) σ.length mo) :
  Rel ((g.stab w.heap.size 0).log σ.length 0 (.slice (some ⟨w.heap.size, 0, none⟩) 0 0)) (σ ++ [mo]) (w.alloc (.cells #[] ty)) ∧ Le g w ((g.stab w.heap.size 0).log σ.length 0 (.slice (some ⟨w.heap.size, 0, none⟩) 0 0)) (w.alloc (.cells #[] ty)) := by
 obtain ⟨own, ho⟩ := h.ex
 have r1 := h.alloc_stab (.cells #[] ty) 0
 have l1 := Le.alloc_stab h (.cells #[] ty) 0
 have ho1 : Owns (g.stab w.heap.size 0) σ (w.alloc (.cells #[] ty)) own := ho.keep l1 (fun id b e => by
  have hlt := (ho.lt id b e).2.2
  refine ⟨Below.heap_alloc w _ b hlt, ?_⟩
  simp only [Gh.stab]
  rw [if_neg (by omega)]) (fun _ _ => rfl)
 have hl : Le (g.stab w.heap.size 0) (w.alloc (.cells #[] ty)) ((g.stab w.heap.size 0).log σ.length 0 (.slice (some ⟨w.heap.size, 0, none⟩) 0 0)) (w.alloc (.cells #[] ty)) := by
  refine ⟨⟨rfl, rfl, fun _ _ h => ⟨h, rfl⟩, fun _ _ h => h, fun t n v hv => ?_, Nat.le_refl _⟩, fun _ _ h => h⟩
  simp only [Gh.log]
  rw [if_neg (fun e => by rw [r1.lgn t n (by omega)] at hv; cases hv)]
  exact hv
 refine ⟨⟨r1.below, r1.base, r1.fresh, fun id hid => r1.bkn id (by simp at hid; omega), fun t n ht => ?_, ?_⟩, l1.trans hl⟩
 ·simp at ht
  simp only [Gh.log]
  rw [if_neg (by omega)]
  exact r1.lgn t n (by omega)
 ·refine ⟨fun id => if id = σ.length then some w.heap.size else own id, ⟨fun id o hid => ?_, fun i j b hi hj => ?_, fun id b hid => ?_⟩⟩
  ·by_cases e : id = σ.length
   ·subst e
    rw [List.getElem?_append_right (Nat.le_refl _)] at hid
    simp at hid
    subst hid
    simp only [if_true]
    refine hmo _ _ w.heap.size _ (by simp [Gh.log]) (World.ownsRow_made w #[] 0 h.size (Nat.zero_le _) (by simp)) V (by simp [Gh.log, Gh.stab]) fun k hk => ?_
    simp only [Gh.log]
    rw [if_neg (by omega)]
    exact r1.lgn _ _ (Nat.le_refl _)
   ·rw [if_neg e]
    have hlt : id < σ.length := by
     have := (zD.1 hid).1
     simp at this
     omega
    rw [List.getElem?_append_left hlt] at hid
    refine (ho1.obj id o hid).keep0 hl.toLe0 (fun b _ => Vv) fun k => ?_
    simp only [Gh.log]
    rw [if_neg (by omega)]
  ·have hne : ∀ {i b}, own i = some b → b ≠ w.heap.size := fun {i b} hi => by have := (ho.lt i b hi).2.2; omega
   split at hi
   ·split at hj
    ·omega
    ·rename_i e1 e2
     injection hi with hi
     exact absurd hi.symm (hne hj)
   ·split at hj
    ·injection hj with hj
     exact absurd hj.symm (hne hi)
    ·exact ho.inj i j b hi hj
  ·split at hid
   ·injection hid with hid
    subst hid
    rename_i e
    exact ⟨by simp; omega, h.size, by simp⟩
   ·obtain ⟨h1, h2, h3⟩ := ho.lt id b hid
    exact ⟨by simp; omega, h2, by simp; omega⟩
section
variable {P : Program} {rd : Option Nat} {o : Oper} {env : Env} {σ : MS} {K : MV → MS → Prop}
theorem run_build0 {t e sz bytes : Nat} (hu : P.underlying t = some (.slice e)) (he : elemOk P e sz bytes = true) (w : World) : (Instr.buildSlice t 0 #[]).run P w = .ok (.slice (some ⟨w.heap.size, 0, none⟩) 0 0) (w.alloc (.cells #[] e)) := by
 obtain ⟨i, z, hi, hz, hs, hb, hzs, hpos⟩ := elemOk_spec he
 simp [Instr.buildSlice, run_underlying hu, sizeOf, typeInfo, hi, Instr.fill, newRow]
 congr 2
 apply Array.ext <;> simp
theorem op_buildSlice0 {t e sz bytes : Nat} (ho : o.op = .buildSlice t 0 #[]) (hu : P.underlying t = some (.slice e)) (he : elemOk P e sz bytes = true) (h : K (.lst (some σ.length) sz []) (σ ++ [.row e sz 0])) : OpWp P rd o env σ K := by
 refine OpWp.of_run (by simp [ho]) fun g w a hr hop => ?_
 obtain ⟨r1, l1⟩ := row_new0 hr e sz (.row e sz 0) (fun g' w' b v h1 h2 h3 h4 h5 => ⟨v, [], h1, h2, h3, fun b' hb => (by injection hb with hb; subst hb; rw [h4]; omega), h5⟩)
 refine ⟨.slice (some ⟨w.heap.size, 0, none⟩) 0 0, w.alloc (.cells #[] e), ?_, _, _, _, h, r1, .lst' (us := []) V (by simp) (by simp [maxLen]) (by simp) (.nil _ _) (by simp) (fun t ht => by injection ht with ht; subst ht; simp [Gh.log]), l1⟩
 simp only [execOp, ho, Sem.run_bind]
 simp [run_build0 (P := P) hu he w]
theorem op_slicenil {x y : Operand} {tok : Option Nat} {sz : Nat} {xs : List MV} {t e t' : TypeId} (ho : o.op = .binOp .eql t x y t') (hu : P.underlying t = some (.slice e)) (hx : evo env x = some (.lst tok sz xs)) (hy : evo env y = some .lst0) (hsz : 0 < sz)
  (h : ∀ b, (b = true → xs = []) → K (.bool b) σ) : OpWp P rd o env σ K := by
 refine OpWp.of_run (by simp [ho]) fun g w a hr hop => ?_
 obtain ⟨ad, c, us, e1, h1, h2, h3, h4, h5, _⟩ := (hop x (by simp [ho, Op.operands]) _ hx).inv_lst
 have e2 := (hop y (by simp [ho, Op.operands]) _ hy).inv_lst0
 have hnil : ad.isNone = true → xs = [] := fun hn => by
  cases xs with
  | nil => rfl
  | cons x0 xs' =>
   have hz := h3 x0 (by simp)
   have hl := h4.1
   have : 0 < us.length := by
    rw [hl]
    simp only [flat, List.flatMap_cons, zE]
    omega
   obtain ⟨ad', hh, _⟩ := h5 0 us[0] (zC this)
   subst hh
   cases hn
 refine ⟨.bool ad.isNone, w, ?_, .same (h _ hnil) hr (.bool _)⟩
 simp only [execOp, ho, e1, e2, Sem.run_bind, Sem.run_pure]
 simp [eqGuard, Lib.run_eql_slice_nil w t e ad xs.length c 0 0 hu]
end
end
end Go.MV
namespace Go.Proofs.YtciimaabeabkdaaGreatDoor
open Go Go.MV Go.RowKit
mutual
def bottomF : Sch → Val
 | .mk k ins => if k = 5 then .mk 0 0 [] [] (bottomL ins) else noV
def bottomL : List Sch → List Val
 | [] => []
 | s :: l => bottomF s :: bottomL l
end
def BottomF (s : Sch) : Val := if isF 16 s then bottomF s else noV
noncomputable def noneF (s : Sch) (v : Val) : Bool := decide (BottomF s = v)
def numsK (k : Int) : Bool := k == 1 || k == 2 || k == 6
def textsK (k : Int) : Bool := k == 3 || k == 4 || k == 6
def clocksK (k : Int) : Bool := k == 7 || k == 8
def valuesK (k : Int) : Bool := k == 4 || k == 5 || k == 8
def bareF (k : Int) (v : Val) : Bool := (numsK k || v.nv == 0) && (k == 6 || v.mv == 0) && (textsK k || v.sv.length == 0) && (clocksK k || v.cv.length == 0) && (valuesK k || v.vv.length == 0)
def isRowF (s : List Bs) : Bool := decide (s.length ≤ 40) && risesF s && shortF s
def isLastF (n m : Int) : List Bs → Bool
 | [] => n == 0 && m == 0
 | [t] => decide (t.length ≤ 16) && (!(n == 0) || !(m == 0) || !(t == []))
 | _ => false
noncomputable def isB (k : Int) (ins : List Sch) (fs : List (Val → Bool)) (v : Val) : Bool :=
  bareF k v && decide (v.vv.length ≤ 40) && decide (v.cv.length ≤ 40) &&
  (if k = 1 then true else if k = 2 then decide (v.nv ≤ 1) else if k = 3 then isRowF v.sv
   else if k = 4 then isRowF v.sv && decide (v.sv.length = v.vv.length) && v.vv.all (fun x => fs.headD (fun _ => false) x && !noneF (ins.headD default) x)
   else if k = 5 then (match v.vv with | [x, y] => fs.headD (fun _ => false) x && fs.tail.headD (fun _ => false) y | _ => false)
   else if k = 6 then isLastF v.nv v.mv v.sv
   else if k = 7 then (match v.cv with | [] => true | [c] => decide (0 < c.length) && isClockF c | _ => false)
   else decide (v.cv.length = v.vv.length) && isCauseF v.cv && v.vv.all (fs.headD (fun _ => false)))
mutual
noncomputable def isVF : Sch → Val → Bool
 | .mk k ins, v => isB k ins (isVL ins) v
noncomputable def isVL : List Sch → List (Val → Bool)
 | [] => []
 | s :: l => isVF s :: isVL l
end
def okTk (t : Tk) : Prop := 0 ≤ t.2 ∧ t.2 < 18446744073709551616
mutual
def okV : Val → Prop
 | .mk n m s c v => (0 ≤ n ∧ n < 18446744073709551616) ∧ (0 ≤ m ∧ m < 18446744073709551616) ∧ (∀ x ∈ c, ∀ t ∈ x, okTk t) ∧ okVs v
def okVs : List Val → Prop
 | [] => True
 | x :: l => okV x ∧ okVs l
end
theorem okVs_iff : ∀ {l : List Val}, okVs l ↔ ∀ x ∈ l, okV x
 | [] => by simp [okVs]
 | x :: l => by rw [okVs, okVs_iff (l := l)]; simp
end Go.Proofs.YtciimaabeabkdaaGreatDoor
namespace Go.Proofs.YtciimaabeabkdaaGreatDoor
open Go Go.MV
theorem gtr_nil {α : Type} {en : α → MV} : intCmp .gtr (((([] : List α).map en).length : Nat) : Int) 0 = some false := rfl
theorem gtr_cons {α : Type} {en : α → MV} {x : α} {l : List α} : intCmp .gtr ((((x :: l).map en).length : Nat) : Int) 0 = some true := by simp [intCmp]
theorem merge_cons {α : Type} {cmp : α → α → Int} {bo : α → α → α} {x y : α} {a b : List α} : mergeF cmp bo (x :: a) (y :: b) = if cmp x y < 0 then x :: mergeF cmp bo a (y :: b) else if cmp x y > 0 then y :: mergeF cmp bo (x :: a) b else bo x y :: mergeF cmp bo a b := by rw [mergeF]
theorem _root_.zC0 : type_of% @Tryz.underlying202 := @Tryz.underlying202
theorem clkIs_spec (c : List Tk) (S : MS) : MCalls Tryz.prog 211 [.lst none 2 (c.map encT)] S fun v σ' => v = .bool (isClockF c) ∧ σ' = S := by
 refine zR Tryz.func211 V Tryz.ntmps211 (zA V) ?_
 refine zZ3 (t := 0) V fun hlen => ?_
 rw [zF] at hlen
 refine zB <| qR V <| qA V V V <| qN <| zB <| zB <| qR V <| qM V V V <| qE V V zC0 V <| qM V V V <| qN <| zB0 ?_
 refine zO4 (α := Nat) [(0, _), (5, _), (6, _)] (fun i => [(7, .int .i64 (i : Int))]) (fun i => []) (fun i => i ≤ c.length ∧ ∀ j, j < i → okAt c j = true) (fun i => c.length - i) (0) (Nat.le_refl _) (.keep V (.keep V (.keep V (.nil)))) (.keep V (.nil)) (⟨by omega, fun j hj => by omega⟩) (V) ?_
 rintro i ⟨hi, hall⟩
 refine zB <| qR V <| qC V V V V V <| qN <| zB ?_
 refine zM V (fun h8 => ?_) (fun h8 => ?_)
 ·
  have hlt : i < c.length := by simpa using h8
  obtain ⟨t, hs⟩ : ∃ q_, c[i]? = some q_ := ⟨_, zC hlt⟩
  refine zX <| zB <| zB0 <| zB <| qR V <| qM V V V <| qO V <| zI V zC0 sz262 (by decide) V V V (zM1 hs) ?_
  refine qO V <| zL V V ta262 V <| qO V <| zM0 V zm262 V V <| qA V V V <| qO V <| zZ V V V V sz262 V V (zA V) V <| qN <| zB ?_
  refine zW0 [] [_] mo (by decide) V V V V ?_
  refine dO V V V (zG V V zD5 Vv) <| dO V V V (zN0 V V V ta3 V Vv) <| dO V V V (zR2 V V V V Vv) <| dO V V V (zY V V Vv) ?_
  refine zR3 (fun h15 => ?_) (fun h15 => ?_)
  ·
   refine dS V V <| dS V V <| dS V V <| dO V V V (zP1 V V V Vv) <| dO V V V (zY V V Vv) <| dS V V <| dS V V <| dS V V <| dO V V V (zP1 V V V Vv) <| dO V V V (zY V V Vv) <| dS V V <| dS V V <| dS V V <| dS V V <| dS V V <| dS V V <| dS V V <| dS V V <| dS V V <| dS V V <| dS V V <| dS V V <| dS V V <| dO V V V (zP1 V V V Vv) <| zQ0 <| zU V (V) <| zB <| qR V <| qA V V V ?_
   refine qN <| zH ?_
   exact zT (.inr V) Tryz.results211 V (.of_eq (by rw [isClock_false hlt (by simp_all [okAt] <;> omega)])) (.bool _) Vv
  ·
   refine dO V V V (zG V V zD5 Vv) <| dO V V V (zN0 V V V ta3 V Vv) <| dO V V V (zR2 V V V V Vv) <| dO V V V (zP1 V V V Vv) <| dO V V V (zY V V Vv) ?_
   refine zR3 (fun h20 => ?_) (fun h20 => ?_)
   ·
    refine dS V V <| dS V V <| dS V V <| dO V V V (zP1 V V V Vv) <| dO V V V (zY V V Vv) <| dS V V <| dS V V <| dS V V <| dS V V <| dS V V <| dS V V <| dS V V <| dS V V <| dS V V <| dS V V <| dS V V <| dS V V <| dS V V <| dO V V V (zP1 V V V Vv) <| zQ0 <| zU V (V) <| zB <| qR V <| qA V V V <| qN <| zH ?_
    exact zT (.inr V) Tryz.results211 V (.of_eq (by rw [isClock_false hlt (by simp_all [okAt] <;> omega)])) (.bool _) Vv
   ·
    refine dO V V V (zG V V fo262_1 Vv) <| dO V V V (zN0 V V V ta22 V Vv) <| dO V V V (zR2 V V V V Vv) <| dO V V V (zP1 V V V Vv) <| dO V V V (zY V V Vv) ?_
    refine zR3 (fun h25 => ?_) (fun h25 => ?_)
    ·
     refine dS V V <| dS V V <| dS V V <| dS V V <| dS V V <| dS V V <| dS V V <| dS V V <| dS V V <| dS V V <| dS V V <| dS V V <| dS V V <| dO V V V (zP1 V V V Vv) <| zQ0 <| zU V (V) <| zB <| qR V <| qA V V V <| qN <| zH ?_
     exact zT (.inr V) Tryz.results211 V (.of_eq (by rw [isClock_false hlt (by simp_all [okAt] <;> omega)])) (.bool _) Vv
    ·
     refine dO V V V (zY V V Vv) <| dO V V V (zR2 V V V V Vv) <| dO V V V (zY V V Vv) ?_
     refine zR3 (fun h28 => ?_) (fun h28 => ?_)
     ·
      have hi0 : 0 < i := by simpa using h28
      obtain ⟨p, hp⟩ : ∃ a, c[i - 1]? = some a := ⟨_, zC (by omega)⟩
      refine dO V V V (zG V V zD5 Vv) <| dO V V V (zN0 V V V ta3 V Vv) <| dO V V V (zY V V Vv) <| dO V V V (zY V V Vv) <| dO V V V (zH1 V V V (wsub (a := i) (b := 1) (c := i - 1) (by omega) (by simp only [maxLen] at hlen; omega)) Vv) ?_
      refine dO V V V (zI V zC0 sz262 (by decide) V V V (zM1 hp) Vv) ?_
      refine dO V V V (zS1 V V zD5 Vv) <| dO V V V (zL V V ta3 V Vv) <| dO V V V (zR2 V V V V Vv) <| dO V V V (zP1 V V V Vv) <| dO V V V (zP1 V V V Vv) <| zQ0 ?_
      refine zM V (fun h39 => ?_) (fun h39 => ?_)
      ·
       refine zB <| qR V <| qA V V V <| qN <| zH ?_
       exact zT (.inr V) Tryz.results211 V (.of_eq (by rw [isClock_false hlt (by simp_all [okAt] <;> omega)])) (.bool _) Vv
      ·
       refine zX <| qR V <| qO V <| zH1 V V V V <| qM V V V <| qN ?_
       refine ⟨i + 1, _, by omega, ⟨by omega, fun j hj => ?_⟩, rfl, .nil, (.old V V (.old V V (.old V V (.nil)))), (.new' V (zH2 hlt hlen) (.int _ _) (.nil))⟩
       by_cases e : j = i
       ·subst e; simp_all [okAt]
       ·exact hall j (by omega)
     ·
      refine dS V V <| dS V V <| dS V V <| dS V V <| dS V V <| dS V V <| dS V V <| dS V V <| dS V V <| dO V V V (zP1 V V V Vv) <| dO V V V (zP1 V V V Vv) <| zQ0 <| zK V (V) <| zX <| qR V <| qO V <| zH1 V V V V <| qM V V V <| qN ?_
      refine ⟨i + 1, _, by omega, ⟨by omega, fun j hj => ?_⟩, rfl, .nil, (.old V V (.old V V (.old V V (.nil)))), (.new' V (zH2 hlt hlen) (.int _ _) (.nil))⟩
      by_cases e : j = i
      ·subst e; simp_all [okAt]
      ·exact hall j (by omega)
 ·
  have hge : i = c.length := by simp at h8; omega
  refine zV1 <| zB <| qR V <| qM V V V <| qE V V zC0 V <| qC V V V V V <| qA V V V <| qN <| zH ?_
  exact zT (.inr V) Tryz.results211 V (.of_eq (by rw [isClock_end (fun j hj => hall j (by omega)), zF])) (.bool _) Vv
theorem tEqual_spec (a b : List Tk) (S : MS) : MCalls Tryz.prog 176 [.lst none 2 (a.map encT), .lst none 2 (b.map encT)] S fun v σ' => v = .bool (decide (a = b)) ∧ σ' = S := by
 refine zR Tryz.func176 V Tryz.ntmps176 (zA V) ?_
 refine zZ3 (t := 0) V fun hlen => ?_
 rw [zF] at hlen
 refine zB <| qR V <| qA V V V <| qN <| zB <| zB <| qR V <| qM V V V <| qE V V zC0 V <| qM V V V <| qE V V zC0 V <| qC V V V V V <| qN ?_
 refine zM V (fun h10 => ?_) (fun h10 => ?_)
 ·
  refine zB <| qR V <| qA V V V <| qN <| zH ?_
  exact zT (.inr V) Tryz.results176 V (.of_eq (by congr 1; symm; rw [decide_eq_false_iff_not]; intro e; subst e; simp at h10)) (.bool _) Vv
 ·
  have hab : a.length = b.length := by simp at h10; omega
  refine zX <| zB <| zB <| qR V <| qM V V V <| qE V V zC0 V <| qM V V V <| qN <| zB0 ?_
  refine zK2 (α := Nat) [(0, _), (1, _), (12, _)] (fun i => [(13, .int .i64 (i : Int))]) (fun i => []) (fun i => i ≤ a.length ∧ a.take i = b.take i) (fun i => a.length - i) (0) (.keep V (.keep V (.keep V (.nil)))) (.keep V (.nil)) (⟨by omega, rfl⟩) (V) ?_
  rintro i ⟨hi, heq⟩
  refine zB <| qR V <| qC V V V V V <| qN <| zB ?_
  refine zM V (fun h14 => ?_) (fun h14 => ?_)
  ·
   have hlt : i < a.length := by simpa using h14
   obtain ⟨x, hs⟩ : ∃ q_, a[i]? = some q_ := ⟨_, zC hlt⟩
   obtain ⟨y, hs2⟩ : ∃ s, b[i]? = some s := ⟨_, zC (by omega)⟩
   refine zX <| zB <| zB0 <| zB <| qR V <| qM V V V <| qA V V V <| qN <| zB ?_
   refine zW0 [] [_] mo (by decide) V V V V ?_
   refine dO V V V (zY V V Vv) <| dO V V V (zY V V Vv) <| dO V V V (zI V zC0 sz262 (by decide) V V V (zM1 hs) Vv) ?_
   refine dO V V V (zL V V ta262 V Vv) <| dO V V V (zY V V Vv) <| dO V V V (zY V V Vv) <| dO V V V (zI V zC0 sz262 (by decide) V V V (zM1 hs2) Vv) ?_
   refine dO V V V (zL V V ta262 V Vv) <| zN V V (.cons (op_eqstruct V (by kernel_rfl) V V V (.inr Vv) Vv) .nil) ?_
   refine zQ0 ?_
   refine zM V (fun h24 => ?_) (fun h24 => ?_)
   ·
    refine zB <| qR V <| qA V V V <| qN <| zH ?_
    exact zT (.inr V) Tryz.results176 V (.of_eq (by congr 1; symm; rw [decide_eq_false_iff_not]; intro e; subst e; rw [hs2] at hs; injection hs with hs; subst hs; simp at h24)) (.bool _) Vv
   ·
    refine zX <| qR V <| qO V <| zH1 V V V V <| qM V V V <| qN ?_
    refine ⟨i + 1, by omega, ⟨by omega, ?_⟩, rfl, (.keep V (.keep V (.keep V (.nil)))), (.eq V (zH2 hlt hlen) (.nil))⟩
    rw [List.take_add_one, List.take_add_one, hs, hs2, heq]
    obtain ⟨x1, x2⟩ := x; obtain ⟨y1, y2⟩ := y
    simp at h24
    rw [h24.1, h24.2]
  ·
   have hge : i = a.length := by simp at h14; omega
   refine zV1 <| zB <| qR V <| qA V V V <| qN <| zH ?_
   exact zT (.inr V) Tryz.results176 V (.of_eq (by congr 1; symm; rw [decide_eq_true_iff]; rw [hge, List.take_length, hab, List.take_length] at heq; exact heq)) (.bool _) Vv
theorem clkSame_spec (a b : List Tk) (S : MS) : MCalls Tryz.prog 135 [.lst none 2 (a.map encT), .lst none 2 (b.map encT)] S fun v σ' => v = .bool (decide (a = b)) ∧ σ' = S := by
 refine zR Tryz.func135 V Tryz.ntmps135 (zA V) ?_
 refine zB <| qR V <| qA V V V <| qN <| zB <| qR V <| qM V V V <| qM V V V ?_
 refine qX V V V V co176 (tEqual_spec a b _) ?_
 refine qA V V V <| qN <| zH ?_
 exact zT (.inr V) Tryz.results135 V (.of_eq (V)) (.bool _) Vv
theorem isNaN_spec (m : Int) (S : MS) : MCalls Tryz.prog 214 [.int .i64 m] S fun v σ' => v = .bool false ∧ σ' = S := by
 refine zR Tryz.func214 V Tryz.ntmps214 (zA V) ?_
 refine zB <| qR V <| qA V V V <| qN <| zB <| qR V <| qM V V V <| qM V V V <| qC V V V V V <| qA V V V <| qN <| zH ?_
 exact zT (.inr V) Tryz.results214 V (.of_eq (by simp)) (.bool _) Vv
theorem compare_spec (m n : Int) (S : MS) : MCalls Tryz.prog 166 [.int .i64 m, .int .i64 n] S fun v σ' => v = .int .i64 (cmpI m n) ∧ σ' = S := by
 refine zR Tryz.func166 V Tryz.ntmps166 (zA V) ?_
 refine zB <| qR V <| qA V V V <| qN <| zB <| qR V <| qM V V V ?_
 refine qX V V V V co214 (isNaN_spec m _) ?_
 refine qA V V V <| qN <| zB <| qR V <| qM V V V ?_
 refine qX V V V V co214 (isNaN_spec n _) ?_
 refine qA V V V <| qN <| zB <| zB <| qR V <| qM V V V <| qN <| zK V (V) <| zX <| zB <| zB <| qR V <| qM V V V <| qN <| zK V (V) <| zX <| zB <| zB <| qR V <| qM V V V <| qM V V V <| qC V V V V V <| qN ?_
 refine zM V (fun h16 => ?_) (fun h16 => ?_)
 ·
  refine zB <| qR V <| qA V V V <| qN <| zH ?_
  exact zT (.inr V) Tryz.results166 V (.of_eq (by simp only [decide_eq_true_eq] at h16; rw [cmpI, if_pos h16])) (.int _ _) Vv
 ·
  refine zX <| zB <| zB <| qR V <| qM V V V <| qM V V V <| qC V V V V V <| qN ?_
  refine zM V (fun h19 => ?_) (fun h19 => ?_)
  ·
   refine zB <| qR V <| qA V V V <| qN <| zH ?_
   exact zT (.inr V) Tryz.results166 V (.of_eq (by simp only [decide_eq_true_eq, decide_eq_false_iff_not] at h16 h19; rw [cmpI, if_neg h16, if_pos h19])) (.int _ _) Vv
  ·
   refine zX <| zB <| qR V <| qA V V V <| qN <| zH ?_
   exact zT (.inr V) Tryz.results166 V (.of_eq (by simp only [decide_eq_true_eq, decide_eq_false_iff_not] at h16 h19; rw [cmpI, if_neg h16, if_neg h19])) (.int _ _) Vv
theorem byWho_spec (x y : Tk) (S : MS) : MCalls Tryz.prog 300 [encT x, encT y] S fun v σ' => v = .int .i64 (cmpI x.1 y.1) ∧ σ' = S := by
 refine zR Tryz.func300 V Tryz.ntmps300 (zA V) ?_
 refine zB <| qR V <| qB V V V V V <| qB V V V V V <| qA V V V <| qN <| zB <| qR V <| qF V V V zD5 <| qL V V V V ta3 V <| qF V V V zD5 <| qL V V V V ta3 V ?_
 refine qX V V V V co166 (compare_spec x.1 y.1 _) ?_
 refine qA V V V <| qN <| zH ?_
 exact zT (.inr V) Tryz.results300 V (.of_eq (V)) (.int _ _) Vv
theorem join1_spec (x y : Tk) (S : MS) : MCalls Tryz.prog 301 [encT x, encT y] S fun v σ' => v = encT (bothT x y) ∧ σ' = S := by
 refine zR Tryz.func301 V Tryz.ntmps301 (zA V) ?_
 refine zB <| qR V <| qB V V V V V <| qB V V V V V <| qO V <| zM0 V zm262 V V <| qN <| zB <| qR V <| qF V V V zD5 <| qL V V V V ta3 V <| qF V V V fo262_1 <| qL V V V V ta22 V <| qF V V V fo262_1 <| qL V V V V ta22 V <| qO V <| op_max2 V V V <| qO V <| zR1 V Tryz.underlying262 zm262 (.cons zD5 sz3 V V (zA V) (.cons fo262_1 sz22 V V (zA V) .nil)) (by kernel_rfl) ?_
 refine qO V <| zZ V V V V sz262 V V (zA V) V <| qN <| zH ?_
 exact zF3 (.inr V) Tryz.results301 V V ta262 V (.refl _) (cl_encT _ (bothT x y)) Vv
theorem merge_spec (a b : List Tk) (cmp : Tk → Tk → Int) (bo : Tk → Tk → Tk) (kc kb : FuncId) (hab : a.length + b.length ≤ 1000000) (hco : CallOk Tryz.prog kc) (hcb : CallOk Tryz.prog kb) (hp : ∀ (x y : Tk) (X : MS), MCalls Tryz.prog kc [encT x, encT y] X fun v σ' => v = .int .i64 (cmp x y) ∧ σ' = X) (hq : ∀ (x y : Tk) (X : MS), MCalls Tryz.prog kb [encT x, encT y] X fun v σ' => v = encT (bo x y) ∧ σ' = X) (S : MS) : MCalls Tryz.prog 299 [.lst none 2 (a.map encT), .lst none 2 (b.map encT), .fn (.func kc) [] [], .fn (.func kb) [] []] S fun v σ' => v = .lst none 2 ((mergeF cmp bo a b).map encT) ∧ σ' = S := by
 refine zR Tryz.func299 V Tryz.ntmps299 (zA V) ?_
 refine zB <| qR V <| qA V V V <| qN <| zB <| qR V <| qA V V V <| qN <| zB <| zB0 <| mwp_row0 9 262 2 V (Nat.le_refl _) V V ?_
 refine zK2 (α := List Tk × List Tk × List Tk) [(2, _), (3, _)] (fun x => [(0, .lst none 2 (x.1.map encT)), (1, .lst none 2 (x.2.1.map encT)), (9, .lst (some (S.length + 0)) 2 (x.2.2.map encT))]) (fun x => [.row 262 2 x.2.2.length]) (fun x => x.2.2.length + x.1.length + x.2.1.length ≤ a.length + b.length ∧ x.2.2 ++ mergeF cmp bo x.1 x.2.1 = mergeF cmp bo a b) (fun x => x.1.length + x.2.1.length) (⟨a, b, []⟩) (.keep V (.keep V (.nil))) (.keep V (.keep V (.keep V (.nil)))) (⟨by simp, by simp⟩) (V) ?_
 rintro ⟨a', b', out⟩ ⟨hl, he⟩
 dsimp only at hl he ⊢
 refine zB <| zB ?_
 rcases a' with _ | ⟨x, a'⟩
 ·
  refine qR V <| qM V V V <| qE V V zC0 V <| qC V V V V (gtr_nil) <| qM V V V <| qS V <| qS V <| qS V <| qP V V V V <| qN <| zK V (V) <| zV1 <| zB <| qR V <| qM V V V <| qM V V V <| qO V <| zK3 V zC0 el262 V V V (by simp) (by simp only [zF0, List.length_nil, zF, zE] at hl ⊢; omega) (by simp only [zF0, List.length_nil, zF, zE] at hl ⊢; omega) V ?_
  refine qM V V V <| qO V <| zK3 V zC0 el262 V V V (by simp) (by simp only [zF0, List.length_nil, zF, zE] at hl ⊢; omega) (by simp only [zF0, List.length_nil, zF, zE] at hl ⊢; omega) V ?_
  refine qA V V V <| qN <| zH ?_
  exact zT (.inr V) Tryz.results299 V (Sub.trans (.view _ _ _) (.of_eq (by rw [← he]; simp [nil_merge]))) (cl_clock _ _) Vv
 ·
  rcases b' with _ | ⟨y, b'⟩
  ·
   refine qR V <| qM V V V <| qE V V zC0 V <| qC V V V V (gtr_cons) <| qM V V V <| qM V V V <| qE V V zC0 V <| qC V V V V (gtr_nil) <| qP V V V V <| qN <| zK V (V) <| zV1 <| zB <| qR V <| qM V V V <| qM V V V <| qO V <| zK3 V zC0 el262 V V V (by simp) (by simp only [zF0, List.length_nil, zF, zE] at hl ⊢; omega) (by simp only [zF0, List.length_nil, zF, zE] at hl ⊢; omega) V ?_
   refine qM V V V <| qO V <| zK3 V zC0 el262 V V V (by simp) (by simp only [zF0, List.length_nil, zF, zE] at hl ⊢; omega) (by simp only [zF0, List.length_nil, zF, zE] at hl ⊢; omega) V ?_
   refine qA V V V <| qN <| zH ?_
   exact zT (.inr V) Tryz.results299 V (Sub.trans (.view _ _ _) (.of_eq (by rw [← he]; simp [merge_nil]))) (cl_clock _ _) Vv
  ·
   simp only [zF0] at hl
   refine qR V <| qM V V V <| qE V V zC0 V <| qC V V V V (gtr_cons) <| qM V V V <| qM V V V <| qE V V zC0 V <| qC V V V V (gtr_cons) <| qP V V V V <| qN <| zU V (V) <| zX <| zB0 <| zB ?_
   refine zW0 [] [_] mo (by decide) V V V V ?_
   refine dO V V V (zY V V Vv) <| dO V V V (zY V V Vv) <| dO V V V (zI V zC0 sz262 (by decide) V V V V Vv) ?_
   refine dO V V V (zL V V ta262 V Vv) <| dO V V V (zY V V Vv) <| dO V V V (zI V zC0 sz262 (by decide) V V V V Vv) ?_
   refine dO V V V (zL V V ta262 V Vv) <| zN V V (.cons (zT0 V V V hco (hp x y _)) .nil) <| dO V V V (zZ0 V V Vv) <| zQ0 <| zB0 <| zB <| qR V <| qM V V V <| qC V V V V V <| qA V V V <| qN ?_
   refine zM V (fun h42 => ?_) (fun h42 => ?_)
   ·
    refine zW0 [5] [_, S ++ [.row 262 2 (out.length + 1)]] mo (by decide) V V V V ?_
    refine dO V V V (zY V V Vv) <| zN V V (.cons (zY V V Vv) (.cons (zY V V Vv) (.nil))) <| zN V V (.cons (zI V zC0 sz262 (by decide) V V V V Vv) (.cons (zI V zC0 sz262 (by decide) V V V V Vv) (.nil))) ?_
    refine zN V V (.cons (zL V V ta262 V Vv) (.cons (zL V V ta262 V Vv) (.nil))) <| dO V V V (zL1 V zC0 el262 V V (by decide) (by decide) V V Vv) ?_
    refine zV0 V V V V (zK3 V zC0 el262 V V V (by simp) (by simp only [zF0, List.length_nil, zF, zE] at hl ⊢; omega) (by simp only [zF0, List.length_nil, zF, zE] at hl ⊢; omega) V Vv) ?_
    refine zN V V (.cons (zY V V Vv) (.cons (zY V V Vv) (.nil))) <| zN V V (.cons (zC2 V zC0 sz262 V (.some V V) .none (by simp) (Nat.le_refl _) Vv) (.cons (zC2 V zC0 sz262 V (.some V V) .none (by simp) (Nat.le_refl _) Vv) (.nil))) ?_
    refine dO V V V (zZ0 V V Vv) <| dO V V V (zZ0 V V Vv) <| zQ0 ?_
    simp only [decide_eq_true_eq] at h42
    refine ⟨⟨a', y :: b', out ++ [x]⟩, by simp only [zF0, zE, List.length_nil]; omega, ⟨by simp only [zF0, zE, List.length_nil]; omega, by rw [← he, merge_cons, if_pos h42]; simp⟩, by simp, (.keep V (.keep V (.nil))), (.eq V (by simp [List.take_of_length_le]) (.keep V (.eq V (by rw [List.map_append]; rfl) (.nil))))⟩
   ·
    refine zB <| qR V <| qM V V V <| qC V V V V V <| qA V V V <| qN ?_
    refine zM V (fun h53 => ?_) (fun h53 => ?_)
    ·
     refine zW0 [5] [_, S ++ [.row 262 2 (out.length + 1)]] mo (by decide) V V V V ?_
     refine dO V V V (zY V V Vv) <| zN V V (.cons (zY V V Vv) (.cons (zY V V Vv) (.nil))) <| zN V V (.cons (zI V zC0 sz262 (by decide) V V V V Vv) (.cons (zI V zC0 sz262 (by decide) V V V V Vv) (.nil))) ?_
     refine zN V V (.cons (zL V V ta262 V Vv) (.cons (zL V V ta262 V Vv) (.nil))) <| dO V V V (zL1 V zC0 el262 V V (by decide) (by decide) V V Vv) ?_
     refine zV0 V V V V (zK3 V zC0 el262 V V V (by simp) (by simp only [zF0, List.length_nil, zF, zE] at hl ⊢; omega) (by simp only [zF0, List.length_nil, zF, zE] at hl ⊢; omega) V Vv) ?_
     refine zN V V (.cons (zY V V Vv) (.cons (zY V V Vv) (.nil))) <| zN V V (.cons (zC2 V zC0 sz262 V (.some V V) .none (by simp) (Nat.le_refl _) Vv) (.cons (zC2 V zC0 sz262 V (.some V V) .none (by simp) (Nat.le_refl _) Vv) (.nil))) ?_
     refine dO V V V (zZ0 V V Vv) <| dO V V V (zZ0 V V Vv) <| zQ0 ?_
     simp only [decide_eq_true_eq, decide_eq_false_iff_not] at h42 h53
     refine ⟨⟨x :: a', b', out ++ [y]⟩, by simp only [zF0, zE, List.length_nil]; omega, ⟨by simp only [zF0, zE, List.length_nil]; omega, by rw [← he, merge_cons, if_neg h42, if_pos h53]; simp⟩, by simp, (.keep V (.keep V (.nil))), (.keep V (.eq V (by simp [List.take_of_length_le]) (.eq V (by rw [List.map_append]; rfl) (.nil))))⟩
    ·
     refine zW0 [10] [_, S ++ [.row 262 2 (out.length + 1)]] mo (by decide) V V V V ?_
     refine dO V V V (zY V V Vv) <| zN V V (.cons (zY V V Vv) (.cons (zY V V Vv) (.nil))) <| zN V V (.cons (zY V V Vv) (.cons (zY V V Vv) (.nil))) <| zN V V (.cons (zI V zC0 sz262 (by decide) V V V V Vv) (.cons (zI V zC0 sz262 (by decide) V V V V Vv) (.nil))) ?_
     refine zN V V (.cons (zL V V ta262 V Vv) (.cons (zL V V ta262 V Vv) (.nil))) <| zN V V (.cons (zY V V Vv) (.cons (zY V V Vv) (.nil))) <| zN V V (.cons (zI V zC0 sz262 (by decide) V V V V Vv) (.cons (zI V zC0 sz262 (by decide) V V V V Vv) (.nil))) ?_
     refine zN V V (.cons (zL V V ta262 V Vv) (.cons (zL V V ta262 V Vv) (.nil))) <| zN V V (.cons (zT0 V V V hcb (hq x y _)) .nil) <| dO V V V (zL1 V zC0 el262 V V (by decide) (by decide) V V Vv) ?_
     refine zV0 V V V V (zK3 V zC0 el262 V V V (by simp) (by simp only [zF0, List.length_nil, zF, zE] at hl ⊢; omega) (by simp only [zF0, List.length_nil, zF, zE] at hl ⊢; omega) V Vv) ?_
     refine zN V V (.cons (zY V V Vv) (.cons (zY V V Vv) (.nil))) <| zN V V (.cons (zC2 V zC0 sz262 V (.some V V) .none (by simp) (Nat.le_refl _) Vv) (.cons (zC2 V zC0 sz262 V (.some V V) .none (by simp) (Nat.le_refl _) Vv) (.nil))) ?_
     refine zN V V (.cons (zY V V Vv) (.cons (zY V V Vv) (.nil))) <| zN V V (.cons (zC2 V zC0 sz262 V (.some V V) .none (by simp) (Nat.le_refl _) Vv) (.cons (zC2 V zC0 sz262 V (.some V V) .none (by simp) (Nat.le_refl _) Vv) (.nil))) ?_
     refine dO V V V (zZ0 V V Vv) <| dO V V V (zZ0 V V Vv) <| dO V V V (zZ0 V V Vv) <| zQ0 ?_
     simp only [decide_eq_false_iff_not] at h42 h53
     refine ⟨⟨a', b', out ++ [bo x y]⟩, by simp only [zF0, zE, List.length_nil]; omega, ⟨by simp only [zF0, zE, List.length_nil]; omega, by rw [← he, merge_cons, if_neg h42, if_neg h53]; simp⟩, by simp, (.keep V (.keep V (.nil))), (.eq V (by simp [List.take_of_length_le]) (.eq V (by simp [List.take_of_length_le]) (.eq V (by rw [List.map_append]; rfl) (.nil))))⟩
theorem clkJoin_spec (a b : List Tk) (hab : a.length + b.length ≤ 1000000) (S : MS) : MCalls Tryz.prog 272 [.lst none 2 (a.map encT), .lst none 2 (b.map encT)] S fun v σ' => v = .lst none 2 ((joinF a b).map encT) ∧ σ' = S := by
 refine zR Tryz.func272 V Tryz.ntmps272 (zA V) ?_
 refine zB <| qR V <| qA V V V <| qN <| zB <| qR V <| qM V V V <| qM V V V ?_
 refine qX V V V V co299 (merge_spec a b (fun x y => cmpI x.1 y.1) bothT 300 301 hab co300 co301 byWho_spec join1_spec _) ?_
 refine qA V V V <| qN <| zH ?_
 exact zT (.inr V) Tryz.results272 V (.of_eq (V)) (cl_clock _ _) Vv
theorem clkCmp_spec (a b : List Tk) (hab : a.length + b.length ≤ 1000000) (S : MS) : MCalls Tryz.prog 252 [.lst none 2 (a.map encT), .lst none 2 (b.map encT)] S fun v σ' => v = .int .i64 (cmpF a b) ∧ σ' = S := by
 refine zR Tryz.func252 V Tryz.ntmps252 (zA V) ?_
 refine zB <| qR V <| qA V V V <| qN <| zB <| qR V <| qM V V V <| qM V V V ?_
 refine qX V V V V co272 (clkJoin_spec a b hab _) ?_
 refine qA V V V <| qN <| zB <| zB0 <| zB <| qR V <| qM V V V <| qM V V V ?_
 refine qX V V V V co135 (clkSame_spec a b _) ?_
 refine qA V V V <| qN ?_
 refine zM V (fun h9 => ?_) (fun h9 => ?_)
 ·
  refine zB <| qR V <| qA V V V <| qN <| zH ?_
  exact zT (.inr V) Tryz.results252 V (.of_eq (by unfold cmpF; simp_all)) (.int _ _) Vv
 ·
  refine zB <| qR V <| qM V V V <| qM V V V ?_
  refine qX V V V V co135 (clkSame_spec (joinF a b) b _) ?_
  refine qA V V V <| qN ?_
  refine zM V (fun h13 => ?_) (fun h13 => ?_)
  ·
   refine zB <| qR V <| qA V V V <| qN <| zH ?_
   exact zT (.inr V) Tryz.results252 V (.of_eq (by unfold cmpF; simp_all)) (.int _ _) Vv
  ·
   refine zB <| qR V <| qM V V V <| qM V V V ?_
   refine qX V V V V co135 (clkSame_spec (joinF a b) a _) ?_
   refine qA V V V <| qN ?_
   refine zM V (fun h17 => ?_) (fun h17 => ?_)
   ·
    refine zB <| qR V <| qA V V V <| qN <| zH ?_
    exact zT (.inr V) Tryz.results252 V (.of_eq (by unfold cmpF; simp_all)) (.int _ _) Vv
   ·
    refine zX <| zB <| qR V <| qA V V V <| qN <| zH ?_
    exact zT (.inr V) Tryz.results252 V (.of_eq (by unfold cmpF; simp_all)) (.int _ _) Vv
end Go.Proofs.YtciimaabeabkdaaGreatDoor
