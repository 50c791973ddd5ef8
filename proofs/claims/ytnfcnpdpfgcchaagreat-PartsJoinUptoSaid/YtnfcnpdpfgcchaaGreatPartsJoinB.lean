/-
  Texts on which the proof of PartsJoin leans: part 2.
-/
import Derived.Test.YtnfcnpdpfgcchaaGreatPartsJoinA
import Derived.Test.YtnfcnpdpfgcchaaGreatProg
import Derived.KernelRfl
import Derived.Deep.Slices
import Derived.ChangeSame
import Derived.ProofKit
import Derived.OpenShut
import Derived.ChangeOld
import Derived.SizedLaws
import Derived.Carry
import Derived.Laws.StructEq
import Derived.Test.YtnfcnpdpfgcchaaGreatRows
set_option linter.unusedVariables false
set_option linter.unusedSimpArgs false
set_option maxRecDepth 20000
set_option maxHeartbeats 8000000
namespace Go.MV
open Go Go.RowKit
section
theorem Rel.alloc_gen {g : Gh} {σ : MS} {w : World} (h : Rel g σ w) (o : Obj) (mo : MObj)
  (H : ∀ g', Le g w g' (w.alloc o) → g'.bk σ.length = some w.heap.size → g'.st w.heap.size = 0 → ObjRel g' (w.alloc o) (some w.heap.size) σ.length mo) :
  ∃ g', Rel g' (σ ++ [mo]) (w.alloc o) ∧ Le g w g' (w.alloc o) ∧ g'.bk σ.length = some w.heap.size := by
 obtain ⟨own, ho0⟩ := h.ex
 have l1 := Le.alloc_stab h o 0
 have r1 := h.alloc_stab o 0
 have l2 : Le (g.stab w.heap.size 0) (w.alloc o) ((g.stab w.heap.size 0).bind σ.length w.heap.size) (w.alloc o) := Le.bind (r1.bkn σ.length (Nat.le_refl _))
 refine ⟨(g.stab w.heap.size 0).bind σ.length w.heap.size, ⟨r1.below, r1.base, r1.fresh, fun id hid => ?_, fun t n ht => r1.lgn t n (by simp at ht; omega), ?_⟩, l1.trans l2, by simp [Gh.bind]⟩
 ·simp at hid
  simp only [Gh.bind]
  rw [if_neg (by omega)]
  exact r1.bkn id (by omega)
 ·have ho : Owns (g.stab w.heap.size 0) σ (w.alloc o) own := by
   refine ho0.keep l1 (fun id b e => ?_) (fun _ _ => V)
   have hlt := (ho0.lt id b e).2.2
   refine ⟨Below.heap_alloc w o b hlt, ?_⟩
   simp only [Gh.stab]
   rw [if_neg (by omega)]
  have ho' := ho.keep l2 (fun _ _ _ => ⟨rfl, rfl⟩) (fun _ _ => rfl)
  have hold : ∀ id b, own id = some b → b < w.heap.size := fun id b e => (ho0.lt id b e).2.2
  refine ⟨fun id => if id = σ.length then some w.heap.size else own id, ⟨fun id o' hid => ?_, fun i j b hi hj => ?_, fun id b hid => ?_⟩⟩
  ·by_cases e : id = σ.length
   ·subst e
    rw [List.getElem?_append_right (Nat.le_refl _)] at hid
    simp at hid
    subst hid
    simp only [if_true]
    exact H _ (l1.trans l2) (by simp [Gh.bind]) (by simp [Gh.bind, Gh.stab])
   ·rw [if_neg e]
    have hlt : id < σ.length := by
     have := (zH.1 hid).1
     simp at this
     omega
    rw [List.getElem?_append_left hlt] at hid
    exact ho'.obj id o' hid
  ·by_cases ei : i = σ.length <;> by_cases ej : j = σ.length
   ·omega
   ·simp only [ei, if_true] at hi
    simp only [ej, if_false] at hj
    have := hold j b hj
    injection hi with hi
    omega
   ·simp only [ej, if_true] at hj
    simp only [ei, if_false] at hi
    have := hold i b hi
    injection hj with hj
    omega
   ·simp only [ei, ej, if_false] at hi hj
    exact ho'.inj i j b hi hj
  ·by_cases e : id = σ.length
   ·simp only [e, if_true] at hid
    injection hid with hid
    subst hid
    exact ⟨by simp [e], h.size, by simp⟩
   ·simp only [e, if_false] at hid
    obtain ⟨h1, h2, h3⟩ := ho'.lt id b hid
    exact ⟨by simp; omega, h2, h3⟩
theorem Rel.loop_set {g : Gh} {σ : MS} {w : World} (h : Rel g σ w) {id b : Nat} {s : LoopState} {p : Option Code} {ls : LS} (hσ : σ[id]? = some (.loop s p ls)) (hb : g.bk id = some b) {l : Loop} (hl : w.heap[b]? = some (Obj.loop l)) (s' : LoopState) (p' : Option Code) :
    Rel g (σ.set id (.loop s' p' ls)) { w with heap := w.heap.setIfInBounds b (Obj.loop { l with state := s', pending := p' }) } ∧ Le g w g { w with heap := w.heap.setIfInBounds b (Obj.loop { l with state := s', pending := p' }) } := by
  obtain ⟨own, hown⟩ := h.ex
  obtain ⟨b', l', e1, e2, e3, e4, e5, e6, e7, e8, e9, e10⟩ := hown.obj _ _ hσ
  rw [hb] at e2; injection e2 with e2; subst e2
  rw [hl] at e3
  injection e3 with e3
  injection e3 with e3
  subst e3
  have hblt : b < w.heap.size := (Array.getElem?_eq_some_iff.1 hl).1
  have hidlt : id < σ.length := (zH.1 hσ).1
  have hne : ∀ c, c ≠ b → ({ w with heap := w.heap.setIfInBounds b (Obj.loop { l with state := s', pending := p' }) } : World).heap[c]? = w.heap[c]? := fun c hc => by
    show (w.heap.setIfInBounds b _)[c]? = _
    rw [Array.getElem?_setIfInBounds_ne (fun e => hc e.symm)]
  have hbB : g.B ≤ b := (hown.lt id b e1).2.1
  have hcell : ∀ a : Addr, ({ w with heap := w.heap.setIfInBounds b (Obj.loop { l with state := s', pending := p' }) } : World).cell? a = w.cell? a := by
    intro a
    by_cases e : a.block = b
    · simp [World.cell?, e, hl, Array.getElem?_setIfInBounds_self_of_lt hblt]
    · exact World.cell?_of_block (w := w) (hne _ e)
  have hle : Le g w g { w with heap := w.heap.setIfInBounds b (Obj.loop { l with state := s', pending := p' }) } :=
    ⟨⟨rfl, rfl, fun c k hk => ⟨hk, hcell _⟩, fun _ _ h => h, fun _ _ _ h => h, by simp⟩, fun c x hx => by
      have : c ≠ b := fun e => by subst e; rw [hl] at hx; cases hx
      exact (hne c this).trans hx⟩
  refine ⟨⟨⟨h.below.os, h.below.tape, h.below.output, by simpa using h.below.size, fun k hk => (hne k (by omega)).trans (h.below.block k hk)⟩, h.base, fun c hc => h.fresh c (by simpa using hc), fun i hi => h.bkn i (by simpa using hi), fun t k ht => h.lgn t k (by simpa using ht), own, ⟨fun i ob hi => ?_, hown.inj, fun i c hc => ?_⟩⟩, hle⟩
  · rw [List.getElem?_set] at hi
    by_cases e : id = i
    · subst e
      rw [if_pos rfl, if_pos hidlt] at hi
      injection hi with hi
      subst hi
      refine ⟨b, { l with state := s', pending := p' }, e1, hb, ?_, rfl, rfl, e6, e7, e8, e9, e10.mono hle⟩
      show (w.heap.setIfInBounds b _)[b]? = _
      rw [Array.getElem?_setIfInBounds_self_of_lt hblt]
    · rw [if_neg e] at hi
      refine (hown.obj i ob hi).keep0 hle.toLe0 (fun c hc => ⟨hne c (fun ec => ?_), rfl⟩) (fun _ => V)
      subst ec
      exact e (hown.inj _ _ _ e1 hc)
  · obtain ⟨h1, h2, h3⟩ := hown.lt i c hc
    exact ⟨by simpa using h1, h2, by simpa using h3⟩
theorem Rel.loop_at {g : Gh} {σ : MS} {w : World} (h : Rel g σ w) {id : Nat} {s : LoopState} {p : Option Code} {ls : LS} (hσ : σ[id]? = some (.loop s p ls)) : ∃ b l, g.bk id = some b ∧ w.heap[b]? = some (Obj.loop l) ∧ l.state = s ∧ l.pending = p ∧ l.params = ls.params ∧ l.assign = ls.assign ∧ l.body = ls.body ∧ l.tmps.size = ls.n ∧ EnvRd g w ls.env l.tmps := by
 obtain ⟨own, hown⟩ := h.ex
 obtain ⟨b, l, e1, e2, e3, rest⟩ := hown.obj _ _ hσ
 exact ⟨b, l, e2, e3, rest⟩
theorem Rel.gone {g : Gh} {σ : MS} {w : World} (h : Rel g σ w) (id : Nat) : Rel g (σ.set id .gone) w := by
 obtain ⟨own, hown⟩ := h.ex
 refine ⟨h.below, h.base, h.fresh, fun i hi => h.bkn i (by simpa using hi), fun t k ht => h.lgn t k (by simpa using ht), fun i => if i = id then none else own i, ⟨fun i o hi => ?_, fun i j b hi hj => ?_, fun i b hi => ?_⟩⟩
 ·by_cases e : i = id
  ·subst e
   rw [List.getElem?_set] at hi
   rw [if_pos rfl] at hi
   split at hi
   ·injection hi with hi
    subst hi
    simp [ObjRel]
   ·cases hi
  ·rw [if_neg e]
   rw [List.getElem?_set_ne (fun h => e h.symm)] at hi
   exact hown.obj i o hi
 ·split at hi
  ·cases hi
  ·split at hj
   ·cases hj
   ·exact hown.inj i j b hi hj
 ·split at hi
  ·cases hi
  ·obtain ⟨h1, h2⟩ := hown.lt i b hi
   exact ⟨by simpa using h1, h2⟩
section
variable {P : Program} {rd : Option Nat} {N n : Nat} {Q : Exit → Env → MS → Prop} {env : Env} {σ : MS} {o : Oper} {K : MV → MS → Prop}
def bindPs : List Tmp → List MV → Env → Env
 | t :: ts, x :: xs, env => bindPs ts xs ((t, x) :: env)
 | _, _, env => env
theorem bindPs_rd {g : Gh} {w : World} : ∀ {ps : List Tmp} {xs : List MV} {us : List Value} {env : Env} {tmps : Array Value}, Rds g w xs us → (∀ t ∈ ps, t < tmps.size) → EnvRd g w env tmps → EnvRd g w (bindPs ps xs env) ((ps.zip us).foldl (fun tmps (p : Tmp × Value) => tmps.setIfInBounds p.1 p.2) tmps)
 | [], xs, us, env, tmps, _, _, he => by simpa [bindPs] using he
 | t :: ts, [], us, env, tmps, hr, _, he => by
  have : us = [] := List.eq_nil_of_length_eq_zero hr.1
  subst this
  simpa [bindPs] using he
 | t :: ts, x :: xs, us, env, tmps, hr, hb, he => by
  obtain ⟨u, us', rfl, h1, h2⟩ := hr.uncons
  simp only [bindPs, List.zip_cons_cons, List.foldl_cons]
  exact bindPs_rd h2 (fun s hs => by simpa using hb s (zI0 _ hs)) (he.put (hb t (zM0 ..)) h1)
theorem foldl_size : ∀ (l : List (Tmp × Value)) (tmps : Array Value), (l.foldl (fun tmps (p : Tmp × Value) => tmps.setIfInBounds p.1 p.2) tmps).size = tmps.size
 | [], tmps => rfl
 | p :: l, tmps => by rw [List.foldl_cons, foldl_size l]; simp
def RoundQ (id N : Nat) (K : MV → MS → Prop) (e : Exit) (_ : Env) (σf : MS) : Prop :=
 ∃ σ' junk p ls, σf = σ' ++ junk ∧ N ≤ σ'.length ∧ (junk = [] ∨ ClS σ') ∧ σ'[id]? = some (.loop .busy p ls) ∧
  match e with
  | .normal => K (.bool true) (σ'.set id (.loop .ready none ls))
  | .ret => K (.bool false) (σ'.set id (.loop .done (some .ret) ls))
  | .exit x => K (.bool false) (σ'.set id (.loop .done (some (.exit x)) ls))
  | _ => False
theorem run_endRound {w : World} {b : Nat} {l : Loop} (h : w.heap[b]? = some (Obj.loop l)) (j : Option Code) : (Instr.endRound b j).run P w = .ok (.bool j.isNone) { w with heap := w.heap.setIfInBounds b (Obj.loop { l with state := if j.isNone then .ready else .done, pending := j }) } := by
 simp [Instr.endRound, Instr.getLoop, getObj, setObj, Sem.run, h, bind, Sem.bind, pure]
theorem run_beginRound {w : World} {b : Nat} {l : Loop} (h : w.heap[b]? = some (Obj.loop l)) (hs : l.state = .ready) : (Instr.beginRound b).run P w = .ok () { w with heap := w.heap.setIfInBounds b (Obj.loop { l with state := .busy }) } := by
 simp [Instr.beginRound, Instr.getLoop, getObj, setObj, Sem.run, h, hs, bind, Sem.bind, pure]
theorem op_yield {f : Operand} {args : Array Operand} {ts : Array TypeId} {id : Nat} {xs : List MV} {p : Option Code} {ls : LS} (ho : o.op = .call { callee := .value f, args := args, argTypes := ts }) (hf : evo env f = some (.yld id)) (hx : evos env args.toList = some xs)
    (hσ : σ[id]? = some (.loop .ready p ls)) (hps : ls.params.size = args.size) (hpb : ls.params.toList.all (fun t => Nat.blt t ls.n) = true)
    (h : mwp P (some id) σ.length ls.n ls.assign (fun e env1 σ1 => e = .normal ∧ ∃ p1, σ1[id]? = some (.loop .ready p1 ls) ∧ mwp P (some id) σ.length ls.n ls.body (RoundQ id σ.length K) env1 (σ1.set id (.loop .busy p1 ls))) (bindPs ls.params.toList xs ls.env) σ) : OpWp P rd o env σ K := by
  intro g w a F hF hr hop
  refine ⟨fun f _ => hF.fn f, ?_⟩
  rw [Oper.semAt_eq _ _ _ (by simp [ho])]
  obtain ⟨b, hb, e⟩ := (hop f (by simp [ho, Op.operands, Call.operands]) _ hf).inv_yld
  have k3 : Rds g w xs (args.toList.map a.eval) := evos_rds (fun x hx m hm => hop x (by simp [ho, Op.operands, Call.operands]; exact .inr (by simpa using hx)) m hm) hx
  obtain ⟨b', l, hb', hl, l1, l2, l3, l4, l5, l6, l7⟩ := hr.loop_at hσ
  rw [hb] at hb'
  injection hb' with hb'
  subst hb'
  have hidlt : id < σ.length := (zH.1 hσ).1
  have hrun : (execOp a.eval o).run P w = .ok (.round b l.fn ((ls.params.toList.zip (args.toList.map a.eval)).foldl (fun tmps (p : Tmp × Value) => tmps.setIfInBounds p.1 p.2) l.tmps) l.assign l.body) w := by
    have hsz : (Array.map a.eval args).size = l.params.size := by rw [l3, hps]; simp
    have hz : (l.params.zip (Array.map a.eval args)).foldl (fun tmps (p : Tmp × Value) => tmps.setIfInBounds p.1 p.2) l.tmps = (ls.params.toList.zip (args.toList.map a.eval)).foldl (fun tmps (p : Tmp × Value) => tmps.setIfInBounds p.1 p.2) l.tmps := by
      rw [← Array.foldl_toList, Array.toList_zip, l3, Array.toList_map]
    simp [execOp, ho, resolve, e, Deferred.ofValue, invoke, Instr.yield, Instr.getLoop, getObj, Sem.run, hl, bind, Sem.bind, pure, hsz]
    have hmin : min l.params.size args.size = l.params.size := by rw [l3, hps]; simp
    simpa [hmin] using hz
  rw [hrun]
  refine ⟨fun h => hF.depth h, ?_⟩
  have hFr : ∀ {F' : Fence}, FOk g rd F' → F'.inRound b = Fence.wide.inRound b := by
    intro F' hF'
    cases rd with
    | none => rw [show F' = Fence.wide from hF']
    | some i => obtain ⟨c, _, e⟩ := hF'; rw [e]; rfl
  have hR : ∀ R, RoundIn Fence.wide 0 P b l.fn ((ls.params.toList.zip (args.toList.map a.eval)).foldl (fun tmps (p : Tmp × Value) => tmps.setIfInBounds p.1 p.2) l.tmps) l.assign l.body w R → RoundIn F (0 - 1) P b l.fn ((ls.params.toList.zip (args.toList.map a.eval)).foldl (fun tmps (p : Tmp × Value) => tmps.setIfInBounds p.1 p.2) l.tmps) l.assign l.body w R := by
    intro R hR
    cases rd with
    | none => rw [show F = Fence.wide from hF]; exact hR
    | some i => obtain ⟨c, _, e⟩ := hF; rw [e]; exact hR
  refine hR _ (roundIn_of_wpIn trivial ?_)
  have hFb : FOkN σ.length g (some id) (Fence.wide.inRound b) := ⟨hidlt, b, hb, rfl⟩
  have hne : EnvRd g w (bindPs ls.params.toList xs ls.env) ((ls.params.toList.zip (args.toList.map a.eval)).foldl (fun tmps (p : Tmp × Value) => tmps.setIfInBounds p.1 p.2) l.tmps) :=
    bindPs_rd k3 (fun t ht => by rw [List.all_eq_true] at hpb; have := hpb t ht; rw [l6]; simpa using this) l7
  rw [l4]
  refine wpIn_mono (h g w { tmps := _, defers := [] } _ w.heap.size hFb hr hne (by rw [foldl_size]; exact l6) (Marks.nil w)) ?_
  rintro e1 a1 w1 ⟨env1, σ1, g1, ⟨rfl, p1, hσ1, hbody⟩, hr1, he1, hl1, hn1, hm1⟩
  obtain ⟨b1, lo1, hb1, hlo1, m1, m2, m3, m4, m5, m6, m7⟩ := hr1.loop_at hσ1
  have hbb : b1 = b := by
    have := hl1.bk _ _ hidlt hb
    rw [hb1] at this
    injection this
  subst hbb
  obtain ⟨hr2, hle2⟩ := hr1.loop_set hσ1 hb1 hlo1 .busy p1
  have e2 : ({ lo1 with state := LoopState.busy, pending := p1 } : Loop) = { lo1 with state := .busy } := by rw [← m2]
  rw [e2] at hr2 hle2
  refine ⟨_, run_beginRound hlo1 m1, ?_⟩
  rw [l5]
  refine wpIn_mono (hbody g1 _ a1 _ w.heap.size (hFb.mono hl1) hr2 (he1.mono hle2) hn1 (hm1.mono hle2)) ?_
  rintro e3 a3 w3 ⟨env3, σ3, g3, ⟨σ', junk, p3, ls3, hσ3, hN, hcl, hlo, hK⟩, hr3, he3, hl3, hn3, hm3⟩
  subst hσ3
  have hr4 : ∃ g4, Rel g4 σ' w3 ∧ LeN σ.length g3 w3 g4 w3 := by
    rcases hcl with rfl | hcl
    · exact ⟨g3, by simpa using hr3, .refl _ _ _⟩
    · refine ⟨g3.cut σ'.length, hr3.cut' hcl, ⟨rfl, rfl, fun _ _ h => ⟨h, rfl⟩, fun i c hi hc => ?_, fun t k v ht hv => ?_, Nat.le_refl _, fun _ _ h => h⟩⟩
      · simp only [Gh.cut]; rw [if_pos (by omega)]; exact hc
      · simp only [Gh.cut]; rw [if_pos (by omega)]; exact hv
  obtain ⟨g4, hr4, hl4⟩ := hr4
  obtain ⟨b5, lo5, hb5, hlo5, q1, q2, q3, q4, q5, q6, q7⟩ := hr4.loop_at hlo
  have hall : LeN σ.length g w g4 w3 := hl1.trans ((hle2.toN _).trans (hl3.trans hl4))
  have hbb : b5 = b1 := by
    have := hall.bk _ _ hidlt hb
    rw [hb5] at this
    injection this
  subst hbb
  have fin : ∀ (j : Option Code) (bo : Bool), bo = j.isNone → K (.bool bo) (σ'.set id (.loop (if j.isNone then .ready else .done) j ls3)) → ∃ v w', (Instr.endRound b5 j).run P w3 = .ok v w' ∧
      ((fun (x : Ending) w'' => match x, w'' with
        | .returned v, w'' => ∃ v1, a.put o.dst v = a.put o.dst v1 ∧ Gets g w K v1 w''
        | .panicked chain, w'' => False
        | .outgrown, _ => LetsOut (fun _ _ _ => False)) (.returned v) w') := by
    intro j bo hbo hK
    refine ⟨_, _, run_endRound hlo5 j, ?_⟩
    obtain ⟨hr6, hle6⟩ := hr4.loop_set hlo hb5 hlo5 (if j.isNone then .ready else .done) j
    subst hbo
    exact ⟨_, rfl, _, _, g4, hK, hr6, .bool _, (hall.trans (hle6.toN _)).le hr.bkn hr.lgn⟩
  cases e3 with
  | normal => exact fin none true rfl hK
  | ret => exact fin (some .ret) false rfl hK
  | exit x => exact fin (some (.exit x)) false rfl hK
  | goto t => exact hK.elim
  | panic c => exact hK.elim
  | outgrown => exact hK.elim
def RangeQ (id : Nat) (ls : LS) (env : Env) (Q : Exit → Env → MS → Prop) (σ' : MS) : Prop :=
 ∃ s p, σ'[id]? = some (.loop s p ls) ∧ s ≠ .busy ∧
  match p with
  | none => Q .normal env (σ'.set id .gone)
  | some .ret => Q .ret env (σ'.set id .gone)
  | some (.exit x) => Q (.exit x) env (σ'.set id .gone)
  | _ => False
theorem set_set_gone (σ : MS) (id : Nat) (o : MObj) : (σ.set id o).set id .gone = σ.set id .gone := by simp
theorem run_endLoop {w : World} {b : Nat} {l : Loop} (h : w.heap[b]? = some (Obj.loop l)) (hs : l.state ≠ .busy) : (Instr.endLoop b).run P w = .ok l.pending { w with heap := w.heap.setIfInBounds b (Obj.loop { l with state := .exhausted }) } := by
 have hb : (l.state == LoopState.busy) = false := by
  cases hh : l.state <;> first | rfl | exact absurd hh hs
 simp [Instr.endLoop, Instr.getLoop, getObj, setObj, Sem.run, h, hb, bind, Sem.bind, pure]
 intro hh
 exact absurd hh hs
theorem mwp_range {f : Operand} {ps : Array Tmp} {assign body : Code} {k : FuncId} {first caps : List MV} (hf : evo env f = some (.fn (.func k) first caps)) (hb : CallOk P k) (hrd : ∀ id, rd = some id → ∃ s p ls, σ[id]? = some (.loop s p ls)) (hN : N ≤ σ.length)
  (h : MCalls P k (first ++ [.yld σ.length] ++ caps) (σ ++ [.loop .ready none ⟨ps, assign, body, env, n⟩]) (fun _ σ' => RangeQ σ.length ⟨ps, assign, body, env, n⟩ env Q σ')) : mwp P rd N n (.rangeFunc f ps assign body) Q env σ := by
 intro g w a F m0 hF hr he hn hm
 refine wpIn_rangeFunc fun fn hfn => ?_
 have hrec : ∃ (mark : List Deferred) (w1 : World) (gd : Gh), (Instr.enterLoop fn a.tmps ps assign body F.round).run P w = .ok (w1.heap.size, mark) (w1.alloc (Obj.loop { state := .ready, pending := none, fn := fn, tmps := a.tmps, params := ps, assign := assign, body := body, defers := (match F.round with | none => w.heap.size | some b => (match w.heap[b]? with | some (Obj.loop l) => l.defers | _ => 0)) })) ∧
   Rel gd σ w1 ∧ Le g w gd w1 ∧ Marks m0 (w1.alloc (Obj.loop { state := .ready, pending := none, fn := fn, tmps := a.tmps, params := ps, assign := assign, body := body, defers := (match F.round with | none => w.heap.size | some b => (match w.heap[b]? with | some (Obj.loop l) => l.defers | _ => 0)) })) (mark ++ a.defers) := by
  cases hro : F.round with
  | none =>
   have hl := Le.alloc_stab hr (Obj.deferred (some [])) 0
   refine ⟨[{ target := .collected w.heap.size, args := #[] }], w.alloc (Obj.deferred (some [])), _, ?_, hr.alloc_stab (Obj.deferred (some [])) 0, hl, ?_⟩
   ·simp [Instr.enterLoop]
   ·have hl2 := hl.trans (Le.alloc_stab (hr.alloc_stab (Obj.deferred (some [])) 0) (Obj.loop { state := .ready, pending := none, fn := fn, tmps := a.tmps, params := ps, assign := assign, body := body, defers := w.heap.size }) 0)
    have hm' := hm.mono hl2
    refine ⟨hm'.1, fun d hd => ?_, ?_⟩
    ·rcases List.mem_cons.1 hd with rfl | hd
     ·refine ⟨w.heap.size, hm.1, rfl, ?_⟩
      rw [Below.heap_alloc _ _ _ (by simp)]
      exact heap_new w _
     ·exact hm'.2.1 d hd
    ·refine zI1.2 ⟨fun d hd r s hr hs => ?_, hm'.2.2⟩
     obtain ⟨q, _, rfl, hq⟩ := hm.2.1 d hd
     injection hr with hr
     injection hs with hs
     subst hr hs
     have := (Array.getElem?_eq_some_iff.1 hq).1
     omega
  | some b =>
   obtain ⟨id, hid⟩ : ∃ id, rd = some id := by
    cases rd with
    | none => rw [show F = Fence.wide from hF] at hro; cases hro
    | some id => exact ⟨id, rfl⟩
   subst hid
   obtain ⟨s, p, ls, hσ⟩ := hrd id rfl
   obtain ⟨hidN, b', hb', hFb⟩ := hF
   obtain ⟨b2, l, hb2, hl, _⟩ := hr.loop_at hσ
   rw [hb'] at hb2
   injection hb2 with hb2
   subst hb2
   have hbb : b' = b := by
    rw [hFb] at hro
    injection hro
   subst hbb
   refine ⟨[], w, g, ?_, hr, .refl _ _, ?_⟩
   ·have hgl : (Instr.getLoop b').run P w = .ok l w := by simp [Instr.getLoop, getObj, Sem.run, hl, bind, Sem.bind, pure]
    simp [Instr.enterLoop, hgl, hl]
   ·exact hm.mono (Le.alloc_stab hr _ 0)
 obtain ⟨mark, w1, gd, hent, hrd1, hle1, hmark⟩ := hrec
 generalize hL : ({ state := .ready, pending := none, fn := fn, tmps := a.tmps, params := ps, assign := assign, body := body, defers := (match F.round with | none => w.heap.size | some b => (match w.heap[b]? with | some (Obj.loop l) => l.defers | _ => 0)) } : Loop) = lo at hent hmark
 have f1 : lo.state = .ready := by rw [← hL]
 have f2 : lo.pending = none := by rw [← hL]
 have f3 : lo.params = ps := by rw [← hL]
 have f4 : lo.assign = assign := by rw [← hL]
 have f5 : lo.body = body := by rw [← hL]
 have f6 : lo.tmps = a.tmps := by rw [← hL]
 clear hL
 obtain ⟨g2, hr2, hle2, hb2⟩ := hrd1.alloc_gen (Obj.loop lo) (.loop .ready none ⟨ps, assign, body, env, n⟩) (fun g' hl' hb' hs' => by
  refine ⟨w1.heap.size, lo, rfl, hb', heap_new w1 _, f1, f2, f3, f4, f5, by rw [f6]; exact hn, ?_⟩
  rw [f6]
  exact (he.mono hle1).mono hl')
 have hfv := evo_rd ((he.mono hle1).mono hle2) hf
 obtain ⟨us, vs, e, k1, k2⟩ := hfv.inv_fn
 have hlall := hle1.trans hle2
 have hc := h g2 (w1.alloc (Obj.loop lo)) (us ++ [Value.func (Fn.yield w1.heap.size) #[] #[]] ++ vs) hr2 ((k1.append (.cons (.yld _ _ hb2) (.nil _ _))).append k2)
 have hcF := hF.ok.calls (m := 0 - 1) hc
 refine ⟨w1.heap.size, mark, w1.alloc (Obj.loop lo), { target := .fn (.func k) vs.toArray, args := us.toArray ++ #[Value.func (Fn.yield w1.heap.size) #[] #[]] }, w1.alloc (Obj.loop lo), k, (us ++ [Value.func (Fn.yield w1.heap.size) #[] #[]] ++ vs).toArray, w1.alloc (Obj.loop lo), hent, ?_, fun f' _ => hF.ok.fn f', ?_, fun h => hF.ok.depth h, hcF.mono ?_⟩
 ·have e0 : (a.eval f) = .func (.func k) us.toArray vs.toArray := e
  have e1 : a.eval (.const (Value.func (Fn.yield w1.heap.size) #[] #[])) = Value.func (Fn.yield w1.heap.size) #[] #[] := rfl
  simp [resolve, rangeCall, e0, e1, Deferred.ofValue]
 ·simp [invoke, hb.run]
 ·rintro e3 w3 ⟨v, rfl, x, σ3, g3, ⟨s, p, hσ3, hsb, hp⟩, hr3, hv3, hl3⟩
  obtain ⟨b4, l4, hb4, hlo4, q1, q2, q3⟩ := hr3.loop_at hσ3
  have hbb : b4 = w1.heap.size := by
   have := hl3.bk _ _ hb2
   rw [hb4] at this
   injection this
  subst hbb
  obtain ⟨hr5, hl5⟩ := hr3.loop_set hσ3 hb4 hlo4 .exhausted p
  have e5 : ({ l4 with state := LoopState.exhausted, pending := p } : Loop) = { l4 with state := .exhausted } := by rw [← q2]
  rw [e5] at hr5 hl5
  have hr6 := hr5.gone σ.length
  rw [set_set_gone] at hr6
  have hlfin := hlall.trans (hl3.trans hl5)
  have hmk : Marks m0 _ (mark ++ a.defers) := (hmark.mono hl3).mono hl5
  refine ⟨l4.pending, _, run_endLoop hlo4 (by rw [q1]; exact hsb), ?_⟩
  generalize hw5 : ({ w3 with heap := w3.heap.setIfInBounds w1.heap.size (Obj.loop { l4 with state := .exhausted }) } : World) = w5 at hr6 hlfin hmk ⊢
  rw [q2]
  have fin : ∀ ex, Q ex env (σ3.set σ.length .gone) → Left_ N g w n m0 Q ex { a with defers := mark ++ a.defers } w5 := fun ex hq => ⟨env, _, g3, hq, hr6, he.mono hlfin, hlfin.toN N, hn, hmk⟩
  cases p with
  | none => exact fin .normal hp
  | some c =>
   cases c with
   | ret => exact wpIn_ret (fin .ret hp)
   | exit x => exact wpIn_exit (fin (.exit x) hp)
   | _ => exact hp.elim
end
end
section
section
variable {P : Program} {fn : Func} {S L : MS} {R : MV → MS → Prop} {env : Env}
theorem mcalls_body {f : FuncId} {c : Code} {args : List MV} {n : Nat} (hf : P.funcs[f]? = some fn) (hb : fn.body = some c) (hn : fn.ntmps = n) (ha : args.length ≤ n)
  (h : mwp P none S.length n c (BodyQ P fn S R) (argEnv 0 args) (S ++ [])) : MCalls P f args S R := by
 refine mcalls_of_body hf hb hn ha ?_
 rw [List.append_nil] at h
 exact h
theorem _root_.zU : type_of% @mcalls_body := @mcalls_body
theorem ret_tmp {e : Exit} {t : Nat} {x y : MV} (he : e = .normal ∨ e = .ret) (hres : fn.results = #[.tmp t]) (hx : get env t = some x) (hs : Sub x y) (hc : Cl S.length y) (hR : R y S) : BodyQ P fn S R e env (S ++ L) := by
 refine ⟨he, [x], y, S, L, ?_, hs, hc, rfl, Nat.le_refl _, .inl rfl, hR⟩
 rw [hres]
 exact .tmp hx .nil
theorem _root_.zT : type_of% @ret_tmp := @ret_tmp
theorem ret_tmp2 {e : Exit} {t t' : Nat} {x y x' y' : MV} (he : e = .normal ∨ e = .ret) (hres : fn.results = #[.tmp t, .tmp t']) (hx : get env t = some x) (hx' : get env t' = some x') (hs : Sub x y) (hs' : Sub x' y') (hc : Cl S.length y) (hc' : Cl S.length y') (hR : R (.tup [y, y']) S) : BodyQ P fn S R e env (S ++ L) := by
 refine ⟨he, [x, x'], .tup [y, y'], S, L, ?_, .tup (.cons hs (.cons hs' .nil)), .tup _ (fun z hz => ?_), rfl, Nat.le_refl _, .inl rfl, hR⟩
 ·rw [hres]
  exact .tmp hx (.tmp hx' .nil)
 ·simp at hz
  rcases hz with rfl | rfl
  ·exact hc
  ·exact hc'
theorem ret_cell {e : Exit} {a t k off : Nat} {l : List MV} {ta : Option Nat} {x y : MV} (he : e = .normal ∨ e = .ret) (hres : fn.results = #[.cell a t]) (ha : get env a = some (.ref (S.length + k) off)) (hl : L[k]? = some (.cells l)) (ht : tyAgg P t = some ta) (hm : loadMV ta l off = some x) (hs : Sub x y) (hc : Cl S.length y) (hR : R y S) : BodyQ P fn S R e env (S ++ L) := by
 refine ⟨he, [x], y, S, L, ?_, hs, hc, rfl, Nat.le_refl _, .inl rfl, hR⟩
 rw [hres]
 exact .cell ha (by rw [getElem?_own]; exact hl) ht hm .nil
theorem _root_.zO2 : type_of% @ret_cell := @ret_cell
theorem Sub.of_eq {x y : MV} (h : x = y) : Sub x y := h ▸ .refl x
theorem wrap_i64 {n : Int} (h : -9223372036854775808 ≤ n ∧ n ≤ 9223372036854775807) : IntKind.i64.wrap n = n := by
 rw [IntKind.wrap_i64]; omega
end
theorem int_succ {i n : Nat} (h : i < n) (hn : n ≤ maxLen) : MV.int .i64 (IntKind.i64.wrap ((i : Int) + 1)) = .int .i64 ((i + 1 : Nat) : Int) := by
 rw [wrap_i64 (by simp only [maxLen] at hn; omega)]
 rfl
theorem _root_.zK1 : type_of% @int_succ := @int_succ
section
variable {P : Program} {rd : Option Nat} {N n : Nat} {Q : Exit → Env → MS → Prop} {env : Env} {σ : MS} {c : Code}
theorem mwp_len {t : Nat} {tok : Option Nat} {sz : Nat} {xs : List MV} (ht : get env t = some (.lst tok sz xs)) (h : xs.length ≤ maxLen → mwp P rd N n c Q env σ) : mwp P rd N n c Q env σ := by
 intro g w a F m0 hF hr he hn hm
 obtain ⟨v, _, hv⟩ := he t _ ht
 obtain ⟨_, _, _, _, h1, h2, _⟩ := hv.inv_lst
 exact h (by omega) g w a F m0 hF hr he hn hm
theorem _root_.zI2 : type_of% @mwp_len := @mwp_len
end
section
variable {P : Program} {rd : Option Nat} {N n : Nat} {Q : Exit → Env → MS → Prop} {env : Env} {S L : MS} {c : Code}
end
inductive Sch where
 | mk (kind : Int) (ins : List Sch)
 deriving Inhabited
mutual
def encS : Sch → MV
 | .mk k ins => .agg [.int .i64 k, .lst none 2 (encSs ins)]
def encSs : List Sch → List MV
 | [] => []
 | s :: l => encS s :: encSs l
end
theorem encSs_eq : ∀ l : List Sch, encSs l = l.map encS
 | [] => by simp [encSs]
 | s :: l => by simp [encSs, encSs_eq l]
theorem _root_.zC : type_of% @List.length_map := @List.length_map
theorem encSs_length (l : List Sch) : (encSs l).length = l.length := by rw [encSs_eq, zC]
theorem _root_.zV3 : type_of% @encSs_length := @encSs_length
theorem _root_.zN0 : type_of% @List.getElem?_map := @List.getElem?_map
theorem encSs_get {l : List Sch} {i : Nat} {s : Sch} (h : l[i]? = some s) : (encSs l)[i]? = some (encS s) := by rw [encSs_eq, zN0, h]; rfl
mutual
theorem cl_encS (n : Nat) : ∀ s : Sch, Cl n (encS s)
 | .mk k ins => by
  refine .agg _ fun x hx => ?_
  simp only [encS, List.mem_cons, List.not_mem_nil, or_false] at hx
  rcases hx with rfl | rfl
  ·exact .int _ _
  ·exact .lst none 2 _ (fun t ht => by cases ht) (cl_encSs n ins)
theorem cl_encSs (n : Nat) : ∀ (l : List Sch), ∀ x ∈ flat (encSs l), Cl n x
 | [], x, hx => by simp [encSs, flat] at hx
 | s :: l, x, hx => by
  rw [encSs, zA4, zJ1] at hx
  rcases hx with hx | hx
  ·have h := cl_encS n s
   cases s with
   | mk k ins =>
    cases h with
    | agg _ h => exact h x hx
  ·exact cl_encSs n l x hx
end
end
section
section
variable {P : Program} {rd : Option Nat} {N n : Nat} {o : Oper} {rest : List Oper} {ops : Array Oper} {env : Env} {σ S L : MS} {c c1 c2 : Code} {Q : Exit → Env → MS → Prop} {W : Env → MS → Prop}
theorem qM {x : Operand} {m : MV} (hg : guardOk ops env o = some true) (ho : o.op = .move x) (hx : evo env x = some m) (h : wOps P rd ops W rest (putd o.dst m env) σ) : wOps P rd ops W (o :: rest) env σ := zF4 hg (zS ho hx h)
theorem qA {x : Operand} {m : MV} (hg : guardOk ops env o = some true) (ho : o.op = .assign x) (hx : evo env x = some m) (h : wOps P rd ops W rest (putd o.dst m env) σ) : wOps P rd ops W (o :: rest) env σ := zF4 hg (zB1 ho hx h)
theorem qP {x y z : Operand} {b : Bool} {m : MV} (hg : guardOk ops env o = some true) (ho : o.op = .pick x y z) (hc : evo env x = some (.bool b)) (hm : evo env (if b then y else z) = some m) (h : wOps P rd ops W rest (putd o.dst m env) σ) : wOps P rd ops W (o :: rest) env σ := zF4 hg (zD1 ho hc hm h)
theorem qC {b : BinOp} {t t' : TypeId} {x y : Operand} {k : IntKind} {m p : Int} {r : Bool} (hg : guardOk ops env o = some true) (ho : o.op = .binOp b t x y t') (hx : evo env x = some (.int k m)) (hy : evo env y = some (.int k p)) (hr : intCmp b m p = some r) (h : wOps P rd ops W rest (putd o.dst (.bool r) env) σ) : wOps P rd ops W (o :: rest) env σ := zF4 hg (zQ2 ho hx hy hr h)
theorem qL {t : TypeId} {x : Operand} {k off : Nat} {l : List MV} {ta : Option Nat} {m : MV} (hg : guardOk ops env o = some true) (ho : o.op = .load t x) (hx : evo env x = some (.ref (S.length + k) off)) (hσ : L[k]? = some (.cells l)) (ht : tyAgg P t = some ta) (hm : loadMV ta l off = some m) (h : wOps P rd ops W rest (putd o.dst m env) (S ++ L)) : wOps P rd ops W (o :: rest) env (S ++ L) := zF4 hg (zE0 ho hx hσ ht hm h)
theorem qF {t : TypeId} {x : Operand} {f id off fo : Nat} {ft : TypeId} (hg : guardOk ops env o = some true) (ho : o.op = .fieldAddr t x f) (hx : evo env x = some (.ref id off)) (hf : fieldOff P t f = some (fo, ft)) (h : wOps P rd ops W rest (putd o.dst (.ref id (off + fo)) env) σ) : wOps P rd ops W (o :: rest) env σ := zF4 hg (zJ ho hx hf h)
theorem qB {t : TypeId} {x : Operand} {m : MV} {k : Nat} {L' : MS} (hg : guardOk ops env o = some true) (ho : o.op = .box t x) (hx : evo env x = some m) (hk : L.length = k) (hL : L ++ [.cells m.cells] = L') (h : wOps P rd ops W rest (putd o.dst (.ref (S.length + k) 0) env) (S ++ L')) : wOps P rd ops W (o :: rest) env (S ++ L) := zF4 hg (op_box' ho hx hk hL h)
theorem qE {x : Operand} {tok : Option Nat} {sz : Nat} {xs : List MV} {t e : TypeId} (hg : guardOk ops env o = some true) (ho : o.op = .call { callee := .builtin .len, args := #[x], argTypes := #[t] }) (hu : P.underlying t = some (.slice e)) (hx : evo env x = some (.lst tok sz xs)) (h : wOps P rd ops W rest (putd o.dst (.int .i64 (xs.length : Int)) env) σ) : wOps P rd ops W (o :: rest) env σ := zF4 hg (zP2 ho hu hx h)
theorem qS (hg : guardOk ops env o = some false) (h : wOps P rd ops W rest (putd o.dst (.tup []) env) σ) : wOps P rd ops W (o :: rest) env σ := wOps_skip hg h
theorem qO (hg : guardOk ops env o = some true) (h : OpWp P rd o env σ fun x σ' => wOps P rd ops W rest (putd o.dst x env) σ') : wOps P rd ops W (o :: rest) env σ := zF4 hg h
theorem qN (h : W env σ) : wOps P rd ops W [] env σ := h
theorem qR {id : Nat} (hb : dstsOk n ops = true) (h : wOps P rd ops (fun env σ => Q .normal env σ) ops.toList env σ) : mwp P rd N n (.region id ops false) Q env σ := mwp_region hb h
section
variable {eff : List Nat} {Ss : List MS} {D : Env → Prop} {i : Nat} {s : MS} {m : MV}
theorem dO (hg : guardOk ops env o = some true) (he : effAt i eff 0 = none) (hs : span_ Ss (loOf ops o eff 0 0) (hiOf ops i eff 0) = [s]) (h : OpWp P rd o env s fun x' σ' => x' = m ∧ σ' = s) (hr : dOps P rd ops eff Ss D rest (i + 1) (putd o.dst m env)) : dOps P rd ops eff Ss D (o :: rest) i env := zV hg he (by rw [hs]; exact .cons h .nil) hr
theorem dS (hg : guardOk ops env o = some false) (he : effAt i eff 0 = none) (hr : dOps P rd ops eff Ss D rest (i + 1) (putd o.dst (.tup []) env)) : dOps P rd ops eff Ss D (o :: rest) i env := dOps_skip hg he hr
end
end
theorem qX {P : Program} {rd : Option Nat} {o : Oper} {rest : List Oper} {ops : Array Oper} {env : Env} {σ : MS} {W : Env → MS → Prop} {f : Operand} {args : Array Operand} {ts : Array TypeId} {k : FuncId} {first caps xs : List MV} {X : MV} {T : MS} (hg : guardOk ops env o = some true) (ho : o.op = .call { callee := .value f, args := args, argTypes := ts }) (hf : evo env f = some (.fn (.func k) first caps)) (hx : evos env args.toList = some xs) (hb : CallOk P k) (h : MCalls P k (first ++ xs ++ caps) σ fun v σ' => v = X ∧ σ' = T) (hr : wOps P rd ops W rest (putd o.dst X env) T) : wOps P rd ops W (o :: rest) env σ := zF4 hg (zC1 ho hf hx hb (h.mono fun v σ' e => by obtain ⟨rfl, rfl⟩ := e; exact hr))
theorem qT {P : Program} {rd : Option Nat} {o o2 o3 o4 : Oper} {rest : List Oper} {ops : Array Oper} {env : Env} {σ : MS} {W : Env → MS → Prop} (h1 : guardOk ops env o = some false) (h2 : guardOk ops (putd o.dst (.tup []) env) o2 = some false) (h3 : guardOk ops (putd o2.dst (.tup []) (putd o.dst (.tup []) env)) o3 = some false) (h4 : guardOk ops (putd o3.dst (.tup []) (putd o2.dst (.tup []) (putd o.dst (.tup []) env))) o4 = some false) (h : wOps P rd ops W rest (putd o4.dst (.tup []) (putd o3.dst (.tup []) (putd o2.dst (.tup []) (putd o.dst (.tup []) env)))) σ) : wOps P rd ops W (o :: o2 :: o3 :: o4 :: rest) env σ := qS h1 <| qS h2 <| qS h3 <| qS h4 h
end
end Go.MV
namespace Go.Proofs.YtnfcnpdpfgcchaaGreat
open Go Go.MV
theorem mo : Tryz.prog.follows .mixedOrders = true := by kernel_rfl
theorem ta2 : tyAgg Tryz.prog 2 = some none := by kernel_rfl
theorem ta3 : tyAgg Tryz.prog 3 = some none := by kernel_rfl
theorem sz3 : szOf Tryz.prog 3 = some 1 := by kernel_rfl
theorem zm3 : zeroMV Tryz.prog 3 = some [.int .i64 0] := by kernel_rfl
theorem el3 : elemOk Tryz.prog 3 1 8 = true := by kernel_rfl
theorem ta4 : tyAgg Tryz.prog 4 = some none := by kernel_rfl
theorem sz4 : szOf Tryz.prog 4 = some 1 := by kernel_rfl
theorem zm4 : zeroMV Tryz.prog 4 = some [.bool false] := by kernel_rfl
theorem ta9 : tyAgg Tryz.prog 9 = some none := by kernel_rfl
theorem sz9 : szOf Tryz.prog 9 = some 1 := by kernel_rfl
theorem el9 : elemOk Tryz.prog 9 1 16 = true := by kernel_rfl
theorem ta22 : tyAgg Tryz.prog 22 = some none := by kernel_rfl
theorem ta24 : tyAgg Tryz.prog 24 = some (some 2) := by kernel_rfl
theorem sz24 : szOf Tryz.prog 24 = some 2 := by kernel_rfl
theorem zm24 : zeroMV Tryz.prog 24 = some [.int .i64 0, .lst0] := by kernel_rfl
theorem fo24_0 : fieldOff Tryz.prog 24 0 = some (0, 3) := by kernel_rfl
theorem _root_.zC2 : type_of% @fo24_0 := @fo24_0
theorem fo24_1 : fieldOff Tryz.prog 24 1 = some (1, 22) := by kernel_rfl
theorem _root_.zR2 : type_of% @fo24_1 := @fo24_1
theorem ta25 : tyAgg Tryz.prog 25 = some none := by kernel_rfl
theorem sz25 : szOf Tryz.prog 25 = some 1 := by kernel_rfl
theorem ta26 : tyAgg Tryz.prog 26 = some none := by kernel_rfl
theorem sz26 : szOf Tryz.prog 26 = some 1 := by kernel_rfl
theorem zm26 : zeroMV Tryz.prog 26 = some [.lst0] := by kernel_rfl
theorem ta27 : tyAgg Tryz.prog 27 = some none := by kernel_rfl
theorem sz27 : szOf Tryz.prog 27 = some 1 := by kernel_rfl
theorem ta28 : tyAgg Tryz.prog 28 = some none := by kernel_rfl
theorem sz28 : szOf Tryz.prog 28 = some 1 := by kernel_rfl
theorem zm28 : zeroMV Tryz.prog 28 = some [.lst0] := by kernel_rfl
theorem ta30 : tyAgg Tryz.prog 30 = some (some 5) := by kernel_rfl
theorem sz30 : szOf Tryz.prog 30 = some 5 := by kernel_rfl
theorem zm30 : zeroMV Tryz.prog 30 = some [.int .u64 0, .int .u64 0, .lst0, .lst0, .lst0] := by kernel_rfl
theorem el30 : elemOk Tryz.prog 30 5 88 = true := by kernel_rfl
theorem fo30_0 : fieldOff Tryz.prog 30 0 = some (0, 25) := by kernel_rfl
theorem _root_.zG4 : type_of% @fo30_0 := @fo30_0
theorem fo30_1 : fieldOff Tryz.prog 30 1 = some (1, 25) := by kernel_rfl
theorem _root_.zY4 : type_of% @fo30_1 := @fo30_1
theorem fo30_2 : fieldOff Tryz.prog 30 2 = some (2, 26) := by kernel_rfl
theorem _root_.zU1 : type_of% @fo30_2 := @fo30_2
theorem fo30_3 : fieldOff Tryz.prog 30 3 = some (3, 27) := by kernel_rfl
theorem _root_.zM1 : type_of% @fo30_3 := @fo30_3
theorem fo30_4 : fieldOff Tryz.prog 30 4 = some (4, 28) := by kernel_rfl
theorem _root_.zZ0 : type_of% @fo30_4 := @fo30_4
theorem ta34 : tyAgg Tryz.prog 34 = some none := by kernel_rfl
theorem sz34 : szOf Tryz.prog 34 = some 1 := by kernel_rfl
theorem zm34 : zeroMV Tryz.prog 34 = some [.iface0] := by kernel_rfl
theorem ta54 : tyAgg Tryz.prog 54 = some (some 2) := by kernel_rfl
theorem sz54 : szOf Tryz.prog 54 = some 2 := by kernel_rfl
theorem zm54 : zeroMV Tryz.prog 54 = some [.int .i64 0, .int .u64 0] := by kernel_rfl
theorem el54 : elemOk Tryz.prog 54 2 16 = true := by kernel_rfl
theorem fo54_0 : fieldOff Tryz.prog 54 0 = some (0, 3) := by kernel_rfl
theorem _root_.zB4 : type_of% @fo54_0 := @fo54_0
theorem fo54_1 : fieldOff Tryz.prog 54 1 = some (1, 25) := by kernel_rfl
theorem _root_.zX5 : type_of% @fo54_1 := @fo54_1
theorem ta55 : tyAgg Tryz.prog 55 = some none := by kernel_rfl
theorem sz55 : szOf Tryz.prog 55 = some 1 := by kernel_rfl
theorem el55 : elemOk Tryz.prog 55 1 24 = true := by kernel_rfl
theorem ta62 : tyAgg Tryz.prog 62 = some none := by kernel_rfl
theorem ta75 : tyAgg Tryz.prog 75 = some none := by kernel_rfl
theorem sz75 : szOf Tryz.prog 75 = some 1 := by kernel_rfl
theorem zm75 : zeroMV Tryz.prog 75 = some [.fn0] := by kernel_rfl
theorem ta84 : tyAgg Tryz.prog 84 = some none := by kernel_rfl
theorem ta125 : tyAgg Tryz.prog 125 = some none := by kernel_rfl
theorem co8 : CallOk Tryz.prog 8 := ⟨_, _, Tryz.func8, by kernel_rfl, rfl⟩
theorem co9 : CallOk Tryz.prog 9 := ⟨_, _, Tryz.func9, by kernel_rfl, rfl⟩
theorem co10 : CallOk Tryz.prog 10 := ⟨_, _, Tryz.func10, by kernel_rfl, rfl⟩
theorem co11 : CallOk Tryz.prog 11 := ⟨_, _, Tryz.func11, by kernel_rfl, rfl⟩
theorem co12 : CallOk Tryz.prog 12 := ⟨_, _, Tryz.func12, by kernel_rfl, rfl⟩
theorem co13 : CallOk Tryz.prog 13 := ⟨_, _, Tryz.func13, by kernel_rfl, rfl⟩
theorem co14 : CallOk Tryz.prog 14 := ⟨_, _, Tryz.func14, by kernel_rfl, rfl⟩
theorem co15 : CallOk Tryz.prog 15 := ⟨_, _, Tryz.func15, by kernel_rfl, rfl⟩
theorem co17 : CallOk Tryz.prog 17 := ⟨_, _, Tryz.func17, by kernel_rfl, rfl⟩
theorem co20 : CallOk Tryz.prog 20 := ⟨_, _, Tryz.func20, by kernel_rfl, rfl⟩
theorem co21 : CallOk Tryz.prog 21 := ⟨_, _, Tryz.func21, by kernel_rfl, rfl⟩
theorem _root_.zC5 : type_of% @Tryz.func22 := @Tryz.func22
theorem co22 : CallOk Tryz.prog 22 := ⟨_, _, zC5, by kernel_rfl, rfl⟩
theorem co23 : CallOk Tryz.prog 23 := ⟨_, _, Tryz.func23, by kernel_rfl, rfl⟩
theorem co24 : CallOk Tryz.prog 24 := ⟨_, _, Tryz.func24, by kernel_rfl, rfl⟩
theorem co25 : CallOk Tryz.prog 25 := ⟨_, _, Tryz.func25, by kernel_rfl, rfl⟩
theorem co26 : CallOk Tryz.prog 26 := ⟨_, _, Tryz.func26, by kernel_rfl, rfl⟩
theorem co27 : CallOk Tryz.prog 27 := ⟨_, _, Tryz.func27, by kernel_rfl, rfl⟩
theorem co28 : CallOk Tryz.prog 28 := ⟨_, _, Tryz.func28, by kernel_rfl, rfl⟩
theorem co29 : CallOk Tryz.prog 29 := ⟨_, _, Tryz.func29, by kernel_rfl, rfl⟩
theorem _root_.zX3 : type_of% @Tryz.func30 := @Tryz.func30
theorem co30 : CallOk Tryz.prog 30 := ⟨_, _, zX3, by kernel_rfl, rfl⟩
theorem co31 : CallOk Tryz.prog 31 := ⟨_, _, Tryz.func31, by kernel_rfl, rfl⟩
theorem co32 : CallOk Tryz.prog 32 := ⟨_, _, Tryz.func32, by kernel_rfl, rfl⟩
theorem co33 : CallOk Tryz.prog 33 := ⟨_, _, Tryz.func33, by kernel_rfl, rfl⟩
theorem co34 : CallOk Tryz.prog 34 := ⟨_, _, Tryz.func34, by kernel_rfl, rfl⟩
theorem co37 : CallOk Tryz.prog 37 := ⟨_, _, Tryz.func37, by kernel_rfl, rfl⟩
theorem _root_.zD5 : type_of% @Tryz.func38 := @Tryz.func38
theorem co38 : CallOk Tryz.prog 38 := ⟨_, _, zD5, by kernel_rfl, rfl⟩
theorem co39 : CallOk Tryz.prog 39 := ⟨_, _, Tryz.func39, by kernel_rfl, rfl⟩
theorem co40 : CallOk Tryz.prog 40 := ⟨_, _, Tryz.func40, by kernel_rfl, rfl⟩
theorem co41 : CallOk Tryz.prog 41 := ⟨_, _, Tryz.func41, by kernel_rfl, rfl⟩
theorem co42 : CallOk Tryz.prog 42 := ⟨_, _, Tryz.func42, by kernel_rfl, rfl⟩
theorem co43 : CallOk Tryz.prog 43 := ⟨_, _, Tryz.func43, by kernel_rfl, rfl⟩
theorem _root_.zE5 : type_of% @Tryz.func44 := @Tryz.func44
theorem co44 : CallOk Tryz.prog 44 := ⟨_, _, zE5, by kernel_rfl, rfl⟩
theorem _root_.zC6 : type_of% @Tryz.func45 := @Tryz.func45
theorem co45 : CallOk Tryz.prog 45 := ⟨_, _, zC6, by kernel_rfl, rfl⟩
theorem co46 : CallOk Tryz.prog 46 := ⟨_, _, Tryz.func46, by kernel_rfl, rfl⟩
theorem co47 : CallOk Tryz.prog 47 := ⟨_, _, Tryz.func47, by kernel_rfl, rfl⟩
theorem co48 : CallOk Tryz.prog 48 := ⟨_, _, Tryz.func48, by kernel_rfl, rfl⟩
theorem co49 : CallOk Tryz.prog 49 := ⟨_, _, Tryz.func49, by kernel_rfl, rfl⟩
theorem co50 : CallOk Tryz.prog 50 := ⟨_, _, Tryz.func50, by kernel_rfl, rfl⟩
theorem co51 : CallOk Tryz.prog 51 := ⟨_, _, Tryz.func51, by kernel_rfl, rfl⟩
theorem co52 : CallOk Tryz.prog 52 := ⟨_, _, Tryz.func52, by kernel_rfl, rfl⟩
theorem co53 : CallOk Tryz.prog 53 := ⟨_, _, Tryz.func53, by kernel_rfl, rfl⟩
theorem co54 : CallOk Tryz.prog 54 := ⟨_, _, Tryz.func54, by kernel_rfl, rfl⟩
theorem co55 : CallOk Tryz.prog 55 := ⟨_, _, Tryz.func55, by kernel_rfl, rfl⟩
theorem co56 : CallOk Tryz.prog 56 := ⟨_, _, Tryz.func56, by kernel_rfl, rfl⟩
theorem co57 : CallOk Tryz.prog 57 := ⟨_, _, Tryz.func57, by kernel_rfl, rfl⟩
theorem co58 : CallOk Tryz.prog 58 := ⟨_, _, Tryz.func58, by kernel_rfl, rfl⟩
theorem co59 : CallOk Tryz.prog 59 := ⟨_, _, Tryz.func59, by kernel_rfl, rfl⟩
theorem co60 : CallOk Tryz.prog 60 := ⟨_, _, Tryz.func60, by kernel_rfl, rfl⟩
theorem co61 : CallOk Tryz.prog 61 := ⟨_, _, Tryz.func61, by kernel_rfl, rfl⟩
theorem co62 : CallOk Tryz.prog 62 := ⟨_, _, Tryz.func62, by kernel_rfl, rfl⟩
theorem co63 : CallOk Tryz.prog 63 := ⟨_, _, Tryz.func63, by kernel_rfl, rfl⟩
theorem co64 : CallOk Tryz.prog 64 := ⟨_, _, Tryz.func64, by kernel_rfl, rfl⟩
theorem co65 : CallOk Tryz.prog 65 := ⟨_, _, Tryz.func65, by kernel_rfl, rfl⟩
theorem co66 : CallOk Tryz.prog 66 := ⟨_, _, Tryz.func66, by kernel_rfl, rfl⟩
theorem co67 : CallOk Tryz.prog 67 := ⟨_, _, Tryz.func67, by kernel_rfl, rfl⟩
theorem co68 : CallOk Tryz.prog 68 := ⟨_, _, Tryz.func68, by kernel_rfl, rfl⟩
theorem _root_.zF5 : type_of% @Tryz.func69 := @Tryz.func69
theorem co69 : CallOk Tryz.prog 69 := ⟨_, _, zF5, by kernel_rfl, rfl⟩
theorem co70 : CallOk Tryz.prog 70 := ⟨_, _, Tryz.func70, by kernel_rfl, rfl⟩
theorem co71 : CallOk Tryz.prog 71 := ⟨_, _, Tryz.func71, by kernel_rfl, rfl⟩
theorem co72 : CallOk Tryz.prog 72 := ⟨_, _, Tryz.func72, by kernel_rfl, rfl⟩
theorem co73 : CallOk Tryz.prog 73 := ⟨_, _, Tryz.func73, by kernel_rfl, rfl⟩
theorem co74 : CallOk Tryz.prog 74 := ⟨_, _, Tryz.func74, by kernel_rfl, rfl⟩
theorem co75 : CallOk Tryz.prog 75 := ⟨_, _, Tryz.func75, by kernel_rfl, rfl⟩
theorem co76 : CallOk Tryz.prog 76 := ⟨_, _, Tryz.func76, by kernel_rfl, rfl⟩
theorem co77 : CallOk Tryz.prog 77 := ⟨_, _, Tryz.func77, by kernel_rfl, rfl⟩
theorem co78 : CallOk Tryz.prog 78 := ⟨_, _, Tryz.func78, by kernel_rfl, rfl⟩
theorem co79 : CallOk Tryz.prog 79 := ⟨_, _, Tryz.func79, by kernel_rfl, rfl⟩
theorem co80 : CallOk Tryz.prog 80 := ⟨_, _, Tryz.func80, by kernel_rfl, rfl⟩
theorem co81 : CallOk Tryz.prog 81 := ⟨_, _, Tryz.func81, by kernel_rfl, rfl⟩
theorem co82 : CallOk Tryz.prog 82 := ⟨_, _, Tryz.func82, by kernel_rfl, rfl⟩
theorem co83 : CallOk Tryz.prog 83 := ⟨_, _, Tryz.func83, by kernel_rfl, rfl⟩
theorem co84 : CallOk Tryz.prog 84 := ⟨_, _, Tryz.func84, by kernel_rfl, rfl⟩
theorem co85 : CallOk Tryz.prog 85 := ⟨_, _, Tryz.func85, by kernel_rfl, rfl⟩
theorem co86 : CallOk Tryz.prog 86 := ⟨_, _, Tryz.func86, by kernel_rfl, rfl⟩
theorem co87 : CallOk Tryz.prog 87 := ⟨_, _, Tryz.func87, by kernel_rfl, rfl⟩
theorem co88 : CallOk Tryz.prog 88 := ⟨_, _, Tryz.func88, by kernel_rfl, rfl⟩
theorem co89 : CallOk Tryz.prog 89 := ⟨_, _, Tryz.func89, by kernel_rfl, rfl⟩
theorem co90 : CallOk Tryz.prog 90 := ⟨_, _, Tryz.func90, by kernel_rfl, rfl⟩
theorem co91 : CallOk Tryz.prog 91 := ⟨_, _, Tryz.func91, by kernel_rfl, rfl⟩
theorem co92 : CallOk Tryz.prog 92 := ⟨_, _, Tryz.func92, by kernel_rfl, rfl⟩
theorem co93 : CallOk Tryz.prog 93 := ⟨_, _, Tryz.func93, by kernel_rfl, rfl⟩
theorem co94 : CallOk Tryz.prog 94 := ⟨_, _, Tryz.func94, by kernel_rfl, rfl⟩
theorem co95 : CallOk Tryz.prog 95 := ⟨_, _, Tryz.func95, by kernel_rfl, rfl⟩
theorem co96 : CallOk Tryz.prog 96 := ⟨_, _, Tryz.func96, by kernel_rfl, rfl⟩
theorem co97 : CallOk Tryz.prog 97 := ⟨_, _, Tryz.func97, by kernel_rfl, rfl⟩
theorem co98 : CallOk Tryz.prog 98 := ⟨_, _, Tryz.func98, by kernel_rfl, rfl⟩
theorem co99 : CallOk Tryz.prog 99 := ⟨_, _, Tryz.func99, by kernel_rfl, rfl⟩
theorem co100 : CallOk Tryz.prog 100 := ⟨_, _, Tryz.func100, by kernel_rfl, rfl⟩
theorem co101 : CallOk Tryz.prog 101 := ⟨_, _, Tryz.func101, by kernel_rfl, rfl⟩
theorem co107 : CallOk Tryz.prog 107 := ⟨_, _, Tryz.func107, by kernel_rfl, rfl⟩
theorem co108 : CallOk Tryz.prog 108 := ⟨_, _, Tryz.func108, by kernel_rfl, rfl⟩
theorem co109 : CallOk Tryz.prog 109 := ⟨_, _, Tryz.func109, by kernel_rfl, rfl⟩
theorem co110 : CallOk Tryz.prog 110 := ⟨_, _, Tryz.func110, by kernel_rfl, rfl⟩
theorem co111 : CallOk Tryz.prog 111 := ⟨_, _, Tryz.func111, by kernel_rfl, rfl⟩
theorem co112 : CallOk Tryz.prog 112 := ⟨_, _, Tryz.func112, by kernel_rfl, rfl⟩
theorem co113 : CallOk Tryz.prog 113 := ⟨_, _, Tryz.func113, by kernel_rfl, rfl⟩
theorem co114 : CallOk Tryz.prog 114 := ⟨_, _, Tryz.func114, by kernel_rfl, rfl⟩
theorem co115 : CallOk Tryz.prog 115 := ⟨_, _, Tryz.func115, by kernel_rfl, rfl⟩
theorem co116 : CallOk Tryz.prog 116 := ⟨_, _, Tryz.func116, by kernel_rfl, rfl⟩
theorem co117 : CallOk Tryz.prog 117 := ⟨_, _, Tryz.func117, by kernel_rfl, rfl⟩
theorem co118 : CallOk Tryz.prog 118 := ⟨_, _, Tryz.func118, by kernel_rfl, rfl⟩
theorem co119 : CallOk Tryz.prog 119 := ⟨_, _, Tryz.func119, by kernel_rfl, rfl⟩
theorem co120 : CallOk Tryz.prog 120 := ⟨_, _, Tryz.func120, by kernel_rfl, rfl⟩
theorem co121 : CallOk Tryz.prog 121 := ⟨_, _, Tryz.func121, by kernel_rfl, rfl⟩
theorem co133 : CallOk Tryz.prog 133 := ⟨_, _, Tryz.func133, by kernel_rfl, rfl⟩
theorem co134 : CallOk Tryz.prog 134 := ⟨_, _, Tryz.func134, by kernel_rfl, rfl⟩
theorem co135 : CallOk Tryz.prog 135 := ⟨_, _, Tryz.func135, by kernel_rfl, rfl⟩
theorem co136 : CallOk Tryz.prog 136 := ⟨_, _, Tryz.func136, by kernel_rfl, rfl⟩
theorem co137 : CallOk Tryz.prog 137 := ⟨_, _, Tryz.func137, by kernel_rfl, rfl⟩
theorem co138 : CallOk Tryz.prog 138 := ⟨_, _, Tryz.func138, by kernel_rfl, rfl⟩
theorem co139 : CallOk Tryz.prog 139 := ⟨_, _, Tryz.func139, by kernel_rfl, rfl⟩
end Go.Proofs.YtnfcnpdpfgcchaaGreat
namespace Go.MV
open Go Go.RowKit Go.ChangeShapes Go.WideShapes Go.Deep
section
def g0 (W : World) : Gh := { B := W.heap.size, w0 := W, st := fun b => match W.heap[b]? with | some (.cells c _ _) => c.size | _ => 0, bk := fun _ => none, lg := fun _ _ => none }
theorem rel0 (W : World) : Rel (g0 W) [] W := by
 refine ⟨.refl _ _, Nat.le_refl _, fun b hb => ?_, fun _ _ => rfl, fun _ _ _ => rfl, fun _ => none, ⟨fun id o h => (by simp at h), fun i j b h => (by cases h), fun id b h => (by cases h)⟩⟩
 show (match W.heap[b]? with | some (.cells c _ _) => c.size | _ => 0) = 0
 rw [Array.getElem?_eq_none hb]
theorem stab0 {W : World} {ad : Addr} {k : Nat} {v : Value} (h : W.cell? (ad.add k) = some v) (h1 : v.oneCell' = true) : Stab (g0 W) W ad k v := by
 refine ⟨?_, h, h1⟩
 have e := cell_spot h
 rw [e] at h
 show _ < (match W.heap[(ad.add k).block]? with | some (.cells c _ _) => c.size | _ => 0)
 unfold World.cell? at h
 split at h
 ·rename_i c t f hc
  simp only [Option.isSome_none, Bool.false_eq_true, if_false] at h
  simp only at hc
  rw [hc]
  exact (Array.getElem?_eq_some_iff.1 h).1
 ·cases h
def TyFs (T : TypeId → List MV → Prop) : List Field → List MV → Prop
 | [], l => l = []
 | f :: fs, l => ∃ a b, l = a ++ b ∧ T f.type a ∧ TyFs T fs b
def ElF (P : Program) (e : TypeId) (x : MV) : Prop := match P.underlying e with | some (.struct _) => x = .agg x.cells | _ => [x] = x.cells
def TyM (P : Program) : Nat → TypeId → List MV → Prop
 | 0, _, _ => False
 | n + 1, t, l =>
  match P.underlying t with
  | some (.int k) => ∃ v, l = [.int k v] ∧ (Lit.int k v).wf = true
  | some .bool => ∃ b, l = [.bool b]
  | some .string => ∃ s, l = [.str s] ∧ s.size ≤ maxLen
  | some (.slice e) => ∃ xs, l = [.lst none (P.cellsOf e) xs] ∧ ∀ x ∈ xs, x.cells.length = P.cellsOf e ∧ TyM P n e x.cells ∧ ElF P e x
  | some (.struct fs) => TyFs (TyM P n) fs.toList l
  | _ => False
def contig (P : Program) (size : Nat) : List Field → Nat → Bool
 | [], off => Nat.beq off size
 | f :: fs, off => Nat.beq f.offset off && contig P size fs (off + P.cellsOf f.type)
def okTypes (P : Program) (ts : List TypeId) : Bool :=
 ts.all fun t => match P.underlying t with
  | some (.int _) | some .bool | some .string => true
  | some (.slice e) => natMem e ts && (match P.underlying e with | some (.struct _) => true | _ => Nat.beq (P.cellsOf e) 1)
  | some (.struct fs) => fs.toList.all (fun f => natMem f.type ts) && contig P (P.cellsOf t) fs.toList 0
  | _ => false
mutual
def szM : MV → Nat
 | .str s => s.data.toList.length + 1
 | .lst _ _ xs => szMs xs + 1
 | .agg l => szMs l + 1
 | _ => 1
def szMs : List MV → Nat
 | [] => 0
 | x :: r => szM x + szMs r
end
theorem szMs_append : ∀ a b : List MV, szMs (a ++ b) = szMs a + szMs b
 | [], b => by simp [szMs]
 | x :: a, b => by rw [List.cons_append, szMs, szMs, szMs_append a b]; omega
theorem szMs_eq : ∀ l : List MV, szMs l = (l.map szM).sum
 | [] => rfl
 | d :: r => by rw [szMs, szMs_eq r]; rfl
theorem rds_of_fields {P : Program} {W : World} {T : TypeId → List MV → Prop} {cs : List Value} {size : Nat} (hlen : cs.length = size) : ∀ (fs : List Field) (off : Nat) (zs : List Nat), contig P size fs off = true →
  (∀ (i : Nat) (f : Field), fs[i]? = some f → ∃ l, Rds (g0 W) W l ((cs.drop f.offset).take (P.cellsOf f.type)) ∧ T f.type l ∧ l.length = P.cellsOf f.type ∧ (∀ y ∈ l, y.one = true) ∧ szMs l ≤ zs.getD i 0) → ∃ l, Rds (g0 W) W l (cs.drop off) ∧ TyFs T fs l ∧ (∀ y ∈ l, y.one = true) ∧ szMs l ≤ zs.sum
 | [], off, zs, hc, _ => by
  have := Nat.eq_of_beq_eq_true hc
  refine ⟨[], ?_, rfl, (fun y hy => by cases hy), by simp [szMs]⟩
  rw [List.drop_eq_nil_of_le (by omega)]
  exact .nil _ _
 | f :: fs, off, zs, hc, h => by
  simp only [contig, Bool.and_eq_true] at hc
  have ho := Nat.eq_of_beq_eq_true hc.1
  obtain ⟨a, h1, h2, h3, h5, h6⟩ := h 0 f rfl
  obtain ⟨b, k1, k2, k3, k4⟩ := rds_of_fields hlen fs _ zs.tail hc.2 (fun i f' hf' => by
   obtain ⟨l, g1, g2, g3, g4, g5⟩ := h (i + 1) f' (by simpa using hf')
   exact ⟨l, g1, g2, g3, g4, by cases zs <;> simpa using g5⟩)
  refine ⟨a ++ b, ?_, ⟨a, b, rfl, h2, k2⟩, fun y hy => (zJ1.1 hy).elim (h5 y) (k3 y), ?_⟩
  ·have e : cs.drop off = (cs.drop off).take (P.cellsOf f.type) ++ cs.drop (off + P.cellsOf f.type) := by
    rw [← List.drop_drop, List.take_append_drop]
   rw [e]
   rw [ho] at h1
   exact h1.append k1
  ·rw [szMs_append]
   cases zs with
   | nil =>
    have h6 : szMs a ≤ 0 := by simpa using h6
    have k4 : szMs b ≤ 0 := by simpa using k4
    simp
    omega
   | cons z zs =>
    have h6 : szMs a ≤ z := by simpa using h6
    have k4 : szMs b ≤ zs.sum := by simpa using k4
    rw [List.sum_cons]
    omega
theorem tyFs_mono {T T' : TypeId → List MV → Prop} (h : ∀ t l, T t l → T' t l) : ∀ (fs : List Field) (l : List MV), TyFs T fs l → TyFs T' fs l
 | [], l, hl => hl
 | f :: fs, l, ⟨a, b, e, h1, h2⟩ => ⟨a, b, e, h _ _ h1, tyFs_mono h fs b h2⟩
theorem tyM_succ {P : Program} : ∀ (n : Nat) (t : TypeId) (l : List MV), TyM P n t l → TyM P (n + 1) t l
 | 0, t, l, h => h.elim
 | n + 1, t, l, h => by
  unfold TyM at h ⊢
  split at h
  ·rename_i k hu; exact h
  ·rename_i hu; exact h
  ·rename_i hu; exact h
  ·rename_i e hu
   obtain ⟨xs, h1, h2⟩ := h
   exact ⟨xs, h1, fun x hx => ⟨(h2 x hx).1, tyM_succ n _ _ (h2 x hx).2.1, (h2 x hx).2.2⟩⟩
  ·rename_i fs hu; exact tyFs_mono (tyM_succ n) _ _ h
  ·exact h.elim
theorem tyM_le {P : Program} {n m : Nat} (h : n ≤ m) {t : TypeId} {l : List MV} (ht : TyM P n t l) : TyM P m t l := by
 obtain ⟨d, rfl⟩ := Nat.le.dest h
 induction d with
 | zero => exact ht
 | succ d ih => exact tyM_succ _ _ _ (ih (by omega))
section
variable {H : Type} {enc : TypeId × Value → H} {P : Program} {W : World} {base : Nat} {spare : Nat → Bool} {held : Bool}
theorem common_bound {α : Type} {p : Nat → α → Prop} (hm : ∀ n m a, n ≤ m → p n a → p m a) : ∀ (l : List α), (∀ a ∈ l, ∃ n, p n a) → ∃ n, ∀ a ∈ l, p n a
 | [], _ => ⟨0, fun a h => by cases h⟩
 | a :: l, h => by
  obtain ⟨n, hn⟩ := h a (zM0 ..)
  obtain ⟨m, hm'⟩ := common_bound hm l (fun b hb => h b (zI0 _ hb))
  refine ⟨max n m, fun b hb => ?_⟩
  rcases List.mem_cons.1 hb with rfl | hb
  ·exact hm _ _ _ (by omega) hn
  ·exact hm _ _ _ (by omega) (hm' b hb)
mutual
def dBulk : DataW H → Nat
 | .lit (.string b) => b.length + 1
 | .slice es _ => dBulkAll es + 1
 | .agg ps => dBulkAll ps + 1
 | _ => 1
def dBulkAll : List (DataW H) → Nat
 | [] => 0
 | d :: r => dBulk d + dBulkAll r
end
theorem dBulkAll_eq : ∀ l : List (DataW H), dBulkAll l = (l.map dBulk).sum
 | [] => rfl
 | d :: r => by rw [dBulkAll, dBulkAll_eq r]; rfl
theorem reads_gen {ts : List TypeId} (hok : okTypes P ts = true) : ∀ (n : Nat) (x : DataW H × List MemPlace) (fuel : Nat) (t : TypeId) (cs : List Value), SizeOf.sizeOf x.1 ≤ n → t ∈ ts → DataW.trod enc P W base spare held fuel t cs = some x →
  ∃ (l : List MV) (m : Nat), Rds (g0 W) W l cs ∧ TyM P m t l ∧ (∀ y ∈ l, y.one = true) ∧ szMs l + (match P.underlying t with | some (.struct _) => 1 | _ => 0) ≤ dBulk x.1 := by
 intro n
 induction n using Nat.strongRecOn with
 | _ n ih =>
 intro x fuel t cs hx ht h
 have hot : (match P.underlying t with
  | some (.int _) | some .bool | some .string => true
  | some (.slice e) => natMem e ts && (match P.underlying e with | some (.struct _) => true | _ => Nat.beq (P.cellsOf e) 1)
  | some (.struct fs) => fs.toList.all (fun f => natMem f.type ts) && contig P (P.cellsOf t) fs.toList 0
  | _ => false) = true := by
  simp only [okTypes, List.all_eq_true] at hok
  exact hok t ht
 split at hot
 ·rename_i k hu
  obtain ⟨v, rfl, rfl, hwf⟩ := DataW.trod_int hu h
  refine ⟨[.int k v], 1, .cons (.int _ _) (.nil _ _), ?_, by simp [MV.one], by rw [hu]; simp [szMs, szM, dBulk]⟩
  unfold TyM
  rw [hu]
  exact ⟨v, rfl, hwf⟩
 ·rename_i hu
  obtain ⟨b, rfl, rfl⟩ := DataW.trod_bool hu h
  refine ⟨[.bool b], 1, .cons (.bool _) (.nil _ _), ?_, by simp [MV.one], by rw [hu]; simp [szMs, szM, dBulk]⟩
  unfold TyM
  rw [hu]
  exact ⟨b, rfl⟩
 ·rename_i hu
  obtain ⟨s, rfl, rfl, hs⟩ := DataW.trod_string hu h
  refine ⟨[.str s], 1, .cons (.str _) (.nil _ _), ?_, by simp [MV.one], by rw [hu]; simp [szMs, szM, dBulk]⟩
  unfold TyM
  rw [hu]
  exact ⟨s, rfl, hs⟩
 ·rename_i e hu
  simp only [Bool.and_eq_true] at hot
  have he : e ∈ ts := natMem_iff.1 hot.1
  rcases open_slice hu h with ⟨rfl, rfl⟩ | ⟨a, len, cap, m, n', D, Pl, rfl, hb, hl, hm, hmm, rfl, hi⟩
  ·refine ⟨[.lst none (P.cellsOf e) []], 1, .cons (Sub.nil _ _ _ _ .lst0) (.nil _ _), ?_, by simp [MV.one], by rw [hu]; simp [szMs, szM, dBulk]⟩
   unfold TyM
   rw [hu]
   exact ⟨[], rfl, fun x hx => by cases hx⟩
  ·have hlm : len ≤ m := by rw [hmm]; split <;> omega
   have hel : ∀ i, i < len → ∃ (l : List MV) (k : Nat) (us : List Value), us.length = P.cellsOf e ∧ Rds (g0 W) W l us ∧ TyM P k e l ∧ ((∀ y ∈ l, y.one = true) ∧ szMs l + (match P.underlying e with | some (.struct _) => 1 | _ => 0) ≤ dBulk (D i)) ∧ ∀ j, j < P.cellsOf e → W.cell? ((a.add (i * P.cellsOf e)).add j) = us[j]? := by
    intro i hil
    obtain ⟨cs', hc, ht'⟩ := hi i (by omega)
    obtain ⟨_, hlen, hcell⟩ := World.cells?_some hc
    have hsz : SizeOf.sizeOf (D i) < n := by
     have hmem : D i ∈ (List.range len).map D := List.mem_map.2 ⟨i, List.mem_range.2 hil, rfl⟩
     have := List.sizeOf_lt_of_mem hmem
     simp only [DataW.slice.sizeOf_spec] at hx
     omega
    obtain ⟨l, k, h1, h2, h3⟩ := ih _ hsz (D i, Pl i) n' e cs' (Nat.le_refl _) he ht'
    exact ⟨l, k, cs', hlen, h1, h2, h3, hcell⟩
   have hall : ∀ (N : Nat), N ≤ len → ∃ (xs : List MV) (us : List Value) (k : Nat), xs.length = N ∧ us.length = N * P.cellsOf e ∧ Rds (g0 W) W (flat xs) us ∧ (∀ y ∈ flat xs, y.one = true) ∧ (∀ x ∈ xs, x.cells.length = P.cellsOf e ∧ TyM P k e x.cells ∧ ElF P e x) ∧
     (∀ j, j < N * P.cellsOf e → W.cell? (a.add j) = us[j]?) ∧ szMs xs ≤ (((List.range N).map D).map dBulk).sum := by
    intro N
    induction N with
    | zero => exact fun _ => ⟨[], [], 0, rfl, by simp, .nil _ _, by simp [flat], by simp, by simp, by simp [szMs]⟩
    | succ N ihN =>
     intro hN
     obtain ⟨xs, us, k, q1, q2, q3, q4, q5, q6, q7⟩ := ihN (by omega)
     obtain ⟨l, k', us', r1, r2, r3, ⟨r4, r6⟩, r5⟩ := hel N (by omega)
     have hll : l.length = P.cellsOf e := by rw [← r2.1, r1]
     obtain ⟨y, hy1, hy2, hy3⟩ : ∃ y : MV, y.cells = l ∧ ElF P e y ∧ szM y ≤ dBulk (D N) := by
      cases hue : P.underlying e with
      | none => 
       have hk1 : P.cellsOf e = 1 := by have := hot.2; rw [hue] at this; exact Nat.eq_of_beq_eq_true this
       match l, hll.trans hk1 with
       | [y], _ =>
        have := r4 y (zM0 ..)
        simp only [ElF, hue]
        rw [hue] at r6
        have r7 : szM y ≤ dBulk (D N) := by simpa [szMs] using r6
        refine ⟨y, ?_, ?_, r7⟩ <;> (cases y <;> first | rfl | (cases this; done))
      | some d =>
       cases d with
       | struct fs =>
        rw [hue] at r6
        exact ⟨.agg l, rfl, by simp only [ElF, hue]; rfl, r6⟩
       | _ =>
        have hk1 : P.cellsOf e = 1 := by have := hot.2; rw [hue] at this; exact Nat.eq_of_beq_eq_true this
        match l, hll.trans hk1 with
        | [y], _ =>
         have := r4 y (zM0 ..)
         simp only [ElF, hue]
         rw [hue] at r6
         have r7 : szM y ≤ dBulk (D N) := by simpa [szMs] using r6
         refine ⟨y, ?_, ?_, r7⟩ <;> (cases y <;> first | rfl | (cases this; done))
     refine ⟨xs ++ [y], us ++ us', max k k', by simp [q1], by rw [zM, q2, r1, Nat.add_mul]; omega, ?_, ?_, ?_, ?_, by rw [szMs_append, List.range_succ, List.map_append, List.map_append, List.sum_append, show ((([N] : List Nat).map D).map dBulk).sum = dBulk (D N) by simp, show szMs [y] = szM y by simp [szMs]]; omega⟩
     ·rw [zZ4]
      refine q3.append ?_
      simp only [flat, List.flatMap_cons, List.flatMap_nil, List.append_nil, hy1]
      exact r2
     ·intro z hz
      rw [zZ4, zJ1] at hz
      rcases hz with hz | hz
      ·exact q4 z hz
      ·simp only [flat, List.flatMap_cons, List.flatMap_nil, List.append_nil, hy1] at hz
       exact r4 z hz
     ·intro x hx
      rcases zJ1.1 hx with hx | hx
      ·exact ⟨(q5 x hx).1, tyM_le (by omega) (q5 x hx).2.1, (q5 x hx).2.2⟩
      ·simp at hx
       subst hx
       rw [hy1]
       exact ⟨hll, tyM_le (by omega) r3, hy2⟩
     ·intro j hj
      rw [Nat.add_mul, Nat.one_mul] at hj
      by_cases hjl : j < N * P.cellsOf e
      ·rw [List.getElem?_append_left (by omega)]
       exact q6 j hjl
      ·rw [List.getElem?_append_right (by omega), q2, ← r5 (j - N * P.cellsOf e) (by omega), Go.MV.add_add]
       congr 2
       omega
   obtain ⟨xs, us, k, q1, q2, q3, q4, q5, q6, q7⟩ := hall len (Nat.le_refl _)
   refine ⟨[.lst none (P.cellsOf e) xs], k + 1, .cons (.lst' q1 hl hm (fun x hx => (q5 x hx).1) q3 (fun j u hu => ⟨a, rfl, stab0 ?_ ?_⟩) (fun t ht => by cases ht)) (.nil _ _), ?_, by simp [MV.one], by rw [hu]; simp only [szMs, szM, dBulk, dBulkAll_eq]; omega⟩
   ·have hj : j < us.length := (zH.1 hu).1
    rw [q6 j (by omega)]
    exact hu
   ·have hj : j < us.length := (zH.1 hu).1
    have hjf : j < (flat xs).length := by rw [← q3.1]; exact hj
    exact one_cell (q3.2 j _ u (zD hjf) hu) (q4 _ (List.getElem_mem hjf))
   ·unfold TyM
    rw [hu]
    exact ⟨xs, rfl, q5⟩
 ·rename_i fs hu
  simp only [Bool.and_eq_true, List.all_eq_true] at hot
  obtain ⟨xs, n', rfl, rfl, hlen, hxl, hf⟩ := DataW.trod_struct hu h
  have hfld : ∀ (i : Nat) (f : Field), fs.toList[i]? = some f → ∃ (k : Nat) (l : List MV), Rds (g0 W) W l ((cs.drop f.offset).take (P.cellsOf f.type)) ∧ TyM P k f.type l ∧ (∀ y ∈ l, y.one = true) ∧ szMs l ≤ ((xs.map (·.1)).map dBulk).getD i 0 := by
   intro i f hi
   have hfm := zC0 hi
   have hi' : fs[i]? = some f := by simpa using hi
   have hilt : i < xs.length := by rw [hxl]; exact (Array.getElem?_eq_some_iff.1 hi').1
   have htr := hf i f hi'
   rw [zD hilt] at htr
   have hsz : SizeOf.sizeOf xs[i].1 < n := by
    have hmem : xs[i].1 ∈ xs.map (·.1) := List.mem_map.2 ⟨xs[i], List.getElem_mem hilt, rfl⟩
    have := List.sizeOf_lt_of_mem hmem
    simp only [DataW.agg.sizeOf_spec] at hx
    omega
   obtain ⟨l, k, h1, h2, h3⟩ := ih _ hsz xs[i] n' f.type _ (Nat.le_refl _) (natMem_iff.1 (hot.1 f hfm)) htr
   refine ⟨k, l, h1, h2, h3.1, ?_⟩
   have : ((xs.map (·.1)).map dBulk).getD i 0 = dBulk xs[i].1 := by simp [hilt]
   rw [this]
   have := h3.2
   omega
  obtain ⟨K, hK⟩ := common_bound (p := fun k (q : Nat × Field) => ∃ l : List MV, Rds (g0 W) W l ((cs.drop q.2.offset).take (P.cellsOf q.2.type)) ∧ TyM P k q.2.type l ∧ (∀ y ∈ l, y.one = true) ∧ szMs l ≤ ((xs.map (·.1)).map dBulk).getD q.1 0) (fun a b f hab ⟨l, h1, h2, h3⟩ => ⟨l, h1, tyM_le hab h2, h3⟩) (fs.toList.zipIdx.map fun p => (p.2, p.1)) (fun q hq => by
   obtain ⟨p, hp, rfl⟩ := List.mem_map.1 hq
   exact hfld p.2 p.1 (List.mem_zipIdx_iff_getElem?.1 hp))
  replace hK : ∀ (i : Nat) (f : Field), fs.toList[i]? = some f → ∃ l : List MV, Rds (g0 W) W l ((cs.drop f.offset).take (P.cellsOf f.type)) ∧ TyM P K f.type l ∧ (∀ y ∈ l, y.one = true) ∧ szMs l ≤ ((xs.map (·.1)).map dBulk).getD i 0 := fun i f hi => hK (i, f) (List.mem_map.2 ⟨(f, i), List.mem_zipIdx_iff_getElem?.2 hi, rfl⟩)
  have hcont := hot.2
  have hlens : ∀ (gs : List Field) (off : Nat), contig P (P.cellsOf t) gs off = true → off ≤ P.cellsOf t ∧ ∀ f ∈ gs, f.offset + P.cellsOf f.type ≤ P.cellsOf t := by
   intro gs
   induction gs with
   | nil => exact fun off hc => ⟨Nat.le_of_eq (Nat.eq_of_beq_eq_true hc), fun f hf => by cases hf⟩
   | cons f gs ihg =>
    intro off hc
    simp only [contig, Bool.and_eq_true] at hc
    have ho := Nat.eq_of_beq_eq_true hc.1
    obtain ⟨h1, h2⟩ := ihg _ hc.2
    refine ⟨by omega, fun f' hf' => ?_⟩
    rcases List.mem_cons.1 hf' with rfl | hf'
    ·omega
    ·exact h2 f' hf'
  obtain ⟨l, h1, h2, h3⟩ := rds_of_fields (P := P) (W := W) (T := TyM P K) hlen fs.toList 0 ((xs.map (·.1)).map dBulk) hcont (fun i f hi => by
   obtain ⟨l, h1, h2, h3⟩ := hK i f hi
   refine ⟨l, h1, h2, ?_, h3⟩
   have := (hlens _ _ hcont).2 f (zC0 hi)
   rw [← h1.1, List.length_take, List.length_drop, hlen]
   omega)
  refine ⟨l, K + 1, by simpa using h1, ?_, h3.1, by rw [hu]; simp only [dBulk, dBulkAll_eq]; have := h3.2; omega⟩
  unfold TyM
  rw [hu]
  exact h2
 ·cases hot
end
section
variable {H : Type} {enc : TypeId × Value → H} {P : Program} {W : World} {base b0 : Nat} {spare : Nat → Bool} {held : Bool} {r : Reach}
theorem arg_structB {ts : List TypeId} (hok : okTypes P ts = true) {t : TypeId} {fs : Array Field} (ht : t ∈ ts) (hu : P.underlying t = some (.struct fs)) {v : Value} {d : DataW H} {p : List MemPlace} (hv : Value.okWide P W r b0 t v) (h : DataW.Trod enc P W base spare held t v d p) :
  ∃ (l : List MV) (m : Nat), Rd (g0 W) W (.agg l) v ∧ TyM P m t l ∧ szM (.agg l) ≤ dBulk d := by
 obtain ⟨cs, rfl, hsz⟩ := okWide_struct hu hv
 obtain ⟨fuel, hf⟩ := h
 obtain ⟨l, m, h1, h2, _, h3⟩ := reads_gen hok _ _ _ _ _ (Nat.le_refl _) ht hf
 rw [hu] at h3
 refine ⟨l, m, ?_, h2, h3⟩
 have := Rd.agg' h1
 simpa [Value.cells] using this
end
theorem law_calls {P : Program} {f : FuncId} {xs : List MV} {W : World} {vs : List Value} (h : MCalls P f xs [] fun v σ' => v = .bool true ∧ σ' = []) (hr : Rds (g0 W) W xs vs) : Calls P f vs.toArray W fun e w' => e = .returned (.bool true) ∧ Below W.heap.size W w' := by
 refine (callsIn_wide.1 (h (g0 W) W vs (rel0 W) hr)).mono ?_
 rintro e w' ⟨v, rfl, x, σ', g', ⟨rfl, rfl⟩, hrel, hrd, hle⟩
 rw [hrd.inv_bool]
 have := hrel.below
 rw [hle.B, hle.w0] at this
 exact ⟨rfl, this⟩
end
end Go.MV
namespace Go.MV
open Go Go.RowKit
section
section
variable {P : Program} {rd : Option Nat} {o : Oper} {env : Env} {σ : MS} {K : MV → MS → Prop}
theorem op_if0 {b : BinOp} {r : Bool} {t t' : TypeId} {x : Operand} {c : Value} {ms : Array (String × TypeId)} (ho : o.op = .binOp b t x (.const c) t') (hu : P.underlying t = some (.interface ms)) (hx : evo env x = some .iface0) (hy : evo env (.const c) = some .iface0) (hb : b = .eql ∧ r = true ∨ b = .neq ∧ r = false) (h : K (.bool r) σ) : OpWp P rd o env σ K := by
 refine op_bin ho hx hy (fun _ _ _ h => h.inv_iface0) (fun _ _ _ h => h.inv_iface0) (vz := .bool r) (fun w => ?_) V h
 have h9 : ∀ d : Nat, (Op.equalIn (d + 1) t .nilIface .nilIface).run P w = .ok true w := fun d => by simp [Op.equalIn, run_underlying hu]
 rcases hb with ⟨rfl, rfl⟩ | ⟨rfl, rfl⟩ <;> (simp only [eqGuard, binOp]; simp [Op.equal, Op.maxDepth, h9 9999])
theorem _root_.zF6 : type_of% @op_if0 := @op_if0
theorem op_ifnil {b : BinOp} {r : Bool} {t e t' : TypeId} {x y : Operand} {m : MV} {ms : Array (String × TypeId)} (ho : o.op = .binOp b t x y t') (hu : P.underlying t = some (.interface ms)) (hx : evo env x = some (.iface e m)) (hy : evo env y = some .iface0) (hb : b = .eql ∧ r = false ∨ b = .neq ∧ r = true) (h : K (.bool r) σ) : OpWp P rd o env σ K := by
 refine OpWp.of_run (by rcases hb with ⟨rfl, rfl⟩ | Vv <;> simp [ho]) fun g w a hr hop => ?_
 obtain ⟨u, e1, _⟩ := (hop x (by simp [ho, Op.operands]) _ hx).inv_iface
 have e2 := (hop y (by simp [ho, Op.operands]) _ hy).inv_iface0
 refine ⟨.bool r, w, ?_, .same h hr (.bool _)⟩
 have h9 : ∀ d : Nat, (Op.equalIn (d + 1) t (.iface e u) .nilIface).run P w = .ok false w := fun d => by simp [Op.equalIn, run_underlying hu]
 rcases hb with ⟨rfl, rfl⟩ | ⟨rfl, rfl⟩ <;> (simp only [execOp, ho, e1, e2, Sem.run_bind, Sem.run_pure]; simp [eqGuard, binOp, Op.equal, Op.maxDepth, h9 9999])
theorem wadd {a b c : Nat} (h : a + b = c) (hc : c < 9223372036854775808) : intArith .add .i64 (a : Int) (b : Int) = some (c : Int) := by
 simp only [intArith]
 rw [wrap_i64 (by omega)]
 congr 1
 omega
theorem wsub {a b c : Nat} (h : b + c = a) (hc : a < 9223372036854775808) : intArith .sub .i64 (a : Int) (b : Int) = some (c : Int) := by
 simp only [intArith]
 rw [wrap_i64 (by omega)]
 congr 1
 omega
end
end
end Go.MV
namespace Go.MV
open Go Go.RowKit Go.WideShapes Go.ChangeShapes
section
section
variable {H : Type} {enc : TypeId × Value → H} {P : Program} {W : World} {base b0 : Nat} {spare : Nat → Bool} {held : Bool} {r : Reach} {ts : List TypeId} {t : TypeId} {v : Value} {d : DataW H} {p : List MemPlace}
theorem tyM_intK {k : IntKind} (hu : P.underlying t = some (.int k)) {n : Nat} {l : List MV} (h : TyM P n t l) : ∃ v, l = [.int k v] ∧ (Lit.int k v).wf = true := by
 cases n with
 | zero => exact h.elim
 | succ n => unfold TyM at h; rw [hu] at h; exact h
theorem tyM_str (hu : P.underlying t = some .string) {n : Nat} {l : List MV} (h : TyM P n t l) : ∃ s : Bs, l = [.str (bs s)] ∧ s.length ≤ maxLen := by
 cases n with
 | zero => exact h.elim
 | succ n =>
  unfold TyM at h; rw [hu] at h
  obtain ⟨s, rfl, hs⟩ := h
  exact ⟨strL s, by rw [bs_strL], by unfold strL; rw [Array.length_toList]; exact hs⟩
theorem tyM_slice {e : TypeId} (hu : P.underlying t = some (.slice e)) {n : Nat} {l : List MV} (h : TyM P n t l) : ∃ xs m, m + 1 = n ∧ l = [.lst none (P.cellsOf e) xs] ∧ ∀ x ∈ xs, x.cells.length = P.cellsOf e ∧ TyM P m e x.cells ∧ ElF P e x := by
 cases n with
 | zero => exact h.elim
 | succ n =>
  unfold TyM at h; rw [hu] at h
  obtain ⟨xs, h1, h2⟩ := h
  exact ⟨xs, n, rfl, h1, h2⟩
theorem tyM_struct {fs : Array Field} (hu : P.underlying t = some (.struct fs)) {n : Nat} {l : List MV} (h : TyM P n t l) : ∃ m, m + 1 = n ∧ TyFs (TyM P m) fs.toList l := by
 cases n with
 | zero => exact h.elim
 | succ n => unfold TyM at h; rw [hu] at h; exact ⟨n, rfl, h⟩
theorem all_enc {α : Type} {enc : α → MV} {q : α → Prop} : ∀ {xs : List MV}, (∀ x ∈ xs, ∃ a, x = enc a ∧ q a) → ∃ l : List α, xs = l.map enc ∧ ∀ a ∈ l, q a
 | [], _ => ⟨[], rfl, fun a h => by cases h⟩
 | x :: xs, h => by
  obtain ⟨l, rfl, hl⟩ := all_enc (fun y hy => h y (zI0 _ hy))
  obtain ⟨a, rfl, ha⟩ := h x (zM0 ..)
  refine ⟨a :: l, rfl, fun b hb => ?_⟩
  rcases List.mem_cons.1 hb with rfl | hb
  ·exact ha
  ·exact hl b hb
theorem el_str (hu : P.underlying t = some .string) (m : Nat) (x : MV) (h : TyM P m t x.cells) (he : ElF P t x) : ∃ a : Bs, x = .str (bs a) ∧ a.length ≤ maxLen := by
 obtain ⟨n, hn', hw⟩ := tyM_str hu h
 simp only [ElF, hu] at he
 rw [hn'] at he
 injection he with he
 exact ⟨n, he, hw⟩
theorem wf_u64 {n : Int} (h : (Lit.int .u64 n).wf = true) : ∃ m : Nat, n = (m : Int) ∧ m < 18446744073709551616 := by
 simp [Lit.wf, IntKind.min, IntKind.max, IntKind.signed, IntKind.bits] at h
 exact ⟨n.toNat, by omega, by omega⟩
end
end
end Go.MV
namespace Go.Proofs.YtnfcnpdpfgcchaaGreat
open Go Go.MV
def partsF (k : Int) : Int := if k = 1 ∨ k = 2 ∨ k = 3 ∨ k = 6 ∨ k = 7 then 0 else if k = 4 ∨ k = 8 then 1 else if k = 5 then 2 else -1
theorem _root_.zA : type_of% @Nat.le_of_ble_eq_true := @Nat.le_of_ble_eq_true
theorem _root_.zD4 : type_of% @Tryz.results91 := @Tryz.results91
theorem parts_spec (k : Int) (S : MS) : MCalls Tryz.prog 91 [.int .i64 k] S fun v σ' => v = .int .i64 (partsF k) ∧ σ' = S := by
 refine zU Tryz.func91 V Tryz.ntmps91 (zA V) ?_
 refine zB <| qR V <| qA V V V <| qN <| zB <| zB <| qR V <| qM V V V <| qN <| zB0 <| zB <| zB <| qR V <| qC V V V V V <| qA V V V <| qN ?_
 refine zK V (fun h4 => ?_) (fun h4 => ?_)
 ·
  refine zY <| zA0 V h4 <| zB <| qR V <| qA V V V <| qN <| zL ?_
  exact zT (.inr V) zD4 V (.refl _) (.int _ _) ⟨by simp_all [partsF], rfl⟩
 ·
  refine zB <| qR V <| qC V V V V V <| qA V V V <| qN ?_
  refine zK V (fun h4 => ?_) (fun h4 => ?_)
  ·
   refine zY <| zA0 V h4 <| zB <| qR V <| qA V V V <| qN <| zL ?_
   exact zT (.inr V) zD4 V (.refl _) (.int _ _) ⟨by simp_all [partsF], rfl⟩
  ·
   refine zB <| qR V <| qC V V V V V <| qA V V V <| qN ?_
   refine zK V (fun h4 => ?_) (fun h4 => ?_)
   ·
    refine zY <| zA0 V h4 <| zB <| qR V <| qA V V V <| qN <| zL ?_
    exact zT (.inr V) zD4 V (.refl _) (.int _ _) ⟨by simp_all [partsF], rfl⟩
   ·
    refine zB <| qR V <| qC V V V V V <| qA V V V <| qN ?_
    refine zK V (fun h4 => ?_) (fun h4 => ?_)
    ·
     refine zY <| zA0 V h4 <| zB <| qR V <| qA V V V <| qN <| zL ?_
     exact zT (.inr V) zD4 V (.refl _) (.int _ _) ⟨by simp_all [partsF], rfl⟩
    ·
     refine qR V <| qC V V V V V <| qA V V V <| qN ?_
     refine zK V (fun h4 => ?_) (fun h4 => ?_)
     ·
      refine zB <| qR V <| qA V V V <| qN <| zL ?_
      exact zT (.inr V) zD4 V (.refl _) (.int _ _) ⟨by simp_all [partsF], rfl⟩
     ·
      refine zB <| zB <| qR V <| qC V V V V V <| qA V V V <| qN ?_
      refine zK V (fun h10 => ?_) (fun h10 => ?_)
      ·
       refine zY <| zA0 V h10 <| zB <| qR V <| qA V V V <| qN <| zL ?_
       exact zT (.inr V) zD4 V (.refl _) (.int _ _) ⟨by simp_all [partsF], rfl⟩
      ·
       refine qR V <| qC V V V V V <| qA V V V <| qN ?_
       refine zK V (fun h10 => ?_) (fun h10 => ?_)
       ·
        refine zB <| qR V <| qA V V V <| qN <| zL ?_
        exact zT (.inr V) zD4 V (.refl _) (.int _ _) ⟨by simp_all [partsF], rfl⟩
       ·
        refine zB <| qR V <| qC V V V V V <| qA V V V <| qN ?_
        refine zK V (fun h13 => ?_) (fun h13 => ?_)
        ·
         refine zB <| qR V <| qA V V V <| qN <| zL ?_
         exact zT (.inr V) zD4 V (.refl _) (.int _ _) ⟨by simp_all [partsF], rfl⟩
        ·
         refine zY <| zB <| qR V <| qA V V V <| qN <| zL ?_
         exact zT (.inr V) zD4 V (.refl _) (.int _ _) ⟨by simp_all [partsF], rfl⟩
theorem _root_.zJ0 : type_of% @Tryz.underlying22 := @Tryz.underlying22
theorem all_spec (l : List Sch) (p : Sch → Bool) (kf : FuncId) (first caps : List MV) (S : MS) (hco : CallOk Tryz.prog kf) (hp : ∀ s ∈ l, ∀ X : MS, MCalls Tryz.prog kf (first ++ [encS s] ++ caps) (S ++ X) fun v σ' => v = .bool (p s) ∧ σ' = S ++ X) :
  MCalls Tryz.prog 92 [.lst none 2 (encSs l), .fn (.func kf) first caps] S fun v σ' => v = .bool (l.all p) ∧ σ' = S := by
 refine zU Tryz.func92 V Tryz.ntmps92 (zA V) ?_
 refine zI2 (t := 0) V fun hlen => ?_
 refine zB <| qR V <| qA V V V <| qN <| zB <| zB <| qR V <| qM V V V <| qE V V zJ0 V <| qM V V V <| qN <| zB0 ?_
 refine mwp_loopJ (α := Nat) (fun i => [(0, .lst none 2 (encSs l)), (1, .fn (.func kf) first caps), (7, .lst none 2 (encSs l)), (8, .int .i64 ((encSs l).length : Int)), (9, .int .i64 (i : Int))]) (fun i => []) (fun i => i ≤ l.length ∧ (l.take i).all p = true) (fun i => l.length - i) (0) (Nat.le_refl _) ⟨by omega, rfl⟩ V (.keep V (.keep V (.keep V (.keep V (.keep V .nil))))) ?_
 rintro i ⟨hi, hall⟩
 refine zB <| qR V <| qC V V V V V <| qN <| zB ?_
 refine zK V (fun h10 => ?_) (fun h10 => ?_)
 ·
  have hlt : i < l.length := by rw [zV3] at h10; simpa using h10
  obtain ⟨⟨k, ins⟩, hs⟩ : ∃ s, l[i]? = some s := ⟨_, zD hlt⟩
  refine zY <| zB <| zB0 <| zB <| qR V <| qO V <| zG V zJ0 sz24 (by decide) V V V (encSs_get hs) ?_
  refine qO V <| zI V V ta24 V <| qO V <| zL0 V zm24 V V <| qO V <| zG0 V V V V sz24 V V (zA V) V <| qN <| zB <| qR V <| qM V V V <| qL V V V V ta24 V ?_
  refine zF4 V (zC1 V V V hco ((hp _ (zC0 hs) _).mono ?_))
  rintro _ _ ⟨rfl, rfl⟩
  refine qO V <| zY0 V V <| qN ?_
  refine zK V (fun h16 => ?_) (fun h16 => ?_)
  ·
   refine zB <| qR V <| qA V V V <| qN <| zL ?_
   exact zT (.inr V) Tryz.results92 V (.refl _) (.bool _) ⟨by rw [List.all_eq_false.2 ⟨_, zC0 hs, by simpa using h16⟩], rfl⟩
  ·
   refine zY <| qR V <| qO V <| zO0 V V V V <| qM V V V <| qN ?_
   refine ⟨i + 1, _, by omega, ⟨by omega, ?_⟩, rfl, .nil, .old V V (.old V V (.old V V (.old V V (.new' V (zK1 hlt (by rw [zV3] at hlen; exact hlen)) (.int _ _) .nil))))⟩
   rw [List.take_add_one, hs]
   simp [hall]
   simpa using h16
 ·
  have hge : i = l.length := by rw [zV3] at h10; simp at h10; omega
  refine zF1 <| zB <| qR V <| qA V V V <| qN <| zL ?_
  exact zT (.inr V) Tryz.results92 V (.refl _) (.bool _) ⟨by rw [hge, List.take_length] at hall; rw [hall], rfl⟩
def isF : Nat → Sch → Bool
 | 0, _ => false
 | d + 1, .mk k ins => (partsF k == (ins.length : Int)) && ins.all (isF d)
theorem is1_spec (d : Nat) (hd : d < 1000) (ih : ∀ (s : Sch) (S : MS), MCalls Tryz.prog 68 [encS s, .int .i64 (d : Int)] S fun v σ' => v = .bool (isF d s) ∧ σ' = S) (s : Sch) (id : Nat) (S : MS) (hS : S[id]? = some (.cells [.int .i64 ((d + 1 : Nat) : Int)])) :
  MCalls Tryz.prog 93 [encS s, .ref id 0] S fun v σ' => v = .bool (isF d s) ∧ σ' = S := by
 obtain ⟨k, ins⟩ := s
 have hsub : IntKind.i64.wrap (((d + 1 : Nat) : Int) - 1) = (d : Int) := by rw [wrap_i64 (by omega)]; omega
 refine zU Tryz.func93 V Tryz.ntmps93 (zA V) ?_
 refine zB <| qR V <| qB V V V V V <| qA V V V <| qN <| zB <| qR V <| qL V V V V ta24 V <| qO V <| zD2 V V hS ta3 V <| qO V <| zO0 V V V V ?_
 rw [hsub]
 refine qX V V V V co68 (ih (.mk k ins) _) ?_
 refine qA V V V <| qN <| zL ?_
 exact zT (.inr V) Tryz.results93 V (.refl _) (.bool _) Vv
theorem is_spec (d : Nat) : d < 1000 → ∀ (s : Sch) (S : MS), MCalls Tryz.prog 68 [encS s, .int .i64 (d : Int)] S fun v σ' => v = .bool (isF d s) ∧ σ' = S := by
 induction d with
 | zero =>
  rintro - ⟨k, ins⟩ S
  refine zU Tryz.func68 V Tryz.ntmps68 (zA V) ?_
  refine zB <| qR V <| qB V V V V V <| qB V V V V V <| qA V V V <| qN <| zB <| zB ?_
  refine zV0 [] [_] mo (by decide) V V V V ?_
  refine dO V V V (zE0 V V V ta3 V Vv) <| dO V V V (zQ2 V V V V Vv) <| dO V V V (zS V V Vv) <| dS V V <| dS V V <| dS V V <| dS V V <| dS V V <| dS V V <| dS V V <| dO V V V (zD1 V V V Vv) <| zK0 <| zA0 V (V) <| zB <| qR V <| qA V V V <| qN <| zL ?_
  exact zT (.inr V) Tryz.results68 V (.refl _) (.bool _) ⟨by simp [isF], rfl⟩
 | succ d ih =>
  rintro hd ⟨k, ins⟩ S
  have h0 : (((d + 1 : Nat) : Int) == 0) = false := by simp; omega
  refine zU Tryz.func68 V Tryz.ntmps68 (zA V) ?_
  refine zB <| qR V <| qB V V V V V <| qB V V V V V <| qA V V V <| qN <| zB <| zB ?_
  refine zV0 [] [_] mo (by decide) V V V V ?_
  refine dO V V V (zE0 V V V ta3 V Vv) <| dO V V V (zQ2 V V V V Vv) ?_
  rw [h0]
  refine dO V V V (zS V V Vv) <| dO V V V (zJ V V zC2 Vv) <| dO V V V (zE0 V V V ta3 V Vv) <| zV V V (.cons (zC1 V V V co91 (parts_spec _ _)) .nil) <| dO V V V (zJ V V zR2 Vv) <| dO V V V (zE0 V V V ta22 V Vv) <| dO V V V (zP2 V zJ0 V Vv) <| dO V V V (zQ2 V V V V Vv) <| dO V V V (zD1 V V V Vv) <| zK0 ?_
  refine zK V (fun h15 => ?_) (fun h15 => ?_)
  ·
   refine zB <| qR V <| qA V V V <| qN <| zL ?_
   exact zT (.inr V) Tryz.results68 V (.refl _) (.bool _) ⟨by rw [zV3] at h15; simp at h15; simp [isF, h15], rfl⟩
  ·
   refine zY <| zB <| qR V <| qF V V V zR2 <| qL V V V V ta22 V <| qO V <| zB2 V V V ?_
   refine qX V V V V co92 (all_spec ins (isF d) _ _ _ _ co93 fun s _ X => is1_spec d (by omega) (ih (by omega)) s _ _ (by rw [List.getElem?_append_left (by simp)]; simp [MV.cells])) ?_
   refine qA V V V <| qN <| zL ?_
   exact zT (.inr V) Tryz.results68 V (.refl _) (.bool _) ⟨by rw [zV3] at h15; simp at h15; simp [isF, h15], rfl⟩
theorem Is_spec (s : Sch) (S : MS) : MCalls Tryz.prog 43 [encS s] S fun v σ' => v = .bool (isF 16 s) ∧ σ' = S := by
 obtain ⟨k, ins⟩ := s
 refine zU Tryz.func43 V Tryz.ntmps43 (zA V) ?_
 refine zB <| qR V <| qB V V V V V <| qA V V V <| qN <| zB <| qR V <| qL V V V V ta24 V ?_
 refine qX V V V V co68 (is_spec 16 (by omega) (.mk k ins) _) ?_
 refine qA V V V <| qN <| zL ?_
 exact zT (.inr V) Tryz.results43 V (.refl _) (.bool _) Vv
end Go.Proofs.YtnfcnpdpfgcchaaGreat
namespace Go.MV
open Go Go.RowKit
def eqOne : TypeDesc → MV → MV → Option Bool
 | .int _, .int k a, .int k' b => if k = k' then some (a == b) else none
 | .bool, .bool a, .bool b => some (a == b)
 | .string, .str a, .str b => some (strL a == strL b)
 | _, _, _ => none
def eqFs (P : Program) (l l' : List MV) : List Field → Option Bool
 | [] => some true
 | f :: fs => match P.underlying f.type, l[f.offset]?, l'[f.offset]? with
  | some d, some x, some y => match eqOne d x y, eqFs P l l' fs with
   | some a, some b => some (a && b)
   | _, _ => none
  | _, _, _ => none
def flatStruct (P : Program) (t : TypeId) : Bool := match P.underlying t with
 | some (.struct fs) => !P.stoodInHeld t && !P.eqGuardType P.depth t && fs.toList.all (fun f => f.name != "_" && match P.underlying f.type with | some (.int _) | some .bool | some .string => true | _ => false)
 | _ => false
theorem eqOne_run {P : Program} {g : Gh} {w w' : World} {t : TypeId} {d : TypeDesc} (hu : P.underlying t = some d) {x y : MV} {u v : Value} {r : Bool} (h : eqOne d x y = some r) (hx : Rd g w x u) (hy : Rd g w y v) (n : Nat) : (Op.equalIn (n + 1) t u v).run P w' = .ok r w' := by
 unfold eqOne at h
 split at h
 ·rw [hx.inv_int, hy.inv_int]
  split at h
  ·rename_i k a k' b hk
   subst hk
   injection h with h
   subst h
   simp [Op.equalIn, run_underlying hu]
  ·cases h
 ·rw [hx.inv_bool, hy.inv_bool]
  injection h with h
  subst h
  simp [Op.equalIn, run_underlying hu]
 ·rw [hx.inv_str, hy.inv_str]
  injection h with h
  subst h
  rw [run_equalIn_string _ _ _ _ _ hu]
  rw [ByteArray.toList_eq, ByteArray.toList_eq]
  rfl
 ·cases h
theorem eqFs_run {P : Program} {g : Gh} {w w' : World} {l l' : List MV} {us vs : List Value} (hl : Rds g w l us) (hl' : Rds g w l' vs) (n : Nat) : ∀ {fs : List Field} {r : Bool}, (fs.all fun f => f.name != "_" && match P.underlying f.type with | some (.int _) | some .bool | some .string => true | _ => false) = true → eqFs P l l' fs = some r → (Op.eqFields (n + 1) us.toArray vs.toArray fs).run P w' = .ok r w'
 | [], r, _, h => by
  injection h with h
  subst h
  simp [Op.eqFields]
 | f :: fs, r, hall, h => by
  simp only [List.all_cons, Bool.and_eq_true] at hall
  unfold eqFs at h
  split at h
  ·rename_i d x y hu hx hy
   split at h
   ·rename_i a b ha hb
    injection h with h
    subst h
    have ih := eqFs_run (w' := w') hl hl' n hall.2 hb
    obtain ⟨u, hu1, hu2⟩ := hl.get hx
    obtain ⟨v, hv1, hv2⟩ := hl'.get hy
    have hagg : (isAgg f.type).run P w' = .ok false w' := by
     have := hall.1.2
     rw [hu] at this
     unfold isAgg
     simp only [Sem.run_bind, run_underlying hu, Result.andThen_ok]
     cases d <;> first | rfl | (cases this; done)
    have hp1 : (part f.type us.toArray f.offset).run P w' = .ok u w' := by
     unfold part
     simp [hagg, hu1]
    have hp2 : (part f.type vs.toArray f.offset).run P w' = .ok v w' := by
     unfold part
     simp [hagg, hv1]
    have hn : f.name ≠ "_" := by simpa using hall.1.1
    have he := eqOne_run (w' := w') hu ha hu2 hv2 n
    simp only [Op.eqFields, if_pos hn, Sem.run_bind, hp1, hp2, he, Result.andThen_ok]
    cases a with
    | true => simpa using ih
    | false => simp
   ·cases h
  ·cases h
theorem op_eqstruct {P : Program} {rd : Option Nat} {o : Oper} {env : Env} {σ : MS} {K : MV → MS → Prop} {b : BinOp} {r r' : Bool} {t t' : TypeId} {x y : Operand} {l l' : List MV} (ho : o.op = .binOp b t x y t') (hf : flatStruct P t = true) (hx : evo env x = some (.agg l)) (hy : evo env y = some (.agg l'))
  (he : eqFs P l l' (P.fieldsOf t).toList = some r) (hb : b = .eql ∧ r' = r ∨ b = .neq ∧ r' = !r) (h : K (.bool r') σ) : OpWp P rd o env σ K := by
 refine OpWp.of_run (by rcases hb with ⟨rfl, rfl⟩ | Vv <;> simp [ho]) fun g w a hr hop => ?_
 obtain ⟨us, e1, h1⟩ := (hop x (by simp [ho, Op.operands]) _ hx).inv_agg
 obtain ⟨vs, e2, h2⟩ := (hop y (by simp [ho, Op.operands]) _ hy).inv_agg
 refine ⟨.bool r', w, ?_, .same h hr (.bool _)⟩
 unfold flatStruct at hf
 split at hf
 ·rename_i fs hu
  simp only [Bool.and_eq_true, Bool.not_eq_true'] at hf
  have hfo : P.fieldsOf t = fs := by simp [Program.fieldsOf, hu]
  rw [hfo] at he
  have hrun := eqFs_run (w' := w) h1 h2 9998 hf.2 he
  have hq : (Op.equalIn 10000 t (.agg us.toArray) (.agg vs.toArray)).run P w = .ok r w := by
   rw [run_equalIn_struct w 9999 t us.toArray vs.toArray (by rw [hfo]; exact hu) hf.1.1, hfo]
   exact hrun
  rcases hb with ⟨rfl, rfl⟩ | ⟨rfl, rfl⟩ <;> (simp only [execOp, ho, e1, e2, Sem.run_bind, Sem.run_pure]; simp [eqGuard, binOp, Op.equal, Op.maxDepth, hq, hf.1.2])
 ·cases hf
section
section
variable {P : Program} {rd : Option Nat} {N n : Nat} {Q : Exit → Env → MS → Prop} {env : Env} {S L : MS} {c : Code}
theorem EnvSub.app {env A B : Env} (h : EnvSub env A) (k : EnvSub env B) : EnvSub env (A ++ B) := by
 induction h with
 | nil => exact k
 | cons h1 h2 _ ih => exact .cons h1 h2 ih
theorem EnvTo.app {n : Nat} {env E0 A B : Env} (h : EnvTo n env E0 A) (k : EnvTo n env E0 B) : EnvTo n env E0 (A ++ B) := by
 induction h with
 | nil => exact k
 | old h1 h2 _ ih => exact .old h1 h2 ih
 | new h1 h2 h3 _ ih => exact .new h1 h2 h3 ih
theorem mwp_loopK {α : Type} {L0 : MS} (K : Env) (E : α → Env) (L : α → MS) (I : α → Prop) (m : α → Nat) (x₀ : α) (hK : EnvSub env K) (hE : EnvSub env (E x₀)) (h₀ : I x₀) (hL : L0 = L x₀)
  (round : ∀ x, I x → mwp P rd N n c (ThenM (fun env' σ' => ∃ y, m y < m x ∧ I y ∧ σ' = S ++ L y ∧ EnvSub env' K ∧ EnvSub env' (E y)) Q) (K ++ E x) (S ++ L x)) : mwp P rd N n (.loop c) Q env (S ++ L0) := by
 refine mwp_loop0 (fun x => K ++ E x) L I m x₀ h₀ hL (hK.app hE) fun x hx => mwp_mono (round x hx) fun e env' σ' h => ?_
 cases e with
 | normal =>
  obtain ⟨y, h1, h2, h3, h4, h5⟩ := h
  exact ⟨y, h1, h2, h3, h4.app h5⟩
 | _ => exact h
theorem _root_.zQ1 : type_of% @mwp_loopK := @mwp_loopK
theorem mwp_loopKJ {α : Type} {L0 : MS} (K : Env) (E : α → Env) (L : α → MS) (I : α → Prop) (m : α → Nat) (x₀ : α) (hN : N ≤ S.length) (hK : EnvSub env K) (hE : EnvSub env (E x₀)) (h₀ : I x₀) (hL : L0 = L x₀)
  (round : ∀ x, I x → mwp P rd N n c (ThenM (fun env' σ' => ∃ y junk, m y < m x ∧ I y ∧ σ' = S ++ (L y ++ junk) ∧ LTo (S.length + (L x).length) (L x) (L y) ∧ EnvTo (S.length + (L x).length) env' (K ++ E x) K ∧ EnvTo (S.length + (L x).length) env' (K ++ E x) (E y)) Q) (K ++ E x) (S ++ L x)) : mwp P rd N n (.loop c) Q env (S ++ L0) := by
 refine mwp_loopJ (fun x => K ++ E x) L I m x₀ hN h₀ hL (hK.app hE) fun x hx => mwp_mono (round x hx) fun e env' σ' h => ?_
 cases e with
 | normal =>
  obtain ⟨y, junk, h1, h2, h3, h4, h5, h6⟩ := h
  exact ⟨y, junk, h1, h2, h3, h4, h5.app h6⟩
 | _ => exact h
theorem mwp_row0 {L' : MS} (t ty sz : Nat) {k : Nat} (ht : get env t = some .lst0) (hN : N ≤ S.length) (hk : L.length = k) (hL : L ++ [.row ty sz 0] = L') (h : mwp P rd N n c Q ((t, .lst (some (S.length + k)) sz []) :: env) (S ++ L')) : mwp P rd N n c Q env (S ++ L) := by
 subst hk hL
 refine zO5 (fun g w tmps hr he => ?_) h
 obtain ⟨r1, l1, d1⟩ := tok_new hr ty sz
 have hlen : (S ++ L).length = S.length + L.length := zM
 refine ⟨_, by rw [← zZ]; exact r1, fun s y hy => ?_, l1.toN N, fun F hF => hF.mono (l1.toN N)⟩
 by_cases e : t = s
 ·subst e
  rw [zK4] at hy
  injection hy with hy
  subst hy
  obtain ⟨v, hv, hrd⟩ := he t _ ht
  refine ⟨v, hv, ?_⟩
  rw [hrd.inv_lst0, ← hlen]
  exact d1
 ·rw [zH4 _ _ e] at hy
  obtain ⟨v, hv, hrd⟩ := he s y hy
  exact ⟨v, hv, hrd.mono l1⟩
end
theorem wOps_case {P : Program} {rd : Option Nat} {ops : Array Oper} {Q : Env → MS → Prop} {rest : List Oper} {t : Nat} {e : Bool} {env : Env} {σ : MS} (hT : e = true → wOps P rd ops Q rest ((t, .bool true) :: env) σ) (hF : e = false → wOps P rd ops Q rest ((t, .bool false) :: env) σ) : wOps P rd ops Q rest (putd (some t) (.bool e) env) σ := by
 cases e
 ·exact hF rfl
 ·exact hT rfl
theorem _root_.zD0 : type_of% @wOps_case := @wOps_case
theorem dOps_case {P : Program} {rd : Option Nat} {ops : Array Oper} {eff : List Nat} {Ss : List MS} {Q : Env → Prop} {rest : List Oper} {i t : Nat} {e : Bool} {env : Env} (hT : e = true → dOps P rd ops eff Ss Q rest i ((t, .bool true) :: env)) (hF : e = false → dOps P rd ops eff Ss Q rest i ((t, .bool false) :: env)) : dOps P rd ops eff Ss Q rest i (putd (some t) (.bool e) env) := by
 cases e
 ·exact hF rfl
 ·exact hT rfl
theorem _root_.zF2 : type_of% @dOps_case := @dOps_case
theorem cl_flat {α : Type} {en : α → MV} {n : Nat} {l : List α} (h : ∀ a ∈ l, Cl n (en a)) (hc : ∀ a, en a = .agg (en a).cells ∨ [en a] = (en a).cells) : ∀ x ∈ flat (l.map en), Cl n x := by
 intro x hx
 obtain ⟨y, hy, hx⟩ := List.mem_flatMap.1 hx
 obtain ⟨a, ha, rfl⟩ := List.mem_map.1 hy
 rcases hc a with e | e
 ·have := h a ha
  rw [e] at this
  cases this with
  | agg _ h => exact h x hx
 ·rw [← e] at hx
  simp at hx
  subst hx
  exact h a ha
theorem cl_lst {α : Type} {en : α → MV} {n sz : Nat} {l : List α} (h : ∀ a, Cl n (en a)) (hc : ∀ a, en a = .agg (en a).cells ∨ [en a] = (en a).cells) : Cl n (.lst none sz (l.map en)) := .lst none sz _ (fun t ht => by cases ht) (cl_flat (fun a _ => h a) hc)
theorem cl_lstT {α : Type} {en : α → MV} {n sz t : Nat} {l : List α} (ht : t < n) (h : ∀ a, Cl n (en a)) (hc : ∀ a, en a = .agg (en a).cells ∨ [en a] = (en a).cells) : Cl n (.lst (some t) sz (l.map en)) := .lst _ sz _ (fun s hs => by injection hs with hs; omega) (cl_flat (fun a _ => h a) hc)
theorem get_map {α : Type} {en : α → MV} {l : List α} {i : Nat} {a : α} (h : l[i]? = some a) : (l.map en)[i]? = some (en a) := by rw [zN0, h]; rfl
theorem _root_.zR0 : type_of% @get_map := @get_map
end
abbrev Tk := Int × Int
def encT (t : Tk) : MV := .agg [.int .i64 t.1, .int .u64 t.2]
theorem encT_agg (t : Tk) : encT t = .agg (encT t).cells ∨ [encT t] = (encT t).cells := .inl rfl
theorem cl_encT (n : Nat) (t : Tk) : Cl n (encT t) := .agg _ fun x hx => by
 simp only [List.mem_cons, List.not_mem_nil, or_false] at hx
 rcases hx with rfl | rfl
 ·exact .int _ _
 ·exact .int _ _
theorem cl_clock (n : Nat) (c : List Tk) : Cl n (.lst none 2 (c.map encT)) := cl_lst (cl_encT n) encT_agg
def okAt (c : List Tk) (j : Nat) : Bool := match c[j]? with
 | none => true
 | some t => !decide (t.1 < 0) && !decide (1000000 < t.1) && !(t.2 == 0) && (j == 0 || (match c[j - 1]? with | some p => !decide (t.1 ≤ p.1) | none => true))
def isClockF (c : List Tk) : Bool := decide (∀ j, j < c.length → okAt c j = true) && decide (c.length ≤ 40)
theorem isClock_false {c : List Tk} {i : Nat} (hi : i < c.length) (h : okAt c i = false) : isClockF c = false := by
 unfold isClockF
 rw [Bool.and_eq_false_iff]
 left
 rw [decide_eq_false_iff_not]
 intro hc
 rw [hc i hi] at h
 cases h
theorem _root_.zL4 : type_of% @isClock_false := @isClock_false
theorem isClock_end {c : List Tk} (h : ∀ j, j < c.length → okAt c j = true) : isClockF c = decide ((c.length : Int) ≤ 40) := by
 unfold isClockF
 rw [decide_eq_true h, Bool.true_and]
 simp only [decide_eq_decide]
 omega
def ofF : List Tk → Int → Int
 | [], _ => 0
 | t :: c, w => if t.1 = w then t.2 else ofF c w
theorem of_drop {c : List Tk} {w : Int} : ∀ {i : Nat}, (∀ j, j < i → ∀ t, c[j]? = some t → t.1 ≠ w) → ofF (c.drop i) w = ofF c w := by
 induction c with
 | nil => intro i h; simp
 | cons t c ih =>
  intro i h
  cases i with
  | zero => rfl
  | succ i =>
   have h0 := h 0 (by omega) t rfl
   rw [List.drop_succ_cons, ofF, if_neg h0]
   exact ih fun j hj t ht => h (j + 1) (by omega) t ht
def mergeF {α : Type} (cmp : α → α → Int) (bo : α → α → α) : List α → List α → List α
 | [], b => b
 | a, [] => a
 | x :: a, y :: b => if cmp x y < 0 then x :: mergeF cmp bo a (y :: b) else if cmp x y > 0 then y :: mergeF cmp bo (x :: a) b else bo x y :: mergeF cmp bo a b
 termination_by a b => a.length + b.length
theorem merge_nil {α : Type} {cmp : α → α → Int} {bo : α → α → α} (a : List α) : mergeF cmp bo a [] = a := by
 cases a <;> simp [mergeF]
theorem nil_merge {α : Type} {cmp : α → α → Int} {bo : α → α → α} (a : List α) : mergeF cmp bo [] a = a := by simp [mergeF]
def cmpI (a b : Int) : Int := if a < b then -1 else if b < a then 1 else 0
def bothT (x y : Tk) : Tk := (x.1, if y.2 > x.2 then y.2 else x.2)
def joinF (a b : List Tk) : List Tk := mergeF (fun x y => cmpI x.1 y.1) bothT a b
theorem join_cons (x : Tk) (a : List Tk) (y : Tk) (b : List Tk) : joinF (x :: a) (y :: b) = if x.1 < y.1 then x :: joinF a (y :: b) else if y.1 < x.1 then y :: joinF (x :: a) b else bothT x y :: joinF a b := by
 unfold joinF
 rw [mergeF]
 unfold cmpI
 by_cases h1 : x.1 < y.1
 ·simp [h1]
 ·by_cases h2 : y.1 < x.1
  ·simp [h1, h2]
  ·simp [h1, h2]
theorem join_nil (a : List Tk) : joinF a [] = a := merge_nil a
theorem nil_join (a : List Tk) : joinF [] a = a := nil_merge a
def cmpF (a b : List Tk) : Int := if a = b then 0 else if joinF a b = b then -1 else if joinF a b = a then 1 else 2
def withF (w n : Int) : Bool → List Tk → List Tk
 | false, [] => [(w, n)]
 | true, [] => []
 | true, t :: c => t :: withF w n true c
 | false, t :: c => if w ≤ t.1 then (if t.1 = w then (w, if t.2 > n then t.2 else n) :: withF w n true c else (w, n) :: t :: withF w n true c) else t :: withF w n false c
theorem with_true (w n : Int) : ∀ c, withF w n true c = c
 | [] => rfl
 | t :: c => by rw [withF, with_true w n c]
theorem with_len (w n : Int) : ∀ b c, (withF w n b c).length ≤ c.length + 1
 | true, c => by rw [with_true]; omega
 | false, [] => by simp [withF]
 | false, t :: c => by
  have := with_len w n false c
  rw [withF, with_true]
  split
  ·split <;> simp
  ·simp only [zW]; omega
def rwith (c : List Tk) (w n : Int) : List Tk := withF w n (n == 0) c
def rjoinF (a b : List Tk) : List Tk := b.foldl (fun c t => rwith c t.1 t.2) a
theorem rwith_len (c : List Tk) (w n : Int) : (rwith c w n).length ≤ c.length + 1 := with_len w n _ c
def underF (a b : List Tk) : Bool := a.all fun t => !decide (t.2 > ofF b t.1)
def rcmpF (a b : List Tk) : Int := if underF a b = true then (if underF b a = true then 0 else -1) else if underF b a = true then 1 else 2
def Up (c : List Tk) : Prop := c.Pairwise fun x y => x.1 < y.1
def Pos (c : List Tk) : Prop := ∀ t ∈ c, 0 < t.2 ∧ t.2 < 18446744073709551616
theorem of_pos {c : List Tk} (h : Pos c) (w : Int) : 0 ≤ ofF c w ∧ ofF c w < 18446744073709551616 := by
 induction c with
 | nil => simp [ofF]
 | cons t c ih =>
  rw [ofF]
  split
  ·have := h t (zM0 ..); omega
  ·exact ih fun t ht => h t (zI0 _ ht)
theorem of_absent {c : List Tk} {w : Int} (h : ∀ t ∈ c, t.1 ≠ w) : ofF c w = 0 := by
 induction c with
 | nil => rfl
 | cons t c ih =>
  rw [ofF, if_neg (h t (zM0 ..))]
  exact ih fun t ht => h t (zI0 _ ht)
theorem of_mem {c : List Tk} (hs : Up c) {t : Tk} (h : t ∈ c) : ofF c t.1 = t.2 := by
 induction c with
 | nil => cases h
 | cons s c ih =>
  have hs' := zI1.1 hs
  rcases List.mem_cons.1 h with rfl | h
  ·rw [ofF, if_pos rfl]
  ·have := hs'.1 t h
   rw [ofF, if_neg (by omega)]
   exact ih hs'.2 h
theorem of_low {c : List Tk} {w : Int} {x : Tk} (hs : Up (x :: c)) (h : w ≤ x.1) : ofF c w = 0 :=
 of_absent fun t ht => by have := (zI1.1 hs).1 t ht; omega
theorem clock_ext {a : List Tk} : ∀ {b : List Tk}, Up a → Up b → Pos a → Pos b → (∀ w, ofF a w = ofF b w) → a = b := by
 induction a with
 | nil =>
  intro b _ _ _ pb h
  cases b with
  | nil => rfl
  | cons t b =>
   have := h t.1
   rw [ofF, ofF, if_pos rfl] at this
   have := pb t (zM0 ..)
   omega
 | cons s a ih =>
  intro b ha hb pa pb h
  cases b with
  | nil =>
   have := h s.1
   rw [ofF, ofF, if_pos rfl] at this
   have := pa s (zM0 ..)
   omega
  | cons t b =>
   have ps := pa s (zM0 ..)
   have pt := pb t (zM0 ..)
   have e1 : s.1 = t.1 := by
    rcases Int.lt_trichotomy s.1 t.1 with hlt | heq | hgt
    ·have h1 := h s.1
     rw [ofF, if_pos rfl, ofF, if_neg (by omega), of_low hb (by omega)] at h1
     omega
    ·exact heq
    ·have h1 := h t.1
     rw [ofF, if_neg (by omega), of_low ha (by omega), ofF, if_pos rfl] at h1
     omega
   have e2 : s.2 = t.2 := by
    have h1 := h s.1
    rw [ofF, if_pos rfl, ofF, if_pos e1.symm] at h1
    exact h1
   have e : s = t := Prod.ext e1 e2
   subst e
   congr 1
   refine ih (zI1.1 ha).2 (zI1.1 hb).2 (fun t ht => pa t (zI0 _ ht)) (fun t ht => pb t (zI0 _ ht)) fun w => ?_
   by_cases hw : s.1 = w
   ·rw [of_low ha (by omega), of_low hb (by omega)]
   ·have h1 := h w
    rw [ofF, if_neg hw, ofF, if_neg hw] at h1
    exact h1
theorem join_mem : ∀ (n : Nat) {a b : List Tk}, a.length + b.length ≤ n → ∀ t ∈ joinF a b, (∃ s ∈ a, s.1 = t.1) ∨ ∃ s ∈ b, s.1 = t.1 := by
 intro n
 induction n with
 | zero =>
  intro a b h t ht
  cases a <;> cases b <;> simp_all [joinF, mergeF]
 | succ n ih =>
  intro a b h t ht
  cases a with
  | nil => rw [nil_join] at ht; exact .inr ⟨t, ht, rfl⟩
  | cons x a =>
   cases b with
   | nil => rw [join_nil] at ht; exact .inl ⟨t, ht, rfl⟩
   | cons y b =>
    simp only [zW] at h
    rw [join_cons] at ht
    split at ht
    ·rcases List.mem_cons.1 ht with rfl | ht
     ·exact .inl ⟨_, zM0 .., rfl⟩
     ·rcases ih (by simp only [zW]; omega) t ht with ⟨s, h1, h2⟩ | ⟨s, h1, h2⟩
      ·exact .inl ⟨s, zI0 _ h1, h2⟩
      ·exact .inr ⟨s, h1, h2⟩
    ·split at ht
     ·rcases List.mem_cons.1 ht with rfl | ht
      ·exact .inr ⟨_, zM0 .., rfl⟩
      ·rcases ih (by simp only [zW]; omega) t ht with ⟨s, h1, h2⟩ | ⟨s, h1, h2⟩
       ·exact .inl ⟨s, h1, h2⟩
       ·exact .inr ⟨s, zI0 _ h1, h2⟩
     ·rcases List.mem_cons.1 ht with rfl | ht
      ·exact .inl ⟨_, zM0 .., rfl⟩
      ·rcases ih (by omega) t ht with ⟨s, h1, h2⟩ | ⟨s, h1, h2⟩
       ·exact .inl ⟨s, zI0 _ h1, h2⟩
       ·exact .inr ⟨s, zI0 _ h1, h2⟩
theorem join_laws : ∀ (n : Nat) {a b : List Tk}, a.length + b.length ≤ n → Up a → Up b → Pos a → Pos b → Up (joinF a b) ∧ Pos (joinF a b) ∧ ∀ w, ofF (joinF a b) w = max (ofF a w) (ofF b w) := by
 intro n
 induction n with
 | zero =>
  intro a b h ha hb pa pb
  cases a <;> cases b <;> simp_all [joinF, mergeF, ofF]
 | succ n ih =>
  intro a b h ha hb pa pb
  cases a with
  | nil =>
   rw [nil_join]
   refine ⟨hb, pb, fun w => ?_⟩
   have := of_pos pb w
   simp only [ofF]
   omega
  | cons x a =>
   cases b with
   | nil =>
    rw [join_nil]
    refine ⟨ha, pa, fun w => ?_⟩
    have := of_pos pa w
    simp only [ofF] at *
    omega
   | cons y b =>
    simp only [zW] at h
    have ha' := zI1.1 ha
    have hb' := zI1.1 hb
    have pa' : Pos a := fun t ht => pa t (zI0 _ ht)
    have pb' : Pos b := fun t ht => pb t (zI0 _ ht)
    have px := pa x (zM0 ..)
    have py := pb y (zM0 ..)
    rw [join_cons]
    split
    ·rename_i hlt
     obtain ⟨h1, h2, h3⟩ := ih (a := a) (b := y :: b) (by simp only [zW]; omega) ha'.2 hb pa' pb
     refine ⟨zI1.2 ⟨fun t ht => ?_, h1⟩, fun t ht => ?_, fun w => ?_⟩
     ·rcases join_mem _ (Nat.le_refl _) t ht with ⟨s, hs, e⟩ | ⟨s, hs, e⟩
      ·have := ha'.1 s hs; omega
      ·rcases List.mem_cons.1 hs with rfl | hs
       ·omega
       ·have := hb'.1 s hs; omega
     ·rcases List.mem_cons.1 ht with rfl | ht
      ·exact px
      ·exact h2 t ht
     ·rw [ofF]
      split
      ·rename_i hw
       rw [ofF, if_pos hw]
       have : ofF (y :: b) w = 0 := of_absent fun t ht => by
        rcases List.mem_cons.1 ht with rfl | ht
        ·omega
        ·have := hb'.1 t ht; omega
       omega
      ·rename_i hw
       have e : ofF (x :: a) w = ofF a w := by rw [ofF, if_neg hw]
       rw [h3, e]
    ·split
     ·rename_i hnl hlt
      obtain ⟨h1, h2, h3⟩ := ih (a := x :: a) (b := b) (by simp only [zW]; omega) ha hb'.2 pa pb'
      refine ⟨zI1.2 ⟨fun t ht => ?_, h1⟩, fun t ht => ?_, fun w => ?_⟩
      ·rcases join_mem _ (Nat.le_refl _) t ht with ⟨s, hs, e⟩ | ⟨s, hs, e⟩
       ·rcases List.mem_cons.1 hs with rfl | hs
        ·omega
        ·have := ha'.1 s hs; omega
       ·have := hb'.1 s hs; omega
      ·rcases List.mem_cons.1 ht with rfl | ht
       ·exact py
       ·exact h2 t ht
      ·rw [ofF]
       split
       ·rename_i hw
        have e : ofF (y :: b) w = y.2 := by rw [ofF, if_pos hw]
        have : ofF (x :: a) w = 0 := of_absent fun t ht => by
         rcases List.mem_cons.1 ht with rfl | ht
         ·omega
         ·have := ha'.1 t ht; omega
        omega
       ·rename_i hw
        have e : ofF (y :: b) w = ofF b w := by rw [ofF, if_neg hw]
        rw [h3, e]
     ·rename_i hn1 hn2
      have exy : x.1 = y.1 := by omega
      obtain ⟨h1, h2, h3⟩ := ih (a := a) (b := b) (by omega) ha'.2 hb'.2 pa' pb'
      refine ⟨zI1.2 ⟨fun t ht => ?_, h1⟩, fun t ht => ?_, fun w => ?_⟩
      ·show x.1 < t.1
       rcases join_mem _ (Nat.le_refl _) t ht with ⟨s, hs, e⟩ | ⟨s, hs, e⟩
       ·have := ha'.1 s hs; omega
       ·have := hb'.1 s hs; omega
      ·rcases List.mem_cons.1 ht with rfl | ht
       ·simp only [bothT]; split <;> omega
       ·exact h2 t ht
      ·by_cases hw : x.1 = w
       ·have e1 : ofF (x :: a) w = x.2 := by rw [ofF, if_pos hw]
        have e2 : ofF (y :: b) w = y.2 := by rw [ofF, if_pos (by omega)]
        rw [e1, e2, ofF, if_pos (show (bothT x y).1 = w from hw)]
        simp only [bothT]
        split <;> omega
       ·have e1 : ofF (x :: a) w = ofF a w := by rw [ofF, if_neg hw]
        have e2 : ofF (y :: b) w = ofF b w := by rw [ofF, if_neg (by omega)]
        rw [e1, e2, ofF, if_neg (show ¬ (bothT x y).1 = w from hw), h3]
theorem with_laws {w n : Int} (hn : 0 < n ∧ n < 18446744073709551616) : ∀ {c : List Tk}, Up c → Pos c → Up (withF w n false c) ∧ Pos (withF w n false c) ∧ (∀ t ∈ withF w n false c, t.1 = w ∨ ∃ s ∈ c, s.1 = t.1) ∧ ∀ v, ofF (withF w n false c) v = if v = w then max (ofF c w) n else ofF c v
 | [], _, _ => by
  refine ⟨by simp [withF, Up], fun t ht => by simp [withF] at ht; subst ht; exact hn, fun t ht => by simp [withF] at ht; subst ht; exact .inl rfl, fun v => ?_⟩
  simp only [withF, ofF]
  by_cases h : v = w
  ·subst h; simp only [if_true]; omega
  ·rw [if_neg (fun e => h e.symm), if_neg h]
 | t :: c, hs, hp => by
  have hs' := zI1.1 hs
  have hp' : Pos c := fun t ht => hp t (zI0 _ ht)
  have pt := hp t (zM0 ..)
  rw [withF, with_true]
  split
  ·rename_i hle
   split
   ·rename_i e
    refine ⟨zI1.2 ⟨fun s hs => by have := hs'.1 s hs; show w < s.1; omega, hs'.2⟩, fun s hs => ?_, fun s hs => ?_, fun v => ?_⟩
    ·rcases List.mem_cons.1 hs with rfl | hs
     ·dsimp only; split <;> omega
     ·exact hp' s hs
    ·rcases List.mem_cons.1 hs with rfl | hs
     ·exact .inl rfl
     ·exact .inr ⟨s, zI0 _ hs, rfl⟩
    ·have e0 : ofF (t :: c) w = t.2 := by rw [ofF, if_pos e]
     by_cases h : v = w
     ·subst h
      rw [ofF, if_pos rfl, if_pos rfl, e0]
      dsimp only
      split <;> omega
     ·rw [ofF, if_neg (fun e => h e.symm), if_neg h, ofF, if_neg (by omega)]
   ·rename_i hne
    refine ⟨zI1.2 ⟨fun s hs => ?_, hs⟩, fun s hs => ?_, fun s hs => ?_, fun v => ?_⟩
    ·show w < s.1
     rcases List.mem_cons.1 hs with rfl | hs
     ·omega
     ·have := hs'.1 s hs; omega
    ·rcases List.mem_cons.1 hs with rfl | hs
     ·exact hn
     ·exact hp s hs
    ·rcases List.mem_cons.1 hs with rfl | hs
     ·exact .inl rfl
     ·exact .inr ⟨s, hs, rfl⟩
    ·have e0 : ofF (t :: c) w = 0 := of_absent fun s hs => by
      rcases List.mem_cons.1 hs with rfl | hs
      ·omega
      ·have := hs'.1 s hs; omega
     by_cases h : v = w
     ·subst h
      rw [ofF, if_pos rfl, if_pos rfl, e0]
      omega
     ·rw [ofF, if_neg (fun e => h e.symm), if_neg h]
  ·rename_i hlt
   obtain ⟨h1, h2, h3, h4⟩ := with_laws (w := w) hn hs'.2 hp'
   refine ⟨zI1.2 ⟨fun s hs => ?_, h1⟩, fun s hs => ?_, fun s hs => ?_, fun v => ?_⟩
   ·rcases h3 s hs with e | ⟨r, hr, e⟩
    ·omega
    ·have := hs'.1 r hr; omega
   ·rcases List.mem_cons.1 hs with rfl | hs
    ·exact pt
    ·exact h2 s hs
   ·rcases List.mem_cons.1 hs with rfl | hs
    ·exact .inr ⟨_, zM0 .., rfl⟩
    ·rcases h3 s hs with e | ⟨r, hr, e⟩
     ·exact .inl e
     ·exact .inr ⟨r, zI0 _ hr, e⟩
   ·have e0 : ofF (t :: c) w = ofF c w := by rw [ofF, if_neg (by omega)]
    by_cases h : v = w
    ·subst h
     rw [ofF, if_neg (by omega), h4, if_pos rfl, if_pos rfl, e0]
    ·rw [ofF, if_neg h, h4, if_neg h, ofF]
theorem rwith_laws {c : List Tk} {w n : Int} (hn : 0 ≤ n ∧ n < 18446744073709551616) (hs : Up c) (hp : Pos c) : Up (rwith c w n) ∧ Pos (rwith c w n) ∧ ∀ v, ofF (rwith c w n) v = if v = w then max (ofF c w) n else ofF c v := by
 unfold rwith
 by_cases h : n = 0
 ·subst h
  simp only [beq_self_eq_true, with_true]
  refine ⟨hs, hp, fun v => ?_⟩
  have := of_pos hp w
  split
  ·rename_i e; subst e; omega
  ·rfl
 ·have : (n == 0) = false := by simpa using h
  rw [this]
  obtain ⟨h1, h2, _, h4⟩ := with_laws (w := w) (n := n) (by omega) hs hp
  exact ⟨h1, h2, h4⟩
theorem rjoin_laws {a : List Tk} : ∀ {b : List Tk}, Up a → Pos a → Up b → Pos b → Up (rjoinF a b) ∧ Pos (rjoinF a b) ∧ ∀ w, ofF (rjoinF a b) w = max (ofF a w) (ofF b w) := by
 intro b
 induction b generalizing a with
 | nil =>
  intro ha pa _ _
  refine ⟨ha, pa, fun w => ?_⟩
  have := of_pos pa w
  simp only [rjoinF, List.foldl_nil, ofF]
  omega
 | cons t b ih =>
  intro ha pa hb pb
  have pt := pb t (zM0 ..)
  have hb' := zI1.1 hb
  obtain ⟨h1, h2, h3⟩ := rwith_laws (w := t.1) (n := t.2) (by omega) ha pa
  obtain ⟨k1, k2, k3⟩ := ih h1 h2 hb'.2 (fun s hs => pb s (zI0 _ hs))
  refine ⟨k1, k2, fun w => ?_⟩
  show ofF (rjoinF (rwith a t.1 t.2) b) w = _
  rw [k3, h3]
  by_cases hw : t.1 = w
  ·have e1 : ofF (t :: b) w = t.2 := by rw [ofF, if_pos hw]
   have e2 : ofF b w = 0 := of_low hb (by omega)
   have := of_pos pa w
   rw [if_pos hw.symm, hw, e1, e2]
   omega
  ·rw [if_neg (fun e => hw e.symm), ofF, if_neg hw]
theorem okAt_spec {c : List Tk} (h : ∀ j, j < c.length → okAt c j = true) (hu : ∀ t ∈ c, 0 ≤ t.2 ∧ t.2 < 18446744073709551616) : Up c ∧ Pos c := by
 refine ⟨?_, fun t ht => ?_⟩
 ·have hadj : ∀ j, (hj : j + 1 < c.length) → (c[j]'(by omega)).1 < (c[j + 1]).1 := by
   intro j hj
   have := h (j + 1) hj
   unfold okAt at this
   rw [zD hj] at this
   simp only [Nat.add_sub_cancel, zD (show j < c.length by omega)] at this
   simp only [Bool.and_eq_true, Bool.or_eq_true, Bool.not_eq_true', decide_eq_false_iff_not] at this
   rcases this.2 with h0 | h0
   ·simp at h0
   ·omega
  unfold Up
  rw [List.pairwise_iff_getElem]
  intro i j hi hj hij
  obtain ⟨d, rfl⟩ : ∃ d, j = i + d + 1 := ⟨j - i - 1, by omega⟩
  clear hij
  induction d with
  | zero => exact hadj i hj
  | succ d ih => exact Int.lt_trans (ih (by omega)) (hadj (i + d + 1) hj)
 ·obtain ⟨j, hj⟩ := List.getElem?_of_mem ht
  have hlt := (zH.1 hj).1
  have := h j hlt
  unfold okAt at this
  rw [hj] at this
  simp only [Bool.and_eq_true, Bool.not_eq_true', beq_eq_false_iff_ne] at this
  have h2 := hu t ht
  have h3 := this.1.2
  omega
theorem isClock_spec {c : List Tk} (h : isClockF c = true) (hu : ∀ t ∈ c, 0 ≤ t.2 ∧ t.2 < 18446744073709551616) : Up c ∧ Pos c ∧ c.length ≤ 40 := by
 unfold isClockF at h
 simp only [Bool.and_eq_true, decide_eq_true_eq] at h
 exact ⟨(okAt_spec h.1 hu).1, (okAt_spec h.1 hu).2, h.2⟩
theorem join_eq {a b : List Tk} (ha : Up a) (hb : Up b) (pa : Pos a) (pb : Pos b) : joinF a b = rjoinF a b := by
 obtain ⟨h1, h2, h3⟩ := join_laws _ (Nat.le_refl _) ha hb pa pb
 obtain ⟨k1, k2, k3⟩ := rjoin_laws ha pa hb pb
 exact clock_ext h1 k1 h2 k2 fun w => by rw [h3, k3]
theorem under_iff {a b : List Tk} (ha : Up a) (pb : Pos b) : underF a b = true ↔ ∀ w, ofF a w ≤ ofF b w := by
 unfold underF
 simp only [List.all_eq_true, Bool.not_eq_true', decide_eq_false_iff_not]
 constructor
 ·intro h w
  by_cases hw : ∃ t ∈ a, t.1 = w
  ·obtain ⟨t, ht, rfl⟩ := hw
   have := h t ht
   rw [of_mem ha ht]
   omega
  ·rw [of_absent fun t ht e => hw ⟨t, ht, e⟩]
   exact (of_pos pb w).1
 ·intro h t ht
  have := h t.1
  rw [of_mem ha ht] at this
  omega
theorem cmp_eq {a b : List Tk} (ha : Up a) (hb : Up b) (pa : Pos a) (pb : Pos b) : cmpF a b = rcmpF a b := by
 obtain ⟨h1, h2, h3⟩ := join_laws _ (Nat.le_refl _) ha hb pa pb
 have e1 : joinF a b = b ↔ underF a b = true := by
  rw [under_iff ha pb]
  constructor
  ·intro e w
   have := h3 w
   rw [e] at this
   omega
  ·intro h
   exact clock_ext h1 hb h2 pb fun w => by rw [h3]; have := h w; omega
 have e2 : joinF a b = a ↔ underF b a = true := by
  rw [under_iff hb pa]
  constructor
  ·intro e w
   have := h3 w
   rw [e] at this
   omega
  ·intro h
   exact clock_ext h1 ha h2 pa fun w => by rw [h3]; have := h w; omega
 have e3 : a = b ↔ underF a b = true ∧ underF b a = true := by
  rw [under_iff ha pb, under_iff hb pa]
  constructor
  ·rintro rfl
   exact ⟨fun w => Int.le_refl _, fun w => Int.le_refl _⟩
  ·rintro ⟨x, y⟩
   exact clock_ext ha hb pa pb fun w => Int.le_antisymm (x w) (y w)
 unfold cmpF rcmpF
 by_cases x : underF a b = true <;> by_cases y : underF b a = true
 ·rw [if_pos (e3.2 ⟨x, y⟩), if_pos x, if_pos y]
 ·rw [if_neg (fun e => y (e3.1 e).2), if_pos (e1.2 x), if_pos x, if_neg y]
 ·rw [if_neg (fun e => x (e3.1 e).1), if_neg (fun e => x (e1.1 e)), if_pos (e2.2 y), if_neg x, if_pos y]
 ·rw [if_neg (fun e => x (e3.1 e).1), if_neg (fun e => x (e1.1 e)), if_neg (fun e => y (e2.1 e)), if_neg x, if_neg y]
section
section
variable {P : Program} {rd : Option Nat} {o : Oper} {env : Env} {σ S L : MS} {K : MV → MS → Prop}
end
section
variable {P : Program} {fn : Func} {S S' L : MS} {R : MV → MS → Prop} {env : Env}
theorem ret_tmpS {e : Exit} {t : Nat} {x y : MV} (he : e = .normal ∨ e = .ret) (hres : fn.results = #[.tmp t]) (hx : get env t = some x) (hs : Sub x y) (hc : Cl S'.length y) (hl : S.length ≤ S'.length) (hS : ClS S') (hR : R y S') : BodyQ P fn S R e env (S' ++ L) := by
 refine ⟨he, [x], y, S', L, ?_, hs, hc, rfl, hl, .inr hS, hR⟩
 rw [hres]
 exact .tmp hx .nil
theorem _root_.zK5 : type_of% @ret_tmpS := @ret_tmpS
theorem ret_noneS {e : Exit} (he : e = .normal ∨ e = .ret) (hres : fn.results = #[]) (hl : S.length ≤ S'.length) (hS : ClS S') (hR : R (.tup []) S') : BodyQ P fn S R e env (S' ++ L) := by
 refine ⟨he, [], .tup [], S', L, ?_, .refl _, .tup _ (by simp), rfl, hl, .inr hS, hR⟩
 rw [hres]
 exact .nil
theorem _root_.zR3 : type_of% @ret_noneS := @ret_noneS
end
theorem ClS.set {S : MS} (h : ClS S) {id : Nat} {o : MObj} (ho : o.cl S.length) : ClS (S.set id o) := by
 intro i p hp
 rw [List.length_set]
 rw [List.getElem?_set] at hp
 split at hp
 ·split at hp
  ·injection hp with hp
   subst hp
   exact ho
  ·cases hp
 ·exact h i p hp
theorem get_app {S L : MS} {id : Nat} {o : MObj} (h : S[id]? = some o) : (S ++ L)[id]? = some o := by
 rw [List.getElem?_append_left (zH.1 h).1]
 exact h
theorem _root_.zT0 : type_of% @get_app := @get_app
theorem set_app {S L : MS} {id : Nat} {o p : MObj} (h : S[id]? = some o) : (S ++ L).set id p = S.set id p ++ L := List.set_append_left _ _ (zH.1 h).1
end
section
def YStep (P : Program) (id : Nat) (xs : List MV) (S : MS) (b : Bool) (S' : MS) : Prop :=
 ∀ (L : MS) (rd : Option Nat) (o : Oper) (env : Env) (f : Operand) (args : Array Operand) (ts : Array TypeId), o.op = .call { callee := .value f, args := args, argTypes := ts } → evo env f = some (.yld id) → evos env args.toList = some xs →
  OpWp P rd o env (S ++ L) (fun v σ' => v = .bool b ∧ σ' = S' ++ L)
def IterOk (P : Program) (k : FuncId) (first caps : List MV) (ys : List (List MV)) (ok : MS → Prop) : Prop :=
 ∀ (id : Nat) (T : Nat → MS) (m : Nat), (∀ j, ok (T j)) → (∀ j y, j < m → ys[j]? = some y → YStep P id y (T j) true (T (j + 1))) →
  (m = ys.length → MCalls P k (first ++ [.yld id] ++ caps) (T 0) fun _ σ' => σ' = T m) ∧
  (∀ y, ys[m]? = some y → YStep P id y (T m) false (T (m + 1)) → MCalls P k (first ++ [.yld id] ++ caps) (T 0) fun _ σ' => σ' = T (m + 1))
theorem get_mid {A B : MS} {o : MObj} : (A ++ o :: B)[A.length]? = some o := by
 rw [List.getElem?_append_right (Nat.le_refl _), Nat.sub_self]; rfl
theorem _root_.zS4 : type_of% @get_mid := @get_mid
theorem set_mid {A B : MS} {o p : MObj} : (A ++ o :: B).set A.length p = A ++ p :: B := by
 rw [List.set_append_right _ _ (Nat.le_refl _), Nat.sub_self]; rfl
theorem _root_.zD6 : type_of% @set_mid := @set_mid
section
variable {P : Program} {rd : Option Nat} {N n : Nat} {Q : Exit → Env → MS → Prop} {env : Env} {S : MS}
end
end
section
theorem Rel.recell {g : Gh} {σ : MS} {w : World} (h : Rel g σ w) {id : Nat} {l l' : List MV} (hσ : σ[id]? = some (.cells l)) (hl : ∀ us, Rds g w l us → Rds g w l' us) : Rel g (σ.set id (.cells l')) w := by
 have hlt := (zH.1 hσ).1
 refine ⟨h.below, h.base, h.fresh, fun i hi => h.bkn i (by simpa using hi), fun t n ht => h.lgn t n (by simpa using ht), ?_⟩
 obtain ⟨own, ho⟩ := h.ex
 refine ⟨own, ⟨fun i o hi => ?_, ho.inj, fun i b hi => by have := ho.lt i b hi; exact ⟨by simpa using this.1, this.2⟩⟩⟩
 rw [List.getElem?_set] at hi
 split at hi
 ·rename_i e
  subst e
  injection hi with hi
  subst hi
  obtain ⟨b, us, ty, h1, h2, h3, h4, h5⟩ := ho.obj _ _ hσ
  exact ⟨b, us, ty, h1, h2, h3, h4, hl us h5⟩
 ·exact ho.obj i o hi
section
variable {P : Program} {rd : Option Nat} {N n : Nat} {c : Code} {Q : Exit → Env → MS → Prop} {env : Env} {S L : MS}
theorem mwp_cellrow {L' : MS} (k ty sz : Nat) {m : Nat} (hk : L[k]? = some (.cells [.lst0])) (hN : N ≤ S.length) (hm : L.length = m) (hL : L.set k (.cells [.lst (some (S.length + m)) sz []]) ++ [.row ty sz 0] = L') (h : mwp P rd N n c Q env (S ++ L')) : mwp P rd N n c Q env (S ++ L) := by
 subst hm hL
 refine zO5 (fun g w tmps hr he => ?_) h
 obtain ⟨r1, l1, d1⟩ := tok_new hr ty sz
 have hlen : (S ++ L).length = S.length + L.length := zM
 refine ⟨_, ?_, he.mono l1, l1.toN N, fun F hF => hF.mono (l1.toN N)⟩
 have hlt := (zH.1 hk).1
 have e : S ++ (L.set k (.cells [.lst (some (S.length + L.length)) sz []]) ++ [.row ty sz 0]) = ((S ++ L) ++ [MObj.row ty sz 0]).set (S.length + k) (.cells [.lst (some (S.length + L.length)) sz []]) := by
  rw [zZ, zE3, List.set_append_left _ _ hlt]
 rw [e]
 refine r1.recell (l := [.lst0]) (by rw [zZ, getElem?_own, List.getElem?_append_left hlt]; exact hk) fun us hus => ?_
 obtain ⟨u, us', rfl, h1, h2⟩ := hus.uncons
 refine .cons ?_ ?_
 ·rw [h1.inv_lst0, ← hlen]; exact d1
 ·cases us' with
  | nil => exact .nil _ _
  | cons _ _ => have := h2.1; simp at this
theorem YStep.at0 {id : Nat} {xs : List MV} {S S' : MS} {b : Bool} (h : YStep P id xs S b S') {o : Oper} {f : Operand} {args : Array Operand} {ts : Array TypeId} (ho : o.op = .call { callee := .value f, args := args, argTypes := ts }) (hf : evo env f = some (.yld id)) (hx : evos env args.toList = some xs) : OpWp P rd o env S (fun v σ' => v = .bool b ∧ σ' = S') := by
 have := h [] rd o env f args ts ho hf hx
 simpa using this
end
section
variable {P : Program} {fn : Func} {S S' L : MS} {R : MV → MS → Prop} {env : Env}
theorem ret_noneT {e : Exit} (he : e = .normal ∨ e = .ret) (hres : fn.results = #[]) (hl : S.length ≤ S'.length) (hS : ClS S') (hR : R (.tup []) S') : BodyQ P fn S R e env S' := by
 have := zR3 (P := P) (env := env) (L := []) he hres hl hS hR
 rwa [List.append_nil] at this
theorem _root_.zS2 : type_of% @ret_noneT := @ret_noneT
theorem ret_tmpT {e : Exit} {t : Nat} {x y : MV} (he : e = .normal ∨ e = .ret) (hres : fn.results = #[.tmp t]) (hx : get env t = some x) (hs : Sub x y) (hc : Cl S'.length y) (hl : S.length ≤ S'.length) (hS : ClS S') (hR : R y S') : BodyQ P fn S R e env S' := by
 have := zK5 (P := P) (env := env) (L := []) he hres hx hs hc hl hS hR
 rwa [List.append_nil] at this
end
section
variable {P : Program} {rd : Option Nat} {o : Oper} {env : Env} {S L L' R : MS} {K : MV → MS → Prop}
theorem get_mid_ {k : Nat} {ob : MObj} (h : L[k]? = some ob) : ((S ++ L) ++ R)[S.length + k]? = some ob := by
 rw [zZ, getElem?_own]
 exact zT0 h
theorem set_mid_ {k : Nat} {ob p : MObj} (h : L[k]? = some ob) : ((S ++ L) ++ R).set (S.length + k) p = (S ++ L.set k p) ++ R := by
 rw [zZ, zE3, set_app h, zZ]
theorem op_load_mid {t : TypeId} {x : Operand} {k off : Nat} {l : List MV} {ta : Option Nat} {m : MV} (ho : o.op = .load t x) (hx : evo env x = some (.ref (S.length + k) off)) (hσ : L[k]? = some (.cells l)) (ht : tyAgg P t = some ta) (hm : loadMV ta l off = some m) (h : K m ((S ++ L) ++ R)) : OpWp P rd o env ((S ++ L) ++ R) K :=
 zR ho hx (get_mid_ hσ) ht hm h
theorem op_store_mid {t : TypeId} {x y : Operand} {i off : Nat} {l : List MV} {m : MV} {k : Nat} (ho : o.op = .store t x y) (hx : evo env x = some (.ref (S.length + i) off)) (hy : evo env y = some m) (hσ : L[i]? = some (.cells l)) (hk : szOf P t = some k) (hm : m.cells.length = k)
  (h1 : m.cells.all MV.one = true) (hle : off + k ≤ l.length) (hL : L.set i (.cells (setMany l off m.cells)) = L') (h : K (.tup []) ((S ++ L') ++ R)) : OpWp P rd o env ((S ++ L) ++ R) K :=
 zR4 ho hx hy (get_mid_ hσ) hk hm h1 hle (by rw [set_mid_ hσ, hL]; exact h)
theorem _root_.zP5 : type_of% @op_store_mid := @op_store_mid
theorem op_append_mid {t e sz bytes k n : Nat} {x y : Operand} {tok : Option Nat} {xs ys : List MV} (ho : o.op = .call { callee := .builtin .append, args := #[x, y], argTypes := #[t, t] }) (hu : P.underlying t = some (.slice e)) (he : elemOk P e sz bytes = true)
  (hx : evo env x = some (.lst (some (S.length + k)) sz xs)) (hy : evo env y = some (.lst tok sz ys)) (hσ : L[k]? = some (.row e sz n)) (hn : xs.length = n) (hb : (n + ys.length) * bytes ≤ 140737488355328) (hml : n + ys.length ≤ 4611686018427387904)
  (hL : L.set k (.row e sz (n + ys.length)) = L') (hK : K (.lst (some (S.length + k)) sz (xs ++ ys)) ((S ++ L') ++ R)) : OpWp P rd o env ((S ++ L) ++ R) K :=
 op_append ho hu he hx hy (get_mid_ hσ) hn hb hml (by rw [set_mid_ hσ, hL]; exact hK)
end
end
def encX (s : Bs) : MV := .str (bs s)
theorem cl_encX (n : Nat) (s : Bs) : Cl n (encX s) := .str _
theorem encX_one (s : Bs) : encX s = .agg (encX s).cells ∨ [encX s] = (encX s).cells := .inr rfl
theorem cl_texts (n : Nat) (l : List Bs) : Cl n (.lst none 1 (l.map encX)) := cl_lst (cl_encX n) encX_one
theorem _root_.zW4 : type_of% @cl_texts := @cl_texts
def encC (c : List Tk) : MV := .lst none 2 (c.map encT)
theorem cl_encC (n : Nat) (c : List Tk) : Cl n (encC c) := cl_clock n c
theorem encC_one (c : List Tk) : encC c = .agg (encC c).cells ∨ [encC c] = (encC c).cells := .inr rfl
theorem cl_clocks (n : Nat) (l : List (List Tk)) : Cl n (.lst none 1 (l.map encC)) := cl_lst (cl_encC n) encC_one
inductive Val where
 | mk (n m : Int) (s : List Bs) (c : List (List Tk)) (v : List Val)
 deriving Inhabited
noncomputable instance : DecidableEq Val := fun a b => Classical.propDecidable (a = b)
mutual
def encV : Val → MV
 | .mk n m s c v => .agg [.int .u64 n, .int .u64 m, .lst none 1 (s.map encX), .lst none 1 (c.map encC), .lst none 5 (encVs v)]
def encVs : List Val → List MV
 | [] => []
 | x :: l => encV x :: encVs l
end
theorem encVs_eq : ∀ l : List Val, encVs l = l.map encV
 | [] => by simp [encVs]
 | x :: l => by simp [encVs, encVs_eq l]
theorem _root_.zY3 : type_of% @encVs_eq := @encVs_eq
theorem encVs_length (l : List Val) : (encVs l).length = l.length := by rw [zY3, zC]
theorem _root_.zO : type_of% @encVs_length := @encVs_length
theorem encVs_get {l : List Val} {i : Nat} {s : Val} (h : l[i]? = some s) : (encVs l)[i]? = some (encV s) := by rw [zY3, zN0, h]; rfl
theorem _root_.zN1 : type_of% @encVs_get := @encVs_get
theorem encVs_append (a b : List Val) : encVs (a ++ b) = encVs a ++ encVs b := by simp [zY3]
theorem encV_cells (x : Val) : (encV x).cells.length = 5 := by cases x; rfl
theorem _root_.zU2 : type_of% @encV_cells := @encV_cells
theorem encV_one (x : Val) : (encV x).cells.all MV.one = true := by cases x; rfl
mutual
theorem cl_encV (k : Nat) : ∀ x : Val, Cl k (encV x)
 | .mk n m s c v => by
  refine .agg _ fun x hx => ?_
  simp only [encV, List.mem_cons, List.not_mem_nil, or_false] at hx
  rcases hx with rfl | rfl | rfl | rfl | rfl
  ·exact .int _ _
  ·exact .int _ _
  ·exact zW4 k s
  ·exact cl_clocks k c
  ·exact .lst none 5 _ (fun t ht => by cases ht) (cl_encVs k v)
theorem cl_encVs (k : Nat) : ∀ (l : List Val), ∀ x ∈ flat (encVs l), Cl k x
 | [], x, hx => by simp [encVs, flat] at hx
 | s :: l, x, hx => by
  rw [encVs, zA4, zJ1] at hx
  rcases hx with hx | hx
  ·have h := cl_encV k s
   cases s with
   | mk n m ss c v =>
    cases h with
    | agg _ h => exact h x hx
  ·exact cl_encVs k l x hx
end
theorem _root_.zT1 : type_of% @cl_encV := @cl_encV
theorem cl_encVl (n : Nat) (l : List Val) : Cl n (.lst none 5 (encVs l)) := .lst none 5 _ (fun t ht => by cases ht) (cl_encVs n l)
def Val.nv : Val → Int | .mk n _ _ _ _ => n
def Val.mv : Val → Int | .mk _ m _ _ _ => m
def Val.sv : Val → List Bs | .mk _ _ s _ _ => s
def Val.cv : Val → List (List Tk) | .mk _ _ _ c _ => c
def Val.vv : Val → List Val | .mk _ _ _ _ v => v
mutual
def vdepth : Val → Nat
 | .mk _ _ _ _ v => 1 + vdepthL v
def vdepthL : List Val → Nat
 | [] => 0
 | x :: l => max (vdepth x) (vdepthL l)
end
theorem vdepth_mem {l : List Val} {x : Val} (h : x ∈ l) : vdepth x ≤ vdepthL l := by
 induction l with
 | nil => cases h
 | cons y l ih =>
  rw [vdepthL]
  rcases List.mem_cons.1 h with rfl | h
  ·omega
  ·have := ih h; omega
def risesF : List Bs → Bool
 | [] => true
 | [_] => true
 | a :: b :: l => Op.bytesLess a b && risesF (b :: l)
def shortF (l : List Bs) : Bool := l.all fun s => decide (s.length ≤ 16)
def tickC (x y : Tk) : Int := if cmpI x.1 y.1 ≠ 0 then cmpI x.1 y.1 else cmpI x.2 y.2
def byTicksF : List Tk → List Tk → Int
 | [], [] => 0
 | [], _ :: _ => -1
 | _ :: _, [] => 1
 | x :: a, y :: b => if tickC x y ≠ 0 then tickC x y else byTicksF a b
def pairF (a b : List Tk) : Bool := decide (byTicksF a b < 0) && decide (cmpF a b = 2)
def pairsF : List (List Tk) → Bool
 | [] => true
 | a :: l => l.all (pairF a) && pairsF l
def isCauseF (l : List (List Tk)) : Bool := l.all isClockF && pairsF l
def noV : Val := .mk 0 0 [] [] []
end Go.MV
namespace Go.Proofs.YtnfcnpdpfgcchaaGreat
open Go Go.MV Go.RowKit
mutual
def bottomF : Sch → Val
 | .mk k ins => if k = 5 then .mk 0 0 [] [] (bottomL ins) else noV
def bottomL : List Sch → List Val
 | [] => []
 | s :: l => bottomF s :: bottomL l
end
def BottomF (s : Sch) : Val := if isF 16 s then bottomF s else noV
noncomputable def noneF (s : Sch) (v : Val) : Bool := decide (BottomF s = v)
def numsK (k : Int) : Bool := k == 1 || k == 2 || k == 6
def textsK (k : Int) : Bool := k == 3 || k == 4 || k == 6
def clocksK (k : Int) : Bool := k == 7 || k == 8
def valuesK (k : Int) : Bool := k == 4 || k == 5 || k == 8
def bareF (k : Int) (v : Val) : Bool := (numsK k || v.nv == 0) && (k == 6 || v.mv == 0) && (textsK k || v.sv.length == 0) && (clocksK k || v.cv.length == 0) && (valuesK k || v.vv.length == 0)
def isRowF (s : List Bs) : Bool := decide (s.length ≤ 40) && risesF s && shortF s
def isLastF (n m : Int) : List Bs → Bool
 | [] => n == 0 && m == 0
 | [t] => decide (t.length ≤ 16) && (!(n == 0) || !(m == 0) || !(t == []))
 | _ => false
noncomputable def isB (k : Int) (ins : List Sch) (fs : List (Val → Bool)) (v : Val) : Bool :=
  bareF k v && decide (v.vv.length ≤ 40) && decide (v.cv.length ≤ 40) &&
  (if k = 1 then true else if k = 2 then decide (v.nv ≤ 1) else if k = 3 then isRowF v.sv
   else if k = 4 then isRowF v.sv && decide (v.sv.length = v.vv.length) && v.vv.all (fun x => fs.headD (fun _ => false) x && !noneF (ins.headD default) x)
   else if k = 5 then (match v.vv with | [x, y] => fs.headD (fun _ => false) x && fs.tail.headD (fun _ => false) y | _ => false)
   else if k = 6 then isLastF v.nv v.mv v.sv
   else if k = 7 then (match v.cv with | [] => true | [c] => decide (0 < c.length) && isClockF c | _ => false)
   else decide (v.cv.length = v.vv.length) && isCauseF v.cv && v.vv.all (fs.headD (fun _ => false)))
mutual
noncomputable def isVF : Sch → Val → Bool
 | .mk k ins, v => isB k ins (isVL ins) v
noncomputable def isVL : List Sch → List (Val → Bool)
 | [] => []
 | s :: l => isVF s :: isVL l
end
theorem isVL_eq : ∀ l : List Sch, isVL l = l.map isVF
 | [] => by simp [isVL]
 | s :: l => by simp [isVL, isVL_eq l]
def hasF (v : Val) (n m s c w : Bool) : Bool := (n || v.nv == 0) && (m || v.mv == 0) && (s || v.sv.length == 0) && (c || v.cv.length == 0) && (w || v.vv.length == 0)
def fitsF (k : Int) (v : Val) : Bool :=
 if k = 1 then hasF v true false false false false
 else if k = 2 then hasF v true false false false false && decide (v.nv ≤ 1)
 else if k = 3 then hasF v false false true false false && shortF v.sv
 else if k = 4 then hasF v false false true false true && shortF v.sv && decide (v.sv.length = v.vv.length)
 else if k = 5 then hasF v false false false false true && decide (v.vv.length = 2)
 else if k = 6 then (match v.sv with | [] => hasF v false false false false false | [t] => hasF v true true true false false && decide (t.length ≤ 16) && (!(v.nv == 0) || !(v.mv == 0) || !(t == [])) | _ => false)
 else if k = 7 then hasF v false false false true false && decide (v.cv.length ≤ 1)
 else hasF v false false false true true && decide (v.cv.length = v.vv.length)
def aheadF : List Tk → List Tk → Bool
 | [], [] => false
 | [], _ :: _ => true
 | _ :: _, [] => false
 | x :: a, y :: b => if x.1 ≠ y.1 then decide (x.1 < y.1) else if x.2 ≠ y.2 then decide (x.2 < y.2) else aheadF a b
def sibAt (f : Val → Bool) (c : List (List Tk)) (v : List Val) (i : Nat) : Bool :=
 isClockF (c.getD i []) && f (v.getD i noV) && (i == 0 || aheadF (c.getD (i - 1) []) (c.getD i [])) && decide (∀ j, j < i → cmpF (c.getD j []) (c.getD i []) = 2)
def sibsF (f : Val → Bool) (c : List (List Tk)) (v : List Val) : Bool := decide (c.length ≤ 40) && decide (∀ i, i < c.length → sibAt f c v i = true)
noncomputable def isRB (k : Int) (ins : List Sch) (fs : List (Val → Bool)) (v : Val) : Bool :=
  fitsF k v && risesF v.sv && decide (v.sv.length ≤ 40) &&
  (if k = 4 then v.vv.all (fun x => fs.headD (fun _ => false) x && !noneF (ins.headD default) x)
   else if k = 5 then (match v.vv with | [x, y] => fs.headD (fun _ => false) x && fs.tail.headD (fun _ => false) y | _ => false)
   else if k = 7 then (match v.cv with | [] => true | [c] => isClockF c && decide (0 < c.length) | _ => false)
   else if k = 8 then sibsF (fs.headD (fun _ => false)) v.cv v.vv else true)
mutual
noncomputable def isRF : Sch → Val → Bool
 | .mk k ins, v => isRB k ins (isRL ins) v
noncomputable def isRL : List Sch → List (Val → Bool)
 | [] => []
 | s :: l => isRF s :: isRL l
end
theorem isRL_eq : ∀ l : List Sch, isRL l = l.map isRF
 | [] => by simp [isRL]
 | s :: l => by simp [isRL, isRL_eq l]
theorem tick_zero {x y : Tk} : tickC x y = 0 ↔ x = y := by
 obtain ⟨a, b⟩ := x; obtain ⟨c, d⟩ := y
 simp only [tickC, cmpI, Prod.mk.injEq]
 split <;> split <;> (try split) <;> (try split) <;> omega
theorem tick_neg {x y : Tk} : tickC x y < 0 ↔ x.1 < y.1 ∨ (x.1 = y.1 ∧ x.2 < y.2) := by
 simp only [tickC, cmpI]
 split <;> split <;> (try split) <;> (try split) <;> omega
theorem ticks_ahead : ∀ a b : List Tk, aheadF a b = decide (byTicksF a b < 0)
 | [], [] => rfl
 | [], _ :: _ => rfl
 | _ :: _, [] => rfl
 | x :: a, y :: b => by
  rw [aheadF, byTicksF]
  by_cases h : tickC x y = 0
  ·have e := tick_zero.1 h
   subst e
   rw [if_neg (by simp), if_neg (by simp), if_neg (fun hn => hn h), ticks_ahead a b]
  ·rw [if_pos h]
   have h1 : ¬ x = y := fun e => h (tick_zero.2 e)
   by_cases hn : tickC x y < 0
   ·have := tick_neg.1 hn
    rw [decide_eq_true hn]
    split
    ·rw [decide_eq_true (by omega)]
    ·rw [if_pos (by omega), decide_eq_true (by omega)]
   ·have h2 : ¬ (x.1 < y.1 ∨ (x.1 = y.1 ∧ x.2 < y.2)) := fun e => hn (tick_neg.2 e)
    rw [decide_eq_false hn]
    split
    ·rw [decide_eq_false (by omega)]
    ·have h3 : x.2 ≠ y.2 := fun e => h1 (Prod.ext (by omega) e)
     rw [if_pos h3, decide_eq_false (by omega)]
theorem ticks_trans : ∀ {a b c : List Tk}, byTicksF a b < 0 → byTicksF b c < 0 → byTicksF a c < 0
 | [], [], _, h, _ => by simp [byTicksF] at h
 | [], _ :: _, [], _, h => by simp [byTicksF] at h
 | [], _ :: _, _ :: _, _, _ => by simp [byTicksF]
 | _ :: _, [], _, h, _ => by simp [byTicksF] at h
 | _ :: _, _ :: _, [], _, h => by simp [byTicksF] at h
 | x :: a, y :: b, z :: c, h1, h2 => by
  rw [byTicksF] at h1 h2 ⊢
  by_cases e1 : tickC x y = 0
  ·have := tick_zero.1 e1
   subst this
   rw [if_neg (by simpa using e1)] at h1
   by_cases e2 : tickC x z = 0
   ·rw [if_neg (by simpa using e2)] at h2 ⊢
    exact ticks_trans h1 h2
   ·rw [if_pos e2] at h2 ⊢
    exact h2
  ·rw [if_pos e1] at h1
   by_cases e2 : tickC y z = 0
   ·have := tick_zero.1 e2
    subst this
    rw [if_pos e1]
    exact h1
   ·rw [if_pos e2] at h2
    have h3 := tick_neg.1 h1
    have h4 := tick_neg.1 h2
    have h5 : tickC x z < 0 := tick_neg.2 (by omega)
    rw [if_pos (by omega)]
    exact h5
theorem pairsF_iff : ∀ l : List (List Tk), pairsF l = true ↔ l.Pairwise fun a b => byTicksF a b < 0 ∧ cmpF a b = 2
 | [] => by simp [pairsF]
 | a :: l => by
  rw [pairsF, Bool.and_eq_true, pairsF_iff l, zI1, List.all_eq_true]
  simp [pairF]
theorem getD_lt {α : Type} {l : List α} {i : Nat} (d : α) (h : i < l.length) : l.getD i d = l[i] := by simp [h]
theorem _root_.zF : type_of% @Bool.eq_iff_iff := @Bool.eq_iff_iff
theorem sibs_eq {f : Val → Bool} {c : List (List Tk)} {v : List Val} (hl : c.length = v.length) : (decide (c.length ≤ 40) && (isCauseF c && v.all f)) = sibsF f c v := by
 unfold sibsF
 congr 1
 rw [zF, decide_eq_true_iff, Bool.and_eq_true, isCauseF, Bool.and_eq_true, pairsF_iff, List.all_eq_true, List.all_eq_true]
 constructor
 ·rintro ⟨⟨h1, h2⟩, h3⟩ i hi
  have hp := List.pairwise_iff_getElem.1 h2
  unfold sibAt
  rw [getD_lt _ hi, getD_lt _ (by omega : i < v.length), h1 _ (List.getElem_mem _), h3 _ (List.getElem_mem _)]
  simp only [Bool.true_and, Bool.and_eq_true, Bool.or_eq_true, decide_eq_true_eq, beq_iff_eq]
  refine ⟨?_, fun j hj => ?_⟩
  ·cases i with
   | zero => exact .inl rfl
   | succ i =>
    refine .inr ?_
    rw [Nat.add_sub_cancel, getD_lt _ (by omega : i < c.length), ticks_ahead, decide_eq_true_eq]
    exact (hp i (i + 1) (by omega) hi (by omega)).1
  ·rw [getD_lt _ (by omega : j < c.length)]
   exact (hp j i (by omega) hi hj).2
 ·intro h
  have h0 : ∀ i, ∀ hi : i < c.length, isClockF c[i] = true ∧ f (v[i]'(by omega)) = true ∧ (i = 0 ∨ byTicksF (c[i - 1]'(by omega)) c[i] < 0) ∧ ∀ j, ∀ hj : j < i, cmpF (c[j]'(by omega)) c[i] = 2 := by
   intro i hi
   have := h i hi
   unfold sibAt at this
   rw [getD_lt _ hi, getD_lt _ (by omega : i < v.length), getD_lt _ (by omega : i - 1 < c.length), ticks_ahead] at this
   simp only [Bool.and_eq_true, Bool.or_eq_true, decide_eq_true_eq, beq_iff_eq] at this
   obtain ⟨⟨⟨a1, a2⟩, a3⟩, a4⟩ := this
   refine ⟨a1, a2, a3, fun j hj => ?_⟩
   have := a4 j hj
   rwa [getD_lt _ (by omega : j < c.length)] at this
  have hlt : ∀ d i, ∀ hi : i + d + 1 < c.length, byTicksF (c[i]'(by omega)) c[i + d + 1] < 0 := by
   intro d
   induction d with
   | zero =>
    intro i hi
    rcases (h0 (i + 1) hi).2.2.1 with h | h
    ·omega
    ·exact h
   | succ d ih =>
    intro i hi
    have h1 := ih i (by omega)
    rcases (h0 (i + (d + 1) + 1) hi).2.2.1 with h | h
    ·omega
    ·exact ticks_trans h1 h
  refine ⟨⟨fun x hx => ?_, ?_⟩, fun x hx => ?_⟩
  ·obtain ⟨i, hi, rfl⟩ := List.mem_iff_getElem.1 hx
   exact (h0 i hi).1
  ·rw [List.pairwise_iff_getElem]
   intro i j hi hj hij
   obtain ⟨d, rfl⟩ : ∃ d, j = i + d + 1 := ⟨j - i - 1, by omega⟩
   exact ⟨hlt d i hj, (h0 _ hj).2.2.2 i hij⟩
  ·obtain ⟨i, hi, rfl⟩ := List.mem_iff_getElem.1 hx
   exact (h0 i (by omega)).2.1
theorem isB_eq {k : Int} {ins : List Sch} {fs : List (Val → Bool)} {v : Val} (hk : partsF k = (ins.length : Int)) : isB k ins fs v = isRB k ins fs v := by
 obtain ⟨n, m, s, c, w⟩ := v
 have hk8 : k = 1 ∨ k = 2 ∨ k = 3 ∨ k = 4 ∨ k = 5 ∨ k = 6 ∨ k = 7 ∨ k = 8 := by
  unfold partsF at hk
  split at hk
  ·omega
  ·split at hk
   ·omega
   ·split at hk <;> omega
 rcases hk8 with rfl | rfl | rfl | rfl | rfl | rfl | rfl | rfl
 ·rw [zF]
  simp [isB, isRB, bareF, fitsF, hasF, numsK, textsK, clocksK, valuesK, Val.nv, Val.mv, Val.sv, Val.cv, Val.vv]
  constructor <;> intro h <;> simp_all [risesF]
 ·rw [zF]
  simp [isB, isRB, bareF, fitsF, hasF, numsK, textsK, clocksK, valuesK, Val.nv, Val.mv, Val.sv, Val.cv, Val.vv]
  constructor <;> intro h <;> simp_all [risesF]
 ·rw [zF]
  simp [isB, isRB, bareF, fitsF, hasF, numsK, textsK, clocksK, valuesK, Val.nv, Val.mv, Val.sv, Val.cv, Val.vv, isRowF]
  constructor <;> intro h <;> simp_all
 ·rw [zF]
  by_cases hl : s.length = w.length
  ·by_cases h4 : w.length ≤ 40
   ·simp [isB, isRB, bareF, fitsF, hasF, numsK, textsK, clocksK, valuesK, Val.nv, Val.mv, Val.sv, Val.cv, Val.vv, isRowF, hl, h4]
    constructor <;> intro h <;> simp_all
   ·simp [isB, isRB, bareF, fitsF, hasF, numsK, textsK, clocksK, valuesK, Val.nv, Val.mv, Val.sv, Val.cv, Val.vv, isRowF, hl, h4]
  ·simp [isB, isRB, bareF, fitsF, hasF, numsK, textsK, clocksK, valuesK, Val.nv, Val.mv, Val.sv, Val.cv, Val.vv, isRowF, hl]
 ·rw [zF]
  match w with
  | [x, y] =>
   simp [isB, isRB, bareF, fitsF, hasF, numsK, textsK, clocksK, valuesK, Val.nv, Val.mv, Val.sv, Val.cv, Val.vv]
   intro _ _
   constructor <;> intro h <;> simp_all [risesF]
  | [] => simp [isB, isRB, bareF, fitsF, hasF, numsK, textsK, clocksK, valuesK, Val.nv, Val.mv, Val.sv, Val.cv, Val.vv]
  | [x] => simp [isB, isRB, bareF, fitsF, hasF, numsK, textsK, clocksK, valuesK, Val.nv, Val.mv, Val.sv, Val.cv, Val.vv]
  | _ :: _ :: _ :: _ => simp [isB, isRB, bareF, fitsF, hasF, numsK, textsK, clocksK, valuesK, Val.nv, Val.mv, Val.sv, Val.cv, Val.vv]
 ·rw [zF]
  simp [isB, isRB, bareF, fitsF, hasF, numsK, textsK, clocksK, valuesK, Val.nv, Val.mv, Val.sv, Val.cv, Val.vv]
  match s with
  | [] => simp [isLastF, risesF]; constructor <;> intro h <;> simp_all
  | [t] =>
   simp [isLastF, risesF]
   constructor <;> intro h <;> simp_all
  | _ :: _ :: _ => simp [isLastF]
 ·rw [zF]
  simp [isB, isRB, bareF, fitsF, hasF, numsK, textsK, clocksK, valuesK, Val.nv, Val.mv, Val.sv, Val.cv, Val.vv]
  match c with
  | [] => simp; constructor <;> intro h <;> simp_all [risesF]
  | [t] => simp; constructor <;> intro h <;> simp_all [risesF]
  | _ :: _ :: _ => simp
 ·by_cases hl : c.length = w.length
  ·have hs := sibs_eq (f := fs.headD (fun _ => false)) hl
   rw [zF]
   rw [zF] at hs
   simp [isB, isRB, bareF, fitsF, hasF, numsK, textsK, clocksK, valuesK, Val.nv, Val.mv, Val.sv, Val.cv, Val.vv] at hs ⊢
   constructor
   ·intro h
    have := hs.1
    simp_all [risesF]
   ·intro h
    have := hs.2 h.2
    simp_all
  ·rw [zF]
   simp [isB, isRB, bareF, fitsF, hasF, numsK, textsK, clocksK, valuesK, Val.nv, Val.mv, Val.sv, Val.cv, Val.vv, hl]
theorem isVF_eq : ∀ (d : Nat) (s : Sch), isF d s = true → isVF s = isRF s
 | 0, s, h => by simp [isF] at h
 | d + 1, .mk k ins, h => by
  simp only [isF, Bool.and_eq_true, beq_iff_eq, List.all_eq_true] at h
  funext v
  rw [isVF, isRF, isB_eq h.1, isVL_eq, isRL_eq]
  congr 1
  exact List.map_congr_left fun x hx => isVF_eq d x (h.2 x hx)
def okTk (t : Tk) : Prop := 0 ≤ t.2 ∧ t.2 < 18446744073709551616
mutual
def okV : Val → Prop
 | .mk n m s c v => (0 ≤ n ∧ n < 18446744073709551616) ∧ (0 ≤ m ∧ m < 18446744073709551616) ∧ (∀ x ∈ c, ∀ t ∈ x, okTk t) ∧ okVs v
def okVs : List Val → Prop
 | [] => True
 | x :: l => okV x ∧ okVs l
end
theorem okVs_iff : ∀ {l : List Val}, okVs l ↔ ∀ x ∈ l, okV x
 | [] => by simp [okVs]
 | x :: l => by rw [okVs, okVs_iff (l := l)]; simp
theorem isF_mono : ∀ (d : Nat) (s : Sch), isF d s = true → isF (d + 1) s = true
 | 0, s, h => by simp [isF] at h
 | d + 1, .mk k ins, h => by
  rw [isF] at h ⊢
  simp only [Bool.and_eq_true, List.all_eq_true] at h ⊢
  exact ⟨h.1, fun x hx => isF_mono d x (h.2 x hx)⟩
theorem isF_le {d e : Nat} (hde : d ≤ e) {s : Sch} (h : isF d s = true) : isF e s = true := by
 obtain ⟨k, rfl⟩ : ∃ k, e = d + k := ⟨e - d, by omega⟩
 induction k with
 | zero => exact h
 | succ k ih => exact isF_mono _ _ (ih (by omega))
theorem bottomL_eq : ∀ l : List Sch, bottomL l = l.map bottomF
 | [] => by simp [bottomL]
 | s :: l => by simp [bottomL, bottomL_eq l]
theorem _root_.zN2 : type_of% @bottomL_eq := @bottomL_eq
end Go.Proofs.YtnfcnpdpfgcchaaGreat
namespace Go.Proofs.YtnfcnpdpfgcchaaGreat
open Go Go.MV
theorem cells_tick : Tryz.prog.cellsOf 54 = 2 := by kernel_rfl
theorem _root_.zO6 : type_of% @Tryz.underlying54 := @Tryz.underlying54
theorem tyM_tick {m : Nat} {l : List MV} (h : TyM Tryz.prog m 54 l) : ∃ a : Tk, MV.agg l = encT a ∧ (0 ≤ a.2 ∧ a.2 < 18446744073709551616) := by
 obtain ⟨m', _, h⟩ := tyM_struct zO6 h
 obtain ⟨a, _, rfl, h1, b, _, rfl, h2, rfl⟩ := h
 obtain ⟨w, rfl, _⟩ := tyM_intK Tryz.underlying3 h1
 obtain ⟨n, rfl, hw⟩ := tyM_intK Tryz.underlying25 h2
 obtain ⟨k, rfl, hk⟩ := wf_u64 hw
 exact ⟨(w, k), rfl, by dsimp only; omega, by dsimp only; omega⟩
theorem el_tick (m : Nat) (x : MV) (_ : x.cells.length = Tryz.prog.cellsOf 54) (h : TyM Tryz.prog m 54 x.cells) (he : ElF Tryz.prog 54 x) : ∃ a : Tk, x = encT a ∧ (0 ≤ a.2 ∧ a.2 < 18446744073709551616) := by
 obtain ⟨a, e, ha⟩ := tyM_tick h
 simp only [ElF, zO6] at he
 exact ⟨a, he.trans e, ha⟩
theorem cellsV_str : Tryz.prog.cellsOf 9 = 1 := by kernel_rfl
theorem cellsV_clk : Tryz.prog.cellsOf 55 = 1 := by kernel_rfl
theorem cellsV_val : Tryz.prog.cellsOf 30 = 5 := by kernel_rfl
theorem _root_.zQ0 : type_of% @Tryz.underlying30 := @Tryz.underlying30
theorem _root_.zX : type_of% @Tryz.underlying26 := @Tryz.underlying26
theorem _root_.zN : type_of% @Tryz.underlying27 := @Tryz.underlying27
theorem _root_.zP : type_of% @Tryz.underlying55 := @Tryz.underlying55
theorem _root_.zE : type_of% @Tryz.underlying28 := @Tryz.underlying28
theorem tyM_val (n : Nat) : ∀ (l : List MV), TyM Tryz.prog n 30 l → ∃ x : Val, MV.agg l = encV x ∧ okV x := by
 induction n using Nat.strongRecOn with
 | _ n ih =>
 intro l h
 obtain ⟨n', rfl, h⟩ := tyM_struct zQ0 h
 obtain ⟨a, _, rfl, h1, b, _, rfl, h2, c, _, rfl, h3, d, _, rfl, h4, e, _, rfl, h5, rfl⟩ := h
 obtain ⟨v1, rfl, w1⟩ := tyM_intK Tryz.underlying25 h1
 obtain ⟨v2, rfl, w2⟩ := tyM_intK Tryz.underlying25 h2
 obtain ⟨k1, rfl, hk1⟩ := wf_u64 w1
 obtain ⟨k2, rfl, hk2⟩ := wf_u64 w2
 obtain ⟨xs, m3, hm3, rfl, hx3⟩ := tyM_slice zX h3
 obtain ⟨ss, rfl, _⟩ := all_enc (enc := encX) (q := fun _ => True) (xs := xs) (fun x hx => by
  obtain ⟨_, g2, g3⟩ := hx3 x hx
  obtain ⟨a, e1, _⟩ := el_str Tryz.underlying9 m3 x g2 g3
  exact ⟨a, e1, trivial⟩)
 obtain ⟨ys, m4, hm4, rfl, hx4⟩ := tyM_slice zN h4
 obtain ⟨cs, rfl, hcs⟩ := all_enc (enc := encC) (q := fun c : List Tk => ∀ t ∈ c, okTk t) (xs := ys) (fun x hx => by
  obtain ⟨_, g2, g3⟩ := hx4 x hx
  obtain ⟨zs, m5, hm5, e5, hx5⟩ := tyM_slice zP g2
  simp only [ElF, zP] at g3
  rw [e5] at g3
  injection g3 with g3 _
  obtain ⟨c, rfl, hc⟩ := all_enc (enc := encT) (q := okTk) (xs := zs) (fun z hz => by
   obtain ⟨f1, f2, f3⟩ := hx5 z hz
   exact el_tick m5 z f1 f2 f3)
  refine ⟨c, ?_, hc⟩
  rw [g3, cells_tick]
  rfl)
 obtain ⟨us, m6, hm6, rfl, hx6⟩ := tyM_slice zE h5
 obtain ⟨vs, rfl, hvs⟩ := all_enc (enc := encV) (q := okV) (xs := us) (fun x hx => by
  obtain ⟨_, g2, g3⟩ := hx6 x hx
  obtain ⟨v, e1, hv⟩ := ih m6 (by omega) _ g2
  simp only [ElF, zQ0] at g3
  exact ⟨v, g3.trans e1, hv⟩)
 refine ⟨.mk k1 k2 ss cs vs, ?_, ?_⟩
 ·rw [cellsV_str, cellsV_clk, cellsV_val, encV, zY3]
  rfl
 ·simp only [okV]
  exact ⟨by omega, by omega, hcs, okVs_iff.2 hvs⟩
theorem tys_ok : okTypes Tryz.prog [24, 22, 3] = true := by kernel_rfl
theorem cells_sch : Tryz.prog.cellsOf 24 = 2 := by kernel_rfl
theorem tyM_int {n : Nat} {l : List MV} (h : TyM Tryz.prog n 3 l) : ∃ v, l = [.int .i64 v] ∧ (Lit.int .i64 v).wf = true := by
 cases n with
 | zero => exact h.elim
 | succ n => unfold TyM at h; rw [Tryz.underlying3] at h; exact h
theorem tyM_sch (n : Nat) : ∀ (l : List MV), TyM Tryz.prog n 24 l → ∃ s, MV.agg l = encS s := by
 induction n using Nat.strongRecOn with
 | _ n ih =>
 intro l h
 match n, ih, h with
 | n + 1, ih, h =>
  unfold TyM at h
  rw [Tryz.underlying24] at h
  obtain ⟨a, _, rfl, h1, b, _, rfl, h2, rfl⟩ := h
  obtain ⟨k, rfl, _⟩ := tyM_int h1
  match n, ih, h2 with
  | n + 1, ih, h2 =>
   unfold TyM at h2
   rw [zJ0] at h2
   obtain ⟨xs, rfl, hx⟩ := h2
   have hss : ∀ ys : List MV, (∀ x ∈ ys, x.cells.length = Tryz.prog.cellsOf 24 ∧ TyM Tryz.prog n 24 x.cells ∧ ElF Tryz.prog 24 x) → ∃ ss, ys = encSs ss := by
    intro ys
    induction ys with
    | nil => exact fun _ => ⟨[], by simp [encSs]⟩
    | cons y ys ihy =>
     intro hy
     obtain ⟨ss, rfl⟩ := ihy (fun x hx => hy x (zI0 _ hx))
     obtain ⟨h1, h2, h3⟩ := hy y (zM0 ..)
     obtain ⟨s, hs⟩ := ih n (by omega) _ h2
     refine ⟨s :: ss, ?_⟩
     simp only [ElF, Tryz.underlying24] at h3
     rw [h3, hs]; simp [encSs]
   obtain ⟨ss, rfl⟩ := hss xs hx
   exact ⟨.mk k ss, by rw [cells_sch]; simp [encS]⟩
mutual
theorem bulk_le {H : Type} : ∀ d : DataW H, dBulk d ≤ Rows.uptoBulk d
 | .lit (.string b) => by simp [dBulk, Rows.uptoBulk]
 | .lit (.bool b) => by simp [dBulk, Rows.uptoBulk]
 | .lit (.int k n) => by simp [dBulk, Rows.uptoBulk]
 | .lit (.float k n) => by simp [dBulk, Rows.uptoBulk]
 | .lit _ => by
  rename_i l
  cases l <;> simp [dBulk, Rows.uptoBulk]
 | .nil => by simp [dBulk, Rows.uptoBulk]
 | .ptr d => by simp [dBulk, Rows.uptoBulk]
 | .slice es sp => by
  have := bulkAll_le es
  simp only [dBulk, Rows.uptoBulk]
  omega
 | .agg ps => by
  have := bulkAll_le ps
  simp only [dBulk, Rows.uptoBulk]
  omega
 | .iface t d => by simp [dBulk, Rows.uptoBulk]
 | .map es => by simp [dBulk, Rows.uptoBulk]
 | .held h => by simp [dBulk, Rows.uptoBulk]
theorem bulkAll_le {H : Type} : ∀ l : List (DataW H), dBulkAll l ≤ Rows.uptoBulkAll l
 | [] => by simp [dBulkAll, Rows.uptoBulkAll]
 | d :: r => by
  have h1 := bulk_le d
  have h2 := bulkAll_le r
  simp only [dBulkAll, Rows.uptoBulkAll]
  omega
end
theorem _root_.zO1 : type_of% @of_decide_eq_true := @of_decide_eq_true
theorem bulk_bound {H : Type} {l : List (DataW H)} (hk : Rows.uptoSmall H l = true) : dBulkAll l ≤ 1048576 := Nat.le_trans (bulkAll_le l) (zO1 hk)
theorem arg_valB {ts : List TypeId} (hok : okTypes Tryz.prog ts = true) (ht : 30 ∈ ts) {H : Type} {enc : TypeId × Value → H} {W : World} {base b0 : Nat} {spare : Nat → Bool} {held : Bool} {r : Reach} {v : Value} {d : DataW H} {p : List MemPlace} (hv : Value.okWide Tryz.prog W r b0 30 v) (h : DataW.Trod enc Tryz.prog W base spare held 30 v d p) :
  ∃ x : Val, Rd (g0 W) W (encV x) v ∧ okV x ∧ szM (encV x) ≤ dBulk d := by
 obtain ⟨l, m, h1, h2, h3⟩ := arg_structB hok ht zQ0 hv h
 obtain ⟨x, hx, ho⟩ := tyM_val _ _ h2
 exact ⟨x, hx ▸ h1, ho, hx ▸ h3⟩
theorem arg_schB {H : Type} {enc : TypeId × Value → H} {W : World} {base b0 : Nat} {spare : Nat → Bool} {held : Bool} {r : Reach} {v : Value} {d : DataW H} {p : List MemPlace} (hv : Value.okWide Tryz.prog W r b0 24 v) (h : DataW.Trod enc Tryz.prog W base spare held 24 v d p) :
  ∃ x : Sch, Rd (g0 W) W (encS x) v ∧ szM (encS x) ≤ dBulk d := by
 obtain ⟨l, m, h1, h2, h3⟩ := arg_structB tys_ok (by simp) Tryz.underlying24 hv h
 obtain ⟨x, hx⟩ := tyM_sch _ _ h2
 exact ⟨x, hx ▸ h1, hx ▸ h3⟩
theorem szM_pos (x : MV) : 1 ≤ szM x := by cases x <;> simp [szM]
theorem szMs_len : ∀ l : List MV, l.length ≤ szMs l
 | [] => by simp [szMs]
 | x :: l => by
  have := szM_pos x
  have := szMs_len l
  simp only [szMs, zW]
  omega
theorem szC : ∀ c : List (List Tk), (c.flatMap fun x => x).length ≤ szMs (c.map encC)
 | [] => by simp [szMs]
 | x :: c => by
  have h1 := szC c
  have h2 := szMs_len (x.map encT)
  rw [zC] at h2
  rw [List.flatMap_cons, zM, List.map_cons, szMs, show szM (encC x) = szMs (x.map encT) + 1 by simp [encC, szM]]
  omega
theorem sz_mk (n m : Int) (s : List Bs) (c : List (List Tk)) (w : List Val) : szM (encV (.mk n m s c w)) = szMs (s.map encX) + szMs (c.map encC) + szMs (encVs w) + 6 := by
 simp [encV, szM, szMs]
 omega
theorem sz_val {w : List Val} : szMs (encVs w) = (w.map fun x => szM (encV x)).sum := by
 rw [zY3, szMs_eq, List.map_map]
 rfl
theorem gtr_nil {α : Type} {en : α → MV} : intCmp .gtr (((([] : List α).map en).length : Nat) : Int) 0 = some false := rfl
theorem gtr_cons {α : Type} {en : α → MV} {x : α} {l : List α} : intCmp .gtr ((((x :: l).map en).length : Nat) : Int) 0 = some true := by simp [intCmp]
theorem merge_cons {α : Type} {cmp : α → α → Int} {bo : α → α → α} {x y : α} {a b : List α} : mergeF cmp bo (x :: a) (y :: b) = if cmp x y < 0 then x :: mergeF cmp bo a (y :: b) else if cmp x y > 0 then y :: mergeF cmp bo (x :: a) b else bo x y :: mergeF cmp bo a b := by rw [mergeF]
theorem clkIs_spec (c : List Tk) (S : MS) : MCalls Tryz.prog 75 [.lst none 2 (c.map encT)] S fun v σ' => v = .bool (isClockF c) ∧ σ' = S := by
 refine zU Tryz.func75 V Tryz.ntmps75 (zA V) ?_
 refine zI2 (t := 0) V fun hlen => ?_
 rw [zC] at hlen
 refine zB <| qR V <| qA V V V <| qN <| zB <| zB <| qR V <| qM V V V <| qE V V zP V <| qM V V V <| qN <| zB0 ?_
 refine mwp_loopKJ (α := Nat) [(0, _), (5, _), (6, _)] (fun i => [(7, .int .i64 (i : Int))]) (fun i => []) (fun i => i ≤ c.length ∧ ∀ j, j < i → okAt c j = true) (fun i => c.length - i) (0) (Nat.le_refl _) (.keep V (.keep V (.keep V (.nil)))) (.keep V (.nil)) (⟨by omega, fun j hj => by omega⟩) (V) ?_
 rintro i ⟨hi, hall⟩
 refine zB <| qR V <| qC V V V V V <| qN <| zB ?_
 refine zK V (fun h8 => ?_) (fun h8 => ?_)
 ·
  have hlt : i < c.length := by simpa using h8
  obtain ⟨t, hs⟩ : ∃ q_, c[i]? = some q_ := ⟨_, zD hlt⟩
  refine zY <| zB <| zB0 <| zB <| qR V <| qM V V V <| qO V <| zG V zP sz54 (by decide) V V V (zR0 hs) ?_
  refine qO V <| zI V V ta54 V <| qO V <| zL0 V zm54 V V <| qA V V V <| qO V <| zG0 V V V V sz54 V V (zA V) V <| qN <| zB ?_
  refine zV0 [] [_] mo (by decide) V V V V ?_
  refine dO V V V (zJ V V zB4 Vv) <| dO V V V (zE0 V V V ta3 V Vv) <| dO V V V (zQ2 V V V V Vv) <| dO V V V (zS V V Vv) ?_
  refine zF2 (fun h15 => ?_) (fun h15 => ?_)
  ·
   refine dS V V <| dS V V <| dS V V <| dO V V V (zD1 V V V Vv) <| dO V V V (zS V V Vv) <| dS V V <| dS V V <| dS V V <| dO V V V (zD1 V V V Vv) <| dO V V V (zS V V Vv) <| dS V V <| dS V V <| dS V V <| dS V V <| dS V V <| dS V V <| dS V V <| dS V V <| dS V V <| dS V V <| dS V V <| dS V V <| dS V V <| dO V V V (zD1 V V V Vv) <| zK0 <| zA0 V (V) <| zB <| qR V <| qA V V V ?_
   refine qN <| zL ?_
   exact zT (.inr V) Tryz.results75 V (.of_eq (by rw [zL4 hlt (by simp_all [okAt] <;> omega)])) (.bool _) Vv
  ·
   refine dO V V V (zJ V V zB4 Vv) <| dO V V V (zE0 V V V ta3 V Vv) <| dO V V V (zQ2 V V V V Vv) <| dO V V V (zD1 V V V Vv) <| dO V V V (zS V V Vv) ?_
   refine zF2 (fun h20 => ?_) (fun h20 => ?_)
   ·
    refine dS V V <| dS V V <| dS V V <| dO V V V (zD1 V V V Vv) <| dO V V V (zS V V Vv) <| dS V V <| dS V V <| dS V V <| dS V V <| dS V V <| dS V V <| dS V V <| dS V V <| dS V V <| dS V V <| dS V V <| dS V V <| dS V V <| dO V V V (zD1 V V V Vv) <| zK0 <| zA0 V (V) <| zB <| qR V <| qA V V V <| qN <| zL ?_
    exact zT (.inr V) Tryz.results75 V (.of_eq (by rw [zL4 hlt (by simp_all [okAt] <;> omega)])) (.bool _) Vv
   ·
    refine dO V V V (zJ V V zX5 Vv) <| dO V V V (zE0 V V V ta25 V Vv) <| dO V V V (zQ2 V V V V Vv) <| dO V V V (zD1 V V V Vv) <| dO V V V (zS V V Vv) ?_
    refine zF2 (fun h25 => ?_) (fun h25 => ?_)
    ·
     refine dS V V <| dS V V <| dS V V <| dS V V <| dS V V <| dS V V <| dS V V <| dS V V <| dS V V <| dS V V <| dS V V <| dS V V <| dS V V <| dO V V V (zD1 V V V Vv) <| zK0 <| zA0 V (V) <| zB <| qR V <| qA V V V <| qN <| zL ?_
     exact zT (.inr V) Tryz.results75 V (.of_eq (by rw [zL4 hlt (by simp_all [okAt] <;> omega)])) (.bool _) Vv
    ·
     refine dO V V V (zS V V Vv) <| dO V V V (zQ2 V V V V Vv) <| dO V V V (zS V V Vv) ?_
     refine zF2 (fun h28 => ?_) (fun h28 => ?_)
     ·
      have hi0 : 0 < i := by simpa using h28
      obtain ⟨p, hp⟩ : ∃ a, c[i - 1]? = some a := ⟨_, zD (by omega)⟩
      refine dO V V V (zJ V V zB4 Vv) <| dO V V V (zE0 V V V ta3 V Vv) <| dO V V V (zS V V Vv) <| dO V V V (zS V V Vv) <| dO V V V (zO0 V V V (wsub (a := i) (b := 1) (c := i - 1) (by omega) (by simp only [maxLen] at hlen; omega)) Vv) ?_
      refine dO V V V (zG V zP sz54 (by decide) V V V (zR0 hp) Vv) ?_
      refine dO V V V (zE1 V V zB4 Vv) <| dO V V V (zI V V ta3 V Vv) <| dO V V V (zQ2 V V V V Vv) <| dO V V V (zD1 V V V Vv) <| dO V V V (zD1 V V V Vv) <| zK0 ?_
      refine zK V (fun h39 => ?_) (fun h39 => ?_)
      ·
       refine zB <| qR V <| qA V V V <| qN <| zL ?_
       exact zT (.inr V) Tryz.results75 V (.of_eq (by rw [zL4 hlt (by simp_all [okAt] <;> omega)])) (.bool _) Vv
      ·
       refine zY <| qR V <| qO V <| zO0 V V V V <| qM V V V <| qN ?_
       refine ⟨i + 1, _, by omega, ⟨by omega, fun j hj => ?_⟩, rfl, .nil, (.old V V (.old V V (.old V V (.nil)))), (.new' V (zK1 hlt hlen) (.int _ _) (.nil))⟩
       by_cases e : j = i
       ·subst e; simp_all [okAt]
       ·exact hall j (by omega)
     ·
      refine dS V V <| dS V V <| dS V V <| dS V V <| dS V V <| dS V V <| dS V V <| dS V V <| dS V V <| dO V V V (zD1 V V V Vv) <| dO V V V (zD1 V V V Vv) <| zK0 <| zQ V (V) <| zY <| qR V <| qO V <| zO0 V V V V <| qM V V V <| qN ?_
      refine ⟨i + 1, _, by omega, ⟨by omega, fun j hj => ?_⟩, rfl, .nil, (.old V V (.old V V (.old V V (.nil)))), (.new' V (zK1 hlt hlen) (.int _ _) (.nil))⟩
      by_cases e : j = i
      ·subst e; simp_all [okAt]
      ·exact hall j (by omega)
 ·
  have hge : i = c.length := by simp at h8; omega
  refine zF1 <| zB <| qR V <| qM V V V <| qE V V zP V <| qC V V V V V <| qA V V V <| qN <| zL ?_
  exact zT (.inr V) Tryz.results75 V (.of_eq (by rw [isClock_end (fun j hj => hall j (by omega)), zC])) (.bool _) Vv
theorem tEqual_spec (a b : List Tk) (S : MS) : MCalls Tryz.prog 109 [.lst none 2 (a.map encT), .lst none 2 (b.map encT)] S fun v σ' => v = .bool (decide (a = b)) ∧ σ' = S := by
 refine zU Tryz.func109 V Tryz.ntmps109 (zA V) ?_
 refine zI2 (t := 0) V fun hlen => ?_
 rw [zC] at hlen
 refine zB <| qR V <| qA V V V <| qN <| zB <| zB <| qR V <| qM V V V <| qE V V zP V <| qM V V V <| qE V V zP V <| qC V V V V V <| qN ?_
 refine zK V (fun h10 => ?_) (fun h10 => ?_)
 ·
  refine zB <| qR V <| qA V V V <| qN <| zL ?_
  exact zT (.inr V) Tryz.results109 V (.of_eq (by congr 1; symm; rw [decide_eq_false_iff_not]; intro e; subst e; simp at h10)) (.bool _) Vv
 ·
  have hab : a.length = b.length := by simp at h10; omega
  refine zY <| zB <| zB <| qR V <| qM V V V <| qE V V zP V <| qM V V V <| qN <| zB0 ?_
  refine zQ1 (α := Nat) [(0, _), (1, _), (12, _)] (fun i => [(13, .int .i64 (i : Int))]) (fun i => []) (fun i => i ≤ a.length ∧ a.take i = b.take i) (fun i => a.length - i) (0) (.keep V (.keep V (.keep V (.nil)))) (.keep V (.nil)) (⟨by omega, rfl⟩) (V) ?_
  rintro i ⟨hi, heq⟩
  refine zB <| qR V <| qC V V V V V <| qN <| zB ?_
  refine zK V (fun h14 => ?_) (fun h14 => ?_)
  ·
   have hlt : i < a.length := by simpa using h14
   obtain ⟨x, hs⟩ : ∃ q_, a[i]? = some q_ := ⟨_, zD hlt⟩
   obtain ⟨y, hs2⟩ : ∃ s, b[i]? = some s := ⟨_, zD (by omega)⟩
   refine zY <| zB <| zB0 <| zB <| qR V <| qM V V V <| qA V V V <| qN <| zB ?_
   refine zV0 [] [_] mo (by decide) V V V V ?_
   refine dO V V V (zS V V Vv) <| dO V V V (zS V V Vv) <| dO V V V (zG V zP sz54 (by decide) V V V (zR0 hs) Vv) ?_
   refine dO V V V (zI V V ta54 V Vv) <| dO V V V (zS V V Vv) <| dO V V V (zS V V Vv) <| dO V V V (zG V zP sz54 (by decide) V V V (zR0 hs2) Vv) ?_
   refine dO V V V (zI V V ta54 V Vv) <| zV V V (.cons (op_eqstruct V (by kernel_rfl) V V V (.inr Vv) Vv) .nil) ?_
   refine zK0 ?_
   refine zK V (fun h24 => ?_) (fun h24 => ?_)
   ·
    refine zB <| qR V <| qA V V V <| qN <| zL ?_
    exact zT (.inr V) Tryz.results109 V (.of_eq (by congr 1; symm; rw [decide_eq_false_iff_not]; intro e; subst e; rw [hs2] at hs; injection hs with hs; subst hs; simp at h24)) (.bool _) Vv
   ·
    refine zY <| qR V <| qO V <| zO0 V V V V <| qM V V V <| qN ?_
    refine ⟨i + 1, by omega, ⟨by omega, ?_⟩, rfl, (.keep V (.keep V (.keep V (.nil)))), (.eq V (zK1 hlt hlen) (.nil))⟩
    rw [List.take_add_one, List.take_add_one, hs, hs2, heq]
    obtain ⟨x1, x2⟩ := x; obtain ⟨y1, y2⟩ := y
    simp at h24
    rw [h24.1, h24.2]
  ·
   have hge : i = a.length := by simp at h14; omega
   refine zF1 <| zB <| qR V <| qA V V V <| qN <| zL ?_
   exact zT (.inr V) Tryz.results109 V (.of_eq (by congr 1; symm; rw [decide_eq_true_iff]; rw [hge, List.take_length, hab, List.take_length] at heq; exact heq)) (.bool _) Vv
theorem clkSame_spec (a b : List Tk) (S : MS) : MCalls Tryz.prog 86 [.lst none 2 (a.map encT), .lst none 2 (b.map encT)] S fun v σ' => v = .bool (decide (a = b)) ∧ σ' = S := by
 refine zU Tryz.func86 V Tryz.ntmps86 (zA V) ?_
 refine zB <| qR V <| qA V V V <| qN <| zB <| qR V <| qM V V V <| qM V V V ?_
 refine qX V V V V co109 (tEqual_spec a b _) ?_
 refine qA V V V <| qN <| zL ?_
 exact zT (.inr V) Tryz.results86 V (.of_eq (V)) (.bool _) Vv
theorem isNaN_spec (m : Int) (S : MS) : MCalls Tryz.prog 134 [.int .i64 m] S fun v σ' => v = .bool false ∧ σ' = S := by
 refine zU Tryz.func134 V Tryz.ntmps134 (zA V) ?_
 refine zB <| qR V <| qA V V V <| qN <| zB <| qR V <| qM V V V <| qM V V V <| qC V V V V V <| qA V V V <| qN <| zL ?_
 exact zT (.inr V) Tryz.results134 V (.of_eq (by simp)) (.bool _) Vv
theorem compare_spec (m n : Int) (S : MS) : MCalls Tryz.prog 118 [.int .i64 m, .int .i64 n] S fun v σ' => v = .int .i64 (cmpI m n) ∧ σ' = S := by
 refine zU Tryz.func118 V Tryz.ntmps118 (zA V) ?_
 refine zB <| qR V <| qA V V V <| qN <| zB <| qR V <| qM V V V ?_
 refine qX V V V V co134 (isNaN_spec m _) ?_
 refine qA V V V <| qN <| zB <| qR V <| qM V V V ?_
 refine qX V V V V co134 (isNaN_spec n _) ?_
 refine qA V V V <| qN <| zB <| zB <| qR V <| qM V V V <| qN <| zQ V (V) <| zY <| zB <| zB <| qR V <| qM V V V <| qN <| zQ V (V) <| zY <| zB <| zB <| qR V <| qM V V V <| qM V V V <| qC V V V V V <| qN ?_
 refine zK V (fun h16 => ?_) (fun h16 => ?_)
 ·
  refine zB <| qR V <| qA V V V <| qN <| zL ?_
  exact zT (.inr V) Tryz.results118 V (.of_eq (by simp only [decide_eq_true_eq] at h16; rw [cmpI, if_pos h16])) (.int _ _) Vv
 ·
  refine zY <| zB <| zB <| qR V <| qM V V V <| qM V V V <| qC V V V V V <| qN ?_
  refine zK V (fun h19 => ?_) (fun h19 => ?_)
  ·
   refine zB <| qR V <| qA V V V <| qN <| zL ?_
   exact zT (.inr V) Tryz.results118 V (.of_eq (by simp only [decide_eq_true_eq, decide_eq_false_iff_not] at h16 h19; rw [cmpI, if_neg h16, if_pos h19])) (.int _ _) Vv
  ·
   refine zY <| zB <| qR V <| qA V V V <| qN <| zL ?_
   exact zT (.inr V) Tryz.results118 V (.of_eq (by simp only [decide_eq_true_eq, decide_eq_false_iff_not] at h16 h19; rw [cmpI, if_neg h16, if_neg h19])) (.int _ _) Vv
theorem byWho_spec (x y : Tk) (S : MS) : MCalls Tryz.prog 137 [encT x, encT y] S fun v σ' => v = .int .i64 (cmpI x.1 y.1) ∧ σ' = S := by
 refine zU Tryz.func137 V Tryz.ntmps137 (zA V) ?_
 refine zB <| qR V <| qB V V V V V <| qB V V V V V <| qA V V V <| qN <| zB <| qR V <| qF V V V zB4 <| qL V V V V ta3 V <| qF V V V zB4 <| qL V V V V ta3 V ?_
 refine qX V V V V co118 (compare_spec x.1 y.1 _) ?_
 refine qA V V V <| qN <| zL ?_
 exact zT (.inr V) Tryz.results137 V (.of_eq (V)) (.int _ _) Vv
theorem join1_spec (x y : Tk) (S : MS) : MCalls Tryz.prog 138 [encT x, encT y] S fun v σ' => v = encT (bothT x y) ∧ σ' = S := by
 refine zU Tryz.func138 V Tryz.ntmps138 (zA V) ?_
 refine zB <| qR V <| qB V V V V V <| qB V V V V V <| qO V <| zL0 V zm54 V V <| qN <| zB <| qR V <| qF V V V zB4 <| qL V V V V ta3 V <| qF V V V zX5 <| qL V V V V ta25 V <| qF V V V zX5 <| qL V V V V ta25 V <| qO V <| op_max2 V V V <| qO V <| zZ1 V zO6 zm54 (.cons zB4 sz3 V V (zA V) (.cons zX5 sz25 V V (zA V) .nil)) (by kernel_rfl) ?_
 refine qO V <| zG0 V V V V sz54 V V (zA V) V <| qN <| zL ?_
 exact zO2 (.inr V) Tryz.results138 V V ta54 V (.refl _) (cl_encT _ (bothT x y)) Vv
theorem merge_spec (a b : List Tk) (cmp : Tk → Tk → Int) (bo : Tk → Tk → Tk) (kc kb : FuncId) (hab : a.length + b.length ≤ 1000000) (hco : CallOk Tryz.prog kc) (hcb : CallOk Tryz.prog kb) (hp : ∀ (x y : Tk) (X : MS), MCalls Tryz.prog kc [encT x, encT y] X fun v σ' => v = .int .i64 (cmp x y) ∧ σ' = X) (hq : ∀ (x y : Tk) (X : MS), MCalls Tryz.prog kb [encT x, encT y] X fun v σ' => v = encT (bo x y) ∧ σ' = X) (S : MS) : MCalls Tryz.prog 136 [.lst none 2 (a.map encT), .lst none 2 (b.map encT), .fn (.func kc) [] [], .fn (.func kb) [] []] S fun v σ' => v = .lst none 2 ((mergeF cmp bo a b).map encT) ∧ σ' = S := by
 refine zU Tryz.func136 V Tryz.ntmps136 (zA V) ?_
 refine zB <| qR V <| qA V V V <| qN <| zB <| qR V <| qA V V V <| qN <| zB <| zB0 <| mwp_row0 9 54 2 V (Nat.le_refl _) V V ?_
 refine zQ1 (α := List Tk × List Tk × List Tk) [(2, _), (3, _)] (fun x => [(0, .lst none 2 (x.1.map encT)), (1, .lst none 2 (x.2.1.map encT)), (9, .lst (some (S.length + 0)) 2 (x.2.2.map encT))]) (fun x => [.row 54 2 x.2.2.length]) (fun x => x.2.2.length + x.1.length + x.2.1.length ≤ a.length + b.length ∧ x.2.2 ++ mergeF cmp bo x.1 x.2.1 = mergeF cmp bo a b) (fun x => x.1.length + x.2.1.length) (⟨a, b, []⟩) (.keep V (.keep V (.nil))) (.keep V (.keep V (.keep V (.nil)))) (⟨by simp, by simp⟩) (V) ?_
 rintro ⟨a', b', out⟩ ⟨hl, he⟩
 dsimp only at hl he ⊢
 refine zB <| zB ?_
 rcases a' with _ | ⟨x, a'⟩
 ·
  refine qR V <| qM V V V <| qE V V zP V <| qC V V V V (gtr_nil) <| qM V V V <| qS V <| qS V <| qS V <| qP V V V V <| qN <| zQ V (V) <| zF1 <| zB <| qR V <| qM V V V <| qM V V V <| qO V <| zG2 V zP el54 V V V (by simp) (by simp only [zW, List.length_nil, zC, zM] at hl ⊢; omega) (by simp only [zW, List.length_nil, zC, zM] at hl ⊢; omega) V ?_
  refine qM V V V <| qO V <| zG2 V zP el54 V V V (by simp) (by simp only [zW, List.length_nil, zC, zM] at hl ⊢; omega) (by simp only [zW, List.length_nil, zC, zM] at hl ⊢; omega) V ?_
  refine qA V V V <| qN <| zL ?_
  exact zT (.inr V) Tryz.results136 V (Sub.trans (.view _ _ _) (.of_eq (by rw [← he]; simp [nil_merge]))) (cl_clock _ _) Vv
 ·
  rcases b' with _ | ⟨y, b'⟩
  ·
   refine qR V <| qM V V V <| qE V V zP V <| qC V V V V (gtr_cons) <| qM V V V <| qM V V V <| qE V V zP V <| qC V V V V (gtr_nil) <| qP V V V V <| qN <| zQ V (V) <| zF1 <| zB <| qR V <| qM V V V <| qM V V V <| qO V <| zG2 V zP el54 V V V (by simp) (by simp only [zW, List.length_nil, zC, zM] at hl ⊢; omega) (by simp only [zW, List.length_nil, zC, zM] at hl ⊢; omega) V ?_
   refine qM V V V <| qO V <| zG2 V zP el54 V V V (by simp) (by simp only [zW, List.length_nil, zC, zM] at hl ⊢; omega) (by simp only [zW, List.length_nil, zC, zM] at hl ⊢; omega) V ?_
   refine qA V V V <| qN <| zL ?_
   exact zT (.inr V) Tryz.results136 V (Sub.trans (.view _ _ _) (.of_eq (by rw [← he]; simp [merge_nil]))) (cl_clock _ _) Vv
  ·
   simp only [zW] at hl
   refine qR V <| qM V V V <| qE V V zP V <| qC V V V V (gtr_cons) <| qM V V V <| qM V V V <| qE V V zP V <| qC V V V V (gtr_cons) <| qP V V V V <| qN <| zA0 V (V) <| zY <| zB0 <| zB ?_
   refine zV0 [] [_] mo (by decide) V V V V ?_
   refine dO V V V (zS V V Vv) <| dO V V V (zS V V Vv) <| dO V V V (zG V zP sz54 (by decide) V V V V Vv) ?_
   refine dO V V V (zI V V ta54 V Vv) <| dO V V V (zS V V Vv) <| dO V V V (zG V zP sz54 (by decide) V V V V Vv) ?_
   refine dO V V V (zI V V ta54 V Vv) <| zV V V (.cons (zC1 V V V hco (hp x y _)) .nil) <| dO V V V (zB1 V V Vv) <| zK0 <| zB0 <| zB <| qR V <| qM V V V <| qC V V V V V <| qA V V V <| qN ?_
   refine zK V (fun h42 => ?_) (fun h42 => ?_)
   ·
    refine zV0 [5] [_, S ++ [.row 54 2 (out.length + 1)]] mo (by decide) V V V V ?_
    refine dO V V V (zS V V Vv) <| zV V V (.cons (zS V V Vv) (.cons (zS V V Vv) (.nil))) <| zV V V (.cons (zG V zP sz54 (by decide) V V V V Vv) (.cons (zG V zP sz54 (by decide) V V V V Vv) (.nil))) ?_
    refine zV V V (.cons (zI V V ta54 V Vv) (.cons (zI V V ta54 V Vv) (.nil))) <| dO V V V (zA1 V zP el54 V V (by decide) (by decide) V V Vv) ?_
    refine zL1 V V V V (zG2 V zP el54 V V V (by simp) (by simp only [zW, List.length_nil, zC, zM] at hl ⊢; omega) (by simp only [zW, List.length_nil, zC, zM] at hl ⊢; omega) V Vv) ?_
    refine zV V V (.cons (zS V V Vv) (.cons (zS V V Vv) (.nil))) <| zV V V (.cons (zL2 V zP sz54 V (.some V V) .none (by simp) (Nat.le_refl _) Vv) (.cons (zL2 V zP sz54 V (.some V V) .none (by simp) (Nat.le_refl _) Vv) (.nil))) ?_
    refine dO V V V (zB1 V V Vv) <| dO V V V (zB1 V V Vv) <| zK0 ?_
    simp only [decide_eq_true_eq] at h42
    refine ⟨⟨a', y :: b', out ++ [x]⟩, by simp only [zW, zM, List.length_nil]; omega, ⟨by simp only [zW, zM, List.length_nil]; omega, by rw [← he, merge_cons, if_pos h42]; simp⟩, by simp, (.keep V (.keep V (.nil))), (.eq V (by simp [List.take_of_length_le]) (.keep V (.eq V (by rw [List.map_append]; rfl) (.nil))))⟩
   ·
    refine zB <| qR V <| qM V V V <| qC V V V V V <| qA V V V <| qN ?_
    refine zK V (fun h53 => ?_) (fun h53 => ?_)
    ·
     refine zV0 [5] [_, S ++ [.row 54 2 (out.length + 1)]] mo (by decide) V V V V ?_
     refine dO V V V (zS V V Vv) <| zV V V (.cons (zS V V Vv) (.cons (zS V V Vv) (.nil))) <| zV V V (.cons (zG V zP sz54 (by decide) V V V V Vv) (.cons (zG V zP sz54 (by decide) V V V V Vv) (.nil))) ?_
     refine zV V V (.cons (zI V V ta54 V Vv) (.cons (zI V V ta54 V Vv) (.nil))) <| dO V V V (zA1 V zP el54 V V (by decide) (by decide) V V Vv) ?_
     refine zL1 V V V V (zG2 V zP el54 V V V (by simp) (by simp only [zW, List.length_nil, zC, zM] at hl ⊢; omega) (by simp only [zW, List.length_nil, zC, zM] at hl ⊢; omega) V Vv) ?_
     refine zV V V (.cons (zS V V Vv) (.cons (zS V V Vv) (.nil))) <| zV V V (.cons (zL2 V zP sz54 V (.some V V) .none (by simp) (Nat.le_refl _) Vv) (.cons (zL2 V zP sz54 V (.some V V) .none (by simp) (Nat.le_refl _) Vv) (.nil))) ?_
     refine dO V V V (zB1 V V Vv) <| dO V V V (zB1 V V Vv) <| zK0 ?_
     simp only [decide_eq_true_eq, decide_eq_false_iff_not] at h42 h53
     refine ⟨⟨x :: a', b', out ++ [y]⟩, by simp only [zW, zM, List.length_nil]; omega, ⟨by simp only [zW, zM, List.length_nil]; omega, by rw [← he, merge_cons, if_neg h42, if_pos h53]; simp⟩, by simp, (.keep V (.keep V (.nil))), (.keep V (.eq V (by simp [List.take_of_length_le]) (.eq V (by rw [List.map_append]; rfl) (.nil))))⟩
    ·
     refine zV0 [10] [_, S ++ [.row 54 2 (out.length + 1)]] mo (by decide) V V V V ?_
     refine dO V V V (zS V V Vv) <| zV V V (.cons (zS V V Vv) (.cons (zS V V Vv) (.nil))) <| zV V V (.cons (zS V V Vv) (.cons (zS V V Vv) (.nil))) <| zV V V (.cons (zG V zP sz54 (by decide) V V V V Vv) (.cons (zG V zP sz54 (by decide) V V V V Vv) (.nil))) ?_
     refine zV V V (.cons (zI V V ta54 V Vv) (.cons (zI V V ta54 V Vv) (.nil))) <| zV V V (.cons (zS V V Vv) (.cons (zS V V Vv) (.nil))) <| zV V V (.cons (zG V zP sz54 (by decide) V V V V Vv) (.cons (zG V zP sz54 (by decide) V V V V Vv) (.nil))) ?_
     refine zV V V (.cons (zI V V ta54 V Vv) (.cons (zI V V ta54 V Vv) (.nil))) <| zV V V (.cons (zC1 V V V hcb (hq x y _)) .nil) <| dO V V V (zA1 V zP el54 V V (by decide) (by decide) V V Vv) ?_
     refine zL1 V V V V (zG2 V zP el54 V V V (by simp) (by simp only [zW, List.length_nil, zC, zM] at hl ⊢; omega) (by simp only [zW, List.length_nil, zC, zM] at hl ⊢; omega) V Vv) ?_
     refine zV V V (.cons (zS V V Vv) (.cons (zS V V Vv) (.nil))) <| zV V V (.cons (zL2 V zP sz54 V (.some V V) .none (by simp) (Nat.le_refl _) Vv) (.cons (zL2 V zP sz54 V (.some V V) .none (by simp) (Nat.le_refl _) Vv) (.nil))) ?_
     refine zV V V (.cons (zS V V Vv) (.cons (zS V V Vv) (.nil))) <| zV V V (.cons (zL2 V zP sz54 V (.some V V) .none (by simp) (Nat.le_refl _) Vv) (.cons (zL2 V zP sz54 V (.some V V) .none (by simp) (Nat.le_refl _) Vv) (.nil))) ?_
     refine dO V V V (zB1 V V Vv) <| dO V V V (zB1 V V Vv) <| dO V V V (zB1 V V Vv) <| zK0 ?_
     simp only [decide_eq_false_iff_not] at h42 h53
     refine ⟨⟨a', b', out ++ [bo x y]⟩, by simp only [zW, zM, List.length_nil]; omega, ⟨by simp only [zW, zM, List.length_nil]; omega, by rw [← he, merge_cons, if_neg h42, if_neg h53]; simp⟩, by simp, (.keep V (.keep V (.nil))), (.eq V (by simp [List.take_of_length_le]) (.eq V (by simp [List.take_of_length_le]) (.eq V (by rw [List.map_append]; rfl) (.nil))))⟩
theorem clkJoin_spec (a b : List Tk) (hab : a.length + b.length ≤ 1000000) (S : MS) : MCalls Tryz.prog 120 [.lst none 2 (a.map encT), .lst none 2 (b.map encT)] S fun v σ' => v = .lst none 2 ((joinF a b).map encT) ∧ σ' = S := by
 refine zU Tryz.func120 V Tryz.ntmps120 (zA V) ?_
 refine zB <| qR V <| qA V V V <| qN <| zB <| qR V <| qM V V V <| qM V V V ?_
 refine qX V V V V co136 (merge_spec a b (fun x y => cmpI x.1 y.1) bothT 137 138 hab co137 co138 byWho_spec join1_spec _) ?_
 refine qA V V V <| qN <| zL ?_
 exact zT (.inr V) Tryz.results120 V (.of_eq (V)) (cl_clock _ _) Vv
theorem clkCmp_spec (a b : List Tk) (hab : a.length + b.length ≤ 1000000) (S : MS) : MCalls Tryz.prog 100 [.lst none 2 (a.map encT), .lst none 2 (b.map encT)] S fun v σ' => v = .int .i64 (cmpF a b) ∧ σ' = S := by
 refine zU Tryz.func100 V Tryz.ntmps100 (zA V) ?_
 refine zB <| qR V <| qA V V V <| qN <| zB <| qR V <| qM V V V <| qM V V V ?_
 refine qX V V V V co120 (clkJoin_spec a b hab _) ?_
 refine qA V V V <| qN <| zB <| zB0 <| zB <| qR V <| qM V V V <| qM V V V ?_
 refine qX V V V V co86 (clkSame_spec a b _) ?_
 refine qA V V V <| qN ?_
 refine zK V (fun h9 => ?_) (fun h9 => ?_)
 ·
  refine zB <| qR V <| qA V V V <| qN <| zL ?_
  exact zT (.inr V) Tryz.results100 V (.of_eq (by unfold cmpF; simp_all)) (.int _ _) Vv
 ·
  refine zB <| qR V <| qM V V V <| qM V V V ?_
  refine qX V V V V co86 (clkSame_spec (joinF a b) b _) ?_
  refine qA V V V <| qN ?_
  refine zK V (fun h13 => ?_) (fun h13 => ?_)
  ·
   refine zB <| qR V <| qA V V V <| qN <| zL ?_
   exact zT (.inr V) Tryz.results100 V (.of_eq (by unfold cmpF; simp_all)) (.int _ _) Vv
  ·
   refine zB <| qR V <| qM V V V <| qM V V V ?_
   refine qX V V V V co86 (clkSame_spec (joinF a b) a _) ?_
   refine qA V V V <| qN ?_
   refine zK V (fun h17 => ?_) (fun h17 => ?_)
   ·
    refine zB <| qR V <| qA V V V <| qN <| zL ?_
    exact zT (.inr V) Tryz.results100 V (.of_eq (by unfold cmpF; simp_all)) (.int _ _) Vv
   ·
    refine zY <| zB <| qR V <| qA V V V <| qN <| zL ?_
    exact zT (.inr V) Tryz.results100 V (.of_eq (by unfold cmpF; simp_all)) (.int _ _) Vv
end Go.Proofs.YtnfcnpdpfgcchaaGreat
namespace Go.MV
open Go Go.RowKit
section
def exCode : Exit → Code
 | .ret => .ret
 | .exit x => .exit x
 | _ => .skip
theorem first_bad (p : Nat → Bool) : ∀ n : Nat, (∀ j, j < n → p j = true) ∨ ∃ m, m < n ∧ p m = false ∧ ∀ j, j < m → p j = true
 | 0 => .inl fun j h => by omega
 | n + 1 => by
  rcases first_bad p n with hall | ⟨m, h1, h2, h3⟩
  ·cases h : p n with
   | false => exact .inr ⟨n, by omega, h, hall⟩
   | true =>
    refine .inl fun j hj => ?_
    rcases Nat.lt_or_ge j n with h' | h'
    ·exact hall j h'
    ·have : j = n := by omega
     subst this
     exact h
  ·exact .inr ⟨m, by omega, h2, h3⟩
theorem iterOk_of {P : Program} {k : FuncId} {first caps : List MV} {ys : List (List MV)} {ok : MS → Prop} (h : ∀ (id : Nat) (T : Nat → MS) (m : Nat), (∀ j, ok (T j)) → m ≤ ys.length → (∀ j y, j < m → ys[j]? = some y → YStep P id y (T j) true (T (j + 1))) → (∀ j y, j = m → ys[j]? = some y → YStep P id y (T j) false (T (j + 1))) →
  MCalls P k (first ++ [.yld id] ++ caps) (T 0) fun v σ' => v = .tup [] ∧ σ' = T (if m < ys.length then m + 1 else m)) : IterOk P k first caps ys ok := by
 intro id T m hok hyt
 refine ⟨fun hm => ?_, fun y hy hyf => ?_⟩
 ·refine (h id T m hok (by omega) hyt (fun j y hj hy => ?_)).mono ?_
  ·have := (zH.1 hy).1; omega
  ·rintro v σ' ⟨_, h⟩
   rw [h, if_neg (by omega)]
 ·have hm := (zH.1 hy).1
  refine (h id T m hok (by omega) hyt (fun j z hj hz => ?_)).mono ?_
  ·subst hj
   rw [hy] at hz
   injection hz with hz
   subst hz
   exact hyf
  ·rintro v σ' ⟨_, h⟩
   rw [h, if_pos hm]
section
variable {P : Program} {rd : Option Nat} {N n : Nat} {Q : Exit → Env → MS → Prop} {env : Env} {S : MS}
theorem evos_len {env : Env} : ∀ (l : List Operand) (ys : List MV), evos env l = some ys → l.length = ys.length := by
 intro l
 induction l with
 | nil => intro ys h; injection h with h; subst h; rfl
 | cons x l ih =>
  intro ys h
  simp only [evos] at h
  cases hx : evo env x with
  | none => rw [hx] at h; cases h
  | some m =>
   rw [hx] at h
   cases hl : evos env l with
   | none => simp only [hl] at h; cases h
   | some ms =>
    simp only [hl] at h
    injection h with h
    subst h
    simp [ih _ hl]
theorem cls_swap {A B B' C0 C' : MS} {s s' : LoopState} {q q' : Option Code} {ls : LS} {l : Nat} (h1 : B.length = l) (h2 : B'.length = l) (hB : ∀ o, o ∈ B' → ∀ n, (A ++ C0).length ≤ n → o.cl n) (hm : C0.length = l) (h : ClS ((A ++ B) ++ .loop s q ls :: C')) : ClS ((A ++ B') ++ .loop s' q' ls :: C') := by
 have hle : ((A ++ B') ++ MObj.loop s' q' ls :: C').length = ((A ++ B) ++ MObj.loop s q ls :: C').length := by simp [h1, h2]
 intro id o hid
 rw [hle]
 by_cases c1 : id < A.length
 ·refine h id o ?_
  rw [zZ, List.getElem?_append_left c1] at hid ⊢
  exact hid
 ·by_cases c2 : id < (A ++ B').length
  ·rw [List.getElem?_append_left c2, List.getElem?_append_right (by omega)] at hid
   refine hB o (zC0 hid) _ ?_
   simp only [zM, zW]
   omega
  ·by_cases c3 : id = (A ++ B').length
   ·subst c3
    rw [zS4] at hid
    injection hid with hid
    subst hid
    have := h (A ++ B).length (.loop s q ls) zS4
    exact this
   ·refine h id o ?_
    have hl : (A ++ B).length = (A ++ B').length := by simp [h1, h2]
    rw [List.getElem?_append_right (by omega)] at hid ⊢
    rw [hl]
    obtain ⟨d, hd⟩ : ∃ d, id - (A ++ B').length = d + 1 := ⟨id - (A ++ B').length - 1, by omega⟩
    rw [hd] at hid ⊢
    simpa using hid
theorem _root_.zG6 : type_of% @cls_swap := @cls_swap
theorem cls_loop {A : MS} {s : LoopState} {q : Option Code} {ps : Array Tmp} {assign body : Code} {env : Env} {n : Nat} (h : ClS A) (he : ∀ t x, get env t = some x → Cl A.length x) : ClS (A ++ [.loop s q ⟨ps, assign, body, env, n⟩]) := by
 intro id o hid
 by_cases c : id < A.length
 ·rw [List.getElem?_append_left c] at hid
  have := h id o hid
  cases o with
  | cells l => exact fun x hx => (this x hx).mono (by simp)
  | loop s p ls => exact fun t x hx => (this t x hx).mono (by simp)
  | row _ _ _ => exact trivial
  | mp _ es => exact fun e he => (this e he).mono (by simp)
  | mit m _ _ _ => exact Nat.lt_of_lt_of_le this (by simp)
  | pin _ _ => exact trivial
  | tcells _ l => exact fun x hx => (this x hx).mono (by simp)
  | orow _ _ _ l => exact fun x hx => (this x hx).mono (by simp)
  | fixed _ _ => exact trivial
  | gone => exact trivial
 ·rw [List.getElem?_append_right (by omega)] at hid
  obtain ⟨d, hd⟩ : ∃ d, id - A.length = d := ⟨_, rfl⟩
  rw [hd] at hid
  cases d with
  | zero =>
   simp at hid
   subst hid
   exact fun t x hx => (he t x hx).mono (by simp)
  | succ d => simp at hid
theorem IterOk.weak {P : Program} {k : FuncId} {first caps : List MV} {ys : List (List MV)} {ok ok' : MS → Prop} (h : IterOk P k first caps ys ok) (hw : ∀ σ, ok' σ → ok σ) : IterOk P k first caps ys ok' :=
 fun id T m hok hyt => h id T m (fun j => hw _ (hok j)) hyt
theorem mwp_rangeB {f : Operand} {ps : Array Tmp} {assign body : Code} {k : FuncId} {first caps : List MV} {ys : List (List MV)} {ok : MS → Prop} {L0 : MS} (ex : Exit) (hex : ex = .ret ∨ ∃ x, ex = .exit x) (p : Nat → Bool) (L Ls : Nat → MS) (hlen : ∀ j, (L j).length = (L 0).length) (hlens : ∀ j, (Ls j).length = (L 0).length) (hL0 : L0 = L 0)
  (hcl : ∀ j o, o ∈ L j → ∀ n, (S ++ L 0).length ≤ n → o.cl n) (hcls : ∀ j o, o ∈ Ls j → ∀ n, (S ++ L 0).length ≤ n → o.cl n)
  (hf : evo env f = some (.fn (.func k) first caps)) (hb : CallOk P k) (hrd : rd = none) (hN : N ≤ S.length)
  (hit : IterOk P k first caps ys (fun σ => ok σ ∧ ClS σ)) (hok : ∀ j, ok ((S ++ L j) ++ [.loop .ready none ⟨ps, assign, body, env, n⟩])) (hoks : ∀ j s q, ok ((S ++ Ls j) ++ [.loop s q ⟨ps, assign, body, env, n⟩])) (hpb : ps.toList.all (fun t => Nat.blt t n) = true) (hps : ∀ y ∈ ys, ps.size = y.length)
  (hround : ∀ j y, ys[j]? = some y → (∀ i, i < j → p i = true) → ∀ L' : MS, mwp P (some (S ++ L 0).length) ((S ++ L j).length + 1 + L'.length) n assign (fun e env1 σ1 => e = .normal ∧ ∃ J, σ1 = ((S ++ L j) ++ .loop .ready none ⟨ps, assign, body, env, n⟩ :: L') ++ J ∧
   mwp P (some (S ++ L 0).length) ((S ++ L j).length + 1 + L'.length) n body (fun e2 env2 σ2 =>
    (p j = true ∧ e2 = .normal ∧ ∃ junk, σ2 = ((S ++ L (j + 1)) ++ .loop .busy none ⟨ps, assign, body, env, n⟩ :: L') ++ junk) ∨
    (p j = false ∧ e2 = ex ∧ ∃ junk, σ2 = ((S ++ Ls j) ++ .loop .busy none ⟨ps, assign, body, env, n⟩ :: L') ++ junk)) env1 (((S ++ L j) ++ .loop .busy none ⟨ps, assign, body, env, n⟩ :: L') ++ J)) (bindPs ps.toList y env) ((S ++ L j) ++ .loop .ready none ⟨ps, assign, body, env, n⟩ :: L'))
  (hend : (∀ j, j < ys.length → p j = true) → Q .normal env ((S ++ L ys.length) ++ [.gone]))
  (hstop : ∀ j y, ys[j]? = some y → p j = false → Q ex env ((S ++ Ls j) ++ [.gone])) : mwp P rd N n (.rangeFunc f ps assign body) Q env (S ++ L0) := by
 subst hL0 hrd
 have hid : ∀ j, (S ++ L j).length = (S ++ L 0).length := fun j => by simp [hlen j]
 have hids : ∀ j, (S ++ Ls j).length = (S ++ L 0).length := fun j => by simp [hlens j]
 refine zV1 fun hce hcs => ?_
 have hc0 : ∀ s q, ClS ((S ++ L 0) ++ [.loop s q ⟨ps, assign, body, env, n⟩]) := fun s q => cls_loop hcs hce
 refine mwp_range hf hb (fun id h => by cases h) (by simp; omega) ?_
 have hstep : ∀ j y, ys[j]? = some y → (∀ i, i < j → p i = true) → ∀ (K : MV → MS → Prop) (L' : MS) (rd' : Option Nat) (o : Oper) (env' : Env) (f' : Operand) (args : Array Operand) (ts : Array TypeId), o.op = .call { callee := .value f', args := args, argTypes := ts } → evo env' f' = some (.yld (S ++ L 0).length) → evos env' args.toList = some y →
   (p j = true → K (.bool true) ((S ++ L (j + 1)) ++ .loop .ready none ⟨ps, assign, body, env, n⟩ :: L')) →
   (p j = false → K (.bool false) ((S ++ Ls j) ++ .loop .done (some (exCode ex)) ⟨ps, assign, body, env, n⟩ :: L')) →
   OpWp P rd' o env' ((S ++ L j) ++ .loop .ready none ⟨ps, assign, body, env, n⟩ :: L') K := by
  intro j y hy hbef K L' rd' o env' f' args ts ho hf' hargs hk1 hk2
  have hsz : args.size = y.length := by
   have := evos_len _ _ hargs
   simpa using this
  have hget : ((S ++ L j) ++ MObj.loop .ready none ⟨ps, assign, body, env, n⟩ :: L')[(S ++ L 0).length]? = some (.loop .ready none ⟨ps, assign, body, env, n⟩) := by
   rw [← hid j]; exact zS4
  have hN' : ((S ++ L j) ++ MObj.loop .ready none ⟨ps, assign, body, env, n⟩ :: L').length = (S ++ L j).length + 1 + L'.length := by
   rw [zM, zW]; omega
  refine op_yield ho hf' hargs hget (by rw [hsz]; exact hps y (zC0 hy)) hpb ?_
  rw [hN']
  refine zV1 fun _ hcl0 => ?_
  refine mwp_mono (hround j y hy hbef L') ?_
  rintro e env1 σ1 ⟨rfl, J, rfl, h⟩
  refine ⟨rfl, none, zT0 hget, ?_⟩
  have hset : (((S ++ L j) ++ MObj.loop .ready none ⟨ps, assign, body, env, n⟩ :: L') ++ J).set (S ++ L 0).length (.loop .busy none ⟨ps, assign, body, env, n⟩) = ((S ++ L j) ++ .loop .busy none ⟨ps, assign, body, env, n⟩ :: L') ++ J := by
   rw [set_app hget, ← hid j]; exact congrArg (· ++ J) zD6
  rw [hset]
  refine mwp_mono h ?_
  rintro e2 env2 σ2 (⟨hp, rfl, junk, rfl⟩ | ⟨hp, rfl, junk, rfl⟩)
  ·refine ⟨_, junk, none, ⟨ps, assign, body, env, n⟩, rfl, ?_, .inr (zG6 (hlen j) (hlen (j + 1)) (hcl (j + 1)) (by simp) hcl0), ?_, ?_⟩
   ·have h1 := hid (j + 1)
    have h2 := hid j
    simp only [zM, zW] at *
    omega
   ·rw [← hid (j + 1)]; exact zS4
   ·show K (.bool true) _
    rw [← hid (j + 1), zD6]
    exact hk1 hp
  ·refine ⟨_, junk, none, ⟨ps, assign, body, env, n⟩, rfl, ?_, .inr (zG6 (hlen j) (hlens j) (hcls j) (by simp) hcl0), ?_, ?_⟩
   ·have h1 := hids j
    have h2 := hid j
    simp only [zM, zW] at *
    omega
   ·rw [← hids j]; exact zS4
   ·rcases hex with rfl | ⟨x, rfl⟩
    ·show K (.bool false) _
     rw [← hids j, zD6]
     exact hk2 hp
    ·show K (.bool false) _
     rw [← hids j, zD6]
     exact hk2 hp
 have hgo : ∀ m, (∀ j, j < m → p j = true) → ∀ (T : Nat → MS), (∀ j, j ≤ m → T j = (S ++ L j) ++ [.loop .ready none ⟨ps, assign, body, env, n⟩]) → ∀ j y, j < m → ys[j]? = some y → YStep P (S ++ L 0).length y (T j) true (T (j + 1)) := by
  intro m hm T hT j y hj hy L' rd' o env' f' args ts ho hf' hargs
  have e1 : ∀ i (X : MObj), ((S ++ L i) ++ [X]) ++ L' = (S ++ L i) ++ X :: L' := fun i X => by simp
  rw [hT j (by omega), hT (j + 1) (by omega), e1, e1]
  exact hstep j y hy (fun i hi => hm i (by omega)) _ L' rd' o env' f' args ts ho hf' hargs (fun _ => ⟨rfl, rfl⟩) (fun h => by rw [hm j hj] at h; cases h)
 rcases first_bad p ys.length with hall | ⟨m, hm, hp, hbef⟩
 ·refine ((hit (S ++ L 0).length (fun j => (S ++ L j) ++ [.loop .ready none ⟨ps, assign, body, env, n⟩]) ys.length (fun j => ⟨hok j, zG6 (hlen 0) (hlen j) (hcl j) V (hc0 .ready none)⟩) (hgo ys.length hall _ (fun j _ => V))).1 V).mono ?_
  rintro v σ' rfl
  refine ⟨.ready, none, by rw [← hid ys.length]; exact zS4, by simp, ?_⟩
  show Q .normal env _
  rw [← hid ys.length, zD6]
  exact hend hall
 ·obtain ⟨y, hy⟩ : ∃ y, ys[m]? = some y := ⟨_, zD hm⟩
  let q : Code := exCode ex
  let T : Nat → MS := fun j => if j ≤ m then (S ++ L j) ++ [.loop .ready none ⟨ps, assign, body, env, n⟩] else (S ++ Ls m) ++ [.loop .done (some q) ⟨ps, assign, body, env, n⟩]
  have hT : ∀ j, j ≤ m → T j = (S ++ L j) ++ [.loop .ready none ⟨ps, assign, body, env, n⟩] := fun j hj => by simp [T, hj]
  have hT1 : T (m + 1) = (S ++ Ls m) ++ [.loop .done (some q) ⟨ps, assign, body, env, n⟩] := by simp [T]
  have h0 : T 0 = (S ++ L 0) ++ [.loop .ready none ⟨ps, assign, body, env, n⟩] := hT 0 (by omega)
  have hokT : ∀ j, ok (T j) ∧ ClS (T j) := fun j => by
   by_cases hj : j ≤ m
   ·rw [hT j hj]; exact ⟨hok j, zG6 (hlen 0) (hlen j) (hcl j) rfl (hc0 .ready none)⟩
   ·simp only [T, if_neg hj]; exact ⟨hoks m _ _, zG6 (hlen 0) (hlens m) (hcls m) rfl (hc0 .ready none)⟩
  have := (hit (S ++ L 0).length T m hokT (hgo m hbef T hT)).2 y hy (by
   intro L' rd' o env' f' args ts ho hf' hargs
   have e1 : ∀ (A : MS) (X : MObj), ((S ++ A) ++ [X]) ++ L' = (S ++ A) ++ X :: L' := fun i X => by simp
   rw [hT m (Nat.le_refl _), hT1, e1, e1]
   exact hstep m y hy hbef _ L' rd' o env' f' args ts ho hf' hargs (fun h => by rw [hp] at h; cases h) (fun _ => ⟨rfl, rfl⟩))
  rw [h0] at this
  refine this.mono ?_
  rintro v σ' rfl
  rw [hT1]
  refine ⟨.done, some q, by rw [← hids m]; exact zS4, by simp, ?_⟩
  rw [← hids m, zD6]
  rcases hex with rfl | ⟨x, rfl⟩
  ·exact hstop m y hy hp
  ·exact hstop m y hy hp
end
section
variable {P : Program} {rd : Option Nat} {o : Oper} {env : Env} {σ : MS} {K : MV → MS → Prop}
theorem op_load_last {t : TypeId} {x : Operand} {off : Nat} {l : List MV} {ta : Option Nat} {m : MV} (ho : o.op = .load t x) (hx : evo env x = some (.ref σ.length off)) (ht : tyAgg P t = some ta) (hm : loadMV ta l off = some m) (h : K m (σ ++ [.cells l])) : OpWp P rd o env (σ ++ [.cells l]) K :=
 zR ho hx zS4 ht hm h
theorem op_store_last {t : TypeId} {x y : Operand} {off : Nat} {l : List MV} {m : MV} {k : Nat} (ho : o.op = .store t x y) (hx : evo env x = some (.ref σ.length off)) (hy : evo env y = some m) (hk : szOf P t = some k) (hm : m.cells.length = k) (h1 : m.cells.all MV.one = true) (hle : off + k ≤ l.length)
  (h : K (.tup []) (σ ++ [.cells (setMany l off m.cells)])) : OpWp P rd o env (σ ++ [.cells l]) K :=
 zR4 ho hx hy zS4 hk hm h1 hle (by rw [zD6]; exact h)
theorem _root_.zM4 : type_of% @op_store_last := @op_store_last
theorem YStep.at2 {id : Nat} {xs : List MV} {S S' J J' : MS} {b : Bool} (h : YStep P id xs S b S') {f : Operand} {args : Array Operand} {ts : Array TypeId} (ho : o.op = .call { callee := .value f, args := args, argTypes := ts }) (hf : evo env f = some (.yld id)) (hx : evos env args.toList = some xs) (hk : K (.bool b) ((S' ++ J) ++ J')) : OpWp P rd o env ((S ++ J) ++ J') K := by
 have := h (J ++ J') rd o env f args ts ho hf hx
 rw [← zZ] at this
 refine this.mono ?_
 rintro v σ' ⟨rfl, rfl⟩
 rw [← zZ]
 exact hk
end
theorem get_box {A R : MS} {x x' y : MObj} : ((A ++ [x, y]) ++ R)[(A ++ [x']).length]? = some y := by rw [zM, zZ, getElem?_own]; rfl
theorem get_rt {A L' : MS} {x y c : MObj} : (A ++ ((y :: L') ++ [c]))[(A ++ x :: L').length]? = some c := by
 have e : (A ++ x :: L').length = (A ++ y :: L').length := by simp
 rw [← zZ, e]
 exact zS4
theorem mwp_abs {P : Program} {rd : Option Nat} {N n : Nat} {c : Code} {Q : Exit → Env → MS → Prop} {env : Env} {A R : MS} (h : ∀ R', R' = R → mwp P rd N n c Q env (A ++ R')) : mwp P rd N n c Q env (A ++ R) := h R rfl
section
variable {P : Program} {rd : Option Nat} {o : Oper} {env : Env} {σ σ2 : MS} {K : MV → MS → Prop}
theorem op_viewTo {x y : MV} (h : OpWp P rd o env σ fun v σ' => v = x ∧ σ' = σ2) (hs : Sub x y) (hk : K y σ2) : OpWp P rd o env σ K := by
 intro g w a F hF hr hop
 refine Oper.wpIn_mono ?_ (h g w a F hF hr hop)
 rintro a' w' ⟨v, e, x', σ', g', ⟨rfl, rfl⟩, hrel, hrd, hle⟩
 exact ⟨v, e, y, _, g', hk, hrel, hs _ _ _ hrd, hle⟩
theorem _root_.zS1 : type_of% @op_viewTo := @op_viewTo
variable {N n : Nat} {Q : Exit → Env → MS → Prop}
theorem mwp_join {c rest : Code} {E : Env} (σ3 : MS) (h1 : mwp P rd N n c (fun e env1 σ1 => e = .normal ∧ σ1 = σ3 ∧ EnvSub env1 E) env σ) (h2 : mwp P rd N n rest Q E σ3) : mwp P rd N n (.seq c rest) Q env σ := by
 refine zB (mwp_mono h1 ?_)
 rintro e env1 σ1 ⟨rfl, rfl, hs⟩
 exact mwp_env hs.get_ h2
end
theorem mwp_cellrowAt {P : Program} {rd : Option Nat} {N n : Nat} {c : Code} {Q : Exit → Env → MS → Prop} {env : Env} {S L L' : MS} (k i ty sz : Nat) {m : Nat} {l : List MV} (hk : L[k]? = some (.cells l)) (hi : l[i]? = some .lst0) (hN : N ≤ S.length) (hm : L.length = m) (hL : L.set k (.cells (l.set i (.lst (some (S.length + m)) sz []))) ++ [.row ty sz 0] = L') (h : mwp P rd N n c Q env (S ++ L')) : mwp P rd N n c Q env (S ++ L) := by
 subst hm hL
 refine zO5 (fun g w tmps hr he => ?_) h
 obtain ⟨r1, l1, d1⟩ := tok_new hr ty sz
 have hlen : (S ++ L).length = S.length + L.length := zM
 refine ⟨_, ?_, he.mono l1, l1.toN N, fun F hF => hF.mono (l1.toN N)⟩
 have hlt := (zH.1 hk).1
 have e : S ++ (L.set k (.cells (l.set i (.lst (some (S.length + L.length)) sz []))) ++ [.row ty sz 0]) = ((S ++ L) ++ [MObj.row ty sz 0]).set (S.length + k) (.cells (l.set i (.lst (some (S.length + L.length)) sz []))) := by
  rw [zZ, zE3, List.set_append_left _ _ hlt]
 rw [e]
 refine r1.recell (l := l) (by rw [zZ, getElem?_own, List.getElem?_append_left hlt]; exact hk) fun us hus => ?_
 obtain ⟨u, hu, hrd⟩ := hus.get hi
 have hs := hus.set i (x := .lst (some (S.length + L.length)) sz []) (u := u) (by rw [hrd.inv_lst0, ← hlen]; exact d1)
 obtain ⟨hul, hue⟩ := zH.1 hu
 rwa [show us.set i u = us by rw [← hue]; exact List.set_getElem_self hul] at hs
end
end Go.MV
namespace Go.Proofs.YtnfcnpdpfgcchaaGreat
open Go Go.MV
theorem not_dec {p : Prop} [Decidable p] (h : (!decide p) = false) : p := by simpa using h
theorem two_of {ins : List Sch} (h : partsF 5 = (ins.length : Int)) : ∃ x y, ins = [x, y] := by
 have h2 : ins.length = 2 := by
  have : partsF 5 = 2 := by decide
  omega
 match ins, h2 with
 | [x, y], _ => exact ⟨x, y, rfl⟩
theorem _root_.zQ5 : type_of% @two_of := @two_of
theorem xEqual_spec (a b : List Bs) (S : MS) : MCalls Tryz.prog 84 [.lst none 1 (a.map encX), .lst none 1 (b.map encX)] S fun v σ' => v = .bool (decide (a = b)) ∧ σ' = S := by
 refine zU Tryz.func84 V Tryz.ntmps84 (zA V) ?_
 refine zI2 (t := 0) V fun hlen => ?_
 rw [zC] at hlen
 refine zB <| qR V <| qA V V V <| qN <| zB <| zB <| qR V <| qM V V V <| qE V V zX V <| qM V V V <| qE V V zX V <| qC V V V V V <| qN ?_
 refine zK V (fun h10 => ?_) (fun h10 => ?_)
 ·
  refine zB <| qR V <| qA V V V <| qN <| zL ?_
  exact zT (.inr V) Tryz.results84 V (.of_eq (by congr 1; symm; rw [decide_eq_false_iff_not]; intro e; subst e; simp at h10)) (.bool _) Vv
 ·
  have hab : a.length = b.length := by simp at h10; omega
  refine zY <| zB <| zB <| qR V <| qM V V V <| qE V V zX V <| qM V V V <| qN <| zB0 ?_
  refine zQ1 (α := Nat) [(0, _), (1, _), (12, _)] (fun i => [(13, .int .i64 (i : Int))]) (fun i => []) (fun i => i ≤ a.length ∧ a.take i = b.take i) (fun i => a.length - i) (0) (.keep V (.keep V (.keep V (.nil)))) (.keep V (.nil)) (⟨by omega, rfl⟩) (V) ?_
  rintro i ⟨hi, heq⟩
  refine zB <| qR V <| qC V V V V V <| qN <| zB ?_
  refine zK V (fun h14 => ?_) (fun h14 => ?_)
  ·
   have hlt : i < a.length := by simpa using h14
   obtain ⟨x, hs⟩ : ∃ q_, a[i]? = some q_ := ⟨_, zD hlt⟩
   obtain ⟨y, hs2⟩ : ∃ s, b[i]? = some s := ⟨_, zD (by omega)⟩
   refine zY <| zB <| zB0 <| zB <| qR V <| qM V V V <| qA V V V <| qN <| zB ?_
   refine zV0 [] [_] mo (by decide) V V V V ?_
   refine dO V V V (zS V V Vv) <| dO V V V (zS V V Vv) <| dO V V V (zG V zX sz9 (by decide) V V V (zR0 hs) Vv) ?_
   refine dO V V V (zI V V ta9 V Vv) <| dO V V V (zS V V Vv) <| dO V V V (zS V V Vv) <| dO V V V (zG V zX sz9 (by decide) V V V (zR0 hs2) Vv) ?_
   refine dO V V V (zI V V ta9 V Vv) <| dO V V V (zM3 V V V V Vv) <| zK0 ?_
   refine zK V (fun h24 => ?_) (fun h24 => ?_)
   ·
    refine zB <| qR V <| qA V V V <| qN <| zL ?_
    exact zT (.inr V) Tryz.results84 V (.of_eq (by congr 1; symm; rw [decide_eq_false_iff_not]; intro e; subst e; rw [hs2] at hs; injection hs with hs; subst hs; simp at h24)) (.bool _) Vv
   ·
    refine zY <| qR V <| qO V <| zO0 V V V V <| qM V V V <| qN ?_
    refine ⟨i + 1, by omega, ⟨by omega, ?_⟩, rfl, (.keep V (.keep V (.keep V (.nil)))), (.eq V (zK1 hlt hlen) (.nil))⟩
    rw [List.take_add_one, List.take_add_one, hs, hs2, heq]
    simp at h24
    rw [h24]
  ·
   have hge : i = a.length := by simp at h14; omega
   refine zF1 <| zB <| qR V <| qA V V V <| qN <| zL ?_
   exact zT (.inr V) Tryz.results84 V (.of_eq (by congr 1; symm; rw [decide_eq_true_iff]; rw [hge, List.take_length, hab, List.take_length] at heq; exact heq)) (.bool _) Vv
theorem cEqualF_spec (a b : List (List Tk)) (S : MS) : MCalls Tryz.prog 108 [.lst none 1 (a.map encC), .lst none 1 (b.map encC), .fn (.func 86) [] []] S fun v σ' => v = .bool (decide (a = b)) ∧ σ' = S := by
 refine zU Tryz.func108 V Tryz.ntmps108 (zA V) ?_
 refine zI2 (t := 0) V fun hlen => ?_
 rw [zC] at hlen
 refine zB <| qR V <| qA V V V <| qN <| zB <| zB <| qR V <| qM V V V <| qE V V zN V <| qM V V V <| qE V V zN V <| qC V V V V V <| qN ?_
 refine zK V (fun h14 => ?_) (fun h14 => ?_)
 ·
  refine zB <| qR V <| qA V V V <| qN <| zL ?_
  exact zT (.inr V) Tryz.results108 V (.of_eq (by congr 1; symm; rw [decide_eq_false_iff_not]; intro e; subst e; simp at h14)) (.bool _) Vv
 ·
  have hab : a.length = b.length := by simp at h14; omega
  refine zY <| zB <| zB <| qR V <| qM V V V <| qE V V zN V <| qM V V V <| qN <| zB0 ?_
  refine zQ1 (α := Nat) [(1, _), (2, _), (15, _), (16, _)] (fun i => [(17, .int .i64 (i : Int))]) (fun i => []) (fun i => i ≤ a.length ∧ a.take i = b.take i) (fun i => a.length - i) (0) (.keep V (.keep V (.keep V (.keep V (.nil))))) (.keep V (.nil)) (⟨by omega, rfl⟩) (V) ?_
  rintro i ⟨hi, heq⟩
  refine zB <| qR V <| qC V V V V V <| qN <| zB ?_
  refine zK V (fun h18 => ?_) (fun h18 => ?_)
  ·
   have hlt : i < a.length := by simpa using h18
   obtain ⟨x, hs⟩ : ∃ q_, a[i]? = some q_ := ⟨_, zD hlt⟩
   obtain ⟨y, hs2⟩ : ∃ s, b[i]? = some s := ⟨_, zD (by omega)⟩
   refine zY <| zB <| zB0 <| zB <| qR V <| qM V V V <| qO V <| zG V zN sz55 (by decide) V V V (zR0 hs) ?_
   refine qO V <| zI V V ta55 V <| qA V V V <| qA V V V <| qN <| zB <| qR V <| qM V V V <| qM V V V <| qO V <| zG V zN sz55 (by decide) V V V (zR0 hs2) ?_
   refine qO V <| zI V V ta55 V <| qA V V V <| qN <| zB <| qR V <| qM V V V <| qM V V V <| qM V V V ?_
   refine qX V V V V co86 (clkSame_spec x y _) ?_
   refine qO V <| zY0 V V <| qN ?_
   refine zK V (fun h30 => ?_) (fun h30 => ?_)
   ·
    refine zB <| qR V <| qA V V V <| qN <| zL ?_
    exact zT (.inr V) Tryz.results108 V (.of_eq (by congr 1; symm; rw [decide_eq_false_iff_not]; intro e; subst e; rw [hs2] at hs; injection hs with hs; rw [hs] at h30; simp at h30)) (.bool _) Vv
   ·
    refine zY <| qR V <| qO V <| zO0 V V V V <| qM V V V <| qN ?_
    refine ⟨i + 1, by omega, ⟨by omega, ?_⟩, rfl, (.keep V (.keep V (.keep V (.keep V (.nil))))), (.eq V (zK1 hlt hlen) (.nil))⟩
    rw [List.take_add_one, List.take_add_one, hs, hs2, heq, not_dec h30]
  ·
   have hge : i = a.length := by simp at h18; omega
   refine zF1 <| zB <| qR V <| qA V V V <| qN <| zL ?_
   exact zT (.inr V) Tryz.results108 V (.of_eq (by congr 1; symm; rw [decide_eq_true_iff]; rw [hge, List.take_length, hab, List.take_length] at heq; exact heq)) (.bool _) Vv
theorem cSame_spec (a b : List (List Tk)) (S : MS) : MCalls Tryz.prog 85 [.lst none 1 (a.map encC), .lst none 1 (b.map encC), .fn (.func 86) [] []] S fun v σ' => v = .bool (decide (a = b)) ∧ σ' = S := by
 refine zU Tryz.func85 V Tryz.ntmps85 (zA V) ?_
 refine zB <| qR V <| qA V V V <| qN <| zB <| qR V <| qM V V V <| qM V V V <| qM V V V ?_
 refine qX V V V V co108 (cEqualF_spec a b _) ?_
 refine qA V V V <| qN <| zL ?_
 exact zT (.inr V) Tryz.results85 V (.of_eq (V)) (.bool _) Vv
theorem vEqualF_spec (a b : List Val) (ih : ∀ x ∈ a, ∀ (y : Val) (S : MS), MCalls Tryz.prog 59 [encV x, encV y] S fun v σ' => v = .bool (decide (x = y)) ∧ σ' = S) (S : MS) : MCalls Tryz.prog 110 [.lst none 5 (encVs a), .lst none 5 (encVs b), .fn (.func 59) [] []] S fun v σ' => v = .bool (decide (a = b)) ∧ σ' = S := by
 refine zU Tryz.func110 V Tryz.ntmps110 (zA V) ?_
 refine zI2 (t := 0) V fun hlen => ?_
 rw [zO] at hlen
 refine zB <| qR V <| qA V V V <| qN <| zB <| zB <| qR V <| qM V V V <| qE V V zE V <| qM V V V <| qE V V zE V <| qC V V V V V <| qN ?_
 refine zK V (fun h14 => ?_) (fun h14 => ?_)
 ·
  rw [zO, zO] at h14
  refine zB <| qR V <| qA V V V <| qN <| zL ?_
  exact zT (.inr V) Tryz.results110 V (.of_eq (by congr 1; symm; rw [decide_eq_false_iff_not]; intro e; subst e; simp at h14)) (.bool _) Vv
 ·
  rw [zO, zO] at h14
  have hab : a.length = b.length := by simp at h14; omega
  refine zY <| zB <| zB <| qR V <| qM V V V <| qE V V zE V <| qM V V V <| qN <| zB0 ?_
  refine mwp_loopKJ (α := Nat) [(1, _), (2, _), (15, _), (16, _)] (fun i => [(17, .int .i64 (i : Int))]) (fun i => []) (fun i => i ≤ a.length ∧ a.take i = b.take i) (fun i => a.length - i) (0) (Nat.le_refl _) (.keep V (.keep V (.keep V (.keep V (.nil))))) (.keep V (.nil)) (⟨by omega, rfl⟩) (V) ?_
  rintro i ⟨hi, heq⟩
  refine zB <| qR V <| qC V V V V V <| qN <| zB ?_
  refine zK V (fun h18 => ?_) (fun h18 => ?_)
  ·
   rw [zO] at h18
   have hlt : i < a.length := by simpa using h18
   obtain ⟨⟨n1, m1, s1, c1, w1⟩, hs⟩ : ∃ s, a[i]? = some s := ⟨_, zD hlt⟩
   obtain ⟨⟨n2, m2, s2, c2, w2⟩, hs2⟩ : ∃ s, b[i]? = some s := ⟨_, zD (by omega)⟩
   refine zY <| zB <| zB0 <| zB <| qR V <| qM V V V <| qO V <| zG V zE sz30 (by decide) V V V (zN1 hs) ?_
   refine qO V <| zI V V ta30 V <| qO V <| zL0 V zm30 V V <| qA V V V <| qO V <| zG0 V V V V sz30 V V (zA V) V <| qN <| zB <| qR V <| qM V V V <| qM V V V <| qO V <| zG V zE sz30 (by decide) V V V (zN1 hs2) ?_
   refine qO V <| zI V V ta30 V <| qO V <| zL0 V zm30 V V <| qO V <| zG0 V V V V sz30 V V (zA V) V <| qN <| zB <| qR V <| qM V V V <| qL V V V V ta30 V <| qL V V V V ta30 V ?_
   refine qX V V V V co59 (ih _ (zC0 hs) (.mk n2 m2 s2 c2 w2) _) ?_
   refine qO V <| zY0 V V <| qN ?_
   refine zK V (fun h30 => ?_) (fun h30 => ?_)
   ·
    refine zB <| qR V <| qA V V V <| qN <| zL ?_
    exact zT (.inr V) Tryz.results110 V (.of_eq (by congr 1; symm; rw [decide_eq_false_iff_not]; intro e; subst e; rw [hs2] at hs; injection hs with hs; rw [hs] at h30; simp at h30)) (.bool _) Vv
   ·
    refine zY <| qR V <| qO V <| zO0 V V V V <| qM V V V <| qN ?_
    refine ⟨i + 1, _, by omega, ⟨by omega, ?_⟩, rfl, .nil, (.old V V (.old V V (.old V V (.old V V (.nil))))), (.new' V (zK1 hlt hlen) (.int _ _) (.nil))⟩
    rw [List.take_add_one, List.take_add_one, hs, hs2, heq, not_dec h30]
  ·
   rw [zO] at h18
   have hge : i = a.length := by simp at h18; omega
   refine zF1 <| zB <| qR V <| qA V V V <| qN <| zL ?_
   exact zT (.inr V) Tryz.results110 V (.of_eq (by congr 1; symm; rw [decide_eq_true_iff]; rw [hge, List.take_length, hab, List.take_length] at heq; exact heq)) (.bool _) Vv
theorem vsSame_spec (a b : List Val) (ih : ∀ x ∈ a, ∀ (y : Val) (S : MS), MCalls Tryz.prog 59 [encV x, encV y] S fun v σ' => v = .bool (decide (x = y)) ∧ σ' = S) (S : MS) : MCalls Tryz.prog 87 [.lst none 5 (encVs a), .lst none 5 (encVs b), .fn (.func 59) [] []] S fun v σ' => v = .bool (decide (a = b)) ∧ σ' = S := by
 refine zU Tryz.func87 V Tryz.ntmps87 (zA V) ?_
 refine zB <| qR V <| qA V V V <| qN <| zB <| qR V <| qM V V V <| qM V V V <| qM V V V ?_
 refine qX V V V V co110 (vEqualF_spec a b ih _) ?_
 refine qA V V V <| qN <| zL ?_
 exact zT (.inr V) Tryz.results87 V (.of_eq (V)) (.bool _) Vv
theorem vSame_spec (d : Nat) : ∀ (a b : Val), vdepth a ≤ d → ∀ S : MS, MCalls Tryz.prog 59 [encV a, encV b] S fun v σ' => v = .bool (decide (a = b)) ∧ σ' = S := by
 induction d with
 | zero => rintro ⟨n, m, s, c, w⟩ b h; simp [vdepth] at h
 | succ d ih =>
 rintro ⟨n, m, s, c, w⟩ ⟨n2, m2, s2, c2, w2⟩ hd S
 have hmem : ∀ x ∈ w, vdepth x ≤ d := fun x hx => by have := vdepth_mem hx; rw [vdepth] at hd; omega
 refine zU Tryz.func59 V Tryz.ntmps59 (zA V) ?_
 refine zB <| qR V <| qB V V V V V <| qB V V V V V <| qA V V V <| qN <| zB <| qR V <| qF V V V zG4 <| qL V V V V ta25 V <| qF V V V zG4 <| qL V V V V ta25 V <| qC V V V V V <| qM V V V ?_
 refine zD0 (fun h10 => ?_) (fun h10 => ?_)
 ·
  refine qF V V V zY4 <| qL V V V V ta25 V <| qF V V V zY4 <| qL V V V V ta25 V <| qC V V V V V <| qP V V V V <| qM V V V ?_
  refine zD0 (fun h17 => ?_) (fun h17 => ?_)
  ·
   refine qF V V V zU1 <| qL V V V V ta26 V <| qF V V V zU1 <| qL V V V V ta26 V ?_
   refine qX V V V V co84 (xEqual_spec s s2 _) ?_
   refine qP V V V V <| qM V V V ?_
   refine zD0 (fun h24 => ?_) (fun h24 => ?_)
   ·
    refine qF V V V zM1 <| qL V V V V ta27 V <| qF V V V zM1 <| qL V V V V ta27 V ?_
    refine qX V V V V co85 (cSame_spec c c2 _) ?_
    refine qP V V V V <| qM V V V ?_
    refine zD0 (fun h31 => ?_) (fun h31 => ?_)
    ·
     refine qF V V V zZ0 <| qL V V V V ta28 V <| qF V V V zZ0 <| qL V V V V ta28 V ?_
     refine qX V V V V co87 (vsSame_spec w w2 (fun x hx y S => ih x y (hmem x hx) S) _) ?_
     refine qP V V V V <| qA V V V <| qN <| zL ?_
     exact zT (.inr V) Tryz.results59 V (.of_eq (by congr 1; rw [zF]; simp_all)) (.bool _) Vv
    ·
     refine qT V V V V <| qS V <| qP V V V V <| qA V V V <| qN <| zL ?_
     exact zT (.inr V) Tryz.results59 V (.of_eq (by congr 1; rw [zF]; simp_all)) (.bool _) Vv
   ·
    refine qT V V V V <| qS V <| qP V V V V <| qM V V V <| qT V V V V <| qS V <| qP V V V V <| qA V V V <| qN <| zL ?_
    exact zT (.inr V) Tryz.results59 V (.of_eq (by congr 1; rw [zF]; simp_all)) (.bool _) Vv
  ·
   refine qT V V V V <| qS V <| qP V V V V <| qM V V V <| qT V V V V <| qS V <| qP V V V V <| qM V V V <| qT V V V V <| qS V <| qP V V V V <| qA V V V <| qN <| zL ?_
   exact zT (.inr V) Tryz.results59 V (.of_eq (by congr 1; rw [zF]; simp_all)) (.bool _) Vv
 ·
  refine qT V V V V <| qS V <| qP V V V V <| qM V V V <| qT V V V V <| qS V <| qP V V V V <| qM V V V <| qT V V V V <| qS V <| qP V V V V <| qM V V V <| qS V <| qS V <| qS V ?_
  refine qS V <| qS V <| qP V V V V <| qA V V V <| qN <| zL ?_
  exact zT (.inr V) Tryz.results59 V (.of_eq (by congr 1; rw [zF]; simp_all)) (.bool _) Vv
theorem valSame_spec (a b : Val) (S : MS) : MCalls Tryz.prog 59 [encV a, encV b] S fun v σ' => v = .bool (decide (a = b)) ∧ σ' = S := vSame_spec _ a b (Nat.le_refl _) S
theorem bottom_spec (d : Nat) : ∀ (s : Sch), isF d s = true → ∀ S : MS, MCalls Tryz.prog 88 [encS s] S fun v σ' => v = encV (bottomF s) ∧ σ' = S := by
 induction d with
 | zero => intro s h; simp [isF] at h
 | succ d ih =>
 rintro ⟨k, ins⟩ hd S
 rw [isF] at hd
 simp only [Bool.and_eq_true, List.all_eq_true, beq_iff_eq] at hd
 refine zU Tryz.func88 V Tryz.ntmps88 (zA V) ?_
 refine zB <| qR V <| qB V V V V V <| qO V <| zL0 V zm30 V V <| qN <| zB <| qR V <| qO V <| zL0 V zm30 V V <| qN <| zB <| zB <| qR V <| qF V V V zC2 <| qL V V V V ta3 V <| qC V V V V V <| qN ?_
 refine zK V (fun h6 => ?_) (fun h6 => ?_)
 ·
  have hk : k = 5 := by simpa using h6
  subst hk
  obtain ⟨⟨k1, i1⟩, ⟨k2, i2⟩, rfl⟩ := zQ5 hd.1
  obtain ⟨⟨n1, m1, s1, c1, w1⟩, e1⟩ : ∃ v, bottomF (.mk k1 i1) = v := ⟨_, rfl⟩
  obtain ⟨⟨n2, m2, s2, c2, w2⟩, e2⟩ : ∃ v, bottomF (.mk k2 i2) = v := ⟨_, rfl⟩
  have ih1 := ih (.mk k1 i1) (hd.2 _ (by simp))
  have ih2 := ih (.mk k2 i2) (hd.2 _ (by simp))
  simp only [e1] at ih1
  simp only [e2] at ih2
  have hbot : bottomF (.mk 5 [.mk k1 i1, .mk k2 i2]) = .mk 0 0 [] [] [.mk n1 m1 s1 c1 w1, .mk n2 m2 s2 c2 w2] := by rw [bottomF, if_pos rfl, bottomL, bottomL, bottomL, e1, e2]
  refine zV0 [12] [_, S ++ [.cells (encS (.mk 5 [.mk k1 i1, .mk k2 i2])).cells, .cells [.int .u64 0, .int .u64 0, .lst0, .lst0, .lst0], .cells [.int .u64 0, .int .u64 0, .lst0, .lst0, .lst none 5 [encV (.mk n1 m1 s1 c1 w1), encV (.mk n2 m2 s2 c2 w2)]]]] mo (by decide) V V V V ?_
  refine dO V V V (zJ V V zR2 Vv) <| dO V V V (zE0 V V V ta22 V Vv) <| dO V V V (zG V zJ0 sz24 (by decide) V V V (show _ = some (encS (.mk k1 i1)) from V) Vv) ?_
  refine dO V V V (zI V V ta24 V Vv) <| zV V V (.cons (zC1 V V V co88 (ih1 _)) .nil) <| dO V V V (zJ V V zR2 Vv) <| dO V V V (zE0 V V V ta22 V Vv) <| dO V V V (zG V zJ0 sz24 (by decide) V V V (show _ = some (encS (.mk k2 i2)) from V) Vv) ?_
  refine dO V V V (zI V V ta24 V Vv) <| zV V V (.cons (zC1 V V V co88 (ih2 _)) .nil) <| dO V V V (zA1 V zE el30 V V (by decide) (by decide) V V Vv) ?_
  refine dO V V V (zJ V V zZ0 Vv) <| zL1 V V V V (zG0 V V V V sz28 V V (zA V) V Vv) <| zK0 <| zB <| qR V <| qL V V V V ta30 V <| qO V <| zG0 V V V V sz30 V V (zA V) V <| qN <| zL ?_
  rw [hbot]
  exact zO2 (.inr V) Tryz.results88 V V ta30 V (by first | exact (.agg (.cons (.refl _) (.cons (.refl _) (.cons (.nil _) (.cons (.nil _) (.cons (.nil _) .nil)))))) | exact (.agg (.cons (.refl _) (.cons (.refl _) (.cons (.nil _) (.cons (.nil _) (.cons (.refl _) .nil))))))) (zT1 _ _) Vv
 ·
  have hk : ¬ k = 5 := by simpa using h6
  have hbot : bottomF (.mk k ins) = noV := by simp [bottomF, hk]
  refine zY <| zB <| qR V <| qL V V V V ta30 V <| qO V <| zG0 V V V V sz30 V V (zA V) V <| qN <| zL ?_
  rw [hbot]
  exact zO2 (.inr V) Tryz.results88 V V ta30 V (by first | exact (.agg (.cons (.refl _) (.cons (.refl _) (.cons (.nil _) (.cons (.nil _) (.cons (.nil _) .nil)))))) | exact (.agg (.cons (.refl _) (.cons (.refl _) (.cons (.nil _) (.cons (.nil _) (.cons (.refl _) .nil))))))) (zT1 _ _) Vv
theorem Bottom_spec (s : Sch) (S : MS) : MCalls Tryz.prog 60 [encS s] S fun v σ' => v = encV (BottomF s) ∧ σ' = S := by
 obtain ⟨k, ins⟩ := s
 refine zU Tryz.func60 V Tryz.ntmps60 (zA V) ?_
 refine zB <| qR V <| qB V V V V V <| qO V <| zL0 V zm30 V V <| qN <| zB <| zB <| qR V <| qL V V V V ta24 V ?_
 refine qX V V V V co43 (Is_spec (.mk k ins) _) ?_
 refine qO V <| zY0 V V <| qN ?_
 refine zK V (fun h5 => ?_) (fun h5 => ?_)
 ·
  have hb : BottomF (.mk k ins) = noV := by unfold BottomF; rw [if_neg (by simpa using h5)]
  refine zB <| qR V <| qO V <| zZ1 V zQ0 zm30 .nil (by kernel_rfl) ?_
  refine qO V <| zG0 V V V V sz30 V V (zA V) V <| qN <| zL ?_
  rw [hb]
  exact zO2 (y := encV (noV)) (.inr V) Tryz.results60 V V ta30 V (.agg (.cons (.refl _) (.cons (.refl _) (.cons (.nil _) (.cons (.nil _) (.cons (.nil _) .nil)))))) (zT1 _ _) Vv
 ·
  have his : isF 16 (.mk k ins) = true := by simpa using h5
  obtain ⟨⟨n1, m1, s1, c1, w1⟩, e1⟩ : ∃ v, bottomF (.mk k ins) = v := ⟨_, rfl⟩
  have bs := bottom_spec 16 (.mk k ins) his
  simp only [e1] at bs
  have hb : BottomF (.mk k ins) = .mk n1 m1 s1 c1 w1 := by unfold BottomF; rw [if_pos his, e1]
  refine zY <| zB <| qR V <| qL V V V V ta24 V ?_
  refine qX V V V V co88 (bs _) ?_
  refine qO V <| zG0 V V V V sz30 V V (zA V) V <| qN <| zL ?_
  rw [hb]
  exact zO2 (y := encV (.mk n1 m1 s1 c1 w1)) (.inr V) Tryz.results60 V V ta30 V (.refl _) (zT1 _ _) Vv
theorem None_spec (s : Sch) (x : Val) (S : MS) : MCalls Tryz.prog 46 [encS s, encV x] S fun v σ' => v = .bool (noneF s x) ∧ σ' = S := by
 obtain ⟨k, ins⟩ := s
 obtain ⟨n, m, s, c, w⟩ := x
 refine zU Tryz.func46 V Tryz.ntmps46 (zA V) ?_
 refine zB <| qR V <| qB V V V V V <| qB V V V V V <| qA V V V <| qN <| zB ?_
 refine zV0 [] [_] mo (by decide) V V V V ?_
 refine dO V V V (zE0 V V V ta24 V Vv) <| zV V V (.cons (zC1 V V V co60 (Bottom_spec (.mk k ins) _)) .nil) <| dO V V V (zE0 V V V ta30 V Vv) <| zV V V (.cons (zC1 V V V co59 (valSame_spec (BottomF (.mk k ins)) (.mk n m s c w) _)) .nil) <| dO V V V (zB1 V V Vv) <| zK0 <| zL ?_
 exact zT (.inr V) Tryz.results46 V (.of_eq (V)) (.bool _) Vv
theorem _root_.zR5 : type_of% @None_spec := @None_spec
end Go.Proofs.YtnfcnpdpfgcchaaGreat
