/-
  Texts on which the proof of PostOrders leans: part 2.
-/
import Derived.Test.YtciimaabeabkdaaGreatDoorPostOrdersA
import Derived.Test.YtciimaabeabkdaaGreatDoorProg
import Derived.KernelRfl
import Derived.Laws.StructEq
import Derived.WalkKit
import Derived.Deep.LoopGhost
import Derived.Ground.NamesProg
import Derived.Ground.Names2Prog
import Derived.Shelf.Lay
import Derived.Shelf.Slices.In.Clone
import Derived.Sort.OwnSorted
import Derived.Sort.Grow
import Derived.Sort.EveryDepth
import Derived.Lib.OwnBridge
import Derived.OwnWalkIn
import Derived.TacticsInMore
import Derived.RegionIn
import Derived.LoopNIn
import Derived.LoopIn
import Derived.Sort.LoopGhostIn
import Derived.Sort.CutIn
import Derived.Sort.QuietIn
import Derived.Shelf.RegionOpen
import Derived.Shelf.AbstractIn
import Derived.Laws.BytesString
import Derived.Laws.MakeOwn
import Derived.Laws.IdiomStrings
import Derived.Maps.RangeRun
import Derived.MapKept
import Derived.Lib.AppendStr
import Derived.Lib.UnsafeStr
import Derived.Lib.Builder
import Derived.Laws.IdiomCopy
import Derived.Shelf.Spec.SlicesInsert
import Derived.Shelf.Spec.SlicesInsertGrow
import Derived.Shelf.Slices.Delete
set_option linter.unusedVariables false
set_option linter.unusedSimpArgs false
set_option maxRecDepth 20000
set_option maxHeartbeats 8000000
namespace Go.MV
open Go Go.RowKit
section
theorem Rel.alloc_gen {g : Gh} {σ : MS} {w : World} (h : Rel g σ w) (o : Obj) (mo : MObj)
  (H : ∀ g', Le g w g' (w.alloc o) → g'.bk σ.length = some w.heap.size → g'.st w.heap.size = 0 → ObjRel g' (w.alloc o) (some w.heap.size) σ.length mo) :
  ∃ g', Rel g' (σ ++ [mo]) (w.alloc o) ∧ Le g w g' (w.alloc o) ∧ g'.bk σ.length = some w.heap.size := by
 obtain ⟨own, ho0⟩ := h.ex
 have l1 := Le.alloc_stab h o 0
 have r1 := h.alloc_stab o 0
 have l2 : Le (g.stab w.heap.size 0) (w.alloc o) ((g.stab w.heap.size 0).bind σ.length w.heap.size) (w.alloc o) := Le.bind (r1.bkn σ.length (Nat.le_refl _))
 refine ⟨(g.stab w.heap.size 0).bind σ.length w.heap.size, ⟨r1.below, r1.base, r1.fresh, fun id hid => ?_, fun t n ht => r1.lgn t n (by simp at ht; omega), ?_⟩, l1.trans l2, by simp [Gh.bind]⟩
 ·simp at hid
  simp only [Gh.bind]
  rw [if_neg (by omega)]
  exact r1.bkn id (by omega)
 ·have ho : Owns (g.stab w.heap.size 0) σ (w.alloc o) own := by
   refine ho0.keep l1 (fun id b e => ?_) (fun _ _ => V)
   have hlt := (ho0.lt id b e).2.2
   refine ⟨Below.heap_alloc w o b hlt, ?_⟩
   simp only [Gh.stab]
   rw [if_neg (by omega)]
  have ho' := ho.keep l2 (fun _ _ _ => ⟨rfl, rfl⟩) (fun _ _ => rfl)
  have hold : ∀ id b, own id = some b → b < w.heap.size := fun id b e => (ho0.lt id b e).2.2
  refine ⟨fun id => if id = σ.length then some w.heap.size else own id, ⟨fun id o' hid => ?_, fun i j b hi hj => ?_, fun id b hid => ?_⟩⟩
  ·by_cases e : id = σ.length
   ·subst e
    rw [List.getElem?_append_right (Nat.le_refl _)] at hid
    simp at hid
    subst hid
    simp only [if_true]
    exact H _ (l1.trans l2) (by simp [Gh.bind]) (by simp [Gh.bind, Gh.stab])
   ·rw [if_neg e]
    have hlt : id < σ.length := by
     have := (zD.1 hid).1
     simp at this
     omega
    rw [List.getElem?_append_left hlt] at hid
    exact ho'.obj id o' hid
  ·by_cases ei : i = σ.length <;> by_cases ej : j = σ.length
   ·omega
   ·simp only [ei, if_true] at hi
    simp only [ej, if_false] at hj
    have := hold j b hj
    injection hi with hi
    omega
   ·simp only [ej, if_true] at hj
    simp only [ei, if_false] at hi
    have := hold i b hi
    injection hj with hj
    omega
   ·simp only [ei, ej, if_false] at hi hj
    exact ho'.inj i j b hi hj
  ·by_cases e : id = σ.length
   ·simp only [e, if_true] at hid
    injection hid with hid
    subst hid
    exact ⟨by simp [e], h.size, by simp⟩
   ·simp only [e, if_false] at hid
    obtain ⟨h1, h2, h3⟩ := ho'.lt id b hid
    exact ⟨by simp; omega, h2, h3⟩
theorem Rel.loop_set {g : Gh} {σ : MS} {w : World} (h : Rel g σ w) {id b : Nat} {s : LoopState} {p : Option Code} {ls : LS} (hσ : σ[id]? = some (.loop s p ls)) (hb : g.bk id = some b) {l : Loop} (hl : w.heap[b]? = some (Obj.loop l)) (s' : LoopState) (p' : Option Code) :
    Rel g (σ.set id (.loop s' p' ls)) { w with heap := w.heap.setIfInBounds b (Obj.loop { l with state := s', pending := p' }) } ∧ Le g w g { w with heap := w.heap.setIfInBounds b (Obj.loop { l with state := s', pending := p' }) } := by
  obtain ⟨own, hown⟩ := h.ex
  obtain ⟨b', l', e1, e2, e3, e4, e5, e6, e7, e8, e9, e10⟩ := hown.obj _ _ hσ
  rw [hb] at e2; injection e2 with e2; subst e2
  rw [hl] at e3
  injection e3 with e3
  injection e3 with e3
  subst e3
  have hblt : b < w.heap.size := (Array.getElem?_eq_some_iff.1 hl).1
  have hidlt : id < σ.length := (zD.1 hσ).1
  have hne : ∀ c, c ≠ b → ({ w with heap := w.heap.setIfInBounds b (Obj.loop { l with state := s', pending := p' }) } : World).heap[c]? = w.heap[c]? := fun c hc => by
    show (w.heap.setIfInBounds b _)[c]? = _
    rw [Array.getElem?_setIfInBounds_ne (fun e => hc e.symm)]
  have hbB : g.B ≤ b := (hown.lt id b e1).2.1
  have hcell : ∀ a : Addr, ({ w with heap := w.heap.setIfInBounds b (Obj.loop { l with state := s', pending := p' }) } : World).cell? a = w.cell? a := by
    intro a
    by_cases e : a.block = b
    · simp [World.cell?, e, hl, Array.getElem?_setIfInBounds_self_of_lt hblt]
    · exact World.cell?_of_block (w := w) (hne _ e)
  have hle : Le g w g { w with heap := w.heap.setIfInBounds b (Obj.loop { l with state := s', pending := p' }) } :=
    ⟨⟨rfl, rfl, fun c k hk => ⟨hk, hcell _⟩, fun _ _ h => h, fun _ _ _ h => h, by simp⟩, fun c x hx => by
      have : c ≠ b := fun e => by subst e; rw [hl] at hx; cases hx
      exact (hne c this).trans hx⟩
  refine ⟨⟨⟨h.below.os, h.below.tape, h.below.output, by simpa using h.below.size, fun k hk => (hne k (by omega)).trans (h.below.block k hk)⟩, h.base, fun c hc => h.fresh c (by simpa using hc), fun i hi => h.bkn i (by simpa using hi), fun t k ht => h.lgn t k (by simpa using ht), own, ⟨fun i ob hi => ?_, hown.inj, fun i c hc => ?_⟩⟩, hle⟩
  · rw [List.getElem?_set] at hi
    by_cases e : id = i
    · subst e
      rw [if_pos rfl, if_pos hidlt] at hi
      injection hi with hi
      subst hi
      refine ⟨b, { l with state := s', pending := p' }, e1, hb, ?_, rfl, rfl, e6, e7, e8, e9, e10.mono hle⟩
      show (w.heap.setIfInBounds b _)[b]? = _
      rw [Array.getElem?_setIfInBounds_self_of_lt hblt]
    · rw [if_neg e] at hi
      refine (hown.obj i ob hi).keep0 hle.toLe0 (fun c hc => ⟨hne c (fun ec => ?_), rfl⟩) (fun _ => V)
      subst ec
      exact e (hown.inj _ _ _ e1 hc)
  · obtain ⟨h1, h2, h3⟩ := hown.lt i c hc
    exact ⟨by simpa using h1, h2, by simpa using h3⟩
theorem Rel.loop_at {g : Gh} {σ : MS} {w : World} (h : Rel g σ w) {id : Nat} {s : LoopState} {p : Option Code} {ls : LS} (hσ : σ[id]? = some (.loop s p ls)) : ∃ b l, g.bk id = some b ∧ w.heap[b]? = some (Obj.loop l) ∧ l.state = s ∧ l.pending = p ∧ l.params = ls.params ∧ l.assign = ls.assign ∧ l.body = ls.body ∧ l.tmps.size = ls.n ∧ EnvRd g w ls.env l.tmps := by
 obtain ⟨own, hown⟩ := h.ex
 obtain ⟨b, l, e1, e2, e3, rest⟩ := hown.obj _ _ hσ
 exact ⟨b, l, e2, e3, rest⟩
theorem Rel.gone {g : Gh} {σ : MS} {w : World} (h : Rel g σ w) (id : Nat) : Rel g (σ.set id .gone) w := by
 obtain ⟨own, hown⟩ := h.ex
 refine ⟨h.below, h.base, h.fresh, fun i hi => h.bkn i (by simpa using hi), fun t k ht => h.lgn t k (by simpa using ht), fun i => if i = id then none else own i, ⟨fun i o hi => ?_, fun i j b hi hj => ?_, fun i b hi => ?_⟩⟩
 ·by_cases e : i = id
  ·subst e
   rw [List.getElem?_set] at hi
   rw [if_pos rfl] at hi
   split at hi
   ·injection hi with hi
    subst hi
    simp [ObjRel]
   ·cases hi
  ·rw [if_neg e]
   rw [List.getElem?_set_ne (fun h => e h.symm)] at hi
   exact hown.obj i o hi
 ·split at hi
  ·cases hi
  ·split at hj
   ·cases hj
   ·exact hown.inj i j b hi hj
 ·split at hi
  ·cases hi
  ·obtain ⟨h1, h2⟩ := hown.lt i b hi
   exact ⟨by simpa using h1, h2⟩
section
variable {P : Program} {rd : Option Nat} {N n : Nat} {Q : Exit → Env → MS → Prop} {env : Env} {σ : MS} {o : Oper} {K : MV → MS → Prop}
def bindPs : List Tmp → List MV → Env → Env
 | t :: ts, x :: xs, env => bindPs ts xs ((t, x) :: env)
 | _, _, env => env
theorem bindPs_rd {g : Gh} {w : World} : ∀ {ps : List Tmp} {xs : List MV} {us : List Value} {env : Env} {tmps : Array Value}, Rds g w xs us → (∀ t ∈ ps, t < tmps.size) → EnvRd g w env tmps → EnvRd g w (bindPs ps xs env) ((ps.zip us).foldl (fun tmps (p : Tmp × Value) => tmps.setIfInBounds p.1 p.2) tmps)
 | [], xs, us, env, tmps, _, _, he => by simpa [bindPs] using he
 | t :: ts, [], us, env, tmps, hr, _, he => by
  have : us = [] := List.eq_nil_of_length_eq_zero hr.1
  subst this
  simpa [bindPs] using he
 | t :: ts, x :: xs, us, env, tmps, hr, hb, he => by
  obtain ⟨u, us', rfl, h1, h2⟩ := hr.uncons
  simp only [bindPs, List.zip_cons_cons, List.foldl_cons]
  exact bindPs_rd h2 (fun s hs => by simpa using hb s (zA2 _ hs)) (he.put (hb t (zH2 ..)) h1)
theorem foldl_size : ∀ (l : List (Tmp × Value)) (tmps : Array Value), (l.foldl (fun tmps (p : Tmp × Value) => tmps.setIfInBounds p.1 p.2) tmps).size = tmps.size
 | [], tmps => rfl
 | p :: l, tmps => by rw [List.foldl_cons, foldl_size l]; simp
def RoundQ (id N : Nat) (K : MV → MS → Prop) (e : Exit) (_ : Env) (σf : MS) : Prop :=
 ∃ σ' junk p ls, σf = σ' ++ junk ∧ N ≤ σ'.length ∧ (junk = [] ∨ ClS σ') ∧ σ'[id]? = some (.loop .busy p ls) ∧
  match e with
  | .normal => K (.bool true) (σ'.set id (.loop .ready none ls))
  | .ret => K (.bool false) (σ'.set id (.loop .done (some .ret) ls))
  | .exit x => K (.bool false) (σ'.set id (.loop .done (some (.exit x)) ls))
  | _ => False
theorem run_endRound {w : World} {b : Nat} {l : Loop} (h : w.heap[b]? = some (Obj.loop l)) (j : Option Code) : (Instr.endRound b j).run P w = .ok (.bool j.isNone) { w with heap := w.heap.setIfInBounds b (Obj.loop { l with state := if j.isNone then .ready else .done, pending := j }) } := by
 simp [Instr.endRound, Instr.getLoop, getObj, setObj, Sem.run, h, bind, Sem.bind, pure]
theorem run_beginRound {w : World} {b : Nat} {l : Loop} (h : w.heap[b]? = some (Obj.loop l)) (hs : l.state = .ready) : (Instr.beginRound b).run P w = .ok () { w with heap := w.heap.setIfInBounds b (Obj.loop { l with state := .busy }) } := by
 simp [Instr.beginRound, Instr.getLoop, getObj, setObj, Sem.run, h, hs, bind, Sem.bind, pure]
theorem op_yield {f : Operand} {args : Array Operand} {ts : Array TypeId} {id : Nat} {xs : List MV} {p : Option Code} {ls : LS} (ho : o.op = .call { callee := .value f, args := args, argTypes := ts }) (hf : evo env f = some (.yld id)) (hx : evos env args.toList = some xs)
    (hσ : σ[id]? = some (.loop .ready p ls)) (hps : ls.params.size = args.size) (hpb : ls.params.toList.all (fun t => Nat.blt t ls.n) = true)
    (h : mwp P (some id) σ.length ls.n ls.assign (fun e env1 σ1 => e = .normal ∧ ∃ p1, σ1[id]? = some (.loop .ready p1 ls) ∧ mwp P (some id) σ.length ls.n ls.body (RoundQ id σ.length K) env1 (σ1.set id (.loop .busy p1 ls))) (bindPs ls.params.toList xs ls.env) σ) : OpWp P rd o env σ K := by
  intro g w a F hF hr hop
  refine ⟨fun f _ => hF.fn f, ?_⟩
  rw [Oper.semAt_eq _ _ _ (by simp [ho])]
  obtain ⟨b, hb, e⟩ := (hop f (by simp [ho, Op.operands, Call.operands]) _ hf).inv_yld
  have k3 : Rds g w xs (args.toList.map a.eval) := evos_rds (fun x hx m hm => hop x (by simp [ho, Op.operands, Call.operands]; exact .inr (by simpa using hx)) m hm) hx
  obtain ⟨b', l, hb', hl, l1, l2, l3, l4, l5, l6, l7⟩ := hr.loop_at hσ
  rw [hb] at hb'
  injection hb' with hb'
  subst hb'
  have hidlt : id < σ.length := (zD.1 hσ).1
  have hrun : (execOp a.eval o).run P w = .ok (.round b l.fn ((ls.params.toList.zip (args.toList.map a.eval)).foldl (fun tmps (p : Tmp × Value) => tmps.setIfInBounds p.1 p.2) l.tmps) l.assign l.body) w := by
    have hsz : (Array.map a.eval args).size = l.params.size := by rw [l3, hps]; simp
    have hz : (l.params.zip (Array.map a.eval args)).foldl (fun tmps (p : Tmp × Value) => tmps.setIfInBounds p.1 p.2) l.tmps = (ls.params.toList.zip (args.toList.map a.eval)).foldl (fun tmps (p : Tmp × Value) => tmps.setIfInBounds p.1 p.2) l.tmps := by
      rw [← Array.foldl_toList, Array.toList_zip, l3, Array.toList_map]
    simp [execOp, ho, resolve, e, Deferred.ofValue, invoke, Instr.yield, Instr.getLoop, getObj, Sem.run, hl, bind, Sem.bind, pure, hsz]
    have hmin : min l.params.size args.size = l.params.size := by rw [l3, hps]; simp
    simpa [hmin] using hz
  rw [hrun]
  refine ⟨fun h => hF.depth h, ?_⟩
  have hFr : ∀ {F' : Fence}, FOk g rd F' → F'.inRound b = Fence.wide.inRound b := by
    intro F' hF'
    cases rd with
    | none => rw [show F' = Fence.wide from hF']
    | some i => obtain ⟨c, _, e⟩ := hF'; rw [e]; rfl
  have hR : ∀ R, RoundIn Fence.wide 0 P b l.fn ((ls.params.toList.zip (args.toList.map a.eval)).foldl (fun tmps (p : Tmp × Value) => tmps.setIfInBounds p.1 p.2) l.tmps) l.assign l.body w R → RoundIn F (0 - 1) P b l.fn ((ls.params.toList.zip (args.toList.map a.eval)).foldl (fun tmps (p : Tmp × Value) => tmps.setIfInBounds p.1 p.2) l.tmps) l.assign l.body w R := by
    intro R hR
    cases rd with
    | none => rw [show F = Fence.wide from hF]; exact hR
    | some i => obtain ⟨c, _, e⟩ := hF; rw [e]; exact hR
  refine hR _ (roundIn_of_wpIn trivial ?_)
  have hFb : FOkN σ.length g (some id) (Fence.wide.inRound b) := ⟨hidlt, b, hb, rfl⟩
  have hne : EnvRd g w (bindPs ls.params.toList xs ls.env) ((ls.params.toList.zip (args.toList.map a.eval)).foldl (fun tmps (p : Tmp × Value) => tmps.setIfInBounds p.1 p.2) l.tmps) :=
    bindPs_rd k3 (fun t ht => by rw [List.all_eq_true] at hpb; have := hpb t ht; rw [l6]; simpa using this) l7
  rw [l4]
  refine wpIn_mono (h g w { tmps := _, defers := [] } _ w.heap.size hFb hr hne (by rw [foldl_size]; exact l6) (Marks.nil w)) ?_
  rintro e1 a1 w1 ⟨env1, σ1, g1, ⟨rfl, p1, hσ1, hbody⟩, hr1, he1, hl1, hn1, hm1⟩
  obtain ⟨b1, lo1, hb1, hlo1, m1, m2, m3, m4, m5, m6, m7⟩ := hr1.loop_at hσ1
  have hbb : b1 = b := by
    have := hl1.bk _ _ hidlt hb
    rw [hb1] at this
    injection this
  subst hbb
  obtain ⟨hr2, hle2⟩ := hr1.loop_set hσ1 hb1 hlo1 .busy p1
  have e2 : ({ lo1 with state := LoopState.busy, pending := p1 } : Loop) = { lo1 with state := .busy } := by rw [← m2]
  rw [e2] at hr2 hle2
  refine ⟨_, run_beginRound hlo1 m1, ?_⟩
  rw [l5]
  refine wpIn_mono (hbody g1 _ a1 _ w.heap.size (hFb.mono hl1) hr2 (he1.mono hle2) hn1 (hm1.mono hle2)) ?_
  rintro e3 a3 w3 ⟨env3, σ3, g3, ⟨σ', junk, p3, ls3, hσ3, hN, hcl, hlo, hK⟩, hr3, he3, hl3, hn3, hm3⟩
  subst hσ3
  have hr4 : ∃ g4, Rel g4 σ' w3 ∧ LeN σ.length g3 w3 g4 w3 := by
    rcases hcl with rfl | hcl
    · exact ⟨g3, by simpa using hr3, .refl _ _ _⟩
    · refine ⟨g3.cut σ'.length, hr3.cut' hcl, ⟨rfl, rfl, fun _ _ h => ⟨h, rfl⟩, fun i c hi hc => ?_, fun t k v ht hv => ?_, Nat.le_refl _, fun _ _ h => h⟩⟩
      · simp only [Gh.cut]; rw [if_pos (by omega)]; exact hc
      · simp only [Gh.cut]; rw [if_pos (by omega)]; exact hv
  obtain ⟨g4, hr4, hl4⟩ := hr4
  obtain ⟨b5, lo5, hb5, hlo5, q1, q2, q3, q4, q5, q6, q7⟩ := hr4.loop_at hlo
  have hall : LeN σ.length g w g4 w3 := hl1.trans ((hle2.toN _).trans (hl3.trans hl4))
  have hbb : b5 = b1 := by
    have := hall.bk _ _ hidlt hb
    rw [hb5] at this
    injection this
  subst hbb
  have fin : ∀ (j : Option Code) (bo : Bool), bo = j.isNone → K (.bool bo) (σ'.set id (.loop (if j.isNone then .ready else .done) j ls3)) → ∃ v w', (Instr.endRound b5 j).run P w3 = .ok v w' ∧
      ((fun (x : Ending) w'' => match x, w'' with
        | .returned v, w'' => ∃ v1, a.put o.dst v = a.put o.dst v1 ∧ Gets g w K v1 w''
        | .panicked chain, w'' => False
        | .outgrown, _ => LetsOut (fun _ _ _ => False)) (.returned v) w') := by
    intro j bo hbo hK
    refine ⟨_, _, run_endRound hlo5 j, ?_⟩
    obtain ⟨hr6, hle6⟩ := hr4.loop_set hlo hb5 hlo5 (if j.isNone then .ready else .done) j
    subst hbo
    exact ⟨_, rfl, _, _, g4, hK, hr6, .bool _, (hall.trans (hle6.toN _)).le hr.bkn hr.lgn⟩
  cases e3 with
  | normal => exact fin none true rfl hK
  | ret => exact fin (some .ret) false rfl hK
  | exit x => exact fin (some (.exit x)) false rfl hK
  | goto t => exact hK.elim
  | panic c => exact hK.elim
  | outgrown => exact hK.elim
def RangeQ (id : Nat) (ls : LS) (env : Env) (Q : Exit → Env → MS → Prop) (σ' : MS) : Prop :=
 ∃ s p, σ'[id]? = some (.loop s p ls) ∧ s ≠ .busy ∧
  match p with
  | none => Q .normal env (σ'.set id .gone)
  | some .ret => Q .ret env (σ'.set id .gone)
  | some (.exit x) => Q (.exit x) env (σ'.set id .gone)
  | _ => False
theorem set_set_gone (σ : MS) (id : Nat) (o : MObj) : (σ.set id o).set id .gone = σ.set id .gone := by simp
theorem run_endLoop {w : World} {b : Nat} {l : Loop} (h : w.heap[b]? = some (Obj.loop l)) (hs : l.state ≠ .busy) : (Instr.endLoop b).run P w = .ok l.pending { w with heap := w.heap.setIfInBounds b (Obj.loop { l with state := .exhausted }) } := by
 have hb : (l.state == LoopState.busy) = false := by
  cases hh : l.state <;> first | rfl | exact absurd hh hs
 simp [Instr.endLoop, Instr.getLoop, getObj, setObj, Sem.run, h, hb, bind, Sem.bind, pure]
 intro hh
 exact absurd hh hs
theorem mwp_range {f : Operand} {ps : Array Tmp} {assign body : Code} {k : FuncId} {first caps : List MV} (hf : evo env f = some (.fn (.func k) first caps)) (hb : CallOk P k) (hrd : ∀ id, rd = some id → ∃ s p ls, σ[id]? = some (.loop s p ls)) (hN : N ≤ σ.length)
  (h : MCalls P k (first ++ [.yld σ.length] ++ caps) (σ ++ [.loop .ready none ⟨ps, assign, body, env, n⟩]) (fun _ σ' => RangeQ σ.length ⟨ps, assign, body, env, n⟩ env Q σ')) : mwp P rd N n (.rangeFunc f ps assign body) Q env σ := by
 intro g w a F m0 hF hr he hn hm
 refine wpIn_rangeFunc fun fn hfn => ?_
 have hrec : ∃ (mark : List Deferred) (w1 : World) (gd : Gh), (Instr.enterLoop fn a.tmps ps assign body F.round).run P w = .ok (w1.heap.size, mark) (w1.alloc (Obj.loop { state := .ready, pending := none, fn := fn, tmps := a.tmps, params := ps, assign := assign, body := body, defers := (match F.round with | none => w.heap.size | some b => (match w.heap[b]? with | some (Obj.loop l) => l.defers | _ => 0)) })) ∧
   Rel gd σ w1 ∧ Le g w gd w1 ∧ Marks m0 (w1.alloc (Obj.loop { state := .ready, pending := none, fn := fn, tmps := a.tmps, params := ps, assign := assign, body := body, defers := (match F.round with | none => w.heap.size | some b => (match w.heap[b]? with | some (Obj.loop l) => l.defers | _ => 0)) })) (mark ++ a.defers) := by
  cases hro : F.round with
  | none =>
   have hl := Le.alloc_stab hr (Obj.deferred (some [])) 0
   refine ⟨[{ target := .collected w.heap.size, args := #[] }], w.alloc (Obj.deferred (some [])), _, ?_, hr.alloc_stab (Obj.deferred (some [])) 0, hl, ?_⟩
   ·simp [Instr.enterLoop]
   ·have hl2 := hl.trans (Le.alloc_stab (hr.alloc_stab (Obj.deferred (some [])) 0) (Obj.loop { state := .ready, pending := none, fn := fn, tmps := a.tmps, params := ps, assign := assign, body := body, defers := w.heap.size }) 0)
    have hm' := hm.mono hl2
    refine ⟨hm'.1, fun d hd => ?_, ?_⟩
    ·rcases List.mem_cons.1 hd with rfl | hd
     ·refine ⟨w.heap.size, hm.1, rfl, ?_⟩
      rw [Below.heap_alloc _ _ _ (by simp)]
      exact heap_new w _
     ·exact hm'.2.1 d hd
    ·refine zN5.2 ⟨fun d hd r s hr hs => ?_, hm'.2.2⟩
     obtain ⟨q, _, rfl, hq⟩ := hm.2.1 d hd
     injection hr with hr
     injection hs with hs
     subst hr hs
     have := (Array.getElem?_eq_some_iff.1 hq).1
     omega
  | some b =>
   obtain ⟨id, hid⟩ : ∃ id, rd = some id := by
    cases rd with
    | none => rw [show F = Fence.wide from hF] at hro; cases hro
    | some id => exact ⟨id, rfl⟩
   subst hid
   obtain ⟨s, p, ls, hσ⟩ := hrd id rfl
   obtain ⟨hidN, b', hb', hFb⟩ := hF
   obtain ⟨b2, l, hb2, hl, _⟩ := hr.loop_at hσ
   rw [hb'] at hb2
   injection hb2 with hb2
   subst hb2
   have hbb : b' = b := by
    rw [hFb] at hro
    injection hro
   subst hbb
   refine ⟨[], w, g, ?_, hr, .refl _ _, ?_⟩
   ·have hgl : (Instr.getLoop b').run P w = .ok l w := by simp [Instr.getLoop, getObj, Sem.run, hl, bind, Sem.bind, pure]
    simp [Instr.enterLoop, hgl, hl]
   ·exact hm.mono (Le.alloc_stab hr _ 0)
 obtain ⟨mark, w1, gd, hent, hrd1, hle1, hmark⟩ := hrec
 generalize hL : ({ state := .ready, pending := none, fn := fn, tmps := a.tmps, params := ps, assign := assign, body := body, defers := (match F.round with | none => w.heap.size | some b => (match w.heap[b]? with | some (Obj.loop l) => l.defers | _ => 0)) } : Loop) = lo at hent hmark
 have f1 : lo.state = .ready := by rw [← hL]
 have f2 : lo.pending = none := by rw [← hL]
 have f3 : lo.params = ps := by rw [← hL]
 have f4 : lo.assign = assign := by rw [← hL]
 have f5 : lo.body = body := by rw [← hL]
 have f6 : lo.tmps = a.tmps := by rw [← hL]
 clear hL
 obtain ⟨g2, hr2, hle2, hb2⟩ := hrd1.alloc_gen (Obj.loop lo) (.loop .ready none ⟨ps, assign, body, env, n⟩) (fun g' hl' hb' hs' => by
  refine ⟨w1.heap.size, lo, rfl, hb', heap_new w1 _, f1, f2, f3, f4, f5, by rw [f6]; exact hn, ?_⟩
  rw [f6]
  exact (he.mono hle1).mono hl')
 have hfv := evo_rd ((he.mono hle1).mono hle2) hf
 obtain ⟨us, vs, e, k1, k2⟩ := hfv.inv_fn
 have hlall := hle1.trans hle2
 have hc := h g2 (w1.alloc (Obj.loop lo)) (us ++ [Value.func (Fn.yield w1.heap.size) #[] #[]] ++ vs) hr2 ((k1.append (.cons (.yld _ _ hb2) (.nil _ _))).append k2)
 have hcF := hF.ok.calls (m := 0 - 1) hc
 refine ⟨w1.heap.size, mark, w1.alloc (Obj.loop lo), { target := .fn (.func k) vs.toArray, args := us.toArray ++ #[Value.func (Fn.yield w1.heap.size) #[] #[]] }, w1.alloc (Obj.loop lo), k, (us ++ [Value.func (Fn.yield w1.heap.size) #[] #[]] ++ vs).toArray, w1.alloc (Obj.loop lo), hent, ?_, fun f' _ => hF.ok.fn f', ?_, fun h => hF.ok.depth h, hcF.mono ?_⟩
 ·have e0 : (a.eval f) = .func (.func k) us.toArray vs.toArray := e
  have e1 : a.eval (.const (Value.func (Fn.yield w1.heap.size) #[] #[])) = Value.func (Fn.yield w1.heap.size) #[] #[] := rfl
  simp [resolve, rangeCall, e0, e1, Deferred.ofValue]
 ·simp [invoke, hb.run]
 ·rintro e3 w3 ⟨v, rfl, x, σ3, g3, ⟨s, p, hσ3, hsb, hp⟩, hr3, hv3, hl3⟩
  obtain ⟨b4, l4, hb4, hlo4, q1, q2, q3⟩ := hr3.loop_at hσ3
  have hbb : b4 = w1.heap.size := by
   have := hl3.bk _ _ hb2
   rw [hb4] at this
   injection this
  subst hbb
  obtain ⟨hr5, hl5⟩ := hr3.loop_set hσ3 hb4 hlo4 .exhausted p
  have e5 : ({ l4 with state := LoopState.exhausted, pending := p } : Loop) = { l4 with state := .exhausted } := by rw [← q2]
  rw [e5] at hr5 hl5
  have hr6 := hr5.gone σ.length
  rw [set_set_gone] at hr6
  have hlfin := hlall.trans (hl3.trans hl5)
  have hmk : Marks m0 _ (mark ++ a.defers) := (hmark.mono hl3).mono hl5
  refine ⟨l4.pending, _, run_endLoop hlo4 (by rw [q1]; exact hsb), ?_⟩
  generalize hw5 : ({ w3 with heap := w3.heap.setIfInBounds w1.heap.size (Obj.loop { l4 with state := .exhausted }) } : World) = w5 at hr6 hlfin hmk ⊢
  rw [q2]
  have fin : ∀ ex, Q ex env (σ3.set σ.length .gone) → Left_ N g w n m0 Q ex { a with defers := mark ++ a.defers } w5 := fun ex hq => ⟨env, _, g3, hq, hr6, he.mono hlfin, hlfin.toN N, hn, hmk⟩
  cases p with
  | none => exact fin .normal hp
  | some c =>
   cases c with
   | ret => exact wpIn_ret (fin .ret hp)
   | exit x => exact wpIn_exit (fin (.exit x) hp)
   | _ => exact hp.elim
end
end
section
section
variable {P : Program} {fn : Func} {S L : MS} {R : MV → MS → Prop} {env : Env}
theorem mcalls_body {f : FuncId} {c : Code} {args : List MV} {n : Nat} (hf : P.funcs[f]? = some fn) (hb : fn.body = some c) (hn : fn.ntmps = n) (ha : args.length ≤ n)
  (h : mwp P none S.length n c (BodyQ P fn S R) (argEnv 0 args) (S ++ [])) : MCalls P f args S R := by
 refine mcalls_of_body hf hb hn ha ?_
 rw [List.append_nil] at h
 exact h
theorem _root_.zM : type_of% @mcalls_body := @mcalls_body
theorem ret_tmp {e : Exit} {t : Nat} {x y : MV} (he : e = .normal ∨ e = .ret) (hres : fn.results = #[.tmp t]) (hx : get env t = some x) (hs : Sub x y) (hc : Cl S.length y) (hR : R y S) : BodyQ P fn S R e env (S ++ L) := by
 refine ⟨he, [x], y, S, L, ?_, hs, hc, rfl, Nat.le_refl _, .inl rfl, hR⟩
 rw [hres]
 exact .tmp hx .nil
theorem _root_.zR : type_of% @ret_tmp := @ret_tmp
theorem ret_tmp2 {e : Exit} {t t' : Nat} {x y x' y' : MV} (he : e = .normal ∨ e = .ret) (hres : fn.results = #[.tmp t, .tmp t']) (hx : get env t = some x) (hx' : get env t' = some x') (hs : Sub x y) (hs' : Sub x' y') (hc : Cl S.length y) (hc' : Cl S.length y') (hR : R (.tup [y, y']) S) : BodyQ P fn S R e env (S ++ L) := by
 refine ⟨he, [x, x'], .tup [y, y'], S, L, ?_, .tup (.cons hs (.cons hs' .nil)), .tup _ (fun z hz => ?_), rfl, Nat.le_refl _, .inl rfl, hR⟩
 ·rw [hres]
  exact .tmp hx (.tmp hx' .nil)
 ·simp at hz
  rcases hz with rfl | rfl
  ·exact hc
  ·exact hc'
theorem ret_cell {e : Exit} {a t k off : Nat} {l : List MV} {ta : Option Nat} {x y : MV} (he : e = .normal ∨ e = .ret) (hres : fn.results = #[.cell a t]) (ha : get env a = some (.ref (S.length + k) off)) (hl : L[k]? = some (.cells l)) (ht : tyAgg P t = some ta) (hm : loadMV ta l off = some x) (hs : Sub x y) (hc : Cl S.length y) (hR : R y S) : BodyQ P fn S R e env (S ++ L) := by
 refine ⟨he, [x], y, S, L, ?_, hs, hc, rfl, Nat.le_refl _, .inl rfl, hR⟩
 rw [hres]
 exact .cell ha (by rw [getElem?_own]; exact hl) ht hm .nil
theorem _root_.zK2 : type_of% @ret_cell := @ret_cell
theorem Sub.of_eq {x y : MV} (h : x = y) : Sub x y := h ▸ .refl x
theorem wrap_i64 {n : Int} (h : -9223372036854775808 ≤ n ∧ n ≤ 9223372036854775807) : IntKind.i64.wrap n = n := by
 rw [IntKind.wrap_i64]; omega
end
theorem int_succ {i n : Nat} (h : i < n) (hn : n ≤ maxLen) : MV.int .i64 (IntKind.i64.wrap ((i : Int) + 1)) = .int .i64 ((i + 1 : Nat) : Int) := by
 rw [wrap_i64 (by simp only [maxLen] at hn; omega)]
 rfl
theorem _root_.zQ1 : type_of% @int_succ := @int_succ
section
variable {P : Program} {rd : Option Nat} {N n : Nat} {Q : Exit → Env → MS → Prop} {env : Env} {σ : MS} {c : Code}
theorem mwp_len {t : Nat} {tok : Option Nat} {sz : Nat} {xs : List MV} (ht : get env t = some (.lst tok sz xs)) (h : xs.length ≤ maxLen → mwp P rd N n c Q env σ) : mwp P rd N n c Q env σ := by
 intro g w a F m0 hF hr he hn hm
 obtain ⟨v, _, hv⟩ := he t _ ht
 obtain ⟨_, _, _, _, h1, h2, _⟩ := hv.inv_lst
 exact h (by omega) g w a F m0 hF hr he hn hm
theorem _root_.zL3 : type_of% @mwp_len := @mwp_len
end
section
variable {P : Program} {rd : Option Nat} {N n : Nat} {Q : Exit → Env → MS → Prop} {env : Env} {S L : MS} {c : Code}
end
inductive Sch where
 | mk (kind : Int) (ins : List Sch)
 deriving Inhabited
mutual
def encS : Sch → MV
 | .mk k ins => .agg [.int .i64 k, .lst none 2 (encSs ins)]
def encSs : List Sch → List MV
 | [] => []
 | s :: l => encS s :: encSs l
end
theorem encSs_eq : ∀ l : List Sch, encSs l = l.map encS
 | [] => by simp [encSs]
 | s :: l => by simp [encSs, encSs_eq l]
theorem _root_.zF : type_of% @List.length_map := @List.length_map
theorem encSs_length (l : List Sch) : (encSs l).length = l.length := by rw [encSs_eq, zF]
theorem _root_.zI3 : type_of% @encSs_length := @encSs_length
theorem _root_.zH0 : type_of% @List.getElem?_map := @List.getElem?_map
theorem encSs_get {l : List Sch} {i : Nat} {s : Sch} (h : l[i]? = some s) : (encSs l)[i]? = some (encS s) := by rw [encSs_eq, zH0, h]; rfl
mutual
theorem cl_encS (n : Nat) : ∀ s : Sch, Cl n (encS s)
 | .mk k ins => by
  refine .agg _ fun x hx => ?_
  simp only [encS, List.mem_cons, List.not_mem_nil, or_false] at hx
  rcases hx with rfl | rfl
  ·exact .int _ _
  ·exact .lst none 2 _ (fun t ht => by cases ht) (cl_encSs n ins)
theorem cl_encSs (n : Nat) : ∀ (l : List Sch), ∀ x ∈ flat (encSs l), Cl n x
 | [], x, hx => by simp [encSs, flat] at hx
 | s :: l, x, hx => by
  rw [encSs, zW5, zV2] at hx
  rcases hx with hx | hx
  ·have h := cl_encS n s
   cases s with
   | mk k ins =>
    cases h with
    | agg _ h => exact h x hx
  ·exact cl_encSs n l x hx
end
theorem cl_encSl (n : Nat) (l : List Sch) : Cl n (.lst none 2 (encSs l)) := .lst none 2 _ (fun t ht => by cases ht) (cl_encSs n l)
end
section
section
variable {P : Program} {rd : Option Nat} {N n : Nat} {o : Oper} {rest : List Oper} {ops : Array Oper} {env : Env} {σ S L : MS} {c c1 c2 : Code} {Q : Exit → Env → MS → Prop} {W : Env → MS → Prop}
theorem qM {x : Operand} {m : MV} (hg : guardOk ops env o = some true) (ho : o.op = .move x) (hx : evo env x = some m) (h : wOps P rd ops W rest (putd o.dst m env) σ) : wOps P rd ops W (o :: rest) env σ := zM5 hg (zY ho hx h)
theorem qA {x : Operand} {m : MV} (hg : guardOk ops env o = some true) (ho : o.op = .assign x) (hx : evo env x = some m) (h : wOps P rd ops W rest (putd o.dst m env) σ) : wOps P rd ops W (o :: rest) env σ := zM5 hg (zF1 ho hx h)
theorem qP {x y z : Operand} {b : Bool} {m : MV} (hg : guardOk ops env o = some true) (ho : o.op = .pick x y z) (hc : evo env x = some (.bool b)) (hm : evo env (if b then y else z) = some m) (h : wOps P rd ops W rest (putd o.dst m env) σ) : wOps P rd ops W (o :: rest) env σ := zM5 hg (zO1 ho hc hm h)
theorem qC {b : BinOp} {t t' : TypeId} {x y : Operand} {k : IntKind} {m p : Int} {r : Bool} (hg : guardOk ops env o = some true) (ho : o.op = .binOp b t x y t') (hx : evo env x = some (.int k m)) (hy : evo env y = some (.int k p)) (hr : intCmp b m p = some r) (h : wOps P rd ops W rest (putd o.dst (.bool r) env) σ) : wOps P rd ops W (o :: rest) env σ := zM5 hg (zW2 ho hx hy hr h)
theorem qL {t : TypeId} {x : Operand} {k off : Nat} {l : List MV} {ta : Option Nat} {m : MV} (hg : guardOk ops env o = some true) (ho : o.op = .load t x) (hx : evo env x = some (.ref (S.length + k) off)) (hσ : L[k]? = some (.cells l)) (ht : tyAgg P t = some ta) (hm : loadMV ta l off = some m) (h : wOps P rd ops W rest (putd o.dst m env) (S ++ L)) : wOps P rd ops W (o :: rest) env (S ++ L) := zM5 hg (zO0 ho hx hσ ht hm h)
theorem qF {t : TypeId} {x : Operand} {f id off fo : Nat} {ft : TypeId} (hg : guardOk ops env o = some true) (ho : o.op = .fieldAddr t x f) (hx : evo env x = some (.ref id off)) (hf : fieldOff P t f = some (fo, ft)) (h : wOps P rd ops W rest (putd o.dst (.ref id (off + fo)) env) σ) : wOps P rd ops W (o :: rest) env σ := zM5 hg (zE ho hx hf h)
theorem qB {t : TypeId} {x : Operand} {m : MV} {k : Nat} {L' : MS} (hg : guardOk ops env o = some true) (ho : o.op = .box t x) (hx : evo env x = some m) (hk : L.length = k) (hL : L ++ [.cells m.cells] = L') (h : wOps P rd ops W rest (putd o.dst (.ref (S.length + k) 0) env) (S ++ L')) : wOps P rd ops W (o :: rest) env (S ++ L) := zM5 hg (op_box' ho hx hk hL h)
theorem qE {x : Operand} {tok : Option Nat} {sz : Nat} {xs : List MV} {t e : TypeId} (hg : guardOk ops env o = some true) (ho : o.op = .call { callee := .builtin .len, args := #[x], argTypes := #[t] }) (hu : P.underlying t = some (.slice e)) (hx : evo env x = some (.lst tok sz xs)) (h : wOps P rd ops W rest (putd o.dst (.int .i64 (xs.length : Int)) env) σ) : wOps P rd ops W (o :: rest) env σ := zM5 hg (zW1 ho hu hx h)
theorem qS (hg : guardOk ops env o = some false) (h : wOps P rd ops W rest (putd o.dst (.tup []) env) σ) : wOps P rd ops W (o :: rest) env σ := wOps_skip hg h
theorem qO (hg : guardOk ops env o = some true) (h : OpWp P rd o env σ fun x σ' => wOps P rd ops W rest (putd o.dst x env) σ') : wOps P rd ops W (o :: rest) env σ := zM5 hg h
theorem qN (h : W env σ) : wOps P rd ops W [] env σ := h
theorem qR {id : Nat} (hb : dstsOk n ops = true) (h : wOps P rd ops (fun env σ => Q .normal env σ) ops.toList env σ) : mwp P rd N n (.region id ops false) Q env σ := mwp_region hb h
section
variable {eff : List Nat} {Ss : List MS} {D : Env → Prop} {i : Nat} {s : MS} {m : MV}
theorem dO (hg : guardOk ops env o = some true) (he : effAt i eff 0 = none) (hs : span_ Ss (loOf ops o eff 0 0) (hiOf ops i eff 0) = [s]) (h : OpWp P rd o env s fun x' σ' => x' = m ∧ σ' = s) (hr : dOps P rd ops eff Ss D rest (i + 1) (putd o.dst m env)) : dOps P rd ops eff Ss D (o :: rest) i env := zU hg he (by rw [hs]; exact .cons h .nil) hr
theorem dS (hg : guardOk ops env o = some false) (he : effAt i eff 0 = none) (hr : dOps P rd ops eff Ss D rest (i + 1) (putd o.dst (.tup []) env)) : dOps P rd ops eff Ss D (o :: rest) i env := dOps_skip hg he hr
end
end
theorem qX {P : Program} {rd : Option Nat} {o : Oper} {rest : List Oper} {ops : Array Oper} {env : Env} {σ : MS} {W : Env → MS → Prop} {f : Operand} {args : Array Operand} {ts : Array TypeId} {k : FuncId} {first caps xs : List MV} {X : MV} {T : MS} (hg : guardOk ops env o = some true) (ho : o.op = .call { callee := .value f, args := args, argTypes := ts }) (hf : evo env f = some (.fn (.func k) first caps)) (hx : evos env args.toList = some xs) (hb : CallOk P k) (h : MCalls P k (first ++ xs ++ caps) σ fun v σ' => v = X ∧ σ' = T) (hr : wOps P rd ops W rest (putd o.dst X env) T) : wOps P rd ops W (o :: rest) env σ := zM5 hg (zD1 ho hf hx hb (h.mono fun v σ' e => by obtain ⟨rfl, rfl⟩ := e; exact hr))
theorem qT {P : Program} {rd : Option Nat} {o o2 o3 o4 : Oper} {rest : List Oper} {ops : Array Oper} {env : Env} {σ : MS} {W : Env → MS → Prop} (h1 : guardOk ops env o = some false) (h2 : guardOk ops (putd o.dst (.tup []) env) o2 = some false) (h3 : guardOk ops (putd o2.dst (.tup []) (putd o.dst (.tup []) env)) o3 = some false) (h4 : guardOk ops (putd o3.dst (.tup []) (putd o2.dst (.tup []) (putd o.dst (.tup []) env))) o4 = some false) (h : wOps P rd ops W rest (putd o4.dst (.tup []) (putd o3.dst (.tup []) (putd o2.dst (.tup []) (putd o.dst (.tup []) env)))) σ) : wOps P rd ops W (o :: o2 :: o3 :: o4 :: rest) env σ := qS h1 <| qS h2 <| qS h3 <| qS h4 h
end
end Go.MV
namespace Go.Proofs.YtciimaabeabkdaaGreatDoor
open Go Go.MV
theorem mo : Tryz.prog.follows .mixedOrders = true := by kernel_rfl
theorem ta2 : tyAgg Tryz.prog 2 = some none := by kernel_rfl
theorem ta3 : tyAgg Tryz.prog 3 = some none := by kernel_rfl
theorem sz3 : szOf Tryz.prog 3 = some 1 := by kernel_rfl
theorem el3 : elemOk Tryz.prog 3 1 8 = true := by kernel_rfl
theorem ta4 : tyAgg Tryz.prog 4 = some none := by kernel_rfl
theorem sz4 : szOf Tryz.prog 4 = some 1 := by kernel_rfl
theorem zm4 : zeroMV Tryz.prog 4 = some [.bool false] := by kernel_rfl
theorem sz5 : szOf Tryz.prog 5 = some 1 := by kernel_rfl
theorem zm5 : zeroMV Tryz.prog 5 = some [.int .u8 0] := by kernel_rfl
theorem el5 : elemOk Tryz.prog 5 1 1 = true := by kernel_rfl
theorem ta9 : tyAgg Tryz.prog 9 = some none := by kernel_rfl
theorem sz9 : szOf Tryz.prog 9 = some 1 := by kernel_rfl
theorem zm9 : zeroMV Tryz.prog 9 = some [.str (bs [])] := by kernel_rfl
theorem el9 : elemOk Tryz.prog 9 1 16 = true := by kernel_rfl
theorem ta22 : tyAgg Tryz.prog 22 = some none := by kernel_rfl
theorem sz22 : szOf Tryz.prog 22 = some 1 := by kernel_rfl
theorem el22 : elemOk Tryz.prog 22 1 8 = true := by kernel_rfl
theorem ta23 : tyAgg Tryz.prog 23 = some none := by kernel_rfl
theorem sz23 : szOf Tryz.prog 23 = some 1 := by kernel_rfl
theorem zm23 : zeroMV Tryz.prog 23 = some [.lst0] := by kernel_rfl
theorem ta24 : tyAgg Tryz.prog 24 = some none := by kernel_rfl
theorem sz24 : szOf Tryz.prog 24 = some 1 := by kernel_rfl
theorem ta25 : tyAgg Tryz.prog 25 = some none := by kernel_rfl
theorem sz25 : szOf Tryz.prog 25 = some 1 := by kernel_rfl
theorem ta27 : tyAgg Tryz.prog 27 = some (some 5) := by kernel_rfl
theorem sz27 : szOf Tryz.prog 27 = some 5 := by kernel_rfl
theorem zm27 : zeroMV Tryz.prog 27 = some [.int .u64 0, .int .u64 0, .lst0, .lst0, .lst0] := by kernel_rfl
theorem el27 : elemOk Tryz.prog 27 5 88 = true := by kernel_rfl
theorem fo27_0 : fieldOff Tryz.prog 27 0 = some (0, 22) := by kernel_rfl
theorem _root_.zC5 : type_of% @fo27_0 := @fo27_0
theorem fo27_1 : fieldOff Tryz.prog 27 1 = some (1, 22) := by kernel_rfl
theorem _root_.zI6 : type_of% @fo27_1 := @fo27_1
theorem fo27_2 : fieldOff Tryz.prog 27 2 = some (2, 23) := by kernel_rfl
theorem _root_.zC3 : type_of% @fo27_2 := @fo27_2
theorem fo27_3 : fieldOff Tryz.prog 27 3 = some (3, 24) := by kernel_rfl
theorem _root_.zT2 : type_of% @fo27_3 := @fo27_3
theorem fo27_4 : fieldOff Tryz.prog 27 4 = some (4, 25) := by kernel_rfl
theorem _root_.zI2 : type_of% @fo27_4 := @fo27_4
theorem ta28 : tyAgg Tryz.prog 28 = some none := by kernel_rfl
theorem ta29 : tyAgg Tryz.prog 29 = some none := by kernel_rfl
theorem ta30 : tyAgg Tryz.prog 30 = some none := by kernel_rfl
theorem ta31 : tyAgg Tryz.prog 31 = some none := by kernel_rfl
theorem ta33 : tyAgg Tryz.prog 33 = some (some 2) := by kernel_rfl
theorem zm33 : zeroMV Tryz.prog 33 = some [.lst0, .lst0] := by kernel_rfl
theorem fo33_0 : fieldOff Tryz.prog 33 0 = some (0, 30) := by kernel_rfl
theorem fo33_1 : fieldOff Tryz.prog 33 1 = some (1, 31) := by kernel_rfl
theorem ta35 : tyAgg Tryz.prog 35 = some (some 15) := by kernel_rfl
theorem sz35 : szOf Tryz.prog 35 = some 15 := by kernel_rfl
theorem zm35 : zeroMV Tryz.prog 35 = some [.int .i64 0, .int .i64 0, .int .i64 0, .int .u64 0, .int .i64 0, .str (bs []), .int .u64 0, .int .u64 0, .lst0, .lst0, .lst0, .lst0, .lst0, .lst0, .lst0] := by kernel_rfl
theorem el35 : elemOk Tryz.prog 35 15 240 = true := by kernel_rfl
theorem fo35_0 : fieldOff Tryz.prog 35 0 = some (0, 3) := by kernel_rfl
theorem _root_.zJ6 : type_of% @fo35_0 := @fo35_0
theorem fo35_1 : fieldOff Tryz.prog 35 1 = some (1, 3) := by kernel_rfl
theorem fo35_2 : fieldOff Tryz.prog 35 2 = some (2, 3) := by kernel_rfl
theorem fo35_3 : fieldOff Tryz.prog 35 3 = some (3, 22) := by kernel_rfl
theorem _root_.zY6 : type_of% @fo35_3 := @fo35_3
theorem fo35_4 : fieldOff Tryz.prog 35 4 = some (4, 3) := by kernel_rfl
theorem fo35_5 : fieldOff Tryz.prog 35 5 = some (5, 9) := by kernel_rfl
theorem fo35_6 : fieldOff Tryz.prog 35 6 = some (6, 27) := by kernel_rfl
theorem fo35_7 : fieldOff Tryz.prog 35 7 = some (11, 28) := by kernel_rfl
theorem fo35_8 : fieldOff Tryz.prog 35 8 = some (12, 29) := by kernel_rfl
theorem fo35_9 : fieldOff Tryz.prog 35 9 = some (13, 33) := by kernel_rfl
theorem _root_.zG5 : type_of% @fo35_9 := @fo35_9
theorem ta39 : tyAgg Tryz.prog 39 = some none := by kernel_rfl
theorem sz39 : szOf Tryz.prog 39 = some 1 := by kernel_rfl
theorem ta43 : tyAgg Tryz.prog 43 = some none := by kernel_rfl
theorem sz43 : szOf Tryz.prog 43 = some 1 := by kernel_rfl
theorem zm43 : zeroMV Tryz.prog 43 = some [.iface0] := by kernel_rfl
theorem ta47 : tyAgg Tryz.prog 47 = some none := by kernel_rfl
theorem sz47 : szOf Tryz.prog 47 = some 1 := by kernel_rfl
theorem ta51 : tyAgg Tryz.prog 51 = some none := by kernel_rfl
theorem sz51 : szOf Tryz.prog 51 = some 1 := by kernel_rfl
theorem ta53 : tyAgg Tryz.prog 53 = some (some 2) := by kernel_rfl
theorem sz53 : szOf Tryz.prog 53 = some 2 := by kernel_rfl
theorem zm53 : zeroMV Tryz.prog 53 = some [.int .i64 0, .lst0] := by kernel_rfl
theorem el53 : elemOk Tryz.prog 53 2 32 = true := by kernel_rfl
theorem fo53_0 : fieldOff Tryz.prog 53 0 = some (0, 3) := by kernel_rfl
theorem _root_.zJ2 : type_of% @fo53_0 := @fo53_0
theorem fo53_1 : fieldOff Tryz.prog 53 1 = some (1, 51) := by kernel_rfl
theorem _root_.zS3 : type_of% @fo53_1 := @fo53_1
theorem ta55 : tyAgg Tryz.prog 55 = some (some 4) := by kernel_rfl
theorem sz55 : szOf Tryz.prog 55 = some 4 := by kernel_rfl
theorem zm55 : zeroMV Tryz.prog 55 = some [.str (bs []), .int .i64 0, .int .i64 0, .lst0] := by kernel_rfl
theorem el55 : elemOk Tryz.prog 55 4 56 = true := by kernel_rfl
theorem fo55_0 : fieldOff Tryz.prog 55 0 = some (0, 9) := by kernel_rfl
theorem fo55_1 : fieldOff Tryz.prog 55 1 = some (1, 3) := by kernel_rfl
theorem fo55_2 : fieldOff Tryz.prog 55 2 = some (2, 53) := by kernel_rfl
theorem _root_.zZ6 : type_of% @fo55_2 := @fo55_2
theorem ta104 : tyAgg Tryz.prog 104 = some (some 5) := by kernel_rfl
theorem sz104 : szOf Tryz.prog 104 = some 5 := by kernel_rfl
theorem zm104 : zeroMV Tryz.prog 104 = some [.bool false, .bool false, .bool false, .bool false, .bool false] := by kernel_rfl
theorem fo104_0 : fieldOff Tryz.prog 104 0 = some (0, 4) := by kernel_rfl
theorem fo104_1 : fieldOff Tryz.prog 104 1 = some (1, 4) := by kernel_rfl
theorem fo104_2 : fieldOff Tryz.prog 104 2 = some (2, 4) := by kernel_rfl
theorem fo104_3 : fieldOff Tryz.prog 104 3 = some (3, 4) := by kernel_rfl
theorem _root_.zS6 : type_of% @fo104_3 := @fo104_3
theorem fo104_4 : fieldOff Tryz.prog 104 4 = some (4, 4) := by kernel_rfl
theorem _root_.zR4 : type_of% @fo104_4 := @fo104_4
theorem ta113 : tyAgg Tryz.prog 113 = some (some 2) := by kernel_rfl
theorem sz113 : szOf Tryz.prog 113 = some 2 := by kernel_rfl
theorem zm113 : zeroMV Tryz.prog 113 = some [.str (bs []), .int .u64 0] := by kernel_rfl
theorem fo113_0 : fieldOff Tryz.prog 113 0 = some (0, 9) := by kernel_rfl
theorem ta114 : tyAgg Tryz.prog 114 = some none := by kernel_rfl
theorem ta117 : tyAgg Tryz.prog 117 = some none := by kernel_rfl
theorem sz117 : szOf Tryz.prog 117 = some 1 := by kernel_rfl
theorem fo119_0 : fieldOff Tryz.prog 119 0 = some (0, 117) := by kernel_rfl
theorem fo119_1 : fieldOff Tryz.prog 119 1 = some (1, 47) := by kernel_rfl
theorem _root_.zB5 : type_of% @fo119_1 := @fo119_1
theorem zm121 : zeroMV Tryz.prog 121 = some [.ptr0, .lst0, .lst0] := by kernel_rfl
theorem fo121_0 : fieldOff Tryz.prog 121 0 = some (0, 119) := by kernel_rfl
theorem fo121_1 : fieldOff Tryz.prog 121 1 = some (2, 39) := by kernel_rfl
theorem ta125 : tyAgg Tryz.prog 125 = some none := by kernel_rfl
theorem zm127 : zeroMV Tryz.prog 127 = some [.lst0, .str (bs []), .bool false] := by kernel_rfl
theorem fo127_0 : fieldOff Tryz.prog 127 0 = some (0, 39) := by kernel_rfl
theorem fo127_1 : fieldOff Tryz.prog 127 1 = some (1, 9) := by kernel_rfl
theorem fo127_2 : fieldOff Tryz.prog 127 2 = some (2, 4) := by kernel_rfl
theorem ta132 : tyAgg Tryz.prog 132 = some (some 6) := by kernel_rfl
theorem sz132 : szOf Tryz.prog 132 = some 6 := by kernel_rfl
theorem zm132 : zeroMV Tryz.prog 132 = some [.str (bs []), .int .u64 0, .int .u64 0, .lst0, .lst0, .lst0] := by kernel_rfl
theorem fo132_0 : fieldOff Tryz.prog 132 0 = some (0, 9) := by kernel_rfl
theorem fo132_1 : fieldOff Tryz.prog 132 1 = some (1, 27) := by kernel_rfl
theorem ta146 : tyAgg Tryz.prog 146 = some none := by kernel_rfl
theorem fo148_0 : fieldOff Tryz.prog 148 0 = some (0, 23) := by kernel_rfl
theorem fo148_1 : fieldOff Tryz.prog 148 1 = some (1, 146) := by kernel_rfl
theorem fo150_0 : fieldOff Tryz.prog 150 0 = some (0, 39) := by kernel_rfl
theorem fo150_1 : fieldOff Tryz.prog 150 1 = some (1, 148) := by kernel_rfl
theorem fo163_0 : fieldOff Tryz.prog 163 0 = some (0, 23) := by kernel_rfl
theorem _root_.zZ3 : type_of% @fo163_0 := @fo163_0
theorem zm165 : zeroMV Tryz.prog 165 = some [.lst0, .lst0] := by kernel_rfl
theorem fo165_0 : fieldOff Tryz.prog 165 0 = some (0, 39) := by kernel_rfl
theorem fo165_1 : fieldOff Tryz.prog 165 1 = some (1, 163) := by kernel_rfl
theorem _root_.zO3 : type_of% @fo165_1 := @fo165_1
theorem ta184 : tyAgg Tryz.prog 184 = some (some 2) := by kernel_rfl
theorem sz184 : szOf Tryz.prog 184 = some 2 := by kernel_rfl
theorem zm184 : zeroMV Tryz.prog 184 = some [.int .i64 0, .int .u64 0] := by kernel_rfl
theorem fo184_0 : fieldOff Tryz.prog 184 0 = some (0, 3) := by kernel_rfl
theorem fo184_1 : fieldOff Tryz.prog 184 1 = some (1, 22) := by kernel_rfl
theorem ta187 : tyAgg Tryz.prog 187 = some (some 3) := by kernel_rfl
theorem sz187 : szOf Tryz.prog 187 = some 3 := by kernel_rfl
theorem zm187 : zeroMV Tryz.prog 187 = some [.str (bs []), .int .u64 0, .int .u64 0] := by kernel_rfl
theorem fo187_0 : fieldOff Tryz.prog 187 0 = some (0, 9) := by kernel_rfl
theorem fo187_1 : fieldOff Tryz.prog 187 1 = some (1, 22) := by kernel_rfl
theorem fo187_2 : fieldOff Tryz.prog 187 2 = some (2, 22) := by kernel_rfl
theorem ta190 : tyAgg Tryz.prog 190 = some none := by kernel_rfl
theorem ta202 : tyAgg Tryz.prog 202 = some none := by kernel_rfl
theorem sz202 : szOf Tryz.prog 202 = some 1 := by kernel_rfl
theorem el202 : elemOk Tryz.prog 202 1 24 = true := by kernel_rfl
theorem zm232 : zeroMV Tryz.prog 232 = some [.ptr0, .lst0] := by kernel_rfl
theorem fo232_0 : fieldOff Tryz.prog 232 0 = some (0, 119) := by kernel_rfl
theorem ta252 : tyAgg Tryz.prog 252 = some none := by kernel_rfl
theorem ta262 : tyAgg Tryz.prog 262 = some (some 2) := by kernel_rfl
theorem sz262 : szOf Tryz.prog 262 = some 2 := by kernel_rfl
theorem zm262 : zeroMV Tryz.prog 262 = some [.int .i64 0, .int .u64 0] := by kernel_rfl
theorem el262 : elemOk Tryz.prog 262 2 16 = true := by kernel_rfl
theorem fo262_0 : fieldOff Tryz.prog 262 0 = some (0, 3) := by kernel_rfl
theorem _root_.zB6 : type_of% @fo262_0 := @fo262_0
theorem fo262_1 : fieldOff Tryz.prog 262 1 = some (1, 22) := by kernel_rfl
theorem ta265 : tyAgg Tryz.prog 265 = some (some 256) := by kernel_rfl
theorem sz265 : szOf Tryz.prog 265 = some 256 := by kernel_rfl
theorem zm265 : zeroMV Tryz.prog 265 = some [.bool false, .bool false, .bool false, .bool false, .bool false, .bool false, .bool false, .bool false, .bool false, .bool false, .bool false, .bool false, .bool false, .bool false, .bool false, .bool false, .bool false, .bool false, .bool false, .bool false, .bool false, .bool false, .bool false, .bool false, .bool false, .bool false, .bool false, .bool false, .bool false, .bool false, .bool false, .bool false, .bool false, .bool false, .bool false, .bool false, .bool false, .bool false, .bool false, .bool false, .bool false, .bool false, .bool false, .bool false, .bool false, .bool false, .bool false, .bool false, .bool false, .bool false, .bool false, .bool false, .bool false, .bool false, .bool false, .bool false, .bool false, .bool false, .bool false, .bool false, .bool false, .bool false, .bool false, .bool false, .bool false, .bool false, .bool false, .bool false, .bool false, .bool false, .bool false, .bool false, .bool false, .bool false, .bool false, .bool false, .bool false, .bool false, .bool false, .bool false, .bool false, .bool false, .bool false, .bool false, .bool false, .bool false, .bool false, .bool false, .bool false, .bool false, .bool false, .bool false, .bool false, .bool false, .bool false, .bool false, .bool false, .bool false, .bool false, .bool false, .bool false, .bool false, .bool false, .bool false, .bool false, .bool false, .bool false, .bool false, .bool false, .bool false, .bool false, .bool false, .bool false, .bool false, .bool false, .bool false, .bool false, .bool false, .bool false, .bool false, .bool false, .bool false, .bool false, .bool false, .bool false, .bool false, .bool false, .bool false, .bool false, .bool false, .bool false, .bool false, .bool false, .bool false, .bool false, .bool false, .bool false, .bool false, .bool false, .bool false, .bool false, .bool false, .bool false, .bool false, .bool false, .bool false, .bool false, .bool false, .bool false, .bool false, .bool false, .bool false, .bool false, .bool false, .bool false, .bool false, .bool false, .bool false, .bool false, .bool false, .bool false, .bool false, .bool false, .bool false, .bool false, .bool false, .bool false, .bool false, .bool false, .bool false, .bool false, .bool false, .bool false, .bool false, .bool false, .bool false, .bool false, .bool false, .bool false, .bool false, .bool false, .bool false, .bool false, .bool false, .bool false, .bool false, .bool false, .bool false, .bool false, .bool false, .bool false, .bool false, .bool false, .bool false, .bool false, .bool false, .bool false, .bool false, .bool false, .bool false, .bool false, .bool false, .bool false, .bool false, .bool false, .bool false, .bool false, .bool false, .bool false, .bool false, .bool false, .bool false, .bool false, .bool false, .bool false, .bool false, .bool false, .bool false, .bool false, .bool false, .bool false, .bool false, .bool false, .bool false, .bool false, .bool false, .bool false, .bool false, .bool false, .bool false, .bool false, .bool false, .bool false, .bool false, .bool false, .bool false, .bool false, .bool false, .bool false, .bool false, .bool false, .bool false, .bool false, .bool false, .bool false, .bool false, .bool false, .bool false, .bool false, .bool false, .bool false, .bool false, .bool false, .bool false, .bool false, .bool false] := by kernel_rfl
theorem ta286 : tyAgg Tryz.prog 286 = some none := by kernel_rfl
theorem sz286 : szOf Tryz.prog 286 = some 1 := by kernel_rfl
theorem zm286 : zeroMV Tryz.prog 286 = some [.fn0] := by kernel_rfl
theorem ta304 : tyAgg Tryz.prog 304 = some none := by kernel_rfl
theorem ta320 : tyAgg Tryz.prog 320 = some none := by kernel_rfl
theorem sz320 : szOf Tryz.prog 320 = some 1 := by kernel_rfl
theorem ta322 : tyAgg Tryz.prog 322 = some none := by kernel_rfl
theorem ta323 : tyAgg Tryz.prog 323 = some none := by kernel_rfl
theorem sz323 : szOf Tryz.prog 323 = some 1 := by kernel_rfl
theorem ta325 : tyAgg Tryz.prog 325 = some (some 3) := by kernel_rfl
theorem sz325 : szOf Tryz.prog 325 = some 3 := by kernel_rfl
theorem zm325 : zeroMV Tryz.prog 325 = some [.str (bs []), .ptr0, .ptr0] := by kernel_rfl
theorem el325 : elemOk Tryz.prog 325 3 32 = true := by kernel_rfl
theorem fo325_0 : fieldOff Tryz.prog 325 0 = some (0, 9) := by kernel_rfl
theorem fo325_1 : fieldOff Tryz.prog 325 1 = some (1, 323) := by kernel_rfl
theorem fo325_2 : fieldOff Tryz.prog 325 2 = some (2, 323) := by kernel_rfl
theorem ta329 : tyAgg Tryz.prog 329 = some none := by kernel_rfl
theorem sz329 : szOf Tryz.prog 329 = some 1 := by kernel_rfl
theorem ta332 : tyAgg Tryz.prog 332 = some (some 3) := by kernel_rfl
theorem sz332 : szOf Tryz.prog 332 = some 3 := by kernel_rfl
theorem zm332 : zeroMV Tryz.prog 332 = some [.lst0, .ptr0, .ptr0] := by kernel_rfl
theorem el332 : elemOk Tryz.prog 332 3 40 = true := by kernel_rfl
theorem fo332_0 : fieldOff Tryz.prog 332 0 = some (0, 202) := by kernel_rfl
theorem _root_.zT6 : type_of% @fo332_0 := @fo332_0
theorem fo332_1 : fieldOff Tryz.prog 332 1 = some (1, 323) := by kernel_rfl
theorem fo332_2 : fieldOff Tryz.prog 332 2 = some (2, 323) := by kernel_rfl
theorem co13 : CallOk Tryz.prog 13 := ⟨_, _, Tryz.func13, by kernel_rfl, rfl⟩
theorem co15 : CallOk Tryz.prog 15 := ⟨_, _, Tryz.func15, by kernel_rfl, rfl⟩
theorem co16 : CallOk Tryz.prog 16 := ⟨_, _, Tryz.func16, by kernel_rfl, rfl⟩
theorem co18 : CallOk Tryz.prog 18 := ⟨_, _, Tryz.func18, by kernel_rfl, rfl⟩
theorem co20 : CallOk Tryz.prog 20 := ⟨_, _, Tryz.func20, by kernel_rfl, rfl⟩
theorem co22 : CallOk Tryz.prog 22 := ⟨_, _, Tryz.func22, by kernel_rfl, rfl⟩
theorem co27 : CallOk Tryz.prog 27 := ⟨_, _, Tryz.func27, by kernel_rfl, rfl⟩
theorem co30 : CallOk Tryz.prog 30 := ⟨_, _, Tryz.func30, by kernel_rfl, rfl⟩
theorem co34 : CallOk Tryz.prog 34 := ⟨_, _, Tryz.func34, by kernel_rfl, rfl⟩
theorem co35 : CallOk Tryz.prog 35 := ⟨_, _, Tryz.func35, by kernel_rfl, rfl⟩
theorem co36 : CallOk Tryz.prog 36 := ⟨_, _, Tryz.func36, by kernel_rfl, rfl⟩
theorem co37 : CallOk Tryz.prog 37 := ⟨_, _, Tryz.func37, by kernel_rfl, rfl⟩
theorem co38 : CallOk Tryz.prog 38 := ⟨_, _, Tryz.func38, by kernel_rfl, rfl⟩
theorem co39 : CallOk Tryz.prog 39 := ⟨_, _, Tryz.func39, by kernel_rfl, rfl⟩
theorem co40 : CallOk Tryz.prog 40 := ⟨_, _, Tryz.func40, by kernel_rfl, rfl⟩
theorem co41 : CallOk Tryz.prog 41 := ⟨_, _, Tryz.func41, by kernel_rfl, rfl⟩
theorem co44 : CallOk Tryz.prog 44 := ⟨_, _, Tryz.func44, by kernel_rfl, rfl⟩
theorem co50 : CallOk Tryz.prog 50 := ⟨_, _, Tryz.func50, by kernel_rfl, rfl⟩
theorem co54 : CallOk Tryz.prog 54 := ⟨_, _, Tryz.func54, by kernel_rfl, rfl⟩
theorem co55 : CallOk Tryz.prog 55 := ⟨_, _, Tryz.func55, by kernel_rfl, rfl⟩
theorem co56 : CallOk Tryz.prog 56 := ⟨_, _, Tryz.func56, by kernel_rfl, rfl⟩
theorem co57 : CallOk Tryz.prog 57 := ⟨_, _, Tryz.func57, by kernel_rfl, rfl⟩
theorem co58 : CallOk Tryz.prog 58 := ⟨_, _, Tryz.func58, by kernel_rfl, rfl⟩
theorem co59 : CallOk Tryz.prog 59 := ⟨_, _, Tryz.func59, by kernel_rfl, rfl⟩
theorem co60 : CallOk Tryz.prog 60 := ⟨_, _, Tryz.func60, by kernel_rfl, rfl⟩
theorem co61 : CallOk Tryz.prog 61 := ⟨_, _, Tryz.func61, by kernel_rfl, rfl⟩
theorem co62 : CallOk Tryz.prog 62 := ⟨_, _, Tryz.func62, by kernel_rfl, rfl⟩
theorem co63 : CallOk Tryz.prog 63 := ⟨_, _, Tryz.func63, by kernel_rfl, rfl⟩
theorem co64 : CallOk Tryz.prog 64 := ⟨_, _, Tryz.func64, by kernel_rfl, rfl⟩
theorem co65 : CallOk Tryz.prog 65 := ⟨_, _, Tryz.func65, by kernel_rfl, rfl⟩
theorem co66 : CallOk Tryz.prog 66 := ⟨_, _, Tryz.func66, by kernel_rfl, rfl⟩
theorem co67 : CallOk Tryz.prog 67 := ⟨_, _, Tryz.func67, by kernel_rfl, rfl⟩
theorem co68 : CallOk Tryz.prog 68 := ⟨_, _, Tryz.func68, by kernel_rfl, rfl⟩
theorem co72 : CallOk Tryz.prog 72 := ⟨_, _, Tryz.func72, by kernel_rfl, rfl⟩
theorem co75 : CallOk Tryz.prog 75 := ⟨_, _, Tryz.func75, by kernel_rfl, rfl⟩
theorem co76 : CallOk Tryz.prog 76 := ⟨_, _, Tryz.func76, by kernel_rfl, rfl⟩
theorem co77 : CallOk Tryz.prog 77 := ⟨_, _, Tryz.func77, by kernel_rfl, rfl⟩
theorem co79 : CallOk Tryz.prog 79 := ⟨_, _, Tryz.func79, by kernel_rfl, rfl⟩
theorem co80 : CallOk Tryz.prog 80 := ⟨_, _, Tryz.func80, by kernel_rfl, rfl⟩
theorem co81 : CallOk Tryz.prog 81 := ⟨_, _, Tryz.func81, by kernel_rfl, rfl⟩
theorem co83 : CallOk Tryz.prog 83 := ⟨_, _, Tryz.func83, by kernel_rfl, rfl⟩
theorem co84 : CallOk Tryz.prog 84 := ⟨_, _, Tryz.func84, by kernel_rfl, rfl⟩
theorem co88 : CallOk Tryz.prog 88 := ⟨_, _, Tryz.func88, by kernel_rfl, rfl⟩
theorem co90 : CallOk Tryz.prog 90 := ⟨_, _, Tryz.func90, by kernel_rfl, rfl⟩
theorem co91 : CallOk Tryz.prog 91 := ⟨_, _, Tryz.func91, by kernel_rfl, rfl⟩
theorem co92 : CallOk Tryz.prog 92 := ⟨_, _, Tryz.func92, by kernel_rfl, rfl⟩
theorem co93 : CallOk Tryz.prog 93 := ⟨_, _, Tryz.func93, by kernel_rfl, rfl⟩
theorem co105 : CallOk Tryz.prog 105 := ⟨_, _, Tryz.func105, by kernel_rfl, rfl⟩
theorem co109 : CallOk Tryz.prog 109 := ⟨_, _, Tryz.func109, by kernel_rfl, rfl⟩
theorem co116 : CallOk Tryz.prog 116 := ⟨_, _, Tryz.func116, by kernel_rfl, rfl⟩
theorem co117 : CallOk Tryz.prog 117 := ⟨_, _, Tryz.func117, by kernel_rfl, rfl⟩
theorem co118 : CallOk Tryz.prog 118 := ⟨_, _, Tryz.func118, by kernel_rfl, rfl⟩
theorem co119 : CallOk Tryz.prog 119 := ⟨_, _, Tryz.func119, by kernel_rfl, rfl⟩
theorem co120 : CallOk Tryz.prog 120 := ⟨_, _, Tryz.func120, by kernel_rfl, rfl⟩
theorem co121 : CallOk Tryz.prog 121 := ⟨_, _, Tryz.func121, by kernel_rfl, rfl⟩
theorem co122 : CallOk Tryz.prog 122 := ⟨_, _, Tryz.func122, by kernel_rfl, rfl⟩
theorem co123 : CallOk Tryz.prog 123 := ⟨_, _, Tryz.func123, by kernel_rfl, rfl⟩
theorem co125 : CallOk Tryz.prog 125 := ⟨_, _, Tryz.func125, by kernel_rfl, rfl⟩
theorem co126 : CallOk Tryz.prog 126 := ⟨_, _, Tryz.func126, by kernel_rfl, rfl⟩
theorem co127 : CallOk Tryz.prog 127 := ⟨_, _, Tryz.func127, by kernel_rfl, rfl⟩
theorem co128 : CallOk Tryz.prog 128 := ⟨_, _, Tryz.func128, by kernel_rfl, rfl⟩
theorem co129 : CallOk Tryz.prog 129 := ⟨_, _, Tryz.func129, by kernel_rfl, rfl⟩
theorem co133 : CallOk Tryz.prog 133 := ⟨_, _, Tryz.func133, by kernel_rfl, rfl⟩
theorem co134 : CallOk Tryz.prog 134 := ⟨_, _, Tryz.func134, by kernel_rfl, rfl⟩
theorem co135 : CallOk Tryz.prog 135 := ⟨_, _, Tryz.func135, by kernel_rfl, rfl⟩
theorem co136 : CallOk Tryz.prog 136 := ⟨_, _, Tryz.func136, by kernel_rfl, rfl⟩
theorem co137 : CallOk Tryz.prog 137 := ⟨_, _, Tryz.func137, by kernel_rfl, rfl⟩
theorem co138 : CallOk Tryz.prog 138 := ⟨_, _, Tryz.func138, by kernel_rfl, rfl⟩
theorem co139 : CallOk Tryz.prog 139 := ⟨_, _, Tryz.func139, by kernel_rfl, rfl⟩
theorem co140 : CallOk Tryz.prog 140 := ⟨_, _, Tryz.func140, by kernel_rfl, rfl⟩
theorem co141 : CallOk Tryz.prog 141 := ⟨_, _, Tryz.func141, by kernel_rfl, rfl⟩
theorem co142 : CallOk Tryz.prog 142 := ⟨_, _, Tryz.func142, by kernel_rfl, rfl⟩
theorem co144 : CallOk Tryz.prog 144 := ⟨_, _, Tryz.func144, by kernel_rfl, rfl⟩
theorem co145 : CallOk Tryz.prog 145 := ⟨_, _, Tryz.func145, by kernel_rfl, rfl⟩
theorem co146 : CallOk Tryz.prog 146 := ⟨_, _, Tryz.func146, by kernel_rfl, rfl⟩
theorem co150 : CallOk Tryz.prog 150 := ⟨_, _, Tryz.func150, by kernel_rfl, rfl⟩
theorem co151 : CallOk Tryz.prog 151 := ⟨_, _, Tryz.func151, by kernel_rfl, rfl⟩
theorem _root_.zT4 : type_of% @Tryz.func153 := @Tryz.func153
theorem co153 : CallOk Tryz.prog 153 := ⟨_, _, zT4, by kernel_rfl, rfl⟩
theorem co154 : CallOk Tryz.prog 154 := ⟨_, _, Tryz.func154, by kernel_rfl, rfl⟩
theorem co155 : CallOk Tryz.prog 155 := ⟨_, _, Tryz.func155, by kernel_rfl, rfl⟩
theorem _root_.zH5 : type_of% @Tryz.func165 := @Tryz.func165
theorem co165 : CallOk Tryz.prog 165 := ⟨_, _, zH5, by kernel_rfl, rfl⟩
theorem co166 : CallOk Tryz.prog 166 := ⟨_, _, Tryz.func166, by kernel_rfl, rfl⟩
theorem co167 : CallOk Tryz.prog 167 := ⟨_, _, Tryz.func167, by kernel_rfl, rfl⟩
theorem co168 : CallOk Tryz.prog 168 := ⟨_, _, Tryz.func168, by kernel_rfl, rfl⟩
theorem co169 : CallOk Tryz.prog 169 := ⟨_, _, Tryz.func169, by kernel_rfl, rfl⟩
theorem co170 : CallOk Tryz.prog 170 := ⟨_, _, Tryz.func170, by kernel_rfl, rfl⟩
theorem co171 : CallOk Tryz.prog 171 := ⟨_, _, Tryz.func171, by kernel_rfl, rfl⟩
theorem co172 : CallOk Tryz.prog 172 := ⟨_, _, Tryz.func172, by kernel_rfl, rfl⟩
theorem co175 : CallOk Tryz.prog 175 := ⟨_, _, Tryz.func175, by kernel_rfl, rfl⟩
theorem co176 : CallOk Tryz.prog 176 := ⟨_, _, Tryz.func176, by kernel_rfl, rfl⟩
theorem co177 : CallOk Tryz.prog 177 := ⟨_, _, Tryz.func177, by kernel_rfl, rfl⟩
theorem co180 : CallOk Tryz.prog 180 := ⟨_, _, Tryz.func180, by kernel_rfl, rfl⟩
theorem co181 : CallOk Tryz.prog 181 := ⟨_, _, Tryz.func181, by kernel_rfl, rfl⟩
theorem co182 : CallOk Tryz.prog 182 := ⟨_, _, Tryz.func182, by kernel_rfl, rfl⟩
theorem co185 : CallOk Tryz.prog 185 := ⟨_, _, Tryz.func185, by kernel_rfl, rfl⟩
theorem co186 : CallOk Tryz.prog 186 := ⟨_, _, Tryz.func186, by kernel_rfl, rfl⟩
theorem _root_.zE4 : type_of% @Tryz.func188 := @Tryz.func188
theorem co188 : CallOk Tryz.prog 188 := ⟨_, _, zE4, by kernel_rfl, rfl⟩
theorem co194 : CallOk Tryz.prog 194 := ⟨_, _, Tryz.func194, by kernel_rfl, rfl⟩
theorem co195 : CallOk Tryz.prog 195 := ⟨_, _, Tryz.func195, by kernel_rfl, rfl⟩
theorem _root_.zI5 : type_of% @Tryz.func205 := @Tryz.func205
theorem co205 : CallOk Tryz.prog 205 := ⟨_, _, zI5, by kernel_rfl, rfl⟩
theorem co206 : CallOk Tryz.prog 206 := ⟨_, _, Tryz.func206, by kernel_rfl, rfl⟩
theorem co207 : CallOk Tryz.prog 207 := ⟨_, _, Tryz.func207, by kernel_rfl, rfl⟩
theorem co208 : CallOk Tryz.prog 208 := ⟨_, _, Tryz.func208, by kernel_rfl, rfl⟩
theorem co209 : CallOk Tryz.prog 209 := ⟨_, _, Tryz.func209, by kernel_rfl, rfl⟩
theorem co210 : CallOk Tryz.prog 210 := ⟨_, _, Tryz.func210, by kernel_rfl, rfl⟩
theorem co211 : CallOk Tryz.prog 211 := ⟨_, _, Tryz.func211, by kernel_rfl, rfl⟩
theorem co212 : CallOk Tryz.prog 212 := ⟨_, _, Tryz.func212, by kernel_rfl, rfl⟩
theorem co213 : CallOk Tryz.prog 213 := ⟨_, _, Tryz.func213, by kernel_rfl, rfl⟩
theorem co214 : CallOk Tryz.prog 214 := ⟨_, _, Tryz.func214, by kernel_rfl, rfl⟩
theorem co215 : CallOk Tryz.prog 215 := ⟨_, _, Tryz.func215, by kernel_rfl, rfl⟩
theorem co216 : CallOk Tryz.prog 216 := ⟨_, _, Tryz.func216, by kernel_rfl, rfl⟩
theorem co220 : CallOk Tryz.prog 220 := ⟨_, _, Tryz.func220, by kernel_rfl, rfl⟩
theorem co224 : CallOk Tryz.prog 224 := ⟨_, _, Tryz.func224, by kernel_rfl, rfl⟩
theorem co225 : CallOk Tryz.prog 225 := ⟨_, _, Tryz.func225, by kernel_rfl, rfl⟩
theorem co226 : CallOk Tryz.prog 226 := ⟨_, _, Tryz.func226, by kernel_rfl, rfl⟩
theorem co228 : CallOk Tryz.prog 228 := ⟨_, _, Tryz.func228, by kernel_rfl, rfl⟩
theorem co229 : CallOk Tryz.prog 229 := ⟨_, _, Tryz.func229, by kernel_rfl, rfl⟩
theorem co230 : CallOk Tryz.prog 230 := ⟨_, _, Tryz.func230, by kernel_rfl, rfl⟩
theorem co231 : CallOk Tryz.prog 231 := ⟨_, _, Tryz.func231, by kernel_rfl, rfl⟩
theorem co232 : CallOk Tryz.prog 232 := ⟨_, _, Tryz.func232, by kernel_rfl, rfl⟩
theorem co233 : CallOk Tryz.prog 233 := ⟨_, _, Tryz.func233, by kernel_rfl, rfl⟩
theorem co234 : CallOk Tryz.prog 234 := ⟨_, _, Tryz.func234, by kernel_rfl, rfl⟩
theorem co247 : CallOk Tryz.prog 247 := ⟨_, _, Tryz.func247, by kernel_rfl, rfl⟩
theorem co248 : CallOk Tryz.prog 248 := ⟨_, _, Tryz.func248, by kernel_rfl, rfl⟩
theorem co249 : CallOk Tryz.prog 249 := ⟨_, _, Tryz.func249, by kernel_rfl, rfl⟩
theorem co250 : CallOk Tryz.prog 250 := ⟨_, _, Tryz.func250, by kernel_rfl, rfl⟩
theorem co251 : CallOk Tryz.prog 251 := ⟨_, _, Tryz.func251, by kernel_rfl, rfl⟩
theorem co252 : CallOk Tryz.prog 252 := ⟨_, _, Tryz.func252, by kernel_rfl, rfl⟩
theorem co265 : CallOk Tryz.prog 265 := ⟨_, _, Tryz.func265, by kernel_rfl, rfl⟩
theorem co266 : CallOk Tryz.prog 266 := ⟨_, _, Tryz.func266, by kernel_rfl, rfl⟩
theorem co267 : CallOk Tryz.prog 267 := ⟨_, _, Tryz.func267, by kernel_rfl, rfl⟩
theorem co268 : CallOk Tryz.prog 268 := ⟨_, _, Tryz.func268, by kernel_rfl, rfl⟩
theorem co269 : CallOk Tryz.prog 269 := ⟨_, _, Tryz.func269, by kernel_rfl, rfl⟩
theorem co270 : CallOk Tryz.prog 270 := ⟨_, _, Tryz.func270, by kernel_rfl, rfl⟩
theorem co271 : CallOk Tryz.prog 271 := ⟨_, _, Tryz.func271, by kernel_rfl, rfl⟩
theorem co272 : CallOk Tryz.prog 272 := ⟨_, _, Tryz.func272, by kernel_rfl, rfl⟩
theorem co273 : CallOk Tryz.prog 273 := ⟨_, _, Tryz.func273, by kernel_rfl, rfl⟩
theorem co274 : CallOk Tryz.prog 274 := ⟨_, _, Tryz.func274, by kernel_rfl, rfl⟩
theorem co275 : CallOk Tryz.prog 275 := ⟨_, _, Tryz.func275, by kernel_rfl, rfl⟩
theorem co276 : CallOk Tryz.prog 276 := ⟨_, _, Tryz.func276, by kernel_rfl, rfl⟩
theorem co277 : CallOk Tryz.prog 277 := ⟨_, _, Tryz.func277, by kernel_rfl, rfl⟩
theorem co278 : CallOk Tryz.prog 278 := ⟨_, _, Tryz.func278, by kernel_rfl, rfl⟩
theorem co279 : CallOk Tryz.prog 279 := ⟨_, _, Tryz.func279, by kernel_rfl, rfl⟩
theorem co285 : CallOk Tryz.prog 285 := ⟨_, _, Tryz.func285, by kernel_rfl, rfl⟩
theorem co286 : CallOk Tryz.prog 286 := ⟨_, _, Tryz.func286, by kernel_rfl, rfl⟩
theorem co287 : CallOk Tryz.prog 287 := ⟨_, _, Tryz.func287, by kernel_rfl, rfl⟩
theorem co288 : CallOk Tryz.prog 288 := ⟨_, _, Tryz.func288, by kernel_rfl, rfl⟩
theorem co295 : CallOk Tryz.prog 295 := ⟨_, _, Tryz.func295, by kernel_rfl, rfl⟩
theorem co296 : CallOk Tryz.prog 296 := ⟨_, _, Tryz.func296, by kernel_rfl, rfl⟩
theorem co298 : CallOk Tryz.prog 298 := ⟨_, _, Tryz.func298, by kernel_rfl, rfl⟩
theorem co299 : CallOk Tryz.prog 299 := ⟨_, _, Tryz.func299, by kernel_rfl, rfl⟩
theorem co300 : CallOk Tryz.prog 300 := ⟨_, _, Tryz.func300, by kernel_rfl, rfl⟩
theorem co301 : CallOk Tryz.prog 301 := ⟨_, _, Tryz.func301, by kernel_rfl, rfl⟩
theorem co302 : CallOk Tryz.prog 302 := ⟨_, _, Tryz.func302, by kernel_rfl, rfl⟩
theorem co303 : CallOk Tryz.prog 303 := ⟨_, _, Tryz.func303, by kernel_rfl, rfl⟩
theorem co304 : CallOk Tryz.prog 304 := ⟨_, _, Tryz.func304, by kernel_rfl, rfl⟩
theorem co305 : CallOk Tryz.prog 305 := ⟨_, _, Tryz.func305, by kernel_rfl, rfl⟩
end Go.Proofs.YtciimaabeabkdaaGreatDoor
namespace Go.MV
open Go Go.RowKit
theorem cell_below {w w' : World} (hb : Below w.heap.size w w') {b : Nat} (hlt : b < w.heap.size) (i : Nat) : w'.cell? ⟨b, i, none⟩ = w.cell? ⟨b, i, none⟩ :=
 World.cell?_of_block (w := w) (a := ⟨b, i, none⟩) (hb.block b hlt)
theorem Le.grown {g : Gh} {σ : MS} {w w' : World} (h : Rel g σ w) (hb : Below w.heap.size w w') {b : Nat} (k : Nat) (hnb : w.heap.size ≤ b) : Le g w (g.stab b k) w' := by
 refine ⟨⟨rfl, rfl, fun c i hi => ?_, fun _ _ h => h, fun _ _ _ h => h, hb.size⟩, fun c x hx => ?_⟩
 ·have hlt := h.st_lt hi
  refine ⟨?_, cell_below hb hlt i⟩
  simp only [Gh.stab]
  rw [if_neg (by omega)]
  exact hi
 ·have hlt : c < w.heap.size := (Array.getElem?_eq_some_iff.1 hx).1
  exact (hb.block c hlt).trans hx
theorem Rel.grown {g : Gh} {σ : MS} {w w' : World} (h : Rel g σ w) (hb : Below w.heap.size w w') {b : Nat} (k : Nat) (hnb : w.heap.size ≤ b) (hbl : b < w'.heap.size) : Rel (g.stab b k) σ w' := by
 refine ⟨h.below.trans ⟨hb.os, hb.tape, hb.output, hb.size, fun i hi => hb.block i (Nat.lt_of_lt_of_le hi h.size)⟩, h.base, fun c hc => ?_, h.bkn, h.lgn, ?_⟩
 ·simp only [Gh.stab]
  rw [if_neg (by omega)]
  exact h.fresh c (by have := hb.size; omega)
 ·obtain ⟨own, ho⟩ := h.ex
  refine ⟨own, ho.keep (Le.grown h hb k hnb) (fun id c e => ?_) (fun _ _ => V)⟩
  have hlt := (ho.lt id c e).2.2
  refine ⟨hb.block c hlt, ?_⟩
  simp only [Gh.stab]
  rw [if_neg (by omega)]
section
section
variable {P : Program} {rd : Option Nat} {o : Oper} {env : Env} {σ : MS} {K : MV → MS → Prop}
theorem op_rem {t t' : TypeId} {x y : Operand} {k : IntKind} {m n r : Int} (ho : o.op = .binOp .rem t x y t') (hx : evo env x = some (.int k m)) (hy : evo env y = some (.int k n)) (hn : n ≠ 0) (hr : m.tmod n = r) (h : K (.int k r) σ) : OpWp P rd o env σ K := by
 refine op_bin ho hx hy (fun _ _ _ h => h.inv_int) (fun _ _ _ h => h.inv_int) (vz := .int k r) (fun w => ?_) V h
 subst hr
 simp [eqGuard, binOp, Op.intDiv, hn]
theorem op_quo {t t' : TypeId} {x y : Operand} {k : IntKind} {m n r : Int} (ho : o.op = .binOp .quo t x y t') (hx : evo env x = some (.int k m)) (hy : evo env y = some (.int k n)) (hn : n ≠ 0) (hr : k.wrap (m.tdiv n) = r) (h : K (.int k r) σ) : OpWp P rd o env σ K := by
 refine op_bin ho hx hy (fun _ _ _ h => h.inv_int) (fun _ _ _ h => h.inv_int) (vz := .int k r) (fun w => ?_) V h
 subst hr
 simp [eqGuard, binOp, Op.intDiv, hn]
def bitsI : BinOp → IntKind → Int → Int → Option Int
 | .and, k, m, n => some (k.wrap (BitVec.ofInt k.bits m &&& BitVec.ofInt k.bits n).toNat)
 | .or, k, m, n => some (k.wrap (BitVec.ofInt k.bits m ||| BitVec.ofInt k.bits n).toNat)
 | .xor, k, m, n => some (k.wrap (BitVec.ofInt k.bits m ^^^ BitVec.ofInt k.bits n).toNat)
 | .andNot, k, m, n => some (k.wrap (BitVec.ofInt k.bits m &&& ~~~BitVec.ofInt k.bits n).toNat)
 | _, _, _, _ => none
theorem op_bits {b : BinOp} {t t' : TypeId} {x y : Operand} {k : IntKind} {m n r : Int} (ho : o.op = .binOp b t x y t') (hx : evo env x = some (.int k m)) (hy : evo env y = some (.int k n)) (hr : bitsI b k m n = some r) (h : K (.int k r) σ) : OpWp P rd o env σ K := by
 refine op_bin ho hx hy (fun _ _ _ h => h.inv_int) (fun _ _ _ h => h.inv_int) (vz := .int k r) (fun w => ?_) V h
 cases b <;> simp only [bitsI, Option.some.injEq] at hr <;> first | (cases hr; done) | (subst hr; simp [eqGuard, binOp, Op.intBits]; done)
theorem op_shr {t t' : TypeId} {x y : Operand} {k k' : IntKind} {m n r : Int} (ho : o.op = .binOp .shr t x y t') (hx : evo env x = some (.int k m)) (hy : evo env y = some (.int k' n)) (hn : 0 ≤ n) (hr : m.fdiv (2 ^ min n.toNat k.bits) = r) (h : K (.int k r) σ) : OpWp P rd o env σ K := by
 refine op_bin ho hx hy (fun _ _ _ h => h.inv_int) (fun _ _ _ h => h.inv_int) (vz := .int k r) (fun w => ?_) V h
 subst hr
 have : ¬ n < 0 := by omega
 simp [eqGuard, binOp, Op.shift, this]
theorem op_shl {t t' : TypeId} {x y : Operand} {k k' : IntKind} {m n r : Int} (ho : o.op = .binOp .shl t x y t') (hx : evo env x = some (.int k m)) (hy : evo env y = some (.int k' n)) (hn : 0 ≤ n) (hr : k.wrap (m * 2 ^ min n.toNat k.bits) = r) (h : K (.int k r) σ) : OpWp P rd o env σ K := by
 refine op_bin ho hx hy (fun _ _ _ h => h.inv_int) (fun _ _ _ h => h.inv_int) (vz := .int k r) (fun w => ?_) V h
 subst hr
 have : ¬ n < 0 := by omega
 simp [eqGuard, binOp, Op.shift, this]
theorem op_strcat {t t' : TypeId} {x y : Operand} {s u : Bs} (ho : o.op = .binOp .add t x y t') (hx : evo env x = some (.str (bs s))) (hy : evo env y = some (.str (bs u))) (hl : s.length + u.length ≤ 9223372036854775807) (h : K (.str (bs (s ++ u))) σ) : OpWp P rd o env σ K := by
 have e : bs s ++ bs u = bs (s ++ u) := by
  apply ByteArray.ext
  simp [bs]
 refine op_bin ho hx hy (fun _ _ _ h => h.inv_str) (fun _ _ _ h => h.inv_str) (vz := .string (bs (s ++ u))) (fun w => ?_) V h
 have hs : ¬ (((bs s).size + (bs u).size : Nat) : Int) > IntKind.i64.max := by
  rw [bs_size, bs_size]
  show ¬ ((_ : Nat) : Int) > 9223372036854775807
  omega
 simp only [eqGuard, binOp, Op.stringOp, if_neg hs, e]
 rfl
theorem op_convInt {t t' : TypeId} {x : Operand} {k k' : IntKind} {n r : Int} {d : TypeDesc} (ho : o.op = .convert t t' x) (hs : P.underlying t = some d) (ht : P.underlying t' = some (.int k)) (hx : evo env x = some (.int k' n)) (hr : k.wrap n = r) (h : K (.int k r) σ) : OpWp P rd o env σ K := by
 subst hr
 refine OpWp.of_run (by simp [ho]) fun g w a hr hop => ⟨.int k (k.wrap n), w, ?_, .same h hr (.int _ _)⟩
 have hv := (hop x (by simp [ho, Op.operands]) _ hx).inv_int
 simp [execOp, ho, convert, run_underlying hs, run_underlying ht, hv, Conv.intToInt]
theorem _root_.zX1 : type_of% @op_convInt := @op_convInt
theorem op_index_str {t : TypeId} {x y : Operand} {k : IntKind} {n : Int} {i : Nat} {l : Bs} {b : UInt8} (ho : o.op = .index t x y) (hu : P.underlying t = some .string) (hx : evo env x = some (.str (bs l))) (hy : evo env y = some (.int k n)) (hn : n = (i : Int)) (hm : l[i]? = some b) (h : K (.int .u8 (b.toNat : Int)) σ) : OpWp P rd o env σ K := by
 subst hn
 refine OpWp.of_run (by simp [ho]) fun g w a hr hop => ⟨.int .u8 (b.toNat : Int), w, ?_, .same h hr (.int _ _)⟩
 have hv := (hop x (by simp [ho, Op.operands]) _ hx).inv_str
 have hv2 := (hop y (by simp [ho, Op.operands]) _ hy).inv_int
 have e : (bs l)[i]? = some b := by
  have hlt : i < l.length := (zD.1 hm).1
  have hlt' : i < (bs l).size := by rw [bs_size]; exact hlt
  rw [getElem?_pos (bs l) i hlt']
  rw [zC hlt] at hm
  injection hm with hm
  rw [← hm]
  rfl
 have e1 : (if (0 : Int) ≤ (i : Int) then (bs l)[((i : Int)).toNat]? else none) = some b := by
  rw [if_pos (by omega)]
  simpa using e
 simp only [execOp, ho, Instr.index, Sem.run_bind, hv, hv2, asIntOf, Sem.run_pure, Result.andThen_ok, run_underlying hu, e1]
theorem _root_.zJ5 : type_of% @op_index_str := @op_index_str
theorem op_slice_str {t : TypeId} {x : Operand} {lo hi : Option Operand} {l : Bs} {i j : Nat} (ho : o.op = .slice t x lo hi none) (hu : P.underlying t = some .string) (hx : evo env x = some (.str (bs l)))
  (hlo : OptInt env 0 lo i) (hhi : OptInt env l.length hi j) (hij : i ≤ j) (hj : j ≤ l.length) (h : K (.str (bs ((l.drop i).take (j - i)))) σ) : OpWp P rd o env σ K := by
 refine OpWp.of_run (by simp [ho]) fun g w a hr hop => ?_
 refine ⟨_, w, ?_, .same h hr (.str _)⟩
 have hv := (hop x (by simp [ho, Op.operands]) _ hx).inv_str
 have e1 : ∀ (x' : Operand) (k : IntKind) (n : Int), lo = some x' → evo env x' = some (.int k n) → a.eval x' = .int k n := fun x' k n e he => (hop x' (by simp [ho, Op.operands, e]) _ he).inv_int
 have e2 : ∀ (x' : Operand) (k : IntKind) (n : Int), hi = some x' → evo env x' = some (.int k n) → a.eval x' = .int k n := fun x' k n e he => (hop x' (by simp [ho, Op.operands, e]) _ he).inv_int
 have e : (bs l).extract i j = bs ((l.drop i).take (j - i)) := by
  apply ByteArray.ext
  simp [bs, ByteArray.data_extract, List.extract_toArray, List.extract_eq_take_drop]
 have hsz := bs_size l
 cases hlo with
 | none =>
  cases hhi with
  | none => simp [execOp, ho, Instr.sliceAt, Instr.slice, run_underlying hu, hv, Instr.sliceBounds, hsz, e]
  | some he en =>
   subst en
   simp [execOp, ho, Instr.sliceAt, Instr.slice, run_underlying hu, hv, Instr.sliceBounds, Instr.sliceBound, asIntOf, e2 _ _ _ rfl he, hsz, hj, e]
 | some he en =>
  subst en
  cases hhi with
  | none => simp [execOp, ho, Instr.sliceAt, Instr.slice, run_underlying hu, hv, Instr.sliceBounds, Instr.sliceBound, asIntOf, e1 _ _ _ rfl he, hsz, hij, e]
  | some he' en' =>
   subst en'
   simp [execOp, ho, Instr.sliceAt, Instr.slice, run_underlying hu, hv, Instr.sliceBounds, Instr.sliceBound, asIntOf, e1 _ _ _ rfl he, e2 _ _ _ rfl he', hsz, hij, hj, e]
theorem _root_.zK5 : type_of% @op_slice_str := @op_slice_str
theorem op_ptr0 {b : BinOp} {r : Bool} {t e t' : TypeId} {x y : Operand} (ho : o.op = .binOp b t x y t') (hu : P.underlying t = some (.pointer e)) (hx : evo env x = some .ptr0) (hy : evo env y = some .ptr0) (hb : b = .eql ∧ r = true ∨ b = .neq ∧ r = false) (h : K (.bool r) σ) : OpWp P rd o env σ K := by
 refine op_bin ho hx hy (fun _ _ _ h => h.inv_ptr0) (fun _ _ _ h => h.inv_ptr0) (vz := .bool r) (fun w => ?_) V h
 have h9 : ∀ d : Nat, (Op.equalIn (d + 1) t (.pointer none) (.pointer none)).run P w = .ok true w := fun d => by simp [Op.equalIn, run_underlying hu]
 rcases hb with ⟨rfl, rfl⟩ | ⟨rfl, rfl⟩ <;> (simp only [eqGuard, binOp]; simp [Op.equal, Op.maxDepth, h9 9999])
def MV.isPtr : MV → Bool
 | .ref _ _ | .sptr _ | .orf _ _ _ => true
 | _ => false
theorem ptr_some {g : Gh} {w : World} {m : MV} {v : Value} (h : Rd g w m v) (hm : m.isPtr = true) : ∃ a, v = .pointer (some a) := by
 cases h <;> first | (cases hm; done) | exact ⟨_, rfl⟩
theorem op_ptrnil {b : BinOp} {r : Bool} {t e t' : TypeId} {x y : Operand} {m : MV} (ho : o.op = .binOp b t x y t') (hu : P.underlying t = some (.pointer e)) (hx : evo env x = some m) (hm : m.isPtr = true) (hy : evo env y = some .ptr0) (hb : b = .eql ∧ r = false ∨ b = .neq ∧ r = true) (h : K (.bool r) σ) : OpWp P rd o env σ K := by
 refine OpWp.of_run (by rcases hb with ⟨rfl, rfl⟩ | Vv <;> simp [ho]) fun g w a hr hop => ?_
 obtain ⟨ad, e1⟩ := ptr_some (hop x (by simp [ho, Op.operands]) _ hx) hm
 have e2 := (hop y (by simp [ho, Op.operands]) _ hy).inv_ptr0
 refine ⟨.bool r, w, ?_, .same h hr (.bool _)⟩
 have h9 : ∀ d : Nat, (Op.equalIn (d + 1) t (.pointer (some ad)) (.pointer none)).run P w = .ok false w := fun d => by simp [Op.equalIn, run_underlying hu]
 rcases hb with ⟨rfl, rfl⟩ | ⟨rfl, rfl⟩ <;> (simp only [execOp, ho, e1, e2, Sem.run_bind, Sem.run_pure]; simp [eqGuard, binOp, Op.equal, Op.maxDepth, h9 9999])
theorem op_if0 {b : BinOp} {r : Bool} {t t' : TypeId} {x : Operand} {c : Value} {ms : Array (String × TypeId)} (ho : o.op = .binOp b t x (.const c) t') (hu : P.underlying t = some (.interface ms)) (hx : evo env x = some .iface0) (hy : evo env (.const c) = some .iface0) (hb : b = .eql ∧ r = true ∨ b = .neq ∧ r = false) (h : K (.bool r) σ) : OpWp P rd o env σ K := by
 refine op_bin ho hx hy (fun _ _ _ h => h.inv_iface0) (fun _ _ _ h => h.inv_iface0) (vz := .bool r) (fun w => ?_) V h
 have h9 : ∀ d : Nat, (Op.equalIn (d + 1) t .nilIface .nilIface).run P w = .ok true w := fun d => by simp [Op.equalIn, run_underlying hu]
 rcases hb with ⟨rfl, rfl⟩ | ⟨rfl, rfl⟩ <;> (simp only [eqGuard, binOp]; simp [Op.equal, Op.maxDepth, h9 9999])
theorem _root_.zF4 : type_of% @op_if0 := @op_if0
theorem op_ifnil {b : BinOp} {r : Bool} {t e t' : TypeId} {x y : Operand} {m : MV} {ms : Array (String × TypeId)} (ho : o.op = .binOp b t x y t') (hu : P.underlying t = some (.interface ms)) (hx : evo env x = some (.iface e m)) (hy : evo env y = some .iface0) (hb : b = .eql ∧ r = false ∨ b = .neq ∧ r = true) (h : K (.bool r) σ) : OpWp P rd o env σ K := by
 refine OpWp.of_run (by rcases hb with ⟨rfl, rfl⟩ | Vv <;> simp [ho]) fun g w a hr hop => ?_
 obtain ⟨u, e1, _⟩ := (hop x (by simp [ho, Op.operands]) _ hx).inv_iface
 have e2 := (hop y (by simp [ho, Op.operands]) _ hy).inv_iface0
 refine ⟨.bool r, w, ?_, .same h hr (.bool _)⟩
 have h9 : ∀ d : Nat, (Op.equalIn (d + 1) t (.iface e u) .nilIface).run P w = .ok false w := fun d => by simp [Op.equalIn, run_underlying hu]
 rcases hb with ⟨rfl, rfl⟩ | ⟨rfl, rfl⟩ <;> (simp only [execOp, ho, e1, e2, Sem.run_bind, Sem.run_pure]; simp [eqGuard, binOp, Op.equal, Op.maxDepth, h9 9999])
theorem _root_.zR3 : type_of% @op_ifnil := @op_ifnil
theorem nat_tmod (a b : Nat) : Int.tmod (a : Int) (b : Int) = ((a % b : Nat) : Int) := rfl
theorem wrap_u64 {n : Int} (h : 0 ≤ n ∧ n < 18446744073709551616) : IntKind.u64.wrap n = n := by
 simp [IntKind.wrap, IntKind.signed, IntKind.bits]
 omega
theorem _root_.zX2 : type_of% @wrap_u64 := @wrap_u64
theorem wrap_u8 {n : Int} (h : 0 ≤ n ∧ n < 256) : IntKind.u8.wrap n = n := by
 simp [IntKind.wrap, IntKind.signed, IntKind.bits]
 omega
theorem wadd {a b c : Nat} (h : a + b = c) (hc : c < 9223372036854775808) : intArith .add .i64 (a : Int) (b : Int) = some (c : Int) := by
 simp only [intArith]
 rw [wrap_i64 (by omega)]
 congr 1
 omega
theorem wsub {a b c : Nat} (h : b + c = a) (hc : a < 9223372036854775808) : intArith .sub .i64 (a : Int) (b : Int) = some (c : Int) := by
 simp only [intArith]
 rw [wrap_i64 (by omega)]
 congr 1
 omega
end
end
def eqOne : TypeDesc → MV → MV → Option Bool
 | .int _, .int k a, .int k' b => if k = k' then some (a == b) else none
 | .bool, .bool a, .bool b => some (a == b)
 | .string, .str a, .str b => some (strL a == strL b)
 | _, _, _ => none
def eqFs (P : Program) (l l' : List MV) : List Field → Option Bool
 | [] => some true
 | f :: fs => match P.underlying f.type, l[f.offset]?, l'[f.offset]? with
  | some d, some x, some y => match eqOne d x y, eqFs P l l' fs with
   | some a, some b => some (a && b)
   | _, _ => none
  | _, _, _ => none
def flatStruct (P : Program) (t : TypeId) : Bool := match P.underlying t with
 | some (.struct fs) => !P.stoodInHeld t && !P.eqGuardType P.depth t && fs.toList.all (fun f => f.name != "_" && match P.underlying f.type with | some (.int _) | some .bool | some .string => true | _ => false)
 | _ => false
theorem eqOne_run {P : Program} {g : Gh} {w w' : World} {t : TypeId} {d : TypeDesc} (hu : P.underlying t = some d) {x y : MV} {u v : Value} {r : Bool} (h : eqOne d x y = some r) (hx : Rd g w x u) (hy : Rd g w y v) (n : Nat) : (Op.equalIn (n + 1) t u v).run P w' = .ok r w' := by
 unfold eqOne at h
 split at h
 ·rw [hx.inv_int, hy.inv_int]
  split at h
  ·rename_i k a k' b hk
   subst hk
   injection h with h
   subst h
   simp [Op.equalIn, run_underlying hu]
  ·cases h
 ·rw [hx.inv_bool, hy.inv_bool]
  injection h with h
  subst h
  simp [Op.equalIn, run_underlying hu]
 ·rw [hx.inv_str, hy.inv_str]
  injection h with h
  subst h
  rw [run_equalIn_string _ _ _ _ _ hu]
  rw [ByteArray.toList_eq, ByteArray.toList_eq]
  rfl
 ·cases h
theorem eqFs_run {P : Program} {g : Gh} {w w' : World} {l l' : List MV} {us vs : List Value} (hl : Rds g w l us) (hl' : Rds g w l' vs) (n : Nat) : ∀ {fs : List Field} {r : Bool}, (fs.all fun f => f.name != "_" && match P.underlying f.type with | some (.int _) | some .bool | some .string => true | _ => false) = true → eqFs P l l' fs = some r → (Op.eqFields (n + 1) us.toArray vs.toArray fs).run P w' = .ok r w'
 | [], r, _, h => by
  injection h with h
  subst h
  simp [Op.eqFields]
 | f :: fs, r, hall, h => by
  simp only [List.all_cons, Bool.and_eq_true] at hall
  unfold eqFs at h
  split at h
  ·rename_i d x y hu hx hy
   split at h
   ·rename_i a b ha hb
    injection h with h
    subst h
    have ih := eqFs_run (w' := w') hl hl' n hall.2 hb
    obtain ⟨u, hu1, hu2⟩ := hl.get hx
    obtain ⟨v, hv1, hv2⟩ := hl'.get hy
    have hagg : (isAgg f.type).run P w' = .ok false w' := by
     have := hall.1.2
     rw [hu] at this
     unfold isAgg
     simp only [Sem.run_bind, run_underlying hu, Result.andThen_ok]
     cases d <;> first | rfl | (cases this; done)
    have hp1 : (part f.type us.toArray f.offset).run P w' = .ok u w' := by
     unfold part
     simp [hagg, hu1]
    have hp2 : (part f.type vs.toArray f.offset).run P w' = .ok v w' := by
     unfold part
     simp [hagg, hv1]
    have hn : f.name ≠ "_" := by simpa using hall.1.1
    have he := eqOne_run (w' := w') hu ha hu2 hv2 n
    simp only [Op.eqFields, if_pos hn, Sem.run_bind, hp1, hp2, he, Result.andThen_ok]
    cases a with
    | true => simpa using ih
    | false => simp
   ·cases h
  ·cases h
theorem op_eqstruct {P : Program} {rd : Option Nat} {o : Oper} {env : Env} {σ : MS} {K : MV → MS → Prop} {b : BinOp} {r r' : Bool} {t t' : TypeId} {x y : Operand} {l l' : List MV} (ho : o.op = .binOp b t x y t') (hf : flatStruct P t = true) (hx : evo env x = some (.agg l)) (hy : evo env y = some (.agg l'))
  (he : eqFs P l l' (P.fieldsOf t).toList = some r) (hb : b = .eql ∧ r' = r ∨ b = .neq ∧ r' = !r) (h : K (.bool r') σ) : OpWp P rd o env σ K := by
 refine OpWp.of_run (by rcases hb with ⟨rfl, rfl⟩ | Vv <;> simp [ho]) fun g w a hr hop => ?_
 obtain ⟨us, e1, h1⟩ := (hop x (by simp [ho, Op.operands]) _ hx).inv_agg
 obtain ⟨vs, e2, h2⟩ := (hop y (by simp [ho, Op.operands]) _ hy).inv_agg
 refine ⟨.bool r', w, ?_, .same h hr (.bool _)⟩
 unfold flatStruct at hf
 split at hf
 ·rename_i fs hu
  simp only [Bool.and_eq_true, Bool.not_eq_true'] at hf
  have hfo : P.fieldsOf t = fs := by simp [Program.fieldsOf, hu]
  rw [hfo] at he
  have hrun := eqFs_run (w' := w) h1 h2 9998 hf.2 he
  have hq : (Op.equalIn 10000 t (.agg us.toArray) (.agg vs.toArray)).run P w = .ok r w := by
   rw [run_equalIn_struct w 9999 t us.toArray vs.toArray (by rw [hfo]; exact hu) hf.1.1, hfo]
   exact hrun
  rcases hb with ⟨rfl, rfl⟩ | ⟨rfl, rfl⟩ <;> (simp only [execOp, ho, e1, e2, Sem.run_bind, Sem.run_pure]; simp [eqGuard, binOp, Op.equal, Op.maxDepth, hq, hf.1.2])
 ·cases hf
section
section
variable {P : Program} {rd : Option Nat} {N n : Nat} {Q : Exit → Env → MS → Prop} {env : Env} {S L : MS} {c : Code}
theorem EnvSub.app {env A B : Env} (h : EnvSub env A) (k : EnvSub env B) : EnvSub env (A ++ B) := by
 induction h with
 | nil => exact k
 | cons h1 h2 _ ih => exact .cons h1 h2 ih
theorem EnvTo.app {n : Nat} {env E0 A B : Env} (h : EnvTo n env E0 A) (k : EnvTo n env E0 B) : EnvTo n env E0 (A ++ B) := by
 induction h with
 | nil => exact k
 | old h1 h2 _ ih => exact .old h1 h2 ih
 | new h1 h2 h3 _ ih => exact .new h1 h2 h3 ih
theorem mwp_loopK {α : Type} {L0 : MS} (K : Env) (E : α → Env) (L : α → MS) (I : α → Prop) (m : α → Nat) (x₀ : α) (hK : EnvSub env K) (hE : EnvSub env (E x₀)) (h₀ : I x₀) (hL : L0 = L x₀)
  (round : ∀ x, I x → mwp P rd N n c (ThenM (fun env' σ' => ∃ y, m y < m x ∧ I y ∧ σ' = S ++ L y ∧ EnvSub env' K ∧ EnvSub env' (E y)) Q) (K ++ E x) (S ++ L x)) : mwp P rd N n (.loop c) Q env (S ++ L0) := by
 refine mwp_loop0 (fun x => K ++ E x) L I m x₀ h₀ hL (hK.app hE) fun x hx => mwp_mono (round x hx) fun e env' σ' h => ?_
 cases e with
 | normal =>
  obtain ⟨y, h1, h2, h3, h4, h5⟩ := h
  exact ⟨y, h1, h2, h3, h4.app h5⟩
 | _ => exact h
theorem _root_.zS1 : type_of% @mwp_loopK := @mwp_loopK
theorem mwp_loopKJ {α : Type} {L0 : MS} (K : Env) (E : α → Env) (L : α → MS) (I : α → Prop) (m : α → Nat) (x₀ : α) (hN : N ≤ S.length) (hK : EnvSub env K) (hE : EnvSub env (E x₀)) (h₀ : I x₀) (hL : L0 = L x₀)
  (round : ∀ x, I x → mwp P rd N n c (ThenM (fun env' σ' => ∃ y junk, m y < m x ∧ I y ∧ σ' = S ++ (L y ++ junk) ∧ LTo (S.length + (L x).length) (L x) (L y) ∧ EnvTo (S.length + (L x).length) env' (K ++ E x) K ∧ EnvTo (S.length + (L x).length) env' (K ++ E x) (E y)) Q) (K ++ E x) (S ++ L x)) : mwp P rd N n (.loop c) Q env (S ++ L0) := by
 refine mwp_loopJ (fun x => K ++ E x) L I m x₀ hN h₀ hL (hK.app hE) fun x hx => mwp_mono (round x hx) fun e env' σ' h => ?_
 cases e with
 | normal =>
  obtain ⟨y, junk, h1, h2, h3, h4, h5, h6⟩ := h
  exact ⟨y, junk, h1, h2, h3, h4, h5.app h6⟩
 | _ => exact h
theorem _root_.zD4 : type_of% @mwp_loopKJ := @mwp_loopKJ
theorem mwp_row0 {L' : MS} (t ty sz : Nat) {k : Nat} (ht : get env t = some .lst0) (hN : N ≤ S.length) (hk : L.length = k) (hL : L ++ [.row ty sz 0] = L') (h : mwp P rd N n c Q ((t, .lst (some (S.length + k)) sz []) :: env) (S ++ L')) : mwp P rd N n c Q env (S ++ L) := by
 subst hk hL
 refine mwp_ghost (fun g w tmps hr he => ?_) h
 obtain ⟨r1, l1, d1⟩ := tok_new hr ty sz
 have hlen : (S ++ L).length = S.length + L.length := zG
 refine ⟨_, by rw [← zN]; exact r1, fun s y hy => ?_, l1.toN N, fun F hF => hF.mono (l1.toN N)⟩
 by_cases e : t = s
 ·subst e
  rw [zX4] at hy
  injection hy with hy
  subst hy
  obtain ⟨v, hv, hrd⟩ := he t _ ht
  refine ⟨v, hv, ?_⟩
  rw [hrd.inv_lst0, ← hlen]
  exact d1
 ·rw [zS4 _ _ e] at hy
  obtain ⟨v, hv, hrd⟩ := he s y hy
  exact ⟨v, hv, hrd.mono l1⟩
end
theorem wOps_case {P : Program} {rd : Option Nat} {ops : Array Oper} {Q : Env → MS → Prop} {rest : List Oper} {t : Nat} {e : Bool} {env : Env} {σ : MS} (hT : e = true → wOps P rd ops Q rest ((t, .bool true) :: env) σ) (hF : e = false → wOps P rd ops Q rest ((t, .bool false) :: env) σ) : wOps P rd ops Q rest (putd (some t) (.bool e) env) σ := by
 cases e
 ·exact hF rfl
 ·exact hT rfl
theorem _root_.zZ : type_of% @wOps_case := @wOps_case
theorem dOps_case {P : Program} {rd : Option Nat} {ops : Array Oper} {eff : List Nat} {Ss : List MS} {Q : Env → Prop} {rest : List Oper} {i t : Nat} {e : Bool} {env : Env} (hT : e = true → dOps P rd ops eff Ss Q rest i ((t, .bool true) :: env)) (hF : e = false → dOps P rd ops eff Ss Q rest i ((t, .bool false) :: env)) : dOps P rd ops eff Ss Q rest i (putd (some t) (.bool e) env) := by
 cases e
 ·exact hF rfl
 ·exact hT rfl
theorem _root_.zT3 : type_of% @dOps_case := @dOps_case
theorem op_max2' {P : Program} {rd : Option Nat} {o : Oper} {env : Env} {σ : MS} {K : MV → MS → Prop} {ts : Array TypeId} {x y : Operand} {k : IntKind} {m n r : Int} (ho : o.op = .call { callee := .builtin .max, args := #[x, y], argTypes := ts }) (hx : evo env x = some (.int k m)) (hy : evo env y = some (.int k n)) (hr : (if n > m then n else m) = r) (h : K (.int k r) σ) : OpWp P rd o env σ K := op_max2 ho hx hy (hr ▸ h)
theorem cl_flat {α : Type} {en : α → MV} {n : Nat} {l : List α} (h : ∀ a ∈ l, Cl n (en a)) (hc : ∀ a, en a = .agg (en a).cells ∨ [en a] = (en a).cells) : ∀ x ∈ flat (l.map en), Cl n x := by
 intro x hx
 obtain ⟨y, hy, hx⟩ := List.mem_flatMap.1 hx
 obtain ⟨a, ha, rfl⟩ := List.mem_map.1 hy
 rcases hc a with e | e
 ·have := h a ha
  rw [e] at this
  cases this with
  | agg _ h => exact h x hx
 ·rw [← e] at hx
  simp at hx
  subst hx
  exact h a ha
theorem cl_lst {α : Type} {en : α → MV} {n sz : Nat} {l : List α} (h : ∀ a, Cl n (en a)) (hc : ∀ a, en a = .agg (en a).cells ∨ [en a] = (en a).cells) : Cl n (.lst none sz (l.map en)) := .lst none sz _ (fun t ht => by cases ht) (cl_flat (fun a _ => h a) hc)
theorem _root_.zA7 : type_of% @cl_lst := @cl_lst
theorem cl_lstT {α : Type} {en : α → MV} {n sz t : Nat} {l : List α} (ht : t < n) (h : ∀ a, Cl n (en a)) (hc : ∀ a, en a = .agg (en a).cells ∨ [en a] = (en a).cells) : Cl n (.lst (some t) sz (l.map en)) := .lst _ sz _ (fun s hs => by injection hs with hs; omega) (cl_flat (fun a _ => h a) hc)
theorem _root_.zC6 : type_of% @cl_lstT := @cl_lstT
theorem get_map {α : Type} {en : α → MV} {l : List α} {i : Nat} {a : α} (h : l[i]? = some a) : (l.map en)[i]? = some (en a) := by rw [zH0, h]; rfl
theorem _root_.zE1 : type_of% @get_map := @get_map
end
abbrev Tk := Int × Int
def encT (t : Tk) : MV := .agg [.int .i64 t.1, .int .u64 t.2]
theorem encT_agg (t : Tk) : encT t = .agg (encT t).cells ∨ [encT t] = (encT t).cells := .inl rfl
theorem cl_encT (n : Nat) (t : Tk) : Cl n (encT t) := .agg _ fun x hx => by
 simp only [List.mem_cons, List.not_mem_nil, or_false] at hx
 rcases hx with rfl | rfl
 ·exact .int _ _
 ·exact .int _ _
theorem cl_clock (n : Nat) (c : List Tk) : Cl n (.lst none 2 (c.map encT)) := zA7 (cl_encT n) encT_agg
def okAt (c : List Tk) (j : Nat) : Bool := match c[j]? with
 | none => true
 | some t => !decide (t.1 < 0) && !decide (1000000 < t.1) && !(t.2 == 0) && (j == 0 || (match c[j - 1]? with | some p => !decide (t.1 ≤ p.1) | none => true))
def isClockF (c : List Tk) : Bool := decide (∀ j, j < c.length → okAt c j = true) && decide (c.length ≤ 40)
theorem isClock_false {c : List Tk} {i : Nat} (hi : i < c.length) (h : okAt c i = false) : isClockF c = false := by
 unfold isClockF
 rw [Bool.and_eq_false_iff]
 left
 rw [decide_eq_false_iff_not]
 intro hc
 rw [hc i hi] at h
 cases h
theorem isClock_end {c : List Tk} (h : ∀ j, j < c.length → okAt c j = true) : isClockF c = decide ((c.length : Int) ≤ 40) := by
 unfold isClockF
 rw [decide_eq_true h, Bool.true_and]
 simp only [decide_eq_decide]
 omega
def ofF : List Tk → Int → Int
 | [], _ => 0
 | t :: c, w => if t.1 = w then t.2 else ofF c w
def mergeF {α : Type} (cmp : α → α → Int) (bo : α → α → α) : List α → List α → List α
 | [], b => b
 | a, [] => a
 | x :: a, y :: b => if cmp x y < 0 then x :: mergeF cmp bo a (y :: b) else if cmp x y > 0 then y :: mergeF cmp bo (x :: a) b else bo x y :: mergeF cmp bo a b
 termination_by a b => a.length + b.length
theorem merge_nil {α : Type} {cmp : α → α → Int} {bo : α → α → α} (a : List α) : mergeF cmp bo a [] = a := by
 cases a <;> simp [mergeF]
theorem nil_merge {α : Type} {cmp : α → α → Int} {bo : α → α → α} (a : List α) : mergeF cmp bo [] a = a := by simp [mergeF]
def cmpI (a b : Int) : Int := if a < b then -1 else if b < a then 1 else 0
def bothT (x y : Tk) : Tk := (x.1, if y.2 > x.2 then y.2 else x.2)
def joinF (a b : List Tk) : List Tk := mergeF (fun x y => cmpI x.1 y.1) bothT a b
def cmpF (a b : List Tk) : Int := if a = b then 0 else if joinF a b = b then -1 else if joinF a b = a then 1 else 2
def Up (c : List Tk) : Prop := c.Pairwise fun x y => x.1 < y.1
def Pos (c : List Tk) : Prop := ∀ t ∈ c, 0 < t.2 ∧ t.2 < 18446744073709551616
theorem of_mem {c : List Tk} (hs : Up c) {t : Tk} (h : t ∈ c) : ofF c t.1 = t.2 := by
 induction c with
 | nil => cases h
 | cons s c ih =>
  have hs' := zN5.1 hs
  rcases List.mem_cons.1 h with rfl | h
  ·rw [ofF, if_pos rfl]
  ·have := hs'.1 t h
   rw [ofF, if_neg (by omega)]
   exact ih hs'.2 h
section
section
variable {P : Program} {rd : Option Nat} {o : Oper} {env : Env} {σ S L : MS} {K : MV → MS → Prop}
theorem op_nilCheck {x : Operand} {m : MV} (ho : o.op = .nilCheck x) (hx : evo env x = some m) (hm : m.isPtr = true) (h : K m σ) : OpWp P rd o env σ K := by
 refine OpWp.of_run (by simp [ho]) fun g w a hr hop => ?_
 have hv := hop x (by simp [ho, Op.operands]) _ hx
 obtain ⟨ad, e⟩ := ptr_some hv hm
 refine ⟨_, w, ?_, .same h hr hv⟩
 simp [execOp, ho, e, Instr.sureAddr]
theorem _root_.zD0 : type_of% @op_nilCheck := @op_nilCheck
theorem op_store_far {t : TypeId} {x y : Operand} {id off : Nat} {l : List MV} {m : MV} {k : Nat} (ho : o.op = .store t x y) (hx : evo env x = some (.ref id off)) (hy : evo env y = some m) (hσ : S[id]? = some (.cells l)) (hk : szOf P t = some k) (hm : m.cells.length = k)
  (h1 : m.cells.all MV.one = true) (hle : off + k ≤ l.length) (h : K (.tup []) (S.set id (.cells (setMany l off m.cells)) ++ L)) : OpWp P rd o env (S ++ L) K := by
 have hlt := (zD.1 hσ).1
 refine zQ5 ho hx hy (by rw [List.getElem?_append_left hlt]; exact hσ) hk hm h1 hle ?_
 rw [List.set_append_left _ _ hlt]
 exact h
theorem _root_.zK6 : type_of% @op_store_far := @op_store_far
end
section
variable {P : Program} {fn : Func} {S S' L : MS} {R : MV → MS → Prop} {env : Env}
theorem ret_tmpS {e : Exit} {t : Nat} {x y : MV} (he : e = .normal ∨ e = .ret) (hres : fn.results = #[.tmp t]) (hx : get env t = some x) (hs : Sub x y) (hc : Cl S'.length y) (hl : S.length ≤ S'.length) (hS : ClS S') (hR : R y S') : BodyQ P fn S R e env (S' ++ L) := by
 refine ⟨he, [x], y, S', L, ?_, hs, hc, rfl, hl, .inr hS, hR⟩
 rw [hres]
 exact .tmp hx .nil
theorem _root_.zG4 : type_of% @ret_tmpS := @ret_tmpS
theorem ret_noneS {e : Exit} (he : e = .normal ∨ e = .ret) (hres : fn.results = #[]) (hl : S.length ≤ S'.length) (hS : ClS S') (hR : R (.tup []) S') : BodyQ P fn S R e env (S' ++ L) := by
 refine ⟨he, [], .tup [], S', L, ?_, .refl _, .tup _ (by simp), rfl, hl, .inr hS, hR⟩
 rw [hres]
 exact .nil
theorem _root_.zB2 : type_of% @ret_noneS := @ret_noneS
end
theorem ClS.set {S : MS} (h : ClS S) {id : Nat} {o : MObj} (ho : o.cl S.length) : ClS (S.set id o) := by
 intro i p hp
 rw [List.length_set]
 rw [List.getElem?_set] at hp
 split at hp
 ·split at hp
  ·injection hp with hp
   subst hp
   exact ho
  ·cases hp
 ·exact h i p hp
theorem get_app {S L : MS} {id : Nat} {o : MObj} (h : S[id]? = some o) : (S ++ L)[id]? = some o := by
 rw [List.getElem?_append_left (zD.1 h).1]
 exact h
theorem _root_.zS : type_of% @get_app := @get_app
theorem get_set {S : MS} {id : Nat} {o p : MObj} (h : S[id]? = some o) : (S.set id p)[id]? = some p := by
 rw [List.getElem?_set, if_pos rfl, if_pos (zD.1 h).1]
theorem _root_.zO4 : type_of% @get_set := @get_set
theorem set_app {S L : MS} {id : Nat} {o p : MObj} (h : S[id]? = some o) : (S ++ L).set id p = S.set id p ++ L := List.set_append_left _ _ (zD.1 h).1
theorem set_set {S : MS} {id : Nat} {o p : MObj} : (S.set id o).set id p = S.set id p := by simp
end
section
def YStep (P : Program) (id : Nat) (xs : List MV) (S : MS) (b : Bool) (S' : MS) : Prop :=
 ∀ (L : MS) (rd : Option Nat) (o : Oper) (env : Env) (f : Operand) (args : Array Operand) (ts : Array TypeId), o.op = .call { callee := .value f, args := args, argTypes := ts } → evo env f = some (.yld id) → evos env args.toList = some xs →
  OpWp P rd o env (S ++ L) (fun v σ' => v = .bool b ∧ σ' = S' ++ L)
def IterOk (P : Program) (k : FuncId) (first caps : List MV) (ys : List (List MV)) (ok : MS → Prop) : Prop :=
 ∀ (id : Nat) (T : Nat → MS) (m : Nat), (∀ j, ok (T j)) → (∀ j y, j < m → ys[j]? = some y → YStep P id y (T j) true (T (j + 1))) →
  (m = ys.length → MCalls P k (first ++ [.yld id] ++ caps) (T 0) fun _ σ' => σ' = T m) ∧
  (∀ y, ys[m]? = some y → YStep P id y (T m) false (T (m + 1)) → MCalls P k (first ++ [.yld id] ++ caps) (T 0) fun _ σ' => σ' = T (m + 1))
theorem get_mid {A B : MS} {o : MObj} : (A ++ o :: B)[A.length]? = some o := by
 rw [List.getElem?_append_right (Nat.le_refl _), Nat.sub_self]; rfl
theorem _root_.zU4 : type_of% @get_mid := @get_mid
theorem set_mid {A B : MS} {o p : MObj} : (A ++ o :: B).set A.length p = A ++ p :: B := by
 rw [List.set_append_right _ _ (Nat.le_refl _), Nat.sub_self]; rfl
theorem _root_.zU5 : type_of% @set_mid := @set_mid
section
variable {P : Program} {rd : Option Nat} {N n : Nat} {Q : Exit → Env → MS → Prop} {env : Env} {S : MS}
end
end
section
theorem Rel.recell {g : Gh} {σ : MS} {w : World} (h : Rel g σ w) {id : Nat} {l l' : List MV} (hσ : σ[id]? = some (.cells l)) (hl : ∀ us, Rds g w l us → Rds g w l' us) : Rel g (σ.set id (.cells l')) w := by
 have hlt := (zD.1 hσ).1
 refine ⟨h.below, h.base, h.fresh, fun i hi => h.bkn i (by simpa using hi), fun t n ht => h.lgn t n (by simpa using ht), ?_⟩
 obtain ⟨own, ho⟩ := h.ex
 refine ⟨own, ⟨fun i o hi => ?_, ho.inj, fun i b hi => by have := ho.lt i b hi; exact ⟨by simpa using this.1, this.2⟩⟩⟩
 rw [List.getElem?_set] at hi
 split at hi
 ·rename_i e
  subst e
  injection hi with hi
  subst hi
  obtain ⟨b, us, ty, h1, h2, h3, h4, h5⟩ := ho.obj _ _ hσ
  exact ⟨b, us, ty, h1, h2, h3, h4, hl us h5⟩
 ·exact ho.obj i o hi
section
variable {P : Program} {rd : Option Nat} {N n : Nat} {c : Code} {Q : Exit → Env → MS → Prop} {env : Env} {S L : MS}
theorem mwp_cellrow {L' : MS} (k ty sz : Nat) {m : Nat} (hk : L[k]? = some (.cells [.lst0])) (hN : N ≤ S.length) (hm : L.length = m) (hL : L.set k (.cells [.lst (some (S.length + m)) sz []]) ++ [.row ty sz 0] = L') (h : mwp P rd N n c Q env (S ++ L')) : mwp P rd N n c Q env (S ++ L) := by
 subst hm hL
 refine mwp_ghost (fun g w tmps hr he => ?_) h
 obtain ⟨r1, l1, d1⟩ := tok_new hr ty sz
 have hlen : (S ++ L).length = S.length + L.length := zG
 refine ⟨_, ?_, he.mono l1, l1.toN N, fun F hF => hF.mono (l1.toN N)⟩
 have hlt := (zD.1 hk).1
 have e : S ++ (L.set k (.cells [.lst (some (S.length + L.length)) sz []]) ++ [.row ty sz 0]) = ((S ++ L) ++ [MObj.row ty sz 0]).set (S.length + k) (.cells [.lst (some (S.length + L.length)) sz []]) := by
  rw [zN, zP5, List.set_append_left _ _ hlt]
 rw [e]
 refine r1.recell (l := [.lst0]) (by rw [zN, getElem?_own, List.getElem?_append_left hlt]; exact hk) fun us hus => ?_
 obtain ⟨u, us', rfl, h1, h2⟩ := hus.uncons
 refine .cons ?_ ?_
 ·rw [h1.inv_lst0, ← hlen]; exact d1
 ·cases us' with
  | nil => exact .nil _ _
  | cons _ _ => have := h2.1; simp at this
theorem YStep.at0 {id : Nat} {xs : List MV} {S S' : MS} {b : Bool} (h : YStep P id xs S b S') {o : Oper} {f : Operand} {args : Array Operand} {ts : Array TypeId} (ho : o.op = .call { callee := .value f, args := args, argTypes := ts }) (hf : evo env f = some (.yld id)) (hx : evos env args.toList = some xs) : OpWp P rd o env S (fun v σ' => v = .bool b ∧ σ' = S') := by
 have := h [] rd o env f args ts ho hf hx
 simpa using this
end
section
variable {P : Program} {fn : Func} {S S' L : MS} {R : MV → MS → Prop} {env : Env}
theorem ret_noneT {e : Exit} (he : e = .normal ∨ e = .ret) (hres : fn.results = #[]) (hl : S.length ≤ S'.length) (hS : ClS S') (hR : R (.tup []) S') : BodyQ P fn S R e env S' := by
 have := zB2 (P := P) (env := env) (L := []) he hres hl hS hR
 rwa [List.append_nil] at this
theorem _root_.zF3 : type_of% @ret_noneT := @ret_noneT
theorem ret_tmpT {e : Exit} {t : Nat} {x y : MV} (he : e = .normal ∨ e = .ret) (hres : fn.results = #[.tmp t]) (hx : get env t = some x) (hs : Sub x y) (hc : Cl S'.length y) (hl : S.length ≤ S'.length) (hS : ClS S') (hR : R y S') : BodyQ P fn S R e env S' := by
 have := zG4 (P := P) (env := env) (L := []) he hres hx hs hc hl hS hR
 rwa [List.append_nil] at this
end
section
variable {P : Program} {rd : Option Nat} {o : Oper} {env : Env} {S L L' R : MS} {K : MV → MS → Prop}
theorem get_mid_ {k : Nat} {ob : MObj} (h : L[k]? = some ob) : ((S ++ L) ++ R)[S.length + k]? = some ob := by
 rw [zN, getElem?_own]
 exact zS h
theorem _root_.zF5 : type_of% @get_mid_ := @get_mid_
theorem set_mid_ {k : Nat} {ob p : MObj} (h : L[k]? = some ob) : ((S ++ L) ++ R).set (S.length + k) p = (S ++ L.set k p) ++ R := by
 rw [zN, zP5, set_app h, zN]
theorem op_load_mid {t : TypeId} {x : Operand} {k off : Nat} {l : List MV} {ta : Option Nat} {m : MV} (ho : o.op = .load t x) (hx : evo env x = some (.ref (S.length + k) off)) (hσ : L[k]? = some (.cells l)) (ht : tyAgg P t = some ta) (hm : loadMV ta l off = some m) (h : K m ((S ++ L) ++ R)) : OpWp P rd o env ((S ++ L) ++ R) K :=
 zP ho hx (zF5 hσ) ht hm h
theorem _root_.zV3 : type_of% @op_load_mid := @op_load_mid
theorem op_store_mid {t : TypeId} {x y : Operand} {i off : Nat} {l : List MV} {m : MV} {k : Nat} (ho : o.op = .store t x y) (hx : evo env x = some (.ref (S.length + i) off)) (hy : evo env y = some m) (hσ : L[i]? = some (.cells l)) (hk : szOf P t = some k) (hm : m.cells.length = k)
  (h1 : m.cells.all MV.one = true) (hle : off + k ≤ l.length) (hL : L.set i (.cells (setMany l off m.cells)) = L') (h : K (.tup []) ((S ++ L') ++ R)) : OpWp P rd o env ((S ++ L) ++ R) K :=
 zQ5 ho hx hy (zF5 hσ) hk hm h1 hle (by rw [set_mid_ hσ, hL]; exact h)
theorem _root_.zJ3 : type_of% @op_store_mid := @op_store_mid
theorem op_append_mid {t e sz bytes k n : Nat} {x y : Operand} {tok : Option Nat} {xs ys : List MV} (ho : o.op = .call { callee := .builtin .append, args := #[x, y], argTypes := #[t, t] }) (hu : P.underlying t = some (.slice e)) (he : elemOk P e sz bytes = true)
  (hx : evo env x = some (.lst (some (S.length + k)) sz xs)) (hy : evo env y = some (.lst tok sz ys)) (hσ : L[k]? = some (.row e sz n)) (hn : xs.length = n) (hb : (n + ys.length) * bytes ≤ 140737488355328) (hml : n + ys.length ≤ 4611686018427387904)
  (hL : L.set k (.row e sz (n + ys.length)) = L') (hK : K (.lst (some (S.length + k)) sz (xs ++ ys)) ((S ++ L') ++ R)) : OpWp P rd o env ((S ++ L) ++ R) K :=
 op_append ho hu he hx hy (zF5 hσ) hn hb hml (by rw [set_mid_ hσ, hL]; exact hK)
end
theorem strNe' {a b : Bs} (h : a = b) : strCmp .neq a b = some false := by simp [strCmp, h]
end
def encX (s : Bs) : MV := .str (bs s)
theorem cl_encX (n : Nat) (s : Bs) : Cl n (encX s) := .str _
theorem encX_one (s : Bs) : encX s = .agg (encX s).cells ∨ [encX s] = (encX s).cells := .inr rfl
theorem cl_texts (n : Nat) (l : List Bs) : Cl n (.lst none 1 (l.map encX)) := zA7 (cl_encX n) encX_one
def encC (c : List Tk) : MV := .lst none 2 (c.map encT)
theorem cl_encC (n : Nat) (c : List Tk) : Cl n (encC c) := cl_clock n c
theorem encC_one (c : List Tk) : encC c = .agg (encC c).cells ∨ [encC c] = (encC c).cells := .inr rfl
theorem cl_clocks (n : Nat) (l : List (List Tk)) : Cl n (.lst none 1 (l.map encC)) := zA7 (cl_encC n) encC_one
inductive Val where
 | mk (n m : Int) (s : List Bs) (c : List (List Tk)) (v : List Val)
 deriving Inhabited
noncomputable instance : DecidableEq Val := fun a b => Classical.propDecidable (a = b)
mutual
def encV : Val → MV
 | .mk n m s c v => .agg [.int .u64 n, .int .u64 m, .lst none 1 (s.map encX), .lst none 1 (c.map encC), .lst none 5 (encVs v)]
def encVs : List Val → List MV
 | [] => []
 | x :: l => encV x :: encVs l
end
theorem encVs_eq : ∀ l : List Val, encVs l = l.map encV
 | [] => by simp [encVs]
 | x :: l => by simp [encVs, encVs_eq l]
theorem encVs_length (l : List Val) : (encVs l).length = l.length := by rw [encVs_eq, zF]
theorem _root_.zU0 : type_of% @encVs_length := @encVs_length
theorem encVs_get {l : List Val} {i : Nat} {s : Val} (h : l[i]? = some s) : (encVs l)[i]? = some (encV s) := by rw [encVs_eq, zH0, h]; rfl
theorem _root_.zK4 : type_of% @encVs_get := @encVs_get
theorem encVs_append (a b : List Val) : encVs (a ++ b) = encVs a ++ encVs b := by simp [encVs_eq]
mutual
theorem cl_encV (k : Nat) : ∀ x : Val, Cl k (encV x)
 | .mk n m s c v => by
  refine .agg _ fun x hx => ?_
  simp only [encV, List.mem_cons, List.not_mem_nil, or_false] at hx
  rcases hx with rfl | rfl | rfl | rfl | rfl
  ·exact .int _ _
  ·exact .int _ _
  ·exact cl_texts k s
  ·exact cl_clocks k c
  ·exact .lst none 5 _ (fun t ht => by cases ht) (cl_encVs k v)
theorem cl_encVs (k : Nat) : ∀ (l : List Val), ∀ x ∈ flat (encVs l), Cl k x
 | [], x, hx => by simp [encVs, flat] at hx
 | s :: l, x, hx => by
  rw [encVs, zW5, zV2] at hx
  rcases hx with hx | hx
  ·have h := cl_encV k s
   cases s with
   | mk n m ss c v =>
    cases h with
    | agg _ h => exact h x hx
  ·exact cl_encVs k l x hx
end
theorem _root_.zV1 : type_of% @cl_encV := @cl_encV
def Val.nv : Val → Int | .mk n _ _ _ _ => n
def Val.mv : Val → Int | .mk _ m _ _ _ => m
def Val.sv : Val → List Bs | .mk _ _ s _ _ => s
def Val.cv : Val → List (List Tk) | .mk _ _ _ c _ => c
def Val.vv : Val → List Val | .mk _ _ _ _ v => v
mutual
def vdepth : Val → Nat
 | .mk _ _ _ _ v => 1 + vdepthL v
def vdepthL : List Val → Nat
 | [] => 0
 | x :: l => max (vdepth x) (vdepthL l)
end
theorem vdepth_mem {l : List Val} {x : Val} (h : x ∈ l) : vdepth x ≤ vdepthL l := by
 induction l with
 | nil => cases h
 | cons y l ih =>
  rw [vdepthL]
  rcases List.mem_cons.1 h with rfl | h
  ·omega
  ·have := ih h; omega
def risesF : List Bs → Bool
 | [] => true
 | [_] => true
 | a :: b :: l => Op.bytesLess a b && risesF (b :: l)
def shortF (l : List Bs) : Bool := l.all fun s => decide (s.length ≤ 16)
def tickC (x y : Tk) : Int := if cmpI x.1 y.1 ≠ 0 then cmpI x.1 y.1 else cmpI x.2 y.2
def byTicksF : List Tk → List Tk → Int
 | [], [] => 0
 | [], _ :: _ => -1
 | _ :: _, [] => 1
 | x :: a, y :: b => if tickC x y ≠ 0 then tickC x y else byTicksF a b
def pairF (a b : List Tk) : Bool := decide (byTicksF a b < 0) && decide (cmpF a b = 2)
def pairsF : List (List Tk) → Bool
 | [] => true
 | a :: l => l.all (pairF a) && pairsF l
def isCauseF (l : List (List Tk)) : Bool := l.all isClockF && pairsF l
def noV : Val := .mk 0 0 [] [] []
end Go.MV
section
namespace Go.Proofs
open Go.Shelf
shelf_lay Lays2.n16 Nm2 16 at Tryz as Tryz.laysClone
end Go.Proofs
namespace Go.Proofs.YtciimaabeabkdaaGreatDoor
open Go Go.MV Go.RowKit Go.Shelf Go.Sort
end Go.Proofs.YtciimaabeabkdaaGreatDoor
end
namespace Go.MV
open Go Go.RowKit
section
def exCode : Exit → Code
 | .ret => .ret
 | .exit x => .exit x
 | _ => .skip
theorem first_bad (p : Nat → Bool) : ∀ n : Nat, (∀ j, j < n → p j = true) ∨ ∃ m, m < n ∧ p m = false ∧ ∀ j, j < m → p j = true
 | 0 => .inl fun j h => by omega
 | n + 1 => by
  rcases first_bad p n with hall | ⟨m, h1, h2, h3⟩
  ·cases h : p n with
   | false => exact .inr ⟨n, by omega, h, hall⟩
   | true =>
    refine .inl fun j hj => ?_
    rcases Nat.lt_or_ge j n with h' | h'
    ·exact hall j h'
    ·have : j = n := by omega
     subst this
     exact h
  ·exact .inr ⟨m, by omega, h2, h3⟩
theorem iterOk_of {P : Program} {k : FuncId} {first caps : List MV} {ys : List (List MV)} {ok : MS → Prop} (h : ∀ (id : Nat) (T : Nat → MS) (m : Nat), (∀ j, ok (T j)) → m ≤ ys.length → (∀ j y, j < m → ys[j]? = some y → YStep P id y (T j) true (T (j + 1))) → (∀ j y, j = m → ys[j]? = some y → YStep P id y (T j) false (T (j + 1))) →
  MCalls P k (first ++ [.yld id] ++ caps) (T 0) fun v σ' => v = .tup [] ∧ σ' = T (if m < ys.length then m + 1 else m)) : IterOk P k first caps ys ok := by
 intro id T m hok hyt
 refine ⟨fun hm => ?_, fun y hy hyf => ?_⟩
 ·refine (h id T m hok (by omega) hyt (fun j y hj hy => ?_)).mono ?_
  ·have := (zD.1 hy).1; omega
  ·rintro v σ' ⟨_, h⟩
   rw [h, if_neg (by omega)]
 ·have hm := (zD.1 hy).1
  refine (h id T m hok (by omega) hyt (fun j z hj hz => ?_)).mono ?_
  ·subst hj
   rw [hy] at hz
   injection hz with hz
   subst hz
   exact hyf
  ·rintro v σ' ⟨_, h⟩
   rw [h, if_pos hm]
section
variable {P : Program} {rd : Option Nat} {N n : Nat} {Q : Exit → Env → MS → Prop} {env : Env} {S : MS}
theorem evos_len {env : Env} : ∀ (l : List Operand) (ys : List MV), evos env l = some ys → l.length = ys.length := by
 intro l
 induction l with
 | nil => intro ys h; injection h with h; subst h; rfl
 | cons x l ih =>
  intro ys h
  simp only [evos] at h
  cases hx : evo env x with
  | none => rw [hx] at h; cases h
  | some m =>
   rw [hx] at h
   cases hl : evos env l with
   | none => simp only [hl] at h; cases h
   | some ms =>
    simp only [hl] at h
    injection h with h
    subst h
    simp [ih _ hl]
theorem cls_swap {A B B' C0 C' : MS} {s s' : LoopState} {q q' : Option Code} {ls : LS} {l : Nat} (h1 : B.length = l) (h2 : B'.length = l) (hB : ∀ o, o ∈ B' → ∀ n, (A ++ C0).length ≤ n → o.cl n) (hm : C0.length = l) (h : ClS ((A ++ B) ++ .loop s q ls :: C')) : ClS ((A ++ B') ++ .loop s' q' ls :: C') := by
 have hle : ((A ++ B') ++ MObj.loop s' q' ls :: C').length = ((A ++ B) ++ MObj.loop s q ls :: C').length := by simp [h1, h2]
 intro id o hid
 rw [hle]
 by_cases c1 : id < A.length
 ·refine h id o ?_
  rw [zN, List.getElem?_append_left c1] at hid ⊢
  exact hid
 ·by_cases c2 : id < (A ++ B').length
  ·rw [List.getElem?_append_left c2, List.getElem?_append_right (by omega)] at hid
   refine hB o (zW hid) _ ?_
   simp only [zG, zF0]
   omega
  ·by_cases c3 : id = (A ++ B').length
   ·subst c3
    rw [zU4] at hid
    injection hid with hid
    subst hid
    have := h (A ++ B).length (.loop s q ls) zU4
    exact this
   ·refine h id o ?_
    have hl : (A ++ B).length = (A ++ B').length := by simp [h1, h2]
    rw [List.getElem?_append_right (by omega)] at hid ⊢
    rw [hl]
    obtain ⟨d, hd⟩ : ∃ d, id - (A ++ B').length = d + 1 := ⟨id - (A ++ B').length - 1, by omega⟩
    rw [hd] at hid ⊢
    simpa using hid
theorem _root_.zL6 : type_of% @cls_swap := @cls_swap
theorem cls_loop {A : MS} {s : LoopState} {q : Option Code} {ps : Array Tmp} {assign body : Code} {env : Env} {n : Nat} (h : ClS A) (he : ∀ t x, get env t = some x → Cl A.length x) : ClS (A ++ [.loop s q ⟨ps, assign, body, env, n⟩]) := by
 intro id o hid
 by_cases c : id < A.length
 ·rw [List.getElem?_append_left c] at hid
  have := h id o hid
  cases o with
  | cells l => exact fun x hx => (this x hx).mono (by simp)
  | loop s p ls => exact fun t x hx => (this t x hx).mono (by simp)
  | row _ _ _ => exact trivial
  | mp _ es => exact fun e he => (this e he).mono (by simp)
  | mit m _ _ _ => exact Nat.lt_of_lt_of_le this (by simp)
  | pin _ _ => exact trivial
  | shut _ _ => exact trivial
  | tcells _ l => exact fun x hx => (this x hx).mono (by simp)
  | orow _ _ _ l => exact fun x hx => (this x hx).mono (by simp)
  | fixed _ _ => exact trivial
  | gone => exact trivial
 ·rw [List.getElem?_append_right (by omega)] at hid
  obtain ⟨d, hd⟩ : ∃ d, id - A.length = d := ⟨_, rfl⟩
  rw [hd] at hid
  cases d with
  | zero =>
   simp at hid
   subst hid
   exact fun t x hx => (he t x hx).mono (by simp)
  | succ d => simp at hid
theorem IterOk.weak {P : Program} {k : FuncId} {first caps : List MV} {ys : List (List MV)} {ok ok' : MS → Prop} (h : IterOk P k first caps ys ok) (hw : ∀ σ, ok' σ → ok σ) : IterOk P k first caps ys ok' :=
 fun id T m hok hyt => h id T m (fun j => hw _ (hok j)) hyt
theorem mwp_rangeB {f : Operand} {ps : Array Tmp} {assign body : Code} {k : FuncId} {first caps : List MV} {ys : List (List MV)} {ok : MS → Prop} {L0 : MS} (ex : Exit) (hex : ex = .ret ∨ ∃ x, ex = .exit x) (p : Nat → Bool) (L Ls : Nat → MS) (hlen : ∀ j, (L j).length = (L 0).length) (hlens : ∀ j, (Ls j).length = (L 0).length) (hL0 : L0 = L 0)
  (hcl : ∀ j o, o ∈ L j → ∀ n, (S ++ L 0).length ≤ n → o.cl n) (hcls : ∀ j o, o ∈ Ls j → ∀ n, (S ++ L 0).length ≤ n → o.cl n)
  (hf : evo env f = some (.fn (.func k) first caps)) (hb : CallOk P k) (hrd : rd = none) (hN : N ≤ S.length)
  (hit : IterOk P k first caps ys (fun σ => ok σ ∧ ClS σ)) (hok : ∀ j, ok ((S ++ L j) ++ [.loop .ready none ⟨ps, assign, body, env, n⟩])) (hoks : ∀ j s q, ok ((S ++ Ls j) ++ [.loop s q ⟨ps, assign, body, env, n⟩])) (hpb : ps.toList.all (fun t => Nat.blt t n) = true) (hps : ∀ y ∈ ys, ps.size = y.length)
  (hround : ∀ j y, ys[j]? = some y → (∀ i, i < j → p i = true) → ∀ L' : MS, mwp P (some (S ++ L 0).length) ((S ++ L j).length + 1 + L'.length) n assign (fun e env1 σ1 => e = .normal ∧ ∃ J, σ1 = ((S ++ L j) ++ .loop .ready none ⟨ps, assign, body, env, n⟩ :: L') ++ J ∧
   mwp P (some (S ++ L 0).length) ((S ++ L j).length + 1 + L'.length) n body (fun e2 env2 σ2 =>
    (p j = true ∧ e2 = .normal ∧ ∃ junk, σ2 = ((S ++ L (j + 1)) ++ .loop .busy none ⟨ps, assign, body, env, n⟩ :: L') ++ junk) ∨
    (p j = false ∧ e2 = ex ∧ ∃ junk, σ2 = ((S ++ Ls j) ++ .loop .busy none ⟨ps, assign, body, env, n⟩ :: L') ++ junk)) env1 (((S ++ L j) ++ .loop .busy none ⟨ps, assign, body, env, n⟩ :: L') ++ J)) (bindPs ps.toList y env) ((S ++ L j) ++ .loop .ready none ⟨ps, assign, body, env, n⟩ :: L'))
  (hend : (∀ j, j < ys.length → p j = true) → Q .normal env ((S ++ L ys.length) ++ [.gone]))
  (hstop : ∀ j y, ys[j]? = some y → p j = false → Q ex env ((S ++ Ls j) ++ [.gone])) : mwp P rd N n (.rangeFunc f ps assign body) Q env (S ++ L0) := by
 subst hL0 hrd
 have hid : ∀ j, (S ++ L j).length = (S ++ L 0).length := fun j => by simp [hlen j]
 have hids : ∀ j, (S ++ Ls j).length = (S ++ L 0).length := fun j => by simp [hlens j]
 refine zW0 fun hce hcs => ?_
 have hc0 : ∀ s q, ClS ((S ++ L 0) ++ [.loop s q ⟨ps, assign, body, env, n⟩]) := fun s q => cls_loop hcs hce
 refine mwp_range hf hb (fun id h => by cases h) (by simp; omega) ?_
 have hstep : ∀ j y, ys[j]? = some y → (∀ i, i < j → p i = true) → ∀ (K : MV → MS → Prop) (L' : MS) (rd' : Option Nat) (o : Oper) (env' : Env) (f' : Operand) (args : Array Operand) (ts : Array TypeId), o.op = .call { callee := .value f', args := args, argTypes := ts } → evo env' f' = some (.yld (S ++ L 0).length) → evos env' args.toList = some y →
   (p j = true → K (.bool true) ((S ++ L (j + 1)) ++ .loop .ready none ⟨ps, assign, body, env, n⟩ :: L')) →
   (p j = false → K (.bool false) ((S ++ Ls j) ++ .loop .done (some (exCode ex)) ⟨ps, assign, body, env, n⟩ :: L')) →
   OpWp P rd' o env' ((S ++ L j) ++ .loop .ready none ⟨ps, assign, body, env, n⟩ :: L') K := by
  intro j y hy hbef K L' rd' o env' f' args ts ho hf' hargs hk1 hk2
  have hsz : args.size = y.length := by
   have := evos_len _ _ hargs
   simpa using this
  have hget : ((S ++ L j) ++ MObj.loop .ready none ⟨ps, assign, body, env, n⟩ :: L')[(S ++ L 0).length]? = some (.loop .ready none ⟨ps, assign, body, env, n⟩) := by
   rw [← hid j]; exact zU4
  have hN' : ((S ++ L j) ++ MObj.loop .ready none ⟨ps, assign, body, env, n⟩ :: L').length = (S ++ L j).length + 1 + L'.length := by
   rw [zG, zF0]; omega
  refine op_yield ho hf' hargs hget (by rw [hsz]; exact hps y (zW hy)) hpb ?_
  rw [hN']
  refine zW0 fun _ hcl0 => ?_
  refine mwp_mono (hround j y hy hbef L') ?_
  rintro e env1 σ1 ⟨rfl, J, rfl, h⟩
  refine ⟨rfl, none, zS hget, ?_⟩
  have hset : (((S ++ L j) ++ MObj.loop .ready none ⟨ps, assign, body, env, n⟩ :: L') ++ J).set (S ++ L 0).length (.loop .busy none ⟨ps, assign, body, env, n⟩) = ((S ++ L j) ++ .loop .busy none ⟨ps, assign, body, env, n⟩ :: L') ++ J := by
   rw [set_app hget, ← hid j]; exact congrArg (· ++ J) zU5
  rw [hset]
  refine mwp_mono h ?_
  rintro e2 env2 σ2 (⟨hp, rfl, junk, rfl⟩ | ⟨hp, rfl, junk, rfl⟩)
  ·refine ⟨_, junk, none, ⟨ps, assign, body, env, n⟩, rfl, ?_, .inr (zL6 (hlen j) (hlen (j + 1)) (hcl (j + 1)) (by simp) hcl0), ?_, ?_⟩
   ·have h1 := hid (j + 1)
    have h2 := hid j
    simp only [zG, zF0] at *
    omega
   ·rw [← hid (j + 1)]; exact zU4
   ·show K (.bool true) _
    rw [← hid (j + 1), zU5]
    exact hk1 hp
  ·refine ⟨_, junk, none, ⟨ps, assign, body, env, n⟩, rfl, ?_, .inr (zL6 (hlen j) (hlens j) (hcls j) (by simp) hcl0), ?_, ?_⟩
   ·have h1 := hids j
    have h2 := hid j
    simp only [zG, zF0] at *
    omega
   ·rw [← hids j]; exact zU4
   ·rcases hex with rfl | ⟨x, rfl⟩
    ·show K (.bool false) _
     rw [← hids j, zU5]
     exact hk2 hp
    ·show K (.bool false) _
     rw [← hids j, zU5]
     exact hk2 hp
 have hgo : ∀ m, (∀ j, j < m → p j = true) → ∀ (T : Nat → MS), (∀ j, j ≤ m → T j = (S ++ L j) ++ [.loop .ready none ⟨ps, assign, body, env, n⟩]) → ∀ j y, j < m → ys[j]? = some y → YStep P (S ++ L 0).length y (T j) true (T (j + 1)) := by
  intro m hm T hT j y hj hy L' rd' o env' f' args ts ho hf' hargs
  have e1 : ∀ i (X : MObj), ((S ++ L i) ++ [X]) ++ L' = (S ++ L i) ++ X :: L' := fun i X => by simp
  rw [hT j (by omega), hT (j + 1) (by omega), e1, e1]
  exact hstep j y hy (fun i hi => hm i (by omega)) _ L' rd' o env' f' args ts ho hf' hargs (fun _ => ⟨rfl, rfl⟩) (fun h => by rw [hm j hj] at h; cases h)
 rcases first_bad p ys.length with hall | ⟨m, hm, hp, hbef⟩
 ·refine ((hit (S ++ L 0).length (fun j => (S ++ L j) ++ [.loop .ready none ⟨ps, assign, body, env, n⟩]) ys.length (fun j => ⟨hok j, zL6 (hlen 0) (hlen j) (hcl j) V (hc0 .ready none)⟩) (hgo ys.length hall _ (fun j _ => V))).1 V).mono ?_
  rintro v σ' rfl
  refine ⟨.ready, none, by rw [← hid ys.length]; exact zU4, by simp, ?_⟩
  show Q .normal env _
  rw [← hid ys.length, zU5]
  exact hend hall
 ·obtain ⟨y, hy⟩ : ∃ y, ys[m]? = some y := ⟨_, zC hm⟩
  let q : Code := exCode ex
  let T : Nat → MS := fun j => if j ≤ m then (S ++ L j) ++ [.loop .ready none ⟨ps, assign, body, env, n⟩] else (S ++ Ls m) ++ [.loop .done (some q) ⟨ps, assign, body, env, n⟩]
  have hT : ∀ j, j ≤ m → T j = (S ++ L j) ++ [.loop .ready none ⟨ps, assign, body, env, n⟩] := fun j hj => by simp [T, hj]
  have hT1 : T (m + 1) = (S ++ Ls m) ++ [.loop .done (some q) ⟨ps, assign, body, env, n⟩] := by simp [T]
  have h0 : T 0 = (S ++ L 0) ++ [.loop .ready none ⟨ps, assign, body, env, n⟩] := hT 0 (by omega)
  have hokT : ∀ j, ok (T j) ∧ ClS (T j) := fun j => by
   by_cases hj : j ≤ m
   ·rw [hT j hj]; exact ⟨hok j, zL6 (hlen 0) (hlen j) (hcl j) rfl (hc0 .ready none)⟩
   ·simp only [T, if_neg hj]; exact ⟨hoks m _ _, zL6 (hlen 0) (hlens m) (hcls m) rfl (hc0 .ready none)⟩
  have := (hit (S ++ L 0).length T m hokT (hgo m hbef T hT)).2 y hy (by
   intro L' rd' o env' f' args ts ho hf' hargs
   have e1 : ∀ (A : MS) (X : MObj), ((S ++ A) ++ [X]) ++ L' = (S ++ A) ++ X :: L' := fun i X => by simp
   rw [hT m (Nat.le_refl _), hT1, e1, e1]
   exact hstep m y hy hbef _ L' rd' o env' f' args ts ho hf' hargs (fun h => by rw [hp] at h; cases h) (fun _ => ⟨rfl, rfl⟩))
  rw [h0] at this
  refine this.mono ?_
  rintro v σ' rfl
  rw [hT1]
  refine ⟨.done, some q, by rw [← hids m]; exact zU4, by simp, ?_⟩
  rw [← hids m, zU5]
  rcases hex with rfl | ⟨x, rfl⟩
  ·exact hstop m y hy hp
  ·exact hstop m y hy hp
end
section
variable {P : Program} {rd : Option Nat} {o : Oper} {env : Env} {σ : MS} {K : MV → MS → Prop}
theorem op_load_last {t : TypeId} {x : Operand} {off : Nat} {l : List MV} {ta : Option Nat} {m : MV} (ho : o.op = .load t x) (hx : evo env x = some (.ref σ.length off)) (ht : tyAgg P t = some ta) (hm : loadMV ta l off = some m) (h : K m (σ ++ [.cells l])) : OpWp P rd o env (σ ++ [.cells l]) K :=
 zP ho hx zU4 ht hm h
theorem _root_.zM6 : type_of% @op_load_last := @op_load_last
theorem op_store_last {t : TypeId} {x y : Operand} {off : Nat} {l : List MV} {m : MV} {k : Nat} (ho : o.op = .store t x y) (hx : evo env x = some (.ref σ.length off)) (hy : evo env y = some m) (hk : szOf P t = some k) (hm : m.cells.length = k) (h1 : m.cells.all MV.one = true) (hle : off + k ≤ l.length)
  (h : K (.tup []) (σ ++ [.cells (setMany l off m.cells)])) : OpWp P rd o env (σ ++ [.cells l]) K :=
 zQ5 ho hx hy zU4 hk hm h1 hle (by rw [zU5]; exact h)
theorem _root_.zD2 : type_of% @op_store_last := @op_store_last
theorem YStep.at2 {id : Nat} {xs : List MV} {S S' J J' : MS} {b : Bool} (h : YStep P id xs S b S') {f : Operand} {args : Array Operand} {ts : Array TypeId} (ho : o.op = .call { callee := .value f, args := args, argTypes := ts }) (hf : evo env f = some (.yld id)) (hx : evos env args.toList = some xs) (hk : K (.bool b) ((S' ++ J) ++ J')) : OpWp P rd o env ((S ++ J) ++ J') K := by
 have := h (J ++ J') rd o env f args ts ho hf hx
 rw [← zN] at this
 refine this.mono ?_
 rintro v σ' ⟨rfl, rfl⟩
 rw [← zN]
 exact hk
end
theorem get_box {A R : MS} {x x' y : MObj} : ((A ++ [x, y]) ++ R)[(A ++ [x']).length]? = some y := by rw [zG, zN, getElem?_own]; rfl
theorem get_rt {A L' : MS} {x y c : MObj} : (A ++ ((y :: L') ++ [c]))[(A ++ x :: L').length]? = some c := by
 have e : (A ++ x :: L').length = (A ++ y :: L').length := by simp
 rw [← zN, e]
 exact zU4
theorem mwp_abs {P : Program} {rd : Option Nat} {N n : Nat} {c : Code} {Q : Exit → Env → MS → Prop} {env : Env} {A R : MS} (h : ∀ R', R' = R → mwp P rd N n c Q env (A ++ R')) : mwp P rd N n c Q env (A ++ R) := h R rfl
section
variable {P : Program} {rd : Option Nat} {o : Oper} {env : Env} {σ σ2 : MS} {K : MV → MS → Prop}
theorem op_viewTo {x y : MV} (h : OpWp P rd o env σ fun v σ' => v = x ∧ σ' = σ2) (hs : Sub x y) (hk : K y σ2) : OpWp P rd o env σ K := by
 intro g w a F hF hr hop
 refine Oper.wpIn_mono ?_ (h g w a F hF hr hop)
 rintro a' w' ⟨v, e, x', σ', g', ⟨rfl, rfl⟩, hrel, hrd, hle⟩
 exact ⟨v, e, y, _, g', hk, hrel, hs _ _ _ hrd, hle⟩
theorem _root_.zZ1 : type_of% @op_viewTo := @op_viewTo
variable {N n : Nat} {Q : Exit → Env → MS → Prop}
end
theorem mwp_cellrowAt {P : Program} {rd : Option Nat} {N n : Nat} {c : Code} {Q : Exit → Env → MS → Prop} {env : Env} {S L L' : MS} (k i ty sz : Nat) {m : Nat} {l : List MV} (hk : L[k]? = some (.cells l)) (hi : l[i]? = some .lst0) (hN : N ≤ S.length) (hm : L.length = m) (hL : L.set k (.cells (l.set i (.lst (some (S.length + m)) sz []))) ++ [.row ty sz 0] = L') (h : mwp P rd N n c Q env (S ++ L')) : mwp P rd N n c Q env (S ++ L) := by
 subst hm hL
 refine mwp_ghost (fun g w tmps hr he => ?_) h
 obtain ⟨r1, l1, d1⟩ := tok_new hr ty sz
 have hlen : (S ++ L).length = S.length + L.length := zG
 refine ⟨_, ?_, he.mono l1, l1.toN N, fun F hF => hF.mono (l1.toN N)⟩
 have hlt := (zD.1 hk).1
 have e : S ++ (L.set k (.cells (l.set i (.lst (some (S.length + L.length)) sz []))) ++ [.row ty sz 0]) = ((S ++ L) ++ [MObj.row ty sz 0]).set (S.length + k) (.cells (l.set i (.lst (some (S.length + L.length)) sz []))) := by
  rw [zN, zP5, List.set_append_left _ _ hlt]
 rw [e]
 refine r1.recell (l := l) (by rw [zN, getElem?_own, List.getElem?_append_left hlt]; exact hk) fun us hus => ?_
 obtain ⟨u, hu, hrd⟩ := hus.get hi
 have hs := hus.set i (x := .lst (some (S.length + L.length)) sz []) (u := u) (by rw [hrd.inv_lst0, ← hlen]; exact d1)
 obtain ⟨hul, hue⟩ := zD.1 hu
 rwa [show us.set i u = us by rw [← hue]; exact List.set_getElem_self hul] at hs
end
section
def IterOk2 (P : Program) (k : FuncId) (first caps : List MV) (ys : List (List MV)) (okT : MS → Prop) (okU : Nat → MS → MS → Prop) : Prop :=
 ∀ (id : Nat) (T U : Nat → MS) (m : Nat), (∀ j, okT (T j)) → (∀ j, j ≤ m → okU j (T j) (U j)) → (∀ j y, j < m → ys[j]? = some y → YStep P id y (U j) true (T (j + 1))) →
  (m = ys.length → MCalls P k (first ++ [.yld id] ++ caps) (T 0) fun _ σ' => σ' = T m) ∧
  (∀ y, ys[m]? = some y → YStep P id y (U m) false (T (m + 1)) → MCalls P k (first ++ [.yld id] ++ caps) (T 0) fun _ σ' => σ' = T (m + 1))
theorem iterOk2_of {P : Program} {k : FuncId} {first caps : List MV} {ys : List (List MV)} {okT : MS → Prop} {okU : Nat → MS → MS → Prop} (h : ∀ (id : Nat) (T U : Nat → MS) (m : Nat), (∀ j, okT (T j)) → (∀ j, j ≤ m → okU j (T j) (U j)) → m ≤ ys.length → (∀ j y, j < m → ys[j]? = some y → YStep P id y (U j) true (T (j + 1))) → (∀ j y, j = m → ys[j]? = some y → YStep P id y (U j) false (T (j + 1))) →
  MCalls P k (first ++ [.yld id] ++ caps) (T 0) fun v σ' => v = .tup [] ∧ σ' = T (if m < ys.length then m + 1 else m)) : IterOk2 P k first caps ys okT okU := by
 intro id T U m hok hoku hyt
 refine ⟨fun hm => ?_, fun y hy hyf => ?_⟩
 ·refine (h id T U m hok hoku (by omega) hyt (fun j y hj hy => ?_)).mono ?_
  ·have := (zD.1 hy).1; omega
  ·rintro v σ' ⟨_, h⟩
   rw [h, if_neg (by omega)]
 ·have hm := (zD.1 hy).1
  refine (h id T U m hok hoku (by omega) hyt (fun j z hj hz => ?_)).mono ?_
  ·subst hj
   rw [hy] at hz
   injection hz with hz
   subst hz
   exact hyf
  ·rintro v σ' ⟨_, h⟩
   rw [h, if_pos hm]
section
variable {P : Program} {rd : Option Nat} {N n : Nat} {Q : Exit → Env → MS → Prop} {env : Env} {S : MS}
theorem mwp_rangeC {f : Operand} {ps : Array Tmp} {assign body : Code} {k : FuncId} {first caps : List MV} {ys : List (List MV)} {okT : MS → Prop} {okU : Nat → MS → MS → Prop} {L0 : MS} (ex : Exit) (hex : ex = .ret ∨ ∃ x, ex = .exit x) (p : Nat → Bool) (L LU Ls : Nat → MS) (hlen : ∀ j, (L j).length = (L 0).length) (hlenu : ∀ j, (LU j).length = (L 0).length) (hlens : ∀ j, (Ls j).length = (L 0).length) (hL0 : L0 = L 0)
  (hcl : ∀ j o, o ∈ L j → ∀ n, (S ++ L 0).length ≤ n → o.cl n) (hclu : ∀ j o, o ∈ LU j → ∀ n, (S ++ L 0).length ≤ n → o.cl n) (hcls : ∀ j o, o ∈ Ls j → ∀ n, (S ++ L 0).length ≤ n → o.cl n)
  (hf : evo env f = some (.fn (.func k) first caps)) (hb : CallOk P k) (hrd : rd = none) (hN : N ≤ (S ++ L 0).length)
  (hit : IterOk2 P k first caps ys (fun σ => okT σ ∧ ClS σ) okU) (hok : ∀ j, okT ((S ++ L j) ++ [.loop .ready none ⟨ps, assign, body, env, n⟩])) (hoku : ∀ j, j ≤ ys.length → okU j ((S ++ L j) ++ [.loop .ready none ⟨ps, assign, body, env, n⟩]) ((S ++ LU j) ++ [.loop .ready none ⟨ps, assign, body, env, n⟩])) (hoks : ∀ j s q, okT ((S ++ Ls j) ++ [.loop s q ⟨ps, assign, body, env, n⟩])) (hpb : ps.toList.all (fun t => Nat.blt t n) = true) (hps : ∀ y ∈ ys, ps.size = y.length)
  (hround : ∀ j y, ys[j]? = some y → (∀ i, i < j → p i = true) → ∀ L' : MS, mwp P (some (S ++ L 0).length) ((S ++ LU j).length + 1 + L'.length) n assign (fun e env1 σ1 => e = .normal ∧ ∃ J, σ1 = ((S ++ LU j) ++ .loop .ready none ⟨ps, assign, body, env, n⟩ :: L') ++ J ∧
   mwp P (some (S ++ L 0).length) ((S ++ LU j).length + 1 + L'.length) n body (fun e2 env2 σ2 =>
    (p j = true ∧ e2 = .normal ∧ ∃ junk, σ2 = ((S ++ L (j + 1)) ++ .loop .busy none ⟨ps, assign, body, env, n⟩ :: L') ++ junk) ∨
    (p j = false ∧ e2 = ex ∧ ∃ junk, σ2 = ((S ++ Ls j) ++ .loop .busy none ⟨ps, assign, body, env, n⟩ :: L') ++ junk)) env1 (((S ++ LU j) ++ .loop .busy none ⟨ps, assign, body, env, n⟩ :: L') ++ J)) (bindPs ps.toList y env) ((S ++ LU j) ++ .loop .ready none ⟨ps, assign, body, env, n⟩ :: L'))
  (hend : (∀ j, j < ys.length → p j = true) → Q .normal env ((S ++ L ys.length) ++ [.gone]))
  (hstop : ∀ j y, ys[j]? = some y → p j = false → Q ex env ((S ++ Ls j) ++ [.gone])) : mwp P rd N n (.rangeFunc f ps assign body) Q env (S ++ L0) := by
 subst hL0 hrd
 have hid : ∀ j, (S ++ L j).length = (S ++ L 0).length := fun j => by simp [hlen j]
 have hidu : ∀ j, (S ++ LU j).length = (S ++ L 0).length := fun j => by simp [hlenu j]
 have hids : ∀ j, (S ++ Ls j).length = (S ++ L 0).length := fun j => by simp [hlens j]
 refine zW0 fun hce hcs => ?_
 have hc0 : ∀ s q, ClS ((S ++ L 0) ++ [.loop s q ⟨ps, assign, body, env, n⟩]) := fun s q => cls_loop hcs hce
 refine mwp_range hf hb (fun id h => by cases h) hN ?_
 have hstep : ∀ j y, ys[j]? = some y → (∀ i, i < j → p i = true) → ∀ (K : MV → MS → Prop) (L' : MS) (rd' : Option Nat) (o : Oper) (env' : Env) (f' : Operand) (args : Array Operand) (ts : Array TypeId), o.op = .call { callee := .value f', args := args, argTypes := ts } → evo env' f' = some (.yld (S ++ L 0).length) → evos env' args.toList = some y →
   (p j = true → K (.bool true) ((S ++ L (j + 1)) ++ .loop .ready none ⟨ps, assign, body, env, n⟩ :: L')) →
   (p j = false → K (.bool false) ((S ++ Ls j) ++ .loop .done (some (exCode ex)) ⟨ps, assign, body, env, n⟩ :: L')) →
   OpWp P rd' o env' ((S ++ LU j) ++ .loop .ready none ⟨ps, assign, body, env, n⟩ :: L') K := by
  intro j y hy hbef K L' rd' o env' f' args ts ho hf' hargs hk1 hk2
  have hsz : args.size = y.length := by
   have := evos_len _ _ hargs
   simpa using this
  have hget : ((S ++ LU j) ++ MObj.loop .ready none ⟨ps, assign, body, env, n⟩ :: L')[(S ++ L 0).length]? = some (.loop .ready none ⟨ps, assign, body, env, n⟩) := by
   rw [← hidu j]; exact zU4
  have hN' : ((S ++ LU j) ++ MObj.loop .ready none ⟨ps, assign, body, env, n⟩ :: L').length = (S ++ LU j).length + 1 + L'.length := by
   rw [zG, zF0]; omega
  refine op_yield ho hf' hargs hget (by rw [hsz]; exact hps y (zW hy)) hpb ?_
  rw [hN']
  refine zW0 fun _ hcl0 => ?_
  refine mwp_mono (hround j y hy hbef L') ?_
  rintro e env1 σ1 ⟨rfl, J, rfl, h⟩
  refine ⟨rfl, none, zS hget, ?_⟩
  have hset : (((S ++ LU j) ++ MObj.loop .ready none ⟨ps, assign, body, env, n⟩ :: L') ++ J).set (S ++ L 0).length (.loop .busy none ⟨ps, assign, body, env, n⟩) = ((S ++ LU j) ++ .loop .busy none ⟨ps, assign, body, env, n⟩ :: L') ++ J := by
   rw [set_app hget, ← hidu j]; exact congrArg (· ++ J) zU5
  rw [hset]
  refine mwp_mono h ?_
  rintro e2 env2 σ2 (⟨hp, rfl, junk, rfl⟩ | ⟨hp, rfl, junk, rfl⟩)
  ·refine ⟨_, junk, none, ⟨ps, assign, body, env, n⟩, rfl, ?_, .inr (zL6 (hlenu j) (hlen (j + 1)) (hcl (j + 1)) (by simp) hcl0), ?_, ?_⟩
   ·have h1 := hid (j + 1)
    have h2 := hidu j
    simp only [zG, zF0] at *
    omega
   ·rw [← hid (j + 1)]; exact zU4
   ·show K (.bool true) _
    rw [← hid (j + 1), zU5]
    exact hk1 hp
  ·refine ⟨_, junk, none, ⟨ps, assign, body, env, n⟩, rfl, ?_, .inr (zL6 (hlenu j) (hlens j) (hcls j) (by simp) hcl0), ?_, ?_⟩
   ·have h1 := hids j
    have h2 := hidu j
    simp only [zG, zF0] at *
    omega
   ·rw [← hids j]; exact zU4
   ·rcases hex with rfl | ⟨x, rfl⟩
    ·show K (.bool false) _
     rw [← hids j, zU5]
     exact hk2 hp
    ·show K (.bool false) _
     rw [← hids j, zU5]
     exact hk2 hp
 have hgo : ∀ m, (∀ j, j < m → p j = true) → ∀ (T : Nat → MS), (∀ j, j ≤ m → T j = (S ++ L j) ++ [.loop .ready none ⟨ps, assign, body, env, n⟩]) → ∀ j y, j < m → ys[j]? = some y → YStep P (S ++ L 0).length y ((S ++ LU j) ++ [.loop .ready none ⟨ps, assign, body, env, n⟩]) true (T (j + 1)) := by
  intro m hm T hT j y hj hy L' rd' o env' f' args ts ho hf' hargs
  have e1 : ∀ (A : MS) (X : MObj), ((S ++ A) ++ [X]) ++ L' = (S ++ A) ++ X :: L' := fun i X => by simp
  rw [hT (j + 1) (by omega), e1, e1]
  exact hstep j y hy (fun i hi => hm i (by omega)) _ L' rd' o env' f' args ts ho hf' hargs (fun _ => ⟨rfl, rfl⟩) (fun h => by rw [hm j hj] at h; cases h)
 rcases first_bad p ys.length with hall | ⟨m, hm, hp, hbef⟩
 ·refine ((hit (S ++ L 0).length (fun j => (S ++ L j) ++ [.loop .ready none ⟨ps, assign, body, env, n⟩]) (fun j => (S ++ LU j) ++ [.loop .ready none ⟨ps, assign, body, env, n⟩]) ys.length (fun j => ⟨hok j, zL6 (hlen 0) (hlen j) (hcl j) V (hc0 .ready none)⟩) (fun j hj => hoku j hj) (hgo ys.length hall _ (fun j _ => V))).1 V).mono ?_
  rintro v σ' rfl
  refine ⟨.ready, none, by rw [← hid ys.length]; exact zU4, by simp, ?_⟩
  show Q .normal env _
  rw [← hid ys.length, zU5]
  exact hend hall
 ·obtain ⟨y, hy⟩ : ∃ y, ys[m]? = some y := ⟨_, zC hm⟩
  let q : Code := exCode ex
  let T : Nat → MS := fun j => if j ≤ m then (S ++ L j) ++ [.loop .ready none ⟨ps, assign, body, env, n⟩] else (S ++ Ls m) ++ [.loop .done (some q) ⟨ps, assign, body, env, n⟩]
  have hT : ∀ j, j ≤ m → T j = (S ++ L j) ++ [.loop .ready none ⟨ps, assign, body, env, n⟩] := fun j hj => by simp [T, hj]
  have hT1 : T (m + 1) = (S ++ Ls m) ++ [.loop .done (some q) ⟨ps, assign, body, env, n⟩] := by simp [T]
  have h0 : T 0 = (S ++ L 0) ++ [.loop .ready none ⟨ps, assign, body, env, n⟩] := hT 0 (by omega)
  have hokT : ∀ j, okT (T j) ∧ ClS (T j) := fun j => by
   by_cases hj : j ≤ m
   ·rw [hT j hj]; exact ⟨hok j, zL6 (hlen 0) (hlen j) (hcl j) rfl (hc0 .ready none)⟩
   ·simp only [T, if_neg hj]; exact ⟨hoks m _ _, zL6 (hlen 0) (hlens m) (hcls m) rfl (hc0 .ready none)⟩
  have := (hit (S ++ L 0).length T (fun j => (S ++ LU j) ++ [.loop .ready none ⟨ps, assign, body, env, n⟩]) m hokT (fun j hj => by rw [hT j hj]; exact hoku j (by omega)) (hgo m hbef T hT)).2 y hy (by
   intro L' rd' o env' f' args ts ho hf' hargs
   have e1 : ∀ (A : MS) (X : MObj), ((S ++ A) ++ [X]) ++ L' = (S ++ A) ++ X :: L' := fun i X => by simp
   rw [hT1, e1, e1]
   exact hstep m y hy hbef _ L' rd' o env' f' args ts ho hf' hargs (fun h => by rw [hp] at h; cases h) (fun _ => ⟨rfl, rfl⟩))
  rw [h0] at this
  refine this.mono ?_
  rintro v σ' rfl
  rw [hT1]
  refine ⟨.done, some q, by rw [← hids m]; exact zU4, by simp, ?_⟩
  rw [← hids m, zU5]
  rcases hex with rfl | ⟨x, rfl⟩
  ·exact hstop m y hy hp
  ·exact hstop m y hy hp
end
end
section
section
variable {P : Program} {rd : Option Nat} {o : Oper} {env : Env} {σ : MS} {K : MV → MS → Prop}
end
def Sees (F : List (Nat × MObj)) (σ : MS) : Prop := ∀ p ∈ F, σ[p.1]? = some p.2
theorem Sees.app {F : List (Nat × MObj)} {A B : MS} (h : Sees F A) : Sees F (A ++ B) := fun p hp => zS (h p hp)
theorem Sees.cons {F : List (Nat × MObj)} {A : MS} {i : Nat} {o : MObj} (h1 : A[i]? = some o) (h : Sees F A) : Sees ((i, o) :: F) A := fun p hp => by
 rcases List.mem_cons.1 hp with rfl | hp
 ·exact h1
 ·exact h p hp
theorem Sees.nil {A : MS} : Sees [] A := fun p hp => by cases hp
theorem ClS.app {A B : MS} (h : ClS A) (hB : ∀ o ∈ B, o.cl (A ++ B).length) : ClS (A ++ B) := by
 intro id o hid
 by_cases c : id < A.length
 ·rw [List.getElem?_append_left c] at hid
  have := h id o hid
  cases o with
  | cells l => exact fun x hx => (this x hx).mono (by simp)
  | loop s p ls => exact fun t x hx => (this t x hx).mono (by simp)
  | row _ _ _ => exact trivial
  | mp _ es => exact fun e he => (this e he).mono (by simp)
  | mit m _ _ _ => exact Nat.lt_of_lt_of_le this (by simp)
  | pin _ _ => exact trivial
  | shut _ _ => exact trivial
  | tcells _ l => exact fun x hx => (this x hx).mono (by simp)
  | orow _ _ _ l => exact fun x hx => (this x hx).mono (by simp)
  | fixed _ _ => exact trivial
  | gone => exact trivial
 ·rw [List.getElem?_append_right (by omega)] at hid
  exact hB o (zW hid)
theorem YStep.frame {P : Program} {id : Nat} {xs : List MV} {S S' : MS} {b : Bool} (h : YStep P id xs S b S') (J : MS) : YStep P id xs (S ++ J) b (S' ++ J) := by
 intro L rd o env f args ts ho hf hx
 have := h (J ++ L) rd o env f args ts ho hf hx
 rwa [← zN, ← zN] at this
end
def encY (b : UInt8) : MV := .int .u8 (b.toNat : Int)
theorem flat_encY (l : Bs) : flat (l.map encY) = l.map encY := by
 induction l with
 | nil => rfl
 | cons b l ih => rw [List.map_cons, zW5, ih]; rfl
theorem fold_push : ∀ (l acc : Bs), (l.map fun b => (b.toNat : Int)).foldl (fun r n => r.push (UInt8.ofNat n.toNat)) (bs acc) = bs (acc ++ l)
 | [], acc => by simp
 | b :: l, acc => by
  have e : (bs acc).push (UInt8.ofNat ((b.toNat : Int)).toNat) = bs (acc ++ [b]) := by
   apply ByteArray.ext
   simp [bs, ByteArray.push]
  rw [List.map_cons, List.foldl_cons, e, fold_push l (acc ++ [b]), zN]
  rfl
theorem us_bytes {g : Gh} {w : World} : ∀ {l : Bs} {us : List Value}, Rds g w (l.map encY) us → us = (l.map fun b => (b.toNat : Int)).map (Value.int .u8)
 | [], us, h => by
  have := h.1
  simp at this
  simp [this]
 | b :: l, us, h => by
  obtain ⟨u, us', rfl, h1, h2⟩ := Rds.uncons h
  rw [us_bytes h2, h1.inv_int]
  rfl
theorem op_conv_bytes {P : Program} {rd : Option Nat} {o : Oper} {env : Env} {σ : MS} {K : MV → MS → Prop} {t t' e : TypeId} {x : Operand} {tok : Option Nat} {xs : List MV} {l : Bs} (ho : o.op = .convert t t' x) (hs : P.underlying t = some (.slice e)) (he : P.underlying e = some (.int .u8)) (ht : P.underlying t' = some .string)
  (hx : evo env x = some (.lst tok 1 xs)) (hxs : xs = l.map encY) (h : K (.str (bs l)) σ) : OpWp P rd o env σ K := by
 subst hxs
 refine OpWp.of_run (by simp [ho]) fun g w a hr hop => ⟨.string (bs l), w, ?_, .same h hr (.str _)⟩
 obtain ⟨ad, c, us, hv, h1, h2, h3, h4, h5, _⟩ := (hop x (by simp [ho, Op.operands]) _ hx).inv_lst
 rw [flat_encY] at h4
 have hus := us_bytes h4
 simp only [execOp, ho, hv, Sem.run_bind, run_convert_bytes_string w t t' e _ _ _ hs he ht]
 cases ad with
 | none =>
  have hl : l = [] := by
   cases l with
   | nil => rfl
   | cons b l =>
    exfalso
    have hp : 0 < us.length := by rw [h4.1]; simp
    obtain ⟨ad, ha, _⟩ := h5 0 us[0] (zC hp)
    cases ha
  subst hl
  rfl
 | some ad =>
  have hrun := run_loadCells_list (P := P) (w := w) ad us (fun j v hv => by
   obtain ⟨ad', ea, hst⟩ := h5 j v hv
   injection ea with ea
   subst ea
   exact hst.2.1)
  have hlen : us.length = (l.map encY).length := h4.1
  rw [hlen, hus] at hrun
  rw [run_bytesToString w ad _ _ _ hrun]
  have := fold_push l []
  rw [List.nil_append] at this
  have e0 : bs [] = ByteArray.empty := rfl
  rw [e0] at this
  rw [this]
  rfl
theorem op_len_bs {P : Program} {rd : Option Nat} {o : Oper} {env : Env} {σ : MS} {K : MV → MS → Prop} {x : Operand} {l : Bs} {t : TypeId} (ho : o.op = .call { callee := .builtin .len, args := #[x], argTypes := #[t] }) (hu : P.underlying t = some .string) (hx : evo env x = some (.str (bs l)))
  (h : K (.int .i64 (l.length : Int)) σ) : OpWp P rd o env σ K := op_len_str ho hu hx (by rw [bs_size]; exact h)
theorem _root_.zU3 : type_of% @op_len_bs := @op_len_bs
section
section
variable {P : Program} {rd : Option Nat} {o : Oper} {env : Env} {σ : MS} {K : MV → MS → Prop}
end
end
section
section
variable {P : Program} {rd : Option Nat} {o : Oper} {env : Env} {σ : MS} {K : MV → MS → Prop}
theorem gets_vec {g : Gh} {w : World} (hr : Rel g σ w) {l : List MV} {us : List Value} {sz n c : Nat} (hl : Rds g w l us) (ty : TypeId) {fr : Nat × Nat} (hfr : FrOk fr us.length) (hn : n ≤ c) (hc : c ≤ maxLen) (h : K (.vec σ.length 0 sz n c) (σ ++ [.cells l])) :
  Gets g w K (.slice (some ⟨w.heap.size, 0, none⟩) n c) (w.alloc (.cells us.toArray ty fr)) := by
 obtain ⟨g', h1, h2, h3⟩ := hr.alloc_objF hl ty fr hfr
 exact ⟨_, _, g', h, h1, .vec _ _ _ _ _ _ h3 hn hc, h2⟩
theorem op_makeSliceV {t e n bytes : Nat} {x y : Operand} {kx ky : IntKind} {m : Int} {z : MV} (ho : o.op = .makeSlice t x y) (hu : P.underlying t = some (.slice e)) (he : elemOk P e 1 bytes = true) (hz : zeroMV P e = some [z]) (hx : evo env x = some (.int kx m)) (hy : evo env y = some (.int ky m)) (hm : m = (n : Int))
  (hb : bytes * n ≤ 281474976710656) (hn : n ≤ maxLen) (h : K (.vec σ.length 0 1 n n) (σ ++ [.cells (List.replicate n z)])) : OpWp P rd o env σ K := by
 subst hm
 refine OpWp.of_run (by simp [ho]) fun g w a hr hop => ?_
 obtain ⟨i, v, hi, hv, hs, hby, hvs, _⟩ := elemOk_spec he
 have e1 := (hop x (by simp [ho, Op.operands]) _ hx).inv_int
 have e2 := (hop y (by simp [ho, Op.operands]) _ hy).inv_int
 have hn' : (n : Int) ≤ 9223372036854775807 := by simp only [maxLen] at hn; omega
 have hb' : (i.bytes : Int) * (n : Int) ≤ 281474976710656 := by
  rw [hby]
  have : ((bytes * n : Nat) : Int) ≤ 281474976710656 := by omega
  rwa [Int.natCast_mul] at this
 have hrun := run_make (P := P) w t e i v hu hi hv kx ky (n : Int) (n : Int) (by omega) (Int.le_refl _) hb' hn'
 rw [hs, Nat.mul_one, Int.toNat_natCast] at hrun
 obtain ⟨u, hu1⟩ : ∃ u, v.cells = #[u] := Array.size_eq_one_iff.1 hvs
 have hm : madeCells v.cells n = (List.replicate n u).toArray := by
  unfold madeCells
  rw [hu1]
  apply Array.ext
  ·simp
  ·intro j h1 h2
   simp [Nat.mod_one]
 rw [hm] at hrun
 have hzu : Rd g w z u := by
  obtain ⟨v', k0, k1⟩ := zeroMV_some hz
  have hvv : v' = v := by
   have := k0 w
   simp [zeroValue, typeInfo, hi, hv] at this
   exact this.symm
  subst hvv
  have := k1 g w
  rw [hu1] at this
  exact this.2 0 _ _ rfl rfl
 refine ⟨_, _, ?_, gets_vec hr (l := List.replicate n z) (us := List.replicate n u) ?_ e (.inl V) (Nat.le_refl n) hn h⟩
 ·simp only [execOp, ho, Sem.run_bind, e1, e2]
  simp [hrun]
 ·refine ⟨by simp, fun j y w' hy hw => ?_⟩
  rw [List.eq_of_mem_replicate (zW hy), List.eq_of_mem_replicate (zW hw)]
  exact hzu
theorem op_indexAddr_vec {t e : TypeId} {x y : Operand} {id off sz n c i : Nat} {k : IntKind} {m : Int} (ho : o.op = .indexAddr t x y) (hu : P.underlying t = some (.slice e)) (hs : szOf P e = some sz) (hx : evo env x = some (.vec id off sz n c)) (hy : evo env y = some (.int k m)) (hm : m = (i : Int)) (hi : i < n) (h : K (.ref id (off + i * sz)) σ) : OpWp P rd o env σ K := by
 refine OpWp.of_run (by simp [ho]) fun g w a hr hop => ?_
 subst hm
 obtain ⟨b, hb, h1, h2, hv⟩ := (hop x (by simp [ho, Op.operands]) _ hx).inv_vec
 have hv2 := (hop y (by simp [ho, Op.operands]) _ hy).inv_int
 refine ⟨.pointer (some ⟨b, off + i * sz, none⟩), w, ?_, .same h hr (.ref _ _ _ hb)⟩
 simp [execOp, ho, Instr.indexAt, hv, hv2, asIntOf, run_underlying hu, hi, zO5 hs, zB4]
theorem op_len_vec {x : Operand} {id off sz n c : Nat} {t e : TypeId} (ho : o.op = .call { callee := .builtin .len, args := #[x], argTypes := #[t] }) (hu : P.underlying t = some (.slice e)) (hx : evo env x = some (.vec id off sz n c)) (h : K (.int .i64 (n : Int)) σ) : OpWp P rd o env σ K := by
 refine OpWp.of_run (by simp [ho]) fun g w a hr hop => ?_
 obtain ⟨b, hb, h1, h2, hv⟩ := (hop x (by simp [ho, Op.operands, Call.operands]) _ hx).inv_vec
 refine ⟨.int .i64 n, w, ?_, .same h hr (.int _ _)⟩
 simp [execOp, ho, resolve, invoke, builtin, Builtin.len_, run_underlying hu, hv, goInt]
theorem op_conv_vec {t t' e : TypeId} {x : Operand} {id off c : Nat} {xs : List MV} {l : Bs} (ho : o.op = .convert t t' x) (hs : P.underlying t = some (.slice e)) (he : P.underlying e = some (.int .u8)) (ht : P.underlying t' = some .string)
  (hx : evo env x = some (.vec id off 1 l.length c)) (hσ : σ[id]? = some (.cells xs)) (hxs : (xs.drop off).take l.length = l.map encY) (h : K (.str (bs l)) σ) : OpWp P rd o env σ K := by
 refine OpWp.of_run (by simp [ho]) fun g w a hr hop => ⟨.string (bs l), w, ?_, .same h hr (.str _)⟩
 obtain ⟨b, hb, h1, h2, hv⟩ := (hop x (by simp [ho, Op.operands]) _ hx).inv_vec
 obtain ⟨own, hown⟩ := hr.ex
 obtain ⟨b', us, ty, e1, e2, e3, ⟨fr, e4, _⟩, e5⟩ := hown.obj _ _ hσ
 rw [hb] at e2
 injection e2 with e2
 subst e2
 have hrd := (e5.drop off).take l.length
 rw [hxs] at hrd
 have hus := us_bytes hrd
 have hrun := run_convert_bytes_back (P := P) w t t' e ⟨b, off, none⟩ c l hs he ht (fun j hj => by
  refine cells_at e4 off j ?_
  have : ((us.drop off).take l.length)[j]? = some (.int .u8 (l[j].toNat : Int)) := by
   rw [hus]
   simp [hj]
  rw [List.getElem?_take, if_pos hj] at this
  exact this)
 simp only [execOp, ho, hv, Sem.run_bind, hrun]
 rfl
end
theorem Rel.freeze {g : Gh} {σ : MS} {w : World} (h : Rel g σ w) {id b k : Nat} {l : List MV} (hσ : σ[id]? = some (.cells l)) (hb : g.bk id = some b) (hk : k ≤ l.length) :
  Rel (g.stab b k) (σ.set id .gone) w ∧ Le g w (g.stab b k) w := by
 obtain ⟨own, hown⟩ := h.ex
 obtain ⟨b', us, ty, e1, e2, e3, ⟨fr, e4, _⟩, e5⟩ := hown.obj _ _ hσ
 rw [hb] at e2
 injection e2 with e2
 subst e2
 have hle : Le g w (g.stab b k) w := by
  refine ⟨⟨rfl, rfl, fun c i hi => ⟨?_, rfl⟩, fun _ _ h => h, fun _ _ _ h => h, Nat.le_refl _⟩, fun _ _ h => h⟩
  simp only [Gh.stab]
  split
  ·rename_i e; subst e; omega
  ·exact hi
 have hg := h.gone id
 refine ⟨⟨h.below, h.base, fun c hc => ?_, fun i hi => h.bkn i (by simpa using hi), fun t n ht => h.lgn t n (by simpa using ht), ?_⟩, hle⟩
 ·simp only [Gh.stab]
  split
  ·rename_i e
   subst e
   have := (hown.lt id c e1).2.2
   omega
  ·exact h.fresh c hc
 ·refine ⟨fun i => if i = id then none else own i, ⟨fun i ob hi => ?_, fun i j c hi hj => ?_, fun i c hi => ?_⟩⟩
  ·by_cases e : i = id
   ·subst e
    rw [List.getElem?_set, if_pos rfl] at hi
    split at hi
    ·injection hi with hi
     subst hi
     simp [ObjRel]
    ·cases hi
   ·rw [if_neg e]
    rw [List.getElem?_set_ne (fun h => e h.symm)] at hi
    refine (hown.obj i ob hi).keep0 hle.toLe0 (fun c hc => ⟨rfl, ?_⟩) (fun _ => V)
    simp only [Gh.stab]
    rw [if_neg]
    intro ec
    subst ec
    exact e (hown.inj _ _ _ hc e1)
  ·split at hi
   ·cases hi
   ·split at hj
    ·cases hj
    ·exact hown.inj i j c hi hj
  ·split at hi
   ·cases hi
   ·obtain ⟨h1, h2⟩ := hown.lt i c hi
    exact ⟨by simpa using h1, h2⟩
section
variable {P : Program} {rd : Option Nat} {N n : Nat} {c : Code} {Q : Exit → Env → MS → Prop} {env : Env} {S L : MS}
end
end
section
theorem Rel.obj_set {g g' : Gh} {σ : MS} {w w' : World} (h : Rel g σ w) {t : Nat} {mo : MObj} (htl : t < σ.length) {own : Nat → Option Nat} (ho : Owns g σ w own) (hl : Le g w g' w') (hb : Below g.B g.w0 w') (hfr : ∀ b, w'.heap.size ≤ b → g'.st b = 0) (hbk : g'.bk = g.bk)
  (hlg : ∀ id k, id ≠ t → g'.lg id k = g.lg id k) (hst : ∀ id b, id ≠ t → own id = some b → w'.heap[b]? = w.heap[b]? ∧ g'.st b = g.st b) {ob : Option Nat} (hob : ObjRel g' w' ob t mo) (hne : ∀ id b, id ≠ t → own id = some b → ob ≠ some b) (hblt : ∀ b, ob = some b → g.B ≤ b ∧ b < w'.heap.size) :
  Rel g' (σ.set t mo) w' := by
 refine ⟨by rw [hl.B, hl.w0]; exact hb, by rw [hl.B, hl.w0]; exact h.base, hfr, fun id hid => by rw [hbk]; exact h.bkn id (by simpa using hid), fun s k hs => by rw [hlg s k (by simp at hs; omega)]; exact h.lgn s k (by simpa using hs), fun id => if id = t then ob else own id, ⟨fun id o hid => ?_, fun i j b hi hj => ?_, fun id b hid => ?_⟩⟩
 ·by_cases e : id = t
  ·subst e
   simp only [if_true]
   rw [List.getElem?_set_self htl] at hid
   injection hid with hid
   subst hid
   exact hob
  ·rw [if_neg e]
   rw [List.getElem?_set_ne (fun h => e h.symm)] at hid
   exact (ho.obj id o hid).keep0 hl.toLe0 (fun b hb => hst id b e hb) fun k => hlg id k e
 ·by_cases ei : i = t
  ·by_cases ej : j = t
   ·omega
   ·simp only [ei, if_true] at hi
    simp only [ej, if_false] at hj
    exact absurd hi (hne j b ej hj)
  ·by_cases ej : j = t
   ·simp only [ej, if_true] at hj
    simp only [ei, if_false] at hi
    exact absurd hj (hne i b ei hi)
   ·simp only [ei, ej, if_false] at hi hj
    exact ho.inj i j b hi hj
 ·by_cases e : id = t
  ·subst e
   simp only [if_true] at hid
   obtain ⟨h1, h2⟩ := hblt b hid
   exact ⟨by simpa using htl, by rw [hl.B]; exact h1, h2⟩
  ·simp only [e, if_false] at hid
   obtain ⟨h1, h2, h3⟩ := ho.lt id b hid
   exact ⟨by simpa using h1, by rw [hl.B]; exact h2, Nat.lt_of_lt_of_le h3 hl.size⟩
section
variable {P : Program} {rd : Option Nat} {o : Oper} {env : Env} {σ : MS} {K : MV → MS → Prop}
theorem gets_append_ow {g : Gh} {w : World} (hr : Rel g σ w) {tt ty' e sz bytes t n : Nat} {l : List MV} (hu : P.underlying tt = some (.slice e)) (he : elemOk P e sz bytes = true) (hσ : σ[t]? = some (.orow e sz n l)) {ys : List MV} {tok : Option Nat} {v vy : Value} (hx : Rd g w (.ow t sz n) v)
  (hy : Rd g w (.lst tok sz ys) vy) (hbound : (n + ys.length) * bytes ≤ 140737488355328) (hml : n + ys.length ≤ 4611686018427387904) (hK : K (.ow t sz (n + ys.length)) (σ.set t (.orow e sz (n + ys.length) (l ++ flat ys)))) :
  ∃ v' w', (Builtin.append_ #[tt, tt] ty' #[v, vy]).run P w = .ok v' w' ∧ Gets g w K v' w' := by
 obtain ⟨i, z, hi, hz, hs, hb, hzs, hpos⟩ := elemOk_spec he
 have hlv := hx.inv_ow
 obtain ⟨a', c', us', hvy, k1, k2, k3, k4, k5, _⟩ := hy.inv_lst
 have hsmall : n + ys.length ≤ maxLen := by simp only [maxLen]; omega
 have hlen' : us'.length = ys.length * i.size := by rw [hs, k4.1, zA6 k3]
 obtain ⟨own, ho⟩ := hr.ex
 obtain ⟨v0, us, f1, f2, f3, f4, f5, f6⟩ := ho.obj t _ hσ
 have hvv : v0 = v := by
  rw [hlv] at f1
  injection f1 with f1
  exact f1.symm
 subst hvv
 have htl : t < σ.length := (zD.1 hσ).1
 have hlen : us.length = n * i.size := by rw [hs]; exact f2.1
 by_cases hm : ys = []
 ·subst hm
  simp only [List.length_nil, Nat.add_zero, flat_nil, List.append_nil] at hK
  rw [set_self hσ] at hK
  refine ⟨v0, w, ?_, .same hK hr hx⟩
  subst hvy
  have e0 : ∀ ad : Addr, (loadCells ad 0).run P w = .ok #[] w := fun ad => rfl
  rcases f2.2 with ⟨rfl, rfl⟩ | ⟨b, cap, cur, rfl, _, _, hnc, _⟩
  ·cases a' <;> simp [Builtin.append_, run_underlying hu, sizeOf, typeInfo, hi, Builtin.lenOf, Builtin.firstCells, e0]
  ·cases a' <;> simp [Builtin.append_, run_underlying hu, sizeOf, typeInfo, hi, Builtin.lenOf, Builtin.firstCells, hnc, e0, storeCells]
 have hmpos : 0 < ys.length := List.length_pos_iff.2 hm
 have hp' : 0 < us'.length := by rw [hlen', hs]; exact Nat.mul_pos hmpos hpos
 obtain ⟨ad', rfl, _⟩ := k5 0 us'[0] (zC hp')
 have hnews : ∀ (j : Nat) (u : Value), us'[j]? = some u → w.cell? (ad'.add j) = some u := fun j u hj => by
  obtain ⟨ad2, e2, hst⟩ := k5 j u hj
  injection e2 with e2
  subst e2
  exact hst.2.1
 have hone : ∀ u ∈ us', u.oneCell' = true := fun u hmem => by
  obtain ⟨j, hj⟩ := List.getElem?_of_mem hmem
  obtain ⟨_, _, hst⟩ := k5 j u hj
  exact hst.2.2
 have fresh_case : ∀ (cap : Nat) (rest : Array Value), n + ys.length ≤ cap → cap ≤ maxLen → rest.size = (cap - (n + ys.length)) * sz →
   Gets g w K (.slice (some ⟨w.heap.size, 0, none⟩) (n + ys.length) cap) (w.drew.alloc (.cells (us.toArray ++ us'.toArray ++ rest) e)) := by
  intro cap rest hcap hcm hrest
  have harr : us.toArray ++ us'.toArray ++ rest = (us ++ us' ++ rest.toList).toArray := by
   apply Array.ext'
   simp
  rw [harr]
  have hr1 := hr.drew
  have l1 := Le.drew g w
  have l2 := Le.alloc_stab hr1 (.cells (us ++ us' ++ rest.toList).toArray e) 0
  have r2 := hr1.alloc_stab (.cells (us ++ us' ++ rest.toList).toArray e) 0
  generalize hg1 : g.stab w.drew.heap.size 0 = g1 at l2 r2
  generalize hw1 : w.drew.alloc (.cells (us ++ us' ++ rest.toList).toArray e) = w1 at l2 r2
  have ho1 : Owns g1 σ w1 own := by
   refine ho.keep (l1.trans l2) (fun id b e => ?_) (fun _ _ => by rw [← hg1]; rfl)
   have hlt := (ho.lt id b e).2.2
   rw [← hg1, ← hw1]
   refine ⟨Below.heap_alloc w.drew _ b hlt, ?_⟩
   simp only [Gh.stab]
   exact if_neg (Nat.ne_of_lt hlt)
  have l3 : Le g1 w1 (g1.log t (n + ys.length) (.slice (some ⟨w.heap.size, 0, none⟩) (n + ys.length) cap)) w1 := by
   refine ⟨⟨rfl, rfl, fun _ _ h => ⟨h, rfl⟩, fun _ _ h => h, fun s k u hv => ?_, Nat.le_refl _⟩, fun _ _ h => h⟩
   simp only [Gh.log]
   rw [if_neg]
   ·exact hv
   ·rintro ⟨rfl, rfl⟩
    have : g1.lg s (n + ys.length) = g.lg s (n + ys.length) := by rw [← hg1]; rfl
    rw [this, f5 _ (by omega)] at hv
    cases hv
  have hheap : w1.heap[w.heap.size]? = some (.cells (us ++ us' ++ rest.toList).toArray e (0, 0)) := by rw [← hw1]; exact heap_new w.drew _
  have hsz : w1.heap.size = w.heap.size + 1 := by rw [← hw1]; simp
  have hcurlen : (us ++ us' ++ rest.toList).length = cap * sz := by
   simp only [zG, hlen, hlen', hs, Array.length_toList, hrest]
   rw [← Nat.add_mul, ← Nat.add_mul]
   congr 1
   omega
  have hlall : (us ++ us').length = (n + ys.length) * sz := by rw [zG, hlen, hlen', hs, Nat.add_mul]
  have lall := l1.trans (l2.trans l3)
  refine ⟨_, _, g1.log t (n + ys.length) (.slice (some ⟨w.heap.size, 0, none⟩) (n + ys.length) cap), hK, ?_, ?_, lall⟩
  ·refine Rel.obj_set r2 htl ho1 l3 r2.below r2.fresh V (fun id k hid => ?_) (fun id b hid hb => Vv) (ob := some w.heap.size) ?_ (fun id b hid hb e => ?_) (fun b hb => ?_)
   ·simp only [Gh.log]; rw [if_neg (fun h => hid h.1)]
   ·refine ⟨.slice (some ⟨w.heap.size, 0, none⟩) (n + ys.length) cap, us ++ us', by simp [Gh.log], ?_, rfl, fun b hb => ?_, fun k hk => ?_, (f6.mono lall).append (k4.mono lall)⟩
    ·refine ⟨hlall, .inr ⟨w.heap.size, cap, _, rfl, ?_, hheap, hcap, hcm, by simpa using hcurlen, ?_⟩⟩
     ·have : (g1.log t (n + ys.length) (.slice (some ⟨w.heap.size, 0, none⟩) (n + ys.length) cap)).B = g.B := lall.B
      rw [this]
      exact hr.size
     ·rw [← hlall]
      exact List.take_left
    ·injection hb with hb
     subst hb
     rw [← hg1]
     simp only [Gh.log, Gh.stab]
     exact if_pos rfl
    ·simp only [Gh.log]
     rw [if_neg (by omega), ← hg1]
     exact f5 k (by omega)
   ·have := (ho.lt id b hb).2.2
    injection e with e
    omega
   ·injection hb with hb
    subst hb
    refine ⟨?_, by omega⟩
    rw [← hg1]
    exact hr.size
  ·exact .ow _ _ _ _ (by simp [Gh.log]) rfl rfl
 rcases f2.2 with ⟨hv0, hn0⟩ | ⟨b, cap, cur, hv0, hbB, hheap, hnc, hcm, hcs, htake⟩
 ·
  subst hv0
  have hus : us = [] := List.eq_nil_of_length_eq_zero (by rw [hlen, hn0]; simp)
  have hrun := run_append_nil (P := P) w tt ty' e i z hu hi hz ad' ys.length c' us' hlen' hnews hmpos (by omega) (by rw [hb]; rw [hn0] at hbound; simp only [Nat.zero_add] at hbound; omega)
  have hfc := fresh_case (grownCap w ys.length 0 e) (Builtin.zeroCells z.cells (grownCap w ys.length 0 e - ys.length)) (by rw [hn0, Nat.zero_add]; exact grownCap_ge w _ _ _) (grownCap_le_maxLen w _ _ _ (by rw [hn0] at hsmall; omega)) (by rw [size_zeroCells, hzs, hn0]; simp)
  rw [hus, hn0] at hfc
  simp only [Nat.zero_add, Array.empty_append] at hfc
  exact ⟨_, _, by rw [hvy]; exact hrun, hfc⟩
 ·subst hv0
  have holds' : ∀ (j : Nat) (u : Value), us[j]? = some u → w.cell? ((⟨b, 0, none⟩ : Addr).add j) = some u := fun j u hj => by
   have hjl : j < n * sz := by rw [← hs, ← hlen]; exact (zD.1 hj).1
   rw [zB4]
   simp only [World.cell?, hheap, Nat.zero_add, Option.isSome_none, Bool.false_eq_true, if_false]
   rw [← htake, List.getElem?_take, if_pos hjl] at hj
   simpa using hj
  by_cases hroom : n + ys.length ≤ cap
  ·
   have hfit : n * i.size + us'.length ≤ cur.size := by rw [hlen', hcs, hs, ← Nat.add_mul]; exact Nat.mul_le_mul_right _ hroom
   have hrun := run_append_room (P := P) w tt ty' e i hu hi b n cap cur hheap ad' ys.length c' us' hlen' hnews hone hroom hfit
   generalize hnc' : (cur.toList.take (n * i.size) ++ us' ++ cur.toList.drop (n * i.size + us'.length)).toArray = ncur at hrun
   have hob : own t = some b := by rw [← f3]; rfl
   have hstb : g.st b = 0 := f4 b hob
   have hbl := ho.lt t b hob
   have hheap' : (w.setRow b ncur).heap[b]? = some (.cells ncur e (0, 0)) := setRow_heap w b cur ncur e _ hheap
   have hother : ∀ k, k ≠ b → (w.setRow b ncur).heap[k]? = w.heap[k]? := fun k hk => setRow_other w b k ncur hk
   have hncur : ncur.toList = us ++ us' ++ cur.toList.drop ((n + ys.length) * sz) := by
    rw [← hnc', hs, htake, hlen', hs, ← Nat.add_mul]
   have hlall : (us ++ us').length = (n + ys.length) * sz := by rw [zG, hlen, hlen', hs, Nat.add_mul]
   let g1 : Gh := g.log t (n + ys.length) (.slice (some ⟨b, 0, none⟩) (n + ys.length) cap)
   have hl : Le g w g1 (w.setRow b ncur) := by
    refine ⟨⟨rfl, rfl, fun k j hj => ?_, fun _ _ h => h, fun s k u hu => ?_, by simp⟩, fun k x hxk => ?_⟩
    ·by_cases ek : k = b
     ·rw [ek, hstb] at hj
      exact absurd hj (Nat.not_lt_zero _)
     ·exact ⟨hj, World.cell?_of_block (w := w) (a := ⟨k, j, none⟩) (hother k ek)⟩
    ·show (if s = t ∧ k = n + ys.length then _ else g.lg s k) = _
     rw [if_neg]
     ·exact hu
     ·rintro ⟨rfl, rfl⟩
      rw [f5 _ (by omega)] at hu
      cases hu
    ·have : k ≠ b := fun e => by rw [e, hheap] at hxk; cases hxk
     exact (hother k this).trans hxk
   refine ⟨_, _, by rw [hvy]; exact hrun, _, _, g1, hK, ?_, ?_, hl⟩
   ·refine Rel.obj_set hr htl ho hl (hr.below.trans ⟨rfl, rfl, rfl, by simp, fun k hk => hother k (by omega)⟩) (fun k hk => ?_) V (fun id k hid => ?_) (fun id k hid hk => ?_) (ob := some b) ?_ (fun id k hid hk e => ?_) (fun k hk => ?_)
    ·simp only [setRow_size] at hk
     exact hr.fresh k hk
    ·show (if id = t ∧ k = n + ys.length then _ else g.lg id k) = _
     rw [if_neg (fun h => hid h.1)]
    ·have hkb : k ≠ b := fun e => by subst e; exact hid (ho.inj _ _ _ hk hob)
     exact ⟨hother k hkb, rfl⟩
    ·refine ⟨.slice (some ⟨b, 0, none⟩) (n + ys.length) cap, us ++ us', ?_, ⟨hlall, .inr ⟨b, cap, ncur, rfl, hbB, hheap', hroom, hcm, ?_, ?_⟩⟩, rfl, fun k hk => ?_, fun k hk => ?_, (f6.mono hl).append (k4.mono hl)⟩
     ·show (if t = t ∧ n + ys.length = n + ys.length then _ else _) = _
      rw [if_pos ⟨rfl, rfl⟩]
     ·have hcl : cur.toList.length = cap * sz := by rw [Array.length_toList, hcs]
      have : (n + ys.length) * sz ≤ cap * sz := Nat.mul_le_mul_right _ hroom
      rw [← Array.length_toList, hncur, zG, hlall, List.length_drop, hcl]
      omega
     ·rw [hncur, ← hlall, zN, ← zN us us']
      exact List.take_left
     ·injection hk with hk
      subst hk
      exact hstb
     ·show (if t = t ∧ k = n + ys.length then _ else g.lg t k) = none
      rw [if_neg (by omega)]
      exact f5 k (by omega)
    ·injection e with e
     subst e
     exact hid (ho.inj _ _ _ hk hob)
    ·injection hk with hk
     subst hk
     exact ⟨hbl.2.1, by simpa using hbl.2.2⟩
   ·refine .ow _ _ _ _ ?_ rfl V
    show (if t = t ∧ n + ys.length = n + ys.length then _ else _) = _
    rw [if_pos ⟨rfl, rfl⟩]
  ·
   have hrun := run_append_grow (P := P) w tt ty' e i z hu hi hz ⟨b, 0, none⟩ n cap us hlen holds' ad' ys.length c' us' hlen' hnews (by omega) (by omega) (growslice_fits (by omega) (by rw [hb]; exact hbound))
   exact ⟨_, _, by rw [hvy]; exact hrun, fresh_case _ _ (grownCap_ge w _ _ _) (grownCap_le_maxLen w _ _ _ hsmall) (by rw [size_zeroCells, hzs])⟩
theorem op_append_ow {t e sz bytes id n : Nat} {x y : Operand} {tok : Option Nat} {l ys : List MV} (ho : o.op = .call { callee := .builtin .append, args := #[x, y], argTypes := #[t, t] }) (hu : P.underlying t = some (.slice e)) (he : elemOk P e sz bytes = true)
  (hx : evo env x = some (.ow id sz n)) (hy : evo env y = some (.lst tok sz ys)) (hσ : σ[id]? = some (.orow e sz n l)) (hb : (n + ys.length) * bytes ≤ 140737488355328) (hml : n + ys.length ≤ 4611686018427387904)
  (hK : K (.ow id sz (n + ys.length)) (σ.set id (.orow e sz (n + ys.length) (l ++ flat ys)))) : OpWp P rd o env σ K := by
 refine OpWp.of_run (by simp [ho]) fun g w a hr hop => ?_
 obtain ⟨v', w', hrun, hg⟩ := gets_append_ow (ty' := o.type) hr hu he hσ (hop x (by simp [ho, Op.operands, Call.operands]) _ hx) (hop y (by simp [ho, Op.operands, Call.operands]) _ hy) hb hml hK
 refine ⟨v', w', ?_, hg⟩
 simp [execOp, ho, resolve, invoke, builtin, hrun]
theorem ow_new {g : Gh} {σ : MS} {w : World} (h : Rel g σ w) (ty sz : Nat) : Rel (g.log σ.length 0 (.slice none 0 0)) (σ ++ [.orow ty sz 0 []]) w ∧ Le g w (g.log σ.length 0 (.slice none 0 0)) w ∧ Rd (g.log σ.length 0 (.slice none 0 0)) w (.ow σ.length sz 0) (.slice none 0 0) := by
 obtain ⟨r1, l1, d1⟩ := tok_new h ty sz
 refine ⟨?_, l1, .ow _ _ _ _ (by simp [Gh.log]) V rfl⟩
 obtain ⟨own, hown⟩ := r1.ex
 obtain ⟨v, us, e1, e2, e3, e4, e5⟩ := hown.obj σ.length (.row ty sz 0) (by simp)
 have hv : v = .slice none 0 0 := by
  simp [Gh.log] at e1
  exact e1.symm
 subst hv
 have hno : own σ.length = none := e3.symm
 have hus : us = [] := List.eq_nil_of_length_eq_zero (by rw [e2.1]; simp)
 subst hus
 have := Rel.obj_set r1 (t := σ.length) (mo := .orow ty sz 0 []) (by simp) hown (Le.refl _ _) r1.below r1.fresh rfl (fun _ _ _ => rfl) (fun _ _ _ _ => ⟨rfl, rfl⟩) (ob := none) ⟨_, [], e1, e2, rfl, fun b hb => (by cases hb), e5, .nil _ _⟩ (fun _ _ _ _ e => by cases e) (fun b hb => by cases hb)
 simpa using this
theorem op_indexAddr_ow {t e : TypeId} {x y : Operand} {id sz n i : Nat} {k : IntKind} {m : Int} {l : List MV} (ho : o.op = .indexAddr t x y) (hu : P.underlying t = some (.slice e)) (hs : szOf P e = some sz) (hx : evo env x = some (.ow id sz n)) (hy : evo env y = some (.int k m)) (hm : m = (i : Int)) (hi : i < n)
  (hσ : σ[id]? = some (.orow e sz n l)) (h : K (.orf id n (i * sz)) σ) : OpWp P rd o env σ K := by
 subst hm
 refine OpWp.of_run (by simp [ho]) fun g w a hr hop => ?_
 have hlv := (hop x (by simp [ho, Op.operands]) _ hx).inv_ow
 have e2 := (hop y (by simp [ho, Op.operands]) _ hy).inv_int
 obtain ⟨own, hown⟩ := hr.ex
 obtain ⟨v0, us, f1, f2, _⟩ := hown.obj id _ hσ
 rw [hlv] at f1
 injection f1 with f1
 rcases f2.2 with ⟨_, h0⟩ | ⟨b, cap, cur, hv0, _⟩
 ·omega
 ·rw [hv0] at f1
  rw [f1] at hlv
  refine ⟨_, w, ?_, .same h hr (.orf _ _ _ b cap hlv)⟩
  simp [execOp, ho, Instr.indexAt, f1, e2, asIntOf, run_underlying hu, hi, zO5 hs, zB4]
theorem op_len_ow {x : Operand} {id sz n : Nat} {t e : TypeId} {l : List MV} (ho : o.op = .call { callee := .builtin .len, args := #[x], argTypes := #[t] }) (hu : P.underlying t = some (.slice e)) (hx : evo env x = some (.ow id sz n)) (hσ : σ[id]? = some (.orow e sz n l)) (h : K (.int .i64 (n : Int)) σ) : OpWp P rd o env σ K := by
 refine OpWp.of_run (by simp [ho]) fun g w a hr hop => ?_
 have hlv := (hop x (by simp [ho, Op.operands, Call.operands]) _ hx).inv_ow
 obtain ⟨own, hown⟩ := hr.ex
 obtain ⟨v0, us, f1, f2, _⟩ := hown.obj id _ hσ
 rw [hlv] at f1
 injection f1 with f1
 rcases f2.2 with ⟨hv0, h0⟩ | ⟨b, cap, cur, hv0, _⟩
 ·rw [hv0] at f1
  subst h0
  refine ⟨_, w, ?_, .same h hr (.int _ _)⟩
  simp [execOp, ho, resolve, invoke, builtin, f1, Builtin.len_, run_underlying hu, goInt]
 ·rw [hv0] at f1
  refine ⟨_, w, ?_, .same h hr (.int _ _)⟩
  simp [execOp, ho, resolve, invoke, builtin, f1, Builtin.len_, run_underlying hu, goInt]
theorem op_load_orf {t ty : TypeId} {x : Operand} {id sz n off : Nat} {l : List MV} {ta : Option Nat} {m : MV} (ho : o.op = .load t x) (hx : evo env x = some (.orf id n off)) (hσ : σ[id]? = some (.orow ty sz n l)) (ht : tyAgg P t = some ta) (hm : loadMV ta l off = some m) (h : K m σ) : OpWp P rd o env σ K := by
 refine OpWp.of_run (by simp [ho]) fun g w a hr hop => ?_
 obtain ⟨b, c, hlv, e⟩ := (hop x (by simp [ho, Op.operands]) _ hx).inv_orf
 obtain ⟨own, hown⟩ := hr.ex
 obtain ⟨v0, us, f1, f2, f3, f4, f5, f6⟩ := hown.obj id _ hσ
 rw [hlv] at f1
 injection f1 with f1
 subst f1
 rcases f2.2 with ⟨hv0, _⟩ | ⟨b', cap, cur, hv0, hbB, hheap, hnc, hcm, hcs, htake⟩
 ·cases hv0
 ·injection hv0 with e1 e2 e3
  injection e1 with e1
  injection e1 with e1
  subst e1
  obtain ⟨v, hrun, hrd⟩ := zR6 (P := P) ht (f6.drop off) (ad := ⟨b, off, none⟩) (w := w) (fun j u hj => by
   rw [List.getElem?_drop] at hj
   have hjl : off + j < n * sz := by rw [← f2.1]; exact (zD.1 hj).1
   rw [zB4]
   simp only [World.cell?, hheap, Option.isSome_none, Bool.false_eq_true, if_false]
   rw [← htake, List.getElem?_take, if_pos hjl] at hj
   simpa using hj) (loadMV_drop hm)
  refine ⟨v, w, ?_, .same h hr hrd⟩
  simp [execOp, ho, e, Instr.loadAt, Instr.sureAddr, hrun]
theorem _root_.zD6 : type_of% @op_load_orf := @op_load_orf
theorem op_store_orf {t ty : TypeId} {x y : Operand} {id sz n off : Nat} {l : List MV} {m : MV} {k : Nat} (ho : o.op = .store t x y) (hx : evo env x = some (.orf id n off)) (hy : evo env y = some m) (hσ : σ[id]? = some (.orow ty sz n l)) (hk : szOf P t = some k) (hm : m.cells.length = k)
  (h1 : m.cells.all MV.one = true) (hle : off + k ≤ l.length) (h : K (.tup []) (σ.set id (.orow ty sz n (setMany l off m.cells)))) : OpWp P rd o env σ K := by
 refine OpWp.of_skip (by simp [ho]) fun g w a hr hop => ?_
 obtain ⟨b, c, hlv, e⟩ := (hop x (by simp [ho, Op.operands]) _ hx).inv_orf
 have hrd := hop y (by simp [ho, Op.operands]) _ hy
 obtain ⟨us, hus, hrds⟩ := zW6 hrd
 obtain ⟨own, hown⟩ := hr.ex
 obtain ⟨v0, old, f1, f2, f3, f4, f5, f6⟩ := hown.obj id _ hσ
 rw [hlv] at f1
 injection f1 with f1
 subst f1
 have htl : id < σ.length := (zD.1 hσ).1
 rcases f2.2 with ⟨hv0, _⟩ | ⟨b', cap, cur, hv0, hbB, hheap, hnc, hcm, hcs, htake⟩
 ·cases hv0
 injection hv0 with e1 e2 e3
 injection e1 with e1
 injection e1 with e1
 subst e1
 have hlen : us.length = k := by rw [hrds.1, hm]
 have hold : old.length = l.length := f6.1
 have hone : ∀ v ∈ us, v.oneCell' = true := by
  intro v hv
  obtain ⟨j, hj⟩ := List.getElem?_of_mem hv
  have hjl : j < m.cells.length := by rw [hm, ← hlen]; exact (zD.1 hj).1
  have := hrds.2 j _ v (zC hjl) hj
  rw [List.all_eq_true] at h1
  exact one_cell this (h1 _ (List.getElem_mem hjl))
 have hsz : n * sz ≤ cur.size := by rw [hcs]; exact Nat.mul_le_mul_right _ hnc
 have hon : old.length = n * sz := f2.1
 have hcure : cur.toList = old ++ cur.toList.drop (n * sz) := by rw [← htake]; exact (List.take_append_drop _ _).symm
 have hrun := zX6 P b off ty (0, 0) us 0 cur w hheap (.inl rfl) (by rw [hlen]; simp; omega) hone
 have hst : (storeVar t ⟨b, off, none⟩ (a.eval y)).run P w = (storeCells ⟨b, off, none⟩ us).run P w := by
  have hsz' : (a.eval y).cells.size = k := by rw [hus]; simpa using hlen
  simp [storeVar, zO5 hk, hsz', hus, hlen]
 generalize hnc' : (cur.toList.take (off + 0) ++ us ++ cur.toList.drop (off + 0 + us.length)).toArray = ncur at hrun
 have hob : own id = some b := by rw [← f3]; rfl
 have hstb : g.st b = 0 := f4 b hob
 have hbl := hown.lt id b hob
 have hheap' : (w.setRow b ncur).heap[b]? = some (.cells ncur ty (0, 0)) := setRow_heap w b cur ncur ty _ hheap
 have hother : ∀ k, k ≠ b → (w.setRow b ncur).heap[k]? = w.heap[k]? := fun k hk => setRow_other w b k ncur hk
 have hncur : ncur.toList = (old.take off ++ us ++ old.drop (off + us.length)) ++ cur.toList.drop (n * sz) := by
  rw [← hnc', Nat.add_zero]
  show cur.toList.take off ++ us ++ cur.toList.drop (off + us.length) = _
  rw [hcure, List.take_append_of_le_length (by omega), List.drop_append_of_le_length (by omega), ← hcure, zN, zN, zN]
 have hl : Le g w g (w.setRow b ncur) := by
  refine ⟨⟨rfl, rfl, fun k j hj => ?_, fun _ _ h => h, fun s k u hu => hu, by simp⟩, fun k x hxk => ?_⟩
  ·by_cases ek : k = b
   ·rw [ek, hstb] at hj
    exact absurd hj (Nat.not_lt_zero _)
   ·exact ⟨hj, World.cell?_of_block (w := w) (a := ⟨k, j, none⟩) (hother k ek)⟩
  ·have : k ≠ b := fun e => by rw [e, hheap] at hxk; cases hxk
   exact (hother k this).trans hxk
 have hnl : (old.take off ++ us ++ old.drop (off + us.length)).length = n * sz := by simp; omega
 refine ⟨w.setRow b ncur, ?_, .tup [], _, g, h, ?_, rd_undef _ _, hl⟩
 ·simp only [execOp, ho, e, Instr.storeAt, Instr.sureAddr, Sem.run_bind, Sem.run_pure, Result.andThen_ok, hst, hrun]
 ·refine Rel.obj_set hr htl hown hl (hr.below.trans ⟨rfl, rfl, rfl, by simp, fun k hk => hother k (by omega)⟩) (fun k hk => ?_) V (fun _ _ _ => V) (fun i k hid hk => ?_) (ob := some b) ?_ (fun i k hid hk e => ?_) (fun k hk => ?_)
  ·simp only [setRow_size] at hk
   exact hr.fresh k hk
  ·have hkb : k ≠ b := fun e => by subst e; exact hid (hown.inj _ _ _ hk hob)
   exact ⟨hother k hkb, rfl⟩
  ·refine ⟨_, old.take off ++ us ++ old.drop (off + us.length), hlv, ⟨hnl, .inr ⟨b, cap, ncur, by rw [e3], hbB, hheap', hnc, hcm, ?_, ?_⟩⟩, rfl, fun k hk => ?_, f5, ?_⟩
   ·rw [← Array.length_toList, hncur, zG, hnl, List.length_drop, Array.length_toList, hcs]
    rw [hcs] at hsz
    omega
   ·rw [hncur, ← hnl]
    exact List.take_left
   ·injection hk with hk
    subst hk
    exact hstb
   ·unfold setMany
    rw [hm, ← hlen]
    exact (((f6.mono hl).take off).append (hrds.mono hl)).append ((f6.mono hl).drop _)
  ·injection e with e
   subst e
   exact hid (hown.inj _ _ _ hk hob)
  ·injection hk with hk
   subst hk
   exact ⟨hbl.2.1, by simpa using hbl.2.2⟩
end
end
end Go.MV
namespace Go.MV
open Go Go.RowKit Go.MapKept
section
abbrev ME := ByteArray × MV × Nat
def mpIdx (s : ByteArray) : List ME → Option Nat
 | [] => none
 | e :: es => if e.1 = s then some 0 else (mpIdx s es).map (· + 1)
def mpLook (s : ByteArray) : List ME → Option MV
 | [] => none
 | e :: es => if e.1 = s then some e.2.1 else mpLook s es
def mpPut (clk : Nat) (s : ByteArray) (v : MV) (es : List ME) : List ME := match mpIdx s es with
 | some i => es.modify i fun e => (e.1, v, e.2.2)
 | none => es ++ [(s, v, clk)]
def mpClk (clk : Nat) (s : ByteArray) (es : List ME) : Nat := match mpIdx s es with
 | some _ => clk
 | none => clk + 1
theorem mpIdx_some {s : ByteArray} : ∀ {es : List ME} {i : Nat}, mpIdx s es = some i → ∃ v n, es[i]? = some (s, v, n) ∧ mpLook s es = some v
 | [], i, h => by cases h
 | (k, v, n) :: es, i, h => by
  simp only [mpIdx] at h
  by_cases e : k = s
  ·rw [if_pos e] at h
   injection h with h
   subst h e
   exact ⟨v, n, rfl, by simp [mpLook]⟩
  ·rw [if_neg e] at h
   cases hi : mpIdx s es with
   | none => rw [hi] at h; cases h
   | some j =>
    rw [hi] at h
    injection h with h
    subst h
    obtain ⟨u, m, h1, h2⟩ := mpIdx_some hi
    exact ⟨u, m, by simpa using h1, by simp [mpLook, e, h2]⟩
theorem mpIdx_none {s : ByteArray} : ∀ {es : List ME}, mpIdx s es = none → (∀ e ∈ es, e.1 ≠ s) ∧ mpLook s es = none
 | [], h => ⟨by simp, rfl⟩
 | (k, v, n) :: es, h => by
  simp only [mpIdx] at h
  by_cases e : k = s
  ·rw [if_pos e] at h; cases h
  ·rw [if_neg e] at h
   cases hi : mpIdx s es with
   | some j => rw [hi] at h; cases h
   | none =>
    obtain ⟨h1, h2⟩ := mpIdx_none hi
    refine ⟨fun x hx => ?_, by simp [mpLook, e, h2]⟩
    rcases List.mem_cons.1 hx with rfl | hx
    ·exact e
    ·exact h1 x hx
theorem MapRel.get {g : Gh} {w : World} {es : List ME} {ents : List MapEntry} (h : MapRel g w es ents) {j : Nat} {e : ME} (he : es[j]? = some e) : ∃ x, ents[j]? = some x ∧ x.key = .string e.1 ∧ x.born = e.2.2 ∧ Rd g w e.2.1 x.val := by
 have hlt : j < ents.length := by rw [h.1]; exact (zD.1 he).1
 obtain ⟨h1, h2⟩ := h.2 j e ents[j] he (zC hlt)
 exact ⟨_, zC hlt, h1.1, h1.2, h2⟩
theorem MapRel.get' {g : Gh} {w : World} {es : List ME} {ents : List MapEntry} (h : MapRel g w es ents) {j : Nat} {x : MapEntry} (hx : ents[j]? = some x) : ∃ e, es[j]? = some e ∧ x.key = .string e.1 ∧ x.born = e.2.2 ∧ Rd g w e.2.1 x.val := by
 have hlt : j < es.length := by rw [← h.1]; exact (zD.1 hx).1
 obtain ⟨h1, h2⟩ := h.2 j es[j] x (zC hlt) hx
 exact ⟨_, zC hlt, h1.1, h1.2, h2⟩
theorem MapRel.keys {g : Gh} {w : World} {es : List ME} {ents : List MapEntry} (h : MapRel g w es ents) : ∀ x ∈ ents, IsKey .string x.key := fun x hx => by
 obtain ⟨j, hj⟩ := List.getElem?_of_mem hx
 obtain ⟨e, _, h1, _⟩ := h.get' hj
 rw [h1]
 trivial
theorem MapRel.mono {g g' : Gh} {w w' : World} (hl : Le g w g' w') {es : List ME} {ents : List MapEntry} (h : MapRel g w es ents) : MapRel g' w' es ents := ⟨h.1, fun j e x he hx => ⟨(h.2 j e x he hx).1, (h.2 j e x he hx).2.mono hl⟩⟩
theorem findNow_rel {g : Gh} {w : World} {s : ByteArray} : ∀ {es : List ME} {ents : List MapEntry} (i : Nat), MapRel g w es ents →
  (mpIdx s es = none ∧ Instr.findNow .string (.string s) ents i = some none) ∨ ∃ j x, mpIdx s es = some j ∧ ents[j]? = some x ∧ Instr.findNow .string (.string s) ents i = some (some (i + j, x.val))
 | [], [], i, h => .inl ⟨rfl, rfl⟩
 | [], x :: ents, i, h => by have := h.1; simp at this
 | e :: es, [], i, h => by have := h.1; simp at this
 | e :: es, x :: ents, i, h => by
  obtain ⟨⟨h1, _⟩, h2⟩ := h.2 0 e x rfl rfl
  have ht : MapRel g w es ents := ⟨by simpa using h.1, fun j e x he hx => h.2 (j + 1) e x (by simpa using he) (by simpa using hx)⟩
  have hs : Instr.sameNow .string (.string s) x.key = some (s == e.1) := by rw [h1]; rfl
  by_cases hk : e.1 = s
  ·right
   have hb : (s == e.1) = true := (bytes_beq _ _).2 hk.symm
   exact ⟨0, x, by simp [mpIdx, hk], rfl, by simp only [Instr.findNow, hs, hb]; rfl⟩
  ·have hb : (s == e.1) = false := by
    cases hq : (s == e.1) with
    | false => rfl
    | true => exact absurd ((bytes_beq _ _).1 hq).symm hk
   rcases findNow_rel (s := s) (i + 1) ht with ⟨k1, k2⟩ | ⟨j, y, k1, k2, k3⟩
   ·left
    exact ⟨by simp [mpIdx, hk, k1], by simp only [Instr.findNow, hs, hb]; exact k2⟩
   ·right
    refine ⟨j + 1, y, by simp [mpIdx, hk, k1], by simpa using k2, ?_⟩
    simp only [Instr.findNow, hs, hb]
    rw [k3, show i + 1 + j = i + (j + 1) by omega]
def zeroV (P : Program) (t : TypeId) : Option MV := match P.info? t with
 | some i => match i.zero with
  | some z => constMV z
  | none => none
 | none => none
theorem zeroV_some {P : Program} {t : TypeId} {m : MV} (h : zeroV P t = some m) : ∃ z, (∀ w, (zeroValue t).run P w = .ok z w) ∧ ∀ g w, Rd g w m z := by
 unfold zeroV at h
 split at h
 ·rename_i i hi
  split at h
  ·rename_i z hz
   exact ⟨z, fun w => by simp [zeroValue, typeInfo, hi, hz], fun g w => zZ5 _ _ h⟩
  ·cases h
 ·cases h
def mapTy (P : Program) (t e : TypeId) : Bool := match P.underlying t with
 | some (.map k e') => Nat.beq e' e && (match P.underlying k with | some .string => true | _ => false)
 | _ => false
theorem mapTy_spec {P : Program} {t e : TypeId} (h : mapTy P t e = true) : ∃ k, P.underlying t = some (.map k e) ∧ P.underlying k = some .string := by
 unfold mapTy at h
 split at h
 ·rename_i k e' hu
  simp only [Bool.and_eq_true] at h
  have := Nat.eq_of_beq_eq_true h.1
  subst this
  refine ⟨k, hu, ?_⟩
  have h2 := h.2
  split at h2
  ·assumption
  ·cases h2
 ·cases h
section
variable {P : Program} {rd : Option Nat} {o : Oper} {env : Env} {σ : MS} {K : MV → MS → Prop}
theorem rel_map {g : Gh} {w : World} (hr : Rel g σ w) {id clk : Nat} {es : List ME} {v : Value} (hv : Rd g w (.map id) v) (hσ : σ[id]? = some (.mp clk es)) :
  ∃ b ents own, v = .map (some b) ∧ Owns g σ w own ∧ own id = some b ∧ g.bk id = some b ∧ g.st b = 0 ∧ w.heap[b]? = some (.map ents clk) ∧ MapRel g w es ents.toList := by
 obtain ⟨b, hb, rfl⟩ := hv.inv_map
 obtain ⟨own, ho⟩ := hr.ex
 obtain ⟨b', ents, h1, h2, h3, h4, h5⟩ := ho.obj _ _ hσ
 rw [hb] at h2
 injection h2 with h2
 subst h2
 exact ⟨b, ents, own, rfl, ho, h1, hb, h3, h4, h5⟩
theorem run_lookup {g : Gh} {w : World} {t e : TypeId} {clk b : Nat} {es : List ME} {ents : Array MapEntry} {s : ByteArray} {z : MV} {c : Bool} (ht : mapTy P t e = true) (hz : zeroV P e = some z) (hb : w.heap[b]? = some (.map ents clk)) (hm : MapRel g w es ents.toList) :
  ∃ v, (Instr.lookup t (.map (some b)) (.string s) c).run P w = .ok (if c then .tuple #[v, .bool (mpLook s es).isSome] else v) w ∧ Rd g w ((mpLook s es).getD z) v := by
 obtain ⟨k, hu, hk⟩ := mapTy_spec ht
 obtain ⟨zv, hz1, hz2⟩ := zeroV_some hz
 have hck : (Instr.checkKey ents.isEmpty 10000 k (.string s)).run P w = .ok () w := run_checkKey hk (k := .string s) trivial _ 9999
 rcases findNow_rel (s := s) 0 hm with ⟨h1, h2⟩ | ⟨j, x, h1, h2, h3⟩
 ·refine ⟨zv, ?_, ?_⟩
  ·have hf := run_findKey (P := P) (w := w) hk h2
   rw [(mpIdx_none h1).2]
   simp [Instr.lookup, run_underlying hu, MapKept.run_getObj_map hb, hck, hf, hz1, Result.andThen]
  ·rw [(mpIdx_none h1).2]
   exact hz2 g w
 ·obtain ⟨v, n, k1, k2⟩ := mpIdx_some h1
  obtain ⟨y, q1, q2, q3, q4⟩ := hm.get k1
  rw [h2] at q1
  injection q1 with q1
  subst q1
  refine ⟨x.val, ?_, ?_⟩
  ·have hf := run_findKey (P := P) (w := w) hk h3
   rw [k2]
   simp [Instr.lookup, run_underlying hu, MapKept.run_getObj_map hb, hck, hf, Result.andThen]
  ·rw [k2]
   exact q4
theorem op_lookup_ok {t e : TypeId} {x y : Operand} {id clk : Nat} {es : List ME} {s : ByteArray} {z m : MV} {c : Bool} (ho : o.op = .lookup t x y true) (ht : mapTy P t e = true) (hz : zeroV P e = some z) (hx : evo env x = some (.map id)) (hy : evo env y = some (.str s)) (hσ : σ[id]? = some (.mp clk es))
  (hm : (mpLook s es).getD z = m) (hc : (mpLook s es).isSome = c) (h : K (.tup [m, .bool c]) σ) : OpWp P rd o env σ K := by
 refine OpWp.of_run (by simp [ho]) fun g w a hr hop => ?_
 obtain ⟨b, ents, own, e1, h1, h2, h3, h4, h5, h6⟩ := rel_map hr (hop x (by simp [ho, Op.operands]) _ hx) hσ
 have e2 := (hop y (by simp [ho, Op.operands]) _ hy).inv_str
 obtain ⟨v, hv, hrd⟩ := run_lookup (P := P) (s := s) (c := true) ht hz h5 h6
 rw [hm] at hrd
 rw [hc] at hv
 exact ⟨.tuple #[v, .bool c], w, by simp [execOp, ho, e1, e2, hv], .same h hr (.tup' (.cons hrd (.cons (.bool _) (.nil _ _))))⟩
theorem MapRel.push {g : Gh} {w : World} {es : List ME} {ents : Array MapEntry} (h : MapRel g w es ents.toList) {s : ByteArray} {m : MV} {v : Value} {n : Nat} (hr : Rd g w m v) : MapRel g w (es ++ [(s, m, n)]) (ents.push { key := .string s, val := v, born := n }).toList := by
 refine ⟨by simpa using h.1, fun j e x he hx => ?_⟩
 have hl := h.1
 rw [Array.toList_push] at hx
 by_cases hj : j < es.length
 ·rw [List.getElem?_append_left hj] at he
  rw [List.getElem?_append_left (by omega)] at hx
  exact h.2 j e x he hx
 ·rw [List.getElem?_append_right (by omega)] at he
  rw [List.getElem?_append_right (by omega), hl] at hx
  have : j - es.length = 0 := by
   have := (zD.1 he).1
   simp at this
   omega
  rw [this] at he hx
  simp at he hx
  subst he hx
  exact ⟨⟨rfl, rfl⟩, hr⟩
theorem MapRel.modify {g : Gh} {w : World} {es : List ME} {ents : Array MapEntry} (h : MapRel g w es ents.toList) {i : Nat} {f : ME → ME} {f' : MapEntry → MapEntry} (hf : ∀ e x, es[i]? = some e → ents.toList[i]? = some x → ((f' x).key = .string (f e).1 ∧ (f' x).born = (f e).2.2) ∧ Rd g w (f e).2.1 (f' x).val) : MapRel g w (es.modify i f) (ents.modify i f').toList := by
 refine ⟨by simpa using h.1, fun j e x he hx => ?_⟩
 rw [Array.toList_modify] at hx
 rw [List.getElem?_modify] at he hx
 by_cases hj : i = j
 ·subst hj
  simp only [if_true] at he hx
  cases he' : es[i]? with
  | none => rw [he'] at he; cases he
  | some e0 =>
   cases hx' : ents.toList[i]? with
   | none => rw [hx'] at hx; cases hx
   | some x0 =>
    rw [he'] at he
    rw [hx'] at hx
    simp at he hx
    subst he hx
    exact hf e0 x0 he' hx'
 ·simp only [if_neg hj] at he hx
  exact h.2 j e x (by simpa using he) (by simpa using hx)
end
end
end Go.MV
namespace Go.MV
open Go Go.RowKit
section
section
variable {P : Program} {rd : Option Nat} {o : Oper} {env : Env} {σ : MS} {K : MV → MS → Prop}
theorem gets_appendS {g : Gh} {w : World} (hr : Rel g σ w) {tt tu ty' e sz bytes t n : Nat} (hsz1 : sz = 1) (hu : P.underlying tt = some (.slice e)) (hut : P.underlying tu = some .string) (he : elemOk P e sz bytes = true) (hσ : σ[t]? = some (.row e sz n)) {xs ys : List MV} {l : Bs} (hys : ys = l.map encY) {v : Value} (hx : Rd g w (.lst (some t) sz xs) v) (hn : xs.length = n)
   (hbound : (n + ys.length) * bytes ≤ 140737488355328) (hml : n + ys.length ≤ 4611686018427387904) (hK : K (.lst (some t) sz (xs ++ ys)) (σ.set t (.row e sz (n + ys.length)))) :
    ∃ v' w', (Builtin.append_ #[tt, tu] ty' #[v, .string (bs l)]).run P w = .ok v' w' ∧ Gets g w K v' w' := by
  obtain ⟨i, z, hi, hz, hs, hb, hzs, hpos⟩ := elemOk_spec he
  obtain ⟨a, c, us, hv, h1, h2, h3, h4, h5, h6⟩ := hx.inv_lst
  have hbl0 : (bs l).size = l.length := by simp [bs, ByteArray.size]
  have hyl : l.length = ys.length := by rw [hys, zF]
  rw [hyl] at hbl0
  obtain ⟨us', hus'⟩ : ∃ us', us' = Lib.strCells (bs l) := ⟨_, rfl⟩
  have k3 : ∀ y ∈ ys, y.cells.length = sz := fun y hy => by
    rw [hys] at hy
    obtain ⟨b, _, rfl⟩ := List.mem_map.1 hy
    rw [hsz1]; rfl
  have hfys : flat ys = ys := by rw [hys, flat_encY]
  have k4 : Rds g w (flat ys) us' := by
    rw [hfys, hys, hus']
    refine ⟨by simp [Lib.strCells, bs], fun j y u hy hu => ?_⟩
    simp only [Lib.strCells, bs] at hu
    rw [zH0] at hy hu
    obtain ⟨b, hb, rfl⟩ := Option.map_eq_some_iff.1 hy
    rw [hb] at hu
    injection hu with hu
    rw [← hu]
    exact .int _ _
  have hsmall : n + ys.length ≤ maxLen := by simp only [maxLen]; omega
  have hlen' : us'.length = ys.length * i.size := by rw [hs, k4.1, zA6 k3]
  have hlen : us.length = n * i.size := by rw [hs, h4.1, zA6 h3, hn]
  by_cases hm : ys = []
  · have hl0 : l = [] := List.eq_nil_of_length_eq_zero (by rw [hyl, hm]; rfl)
    subst hl0
    rw [hm] at hK
    simp only [List.append_nil, List.length_nil, Nat.add_zero] at hK
    rw [set_self hσ] at hK
    refine ⟨v, w, ?_, .same hK hr hx⟩
    subst hv
    have e0 : (bs []).size = 0 := rfl
    have e1 : ((bs []).extract 0 0).data = #[] := rfl
    cases a with
    | none => simp [Builtin.append_, run_underlying hu, run_underlying hut, sizeOf, typeInfo, hi, Builtin.lenOf, Builtin.firstCells, h1, e0, e1]
    | some ad => simp [Builtin.append_, run_underlying hu, run_underlying hut, sizeOf, typeInfo, hi, Builtin.lenOf, Builtin.firstCells, h1, e0, e1, storeCells]
  have hmpos : 0 < ys.length := List.length_pos_iff.2 hm
  have hp' : 0 < us'.length := by rw [hlen', hs]; exact Nat.mul_pos hmpos hpos
  have hone : ∀ u ∈ us', u.oneCell' = true := by rw [hus']; exact Lib.strCells_oneCell _
  have hone0 : ∀ u ∈ us, u.oneCell' = true := fun u hmem => by
    obtain ⟨j, hj⟩ := List.getElem?_of_mem hmem
    obtain ⟨_, _, hst⟩ := h5 j u hj
    exact hst.2.2
  have holds : ∀ (j : Nat) (u : Value), us[j]? = some u → ∃ ad, a = some ad ∧ w.cell? (ad.add j) = some u := fun j u hj => by
    obtain ⟨ad2, e2, hst⟩ := h5 j u hj
    exact ⟨ad2, e2, hst.2.1⟩
  obtain ⟨own, ho⟩ := hr.ex
  obtain ⟨v0, us0, f1, f2, f3, f4, f5⟩ := ho.obj t _ hσ
  have hvv : v0 = v := by
    have := h6 t rfl
    rw [hn, f1] at this
    injection this
  subst hvv
  have hall3 : ∀ x ∈ xs ++ ys, x.cells.length = sz := fun x hx => by
    rcases zV2.1 hx with h | h
    · exact h3 x h
    · exact k3 x h
  have hallone : ∀ u ∈ us ++ us', u.oneCell' = true := fun u hu => by
    rcases zV2.1 hu with h | h
    · exact hone0 u h
    · exact hone u h
  have hfl : flat (xs ++ ys) = flat xs ++ flat ys := flat_append xs ys
  have hlenx : (xs ++ ys).length = n + ys.length := by rw [zG, hn]
  have fresh_case : ∀ (cap : Nat) (rest : Array Value), n + ys.length ≤ cap → cap ≤ maxLen → rest.size = (cap - (n + ys.length)) * sz →
      Gets g w K (.slice (some ⟨w.heap.size, 0, none⟩) (n + ys.length) cap) (w.drew.alloc (.cells (us.toArray ++ us'.toArray ++ rest) e)) := by
    intro cap rest hcap hcm hrest
    have harr : us.toArray ++ us'.toArray ++ rest = (us ++ us' ++ rest.toList).toArray := by
      apply Array.ext'
      simp
    rw [harr]
    have hr1 := hr.drew
    have l1 := Le.drew g w
    have l2 := Le.alloc_stab hr1 (.cells (us ++ us' ++ rest.toList).toArray e) ((n + ys.length) * sz)
    have r2 := hr1.alloc_stab (.cells (us ++ us' ++ rest.toList).toArray e) ((n + ys.length) * sz)
    generalize hg1 : g.stab w.drew.heap.size ((n + ys.length) * sz) = g1 at l2 r2
    generalize hw1 : w.drew.alloc (.cells (us ++ us' ++ rest.toList).toArray e) = w1 at l2 r2
    have ho1 : Owns g1 σ w1 own := by
      refine ho.keep (l1.trans l2) (fun id b e => ?_) (fun _ _ => by rw [← hg1]; rfl)
      have hlt := (ho.lt id b e).2.2
      rw [← hg1, ← hw1]
      refine ⟨Below.heap_alloc w.drew _ b hlt, ?_⟩
      simp only [Gh.stab]
      exact if_neg (Nat.ne_of_lt hlt)
    have l3 : Le g1 w1 (g1.log t (n + ys.length) (.slice (some ⟨w.heap.size, 0, none⟩) (n + ys.length) cap)) w1 := by
      refine ⟨⟨rfl, rfl, fun _ _ h => ⟨h, rfl⟩, fun _ _ h => h, fun s k u hv => ?_, Nat.le_refl _⟩, fun _ _ h => h⟩
      simp only [Gh.log]
      rw [if_neg]
      · exact hv
      · rintro ⟨rfl, rfl⟩
        have : g1.lg s (n + ys.length) = g.lg s (n + ys.length) := by rw [← hg1]; rfl
        rw [this, f5 _ (by omega)] at hv
        cases hv
    have hheap : w1.heap[w.heap.size]? = some (.cells (us ++ us' ++ rest.toList).toArray e (0, 0)) := by rw [← hw1]; exact heap_new w.drew _
    have hsz : w1.heap.size = w.heap.size + 1 := by rw [← hw1]; simp
    have hcurlen : (us ++ us' ++ rest.toList).length = cap * sz := by
      simp only [zG, hlen, hlen', hs, Array.length_toList, hrest]
      rw [← Nat.add_mul, ← Nat.add_mul]
      congr 1
      omega
    have hlall : (us ++ us').length = (n + ys.length) * sz := by rw [zG, hlen, hlen', hs, Nat.add_mul]
    have lall := l1.trans (l2.trans l3)
    refine ⟨_, _, g1.log t (n + ys.length) (.slice (some ⟨w.heap.size, 0, none⟩) (n + ys.length) cap), hK, ?_, ?_, lall⟩
    · refine Rel.row_set r2 hσ ho1 l3 r2.below r2.fresh V (fun id k hid => ?_) (fun id b hid hb => Vv) (ob := some w.heap.size) ?_ (fun id b hid hb e => ?_) (fun b hb => ?_)
      · simp only [Gh.log]; rw [if_neg (fun h => hid h.1)]
      · refine ⟨.slice (some ⟨w.heap.size, 0, none⟩) (n + ys.length) cap, us ++ us', by simp [Gh.log], ?_, rfl, fun b hb => ?_, fun k hk => ?_⟩
        · refine ⟨hlall, .inr ⟨w.heap.size, cap, _, rfl, ?_, hheap, hcap, hcm, by simpa using hcurlen, ?_⟩⟩
          · have : (g1.log t (n + ys.length) (.slice (some ⟨w.heap.size, 0, none⟩) (n + ys.length) cap)).B = g.B := lall.B
            rw [this]
            exact hr.size
          · rw [← hlall]
            exact List.take_left
        · injection hb with hb
          subst hb
          rw [← hg1]
          simp only [Gh.log, Gh.stab]
          exact if_pos rfl
        · simp only [Gh.log]
          rw [if_neg (by omega), ← hg1]
          exact f5 k (by omega)
      · have := (ho.lt id b hb).2.2
        injection e with e
        omega
      · injection hb with hb
        subst hb
        refine ⟨?_, by omega⟩
        rw [← hg1]
        exact hr.size
    · refine .lst' hlenx hcap hcm hall3 (us := us ++ us') ?_ (fun j u hj => ⟨⟨w.heap.size, 0, none⟩, rfl, ?_⟩) (fun s hs => ?_)
      · rw [hfl]
        exact (h4.mono lall).append (k4.mono lall)
      · have hjl : j < (us ++ us').length := (zD.1 hj).1
        refine ⟨?_, ?_, hallone u (zW hj)⟩
        · rw [zB4]
          show 0 + j < (g1.log t _ _).st w.heap.size
          rw [← hg1]
          simp only [Gh.log, Gh.stab]
          have : (if w.heap.size = w.drew.heap.size then (n + ys.length) * sz else g.st w.heap.size) = (n + ys.length) * sz := if_pos rfl
          rw [this]
          omega
        · rw [zB4]
          simp only [World.cell?, hheap]
          simp only [Nat.zero_add, Option.isSome_none, Bool.false_eq_true, if_false]
          rw [List.getElem?_toArray, List.getElem?_append_left hjl]
          exact hj
      · injection hs with hs
        subst hs
        simp [Gh.log]
  rcases f2.2 with ⟨hv0, hn0⟩ | ⟨b, cap, cur, hv0, hbB, hheap, hnc, hcm, hcs, htake⟩
  ·
    rw [hv0] at hv
    injection hv with ea en ec
    subst hv0
    have hus : us = [] := List.eq_nil_of_length_eq_zero (by rw [hlen, hn0]; simp)
    have hrun := run_append_nil_string (P := P) w tt tu ty' e i z hu hut hi hz (bs l) (by omega) (by omega) (by rw [hb, hbl0]; rw [hn0] at hbound; simp only [Nat.zero_add] at hbound; omega)
    rw [hbl0, show Array.map (fun b : UInt8 => Value.int .u8 (b.toNat : Int)) (bs l).data = us'.toArray by rw [hus']; apply Array.ext'; simp [Lib.strCells]] at hrun
    have hfc := fresh_case (grownCap w ys.length 0 e) (Builtin.zeroCells z.cells (grownCap w ys.length 0 e - ys.length)) (by rw [hn0, Nat.zero_add]; exact grownCap_ge w _ _ _) (grownCap_le_maxLen w _ _ _ (by rw [hn0] at hsmall; omega)) (by rw [size_zeroCells, hzs, hn0]; simp)
    rw [hus, hn0] at hfc
    simp only [Nat.zero_add, Array.empty_append] at hfc
    refine ⟨_, _, hrun, ?_⟩
    have e1 : #[] ++ us'.toArray = us'.toArray := Array.empty_append
    exact hfc
  · have hvb : a = some ⟨b, 0, none⟩ ∧ c = cap := by
      rw [hv0] at hv
      injection hv with e1 e2 e3
      exact ⟨e1.symm, e3.symm⟩
    obtain ⟨rfl, rfl⟩ := hvb
    have holds' : ∀ (j : Nat) (u : Value), us[j]? = some u → w.cell? ((⟨b, 0, none⟩ : Addr).add j) = some u := fun j u hj => by
      obtain ⟨ad2, e2, h⟩ := holds j u hj
      injection e2 with e2
      subst e2
      exact h
    by_cases hroom : n + ys.length ≤ c
    ·
      have hfit : n * i.size + us'.length ≤ cur.size := by rw [hlen', hcs, hs, ← Nat.add_mul]; exact Nat.mul_le_mul_right _ hroom
      have hul : us'.length = ys.length := by rw [hlen', hs, hsz1, Nat.mul_one]
      have hrun := Lib.run_append_room_string (P := P) w tt tu ty' e i hu hut hi (by rw [hs, hsz1]) b n c cur hheap (bs l) (by omega) (by rw [hs, hsz1] at hfit; omega)
      rw [hbl0, ← hus', show n = n * i.size by rw [hs, hsz1, Nat.mul_one], show ys.length = us'.length from hul.symm] at hrun
      rw [show n * i.size = n by rw [hs, hsz1, Nat.mul_one], hul] at hrun
      have hncl : n * i.size = n := by rw [hs, hsz1, Nat.mul_one]
      generalize hnc' : (cur.toList.take n ++ us' ++ cur.toList.drop (n + ys.length)).toArray = ncur at hrun
      rw [show cur.toList.take n ++ us' ++ cur.toList.drop (n + ys.length) = cur.toList.take (n * i.size) ++ us' ++ cur.toList.drop (n * i.size + us'.length) by rw [hncl, hul]] at hnc'
      have hob : own t = some b := by rw [← f3, hv0]; rfl
      have hstb : g.st b = n * sz := f4 b hob
      have hbl := ho.lt t b hob
      have hus0 : us0 = us := by
        have e1 : us0 = cur.toList.take (n * sz) := htake.symm
        apply List.ext_getElem?
        intro j
        by_cases hj : j < n * sz
        · have hjl : j < us.length := by rw [hlen, hs]; exact hj
          have hc := holds' j us[j] (zC hjl)
          rw [zB4] at hc
          simp only [World.cell?, hheap, Nat.zero_add, Option.isSome_none, Bool.false_eq_true, if_false] at hc
          rw [e1, List.getElem?_take, if_pos hj, zC hjl, ← hc]
          simp
        · rw [List.getElem?_eq_none (by rw [f2.1]; omega), List.getElem?_eq_none (by rw [hlen, hs]; omega)]
      subst hus0
      have hheap' : (w.setRow b ncur).heap[b]? = some (.cells ncur e (0, 0)) := setRow_heap w b cur ncur e _ hheap
      have hother : ∀ k, k ≠ b → (w.setRow b ncur).heap[k]? = w.heap[k]? := fun k hk => setRow_other w b k ncur hk
      have hncur : ncur.toList = us0 ++ us' ++ cur.toList.drop ((n + ys.length) * sz) := by
        rw [← hnc', hs, htake, hlen', hs, ← Nat.add_mul]
      have hlall : (us0 ++ us').length = (n + ys.length) * sz := by rw [zG, hlen, hlen', hs, Nat.add_mul]
      have hcell : ∀ j, j < (n + ys.length) * sz → (w.setRow b ncur).cell? ⟨b, j, none⟩ = (us0 ++ us')[j]? := fun j hj => by
        simp only [World.cell?, hheap', Option.isSome_none, Bool.false_eq_true, if_false]
        rw [← Array.getElem?_toList, hncur, List.getElem?_append_left (by omega)]
      let g1 : Gh := (g.stab b ((n + ys.length) * sz)).log t (n + ys.length) (.slice (some ⟨b, 0, none⟩) (n + ys.length) c)
      have hlall2 : n * sz ≤ (n + ys.length) * sz := Nat.mul_le_mul_right _ (by omega)
      have hl : Le g w g1 (w.setRow b ncur) := by
        refine ⟨⟨rfl, rfl, fun k j hj => ?_, fun _ _ h => h, fun s k u hu => ?_, by simp⟩, fun k x hx => ?_⟩
        · by_cases ek : k = b
          · subst ek
            refine ⟨?_, ?_⟩
            · show j < if k = k then (n + ys.length) * sz else g.st k
              rw [if_pos rfl]
              omega
            · rw [hstb] at hj
              rw [hcell j (by omega), List.getElem?_append_left (by rw [hlen, hs]; exact hj)]
              have hjl : j < us0.length := by rw [hlen, hs]; exact hj
              have := holds' j us0[j] (zC hjl)
              rw [zB4, Nat.zero_add] at this
              rw [this, zC hjl]
          · refine ⟨?_, World.cell?_of_block (w := w) (a := ⟨k, j, none⟩) (hother k ek)⟩
            show j < if k = b then (n + ys.length) * sz else g.st k
            rw [if_neg ek]
            exact hj
        · show (if s = t ∧ k = n + ys.length then _ else g.lg s k) = _
          rw [if_neg]
          · exact hu
          · rintro ⟨rfl, rfl⟩
            rw [f5 _ (by omega)] at hu
            cases hu
        · have : k ≠ b := fun e => by subst e; rw [hheap] at hx; cases hx
          exact (hother k this).trans hx
      refine ⟨_, _, by rw [hv0]; exact hrun, _, _, g1, hK, ?_, ?_, hl⟩
      · refine Rel.row_set hr hσ ho hl (hr.below.trans ⟨rfl, rfl, rfl, by simp, fun k hk => hother k (by omega)⟩) (fun k hk => ?_) V (fun id k hid => ?_) (fun id k hid hk => ?_) (ob := some b) ?_ (fun id k hid hk e => ?_) (fun k hk => ?_)
        · simp only [setRow_size] at hk
          show (if k = b then _ else g.st k) = 0
          rw [if_neg (by omega)]
          exact hr.fresh k hk
        · show (if id = t ∧ k = n + ys.length then _ else g.lg id k) = _
          rw [if_neg (fun h => hid h.1)]
        · have hkb : k ≠ b := fun e => by subst e; exact hid (ho.inj _ _ _ hk hob)
          refine ⟨hother k hkb, ?_⟩
          show (if k = b then _ else g.st k) = _
          rw [if_neg hkb]
        · refine ⟨.slice (some ⟨b, 0, none⟩) (n + ys.length) c, us0 ++ us', ?_, ⟨hlall, .inr ⟨b, c, ncur, rfl, hbB, hheap', hroom, hcm, ?_, ?_⟩⟩, rfl, fun k hk => ?_, fun k hk => ?_⟩
          · show (if t = t ∧ n + ys.length = n + ys.length then _ else _) = _
            rw [if_pos ⟨rfl, rfl⟩]
          · have hcl : cur.toList.length = c * sz := by rw [Array.length_toList, hcs]
            have : (n + ys.length) * sz ≤ c * sz := Nat.mul_le_mul_right _ hroom
            rw [← Array.length_toList, hncur, zG, hlall, List.length_drop, hcl]
            omega
          · rw [hncur, ← hlall, zN, ← zN us0 us']
            exact List.take_left
          · injection hk with hk
            subst hk
            show (if b = b then _ else _) = _
            rw [if_pos rfl]
          · show (if t = t ∧ k = n + ys.length then _ else g.lg t k) = none
            rw [if_neg (by omega)]
            exact f5 k (by omega)
        · injection e with e
          subst e
          exact hid (ho.inj _ _ _ hk hob)
        · injection hk with hk
          subst hk
          exact ⟨hbl.2.1, by simpa using hbl.2.2⟩
      · refine .lst' hlenx hroom hcm hall3 (us := us0 ++ us') ?_ (fun j u hj => ⟨⟨b, 0, none⟩, rfl, ?_⟩) (fun s hs => ?_)
        · rw [hfl]
          exact (h4.mono hl).append (k4.mono hl)
        · have hjl : j < (us0 ++ us').length := (zD.1 hj).1
          refine ⟨?_, ?_, hallone u (zW hj)⟩
          · rw [zB4]
            show 0 + j < if b = b then (n + ys.length) * sz else g.st b
            rw [if_pos rfl]
            omega
          · rw [zB4, Nat.zero_add, hcell j (by omega)]
            exact hj
        · injection hs with hs
          subst hs
          show (if t = t ∧ n + ys.length = n + ys.length then _ else _) = _
          rw [if_pos ⟨rfl, rfl⟩]
    ·
      have hrun := Lib.run_append_grow_string (P := P) w tt tu ty' e i z hu hut hi hz ⟨b, 0, none⟩ n c us hlen holds' (bs l) (by omega) (by omega) (growslice_fits (by omega) (by rw [hb, hbl0]; exact hbound))
      rw [hbl0, ← hus'] at hrun
      refine ⟨_, _, by rw [hv0]; exact hrun, fresh_case _ _ (grownCap_ge w _ _ _) (grownCap_le_maxLen w _ _ _ hsmall) (by rw [size_zeroCells, hzs])⟩
theorem op_appendS {t u e bytes id n : Nat} {x y : Operand} {xs : List MV} {l : Bs} (ho : o.op = .call { callee := .builtin .append, args := #[x, y], argTypes := #[t, u] }) (hu : P.underlying t = some (.slice e)) (hut : P.underlying u = some .string) (he : elemOk P e 1 bytes = true)
  (hx : evo env x = some (.lst (some id) 1 xs)) (hy : evo env y = some (.str (bs l))) (hσ : σ[id]? = some (.row e 1 n)) (hn : xs.length = n) (hb : (n + l.length) * bytes ≤ 140737488355328) (hml : n + l.length ≤ 4611686018427387904)
  (hK : K (.lst (some id) 1 (xs ++ l.map encY)) (σ.set id (.row e 1 (n + l.length)))) : OpWp P rd o env σ K := by
 refine OpWp.of_run (by simp [ho]) fun g w a hr hop => ?_
 have hv := (hop y (by simp [ho, Op.operands, Call.operands]) _ hy).inv_str
 obtain ⟨v', w', hrun, hg⟩ := gets_appendS (ty' := o.type) hr rfl hu hut he hσ (ys := l.map encY) rfl (hop x (by simp [ho, Op.operands, Call.operands]) _ hx) hn (by simpa using hb) (by simpa using hml) (by simpa using hK)
 refine ⟨v', w', ?_, hg⟩
 simp [execOp, ho, resolve, invoke, builtin, hv, hrun]
end
end
section
section
variable {P : Program} {rd : Option Nat} {o : Oper} {env : Env} {σ : MS} {K : MV → MS → Prop}
theorem Rel.pin {g : Gh} {w : World} (hr : Rel g σ w) {t e n b c : Nat} {l : Bs} (hl : l ≠ []) (hσ : σ[t]? = some (.row e 1 n)) (hn : l.length = n) (hlg : g.lg t n = some (.slice (some ⟨b, 0, none⟩) n c)) (hcell : ∀ j x, l[j]? = some x → w.cell? ⟨b, j, none⟩ = some (.int .u8 (x.toNat : Int))) :
  Rel (g.bind σ.length b) (σ.set t .gone ++ [.pin e l]) w ∧ Le g w (g.bind σ.length b) w := by
 have hle : Le g w (g.bind σ.length b) w := by
  refine ⟨⟨rfl, rfl, fun _ _ h => ⟨h, rfl⟩, fun i b' h => ?_, fun _ _ _ h => h, Nat.le_refl _⟩, fun _ _ h => h⟩
  simp only [Gh.bind]
  rw [if_neg]
  ·exact h
  ·rintro rfl
   rw [hr.bkn _ (Nat.le_refl _)] at h
   cases h
 obtain ⟨own, ho⟩ := hr.ex
 have htl : t < σ.length := (zD.1 hσ).1
 obtain ⟨v0, us0, f1, f2, f3, f4, f5⟩ := ho.obj t _ hσ
 rw [hlg] at f1
 injection f1 with f1
 subst f1
 have hob : own t = some b := f3.symm
 rcases f2.2 with ⟨hv0, _⟩ | ⟨b', cap, cur, hv0, hbB, hheap, hnc, hcm, hcs, htake⟩
 ·cases hv0
 injection hv0 with e1 e2 e3
 injection e1 with e1
 injection e1 with e1
 subst e1
 refine ⟨⟨hr.below, hr.base, hr.fresh, fun i hi => ?_, fun s k hs => hr.lgn s k (by simp at hs; omega), fun i => if i = t then none else if i = σ.length then some b else own i, ⟨fun i ob hi => ?_, fun i j d hi hj => ?_, fun i d hi => ?_⟩⟩, hle⟩
 ·simp at hi
  simp only [Gh.bind]
  rw [if_neg (by omega)]
  exact hr.bkn i (by omega)
 ·by_cases hil : i < σ.length
  ·rw [List.getElem?_append_left (by simpa using hil)] at hi
   by_cases e : i = t
   ·subst e
    rw [List.getElem?_set_self htl] at hi
    injection hi with hi
    subst hi
    simp [ObjRel]
   ·rw [if_neg e, if_neg (by omega)]
    rw [List.getElem?_set_ne (fun h => e h.symm)] at hi
    exact (ho.obj i ob hi).keep0 hle.toLe0 (fun _ _ => ⟨rfl, rfl⟩) (fun _ => rfl)
  ·have hi2 : i = σ.length := by
    have := (zD.1 hi).1
    simp at this
    omega
   subst hi2
   rw [List.getElem?_append_right (by simp)] at hi
   simp at hi
   subst hi
   rw [if_neg (by omega), if_pos rfl]
   refine ⟨b, cur, rfl, by simp [Gh.bind], ?_, hheap, by rw [hcs, hn]; omega, fun j x hj => ?_⟩
   ·show g.st b = l.length
    rw [f4 b hob, hn, Nat.mul_one]
   ·have := hcell j x hj
    simpa [World.cell?, hheap] using this
 ·by_cases ei : i = t
  ·rw [if_pos ei] at hi; cases hi
  ·by_cases ej : j = t
   ·rw [if_pos ej] at hj; cases hj
   ·rw [if_neg ei] at hi
    rw [if_neg ej] at hj
    by_cases fi : i = σ.length
    ·by_cases fj : j = σ.length
     ·omega
     ·rw [if_pos fi] at hi
      rw [if_neg fj] at hj
      injection hi with hi
      subst hi
      exact absurd (ho.inj _ _ _ hj hob) ej
    ·by_cases fj : j = σ.length
     ·rw [if_neg fi] at hi
      rw [if_pos fj] at hj
      injection hj with hj
      subst hj
      exact absurd (ho.inj _ _ _ hi hob) ei
     ·rw [if_neg fi] at hi
      rw [if_neg fj] at hj
      exact ho.inj i j d hi hj
 ·by_cases ei : i = t
  ·rw [if_pos ei] at hi; cases hi
  ·rw [if_neg ei] at hi
   by_cases fi : i = σ.length
   ·rw [if_pos fi] at hi
    injection hi with hi
    subst hi
    exact ⟨by simp; omega, (ho.lt t _ hob).2⟩
   ·rw [if_neg fi] at hi
    obtain ⟨h1, h2, h3⟩ := ho.lt i d hi
    exact ⟨by simp; omega, h2, h3⟩
theorem op_sliceData {u e id n : Nat} {x : Operand} {l : Bs} (ho : o.op = .call { callee := .builtin .unsafeSliceData, args := #[x], argTypes := #[u] }) (hx : evo env x = some (.lst (some id) 1 (l.map encY))) (hl : l ≠ []) (hσ : σ[id]? = some (.row e 1 n)) (hn : l.length = n)
  (hK : K (.ref σ.length 0) (σ.set id .gone ++ [.pin e l])) : OpWp P rd o env σ K := by
 refine OpWp.of_run (by simp [ho]) fun g w a hr hop => ?_
 obtain ⟨ad, c, us, hv, h1, h2, h3, h4, h5, h6⟩ := (hop x (by simp [ho, Op.operands, Call.operands]) _ hx).inv_lst
 have hpos : 0 < l.length := List.length_pos_iff.2 hl
 have hlg := h6 id rfl
 obtain ⟨own, hown⟩ := hr.ex
 obtain ⟨v0, us0, f1, f2, f3, f4, f5⟩ := hown.obj id _ hσ
 rw [zF, hn] at hlg
 rw [f1] at hlg
 injection hlg with hlg
 rcases f2.2 with ⟨hv0, hn0⟩ | ⟨b, cap, cur, hv0, hbB, hheap, hnc, hcm, hcs, htake⟩
 ·omega
 have hv1 : Value.slice ad (l.map encY).length c = .slice (some ⟨b, 0, none⟩) n cap := by rw [← hv, ← hlg, hv0]
 injection hv1 with e1 e2 e3
 subst e1 e3
 have hrds : us = l.map fun c => Value.int .u8 (c.toNat : Int) := by
  rw [flat_encY] at h4
  rw [us_bytes h4, List.map_map]
  rfl
 obtain ⟨hr', hle⟩ := hr.pin hl hσ hn (by rw [f1, hv0]) (fun j x hj => by
  obtain ⟨ad2, q1, q2⟩ := h5 j (.int .u8 (x.toNat : Int)) (by rw [hrds, zH0, hj]; rfl)
  injection q1 with q1
  subst q1
  have := q2.2.1
  simpa [zB4] using this)
 refine ⟨.pointer (some ⟨b, 0, none⟩), w, ?_, ⟨_, _, _, hK, hr', .ref _ _ _ (by simp [Gh.bind]), hle⟩⟩
 rw [zF] at hv h1
 have hrun := fun ts ty => Lib.run_unsafeSliceData_row (P := P) w ts ty ⟨b, 0, none⟩ l.length c (by omega)
 simp [execOp, ho, resolve, invoke, builtin, hv, hrun]
theorem freeze_cell {w : World} {b n : Nat} (p : Addr) : (w.freeze ⟨b, 0, none⟩ n).cell? p = w.cell? p := by
 unfold World.freeze
 split
 ·rfl
 ·unfold World.cell?
  simp only [Array.getElem?_modify]
  by_cases e : b = p.block
  ·subst e
   rw [if_pos rfl]
   cases w.heap[p.block]? with
   | none => rfl
   | some ob => cases ob <;> rfl
  ·rw [if_neg e]
theorem freeze_other {w : World} {b n k : Nat} (h : k ≠ b) : (w.freeze ⟨b, 0, none⟩ n).heap[k]? = w.heap[k]? := by
 unfold World.freeze
 split
 ·rfl
 ·simp only [Array.getElem?_modify]
  rw [if_neg (fun e => h e.symm)]
theorem freeze_size {w : World} {b n : Nat} : (w.freeze ⟨b, 0, none⟩ n).heap.size = w.heap.size := by
 unfold World.freeze
 split
 ·rfl
 ·simp
theorem op_unsafeString {t t' e id : Nat} {x y : Operand} {l : Bs} {m : Int} (ho : o.op = .call { callee := .builtin .unsafeString, args := #[x, y], argTypes := #[t, t'] }) (hu : P.underlying t = some (.pointer e)) (hc : P.cellsOf e = 1) (hx : evo env x = some (.ref id 0)) (hy : evo env y = some (.int .i64 m)) (hm : m = (l.length : Int)) (hl : l ≠ []) (hlen : l.length ≤ maxLen) (hσ : σ[id]? = some (.pin e l))
  (hK : K (.str (bs l)) (σ.set id .gone)) : OpWp P rd o env σ K := by
 subst hm
 refine OpWp.of_run (by simp [ho]) fun g w a hr hop => ?_
 obtain ⟨b', hb', hv⟩ := (hop x (by simp [ho, Op.operands, Call.operands]) _ hx).inv_ref
 have hv2 := (hop y (by simp [ho, Op.operands, Call.operands]) _ hy).inv_int
 obtain ⟨own, hown⟩ := hr.ex
 obtain ⟨b, cur, e1, e2, e3, e4, e5, e6⟩ := hown.obj _ _ hσ
 rw [hb'] at e2
 injection e2 with e2
 subst e2
 have hrun := fun ty => Lib.run_unsafeString_row (P := P) w t t' ty e hu hc b' cur.size (by simp [World.shape?, e4]) l hl e5 (by simp only [maxLen] at hlen; omega) (fun j x hj => by
  rw [zB4, Nat.zero_add]
  simp [World.cell?, e4, e6 j x hj])
 have hle : Le g w g (w.freeze ⟨b', 0, none⟩ l.length) := by
  refine ⟨⟨rfl, rfl, fun c i hi => ⟨hi, freeze_cell _⟩, fun _ _ h => h, fun _ _ _ h => h, by rw [freeze_size]; exact Nat.le_refl _⟩, fun c q hq => ?_⟩
  rw [freeze_other]
  ·exact hq
  ·rintro rfl
   rw [e4] at hq
   cases hq
 refine ⟨.string (bs l), _, ?_, ⟨_, _, g, hK, ?_, .str _, hle⟩⟩
 ·simp [execOp, ho, resolve, invoke, builtin, hv, hv2, hrun]
  rfl
 ·have hB := (hown.lt id b' e1).2.1
  refine ⟨?_, hr.base, fun c hc => hr.fresh c (by rw [freeze_size] at hc; exact hc), fun i hi => hr.bkn i (by simpa using hi), fun s q hs => hr.lgn s q (by simpa using hs), fun i => if i = id then none else own i, ⟨fun i ob hi => ?_, fun i j c hi hj => ?_, fun i c hi => ?_⟩⟩
  ·exact Lib.below_freeze hr.below (p := ⟨b', 0, none⟩) hB _
  ·by_cases ei : i = id
   ·subst ei
    rw [List.getElem?_set, if_pos rfl] at hi
    split at hi
    ·injection hi with hi
     subst hi
     simp [ObjRel]
    ·cases hi
   ·rw [if_neg ei]
    rw [List.getElem?_set_ne (fun h => ei h.symm)] at hi
    refine (hown.obj i ob hi).keep0 hle.toLe0 (fun c hc => ⟨freeze_other ?_, rfl⟩) (fun _ => V)
    rintro rfl
    exact ei (hown.inj _ _ _ hc e1)
  ·split at hi
   ·cases hi
   ·split at hj
    ·cases hj
    ·exact hown.inj i j c hi hj
  ·split at hi
   ·cases hi
   ·obtain ⟨h1, h2, h3⟩ := hown.lt i c hi
    exact ⟨by simpa using h1, h2, by rw [freeze_size]; exact h3⟩
end
end
section
theorem Rel.retype {g : Gh} {σ : MS} {w : World} (h : Rel g σ w) {id b : Nat} {l : List MV} {us : List Value} {ty : TypeId} (hσ : σ[id]? = some (.cells l)) (hb : g.bk id = some b) (hh : w.heap[b]? = some (.cells us.toArray ty (0, 0))) : Rel g (σ.set id (.tcells ty l)) w := by
 obtain ⟨own, hown⟩ := h.ex
 obtain ⟨b', us', ty', e1, e2, e3, ⟨fr, e4, _⟩, e5⟩ := hown.obj _ _ hσ
 rw [hb] at e2; injection e2 with e2; subst e2
 rw [hh] at e4; injection e4 with e4; injection e4 with e4 e6 e7
 have e4' : us = us' := by simpa using congrArg Array.toList e4
 subst e4'
 refine ⟨h.below, h.base, h.fresh, fun i hi => h.bkn i (by simpa using hi), fun t k ht => h.lgn t k (by simpa using ht), own, ⟨fun i ob hi => ?_, hown.inj, fun i c hc => by simpa using hown.lt i c hc⟩⟩
 rw [List.getElem?_set] at hi
 by_cases e : id = i
 ·subst e
  rw [if_pos rfl] at hi
  split at hi
  ·injection hi with hi
   subst hi
   exact ⟨b, us, e1, hb, e3, hh, e5⟩
  ·cases hi
 ·rw [if_neg e] at hi
  exact hown.obj i ob hi
theorem Rel.untype {g : Gh} {σ : MS} {w : World} (h : Rel g σ w) {id : Nat} {l : List MV} {ty : TypeId} (hσ : σ[id]? = some (.tcells ty l)) : Rel g (σ.set id (.cells l)) w := by
 obtain ⟨own, hown⟩ := h.ex
 obtain ⟨b, us, e1, e2, e3, e4, e5⟩ := hown.obj _ _ hσ
 refine ⟨h.below, h.base, h.fresh, fun i hi => h.bkn i (by simpa using hi), fun t k ht => h.lgn t k (by simpa using ht), own, ⟨fun i ob hi => ?_, hown.inj, fun i c hc => by simpa using hown.lt i c hc⟩⟩
 rw [List.getElem?_set] at hi
 by_cases e : id = i
 ·subst e
  rw [if_pos rfl] at hi
  split at hi
  ·injection hi with hi
   subst hi
   exact ⟨b, us, ty, e1, e2, e3, ⟨_, e4, .inl rfl⟩, e5⟩
  ·cases hi
 ·rw [if_neg e] at hi
  exact hown.obj i ob hi
section
variable {P : Program} {rd : Option Nat} {o : Oper} {env : Env} {σ : MS} {K : MV → MS → Prop}
theorem op_boxT {t : TypeId} {x : Operand} {m : MV} (ho : o.op = .box t x) (hx : evo env x = some m) (h : K (.ref σ.length 0) (σ ++ [.tcells t m.cells])) : OpWp P rd o env σ K := by
 refine OpWp.of_run (by simp [ho]) fun g w a hr hop => ?_
 obtain ⟨us, e, k1⟩ := zW6 (hop x (by simp [ho, Op.operands]) _ hx)
 obtain ⟨g', h1, h2, h3⟩ := hr.alloc_obj k1 t
 have hr' := h1.retype (id := σ.length) (l := m.cells) (us := us) (ty := t) (by simp) h3 (heap_new w _)
 have hset : (σ ++ [MObj.cells m.cells]).set σ.length (.tcells t m.cells) = σ ++ [.tcells t m.cells] := by simp
 rw [hset] at hr'
 refine ⟨.pointer (some ⟨w.heap.size, 0, none⟩), w.alloc (.cells us.toArray t), ?_, ⟨_, _, g', h, hr', .ref _ _ _ h3, h2⟩⟩
 simp [execOp, ho, Instr.box, newVar, newRow, e]
theorem op_load_T {t ty : TypeId} {x : Operand} {id off : Nat} {l : List MV} {ta : Option Nat} {m : MV} (ho : o.op = .load t x) (hx : evo env x = some (.ref id off)) (hσ : σ[id]? = some (.tcells ty l)) (ht : tyAgg P t = some ta) (hm : loadMV ta l off = some m) (h : K m σ) : OpWp P rd o env σ K := by
 refine OpWp.of_run (by simp [ho]) fun g w a hr hop => ?_
 obtain ⟨b, hb, e⟩ := (hop x (by simp [ho, Op.operands]) _ hx).inv_ref
 obtain ⟨own, hown⟩ := hr.ex
 obtain ⟨b', us, e1, e2, e3, e4, e5⟩ := hown.obj _ _ hσ
 rw [hb] at e2
 injection e2 with e2
 subst e2
 obtain ⟨v, hv, hy⟩ := zR6 ht (e5.drop off) (fun j u hu => cells_at e4 off j hu) (loadMV_drop hm)
 refine ⟨v, w, ?_, .same h hr hy⟩
 simp [execOp, ho, e, Instr.loadAt, Instr.sureAddr, hv]
theorem _root_.zW3 : type_of% @op_load_T := @op_load_T
theorem op_store_T {t ty : TypeId} {x y : Operand} {id off : Nat} {l : List MV} {m : MV} {k : Nat} (ho : o.op = .store t x y) (hx : evo env x = some (.ref id off)) (hy : evo env y = some m) (hσ : σ[id]? = some (.tcells ty l)) (hk : szOf P t = some k) (hm : m.cells.length = k)
  (h1 : m.cells.all MV.one = true) (hle : off + k ≤ l.length) (h : K (.tup []) (σ.set id (.tcells ty (setMany l off m.cells)))) : OpWp P rd o env σ K := by
 refine OpWp.of_skip (by simp [ho]) fun g w a hr0 hop => ?_
 have hidl : id < σ.length := (zD.1 hσ).1
 have hr := hr0.untype hσ
 have hσ' : (σ.set id (.cells l))[id]? = some (.cells l) := by rw [List.getElem?_set_self hidl]
 obtain ⟨b, hb, e⟩ := (hop x (by simp [ho, Op.operands]) _ hx).inv_ref
 have hrd := hop y (by simp [ho, Op.operands]) _ hy
 obtain ⟨us, hus, hrds⟩ := zW6 hrd
 obtain ⟨own, hown⟩ := hr0.ex
 obtain ⟨b', old, e1, e2, e3, e4, e5⟩ := hown.obj _ _ hσ
 rw [hb] at e2; injection e2 with e2; subst e2
 have hlen : us.length = k := by rw [hrds.1, hm]
 have hone : ∀ v ∈ us, v.oneCell' = true := by
  intro v hv
  obtain ⟨j, hj⟩ := List.getElem?_of_mem hv
  have hjl : j < m.cells.length := by rw [hm, ← hlen]; exact (zD.1 hj).1
  have := hrds.2 j _ v (zC hjl) hj
  rw [List.all_eq_true] at h1
  exact one_cell this (h1 _ (List.getElem_mem hjl))
 have hrun := zX6 P b off ty (0, 0) us 0 old.toArray w e4 (.inl rfl) (by rw [hlen]; simpa [e5.1] using hle) hone
 obtain ⟨hrel, hl⟩ := hr.store hσ' hrds (by rw [hm]; exact hle) hb e4
 have hrel' := hrel.retype (id := id) (by rw [List.getElem?_set_self (by simpa using hidl)]) hb (setRow_heap w b _ _ ty _ e4)
 have hset : ((σ.set id (MObj.cells l)).set id (.cells (setMany l off m.cells))).set id (.tcells ty (setMany l off m.cells)) = σ.set id (.tcells ty (setMany l off m.cells)) := by
  rw [List.set_set, List.set_set]
 rw [hset] at hrel'
 refine ⟨_, ?_, .tup [], _, g, h, hrel', rd_undef _ _, hl⟩
 have hsz : (a.eval y).cells.size = k := by rw [hus]; simpa using hlen
 have hst : (storeVar t ⟨b, off, none⟩ (a.eval y)).run P w = (storeCells ⟨b, off, none⟩ us).run P w := by
  simp [storeVar, zO5 hk, hsz, hus, hlen]
 simp only [execOp, ho, e, Instr.storeAt, Instr.sureAddr, Sem.run_bind, Sem.run_pure, Result.andThen_ok, hst, hrun, Nat.add_zero]
theorem op_toUnsafe {t t' e ty : TypeId} {x : Operand} {id k : Nat} {l : List MV} (ho : o.op = .convert t t' x) (hs : P.underlying t = some (.pointer e)) (hd : P.underlying t' = some .unsafePointer) (hk : szOf P e = some k) (hk0 : k ≠ 0) (hx : evo env x = some (.ref id 0)) (hσ : σ[id]? = some (.tcells ty l)) (hl : 0 < l.length) (h : K (.ref id 0) σ) : OpWp P rd o env σ K := by
 refine OpWp.of_run (by simp [ho]) fun g w a hr hop => ?_
 have hrd := hop x (by simp [ho, Op.operands]) _ hx
 obtain ⟨b, hb, e0⟩ := hrd.inv_ref
 obtain ⟨own, hown⟩ := hr.ex
 obtain ⟨b', us, e1, e2, e3, e4, e5⟩ := hown.obj _ _ hσ
 rw [hb] at e2; injection e2 with e2; subst e2
 obtain ⟨i, hi, hz⟩ : ∃ i, P.info? e = some i ∧ i.size = k := by
  unfold szOf at hk
  split at hk
  ·rename_i i hi
   injection hk with hk
   exact ⟨i, hi, hk⟩
  ·cases hk
 refine ⟨.pointer (some ⟨b, 0, none⟩), w, ?_, .same h hr (.ref _ _ _ hb)⟩
 have hrun := Lib.run_to_unsafe (P := P) w ⟨b, 0, none⟩ hs hd hi (by rw [hz]; exact hk0) (e := ty) (cells := us.length) (by simp [World.shape?, e4]) (by rw [e5.1]; exact hl)
 simp [execOp, ho, e0, hrun]
theorem op_fromUnsafe {t t' e ty : TypeId} {x : Operand} {id k : Nat} {l : List MV} (ho : o.op = .convert t t' x) (hs : P.underlying t = some .unsafePointer) (hd : P.underlying t' = some (.pointer e)) (hk : szOf P e = some k) (hx : evo env x = some (.ref id 0)) (hσ : σ[id]? = some (.tcells ty l)) (hlies : liesAt P P.depth ty (l.length / P.cellsOf ty) 0 e 1 = true) (h : K (.ref id 0) σ) : OpWp P rd o env σ K := by
 refine OpWp.of_run (by simp [ho]) fun g w a hr hop => ?_
 obtain ⟨b, hb, e0⟩ := (hop x (by simp [ho, Op.operands]) _ hx).inv_ref
 obtain ⟨own, hown⟩ := hr.ex
 obtain ⟨b', us, e1, e2, e3, e4, e5⟩ := hown.obj _ _ hσ
 rw [hb] at e2; injection e2 with e2; subst e2
 obtain ⟨i, hi, hz⟩ : ∃ i, P.info? e = some i ∧ i.size = k := by
  unfold szOf at hk
  split at hk
  ·rename_i i hi
   injection hk with hk
   exact ⟨i, hi, hk⟩
  ·cases hk
 refine ⟨.pointer (some ⟨b, 0, none⟩), w, ?_, .same h hr (.ref _ _ _ hb)⟩
 have hrun := Lib.run_from_unsafe (P := P) w ⟨b, 0, none⟩ hs hd hi (e := ty) (cells := us.length) (by simp [World.shape?, e4]) (by rw [e5.1]; exact hlies)
 simp [execOp, ho, e0, hrun]
theorem op_ptrsame {b : BinOp} {r : Bool} {t e t' : TypeId} {x y : Operand} {id off k : Nat} (ho : o.op = .binOp b t x y t') (hu : P.underlying t = some (.pointer e)) (hk : szOf P e = some k) (hk0 : k ≠ 0) (hx : evo env x = some (.ref id off)) (hy : evo env y = some (.ref id off)) (hb : b = .eql ∧ r = true ∨ b = .neq ∧ r = false) (h : K (.bool r) σ) : OpWp P rd o env σ K := by
 refine OpWp.of_run (by rcases hb with ⟨rfl, rfl⟩ | Vv <;> simp [ho]) fun g w a hr hop => ?_
 obtain ⟨b1, hb1, e1⟩ := (hop x (by simp [ho, Op.operands]) _ hx).inv_ref
 obtain ⟨b2, hb2, e2⟩ := (hop y (by simp [ho, Op.operands]) _ hy).inv_ref
 rw [hb1] at hb2; injection hb2 with hb2; subst hb2
 refine ⟨.bool r, w, ?_, .same h hr (.bool _)⟩
 have h9 : ∀ d : Nat, (Op.equalIn (d + 1) t (.pointer (some ⟨b1, off, none⟩)) (.pointer (some ⟨b1, off, none⟩))).run P w = .ok true w := fun d => by
  simp [Op.equalIn, run_underlying hu, zO5 hk, hk0, sameAddr]
 rcases hb with ⟨rfl, rfl⟩ | ⟨rfl, rfl⟩ <;> (simp only [execOp, ho, e1, e2, Sem.run_bind, Sem.run_pure]; simp [eqGuard, binOp, Op.equal, Op.maxDepth, h9 9999])
end
theorem Rel.recellT {g : Gh} {σ : MS} {w : World} (h : Rel g σ w) {id : Nat} {ty : TypeId} {l l' : List MV} (hσ : σ[id]? = some (.tcells ty l)) (hl : ∀ us, Rds g w l us → Rds g w l' us) : Rel g (σ.set id (.tcells ty l')) w := by
 refine ⟨h.below, h.base, h.fresh, fun i hi => h.bkn i (by simpa using hi), fun t n ht => h.lgn t n (by simpa using ht), ?_⟩
 obtain ⟨own, ho⟩ := h.ex
 refine ⟨own, ⟨fun i o hi => ?_, ho.inj, fun i b hi => by have := ho.lt i b hi; exact ⟨by simpa using this.1, this.2⟩⟩⟩
 rw [List.getElem?_set] at hi
 split at hi
 ·rename_i e
  subst e
  split at hi
  ·injection hi with hi
   subst hi
   obtain ⟨b, us, h1, h2, h3, h4, h5⟩ := ho.obj _ _ hσ
   exact ⟨b, us, h1, h2, h3, h4, hl us h5⟩
  ·cases hi
 ·exact ho.obj i o hi
theorem mwp_cellrowT {P : Program} {rd : Option Nat} {N n : Nat} {c : Code} {Q : Exit → Env → MS → Prop} {env : Env} {S L L' : MS} (k i ty sz : Nat) {m tt : Nat} {l : List MV} (hk : L[k]? = some (.tcells tt l)) (hi : l[i]? = some .lst0) (hN : N ≤ S.length) (hm : L.length = m) (hL : L.set k (.tcells tt (l.set i (.lst (some (S.length + m)) sz []))) ++ [.row ty sz 0] = L') (h : mwp P rd N n c Q env (S ++ L')) : mwp P rd N n c Q env (S ++ L) := by
 subst hm hL
 refine mwp_ghost (fun g w tmps hr he => ?_) h
 obtain ⟨r1, l1, d1⟩ := tok_new hr ty sz
 have hlen : (S ++ L).length = S.length + L.length := zG
 refine ⟨_, ?_, he.mono l1, l1.toN N, fun F hF => hF.mono (l1.toN N)⟩
 have hlt := (zD.1 hk).1
 have e : S ++ (L.set k (.tcells tt (l.set i (.lst (some (S.length + L.length)) sz []))) ++ [.row ty sz 0]) = ((S ++ L) ++ [MObj.row ty sz 0]).set (S.length + k) (.tcells tt (l.set i (.lst (some (S.length + L.length)) sz []))) := by
  rw [zN, zP5, List.set_append_left _ _ hlt]
 rw [e]
 refine r1.recellT (l := l) (by rw [zN, getElem?_own, List.getElem?_append_left hlt]; exact hk) fun us hus => ?_
 obtain ⟨u, hu, hrd⟩ := hus.get hi
 have hs := hus.set i (x := .lst (some (S.length + L.length)) sz []) (u := u) (by rw [hrd.inv_lst0, ← hlen]; exact d1)
 obtain ⟨hul, hue⟩ := zD.1 hu
 rwa [show us.set i u = us by rw [← hue]; exact List.set_getElem_self hul] at hs
end
end Go.MV
section
namespace Go.Proofs
open Go.Shelf
shelf_lay Lays2.n22 Nm2 22 at Tryz as Tryz.laysInsert
end Go.Proofs
namespace Go.Proofs.YtciimaabeabkdaaGreatDoor
open Go Go.MV Go.RowKit Go.Shelf
def encW (x : Bs) : Value := .string (bs x)
theorem rds_encW {g : Gh} {w : World} : ∀ {l : List Bs} {us : List Value}, Rds g w (l.map encX) us → us = l.map encW
 | [], us, h => List.eq_nil_of_length_eq_zero (by simpa using h.1)
 | x :: l, us, h => by
  obtain ⟨u, us', rfl, h1, h2⟩ := Rds.uncons h
  rw [rds_encW h2, (show Rd g w (.str (bs x)) u from h1).inv_str]
  rfl
theorem rds_ofW (g : Gh) (w : World) : ∀ l : List Bs, Rds g w (l.map encX) (l.map encW)
 | [] => .nil _ _
 | x :: l => .cons (.str _) (rds_ofW g w l)
end Go.Proofs.YtciimaabeabkdaaGreatDoor
end
section
namespace Go.Proofs
open Go.Shelf
shelf_lay Lays2.n24 Nm2 24 at Tryz as Tryz.laysDelete
end Go.Proofs
namespace Go.MV
open Go Go.RowKit
theorem rel_app {g : Gh} {σ : MS} {w : World} {own : Nat → Option Nat} (hr : Rel g σ w) (ho : Owns g σ w own) {b c n e : Nat} {us : List Value} {l : List MV} (hno : ∀ i, own i ≠ some b) (hB : g.B ≤ b) (hbl : b < w.heap.size) (hst : g.st b = 0)
  (how : w.ownsRow g.B e 1 (.slice (some ⟨b, 0, none⟩) n c) n us) (hrd : Rds g w l us) :
  Rel (g.log σ.length n (.slice (some ⟨b, 0, none⟩) n c)) (σ ++ [.orow e 1 n l]) w ∧ Le g w (g.log σ.length n (.slice (some ⟨b, 0, none⟩) n c)) w := by
 have hle : Le g w (g.log σ.length n (.slice (some ⟨b, 0, none⟩) n c)) w := by
  refine ⟨⟨rfl, rfl, fun _ _ h => ⟨h, rfl⟩, fun _ _ h => h, fun s k u hu => ?_, Nat.le_refl _⟩, fun _ _ h => h⟩
  show (if s = σ.length ∧ k = n then _ else g.lg s k) = _
  rw [if_neg]
  ·exact hu
  ·rintro ⟨rfl, rfl⟩
   rw [hr.lgn _ _ (Nat.le_refl _)] at hu
   cases hu
 refine ⟨⟨hr.below, hr.base, hr.fresh, fun i hi => hr.bkn i (by simp at hi; omega), fun s k hs => ?_, fun i => if i = σ.length then some b else own i, ⟨fun i ob hi => ?_, fun i j d hi hj => ?_, fun i d hi => ?_⟩⟩, hle⟩
 ·show (if s = σ.length ∧ k = n then _ else g.lg s k) = _
  simp at hs
  rw [if_neg (by omega)]
  exact hr.lgn s k (by omega)
 ·by_cases e1 : i = σ.length
  ·subst e1
   rw [List.getElem?_append_right (Nat.le_refl _)] at hi
   simp at hi
   subst hi
   rw [if_pos rfl]
   refine ⟨.slice (some ⟨b, 0, none⟩) n c, us, ?_, how, rfl, fun k hk => ?_, fun k hk => ?_, hrd.mono hle⟩
   ·show (if σ.length = σ.length ∧ n = n then _ else _) = _
    rw [if_pos ⟨rfl, rfl⟩]
   ·injection hk with hk
    subst hk
    exact hst
   ·show (if σ.length = σ.length ∧ k = n then _ else g.lg σ.length k) = none
    rw [if_neg (by omega)]
    exact hr.lgn _ _ (Nat.le_refl _)
  ·rw [if_neg e1]
   have hlt : i < σ.length := by
    have := (zD.1 hi).1
    simp at this
    omega
   rw [List.getElem?_append_left hlt] at hi
   refine (ho.obj i ob hi).keep0 hle.toLe0 (fun _ _ => Vv) (fun k => ?_)
   show (if i = σ.length ∧ k = n then _ else g.lg i k) = _
   rw [if_neg (fun h => e1 h.1)]
 ·by_cases e1 : i = σ.length
  ·by_cases e2 : j = σ.length
   ·omega
   ·rw [if_pos e1] at hi
    rw [if_neg e2] at hj
    injection hi with hi
    subst hi
    exact absurd hj (hno j)
  ·by_cases e2 : j = σ.length
   ·rw [if_neg e1] at hi
    rw [if_pos e2] at hj
    injection hj with hj
    subst hj
    exact absurd hi (hno i)
   ·rw [if_neg e1] at hi
    rw [if_neg e2] at hj
    exact ho.inj i j d hi hj
 ·by_cases e1 : i = σ.length
  ·rw [if_pos e1] at hi
   injection hi with hi
   subst hi
   exact ⟨by simp; omega, hB, hbl⟩
  ·rw [if_neg e1] at hi
   obtain ⟨h1, h2⟩ := ho.lt i d hi
   exact ⟨by simp; omega, h2⟩
theorem gets_ow_app {g : Gh} {σ : MS} {w w' : World} (hr : Rel g σ w) {e n b c : Nat} {l : List MV} {us : List Value} {K : MV → MS → Prop}
  (hbel : Below w.heap.size w w') (hnb : w.heap.size ≤ b) (hbl : b < w'.heap.size) (how : w'.ownsRow w.heap.size e 1 (.slice (some ⟨b, 0, none⟩) n c) n us) (hrd : Rds g w l us)
  (hK : K (.ow σ.length 1 n) (σ ++ [.orow e 1 n l])) : Gets g w K (.slice (some ⟨b, 0, none⟩) n c) w' := by
 obtain ⟨own, ho⟩ := hr.ex
 have r2 := hr.grown hbel 0 hnb hbl
 have l2 := Le.grown hr hbel 0 hnb
 have ho1 : Owns (g.stab b 0) σ w' own := ho.keep l2 (fun id2 k e => by
  have hlt := (ho.lt id2 k e).2.2
  refine ⟨hbel.block k hlt, ?_⟩
  simp only [Gh.stab]
  rw [if_neg (by omega)]) (fun _ _ => rfl)
 have hB : g.B ≤ b := by have := hr.size; omega
 obtain ⟨r3, l3⟩ := rel_app r2 ho1 (b := b) (c := c) (n := n) (e := e) (us := us) (l := l) (fun i hi => by have := (ho.lt i b hi).2.2; omega) hB hbl (by simp [Gh.stab]) ⟨how.1, by
  rcases how.2 with h0 | ⟨b', cap, cur, h1, h2, h3⟩
  ·cases h0.1
  ·have h1' := h1
   injection h1' with q1
   injection q1 with q1
   injection q1 with q1
   subst q1
   exact .inr ⟨b, cap, cur, h1, hB, h3⟩⟩ (hrd.mono l2)
 exact ⟨_, _, _, hK, r3, .ow _ _ _ _ (by show (if σ.length = σ.length ∧ n = n then _ else _) = _; rw [if_pos ⟨rfl, rfl⟩]) rfl rfl, l2.trans l3⟩
theorem gets_ow_cut {g : Gh} {σ : MS} {w w' : World} (hr : Rel g σ w) {id e n n' b c : Nat} {l l' : List MV} {us' : List Value} {K : MV → MS → Prop} (hσ : σ[id]? = some (.orow e 1 n l)) (hlv : g.lg id n = some (.slice (some ⟨b, 0, none⟩) n c))
  (hbel : Below g.B w w') (hsz : w'.heap.size = w.heap.size) (hoth : ∀ k, k ≠ b → w'.heap[k]? = w.heap[k]?) (how : w'.ownsRow g.B e 1 (.slice (some ⟨b, 0, none⟩) n' c) n' us') (hrd : Rds g w l' us')
  (hK : K (.ow σ.length 1 n') (σ.set id .gone ++ [.orow e 1 n' l'])) : Gets g w K (.slice (some ⟨b, 0, none⟩) n' c) w' := by
 obtain ⟨own, ho⟩ := hr.ex
 obtain ⟨v0, us, f1, f2, f3, f4, f5, f6⟩ := ho.obj id _ hσ
 rw [hlv] at f1
 injection f1 with f1
 subst f1
 have htl : id < σ.length := (zD.1 hσ).1
 have hob : own id = some b := by rw [← f3]; rfl
 have hstb := f4 b hob
 have hbl := ho.lt id b hob
 obtain ⟨x0, hx0⟩ : ∃ x, w.heap[b]? = some (.cells x e (0, 0)) := by
  rcases f2.2 with ⟨hv0, _⟩ | ⟨b', cap, cur, hv0, _, hheap0, _⟩
  ·cases hv0
  ·injection hv0 with e1
   injection e1 with e1
   injection e1 with e1
   subst e1
   exact ⟨_, hheap0⟩
 have hl : Le g w g w' := by
  refine ⟨⟨rfl, rfl, fun k j hj => ?_, fun _ _ h => h, fun _ _ _ h => h, by omega⟩, fun k x hxk => ?_⟩
  ·by_cases ek : k = b
   ·rw [ek, hstb] at hj
    exact absurd hj (Nat.not_lt_zero _)
   ·exact ⟨hj, World.cell?_of_block (w := w) (a := ⟨k, j, none⟩) (hoth k ek)⟩
  ·have : k ≠ b := fun e => by rw [e, hx0] at hxk; cases hxk
   exact (hoth k this).trans hxk
 have ho1 : Owns g (σ.set id .gone) w' (fun i => if i = id then none else own i) := by
  refine ⟨fun i ob hi => ?_, fun i j d hi hj => ?_, fun i d hi => ?_⟩
  ·by_cases ei : i = id
   ·subst ei
    rw [List.getElem?_set_self htl] at hi
    injection hi with hi
    subst hi
    rw [if_pos rfl]
    rfl
   ·rw [if_neg ei]
    rw [List.getElem?_set_ne (fun h => ei h.symm)] at hi
    exact (ho.obj i ob hi).keep0 hl.toLe0 (fun k hk => ⟨hoth k (fun e => by subst e; exact ei (ho.inj _ _ _ hk hob)), rfl⟩) (fun _ => rfl)
  ·by_cases ei : i = id
   ·rw [if_pos ei] at hi; cases hi
   ·by_cases ej : j = id
    ·rw [if_pos ej] at hj; cases hj
    ·rw [if_neg ei] at hi
     rw [if_neg ej] at hj
     exact ho.inj i j d hi hj
  ·by_cases ei : i = id
   ·rw [if_pos ei] at hi; cases hi
   ·rw [if_neg ei] at hi
    obtain ⟨h1, h2, h3⟩ := ho.lt i d hi
    exact ⟨by simpa using h1, h2, by omega⟩
 have r2 : Rel g (σ.set id .gone) w' := ⟨hr.below.trans hbel, hr.base, fun k hk => hr.fresh k (by omega), fun i hi => hr.bkn i (by simpa using hi), fun s k hs => hr.lgn s k (by simpa using hs), _, ho1⟩
 obtain ⟨r3, l3⟩ := rel_app r2 ho1 (b := b) (c := c) (n := n') (e := e) (us := us') (l := l') (fun i hi => by
  by_cases ei : i = id
  ·rw [if_pos ei] at hi; cases hi
  ·rw [if_neg ei] at hi
   exact ei (ho.inj _ _ _ hi hob)) hbl.2.1 (by omega) hstb how (hrd.mono hl)
 rw [List.length_set] at r3 l3
 exact ⟨_, _, _, hK, r3, .ow _ _ _ _ (by show (if σ.length = σ.length ∧ n' = n' then _ else _) = _; rw [if_pos ⟨rfl, rfl⟩]) rfl rfl, hl.trans l3⟩
end Go.MV
namespace Go.Proofs.YtciimaabeabkdaaGreatDoor
open Go Go.MV Go.RowKit Go.Shelf Go.Sort
theorem cloneO_spec (S : MS) (id n : Nat) (L : List Bs) (hS : S[id]? = some (.orow 9 1 n (L.map encX))) (hn : L.length = n) (h0 : 0 < n) (hb : n ≤ 1000000) :
  MCalls Tryz.prog 155 [.ow id 1 n] S fun v σ' => v = .ow S.length 1 n ∧ σ' = S ++ [.orow 9 1 n (L.map encX)] := by
 intro g w vs hrel hrd
 obtain ⟨u0, us, rfl, h1, hrd⟩ := hrd.uncons
 have e3 : us = [] := List.eq_nil_of_length_eq_zero hrd.1
 subst e3
 have hlv := h1.inv_ow
 obtain ⟨own, ho⟩ := hrel.ex
 obtain ⟨v0, us, f1, f2, f3, f4, f5, f6⟩ := ho.obj id _ hS
 rw [hlv] at f1
 injection f1 with f1
 subst f1
 have hus := rds_encW f6
 subst hus
 rcases f2.2 with ⟨hv0, hn0⟩ | ⟨b, cap, cur, hv0, hbB, hheap, hnc, hcm, hcs, htake⟩
 ·omega
 subst hv0
 rw [Nat.mul_one] at hcs htake
 have hcell : ∀ j, j < (L.map bs).length → w.cell? ⟨b, 0 + j, none⟩ = some (.string ((L.map bs).getD j ByteArray.empty)) := fun j hj => by
  rw [zF] at hj
  rw [Nat.zero_add]
  have e1 : (cur.toList.take n)[j]? = some (encW L[j]) := by rw [htake, zH0, zC hj]; rfl
  rw [List.getElem?_take, if_pos (by omega)] at e1
  simp only [World.cell?, hheap]
  simp [hj]
  simpa [encW] using e1
 refine (callsIn_wide.2 (calls_of_every_depth fun D => AnyS.slices_Clone_string_in Tryz.laysClone D b 0 n cap (L.map bs) w (by simp; omega) (by omega) hcell)).mono ?_
 rintro e w' ⟨v', rfl, h2, h3, h4⟩
 rw [List.take_of_length_le (by simp; omega), List.map_map] at h2
 have h2' : w'.ownsRow w.heap.size 9 1 v' n (L.map encW) := h2
 rcases h2'.2 with ⟨q0, _⟩ | ⟨b2, cap2, cur2, q1, q2, q3, q4⟩
 ·exact absurd q0 h3
 subst q1
 exact ⟨_, rfl, gets_ow_app hrel h4 q2 (Array.getElem?_eq_some_iff.1 q3).1 h2' (rds_ofW g w L) ⟨rfl, rfl⟩⟩
theorem deleteO_spec (S : MS) (id n i : Nat) (L : List Bs) (hS : S[id]? = some (.orow 9 1 n (L.map encX))) (hn : L.length = n) (hi : i < n) (hb : n ≤ 1000000) :
  MCalls Tryz.prog 154 [.ow id 1 n, .int .i64 (i : Int), .int .i64 ((i + 1 : Nat) : Int)] S fun v σ' => v = .ow S.length 1 (n - 1) ∧ σ' = S.set id .gone ++ [.orow 9 1 (n - 1) ((L.take i ++ L.drop (i + 1)).map encX)] := by
 intro g w vs hrel hrd
 obtain ⟨u0, us, rfl, h1, hrd⟩ := hrd.uncons
 obtain ⟨u1, us, rfl, h2, hrd⟩ := hrd.uncons
 obtain ⟨u2, us, rfl, h3, hrd⟩ := hrd.uncons
 have e3 : us = [] := List.eq_nil_of_length_eq_zero hrd.1
 subst e3
 have hlv := h1.inv_ow
 have e1 := h2.inv_int
 have e2 := h3.inv_int
 subst e1 e2
 obtain ⟨own, ho⟩ := hrel.ex
 obtain ⟨v0, us, f1, f2, f3, f4, f5, f6⟩ := ho.obj id _ hS
 rw [hlv] at f1
 injection f1 with f1
 subst f1
 have hus := rds_encW f6
 subst hus
 have f2' : w.ownsRow g.B 9 1 u0 n (L.map encStr) := f2
 rcases f2.2 with ⟨hv0, hn0⟩ | ⟨b, cap, cur, hv0, hbB, hheap, hnc, hcm, hcs, htake⟩
 ·omega
 subst hv0
 obtain ⟨g2, cap2, q1, q2, q3, q4, q5, q6, q7⟩ := Lib.holds_of_ownsRow f2' (by simp)
 injection q1 with q1 _ q8
 injection q1 with q1
 injection q1 with q1
 subst q1 q8
 have hcall := Any.slices_Delete_string Tryz.laysDelete b 0 cap i (i + 1) L w q7 (by omega) q5 (by omega) (by omega)
 rw [hn] at hcall
 refine (callsIn_wide.2 hcall).mono ?_
 rintro e w' ⟨rfl, q, rfl⟩
 have hlen : (L.take i ++ L.drop (i + 1) ++ List.replicate (i + 1 - i) []).length = n := by simp; omega
 have how := Lib.ownsRow_putRow (q := q) (k := n - 1) f2' hlen (by omega)
 have htk : (L.take i ++ L.drop (i + 1) ++ List.replicate (i + 1 - i) []).take (n - 1) = L.take i ++ L.drop (i + 1) := by
  rw [List.take_append_of_le_length (by simp; omega), List.take_of_length_le (by simp; omega)]
 rw [htk] at how
 refine ⟨_, rfl, ?_⟩
 rw [show n - (i + 1 - i) = n - 1 by omega]
 refine gets_ow_cut hrel hS hlv (Lib.below_putRow (Below.refl _ _) hbB) (by simp [putRow, mapBlock, Sort.ahead]) (fun k hk => ?_) how (rds_ofW g w _) Vv
 simp [putRow, mapBlock, Sort.ahead, Array.getElem?_modify, show b ≠ k from fun h => hk h.symm]
end Go.Proofs.YtciimaabeabkdaaGreatDoor
end
namespace Go.MV
open Go Go.RowKit
def numB (n : Nat) : Bs := if h : n < 128 then [UInt8.ofNat n] else UInt8.ofNat (n % 128 + 128) :: numB (n / 128)
 termination_by n
 decreasing_by omega
def textB (s : Bs) : Bs := numB s.length ++ s
def xorI (h : Int) (b : UInt8) : Int := IntKind.u64.wrap (BitVec.ofInt IntKind.u64.bits h ^^^ BitVec.ofInt IntKind.u64.bits (b.toNat : Int)).toNat
def hashStep (h : Int) (b : UInt8) : Int := IntKind.u64.wrap (xorI h b * 1099511628211)
def hashB (l : Bs) : Int := l.foldl hashStep 14695981039346656037
def leB : Nat → Int → Bs
 | 0, _ => []
 | k + 1, h => UInt8.ofNat (IntKind.u8.wrap h).toNat :: leB k (h.fdiv (2 ^ min (8 : Int).toNat IntKind.u64.bits))
theorem leB_len : ∀ k h, (leB k h).length = k
 | 0, _ => rfl
 | k + 1, h => by rw [leB, zF0, leB_len k]
theorem numB_len {n : Nat} (h : n < 2097152) : 1 ≤ (numB n).length ∧ (numB n).length ≤ 3 := by
 rw [numB]
 split
 ·simp
 ·rw [numB]
  split
  ·simp
  ·rw [numB]
   split
   ·simp
   ·omega
theorem u8_toNat {n : Nat} (h : n < 256) : (UInt8.ofNat n).toNat = n := by simp [UInt8.toNat_ofNat']; omega
end Go.MV
