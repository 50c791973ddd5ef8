/-
  A function's contract from its body; a store into an owned object; an append to an owned row. No program.
-/
import Derived.Test.YtihpnfpdocnniaaSt
set_option linter.unusedVariables false
set_option linter.unusedSimpArgs false
namespace Go.MV
open Go Go.RowKit

theorem Rd.cl {g : Gh} {w : World} {n : Nat} (hb : ∀ id, n ≤ id → g.bk id = none) (hlg : ∀ t k, n ≤ t → g.lg t k = none) {x : MV} {v : Value} (h : Rd g w x v) : Cl n x := by
  induction h with
  | bool b => exact .bool b
  | int k n => exact .int k n
  | str s => exact .str s
  | ptr0 => exact .ptr0
  | ref id off b h =>
    refine .ref id off ?_
    rcases Nat.lt_or_ge id n with hlt | hge
    · exact hlt
    · rw [hb id hge] at h; cases h
  | yld id b h =>
    refine .yld id ?_
    rcases Nat.lt_or_ge id n with hlt | hge
    · exact hlt
    · rw [hb id hge] at h; cases h
  | sptr cs ad us h1 h2 h3 ih =>
    refine .sptr cs fun x hx => ?_
    obtain ⟨j, hj⟩ := List.getElem?_of_mem hx
    obtain ⟨u, hu, _⟩ := Rds.get ⟨h1, h3⟩ hj
    exact ih j x u hj hu
  | lst0 => exact .lst0
  | lst tok sz xs a c us h1 h2 h3 h4 h5 h6 h7 ih =>
    refine .lst tok sz xs (fun t ht => ?_) fun x hx => ?_
    · rcases Nat.lt_or_ge t n with hlt | hge
      · exact hlt
      · have := h7 t ht; rw [hlg t _ hge] at this; cases this
    · obtain ⟨j, hj⟩ := List.getElem?_of_mem hx
      obtain ⟨u, hu, _⟩ := Rds.get ⟨h4, h6⟩ hj
      exact ih j x u hj hu
  | fn f xs ys us vs h1 h2 h3 h4 ih1 ih2 =>
    refine .fn f xs ys (fun x hx => ?_) fun x hx => ?_
    · obtain ⟨j, hj⟩ := List.getElem?_of_mem hx
      obtain ⟨u, hu, _⟩ := Rds.get ⟨h1, h2⟩ hj
      exact ih1 j x u hj hu
    · obtain ⟨j, hj⟩ := List.getElem?_of_mem hx
      obtain ⟨u, hu, _⟩ := Rds.get ⟨h3, h4⟩ hj
      exact ih2 j x u hj hu
  | fn0 => exact .fn0
  | iface t x v h ih => exact .iface t x ih
  | iface0 => exact .iface0
  | agg xs us h1 h2 ih =>
    refine .agg xs fun x hx => ?_
    obtain ⟨j, hj⟩ := List.getElem?_of_mem hx
    obtain ⟨u, hu, _⟩ := Rds.get ⟨h1, h2⟩ hj
    exact ih j x u hj hu
  | tup xs us h1 h2 ih =>
    refine .tup xs fun x hx => ?_
    obtain ⟨j, hj⟩ := List.getElem?_of_mem hx
    obtain ⟨u, hu, _⟩ := Rds.get ⟨h1, h2⟩ hj
    exact ih j x u hj hu

def MObj.cl (n : Nat) : MObj → Prop
  | .cells l => ∀ x ∈ l, Cl n x
  | .loop _ _ ls => ∀ (t : Nat) (x : MV), get ls.env t = some x → Cl n x
  | _ => True
def ClS (σ : MS) : Prop := ∀ (id : Nat) (o : MObj), σ[id]? = some o → o.cl σ.length

theorem Rel.cls {g : Gh} {σ : MS} {w : World} (h : Rel g σ w) : ClS σ := by
  intro id o ho
  obtain ⟨own, hown⟩ := h.ex
  have hob := hown.obj id o ho
  cases o with
  | cells l =>
    obtain ⟨b, us, ty, h1, h2, h3, h4, h5⟩ := hob
    intro x hx
    obtain ⟨j, hj⟩ := List.getElem?_of_mem hx
    obtain ⟨u, hu, hr⟩ := h5.get hj
    exact hr.cl h.bkn h.lgn
  | row ty sz n => trivial
  | loop s p ls =>
    obtain ⟨b, l, h1, h2, h3, h4, h5, h6, h7, h8, h9, h10⟩ := hob
    intro t x hx
    obtain ⟨v, hv, hr⟩ := h10 t x hx
    exact hr.cl h.bkn h.lgn
  | gone => trivial

theorem Rel.cut' {g : Gh} {σ junk : MS} {w : World} (h : Rel g (σ ++ junk) w) (hc : ClS σ) : Rel (g.cut σ.length) σ w := by
  refine h.cut fun id o ho => ?_
  have := hc id o ho
  cases o <;> exact this

/-! ### Loads -/

theorem add_off (b o j : Nat) : (⟨b, o, none⟩ : Addr).add j = ⟨b, o + j, none⟩ := by unfold Addr.add; split <;> simp_all

theorem run_isAgg {P : Program} {t : TypeId} {ta : Option Nat} (h : tyAgg P t = some ta) (w : World) : (isAgg t).run P w = .ok ta.isSome w ∧ ∀ k, ta = some k → (sizeOf t).run P w = .ok k w := by
  unfold tyAgg at h
  split at h
  · rename_i fs hu
    split at h
    · rename_i i hi
      injection h with h
      subst h
      refine ⟨by simp [isAgg, run_underlying hu], fun k hk => ?_⟩
      injection hk with hk
      subst hk
      simp [sizeOf, typeInfo, hi]
    · cases h
  · rename_i n e hu
    split at h
    · rename_i i hi
      injection h with h
      subst h
      refine ⟨by simp [isAgg, run_underlying hu], fun k hk => ?_⟩
      injection hk with hk
      subst hk
      simp [sizeOf, typeInfo, hi]
    · cases h
  · rename_i d hd1 hd2 hu
    injection h with h
    subst h
    refine ⟨?_, fun k hk => by cases hk⟩
    simp only [isAgg, Sem.run_bind, run_underlying hu, Result.andThen_ok]
    cases d <;> first | rfl | (exfalso; first | exact hd1 _ rfl | exact hd2 _ _ rfl)
  · cases h

/-- A load from an address where cells are known. -/
theorem run_loadVar_at {P : Program} {t : TypeId} {ta : Option Nat} (h : tyAgg P t = some ta) {g : Gh} {w : World} {ad : Addr} {l : List MV} {us : List Value} (hr : Rds g w l us) (hc : ∀ (j : Nat) (u : Value), us[j]? = some u → w.cell? (ad.add j) = some u) {m : MV}
    (hm : loadMV ta l 0 = some m) : ∃ v, (loadVar t ad).run P w = .ok v w ∧ Rd g w m v := by
  obtain ⟨h1, h2⟩ := run_isAgg h w
  cases ta with
  | none =>
    simp only [loadMV] at hm
    obtain ⟨u, hu, hx⟩ := hr.get hm
    refine ⟨u, ?_, hx⟩
    have hcell := hc 0 u hu
    rw [show ad.add 0 = ad from by unfold Addr.add; simp] at hcell
    simp only [loadVar, Sem.run_bind, h1, Result.andThen_ok, Option.isSome_none, Bool.false_eq_true, if_false]
    simp [hcell]
  | some k =>
    simp only [loadMV] at hm
    split at hm
    · rename_i hk
      injection hm with hm
      subst hm
      have hrun := run_loadCells_list (P := P) (w := w) ad (us.take k) (fun j v hv => by
        rw [List.getElem?_take] at hv
        split at hv
        · exact hc j v hv
        · cases hv)
      have hlen : (us.take k).length = k := by rw [List.length_take, hr.1]; omega
      rw [hlen] at hrun
      refine ⟨.agg (us.take k).toArray, ?_, .agg' ((hr.drop 0).take k)⟩
      simp only [loadVar, Sem.run_bind, h1, h2 k rfl, Result.andThen_ok, Option.isSome_some, if_true, hrun, Sem.run_pure]
    · cases hm

theorem loadMV_drop {ta : Option Nat} {l : List MV} {off : Nat} {m : MV} (h : loadMV ta l off = some m) : loadMV ta (l.drop off) 0 = some m := by
  cases ta with
  | none => simp only [loadMV] at h ⊢; rw [List.getElem?_drop]; simpa using h
  | some k =>
    simp only [loadMV] at h ⊢
    split at h
    · rename_i hk
      rw [if_pos (by rw [List.length_drop]; omega)]
      simpa using h
    · cases h

theorem cells_at {w : World} {b : Nat} {us : List Value} {ty : TypeId} {fr : Nat × Nat} (h : w.heap[b]? = some (.cells us.toArray ty fr)) (off j : Nat) {u : Value} (hu : (us.drop off)[j]? = some u) : w.cell? ((⟨b, off, none⟩ : Addr).add j) = some u := by
  rw [add_off]
  rw [List.getElem?_drop] at hu
  simp [World.cell?, h, hu]

/-! ### A function's results -/

inductive ResIs (P : Program) (env : Env) (σ : MS) : List ResultVar → List MV → Prop where
  | nil : ResIs P env σ [] []
  | tmp {t : Tmp} {x : MV} {rs : List ResultVar} {xs : List MV} : get env t = some x → ResIs P env σ rs xs → ResIs P env σ (.tmp t :: rs) (x :: xs)
  | cell {a : Tmp} {t : TypeId} {id off : Nat} {l : List MV} {ta : Option Nat} {x : MV} {rs : List ResultVar} {xs : List MV} : get env a = some (.ref id off) → σ[id]? = some (.cells l) → tyAgg P t = some ta → loadMV ta l off = some x →
      ResIs P env σ rs xs → ResIs P env σ (.cell a t :: rs) (x :: xs)

def resMV : List MV → MV
  | [x] => x
  | xs => .tup xs

def resSem (tmps : Array Value) : ResultVar → Sem Value
  | .tmp t => pure (tmps.getD t undef)
  | .cell a t => do loadVar t (← asAddr (tmps.getD a undef))
theorem results_eq (fn : Func) (tmps : Array Value) : results fn tmps = (fn.results.mapM (resSem tmps)).bind fun vs => Sem.pure (if h : vs.size = 1 then vs[0] else .tuple vs) := by
  unfold results
  refine congrArg (fun (m : Sem (Array Value)) => m.bind fun vs => Sem.pure (if h : vs.size = 1 then vs[0] else .tuple vs)) (congrArg (fun f => Array.mapM f fn.results) (funext fun r => ?_))
  cases r <;> rfl

theorem resIs_run {P : Program} {env : Env} {σ : MS} {g : Gh} {w : World} {tmps : Array Value} (hr : Rel g σ w) (he : EnvRd g w env tmps) : ∀ {rs : List ResultVar} {xs : List MV}, ResIs P env σ rs xs →
    ∃ us, Rds g w xs us ∧ (rs.mapM (resSem tmps)).run P w = .ok us w := by
  intro rs xs h
  induction h with
  | nil => exact ⟨[], .nil _ _, rfl⟩
  | tmp ht _ ih =>
    obtain ⟨us, h1, h2⟩ := ih
    obtain ⟨v, hv, hx⟩ := he _ _ ht
    refine ⟨v :: us, .cons hx h1, ?_⟩
    rw [List.mapM_cons]
    simp only [Sem.run_bind, resSem, Array.getD_eq_getD_getElem?, hv, Option.getD_some, Sem.run_pure, Result.andThen_ok, h2]
  | cell ha hσ hta hm _ ih =>
    obtain ⟨us, h1, h2⟩ := ih
    obtain ⟨v, hv, hx⟩ := he _ _ ha
    obtain ⟨b, hb, rfl⟩ := hx.inv_ref
    obtain ⟨own, hown⟩ := hr.ex
    obtain ⟨b', us', ty, e1, e2, e3, e4, e5⟩ := hown.obj _ _ hσ
    rw [hb] at e2
    injection e2 with e2
    subst e2
    obtain ⟨u, hu, hy⟩ := run_loadVar_at hta (e5.drop _) (fun j u hu => cells_at e4 _ j hu) (loadMV_drop hm)
    refine ⟨u :: us, .cons hy h1, ?_⟩
    rw [List.mapM_cons]
    rename_i a0 t0 id0 off0 l0 ta0 x0 rs0 xs0 _
    have ha : (asAddr (tmps.getD a0 undef)) = pure ⟨b, off0, none⟩ := by simp only [Array.getD_eq_getD_getElem?, hv, Option.getD_some, asAddr]
    simp only [Sem.run_bind, resSem, ha, Sem.run_pure, Result.andThen_ok, hu, h2]

theorem results_run {P : Program} {env : Env} {σ : MS} {g : Gh} {w : World} {tmps : Array Value} (hr : Rel g σ w) (he : EnvRd g w env tmps) {fn : Func} {xs : List MV} (h : ResIs P env σ fn.results.toList xs) :
    ∃ u, (results fn tmps).run P w = .ok u w ∧ Rd g w (resMV xs) u := by
  obtain ⟨us, h1, h2⟩ := resIs_run (P := P) hr he h
  have h3 : (fn.results.mapM (resSem tmps)).run P w = .ok us.toArray w := by
    rw [Array.mapM_eq_mapM_toList, map_eq_pure_bind]
    simp only [Sem.run_bind, h2, Result.andThen_ok, Function.comp, Sem.run_pure]
  rw [results_eq]
  have hl := h1.1
  match xs, us, hl with
  | [x], [u], _ =>
    obtain ⟨u', us', e, hx, _⟩ := h1.uncons
    injection e with e1 e2
    subst e1
    refine ⟨u, ?_, hx⟩
    simp only [Sem.run_bind', h3, Result.andThen_ok]
    simp [Sem.run]
  | [], [], _ =>
    refine ⟨.tuple #[], ?_, .tup' (.nil _ _)⟩
    simp only [Sem.run_bind', h3, Result.andThen_ok]
    simp [Sem.run]
  | x :: y :: xs, u :: v :: us, _ =>
    refine ⟨.tuple (u :: v :: us).toArray, ?_, .tup' h1⟩
    simp only [Sem.run_bind', h3, Result.andThen_ok]
    simp [Sem.run]

/-! ### The body -/

def argEnv : Nat → List MV → Env
  | _, [] => []
  | k, x :: xs => (k, x) :: argEnv (k + 1) xs
theorem argEnv_get : ∀ (xs : List MV) (k t : Nat) (x : MV), get (argEnv k xs) t = some x → k ≤ t ∧ xs[t - k]? = some x
  | [], k, t, x, h => by cases h
  | y :: xs, k, t, x, h => by
    by_cases e : k = t
    · subst e
      rw [argEnv, get_cons_self] at h
      simp [h]
    · rw [argEnv, get_cons_ne _ _ e] at h
      obtain ⟨h1, h2⟩ := argEnv_get xs (k + 1) t x h
      refine ⟨by omega, ?_⟩
      rw [show t - k = (t - (k + 1)) + 1 by omega, List.getElem?_cons_succ]
      exact h2

def BodyQ (P : Program) (fn : Func) (σ : MS) (R : MV → MS → Prop) (e : Exit) (env : Env) (σf : MS) : Prop :=
  (e = .normal ∨ e = .ret) ∧ ∃ xs y σ' junk, ResIs P env σf fn.results.toList xs ∧ Sub (resMV xs) y ∧ Cl σ'.length y ∧ σf = σ' ++ junk ∧ σ.length ≤ σ'.length ∧ (σ' = σ ∨ ClS σ') ∧ R y σ'

theorem takeDeferred_run (P : Program) (w : World) (r : Nat) (h : w.heap[r]? = some (Obj.deferred (some []))) : (Instr.takeDeferred r).run P w = .ok [] { w with heap := w.heap.setIfInBounds r (Obj.deferred none) } := by
  simp [Instr.takeDeferred, getObj, setObj, Sem.run, h, bind, Sem.bind, pure]

/-- A block of deferred calls is shut: nothing else turns. -/
theorem rel_deferred {g : Gh} {σ : MS} {w : World} (h : Rel g σ w) {r : Nat} (hr : w.heap[r]? = some (Obj.deferred (some []))) (hB : g.B ≤ r) : Rel g σ { w with heap := w.heap.setIfInBounds r (Obj.deferred none) } ∧
    Le0 g w g { w with heap := w.heap.setIfInBounds r (Obj.deferred none) } ∧ ∀ b, b ≠ r → ({ w with heap := w.heap.setIfInBounds r (Obj.deferred none) } : World).heap[b]? = w.heap[b]? := by
  have hne : ∀ b, b ≠ r → ({ w with heap := w.heap.setIfInBounds r (Obj.deferred none) } : World).heap[b]? = w.heap[b]? := fun b hb => by
    show (w.heap.setIfInBounds r _)[b]? = _
    rw [Array.getElem?_setIfInBounds_ne (fun e => hb e.symm)]
  have hcell : ∀ a : Addr, ({ w with heap := w.heap.setIfInBounds r (Obj.deferred none) } : World).cell? a = w.cell? a := by
    intro a
    by_cases e : a.block = r
    · have hlt : r < w.heap.size := (Array.getElem?_eq_some_iff.1 hr).1
      simp [World.cell?, e, hr, Array.getElem?_setIfInBounds_self_of_lt hlt]
    · exact World.cell?_of_block (w := w) (hne _ e)
  have hl : Le0 g w g { w with heap := w.heap.setIfInBounds r (Obj.deferred none) } := ⟨rfl, rfl, fun b k hk => ⟨hk, hcell _⟩, fun _ _ h => h, fun _ _ _ h => h, by simp⟩
  refine ⟨⟨⟨h.below.os, h.below.tape, h.below.output, by simpa using h.below.size, fun k hk => (hne k (by omega)).trans (h.below.block k hk)⟩, h.base, fun b hb => h.fresh b (by simpa using hb), h.bkn, h.lgn, ?_⟩, hl, hne⟩
  obtain ⟨own, ho⟩ := h.ex
  refine ⟨own, ho.keep0 hl (fun id b e => ⟨hne b ?_, rfl⟩) (fun _ _ => rfl)⟩
  intro eb
  subst eb
  obtain ⟨h1, _, _⟩ := ho.lt id b e
  have hob := ho.obj id _ (List.getElem?_eq_getElem h1)
  cases hσ : σ[id] with
  | cells l =>
    rw [hσ] at hob
    obtain ⟨b', us, ty, e1, e2, e3, e4, e5⟩ := hob
    rw [e] at e1; injection e1 with e1; subst e1
    rw [hr] at e4; cases e4
  | row ty sz n =>
    rw [hσ] at hob
    obtain ⟨v, us, e1, e2, e3, e4⟩ := hob
    rcases e2.2 with ⟨hv, _⟩ | ⟨b', cap, cur, hv, hb', hh, _⟩
    · rw [hv, e] at e3; cases e3
    · rw [hv, e] at e3
      injection e3 with e3
      subst e3
      rw [hr] at hh; cases hh
  | loop s p ls =>
    rw [hσ] at hob
    obtain ⟨b', l, e1, e2, e3, _⟩ := hob
    rw [e] at e1; injection e1 with e1; subst e1
    rw [hr] at e3; cases e3
  | gone =>
    rw [hσ] at hob
    rw [show own id = none from hob] at e
    cases e

theorem leaves_marks {P : Program} {fn : Func} {tmps : Array Value} {g0 g : Gh} {w0 : World} {σ : MS} {env : Env} {xs : List MV} {y : MV} {R : MV → MS → Prop} {σ' junk : MS} (hres : ResIs P env σ fn.results.toList xs) (hsub : Sub (resMV xs) y) (hcl : Cl σ'.length y) (hσ : σ = σ' ++ junk) (hlen : ∀ id, σ'.length ≤ id → g0.bk id = none)
    (hlen2 : ∀ t k, σ'.length ≤ t → g0.lg t k = none) (hcs : ClS σ') (hR : R y σ') : ∀ (ds : List Deferred) (w : World), Rel g σ w → EnvRd g w env tmps → Le0 g0 w0 g w → (∀ (b : Nat) (x : Option (List Deferred)), w0.heap[b]? = some (Obj.deferred x) → w.heap[b]? = some (Obj.deferred x)) →
    (∀ d ∈ ds, ∃ r, w0.heap.size ≤ r ∧ d = { target := .collected r, args := #[] } ∧ w.heap[r]? = some (Obj.deferred (some []))) → (ds.Pairwise fun d e => ∀ r s, d.target = .collected r → e.target = .collected s → r ≠ s) → g.B ≤ w0.heap.size →
    LeavesInM Fence.wide 0 P fn tmps (fun e w' => ∃ v, e = .returned v ∧ Gets g0 w0 R v w') ds .returning w
  | [], w, hr, he, hl, hk, hd, hp, hB => by
    obtain ⟨u, hu, hx⟩ := results_run hr he hres
    subst hσ
    exact ⟨u, hu, u, rfl, y, σ', g.cut σ'.length, hR, hr.cut' hcs, (hsub _ _ _ hx).cut hcl, Le.cut ⟨hl, hk⟩ hlen hlen2⟩
  | d :: ds, w, hr, he, hl, hk, hd, hp, hB => by
    obtain ⟨r, hr0, rfl, hrw⟩ := hd d (List.mem_cons_self ..)
    obtain ⟨hrel, hle, hne⟩ := rel_deferred hr hrw (Nat.le_trans hB hr0)
    have hpc := List.pairwise_cons.1 hp
    refine ⟨by simp, .inl ⟨r, _, rfl, takeDeferred_run P w r hrw, ?_⟩⟩
    refine leaves_marks hres hsub hcl hσ hlen hlen2 hcs hR ds _ hrel (he.mono0 hle) (hl.trans hle) (fun b x hx => ?_) (fun d hd' => ?_) hpc.2 hB
    · have hlt : b < w0.heap.size := (Array.getElem?_eq_some_iff.1 hx).1
      exact (hne b (by omega)).trans (hk b x hx)
    · obtain ⟨s, hs0, rfl, hsw⟩ := hd d (List.mem_cons_of_mem _ hd')
      have := hpc.1 _ hd' r s rfl rfl
      exact ⟨s, hs0, rfl, (hne s (fun e => this e.symm)).trans hsw⟩

/-- A function's contract from its body. -/
theorem mcalls_of_body {P : Program} {f : FuncId} {fn : Func} {c : Code} {args : List MV} {σ : MS} {R : MV → MS → Prop} {n : Nat} (hf : P.funcs[f]? = some fn) (hb : fn.body = some c) (hn : fn.ntmps = n) (ha : args.length ≤ n)
    (h : mwp P none σ.length n c (BodyQ P fn σ R) (argEnv 0 args) σ) : MCalls P f args σ R := by
  intro g w vs hrel hrd
  refine callsIn_of_wp_marks hf hb trivial ?_ rfl
  have hsz : vs.toArray.size = args.length := by simpa using hrd.1
  refine wpIn_mono (h g w { tmps := vs.toArray ++ Array.replicate (fn.ntmps - vs.toArray.size) undef, defers := [] } Fence.wide w.heap.size rfl hrel ?_ ?_ (Marks.nil w)) ?_
  · intro t x hx
    obtain ⟨_, hx⟩ := argEnv_get args 0 t x hx
    obtain ⟨v, hv, hr⟩ := hrd.get (by simpa using hx)
    refine ⟨v, ?_, hr⟩
    have hlt : t < vs.toArray.size := by simpa using (List.getElem?_eq_some_iff.1 hv).1
    show (vs.toArray ++ _)[t]? = _
    rw [Array.getElem?_append_left hlt]
    simpa using hv
  · simp only [Array.size_append, Array.size_replicate, hsz, hn]
    omega
  · rintro e a' w' ⟨env', σf, g', ⟨he, xs, y, σ', junk, h1, h2, h3, h4, h5, h6, h7⟩, hrel', henv, hle, hsize, hmarks⟩
    have hle := hle.le hrel.bkn hrel.lgn
    have key : LeavesInM Fence.wide 0 P fn a'.tmps (fun e w' => ∃ v, e = .returned v ∧ Gets g w R v w') a'.defers .returning w' :=
      leaves_marks h1 h2 h3 h4 (fun id hid => hrel.bkn id (by omega)) (fun t k ht => hrel.lgn t k (by omega)) (by
        rcases h6 with e | h6
        · rw [e]; exact hrel.cls
        · exact h6) h7 a'.defers w' hrel' henv hle.toLe0 hle.kept hmarks.2.1 hmarks.2.2 (by rw [hle.B]; exact hrel.size)
    rcases he with rfl | rfl
    · exact key
    · exact key
end Go.MV
