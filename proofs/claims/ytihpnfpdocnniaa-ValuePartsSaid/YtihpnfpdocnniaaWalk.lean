/-
  The rules as the walks use them: a state is what the callers own and a list of the call's own objects. No program.
-/
import Derived.Test.YtihpnfpdocnniaaDraw
import Derived.Test.YtihpnfpdocnniaaNum
set_option linter.unusedVariables false
set_option linter.unusedSimpArgs false
namespace Go.MV
open Go Go.RowKit

theorem getElem?_own (S L : MS) (k : Nat) : (S ++ L)[S.length + k]? = L[k]? := by
  rw [List.getElem?_append_right (by omega)]
  congr 1
  omega
theorem set_own (S L : MS) (k : Nat) (o : MObj) : (S ++ L).set (S.length + k) o = S ++ L.set k o := by
  rw [List.set_append_right _ _ (by omega)]
  congr 2
  omega

section
variable {P : Program} {rd : Option Nat} {o : Oper} {env : Env} {S L : MS} {K : MV → MS → Prop}

theorem op_box' {t : TypeId} {x : Operand} {m : MV} {k : Nat} {L' : MS} (ho : o.op = .box t x) (hx : evo env x = some m) (hk : L.length = k) (hL : L ++ [.cells m.cells] = L') (h : K (.ref (S.length + k) 0) (S ++ L')) : OpWp P rd o env (S ++ L) K := by
  refine op_box ho hx ?_
  subst hk; subst hL
  rw [List.length_append, List.append_assoc]
  exact h
theorem op_alloc' {t : TypeId} {l : List MV} {k : Nat} {L' : MS} (ho : o.op = .alloc t) (hz : zeroMV P t = some l) (hk : L.length = k) (hL : L ++ [.cells l] = L') (h : K (.ref (S.length + k) 0) (S ++ L')) : OpWp P rd o env (S ++ L) K := by
  refine op_alloc ho hz ?_
  subst hk; subst hL
  rw [List.length_append, List.append_assoc]
  exact h
theorem op_load' {t : TypeId} {x : Operand} {k off : Nat} {l : List MV} {ta : Option Nat} {m : MV} (ho : o.op = .load t x) (hx : evo env x = some (.ref (S.length + k) off)) (hσ : L[k]? = some (.cells l)) (ht : tyAgg P t = some ta) (hm : loadMV ta l off = some m) (h : K m (S ++ L)) : OpWp P rd o env (S ++ L) K :=
  op_load_ref ho hx (by rw [getElem?_own]; exact hσ) ht hm h

theorem op_load_far {t : TypeId} {x : Operand} {id off : Nat} {l : List MV} {ta : Option Nat} {m : MV} (ho : o.op = .load t x) (hx : evo env x = some (.ref id off)) (hσ : S[id]? = some (.cells l)) (ht : tyAgg P t = some ta) (hm : loadMV ta l off = some m) (h : K m (S ++ L)) : OpWp P rd o env (S ++ L) K :=
  op_load_ref ho hx (by rw [List.getElem?_append_left (List.getElem?_eq_some_iff.1 hσ).1]; exact hσ) ht hm h

/-! ### Stores -/

def setMany (l : List MV) (off : Nat) (cs : List MV) : List MV := l.take off ++ cs ++ l.drop (off + cs.length)
def MV.one : MV → Bool
  | .agg _ | .tup _ => false
  | _ => true
theorem one_cell {g : Gh} {w : World} {m : MV} {v : Value} (h : Rd g w m v) (h1 : m.one = true) : v.oneCell' = true := by
  cases h <;> first | rfl | (cases h1; done)

theorem Rel.store {g : Gh} {σ : MS} {w : World} (h : Rel g σ w) {id : Nat} {l cs : List MV} {us : List Value} {off : Nat} (hσ : σ[id]? = some (.cells l)) (hr : Rds g w cs us) (hle : off + cs.length ≤ l.length) {b : Nat} (hb : g.bk id = some b) {old : List Value} {ty : TypeId} (hold : w.heap[b]? = some (.cells old.toArray ty (0, 0))) :
    Rel g (σ.set id (.cells (setMany l off cs))) (w.setRow b (old.take off ++ us ++ old.drop (off + us.length)).toArray) ∧
    Le g w g (w.setRow b (old.take off ++ us ++ old.drop (off + us.length)).toArray) := by
  obtain ⟨own, hown⟩ := h.ex
  have hob := hown.obj id _ hσ
  obtain ⟨b', us', ty', e1, e2, e3, e4, e5⟩ := hob
  rw [hb] at e2; injection e2 with e2; subst e2
  rw [hold] at e4
  injection e4 with e4
  injection e4 with e4 ety _
  subst ety
  have e4' : old = us' := by simpa using congrArg Array.toList e4
  subst e4'
  have hblt : b < w.heap.size := (Array.getElem?_eq_some_iff.1 hold).1
  have hne : ∀ c, c ≠ b → (w.setRow b (old.take off ++ us ++ old.drop (off + us.length)).toArray).heap[c]? = w.heap[c]? := fun c hc => by
    simp only [World.setRow, Array.getElem?_modify]
    rw [if_neg (fun e => hc e.symm)]
  have hbB : g.B ≤ b := (hown.lt id b e1).2.1
  have hl : Le g w g (w.setRow b (old.take off ++ us ++ old.drop (off + us.length)).toArray) := by
    refine ⟨⟨rfl, rfl, fun c k hk => ⟨hk, ?_⟩, fun _ _ h => h, fun _ _ _ h => h, by simp [World.setRow]⟩, fun c x hx => ?_⟩
    · have : c ≠ b := fun e => by subst e; omega
      exact World.cell?_of_block (w := w) (a := ⟨c, k, none⟩) (hne c this)
    · have : c ≠ b := fun e => by subst e; rw [hold] at hx; cases hx
      exact (hne c this).trans hx
  refine ⟨⟨⟨h.below.os, h.below.tape, h.below.output, by simpa [World.setRow] using h.below.size, fun k hk => (hne k (by omega)).trans (h.below.block k hk)⟩, h.base, fun c hc => h.fresh c (by simpa [World.setRow] using hc), fun i hi => h.bkn i (by simpa using hi), fun t k ht => h.lgn t k (by simpa using ht), own, ⟨fun i ob hi => ?_, hown.inj, fun i c hc => ?_⟩⟩, hl⟩
  · rw [List.getElem?_set] at hi
    by_cases e : id = i
    · subst e
      rw [if_pos rfl] at hi
      split at hi
      · injection hi with hi
        subst hi
        refine ⟨b, old.take off ++ us ++ old.drop (off + us.length), ty, e1, hb, e3, ?_, ?_⟩
        · exact setRow_heap w b _ _ ty _ hold
        · have h1 := (e5.mono hl).take off
          have h2 := (e5.mono hl).drop (off + us.length)
          have h3 := hr.mono hl
          have := (h1.append h3).append h2
          rw [setMany, ← hr.1]
          exact this
      · cases hi
    · rw [if_neg e] at hi
      refine (hown.obj i ob hi).keep0 hl.toLe0 (fun c hc => ⟨hne c (fun ec => ?_), rfl⟩) (fun _ => rfl)
      subst ec
      exact e (hown.inj _ _ _ e1 hc)
  · obtain ⟨h1, h2, h3⟩ := hown.lt i c hc
    exact ⟨by simpa using h1, h2, by simpa [World.setRow] using h3⟩

theorem op_store {σ : MS} {t : TypeId} {x y : Operand} {id off : Nat} {l : List MV} {m : MV} {k : Nat} (ho : o.op = .store t x y) (hx : evo env x = some (.ref id off)) (hy : evo env y = some m) (hσ : σ[id]? = some (.cells l)) (hk : szOf P t = some k) (hm : m.cells.length = k)
    (h1 : m.cells.all MV.one = true) (hle : off + k ≤ l.length) (h : K (.tup []) (σ.set id (.cells (setMany l off m.cells)))) : OpWp P rd o env σ K := by
  refine OpWp.of_skip (by simp [ho]) fun g w a hr hop => ?_
  obtain ⟨b, hb, e⟩ := (hop x (by simp [ho, Op.operands]) _ hx).inv_ref
  have hrd := hop y (by simp [ho, Op.operands]) _ hy
  obtain ⟨us, hus, hrds⟩ := rds_cells hrd
  obtain ⟨own, hown⟩ := hr.ex
  obtain ⟨b', old, ty, e1, e2, e3, e4, e5⟩ := hown.obj _ _ hσ
  rw [hb] at e2; injection e2 with e2; subst e2
  have hlen : us.length = k := by rw [hrds.1, hm]
  have hone : ∀ v ∈ us, v.oneCell' = true := by
    intro v hv
    obtain ⟨j, hj⟩ := List.getElem?_of_mem hv
    have hjl : j < m.cells.length := by rw [hm, ← hlen]; exact (List.getElem?_eq_some_iff.1 hj).1
    have := hrds.2 j _ v (List.getElem?_eq_getElem hjl) hj
    rw [List.all_eq_true] at h1
    exact one_cell this (h1 _ (List.getElem_mem hjl))
  have hrun := run_storeCells_at P b off ty us 0 old.toArray w e4 (by rw [hlen]; simpa [e5.1] using hle) hone
  obtain ⟨hrel, hl⟩ := hr.store hσ hrds (by rw [hm]; exact hle) hb e4
  refine ⟨_, ?_, .tup [], _, g, h, hrel, rd_undef _ _, hl⟩
  have hsz : (a.eval y).cells.size = k := by rw [hus]; simpa using hlen
  have hst : (storeVar t ⟨b, off, none⟩ (a.eval y)).run P w = (storeCells ⟨b, off, none⟩ us).run P w := by
    simp [storeVar, szOf_run hk, hsz, hus, hlen]
  simp only [execOp, ho, e, Instr.storeAt, Instr.sureAddr, Sem.run_bind, Sem.run_pure, Result.andThen_ok, hst, hrun, Nat.add_zero]

theorem op_store' {t : TypeId} {x y : Operand} {i off : Nat} {l : List MV} {m : MV} {k : Nat} {L' : MS} (ho : o.op = .store t x y) (hx : evo env x = some (.ref (S.length + i) off)) (hy : evo env y = some m) (hσ : L[i]? = some (.cells l)) (hk : szOf P t = some k) (hm : m.cells.length = k)
    (h1 : m.cells.all MV.one = true) (hle : off + k ≤ l.length) (hL : L.set i (.cells (setMany l off m.cells)) = L') (h : K (.tup []) (S ++ L')) : OpWp P rd o env (S ++ L) K := by
  refine op_store ho hx hy (by rw [getElem?_own]; exact hσ) hk hm h1 hle ?_
  rw [set_own, hL]
  exact h
end

/-! ### Facts, cuts, loops -/

inductive EnvSub (env : Env) : Env → Prop where
  | nil : EnvSub env []
  | cons {t : Nat} {x y : MV} {E : Env} : get env t = some x → Sub x y → EnvSub env E → EnvSub env ((t, y) :: E)
theorem EnvSub.get_ {env E : Env} (h : EnvSub env E) : ∀ t y, get E t = some y → ∃ x, get env t = some x ∧ Sub x y := by
  induction h with
  | nil => exact fun t y hy => by cases hy
  | cons h1 h2 _ ih =>
    rename_i t x y E _
    intro s z hz
    by_cases e : t = s
    · subst e
      rw [get_cons_self] at hz
      injection hz with hz
      subst hz
      exact ⟨x, h1, h2⟩
    · rw [get_cons_ne _ _ e] at hz
      exact ih s z hz
theorem EnvSub.keep {env E : Env} {t : Nat} {x : MV} (h : get env t = some x) (hs : EnvSub env E) : EnvSub env ((t, x) :: E) := .cons h (.refl x) hs
theorem EnvSub.eq {env E : Env} {t : Nat} {x y : MV} (h : get env t = some x) (e : x = y) (hs : EnvSub env E) : EnvSub env ((t, y) :: E) := .cons h (e ▸ .refl x) hs

inductive EnvTo (n : Nat) (env E0 : Env) : Env → Prop where
  | nil : EnvTo n env E0 []
  | old {t : Nat} {x : MV} {E : Env} : get env t = some x → get E0 t = some x → EnvTo n env E0 E → EnvTo n env E0 ((t, x) :: E)
  | new {t : Nat} {x y : MV} {E : Env} : get env t = some x → Sub x y → Cl n y → EnvTo n env E0 E → EnvTo n env E0 ((t, y) :: E)
theorem EnvTo.new' {n : Nat} {env E0 E : Env} {t : Nat} {x y : MV} (h : get env t = some x) (e : x = y) (hc : Cl n y) (hs : EnvTo n env E0 E) : EnvTo n env E0 ((t, y) :: E) := .new h (e ▸ .refl x) hc hs
theorem EnvTo.sub {n : Nat} {env E0 E : Env} (h : EnvTo n env E0 E) : EnvSub env E := by
  induction h with
  | nil => exact .nil
  | old h1 h2 _ ih => exact .keep h1 ih
  | new h1 h2 h3 _ ih => exact .cons h1 h2 ih
theorem EnvTo.cl {n : Nat} {env E0 E : Env} (h : EnvTo n env E0 E) (h0 : ∀ t x, get E0 t = some x → Cl n x) : ∀ t x, get E t = some x → Cl n x := by
  induction h with
  | nil => exact fun t y hy => by cases hy
  | old h1 h2 _ ih =>
    rename_i t x E _
    intro s z hz
    by_cases e : t = s
    · subst e
      rw [get_cons_self] at hz
      injection hz with hz
      subst hz
      exact h0 _ _ h2
    · rw [get_cons_ne _ _ e] at hz
      exact ih s z hz
  | new h1 h2 h3 _ ih =>
    rename_i t x y E _
    intro s z hz
    by_cases e : t = s
    · subst e
      rw [get_cons_self] at hz
      injection hz with hz
      subst hz
      exact h3
    · rw [get_cons_ne _ _ e] at hz
      exact ih s z hz

/-- Objects at a loop's head, as they were at the head before or closed. -/
inductive LTo (n : Nat) : MS → MS → Prop where
  | nil : LTo n [] []
  | same {o : MObj} {L L' : MS} : LTo n L L' → LTo n (o :: L) (o :: L')
  | new {o o' : MObj} {L L' : MS} : o'.cl n → LTo n L L' → LTo n (o :: L) (o' :: L')
theorem LTo.refl (n : Nat) : ∀ L : MS, LTo n L L
  | [] => .nil
  | o :: L => .same (LTo.refl n L)
theorem LTo.length {n : Nat} {L L' : MS} (h : LTo n L L') : L'.length = L.length := by
  induction h with
  | nil => rfl
  | same _ ih => simp [ih]
  | new _ _ ih => simp [ih]
theorem LTo.cl {n : Nat} {L L' : MS} (h : LTo n L L') (h0 : ∀ (k : Nat) (o : MObj), L[k]? = some o → o.cl n) : ∀ (k : Nat) (o : MObj), L'[k]? = some o → o.cl n := by
  induction h with
  | nil => exact fun k o ho => by simp at ho
  | same _ ih =>
    intro k o ho
    cases k with
    | zero => exact h0 0 o ho
    | succ k => exact ih (fun j p hp => h0 (j + 1) p (by simpa using hp)) k o (by simpa using ho)
  | new h1 _ ih =>
    intro k o ho
    cases k with
    | zero => simp at ho; subst ho; exact h1
    | succ k => exact ih (fun j p hp => h0 (j + 1) p (by simpa using hp)) k o (by simpa using ho)

section
variable {P : Program} {rd : Option Nat} {N n : Nat} {Q : Exit → Env → MS → Prop} {env : Env} {σ S : MS} {c : Code}

theorem mwp_facts (h : (∀ t x, get env t = some x → Cl σ.length x) → ClS σ → mwp P rd N n c Q env σ) : mwp P rd N n c Q env σ := by
  intro g w a F m0 hF hr he hn hm
  refine h (fun t x hx => ?_) hr.cls g w a F m0 hF hr he hn hm
  obtain ⟨v, _, hrd⟩ := he t x hx
  exact hrd.cl hr.bkn hr.lgn

def EnvSubG (env E : Env) : Prop := ∀ t y, get E t = some y → ∃ x, get env t = some x ∧ Sub x y
theorem mwp_cut {junk : MS} {env' : Env} (hN : N ≤ σ.length) (hs : EnvSubG env env') (hc : ∀ t x, get env' t = some x → Cl σ.length x) (hcs : ClS σ) (h : mwp P rd N n c Q env' σ) : mwp P rd N n c Q env (σ ++ junk) := by
  refine mwp_ghost (fun g w tmps hr he => ⟨g.cut σ.length, hr.cut' hcs, fun t y hy => ?_, ?_, fun F hF => ?_⟩) h
  · obtain ⟨x, hx, hsub⟩ := hs t y hy
    obtain ⟨v, hv, hr⟩ := he t x hx
    exact ⟨v, hv, (hsub _ _ _ hr).cut (hc t y hy)⟩
  · exact ⟨rfl, rfl, fun _ _ h => ⟨h, rfl⟩, fun id b hid hb => by simp only [Gh.cut]; rw [if_pos (by omega)]; exact hb, fun t n v ht hv => by simp only [Gh.cut]; rw [if_pos (by omega)]; exact hv, Nat.le_refl _, fun _ _ h => h⟩
  · cases rd with
    | none => exact hF
    | some id =>
      obtain ⟨hid, b, hb, e⟩ := hF
      exact ⟨hid, b, by simp only [Gh.cut]; rw [if_pos (by omega)]; exact hb, e⟩

theorem mwp_cond_t {x : Operand} {a b : Code} {t : Bool} (hc : evo env x = some (.bool t)) (ht : t = true) (h : mwp P rd N n a Q env σ) : mwp P rd N n (.cond x a b) Q env σ := by
  subst ht; exact mwp_cond hc h
theorem mwp_cond_f {x : Operand} {a b : Code} {t : Bool} (hc : evo env x = some (.bool t)) (ht : t = false) (h : mwp P rd N n b Q env σ) : mwp P rd N n (.cond x a b) Q env σ := by
  subst ht; exact mwp_cond hc h

/-- A loop whose rounds make no objects that stay. -/
theorem mwp_loop0 {α : Type} {L0 : MS} (E : α → Env) (L : α → MS) (I : α → Prop) (m : α → Nat) (x₀ : α) (h₀ : I x₀) (hL : L0 = L x₀) (hE : EnvSub env (E x₀))
    (round : ∀ x, I x → mwp P rd N n c (ThenM (fun env' σ' => ∃ y, m y < m x ∧ I y ∧ σ' = S ++ L y ∧ EnvSub env' (E y)) Q) (E x) (S ++ L x)) : mwp P rd N n (.loop c) Q env (S ++ L0) := by
  subst hL
  refine mwp_loop (fun x env' σ' => I x ∧ σ' = S ++ L x ∧ EnvSub env' (E x)) m x₀ ⟨h₀, rfl, hE⟩ ?_
  rintro x env' σ' ⟨hI, rfl, hE⟩
  exact mwp_env hE.get_ (round x hI)

/-- A loop whose rounds make objects that are forgotten. -/
theorem mwp_loopJ {α : Type} {L0 : MS} (E : α → Env) (L : α → MS) (I : α → Prop) (m : α → Nat) (x₀ : α) (hN : N ≤ S.length) (h₀ : I x₀) (hL : L0 = L x₀) (hE : EnvSub env (E x₀))
    (round : ∀ x, I x → mwp P rd N n c (ThenM (fun env' σ' => ∃ y junk, m y < m x ∧ I y ∧ σ' = S ++ (L y ++ junk) ∧ LTo (S.length + (L x).length) (L x) (L y) ∧ EnvTo (S.length + (L x).length) env' (E x) (E y)) Q) (E x) (S ++ L x)) : mwp P rd N n (.loop c) Q env (S ++ L0) := by
  subst hL
  refine mwp_env hE.get_ ?_
  refine mwp_facts fun hc hcs => ?_
  refine mwp_loop (fun x env' σ' => I x ∧ ∃ junk, σ' = S ++ (L x ++ junk) ∧ EnvSubG env' (E x) ∧ (∀ t y, get (E x) t = some y → Cl (S ++ L x).length y) ∧ ClS (S ++ L x)) m x₀ ⟨h₀, [], by simp, fun t y hy => ⟨y, hy, .refl y⟩, hc, hcs⟩ ?_
  · rintro x env' σ' ⟨hI, junk, rfl, hE, hcl, hcs⟩
    rw [← List.append_assoc]
    refine mwp_cut (by simp; omega) hE hcl hcs (mwp_mono (round x hI) ?_)
    rintro e env2 σ2 hq
    cases e with
    | normal =>
      obtain ⟨y, junk, h1, h2, h3, h4, h5⟩ := hq
      have hlen : (S ++ L y).length = (S ++ L x).length := by simp [h4.length]
      have hlx : (S ++ L x).length = S.length + (L x).length := by simp
      refine ⟨y, h1, h2, junk, h3, h5.sub.get_, ?_, ?_⟩
      · rw [hlen, hlx]
        exact h5.cl (by rw [← hlx]; exact hcl)
      · intro id o ho
        rw [hlen]
        rcases Nat.lt_or_ge id S.length with hlt | hge
        · rw [List.getElem?_append_left hlt] at ho
          exact hcs id o (by rw [List.getElem?_append_left hlt]; exact ho)
        · rw [List.getElem?_append_right hge] at ho
          rw [hlx]
          refine h4.cl (fun k p hp => ?_) _ o ho
          rw [← hlx]
          exact hcs (S.length + k) p (by rw [getElem?_own]; exact hp)
    | exit id => exact hq
    | goto l => exact hq
    | ret => exact hq
    | panic ch => exact hq
    | outgrown => exact hq
end
end Go.MV
