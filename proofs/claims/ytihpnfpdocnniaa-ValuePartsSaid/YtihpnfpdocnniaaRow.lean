/-
  The rules for slices: cuts, literals, append. No program.
-/
import Derived.Test.YtihpnfpdocnniaaWalk
import Derived.Great.BuildSlice
set_option linter.unusedVariables false
set_option linter.unusedSimpArgs false
namespace Go.MV
open Go Go.RowKit

section
variable {P : Program} {rd : Option Nat} {o : Oper} {env : Env} {σ : MS} {K : MV → MS → Prop}

def elemOk (P : Program) (e sz bytes : Nat) : Bool :=
  match P.info? e with
  | some i => match i.zero with
    | some z => Nat.beq i.size sz && Nat.beq i.bytes bytes && Nat.beq z.cells.size sz && Nat.blt 0 sz
    | none => false
  | none => false
theorem elemOk_spec {e sz bytes : Nat} (h : elemOk P e sz bytes = true) : ∃ i z, P.info? e = some i ∧ i.zero = some z ∧ i.size = sz ∧ i.bytes = bytes ∧ z.cells.size = sz ∧ 0 < sz := by
  unfold elemOk at h
  split at h
  · rename_i i hi
    split at h
    · rename_i z hz
      simp only [Bool.and_eq_true] at h
      exact ⟨i, z, hi, hz, Nat.eq_of_beq_eq_true h.1.1.1, Nat.eq_of_beq_eq_true h.1.1.2, Nat.eq_of_beq_eq_true h.1.2, by simpa using h.2⟩
    · cases h
  · cases h

/-! ### Cuts -/

theorem flat_drop {sz : Nat} : ∀ (xs : List MV) (k : Nat), (∀ x ∈ xs, x.cells.length = sz) → flat (xs.drop k) = (flat xs).drop (k * sz)
  | xs, 0, _ => by simp
  | [], k + 1, _ => by simp [flat]
  | x :: xs, k + 1, h => by
    rw [List.drop_succ_cons, flat_drop xs k (fun y hy => h y (List.mem_cons_of_mem _ hy)), flat_cons]
    have hx := h x (List.mem_cons_self ..)
    rw [show (k + 1) * sz = x.cells.length + k * sz by rw [hx, Nat.add_mul]; omega, ← List.drop_drop, List.drop_left]
theorem flat_take {sz : Nat} : ∀ (xs : List MV) (k : Nat), (∀ x ∈ xs, x.cells.length = sz) → flat (xs.take k) = (flat xs).take (k * sz)
  | xs, 0, _ => by simp [flat]
  | [], k + 1, _ => by simp [flat]
  | x :: xs, k + 1, h => by
    have hx := h x (List.mem_cons_self ..)
    have e1 : x.cells.take ((k + 1) * sz) = x.cells := List.take_of_length_le (by rw [hx, Nat.add_mul]; omega)
    have e2 : (k + 1) * sz - x.cells.length = k * sz := by rw [hx, Nat.add_mul]; omega
    rw [List.take_succ_cons, flat_cons, flat_cons, flat_take xs k (fun y hy => h y (List.mem_cons_of_mem _ hy)), List.take_append, e1, e2]

inductive OptInt (env : Env) (d : Nat) : Option Operand → Nat → Prop where
  | none : OptInt env d none d
  | some {x : Operand} {k : IntKind} {n : Int} {m : Nat} : evo env x = some (.int k n) → n = (m : Int) → OptInt env d (some x) m

theorem add_add (a : Addr) (i j : Nat) : (a.add i).add j = a.add (i + j) := by
  unfold Addr.add
  by_cases h1 : i = 0 <;> by_cases h2 : j = 0 <;> simp [h1, h2, Nat.add_assoc]

theorem rd_cut {g : Gh} {w : World} {tok : Option Nat} {sz : Nat} {xs : List MV} {v : Value} (h : Rd g w (.lst tok sz xs) v) {l h' : Nat} (hl : l ≤ h') (hh : h' ≤ xs.length) :
    ∃ a c, v = .slice a xs.length c ∧ xs.length ≤ c ∧ Rd g w (.lst none sz ((xs.drop l).take (h' - l))) (.slice (if c = l then a else a.map (·.add (l * sz))) (h' - l) (c - l)) := by
  obtain ⟨a, c, us, rfl, h1, h2, h3, h4, h5, h6⟩ := h.inv_lst
  refine ⟨a, c, rfl, h1, ?_⟩
  have hmem : ∀ x ∈ (xs.drop l).take (h' - l), x.cells.length = sz := fun x hx => h3 x (List.mem_of_mem_drop (List.mem_of_mem_take hx))
  have hflat : flat ((xs.drop l).take (h' - l)) = ((flat xs).drop (l * sz)).take ((h' - l) * sz) := by
    rw [flat_take _ _ (fun x hx => h3 x (List.mem_of_mem_drop hx)), flat_drop _ _ h3]
  refine .lst' (by simp; omega) (by omega) (by omega) hmem (us := (us.drop (l * sz)).take ((h' - l) * sz)) ?_ (fun j u hu => ?_) (fun t ht => by cases ht)
  · rw [hflat]
    exact (h4.drop _).take _
  · rw [List.getElem?_take] at hu
    split at hu
    · rename_i hj
      rw [List.getElem?_drop] at hu
      obtain ⟨ad, ha, hs⟩ := h5 _ _ hu
      subst ha
      have hcl : c ≠ l := fun e => by
        have : h' - l = 0 := by omega
        rw [this] at hj
        omega
      refine ⟨ad.add (l * sz), by rw [if_neg hcl]; rfl, ?_⟩
      unfold Stab at hs ⊢
      rw [add_add]
      exact hs
    · cases hu

theorem op_slice {t e : TypeId} {x : Operand} {lo hi : Option Operand} {tok : Option Nat} {sz l h' : Nat} {xs : List MV} (ho : o.op = .slice t x lo hi none) (hu : P.underlying t = some (.slice e)) (hs : szOf P e = some sz) (hx : evo env x = some (.lst tok sz xs))
    (hlo : OptInt env 0 lo l) (hhi : OptInt env xs.length hi h') (hl : l ≤ h') (hh : h' ≤ xs.length) (h : K (.lst none sz ((xs.drop l).take (h' - l))) σ) : OpWp P rd o env σ K := by
  refine OpWp.of_run (by simp [ho]) fun g w a hr hop => ?_
  obtain ⟨ad, c, hv, hc, hrd⟩ := rd_cut (hop x (by simp [ho, Op.operands]) _ hx) hl hh
  refine ⟨_, w, ?_, .same h hr hrd⟩
  have e1 : ∀ (x' : Operand) (k : IntKind) (n : Int), lo = some x' → evo env x' = some (.int k n) → a.eval x' = .int k n := fun x' k n e he => (hop x' (by simp [ho, Op.operands, e]) _ he).inv_int
  have e2 : ∀ (x' : Operand) (k : IntKind) (n : Int), hi = some x' → evo env x' = some (.int k n) → a.eval x' = .int k n := fun x' k n e he => (hop x' (by simp [ho, Op.operands, e]) _ he).inv_int
  have hhc : h' ≤ c := by omega
  cases hlo with
  | none =>
    cases hhi with
    | none => simp [execOp, ho, Instr.sliceAt, Instr.slice, run_underlying hu, hv, Instr.sliceBounds, szOf_run hs]
    | some he en =>
      subst en
      simp [execOp, ho, Instr.sliceAt, Instr.slice, run_underlying hu, hv, Instr.sliceBounds, Instr.sliceBound, asIntOf, e2 _ _ _ rfl he, hhc, szOf_run hs]
  | some he en =>
    subst en
    cases hhi with
    | none => simp [execOp, ho, Instr.sliceAt, Instr.slice, run_underlying hu, hv, Instr.sliceBounds, Instr.sliceBound, asIntOf, e1 _ _ _ rfl he, hl, szOf_run hs]
    | some he' en' =>
      subst en'
      simp [execOp, ho, Instr.sliceAt, Instr.slice, run_underlying hu, hv, Instr.sliceBounds, Instr.sliceBound, asIntOf, e1 _ _ _ rfl he, e2 _ _ _ rfl he', hhc, hl, szOf_run hs]

/-! ### Literals -/

def partsOf (env : Env) : Nat → List (Nat × Operand) → Option (List MV)
  | _, [] => some []
  | k, (i, x) :: ps => match Nat.beq i k with
    | true => match evo env x with
      | some m => match partsOf env (k + 1) ps with
        | some ms => some (m :: ms)
        | none => none
      | none => none
    | false => none

theorem fold_set (off : Nat) : ∀ (cs : List Value) (k : Nat) (acc : Array Value), off + k + cs.length ≤ acc.size →
    ((cs.zipIdx k).foldl (fun a (p : Value × Nat) => a.setIfInBounds (off + p.2) p.1) acc).toList = acc.toList.take (off + k) ++ cs ++ acc.toList.drop (off + k + cs.length)
  | [], k, acc, _ => by simp
  | c :: cs, k, acc, h => by
    rw [List.zipIdx_cons, List.foldl_cons, fold_set off cs (k + 1) _ (by simp at h ⊢; omega)]
    simp only [Array.toList_setIfInBounds]
    have hk : off + k < acc.toList.length := by simp at h ⊢; omega
    have e1 : (acc.toList.set (off + k) c).take (off + (k + 1)) = acc.toList.take (off + k) ++ [c] := by
      rw [show off + (k + 1) = off + k + 1 by omega, List.take_succ_eq_append_getElem (by simpa using hk), List.take_set_of_le (by omega)]
      simp
    have e2 : (acc.toList.set (off + k) c).drop (off + (k + 1) + cs.length) = acc.toList.drop (off + k + (c :: cs).length) := by
      rw [List.drop_set_of_lt (by omega), List.length_cons]
      congr 1
      omega
    rw [e1, e2]
    simp

theorem fill_all {sz : Nat} : ∀ (vs : List Value) (k : Nat) (acc : Array Value), (∀ v ∈ vs, v.cells.size = sz) → k * sz + vs.length * sz ≤ acc.size →
    ∃ res, Instr.fill (fun i => some (i * sz, sz)) acc (vs.zipIdx k |>.map fun p => (p.2, p.1)) = some res ∧ res.toList = acc.toList.take (k * sz) ++ vs.flatMap (fun v => v.cells.toList) ++ acc.toList.drop (k * sz + vs.length * sz)
  | [], k, acc, _, _ => ⟨acc, rfl, by simp⟩
  | v :: vs, k, acc, h, hl => by
    have hv := h v (List.mem_cons_self ..)
    rw [List.length_cons, Nat.add_mul, Nat.one_mul] at hl
    have hstep : ((v.cells.zipIdx).foldl (fun cs (c, j) => cs.setIfInBounds (k * sz + j) c) acc).toList = acc.toList.take (k * sz) ++ v.cells.toList ++ acc.toList.drop (k * sz + sz) := by
      rw [← Array.foldl_toList, Array.toList_zipIdx]
      have := fold_set (k * sz) v.cells.toList 0 acc (by simp [hv]; omega)
      simp only [Nat.add_zero, Array.length_toList, hv] at this
      exact this
    have hsize : ((v.cells.zipIdx).foldl (fun cs (c, j) => cs.setIfInBounds (k * sz + j) c) acc).size = acc.size := by
      rw [← Array.length_toList, hstep]
      simp [hv]
      omega
    obtain ⟨res, h1, h2⟩ := fill_all vs (k + 1) _ (fun u hu => h u (List.mem_cons_of_mem _ hu)) (by rw [hsize, Nat.add_mul]; omega)
    refine ⟨res, ?_, ?_⟩
    · rw [List.zipIdx_cons, List.map_cons]
      simp only [Instr.fill]
      rw [if_neg (by simp [hv]; omega)]
      exact h1
    · rw [h2, hstep]
      have e1 : (acc.toList.take (k * sz) ++ v.cells.toList ++ acc.toList.drop (k * sz + sz)).take ((k + 1) * sz) = acc.toList.take (k * sz) ++ v.cells.toList := by
        rw [List.take_append_of_le_length (by simp [hv, Nat.add_mul]; omega), List.take_of_length_le (by simp [hv, Nat.add_mul]; omega)]
      have e2 : (acc.toList.take (k * sz) ++ v.cells.toList ++ acc.toList.drop (k * sz + sz)).drop ((k + 1) * sz + vs.length * sz) = acc.toList.drop (k * sz + (v :: vs).length * sz) := by
        have hlen : (acc.toList.take (k * sz) ++ v.cells.toList).length = (k + 1) * sz := by simp [hv, Nat.add_mul]; omega
        rw [List.drop_append, hlen, List.drop_eq_nil_of_le (by rw [hlen]; omega), List.nil_append, List.drop_drop]
        congr 1
        rw [List.length_cons, Nat.add_mul, Nat.add_mul]
        omega
      rw [e1, e2, List.flatMap_cons]
      simp

theorem partsOf_some {a : Act} : ∀ {k : Nat} {ps : List (Nat × Operand)} {ms : List MV}, partsOf env k ps = some ms →
    (∀ {g : Gh} {w : World}, (∀ p ∈ ps, ∀ m, evo env p.2 = some m → Rd g w m (a.eval p.2)) → Rds g w ms (ps.map fun p => a.eval p.2)) ∧ ps.map (fun p => (p.1, a.eval p.2)) = ((ps.map fun p => a.eval p.2).zipIdx k).map fun p => (p.2, p.1)
  | k, [], ms, h => by injection h with h; subst h; exact ⟨fun _ => .nil _ _, rfl⟩
  | k, (i, x) :: ps, ms, h => by
    simp only [partsOf] at h
    split at h
    · rename_i hb
      split at h
      · rename_i m hm
        split at h
        · rename_i ms' hms
          injection h with h
          subst h
          obtain ⟨h1, h2⟩ := partsOf_some (a := a) hms
          have hik := Nat.eq_of_beq_eq_true hb
          subst hik
          refine ⟨fun ho => .cons (ho _ (List.mem_cons_self ..) m hm) (h1 fun p hp => ho p (List.mem_cons_of_mem _ hp)), ?_⟩
          simp only [List.map_cons, List.zipIdx_cons, h2]
        · cases h
      · cases h
    · cases h

theorem flat_rds {g : Gh} {w : World} : ∀ {ms : List MV} {us : List Value}, Rds g w ms us → Rds g w (flat ms) (us.flatMap fun v => v.cells.toList)
  | [], us, h => by
    have : us = [] := List.eq_nil_of_length_eq_zero h.1
    subst this
    exact .nil _ _
  | m :: ms, us, h => by
    obtain ⟨u, us', rfl, h1, h2⟩ := h.uncons
    obtain ⟨cs, hc, hr⟩ := rds_cells h1
    rw [flat_cons, List.flatMap_cons, hc]
    exact hr.append (flat_rds h2)

def allOne (xs : List MV) : Bool := xs.all fun x => x.cells.all MV.one
theorem allOne_flat {xs : List MV} (h : allOne xs = true) : ∀ y ∈ flat xs, y.one = true := by
  intro y hy
  simp only [flat, List.mem_flatMap] at hy
  obtain ⟨x, hx, hy⟩ := hy
  simp only [allOne, List.all_eq_true] at h
  exact h x hx y hy

theorem rds_one {g : Gh} {w : World} {xs : List MV} {us : List Value} (h : Rds g w xs us) (h1 : ∀ y ∈ xs, y.one = true) : ∀ u ∈ us, u.oneCell' = true := by
  intro u hu
  obtain ⟨j, hj⟩ := List.getElem?_of_mem hu
  have hlt : j < xs.length := by rw [← h.1]; exact (List.getElem?_eq_some_iff.1 hj).1
  exact one_cell (h.2 j _ u (List.getElem?_eq_getElem hlt) hj) (h1 _ (List.getElem_mem hlt))

/-- A new stable row. -/
theorem gets_stable {g : Gh} {w : World} (hr : Rel g σ w) {ms : List MV} {us : List Value} {sz n : Nat} (ty : TypeId) (hsz : ∀ x ∈ ms, x.cells.length = sz) (hus : Rds g w (flat ms) us) (h1 : ∀ u ∈ us, u.oneCell' = true) (hn : ms.length = n) (hm : n ≤ maxLen) (h : K (.lst none sz ms) σ) :
    Gets g w K (.slice (some ⟨w.heap.size, 0, none⟩) n n) (w.alloc (.cells us.toArray ty)) := by
  have hl := Le.alloc_stab hr (.cells us.toArray ty) us.length
  refine ⟨_, σ, g.stab w.heap.size us.length, h, hr.alloc_stab _ _, .lst' hn (Nat.le_refl _) hm hsz (hus.mono hl) (fun j u hu => ⟨_, rfl, stab_new g w us ty hu (h1 u (List.mem_of_getElem? hu))⟩) (fun t ht => by cases ht), hl⟩

def allSz (sz : Nat) (ms : List MV) : Bool := ms.all fun x => Nat.beq x.cells.length sz
theorem allSz_spec {sz : Nat} {ms : List MV} (h : allSz sz ms = true) : ∀ x ∈ ms, x.cells.length = sz := fun x hx => by
  simp only [allSz, List.all_eq_true] at h
  exact Nat.eq_of_beq_eq_true (h x hx)

inductive SubE : List MV → List MV → Prop where
  | nil : SubE [] []
  | agg {l l' xs ys : List MV} : Subs l l' → SubE xs ys → SubE (.agg l :: xs) (.agg l' :: ys)
  | same {x : MV} {xs ys : List MV} : SubE xs ys → SubE (x :: xs) (x :: ys)
theorem Subs.append {a b c d : List MV} (h : Subs a b) (k : Subs c d) : Subs (a ++ c) (b ++ d) := by
  induction h with
  | nil => exact k
  | cons h1 _ ih => exact .cons h1 ih
theorem SubE.flat_ {xs ys : List MV} (h : SubE xs ys) : Subs (flat xs) (flat ys) ∧ ys.length = xs.length := by
  induction h with
  | nil => exact ⟨.nil, rfl⟩
  | agg h1 _ ih => exact ⟨h1.append ih.1, by simp [ih.2]⟩
  | same _ ih => exact ⟨(Subs.refl _).append ih.1, by simp [ih.2]⟩
theorem Sub.lstE {tok : Option Nat} {sz : Nat} {xs ys : List MV} (h : SubE xs ys) (hc : allSz sz ys = true) : Sub (.lst tok sz xs) (.lst tok sz ys) := Sub.lstOf h.flat_.1 h.flat_.2 (allSz_spec hc)

theorem op_buildSlice {t e n sz bytes : Nat} {parts : Array (Nat × Operand)} {ms : List MV} (ho : o.op = .buildSlice t n parts) (hu : P.underlying t = some (.slice e)) (he : elemOk P e sz bytes = true) (hp : partsOf env 0 parts.toList = some ms) (hn : ms.length = n) (hn0 : 0 < n) (hsm : n * sz ≤ 16777216)
    (hsz : allSz sz ms = true) (h1 : allOne ms = true) (h : K (.lst none sz ms) σ) : OpWp P rd o env σ K := by
  replace hsz := allSz_spec hsz
  refine OpWp.of_run (by simp [ho]) fun g w a hr hop => ?_
  obtain ⟨i, z, hi, hz, hs, hb, hzs, hpos⟩ := elemOk_spec he
  obtain ⟨k1, k2⟩ := partsOf_some (a := a) hp
  have hrds : Rds g w ms (parts.toList.map fun p => a.eval p.2) := k1 fun p hpm m hm => hop p.2 (by simp only [ho, Op.operands, List.mem_toArray, List.mem_map]; simp; exact ⟨p.1, by simpa using hpm⟩) m hm
  have hcs : ∀ v ∈ (parts.toList.map fun p => a.eval p.2), v.cells.size = sz := by
    intro v hv
    obtain ⟨j, hj⟩ := List.getElem?_of_mem hv
    have hlt : j < ms.length := by rw [← hrds.1]; exact (List.getElem?_eq_some_iff.1 hj).1
    obtain ⟨cs, hc, hr⟩ := rds_cells (hrds.2 j _ v (List.getElem?_eq_getElem hlt) hj)
    rw [hc]
    simp only [List.size_toArray, hr.1]
    exact hsz _ (List.getElem_mem hlt)
  have hlen : (parts.toList.map fun p => a.eval p.2).length = n := by rw [hrds.1, hn]
  obtain ⟨res, f1, f2⟩ := fill_all (sz := sz) (parts.toList.map fun p => a.eval p.2) 0 ((Array.range (n * sz)).map (z.cells[· % z.cells.size]!)) hcs (by rw [hlen]; simp)
  rw [hlen] at f2
  simp only [Nat.zero_mul, List.take_zero, List.nil_append, Nat.zero_add] at f2
  have f3 : ((Array.range (n * sz)).map (z.cells[· % z.cells.size]!)).toList.drop (n * sz) = [] := List.drop_eq_nil_of_le (by simp)
  rw [f3, List.append_nil] at f2
  have hres : res = ((parts.toList.map fun p => a.eval p.2).flatMap fun v => v.cells.toList).toArray := by
    rw [← f2]
  have hflat := flat_rds hrds
  have hnz : 0 < n * sz := Nat.mul_pos hn0 hpos
  refine ⟨_, _, ?_, gets_stable hr e hsz hflat (rds_one hflat (allOne_flat h1)) hn (by
    have : n * 1 ≤ n * sz := Nat.mul_le_mul_left n hpos
    simp only [maxLen]; omega) h⟩
  have hrun := run_buildSlice (P := P) w t e n (parts.map fun (i, x) => (i, a.eval x)) res i z hu hi hz (by rw [hs]; omega) (by rw [hs]; omega) (by
    rw [hs, ← f1]
    congr 1
    rw [← k2]
    simp)
  simp only [execOp, ho, Sem.run_bind, hrun, Result.andThen_ok, Sem.run_pure, hres]


/-! ### Struct literals -/

inductive BuildIs (P : Program) (env : Env) (t : TypeId) : List (Nat × Operand) → List MV → List MV → Prop where
  | nil {z : List MV} : BuildIs P env t [] z z
  | cons {i off k : Nat} {ft : TypeId} {x : Operand} {m : MV} {ps : List (Nat × Operand)} {z l : List MV} : fieldOff P t i = some (off, ft) → szOf P ft = some k → evo env x = some m → m.cells.length = k → off + k ≤ z.length → BuildIs P env t ps (setMany z off m.cells) l → BuildIs P env t ((i, x) :: ps) z l

theorem fill_build {t : TypeId} {g : Gh} {w : World} {a : Act} {place : Nat → Option (Nat × Nat)} (hpl : ∀ i off ft k, fieldOff P t i = some (off, ft) → szOf P ft = some k → place i = some (off, k)) {ps : List (Nat × Operand)} {z l : List MV} (h : BuildIs P env t ps z l) :
    (∀ p ∈ ps, ∀ m, evo env p.2 = some m → Rd g w m (a.eval p.2)) → ∀ (acc : Array Value), Rds g w z acc.toList → ∃ res, Instr.fill place acc (ps.map fun p => (p.1, a.eval p.2)) = some res ∧ Rds g w l res.toList := by
  induction h with
  | nil => exact fun _ acc hz => ⟨acc, rfl, hz⟩
  | cons h1 h2 h3 h4 h5 _ ih =>
    rename_i i off k ft x m ps z l _
    intro ho acc hz
    obtain ⟨us, hus, hr⟩ := rds_cells (ho _ (List.mem_cons_self ..) m h3)
    have hsz : (a.eval x).cells.size = k := by rw [hus, List.size_toArray, hr.1, h4]
    have hacc : acc.size = z.length := by rw [← Array.length_toList, hz.1]
    have hstep : (((a.eval x).cells.zipIdx).foldl (fun cs (c, j) => cs.setIfInBounds (off + j) c) acc).toList = acc.toList.take off ++ us ++ acc.toList.drop (off + us.length) := by
      rw [← Array.foldl_toList, Array.toList_zipIdx, hus]
      have := fold_set off us 0 acc (by rw [Nat.add_zero, hacc, hr.1, h4]; exact h5)
      simp only [Nat.add_zero] at this
      exact this
    obtain ⟨res, f1, f2⟩ := ih (fun p hp => ho p (List.mem_cons_of_mem _ hp)) _ (by
      rw [hstep, setMany, ← hr.1]
      exact ((hz.take off).append hr).append (hz.drop _))
    refine ⟨res, ?_, f2⟩
    rw [List.map_cons]
    simp only [Instr.fill, hpl _ _ _ _ h1 h2]
    rw [if_neg (by simp [hsz, hacc]; omega)]
    exact f1

theorem op_build {t : TypeId} {fs : Array Field} {parts : Array (Nat × Operand)} {z l : List MV} (ho : o.op = .build t parts) (hu : P.underlying t = some (.struct fs)) (hz : zeroMV P t = some z) (hb : BuildIs P env t parts.toList z l) (hall : fs.toList.all (fun f => (szOf P f.type).isSome) = true) (h : K (.agg l) σ) : OpWp P rd o env σ K := by
  refine OpWp.of_run (by simp [ho]) fun g w a hr hop => ?_
  obtain ⟨zv, hzr, hzd⟩ := zeroMV_some hz
  have hpl : ∀ i off ft k, fieldOff P t i = some (off, ft) → szOf P ft = some k → ((fs.map fun f => (f.offset, (szOf P f.type).getD 0))[i]?) = some (off, k) := by
    intro i off ft k h1 h2
    obtain ⟨fs', fd, ti, e1, e2, e3, e4, _⟩ := fieldOff_some h1
    rw [hu] at e1
    injection e1 with e1
    injection e1 with e1
    subst e1
    rw [Array.getElem?_map, e2]
    simp [e3, e4, h2]
  obtain ⟨res, f1, f2⟩ := fill_build (a := a) hpl hb (fun p hp m hm => hop p.2 (by simp only [ho, Op.operands, List.mem_toArray, List.mem_map]; exact ⟨p, hp, rfl⟩) m hm) zv.cells (hzd g w)
  have hmap : (fs.mapM (m := Sem) fun f => do pure (f.offset, ← sizeOf f.type)).run P w = .ok (fs.map fun f => (f.offset, (szOf P f.type).getD 0)) w := by
    rw [Array.mapM_eq_mapM_toList, map_eq_pure_bind]
    have : ∀ l : List Field, l.all (fun f => (szOf P f.type).isSome) = true → (l.mapM (m := Sem) fun f => do pure (f.offset, ← sizeOf f.type)).run P w = .ok (l.map fun f => (f.offset, (szOf P f.type).getD 0)) w := by
      intro l
      induction l with
      | nil => exact fun _ => rfl
      | cons f l ih =>
        intro hl
        simp only [List.all_cons, Bool.and_eq_true, Option.isSome_iff_exists] at hl
        obtain ⟨⟨k, hk⟩, hl⟩ := hl
        rw [List.mapM_cons]
        simp only [Sem.run_bind, szOf_run hk, Result.andThen_ok, Sem.run_pure, ih hl, List.map_cons, hk, Option.getD_some]
    simp only [Sem.run_bind, this _ hall, Result.andThen_ok, Function.comp, Sem.run_pure]
    congr 1
    apply Array.ext'
    simp
  have hparts : (parts.map fun (i, x) => (i, a.eval x)).toList = parts.toList.map fun p => (p.1, a.eval p.2) := by simp
  refine ⟨.agg res, w, ?_, .same h hr ?_⟩
  · simp only [execOp, ho, Instr.build, Sem.run_bind, hzr, Result.andThen_ok, run_underlying hu, hmap, hparts, f1, Sem.run_pure]
  · have : res = res.toList.toArray := by simp
    rw [this]
    exact .agg' f2

/-! ### max, min -/
theorem op_max2 {ts : Array TypeId} {x y : Operand} {k : IntKind} {m n : Int} (ho : o.op = .call { callee := .builtin .max, args := #[x, y], argTypes := ts }) (hx : evo env x = some (.int k m)) (hy : evo env y = some (.int k n)) (h : K (.int k (if n > m then n else m)) σ) : OpWp P rd o env σ K := by
  refine OpWp.of_run (by simp [ho]) fun g w a hr hop => ?_
  have e1 := (hop x (by simp [ho, Op.operands, Call.operands]) _ hx).inv_int
  have e2 := (hop y (by simp [ho, Op.operands, Call.operands]) _ hy).inv_int
  refine ⟨.int k (if n > m then n else m), w, ?_, .same h hr (.int _ _)⟩
  simp [execOp, ho, resolve, invoke, builtin, Builtin.max_, Builtin.max2, e1, e2]
theorem op_min2 {ts : Array TypeId} {x y : Operand} {k : IntKind} {m n : Int} (ho : o.op = .call { callee := .builtin .min, args := #[x, y], argTypes := ts }) (hx : evo env x = some (.int k m)) (hy : evo env y = some (.int k n)) (h : K (.int k (if n < m then n else m)) σ) : OpWp P rd o env σ K := by
  refine OpWp.of_run (by simp [ho]) fun g w a hr hop => ?_
  have e1 := (hop x (by simp [ho, Op.operands, Call.operands]) _ hx).inv_int
  have e2 := (hop y (by simp [ho, Op.operands, Call.operands]) _ hy).inv_int
  refine ⟨.int k (if n < m then n else m), w, ?_, .same h hr (.int _ _)⟩
  simp [execOp, ho, resolve, invoke, builtin, Builtin.min_, Builtin.min2, e1, e2]
end
end Go.MV
