/-
  The rules for single operations: loads, stores, new variables, fields, indexes, numbers, tests, calls. No program.
-/
import Derived.Test.YtihpnfpdocnniaaFn
set_option linter.unusedVariables false
set_option linter.unusedSimpArgs false
namespace Go.MV
open Go Go.RowKit

section
variable {P : Program} {rd : Option Nat} {o : Oper} {env : Env} {σ : MS} {K : MV → MS → Prop}

def Opd (g : Gh) (w : World) (a : Act) (env : Env) (o : Oper) : Prop := ∀ x ∈ o.op.operands, ∀ m, evo env x = some m → Rd g w m (a.eval x)

theorem OpWp.of_run (hd : ∀ c, o.op ≠ .defer c) (h : ∀ (g : Gh) (w : World) (a : Act), Rel g σ w → Opd g w a env o → ∃ v w', (execOp a.eval o).run P w = .ok (.value v) w' ∧ Gets g w K v w') : OpWp P rd o env σ K := by
  intro g w a F hF hr ho
  obtain ⟨v, w', hrun, hg⟩ := h g w a hr ho
  refine ⟨fun f _ => hF.fn f, ?_⟩
  rw [Oper.semAt_eq _ _ _ hd, hrun]
  exact ⟨v, rfl, hg⟩
theorem OpWp.of_skip (hd : ∀ c, o.op ≠ .defer c) (h : ∀ (g : Gh) (w : World) (a : Act), Rel g σ w → Opd g w a env o → ∃ w', (execOp a.eval o).run P w = .ok .skip w' ∧ Gets g w K undef w') : OpWp P rd o env σ K := by
  intro g w a F hF hr ho
  obtain ⟨w', hrun, hg⟩ := h g w a hr ho
  refine ⟨fun f _ => hF.fn f, ?_⟩
  rw [Oper.semAt_eq _ _ _ hd, hrun]
  exact ⟨undef, rfl, hg⟩
theorem Gets.same {g : Gh} {w : World} {v : Value} {m : MV} (h : K m σ) (hr : Rel g σ w) (hx : Rd g w m v) : Gets g w K v w := ⟨m, σ, g, h, hr, hx, .refl _ _⟩

theorem op_move {x : Operand} {m : MV} (ho : o.op = .move x) (hx : evo env x = some m) (h : K m σ) : OpWp P rd o env σ K := by
  refine OpWp.of_run (by simp [ho]) fun g w a hr hop => ⟨a.eval x, w, ?_, .same h hr (hop x (by simp [ho, Op.operands]) m hx)⟩
  simp only [execOp, ho, Sem.run_pure]
theorem op_assign {x : Operand} {m : MV} (ho : o.op = .assign x) (hx : evo env x = some m) (h : K m σ) : OpWp P rd o env σ K := by
  refine OpWp.of_run (by simp [ho]) fun g w a hr hop => ⟨a.eval x, w, ?_, .same h hr (hop x (by simp [ho, Op.operands]) m hx)⟩
  simp only [execOp, ho, Sem.run_pure]
theorem op_pick {c x y : Operand} {b : Bool} {m : MV} (ho : o.op = .pick c x y) (hc : evo env c = some (.bool b)) (hm : evo env (if b then x else y) = some m) (h : K m σ) : OpWp P rd o env σ K := by
  refine OpWp.of_run (by simp [ho]) fun g w a hr hop => ⟨a.eval (if b then x else y), w, ?_, .same h hr (hop _ (by cases b <;> simp [ho, Op.operands]) m hm)⟩
  have e := (hop c (by simp [ho, Op.operands]) _ hc).inv_bool
  simp only [execOp, ho, e]
  cases b <;> simp [asBool]

theorem op_load_ref {t : TypeId} {x : Operand} {id off : Nat} {l : List MV} {ta : Option Nat} {m : MV} (ho : o.op = .load t x) (hx : evo env x = some (.ref id off)) (hσ : σ[id]? = some (.cells l)) (ht : tyAgg P t = some ta) (hm : loadMV ta l off = some m) (h : K m σ) : OpWp P rd o env σ K := by
  refine OpWp.of_run (by simp [ho]) fun g w a hr hop => ?_
  obtain ⟨b, hb, e⟩ := (hop x (by simp [ho, Op.operands]) _ hx).inv_ref
  obtain ⟨own, hown⟩ := hr.ex
  obtain ⟨b', us, ty, e1, e2, e3, e4, e5⟩ := hown.obj _ _ hσ
  rw [hb] at e2
  injection e2 with e2
  subst e2
  obtain ⟨v, hv, hy⟩ := run_loadVar_at ht (e5.drop off) (fun j u hu => cells_at e4 off j hu) (loadMV_drop hm)
  refine ⟨v, w, ?_, .same h hr hy⟩
  simp [execOp, ho, e, Instr.loadAt, Instr.sureAddr, hv]
theorem op_load_sptr {t : TypeId} {x : Operand} {l : List MV} {ta : Option Nat} {m : MV} (ho : o.op = .load t x) (hx : evo env x = some (.sptr l)) (ht : tyAgg P t = some ta) (hm : loadMV ta l 0 = some m) (h : K m σ) : OpWp P rd o env σ K := by
  refine OpWp.of_run (by simp [ho]) fun g w a hr hop => ?_
  obtain ⟨ad, us, e, h1, h2⟩ := (hop x (by simp [ho, Op.operands]) _ hx).inv_sptr
  obtain ⟨v, hv, hy⟩ := run_loadVar_at ht h1 (fun j u hu => (h2 j u hu).2.1) hm
  refine ⟨v, w, ?_, .same h hr hy⟩
  simp [execOp, ho, e, Instr.loadAt, Instr.sureAddr, hv]

def fieldOff (P : Program) (t : TypeId) (f : Nat) : Option (Nat × TypeId) :=
  match P.underlying t with
  | some (.struct fs) => match fs[f]? with
    | some x => match P.info? x.type with
      | some i => match i.size with
        | 0 => none
        | _ + 1 => some (x.offset, x.type)
      | none => none
    | none => none
  | _ => none
theorem fieldOff_some {t : TypeId} {f off : Nat} {ft : TypeId} (h : fieldOff P t f = some (off, ft)) : ∃ fs fd i, P.underlying t = some (.struct fs) ∧ fs[f]? = some fd ∧ fd.offset = off ∧ fd.type = ft ∧ P.info? ft = some i ∧ i.size ≠ 0 := by
  unfold fieldOff at h
  split at h
  · rename_i fs hu
    split at h
    · rename_i fd hf
      split at h
      · rename_i i hi
        split at h
        · cases h
        · rename_i k hk
          simp only [Option.some.injEq, Prod.mk.injEq] at h
          exact ⟨fs, fd, i, hu, hf, h.1, h.2, h.2 ▸ hi, by omega⟩
      · cases h
    · cases h
  · cases h

theorem op_fieldAddr_ref {t : TypeId} {x : Operand} {f id off fo : Nat} {ft : TypeId} (ho : o.op = .fieldAddr t x f) (hx : evo env x = some (.ref id off)) (hf : fieldOff P t f = some (fo, ft)) (h : K (.ref id (off + fo)) σ) : OpWp P rd o env σ K := by
  refine OpWp.of_run (by simp [ho]) fun g w a hr hop => ?_
  obtain ⟨b, hb, e⟩ := (hop x (by simp [ho, Op.operands]) _ hx).inv_ref
  obtain ⟨fs, fd, i, h1, h2, h3, h4, h5, h6⟩ := fieldOff_some hf
  refine ⟨.pointer (some ⟨b, off + fo, none⟩), w, ?_, .same h hr (.ref _ _ b hb)⟩
  simp [execOp, ho, e, Instr.fieldAt, Instr.sureAddr, run_underlying h1, h2, fieldPlace, sizeOf, typeInfo, h4, h5, h6, h3, add_off]
theorem op_fieldAddr_sptr {t : TypeId} {x : Operand} {f fo : Nat} {ft : TypeId} {l : List MV} (ho : o.op = .fieldAddr t x f) (hx : evo env x = some (.sptr l)) (hf : fieldOff P t f = some (fo, ft)) (h : K (.sptr (l.drop fo)) σ) : OpWp P rd o env σ K := by
  refine OpWp.of_run (by simp [ho]) fun g w a hr hop => ?_
  obtain ⟨ad, us, e, k1, k2⟩ := (hop x (by simp [ho, Op.operands]) _ hx).inv_sptr
  obtain ⟨fs, fd, i, h1, h2, h3, h4, h5, h6⟩ := fieldOff_some hf
  refine ⟨.pointer (some (ad.add fo)), w, ?_, .same h hr (.sptr _ _ (us.drop fo) (k1.drop fo).1 (fun j u hu => ?_) (k1.drop fo).2)⟩
  · simp [execOp, ho, e, Instr.fieldAt, Instr.sureAddr, run_underlying h1, h2, fieldPlace, sizeOf, typeInfo, h4, h5, h6, h3]
  · rw [List.getElem?_drop] at hu
    have := k2 _ _ hu
    have e2 : (ad.add fo).add j = ad.add (fo + j) := by
      unfold Addr.add
      by_cases h1 : fo = 0 <;> by_cases h2 : j = 0 <;> simp [h1, h2, Nat.add_assoc]
    unfold Stab at this ⊢
    rw [e2]
    exact this
theorem op_field {t : TypeId} {x : Operand} {f fo : Nat} {ft : TypeId} {l : List MV} {ta : Option Nat} {m : MV} (ho : o.op = .field t x f) (hx : evo env x = some (.agg l)) (hf : fieldOff P t f = some (fo, ft)) (ht : tyAgg P ft = some ta) (hm : loadMV ta l fo = some m) (h : K m σ) : OpWp P rd o env σ K := by
  refine OpWp.of_run (by simp [ho]) fun g w a hr hop => ?_
  obtain ⟨us, e, k1⟩ := (hop x (by simp [ho, Op.operands]) _ hx).inv_agg
  obtain ⟨fs, fd, i, h1, h2, h3, h4, h5, h6⟩ := fieldOff_some hf
  obtain ⟨j1, j2⟩ := run_isAgg ht w
  cases ta with
  | none =>
    simp only [loadMV] at hm
    obtain ⟨u, hu, hx⟩ := k1.get hm
    refine ⟨u, w, ?_, .same h hr hx⟩
    simp [execOp, ho, e, Instr.field, run_underlying h1, h2, asAgg, part, h3, h4, j1, hu]
  | some k =>
    simp only [loadMV] at hm
    split at hm
    · rename_i hk
      injection hm with hm
      subst hm
      refine ⟨.agg ((us.drop fo).take k).toArray, w, ?_, .same h hr (.agg' ((k1.drop fo).take k))⟩
      simp [execOp, ho, e, Instr.field, run_underlying h1, h2, asAgg, part, h3, h4, j1, j2 k rfl]
    · cases hm

/-! ### New variables -/

theorem rds_cells {g : Gh} {w : World} {m : MV} {v : Value} (h : Rd g w m v) : ∃ us, v.cells = us.toArray ∧ Rds g w m.cells us := by
  cases h with
  | agg xs us h1 h2 => exact ⟨us, rfl, h1, h2⟩
  | bool b => exact ⟨[_], rfl, .cons (.bool b) (.nil _ _)⟩
  | int k n => exact ⟨[_], rfl, .cons (.int k n) (.nil _ _)⟩
  | str s => exact ⟨[_], rfl, .cons (.str s) (.nil _ _)⟩
  | ptr0 => exact ⟨[_], rfl, .cons .ptr0 (.nil _ _)⟩
  | ref id off b hb => exact ⟨[_], rfl, .cons (.ref id off b hb) (.nil _ _)⟩
  | yld id b hb => exact ⟨[_], rfl, .cons (.yld id b hb) (.nil _ _)⟩
  | sptr cs ad us h1 h2 h3 => exact ⟨[_], rfl, .cons (.sptr cs ad us h1 h2 h3) (.nil _ _)⟩
  | lst0 => exact ⟨[_], rfl, .cons .lst0 (.nil _ _)⟩
  | lst tok sz xs a c us h1 h2 h3 h4 h5 h6 h7 => exact ⟨[_], rfl, .cons (.lst tok sz xs a c us h1 h2 h3 h4 h5 h6 h7) (.nil _ _)⟩
  | fn f xs ys us vs h1 h2 h3 h4 => exact ⟨[_], rfl, .cons (.fn f xs ys us vs h1 h2 h3 h4) (.nil _ _)⟩
  | fn0 => exact ⟨[_], rfl, .cons .fn0 (.nil _ _)⟩
  | iface t x v h => exact ⟨[_], rfl, .cons (.iface t x v h) (.nil _ _)⟩
  | iface0 => exact ⟨[_], rfl, .cons .iface0 (.nil _ _)⟩
  | tup xs us h1 h2 => exact ⟨[_], rfl, .cons (.tup xs us h1 h2) (.nil _ _)⟩

theorem gets_new {g : Gh} {w : World} (hr : Rel g σ w) {l : List MV} {us : List Value} (hl : Rds g w l us) (ty : TypeId) (h : K (.ref σ.length 0) (σ ++ [.cells l])) : Gets g w K (.pointer (some ⟨w.heap.size, 0, none⟩)) (w.alloc (.cells us.toArray ty)) := by
  obtain ⟨g', h1, h2, h3⟩ := hr.alloc_obj hl ty
  exact ⟨_, _, g', h, h1, .ref _ _ _ h3, h2⟩

theorem op_box {t : TypeId} {x : Operand} {m : MV} (ho : o.op = .box t x) (hx : evo env x = some m) (h : K (.ref σ.length 0) (σ ++ [.cells m.cells])) : OpWp P rd o env σ K := by
  refine OpWp.of_run (by simp [ho]) fun g w a hr hop => ?_
  obtain ⟨us, e, k1⟩ := rds_cells (hop x (by simp [ho, Op.operands]) _ hx)
  refine ⟨.pointer (some ⟨w.heap.size, 0, none⟩), w.alloc (.cells us.toArray t), ?_, gets_new hr k1 t h⟩
  simp [execOp, ho, Instr.box, newVar, newRow, e]

def zeroMV (P : Program) (t : TypeId) : Option (List MV) :=
  match P.info? t with
  | some i => match i.zero with
    | some z => z.cells.toList.mapM constMV
    | none => none
  | none => none
theorem mapM_const {g : Gh} {w : World} : ∀ {us : List Value} {l : List MV}, us.mapM constMV = some l → Rds g w l us
  | [], l, h => by simp at h; subst h; exact .nil _ _
  | u :: us, l, h => by
    rw [List.mapM_cons] at h
    cases hu : constMV u with
    | none => rw [hu] at h; simp at h
    | some m =>
      rw [hu] at h
      cases hs : us.mapM constMV with
      | none => rw [hs] at h; simp at h
      | some ms =>
        rw [hs] at h
        simp at h
        subst h
        exact .cons (constMV_rd _ _ hu) (mapM_const hs)
theorem zeroMV_some {t : TypeId} {l : List MV} (h : zeroMV P t = some l) : ∃ z, (∀ w, (zeroValue t).run P w = .ok z w) ∧ ∀ g w, Rds g w l z.cells.toList := by
  unfold zeroMV at h
  split at h
  · rename_i i hi
    split at h
    · rename_i z hz
      exact ⟨z, fun w => by simp [zeroValue, typeInfo, hi, hz], fun g w => mapM_const h⟩
    · cases h
  · cases h
theorem op_alloc {t : TypeId} {l : List MV} (ho : o.op = .alloc t) (hz : zeroMV P t = some l) (h : K (.ref σ.length 0) (σ ++ [.cells l])) : OpWp P rd o env σ K := by
  refine OpWp.of_run (by simp [ho]) fun g w a hr hop => ?_
  obtain ⟨z, k0, k1⟩ := zeroMV_some hz
  refine ⟨.pointer (some ⟨w.heap.size, 0, none⟩), w.alloc (.cells z.cells.toList.toArray t), ?_, gets_new hr (k1 g w) t h⟩
  simp [execOp, ho, Instr.alloc, k0, newVar, newRow]

/-! ### Functions, interfaces, tuples -/

def evos (env : Env) : List Operand → Option (List MV)
  | [] => some []
  | x :: xs => match evo env x with
    | some m => match evos env xs with
      | some ms => some (m :: ms)
      | none => none
    | none => none
theorem evos_rds {g : Gh} {w : World} {a : Act} : ∀ {xs : List Operand} {ms : List MV}, (∀ x ∈ xs, ∀ m, evo env x = some m → Rd g w m (a.eval x)) → evos env xs = some ms → Rds g w ms (xs.map a.eval)
  | [], ms, _, h => by injection h with h; subst h; exact .nil _ _
  | x :: xs, ms, ho, h => by
    simp only [evos] at h
    split at h
    · rename_i m hm
      split at h
      · rename_i ms' hms
        injection h with h
        subst h
        exact .cons (ho x (List.mem_cons_self ..) m hm) (evos_rds (fun y hy => ho y (List.mem_cons_of_mem _ hy)) hms)
      · cases h
    · cases h

theorem op_makeFunc {f : Fn} {first caps : Array Operand} {xs ys : List MV} (ho : o.op = .makeFunc f first caps) (hx : evos env first.toList = some xs) (hy : evos env caps.toList = some ys) (h : K (.fn f xs ys) σ) : OpWp P rd o env σ K := by
  refine OpWp.of_run (by simp [ho]) fun g w a hr hop => ?_
  have k1 : Rds g w xs (first.toList.map a.eval) := evos_rds (fun x hx m hm => hop x (by simp [ho, Op.operands]; exact .inl (by simpa using hx)) m hm) hx
  have k2 : Rds g w ys (caps.toList.map a.eval) := evos_rds (fun x hx m hm => hop x (by simp [ho, Op.operands]; exact .inr (by simpa using hx)) m hm) hy
  refine ⟨.func f (first.map a.eval) (caps.map a.eval), w, ?_, .same h hr ?_⟩
  · simp [execOp, ho, Instr.makeFunc]
  · have e1 : (first.map a.eval) = (first.toList.map a.eval).toArray := by apply Array.ext'; simp
    have e2 : (caps.map a.eval) = (caps.toList.map a.eval).toArray := by apply Array.ext'; simp
    rw [e1, e2]
    exact .fn' k1 k2

theorem op_extract {x : Operand} {i : Nat} {l : List MV} {m : MV} (ho : o.op = .extract x i) (hx : evo env x = some (.tup l)) (hm : l[i]? = some m) (h : K m σ) : OpWp P rd o env σ K := by
  refine OpWp.of_run (by simp [ho]) fun g w a hr hop => ?_
  obtain ⟨us, e, k1⟩ := (hop x (by simp [ho, Op.operands]) _ hx).inv_tup
  obtain ⟨u, hu, hy⟩ := k1.get hm
  refine ⟨u, w, ?_, .same h hr hy⟩
  simp [execOp, ho, e, Instr.extract, hu]
theorem op_makeInterface {t : TypeId} {x : Operand} {m : MV} {d : TypeDesc} (ho : o.op = .makeInterface t x) (hx : evo env x = some m) (hu : P.underlying t = some d) (hd : ∀ ms, d ≠ .interface ms) (h : K (.iface t m) σ) : OpWp P rd o env σ K := by
  refine OpWp.of_run (by simp [ho]) fun g w a hr hop => ⟨.iface t (a.eval x), w, ?_, .same h hr (.iface _ _ _ (hop x (by simp [ho, Op.operands]) m hx))⟩
  simp only [execOp, ho, Instr.makeInterface, Sem.run_bind, run_underlying hu, Result.andThen_ok]
  cases d <;> first | rfl | exact absurd rfl (hd _)

/-! ### Calls -/

def CallOk (P : Program) (k : FuncId) : Prop := ∃ fn c, P.funcs[k]? = some fn ∧ (fn.name == "runtime.NumGoroutine") = false ∧ fn.body = some c
theorem CallOk.run {k : FuncId} (h : CallOk P k) (args : Array Value) (w : World) : (callFunc k args).run P w = .ok (.enter k args) w := by
  obtain ⟨fn, c, h1, h2, h3⟩ := h
  have h2' : fn.name ≠ "runtime.NumGoroutine" := by simpa using h2
  simp [callFunc, h1, h2', h3]

theorem op_call {f : Operand} {args : Array Operand} {ts : Array TypeId} {k : FuncId} {first caps xs : List MV} (ho : o.op = .call { callee := .value f, args := args, argTypes := ts }) (hf : evo env f = some (.fn (.func k) first caps)) (hx : evos env args.toList = some xs)
    (hb : CallOk P k) (h : MCalls P k (first ++ xs ++ caps) σ K) : OpWp P rd o env σ K := by
  intro g w a F hF hr hop
  refine ⟨fun f _ => hF.fn f, ?_⟩
  rw [Oper.semAt_eq _ _ _ (by simp [ho])]
  obtain ⟨us, vs, e, k1, k2⟩ := (hop f (by simp [ho, Op.operands, Call.operands]) _ hf).inv_fn
  have k3 : Rds g w xs (args.toList.map a.eval) := evos_rds (fun x hx m hm => hop x (by simp [ho, Op.operands, Call.operands]; exact .inr (by simpa using hx)) m hm) hx
  have hc := h g w (us ++ args.toList.map a.eval ++ vs) hr ((k1.append k3).append k2)
  have hrun : (execOp a.eval o).run P w = .ok (.enter k (us ++ args.toList.map a.eval ++ vs).toArray) w := by
    simp [execOp, ho, resolve, e, Deferred.ofValue, invoke, hb.run]
  rw [hrun]
  refine ⟨fun h => hF.depth h, (hF.calls hc).mono ?_⟩
  rintro e w' ⟨v, rfl, hg⟩
  exact ⟨v, rfl, hg⟩

theorem op_len_lst {x : Operand} {tok : Option Nat} {sz : Nat} {xs : List MV} {t e : TypeId} (ho : o.op = .call { callee := .builtin .len, args := #[x], argTypes := #[t] }) (hu : P.underlying t = some (.slice e)) (hx : evo env x = some (.lst tok sz xs))
    (h : K (.int .i64 (xs.length : Int)) σ) : OpWp P rd o env σ K := by
  refine OpWp.of_run (by simp [ho]) fun g w a hr hop => ?_
  obtain ⟨ad, c, us, hv, _⟩ := (hop x (by simp [ho, Op.operands, Call.operands]) _ hx).inv_lst
  refine ⟨.int .i64 xs.length, w, ?_, .same h hr (.int _ _)⟩
  simp [execOp, ho, resolve, invoke, builtin, Builtin.len_, run_underlying hu, hv, goInt]
theorem op_len_lst0 {x : Operand} {t e : TypeId} (ho : o.op = .call { callee := .builtin .len, args := #[x], argTypes := #[t] }) (hu : P.underlying t = some (.slice e)) (hx : evo env x = some .lst0)
    (h : K (.int .i64 0) σ) : OpWp P rd o env σ K := by
  refine OpWp.of_run (by simp [ho]) fun g w a hr hop => ?_
  have hv := (hop x (by simp [ho, Op.operands, Call.operands]) _ hx).inv_lst0
  refine ⟨.int .i64 0, w, ?_, .same h hr (.int _ _)⟩
  simp [execOp, ho, resolve, invoke, builtin, Builtin.len_, run_underlying hu, hv, goInt]
theorem op_len_str {x : Operand} {s : ByteArray} {t : TypeId} (ho : o.op = .call { callee := .builtin .len, args := #[x], argTypes := #[t] }) (hu : P.underlying t = some .string) (hx : evo env x = some (.str s))
    (h : K (.int .i64 (s.size : Int)) σ) : OpWp P rd o env σ K := by
  refine OpWp.of_run (by simp [ho]) fun g w a hr hop => ?_
  have hv := (hop x (by simp [ho, Op.operands, Call.operands]) _ hx).inv_str
  refine ⟨.int .i64 s.size, w, ?_, .same h hr (.int _ _)⟩
  simp [execOp, ho, resolve, invoke, builtin, Builtin.len_, run_underlying hu, hv, goInt]

/-! ### Numbers, tests -/

theorem op_bin {b : BinOp} {t t' : TypeId} {x y : Operand} {mx my mz : MV} {vx vy vz : Value} (ho : o.op = .binOp b t x y t') (hx : evo env x = some mx) (hy : evo env y = some my) (ex : ∀ g w v, Rd g w mx v → v = vx) (ey : ∀ g w v, Rd g w my v → v = vy)
    (hrun : ∀ w, Sem.run P (do eqGuard b t x y vx vy; binOp b t vx vy) w = .ok vz w) (hz : constMV vz = some mz) (h : K mz σ) : OpWp P rd o env σ K := by
  refine OpWp.of_run (by simp [ho]) fun g w a hr hop => ?_
  have e1 := ex _ _ _ (hop x (by simp [ho, Op.operands]) _ hx)
  have e2 := ey _ _ _ (hop y (by simp [ho, Op.operands]) _ hy)
  refine ⟨vz, w, ?_, .same h hr (constMV_rd _ _ hz)⟩
  have := hrun w
  simp only [Sem.run_bind] at this
  simp only [execOp, ho, e1, e2, Sem.run_bind, Sem.run_pure]
  rw [this]
  rfl
theorem op_un {b : UnOp} {t : TypeId} {x : Operand} {mx mz : MV} {vx vz : Value} (ho : o.op = .unOp b t x) (hx : evo env x = some mx) (ex : ∀ g w v, Rd g w mx v → v = vx)
    (hrun : ∀ w, Sem.run P (Op.unary b vx) w = .ok vz w) (hz : constMV vz = some mz) (h : K mz σ) : OpWp P rd o env σ K := by
  refine OpWp.of_run (by simp [ho]) fun g w a hr hop => ?_
  have e1 := ex _ _ _ (hop x (by simp [ho, Op.operands]) _ hx)
  refine ⟨vz, w, ?_, .same h hr (constMV_rd _ _ hz)⟩
  simp only [execOp, ho, e1, Sem.run_bind, hrun w, Result.andThen_ok, Sem.run_pure]

end
end Go.MV
