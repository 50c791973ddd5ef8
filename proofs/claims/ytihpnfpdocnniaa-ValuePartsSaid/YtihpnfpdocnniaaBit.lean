/-
  More rules: remainders, bits, shifts, conversions, bytes of texts, nil. No program.
-/
import Derived.Test.YtihpnfpdocnniaaEnd
set_option linter.unusedVariables false
set_option linter.unusedSimpArgs false
namespace Go.MV
open Go Go.RowKit
section
variable {P : Program} {rd : Option Nat} {o : Oper} {env : Env} {σ : MS} {K : MV → MS → Prop}

theorem op_rem {t t' : TypeId} {x y : Operand} {k : IntKind} {m n r : Int} (ho : o.op = .binOp .rem t x y t') (hx : evo env x = some (.int k m)) (hy : evo env y = some (.int k n)) (hn : n ≠ 0) (hr : m.tmod n = r) (h : K (.int k r) σ) : OpWp P rd o env σ K := by
  refine op_bin ho hx hy (fun _ _ _ h => h.inv_int) (fun _ _ _ h => h.inv_int) (vz := .int k r) (fun w => ?_) rfl h
  subst hr
  simp [eqGuard, binOp, Op.intDiv, hn]
theorem op_quo {t t' : TypeId} {x y : Operand} {k : IntKind} {m n r : Int} (ho : o.op = .binOp .quo t x y t') (hx : evo env x = some (.int k m)) (hy : evo env y = some (.int k n)) (hn : n ≠ 0) (hr : k.wrap (m.tdiv n) = r) (h : K (.int k r) σ) : OpWp P rd o env σ K := by
  refine op_bin ho hx hy (fun _ _ _ h => h.inv_int) (fun _ _ _ h => h.inv_int) (vz := .int k r) (fun w => ?_) rfl h
  subst hr
  simp [eqGuard, binOp, Op.intDiv, hn]
def bitsI : BinOp → IntKind → Int → Int → Option Int
  | .and, k, m, n => some (k.wrap (BitVec.ofInt k.bits m &&& BitVec.ofInt k.bits n).toNat)
  | .or, k, m, n => some (k.wrap (BitVec.ofInt k.bits m ||| BitVec.ofInt k.bits n).toNat)
  | .xor, k, m, n => some (k.wrap (BitVec.ofInt k.bits m ^^^ BitVec.ofInt k.bits n).toNat)
  | .andNot, k, m, n => some (k.wrap (BitVec.ofInt k.bits m &&& ~~~BitVec.ofInt k.bits n).toNat)
  | _, _, _, _ => none
theorem op_bits {b : BinOp} {t t' : TypeId} {x y : Operand} {k : IntKind} {m n r : Int} (ho : o.op = .binOp b t x y t') (hx : evo env x = some (.int k m)) (hy : evo env y = some (.int k n)) (hr : bitsI b k m n = some r) (h : K (.int k r) σ) : OpWp P rd o env σ K := by
  refine op_bin ho hx hy (fun _ _ _ h => h.inv_int) (fun _ _ _ h => h.inv_int) (vz := .int k r) (fun w => ?_) rfl h
  cases b <;> simp only [bitsI, Option.some.injEq] at hr <;> first | (cases hr; done) | (subst hr; simp [eqGuard, binOp, Op.intBits]; done)
theorem op_shr {t t' : TypeId} {x y : Operand} {k k' : IntKind} {m n r : Int} (ho : o.op = .binOp .shr t x y t') (hx : evo env x = some (.int k m)) (hy : evo env y = some (.int k' n)) (hn : 0 ≤ n) (hr : m.fdiv (2 ^ min n.toNat k.bits) = r) (h : K (.int k r) σ) : OpWp P rd o env σ K := by
  refine op_bin ho hx hy (fun _ _ _ h => h.inv_int) (fun _ _ _ h => h.inv_int) (vz := .int k r) (fun w => ?_) rfl h
  subst hr
  have : ¬ n < 0 := by omega
  simp [eqGuard, binOp, Op.shift, this]
theorem op_shl {t t' : TypeId} {x y : Operand} {k k' : IntKind} {m n r : Int} (ho : o.op = .binOp .shl t x y t') (hx : evo env x = some (.int k m)) (hy : evo env y = some (.int k' n)) (hn : 0 ≤ n) (hr : k.wrap (m * 2 ^ min n.toNat k.bits) = r) (h : K (.int k r) σ) : OpWp P rd o env σ K := by
  refine op_bin ho hx hy (fun _ _ _ h => h.inv_int) (fun _ _ _ h => h.inv_int) (vz := .int k r) (fun w => ?_) rfl h
  subst hr
  have : ¬ n < 0 := by omega
  simp [eqGuard, binOp, Op.shift, this]
theorem op_neg {t : TypeId} {x : Operand} {k : IntKind} {n r : Int} (ho : o.op = .unOp .neg t x) (hx : evo env x = some (.int k n)) (hr : k.wrap (0 - n) = r) (h : K (.int k r) σ) : OpWp P rd o env σ K :=
  op_un ho hx (fun _ _ _ h => h.inv_int) (vz := .int k r) (fun w => by subst hr; simp [Op.unary, Op.intArith]) rfl h
theorem op_strcat {t t' : TypeId} {x y : Operand} {s u : Bs} (ho : o.op = .binOp .add t x y t') (hx : evo env x = some (.str (bs s))) (hy : evo env y = some (.str (bs u))) (hl : s.length + u.length ≤ 9223372036854775807) (h : K (.str (bs (s ++ u))) σ) : OpWp P rd o env σ K := by
  have e : bs s ++ bs u = bs (s ++ u) := by
    apply ByteArray.ext
    simp [bs]
  refine op_bin ho hx hy (fun _ _ _ h => h.inv_str) (fun _ _ _ h => h.inv_str) (vz := .string (bs (s ++ u))) (fun w => ?_) rfl h
  have hs : ¬ (((bs s).size + (bs u).size : Nat) : Int) > IntKind.i64.max := by
    rw [bs_size, bs_size]
    show ¬ ((_ : Nat) : Int) > 9223372036854775807
    omega
  simp only [eqGuard, binOp, Op.stringOp, if_neg hs, e]
  rfl
theorem op_convInt {t t' : TypeId} {x : Operand} {k k' : IntKind} {n r : Int} {d : TypeDesc} (ho : o.op = .convert t t' x) (hs : P.underlying t = some d) (ht : P.underlying t' = some (.int k)) (hx : evo env x = some (.int k' n)) (hr : k.wrap n = r) (h : K (.int k r) σ) : OpWp P rd o env σ K := by
  subst hr
  refine OpWp.of_run (by simp [ho]) fun g w a hr hop => ⟨.int k (k.wrap n), w, ?_, .same h hr (.int _ _)⟩
  have hv := (hop x (by simp [ho, Op.operands]) _ hx).inv_int
  simp [execOp, ho, convert, run_underlying hs, run_underlying ht, hv, Conv.intToInt]
theorem op_index_str {t : TypeId} {x y : Operand} {k : IntKind} {n : Int} {i : Nat} {l : Bs} {b : UInt8} (ho : o.op = .index t x y) (hu : P.underlying t = some .string) (hx : evo env x = some (.str (bs l))) (hy : evo env y = some (.int k n)) (hn : n = (i : Int)) (hm : l[i]? = some b) (h : K (.int .u8 (b.toNat : Int)) σ) : OpWp P rd o env σ K := by
  subst hn
  refine OpWp.of_run (by simp [ho]) fun g w a hr hop => ⟨.int .u8 (b.toNat : Int), w, ?_, .same h hr (.int _ _)⟩
  have hv := (hop x (by simp [ho, Op.operands]) _ hx).inv_str
  have hv2 := (hop y (by simp [ho, Op.operands]) _ hy).inv_int
  have e : (bs l)[i]? = some b := by
    have hlt : i < l.length := (List.getElem?_eq_some_iff.1 hm).1
    have hlt' : i < (bs l).size := by rw [bs_size]; exact hlt
    rw [getElem?_pos (bs l) i hlt']
    rw [List.getElem?_eq_getElem hlt] at hm
    injection hm with hm
    rw [← hm]
    rfl
  have e1 : (if (0 : Int) ≤ (i : Int) then (bs l)[((i : Int)).toNat]? else none) = some b := by
    rw [if_pos (by omega)]
    simpa using e
  simp only [execOp, ho, Instr.index, Sem.run_bind, hv, hv2, asIntOf, Sem.run_pure, Result.andThen_ok, run_underlying hu, e1]
theorem op_slice_str {t : TypeId} {x : Operand} {lo hi : Option Operand} {l : Bs} {i j : Nat} (ho : o.op = .slice t x lo hi none) (hu : P.underlying t = some .string) (hx : evo env x = some (.str (bs l)))
    (hlo : OptInt env 0 lo i) (hhi : OptInt env l.length hi j) (hij : i ≤ j) (hj : j ≤ l.length) (h : K (.str (bs ((l.drop i).take (j - i)))) σ) : OpWp P rd o env σ K := by
  refine OpWp.of_run (by simp [ho]) fun g w a hr hop => ?_
  refine ⟨_, w, ?_, .same h hr (.str _)⟩
  have hv := (hop x (by simp [ho, Op.operands]) _ hx).inv_str
  have e1 : ∀ (x' : Operand) (k : IntKind) (n : Int), lo = some x' → evo env x' = some (.int k n) → a.eval x' = .int k n := fun x' k n e he => (hop x' (by simp [ho, Op.operands, e]) _ he).inv_int
  have e2 : ∀ (x' : Operand) (k : IntKind) (n : Int), hi = some x' → evo env x' = some (.int k n) → a.eval x' = .int k n := fun x' k n e he => (hop x' (by simp [ho, Op.operands, e]) _ he).inv_int
  have e : (bs l).extract i j = bs ((l.drop i).take (j - i)) := by
    apply ByteArray.ext
    simp [bs, ByteArray.data_extract, List.extract_toArray, List.extract_eq_take_drop]
  have hsz := bs_size l
  cases hlo with
  | none =>
    cases hhi with
    | none => simp [execOp, ho, Instr.sliceAt, Instr.slice, run_underlying hu, hv, Instr.sliceBounds, hsz, e]
    | some he en =>
      subst en
      simp [execOp, ho, Instr.sliceAt, Instr.slice, run_underlying hu, hv, Instr.sliceBounds, Instr.sliceBound, asIntOf, e2 _ _ _ rfl he, hsz, hj, e]
  | some he en =>
    subst en
    cases hhi with
    | none => simp [execOp, ho, Instr.sliceAt, Instr.slice, run_underlying hu, hv, Instr.sliceBounds, Instr.sliceBound, asIntOf, e1 _ _ _ rfl he, hsz, hij, e]
    | some he' en' =>
      subst en'
      simp [execOp, ho, Instr.sliceAt, Instr.slice, run_underlying hu, hv, Instr.sliceBounds, Instr.sliceBound, asIntOf, e1 _ _ _ rfl he, e2 _ _ _ rfl he', hsz, hij, hj, e]

/-! ### Nil -/

theorem op_ptr0 {b : BinOp} {r : Bool} {t e t' : TypeId} {x y : Operand} (ho : o.op = .binOp b t x y t') (hu : P.underlying t = some (.pointer e)) (hx : evo env x = some .ptr0) (hy : evo env y = some .ptr0) (hb : b = .eql ∧ r = true ∨ b = .neq ∧ r = false) (h : K (.bool r) σ) : OpWp P rd o env σ K := by
  refine op_bin ho hx hy (fun _ _ _ h => h.inv_ptr0) (fun _ _ _ h => h.inv_ptr0) (vz := .bool r) (fun w => ?_) rfl h
  have h9 : ∀ d : Nat, (Op.equalIn (d + 1) t (.pointer none) (.pointer none)).run P w = .ok true w := fun d => by simp [Op.equalIn, run_underlying hu]
  rcases hb with ⟨rfl, rfl⟩ | ⟨rfl, rfl⟩ <;> (simp only [eqGuard, binOp]; simp [Op.equal, Op.maxDepth, h9 9999])
def MV.isPtr : MV → Bool
  | .ref _ _ | .sptr _ => true
  | _ => false
theorem ptr_some {g : Gh} {w : World} {m : MV} {v : Value} (h : Rd g w m v) (hm : m.isPtr = true) : ∃ a, v = .pointer (some a) := by
  cases h <;> first | (cases hm; done) | exact ⟨_, rfl⟩
theorem op_ptrnil {b : BinOp} {r : Bool} {t e t' : TypeId} {x y : Operand} {m : MV} (ho : o.op = .binOp b t x y t') (hu : P.underlying t = some (.pointer e)) (hx : evo env x = some m) (hm : m.isPtr = true) (hy : evo env y = some .ptr0) (hb : b = .eql ∧ r = false ∨ b = .neq ∧ r = true) (h : K (.bool r) σ) : OpWp P rd o env σ K := by
  refine OpWp.of_run (by rcases hb with ⟨rfl, rfl⟩ | ⟨rfl, rfl⟩ <;> simp [ho]) fun g w a hr hop => ?_
  obtain ⟨ad, e1⟩ := ptr_some (hop x (by simp [ho, Op.operands]) _ hx) hm
  have e2 := (hop y (by simp [ho, Op.operands]) _ hy).inv_ptr0
  refine ⟨.bool r, w, ?_, .same h hr (.bool _)⟩
  have h9 : ∀ d : Nat, (Op.equalIn (d + 1) t (.pointer (some ad)) (.pointer none)).run P w = .ok false w := fun d => by simp [Op.equalIn, run_underlying hu]
  rcases hb with ⟨rfl, rfl⟩ | ⟨rfl, rfl⟩ <;> (simp only [execOp, ho, e1, e2, Sem.run_bind, Sem.run_pure]; simp [eqGuard, binOp, Op.equal, Op.maxDepth, h9 9999])
theorem op_if0 {b : BinOp} {r : Bool} {t t' : TypeId} {x : Operand} {c : Value} {ms : Array (String × TypeId)} (ho : o.op = .binOp b t x (.const c) t') (hu : P.underlying t = some (.interface ms)) (hx : evo env x = some .iface0) (hy : evo env (.const c) = some .iface0) (hb : b = .eql ∧ r = true ∨ b = .neq ∧ r = false) (h : K (.bool r) σ) : OpWp P rd o env σ K := by
  refine op_bin ho hx hy (fun _ _ _ h => h.inv_iface0) (fun _ _ _ h => h.inv_iface0) (vz := .bool r) (fun w => ?_) rfl h
  have h9 : ∀ d : Nat, (Op.equalIn (d + 1) t .nilIface .nilIface).run P w = .ok true w := fun d => by simp [Op.equalIn, run_underlying hu]
  rcases hb with ⟨rfl, rfl⟩ | ⟨rfl, rfl⟩ <;> (simp only [eqGuard, binOp]; simp [Op.equal, Op.maxDepth, h9 9999])
theorem op_ifnil {b : BinOp} {r : Bool} {t e t' : TypeId} {x y : Operand} {m : MV} {ms : Array (String × TypeId)} (ho : o.op = .binOp b t x y t') (hu : P.underlying t = some (.interface ms)) (hx : evo env x = some (.iface e m)) (hy : evo env y = some .iface0) (hb : b = .eql ∧ r = false ∨ b = .neq ∧ r = true) (h : K (.bool r) σ) : OpWp P rd o env σ K := by
  refine OpWp.of_run (by rcases hb with ⟨rfl, rfl⟩ | ⟨rfl, rfl⟩ <;> simp [ho]) fun g w a hr hop => ?_
  obtain ⟨u, e1, _⟩ := (hop x (by simp [ho, Op.operands]) _ hx).inv_iface
  have e2 := (hop y (by simp [ho, Op.operands]) _ hy).inv_iface0
  refine ⟨.bool r, w, ?_, .same h hr (.bool _)⟩
  have h9 : ∀ d : Nat, (Op.equalIn (d + 1) t (.iface e u) .nilIface).run P w = .ok false w := fun d => by simp [Op.equalIn, run_underlying hu]
  rcases hb with ⟨rfl, rfl⟩ | ⟨rfl, rfl⟩ <;> (simp only [execOp, ho, e1, e2, Sem.run_bind, Sem.run_pure]; simp [eqGuard, binOp, Op.equal, Op.maxDepth, h9 9999])
theorem op_fn0 {b : BinOp} {r : Bool} {t t' : TypeId} {x y : Operand} {d : TypeDesc} (ho : o.op = .binOp b t x y t') (hx : evo env x = some .fn0) (hy : evo env y = some .fn0) (hu : P.underlying t = some d) (hd : ∃ p q r, d = .func p q r) (hb : b = .eql ∧ r = true ∨ b = .neq ∧ r = false) (h : K (.bool r) σ) : OpWp P rd o env σ K := by
  obtain ⟨p, q, s, rfl⟩ := hd
  refine op_bin ho hx hy (fun _ _ _ h => h.inv_fn0) (fun _ _ _ h => h.inv_fn0) (vz := .bool r) (fun w => ?_) rfl h
  have h9 : ∀ d : Nat, (Op.equalIn (d + 1) t .nilFunc .nilFunc).run P w = .ok true w := fun d => by simp [Op.equalIn, run_underlying hu]
  rcases hb with ⟨rfl, rfl⟩ | ⟨rfl, rfl⟩ <;> (simp only [eqGuard, binOp]; simp [Op.equal, Op.maxDepth, h9 9999])
theorem nat_tmod (a b : Nat) : Int.tmod (a : Int) (b : Int) = ((a % b : Nat) : Int) := rfl
theorem nat_tdiv (a b : Nat) : Int.tdiv (a : Int) (b : Int) = ((a / b : Nat) : Int) := rfl
theorem wrap_u64 {n : Int} (h : 0 ≤ n ∧ n < 18446744073709551616) : IntKind.u64.wrap n = n := by
  simp [IntKind.wrap, IntKind.signed, IntKind.bits]
  omega
theorem wrap_u8 {n : Int} (h : 0 ≤ n ∧ n < 256) : IntKind.u8.wrap n = n := by
  simp [IntKind.wrap, IntKind.signed, IntKind.bits]
  omega
theorem wadd {a b c : Nat} (h : a + b = c) (hc : c < 9223372036854775808) : intArith .add .i64 (a : Int) (b : Int) = some (c : Int) := by
  simp only [intArith]
  rw [wrap_i64 (by omega)]
  congr 1
  omega
theorem wsub {a b c : Nat} (h : b + c = a) (hc : a < 9223372036854775808) : intArith .sub .i64 (a : Int) (b : Int) = some (c : Int) := by
  simp only [intArith]
  rw [wrap_i64 (by omega)]
  congr 1
  omega
end
end Go.MV
