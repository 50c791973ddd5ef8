/-
  The rules for operations on numbers, bools, texts. No program.
-/
import Derived.Test.YtihpnfpdocnniaaOps
import Derived.WalkKit
import Derived.WalkLawsBesides
set_option linter.unusedVariables false
set_option linter.unusedSimpArgs false
namespace Go.MV
open Go Go.RowKit

abbrev Bs := List UInt8
def bs (l : Bs) : ByteArray := ⟨l.toArray⟩
def strL (s : ByteArray) : Bs := s.data.toList
@[simp] theorem strL_bs (l : Bs) : strL (bs l) = l := by simp [strL, bs]
theorem bs_strL (s : ByteArray) : bs (strL s) = s := by simp [strL, bs]
theorem bs_size (l : Bs) : (bs l).size = l.length := by simp [bs, ByteArray.size]
theorem strL_eq {s r : ByteArray} : strL s = strL r ↔ s = r := ⟨fun h => by rw [← bs_strL s, h, bs_strL], fun h => by rw [h]⟩
theorem bs_inj {a b : Bs} (h : bs a = bs b) : a = b := by rw [← strL_bs a, h, strL_bs]

def intCmp : BinOp → Int → Int → Option Bool
  | .eql, a, b => some (a == b)
  | .neq, a, b => some (a != b)
  | .lss, a, b => some (decide (a < b))
  | .leq, a, b => some (decide (a ≤ b))
  | .gtr, a, b => some (decide (b < a))
  | .geq, a, b => some (decide (b ≤ a))
  | _, _, _ => none
def intArith : BinOp → IntKind → Int → Int → Option Int
  | .add, k, a, b => some (k.wrap (a + b))
  | .sub, k, a, b => some (k.wrap (a - b))
  | .mul, k, a, b => some (k.wrap (a * b))
  | _, _, _, _ => none
def strCmp : BinOp → Bs → Bs → Option Bool
  | .eql, a, b => some (a == b)
  | .neq, a, b => some (!(a == b))
  | .lss, a, b => some (Op.bytesLess a b)
  | .leq, a, b => some (Op.bytesLess a b || a == b)
  | .gtr, a, b => some (!(Op.bytesLess a b || a == b))
  | .geq, a, b => some (!Op.bytesLess a b)
  | _, _, _ => none

section
variable {P : Program} {rd : Option Nat} {o : Oper} {env : Env} {σ : MS} {K : MV → MS → Prop}

theorem op_cmp {b : BinOp} {t t' : TypeId} {x y : Operand} {k : IntKind} {m n : Int} {r : Bool} (ho : o.op = .binOp b t x y t') (hx : evo env x = some (.int k m)) (hy : evo env y = some (.int k n)) (hr : intCmp b m n = some r) (h : K (.bool r) σ) : OpWp P rd o env σ K := by
  refine op_bin ho hx hy (fun _ _ _ h => h.inv_int) (fun _ _ _ h => h.inv_int) (vz := .bool r) (fun w => ?_) rfl h
  cases b <;> simp only [intCmp, Option.some.injEq] at hr <;> first | (cases hr; done) | (subst hr; simp [go_sem, eqGuard, binOp, Op.intCmp]; done)
theorem op_arith {b : BinOp} {t t' : TypeId} {x y : Operand} {k : IntKind} {m n r : Int} (ho : o.op = .binOp b t x y t') (hx : evo env x = some (.int k m)) (hy : evo env y = some (.int k n)) (hr : intArith b k m n = some r) (h : K (.int k r) σ) : OpWp P rd o env σ K := by
  refine op_bin ho hx hy (fun _ _ _ h => h.inv_int) (fun _ _ _ h => h.inv_int) (vz := .int k r) (fun w => ?_) rfl h
  cases b <;> simp only [intArith, Option.some.injEq] at hr <;> first | (cases hr; done) | (subst hr; simp [eqGuard, binOp, Op.intArith]; done)
theorem op_strcmp {b : BinOp} {t t' : TypeId} {x y : Operand} {s u : Bs} {r : Bool} (ho : o.op = .binOp b t x y t') (hx : evo env x = some (.str (bs s))) (hy : evo env y = some (.str (bs u))) (hr : strCmp b s u = some r) (h : K (.bool r) σ) : OpWp P rd o env σ K := by
  refine op_bin ho hx hy (fun _ _ _ h => h.inv_str) (fun _ _ _ h => h.inv_str) (vz := .bool r) (fun w => ?_) rfl h
  have e : ∀ l : Bs, (bs l).toList = l := fun l => by simp [bs]
  cases b <;> simp only [strCmp, Option.some.injEq] at hr <;> first | (cases hr; done) | (subst hr; simp [eqGuard, binOp, Op.stringOp, e]; done)
theorem op_not {t : TypeId} {x : Operand} {b : Bool} (ho : o.op = .unOp .not t x) (hx : evo env x = some (.bool b)) (h : K (.bool (!b)) σ) : OpWp P rd o env σ K :=
  op_un ho hx (fun _ _ _ h => h.inv_bool) (vz := .bool (!b)) (fun w => by simp [Op.unary]) rfl h
theorem op_booleq {t t' : TypeId} {x y : Operand} {a b : Bool} (ho : o.op = .binOp .eql t x y t') (hu : P.underlying t = some .bool) (hx : evo env x = some (.bool a)) (hy : evo env y = some (.bool b)) (h : K (.bool (a == b)) σ) : OpWp P rd o env σ K := by
  refine op_bin ho hx hy (fun _ _ _ h => h.inv_bool) (fun _ _ _ h => h.inv_bool) (vz := .bool (a == b)) (fun w => ?_) rfl h
  have h9 : ∀ d : Nat, (Op.equalIn (d + 1) t (.bool a) (.bool b)).run P w = .ok (a == b) w := fun d => by simp [Op.equalIn, run_underlying hu]
  simp only [eqGuard, binOp]
  simp [Op.equal, Op.maxDepth, h9 9999]
theorem op_boolne {t t' : TypeId} {x y : Operand} {a b : Bool} (ho : o.op = .binOp .neq t x y t') (hu : P.underlying t = some .bool) (hx : evo env x = some (.bool a)) (hy : evo env y = some (.bool b)) (h : K (.bool (a != b)) σ) : OpWp P rd o env σ K := by
  refine op_bin ho hx hy (fun _ _ _ h => h.inv_bool) (fun _ _ _ h => h.inv_bool) (vz := .bool (a != b)) (fun w => ?_) rfl h
  have h9 : ∀ d : Nat, (Op.equalIn (d + 1) t (.bool a) (.bool b)).run P w = .ok (a == b) w := fun d => by simp [Op.equalIn, run_underlying hu]
  simp only [eqGuard, binOp]
  simp [Op.equal, Op.maxDepth, h9 9999, bne]

def szOf (P : Program) (t : TypeId) : Option Nat := match P.info? t with | some i => some i.size | none => none
theorem szOf_run {t : TypeId} {k : Nat} (h : szOf P t = some k) (w : World) : (sizeOf t).run P w = .ok k w := by
  unfold szOf at h
  split at h
  · rename_i i hi
    injection h with h
    subst h
    simp [sizeOf, typeInfo, hi]
  · cases h

/-! ### Elements -/

theorem op_indexAddr {t e : TypeId} {x y : Operand} {tok : Option Nat} {sz : Nat} {xs : List MV} {k : IntKind} {n : Int} {i : Nat} {m : MV} (ho : o.op = .indexAddr t x y) (hu : P.underlying t = some (.slice e)) (hs : szOf P e = some sz) (hsz : 0 < sz)
    (hx : evo env x = some (.lst tok sz xs)) (hy : evo env y = some (.int k n)) (hn : n = (i : Int)) (hm : xs[i]? = some m) (h : K (.sptr m.cells) σ) : OpWp P rd o env σ K := by
  refine OpWp.of_run (by simp [ho]) fun g w a hr hop => ?_
  subst hn
  obtain ⟨ad, c, us, hv, h1, h2, h3, h4, h5, _⟩ := (hop x (by simp [ho, Op.operands]) _ hx).inv_lst
  have hv2 := (hop y (by simp [ho, Op.operands]) _ hy).inv_int
  have hlt : i < xs.length := (List.getElem?_eq_some_iff.1 hm).1
  have hmm : m.cells.length = sz := h3 m (List.mem_of_getElem? hm)
  have hcell : ∀ j, j < sz → (flat xs)[i * sz + j]? = m.cells[j]? := fun j hj => flat_at h3 hm j hj
  have hfl : (flat xs).length = xs.length * sz := flat_length h3
  have hle : i * sz + sz ≤ xs.length * sz := by
    have : (i + 1) * sz ≤ xs.length * sz := Nat.mul_le_mul_right sz hlt
    rw [Nat.add_mul, Nat.one_mul] at this
    exact this
  have hrd : Rds g w m.cells ((us.drop (i * sz)).take sz) := by
    have := (h4.drop (i * sz)).take sz
    have e2 : ((flat xs).drop (i * sz)).take sz = m.cells := by
      apply List.ext_getElem?
      intro j
      rw [List.getElem?_take]
      split
      · rename_i hj
        rw [List.getElem?_drop, hcell j hj]
      · rw [List.getElem?_eq_none (by omega)]
    rw [e2] at this
    exact this
  cases ad with
  | none =>
    exfalso
    have hp : 0 < us.length := by
      rw [h4.1, hfl]
      exact Nat.mul_pos (by omega) hsz
    obtain ⟨ad, ha, _⟩ := h5 0 us[0] (List.getElem?_eq_getElem hp)
    cases ha
  | some ad =>
    refine ⟨.pointer (some (ad.add (i * sz))), w, ?_, .same h hr (.sptr _ _ _ hrd.1 (fun j u hu => ?_) hrd.2)⟩
    · simp [execOp, ho, Instr.indexAt, hv, hv2, asIntOf, run_underlying hu, hlt, szOf_run hs]
    · rw [List.getElem?_take] at hu
      split at hu
      · rw [List.getElem?_drop] at hu
        obtain ⟨ad', ea, hst⟩ := h5 _ _ hu
        injection ea with ea
        subst ea
        have e2 : (ad.add (i * sz)).add j = ad.add (i * sz + j) := by
          unfold Addr.add
          by_cases h1 : i * sz = 0 <;> by_cases h2 : j = 0 <;> simp [h1, h2, Nat.add_assoc]
        unfold Stab at hst ⊢
        rw [e2]
        exact hst
      · cases hu
end
end Go.MV
