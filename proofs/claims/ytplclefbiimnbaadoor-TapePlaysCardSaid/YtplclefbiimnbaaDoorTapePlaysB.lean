/-
  Texts on which the proof of TapePlays leans: part 2.
-/
import Derived.Test.YtplclefbiimnbaaDoorTapePlaysA
import Derived.Laws.StructEq
import Derived.Laws.BytesString
import Derived.Test.YtplclefbiimnbaaDoorProg
import Derived.KernelRfl
import Derived.Laws.MakeOwn
import Derived.Laws.IdiomStrings
import Derived.WalkKit
import Derived.LaidEql
import Derived.RowKitTokens
import Derived.Stop.Asserts
import Derived.Deep.Slices
import Derived.ChangeSame
import Derived.ProofKit
import Derived.OpenShut
import Derived.ChangeOld
import Derived.SizedLaws
import Derived.Carry
import Derived.Laws.Tables
set_option linter.unusedVariables false
set_option linter.unusedSimpArgs false
set_option maxRecDepth 20000
set_option maxHeartbeats 8000000
namespace Go.MV
open Go Go.RowKit
section
section
variable {P : Program} {rd : Option Nat} {o : Oper} {env : Env} {σ : MS} {K : MV → MS → Prop}
theorem op_rem {t t' : TypeId} {x y : Operand} {k : IntKind} {m n r : Int} (ho : o.op = .binOp .rem t x y t') (hx : evo env x = some (.int k m)) (hy : evo env y = some (.int k n)) (hn : n ≠ 0) (hr : m.tmod n = r) (h : K (.int k r) σ) : OpWp P rd o env σ K := by
 refine op_bin ho hx hy (fun _ _ _ h => h.inv_int) (fun _ _ _ h => h.inv_int) (vz := .int k r) (fun w => ?_) V h
 subst hr
 simp [eqGuard, binOp, Op.intDiv, hn]
theorem op_quo {t t' : TypeId} {x y : Operand} {k : IntKind} {m n r : Int} (ho : o.op = .binOp .quo t x y t') (hx : evo env x = some (.int k m)) (hy : evo env y = some (.int k n)) (hn : n ≠ 0) (hr : k.wrap (m.tdiv n) = r) (h : K (.int k r) σ) : OpWp P rd o env σ K := by
 refine op_bin ho hx hy (fun _ _ _ h => h.inv_int) (fun _ _ _ h => h.inv_int) (vz := .int k r) (fun w => ?_) V h
 subst hr
 simp [eqGuard, binOp, Op.intDiv, hn]
def bitsI : BinOp → IntKind → Int → Int → Option Int
 | .and, k, m, n => some (k.wrap (BitVec.ofInt k.bits m &&& BitVec.ofInt k.bits n).toNat)
 | .or, k, m, n => some (k.wrap (BitVec.ofInt k.bits m ||| BitVec.ofInt k.bits n).toNat)
 | .xor, k, m, n => some (k.wrap (BitVec.ofInt k.bits m ^^^ BitVec.ofInt k.bits n).toNat)
 | .andNot, k, m, n => some (k.wrap (BitVec.ofInt k.bits m &&& ~~~BitVec.ofInt k.bits n).toNat)
 | _, _, _, _ => none
theorem op_bits {b : BinOp} {t t' : TypeId} {x y : Operand} {k : IntKind} {m n r : Int} (ho : o.op = .binOp b t x y t') (hx : evo env x = some (.int k m)) (hy : evo env y = some (.int k n)) (hr : bitsI b k m n = some r) (h : K (.int k r) σ) : OpWp P rd o env σ K := by
 refine op_bin ho hx hy (fun _ _ _ h => h.inv_int) (fun _ _ _ h => h.inv_int) (vz := .int k r) (fun w => ?_) V h
 cases b <;> simp only [bitsI, Option.some.injEq] at hr <;> first | (cases hr; done) | (subst hr; simp [eqGuard, binOp, Op.intBits]; done)
theorem op_shr {t t' : TypeId} {x y : Operand} {k k' : IntKind} {m n r : Int} (ho : o.op = .binOp .shr t x y t') (hx : evo env x = some (.int k m)) (hy : evo env y = some (.int k' n)) (hn : 0 ≤ n) (hr : m.fdiv (2 ^ min n.toNat k.bits) = r) (h : K (.int k r) σ) : OpWp P rd o env σ K := by
 refine op_bin ho hx hy (fun _ _ _ h => h.inv_int) (fun _ _ _ h => h.inv_int) (vz := .int k r) (fun w => ?_) V h
 subst hr
 have : ¬ n < 0 := by omega
 simp [eqGuard, binOp, Op.shift, this]
theorem op_strcat {t t' : TypeId} {x y : Operand} {s u : Bs} (ho : o.op = .binOp .add t x y t') (hx : evo env x = some (.str (bs s))) (hy : evo env y = some (.str (bs u))) (hl : s.length + u.length ≤ 9223372036854775807) (h : K (.str (bs (s ++ u))) σ) : OpWp P rd o env σ K := by
 have e : bs s ++ bs u = bs (s ++ u) := by
  apply ByteArray.ext
  simp [bs]
 refine op_bin ho hx hy (fun _ _ _ h => h.inv_str) (fun _ _ _ h => h.inv_str) (vz := .string (bs (s ++ u))) (fun w => ?_) V h
 have hs : ¬ (((bs s).size + (bs u).size : Nat) : Int) > IntKind.i64.max := by
  rw [bs_size, bs_size]
  show ¬ ((_ : Nat) : Int) > 9223372036854775807
  omega
 simp only [eqGuard, binOp, Op.stringOp, if_neg hs, e]
 rfl
theorem _root_.zB1 : type_of% @op_strcat := @op_strcat
theorem op_convInt {t t' : TypeId} {x : Operand} {k k' : IntKind} {n r : Int} {d : TypeDesc} (ho : o.op = .convert t t' x) (hs : P.underlying t = some d) (ht : P.underlying t' = some (.int k)) (hx : evo env x = some (.int k' n)) (hr : k.wrap n = r) (h : K (.int k r) σ) : OpWp P rd o env σ K := by
 subst hr
 refine OpWp.of_run (by simp [ho]) fun g w a hr hop => ⟨.int k (k.wrap n), w, ?_, .same h hr (.int _ _)⟩
 have hv := (hop x (by simp [ho, Op.operands]) _ hx).inv_int
 simp [execOp, ho, convert, run_underlying hs, run_underlying ht, hv, Conv.intToInt]
theorem _root_.zK0 : type_of% @op_convInt := @op_convInt
theorem op_index_str {t : TypeId} {x y : Operand} {k : IntKind} {n : Int} {i : Nat} {l : Bs} {b : UInt8} (ho : o.op = .index t x y) (hu : P.underlying t = some .string) (hx : evo env x = some (.str (bs l))) (hy : evo env y = some (.int k n)) (hn : n = (i : Int)) (hm : l[i]? = some b) (h : K (.int .u8 (b.toNat : Int)) σ) : OpWp P rd o env σ K := by
 subst hn
 refine OpWp.of_run (by simp [ho]) fun g w a hr hop => ⟨.int .u8 (b.toNat : Int), w, ?_, .same h hr (.int _ _)⟩
 have hv := (hop x (by simp [ho, Op.operands]) _ hx).inv_str
 have hv2 := (hop y (by simp [ho, Op.operands]) _ hy).inv_int
 have e : (bs l)[i]? = some b := by
  have hlt : i < l.length := (zC.1 hm).1
  have hlt' : i < (bs l).size := by rw [bs_size]; exact hlt
  rw [getElem?_pos (bs l) i hlt']
  rw [zF hlt] at hm
  injection hm with hm
  rw [← hm]
  rfl
 have e1 : (if (0 : Int) ≤ (i : Int) then (bs l)[((i : Int)).toNat]? else none) = some b := by
  rw [if_pos (by omega)]
  simpa using e
 simp only [execOp, ho, Instr.index, Sem.run_bind, hv, hv2, asIntOf, Sem.run_pure, Result.andThen_ok, run_underlying hu, e1]
theorem op_slice_str {t : TypeId} {x : Operand} {lo hi : Option Operand} {l : Bs} {i j : Nat} (ho : o.op = .slice t x lo hi none) (hu : P.underlying t = some .string) (hx : evo env x = some (.str (bs l)))
  (hlo : OptInt env 0 lo i) (hhi : OptInt env l.length hi j) (hij : i ≤ j) (hj : j ≤ l.length) (h : K (.str (bs ((l.drop i).take (j - i)))) σ) : OpWp P rd o env σ K := by
 refine OpWp.of_run (by simp [ho]) fun g w a hr hop => ?_
 refine ⟨_, w, ?_, .same h hr (.str _)⟩
 have hv := (hop x (by simp [ho, Op.operands]) _ hx).inv_str
 have e1 : ∀ (x' : Operand) (k : IntKind) (n : Int), lo = some x' → evo env x' = some (.int k n) → a.eval x' = .int k n := fun x' k n e he => (hop x' (by simp [ho, Op.operands, e]) _ he).inv_int
 have e2 : ∀ (x' : Operand) (k : IntKind) (n : Int), hi = some x' → evo env x' = some (.int k n) → a.eval x' = .int k n := fun x' k n e he => (hop x' (by simp [ho, Op.operands, e]) _ he).inv_int
 have e : (bs l).extract i j = bs ((l.drop i).take (j - i)) := by
  apply ByteArray.ext
  simp [bs, ByteArray.data_extract, List.extract_toArray, List.extract_eq_take_drop]
 have hsz := bs_size l
 cases hlo with
 | none =>
  cases hhi with
  | none => simp [execOp, ho, Instr.sliceAt, Instr.slice, run_underlying hu, hv, Instr.sliceBounds, hsz, e]
  | some he en =>
   subst en
   simp [execOp, ho, Instr.sliceAt, Instr.slice, run_underlying hu, hv, Instr.sliceBounds, Instr.sliceBound, asIntOf, e2 _ _ _ rfl he, hsz, hj, e]
 | some he en =>
  subst en
  cases hhi with
  | none => simp [execOp, ho, Instr.sliceAt, Instr.slice, run_underlying hu, hv, Instr.sliceBounds, Instr.sliceBound, asIntOf, e1 _ _ _ rfl he, hsz, hij, e]
  | some he' en' =>
   subst en'
   simp [execOp, ho, Instr.sliceAt, Instr.slice, run_underlying hu, hv, Instr.sliceBounds, Instr.sliceBound, asIntOf, e1 _ _ _ rfl he, e2 _ _ _ rfl he', hsz, hij, hj, e]
theorem _root_.zC0 : type_of% @op_slice_str := @op_slice_str
def MV.isPtr : MV → Bool
 | .ref _ _ | .sptr _ | .orf _ _ _ => true
 | _ => false
theorem ptr_some {g : Gh} {w : World} {m : MV} {v : Value} (h : Rd g w m v) (hm : m.isPtr = true) : ∃ a, v = .pointer (some a) := by
 cases h <;> first | (cases hm; done) | exact ⟨_, rfl⟩
theorem op_ptrnil {b : BinOp} {r : Bool} {t e t' : TypeId} {x y : Operand} {m : MV} (ho : o.op = .binOp b t x y t') (hu : P.underlying t = some (.pointer e)) (hx : evo env x = some m) (hm : m.isPtr = true) (hy : evo env y = some .ptr0) (hb : b = .eql ∧ r = false ∨ b = .neq ∧ r = true) (h : K (.bool r) σ) : OpWp P rd o env σ K := by
 refine OpWp.of_run (by rcases hb with ⟨rfl, rfl⟩ | Vv <;> simp [ho]) fun g w a hr hop => ?_
 obtain ⟨ad, e1⟩ := ptr_some (hop x (by simp [ho, Op.operands]) _ hx) hm
 have e2 := (hop y (by simp [ho, Op.operands]) _ hy).inv_ptr0
 refine ⟨.bool r, w, ?_, .same h hr (.bool _)⟩
 have h9 : ∀ d : Nat, (Op.equalIn (d + 1) t (.pointer (some ad)) (.pointer none)).run P w = .ok false w := fun d => by simp [Op.equalIn, run_underlying hu]
 rcases hb with ⟨rfl, rfl⟩ | ⟨rfl, rfl⟩ <;> (simp only [execOp, ho, e1, e2, Sem.run_bind, Sem.run_pure]; simp [eqGuard, binOp, Op.equal, Op.maxDepth, h9 9999])
theorem op_if0 {b : BinOp} {r : Bool} {t t' : TypeId} {x : Operand} {c : Value} {ms : Array (String × TypeId)} (ho : o.op = .binOp b t x (.const c) t') (hu : P.underlying t = some (.interface ms)) (hx : evo env x = some .iface0) (hy : evo env (.const c) = some .iface0) (hb : b = .eql ∧ r = true ∨ b = .neq ∧ r = false) (h : K (.bool r) σ) : OpWp P rd o env σ K := by
 refine op_bin ho hx hy (fun _ _ _ h => h.inv_iface0) (fun _ _ _ h => h.inv_iface0) (vz := .bool r) (fun w => ?_) V h
 have h9 : ∀ d : Nat, (Op.equalIn (d + 1) t .nilIface .nilIface).run P w = .ok true w := fun d => by simp [Op.equalIn, run_underlying hu]
 rcases hb with ⟨rfl, rfl⟩ | ⟨rfl, rfl⟩ <;> (simp only [eqGuard, binOp]; simp [Op.equal, Op.maxDepth, h9 9999])
theorem op_ifnil {b : BinOp} {r : Bool} {t e t' : TypeId} {x y : Operand} {m : MV} {ms : Array (String × TypeId)} (ho : o.op = .binOp b t x y t') (hu : P.underlying t = some (.interface ms)) (hx : evo env x = some (.iface e m)) (hy : evo env y = some .iface0) (hb : b = .eql ∧ r = false ∨ b = .neq ∧ r = true) (h : K (.bool r) σ) : OpWp P rd o env σ K := by
 refine OpWp.of_run (by rcases hb with ⟨rfl, rfl⟩ | Vv <;> simp [ho]) fun g w a hr hop => ?_
 obtain ⟨u, e1, _⟩ := (hop x (by simp [ho, Op.operands]) _ hx).inv_iface
 have e2 := (hop y (by simp [ho, Op.operands]) _ hy).inv_iface0
 refine ⟨.bool r, w, ?_, .same h hr (.bool _)⟩
 have h9 : ∀ d : Nat, (Op.equalIn (d + 1) t (.iface e u) .nilIface).run P w = .ok false w := fun d => by simp [Op.equalIn, run_underlying hu]
 rcases hb with ⟨rfl, rfl⟩ | ⟨rfl, rfl⟩ <;> (simp only [execOp, ho, e1, e2, Sem.run_bind, Sem.run_pure]; simp [eqGuard, binOp, Op.equal, Op.maxDepth, h9 9999])
theorem wrap_u64 {n : Int} (h : 0 ≤ n ∧ n < 18446744073709551616) : IntKind.u64.wrap n = n := by
 simp [IntKind.wrap, IntKind.signed, IntKind.bits]
 omega
theorem _root_.zI1 : type_of% @wrap_u64 := @wrap_u64
theorem wrap_u8 {n : Int} (h : 0 ≤ n ∧ n < 256) : IntKind.u8.wrap n = n := by
 simp [IntKind.wrap, IntKind.signed, IntKind.bits]
 omega
theorem wadd {a b c : Nat} (h : a + b = c) (hc : c < 9223372036854775808) : intArith .add .i64 (a : Int) (b : Int) = some (c : Int) := by
 simp only [intArith]
 rw [wrap_i64 (by omega)]
 congr 1
 omega
theorem wsub {a b c : Nat} (h : b + c = a) (hc : a < 9223372036854775808) : intArith .sub .i64 (a : Int) (b : Int) = some (c : Int) := by
 simp only [intArith]
 rw [wrap_i64 (by omega)]
 congr 1
 omega
end
end
section
section
variable {P : Program} {rd : Option Nat} {N n : Nat} {Q : Exit → Env → MS → Prop} {env : Env} {S L : MS} {c : Code}
theorem EnvSub.app {env A B : Env} (h : EnvSub env A) (k : EnvSub env B) : EnvSub env (A ++ B) := by
 induction h with
 | nil => exact k
 | cons h1 h2 _ ih => exact .cons h1 h2 ih
theorem EnvTo.app {n : Nat} {env E0 A B : Env} (h : EnvTo n env E0 A) (k : EnvTo n env E0 B) : EnvTo n env E0 (A ++ B) := by
 induction h with
 | nil => exact k
 | old h1 h2 _ ih => exact .old h1 h2 ih
 | new h1 h2 h3 _ ih => exact .new h1 h2 h3 ih
theorem mwp_loopK {α : Type} {L0 : MS} (K : Env) (E : α → Env) (L : α → MS) (I : α → Prop) (m : α → Nat) (x₀ : α) (hK : EnvSub env K) (hE : EnvSub env (E x₀)) (h₀ : I x₀) (hL : L0 = L x₀)
  (round : ∀ x, I x → mwp P rd N n c (ThenM (fun env' σ' => ∃ y, m y < m x ∧ I y ∧ σ' = S ++ L y ∧ EnvSub env' K ∧ EnvSub env' (E y)) Q) (K ++ E x) (S ++ L x)) : mwp P rd N n (.loop c) Q env (S ++ L0) := by
 refine mwp_loop0 (fun x => K ++ E x) L I m x₀ h₀ hL (hK.app hE) fun x hx => mwp_mono (round x hx) fun e env' σ' h => ?_
 cases e with
 | normal =>
  obtain ⟨y, h1, h2, h3, h4, h5⟩ := h
  exact ⟨y, h1, h2, h3, h4.app h5⟩
 | _ => exact h
theorem _root_.zY0 : type_of% @mwp_loopK := @mwp_loopK
theorem mwp_loopKJ {α : Type} {L0 : MS} (K : Env) (E : α → Env) (L : α → MS) (I : α → Prop) (m : α → Nat) (x₀ : α) (hN : N ≤ S.length) (hK : EnvSub env K) (hE : EnvSub env (E x₀)) (h₀ : I x₀) (hL : L0 = L x₀)
  (round : ∀ x, I x → mwp P rd N n c (ThenM (fun env' σ' => ∃ y junk, m y < m x ∧ I y ∧ σ' = S ++ (L y ++ junk) ∧ LTo (S.length + (L x).length) (L x) (L y) ∧ EnvTo (S.length + (L x).length) env' (K ++ E x) K ∧ EnvTo (S.length + (L x).length) env' (K ++ E x) (E y)) Q) (K ++ E x) (S ++ L x)) : mwp P rd N n (.loop c) Q env (S ++ L0) := by
 refine mwp_loopJ (fun x => K ++ E x) L I m x₀ hN h₀ hL (hK.app hE) fun x hx => mwp_mono (round x hx) fun e env' σ' h => ?_
 cases e with
 | normal =>
  obtain ⟨y, junk, h1, h2, h3, h4, h5, h6⟩ := h
  exact ⟨y, junk, h1, h2, h3, h4, h5.app h6⟩
 | _ => exact h
theorem mwp_row0 {L' : MS} (t ty sz : Nat) {k : Nat} (ht : get env t = some .lst0) (hN : N ≤ S.length) (hk : L.length = k) (hL : L ++ [.row ty sz 0] = L') (h : mwp P rd N n c Q ((t, .lst (some (S.length + k)) sz []) :: env) (S ++ L')) : mwp P rd N n c Q env (S ++ L) := by
 subst hk hL
 refine mwp_ghost (fun g w tmps hr he => ?_) h
 obtain ⟨r1, l1, d1⟩ := tok_new hr ty sz
 have hlen : (S ++ L).length = S.length + L.length := zG
 refine ⟨_, by rw [← zN]; exact r1, fun s y hy => ?_, l1.toN N, fun F hF => hF.mono (l1.toN N)⟩
 by_cases e : t = s
 ·subst e
  rw [zA1] at hy
  injection hy with hy
  subst hy
  obtain ⟨v, hv, hrd⟩ := he t _ ht
  refine ⟨v, hv, ?_⟩
  rw [hrd.inv_lst0, ← hlen]
  exact d1
 ·rw [zE1 _ _ e] at hy
  obtain ⟨v, hv, hrd⟩ := he s y hy
  exact ⟨v, hv, hrd.mono l1⟩
end
theorem wOps_case {P : Program} {rd : Option Nat} {ops : Array Oper} {Q : Env → MS → Prop} {rest : List Oper} {t : Nat} {e : Bool} {env : Env} {σ : MS} (hT : e = true → wOps P rd ops Q rest ((t, .bool true) :: env) σ) (hF : e = false → wOps P rd ops Q rest ((t, .bool false) :: env) σ) : wOps P rd ops Q rest (putd (some t) (.bool e) env) σ := by
 cases e
 ·exact hF rfl
 ·exact hT rfl
theorem _root_.zO1 : type_of% @wOps_case := @wOps_case
theorem op_min2' {P : Program} {rd : Option Nat} {o : Oper} {env : Env} {σ : MS} {K : MV → MS → Prop} {ts : Array TypeId} {x y : Operand} {k : IntKind} {m n r : Int} (ho : o.op = .call { callee := .builtin .min, args := #[x, y], argTypes := ts }) (hx : evo env x = some (.int k m)) (hy : evo env y = some (.int k n)) (hr : (if n < m then n else m) = r) (h : K (.int k r) σ) : OpWp P rd o env σ K := op_min2 ho hx hy (hr ▸ h)
theorem op_max2' {P : Program} {rd : Option Nat} {o : Oper} {env : Env} {σ : MS} {K : MV → MS → Prop} {ts : Array TypeId} {x y : Operand} {k : IntKind} {m n r : Int} (ho : o.op = .call { callee := .builtin .max, args := #[x, y], argTypes := ts }) (hx : evo env x = some (.int k m)) (hy : evo env y = some (.int k n)) (hr : (if n > m then n else m) = r) (h : K (.int k r) σ) : OpWp P rd o env σ K := op_max2 ho hx hy (hr ▸ h)
theorem cl_flat {α : Type} {en : α → MV} {n : Nat} {l : List α} (h : ∀ a ∈ l, Cl n (en a)) (hc : ∀ a, en a = .agg (en a).cells ∨ [en a] = (en a).cells) : ∀ x ∈ flat (l.map en), Cl n x := by
 intro x hx
 obtain ⟨y, hy, hx⟩ := List.mem_flatMap.1 hx
 obtain ⟨a, ha, rfl⟩ := List.mem_map.1 hy
 rcases hc a with e | e
 ·have := h a ha
  rw [e] at this
  cases this with
  | agg _ h => exact h x hx
 ·rw [← e] at hx
  simp at hx
  subst hx
  exact h a ha
theorem cl_lst {α : Type} {en : α → MV} {n sz : Nat} {l : List α} (h : ∀ a, Cl n (en a)) (hc : ∀ a, en a = .agg (en a).cells ∨ [en a] = (en a).cells) : Cl n (.lst none sz (l.map en)) := .lst none sz _ (fun t ht => by cases ht) (cl_flat (fun a _ => h a) hc)
theorem cl_lstT {α : Type} {en : α → MV} {n sz t : Nat} {l : List α} (ht : t < n) (h : ∀ a, Cl n (en a)) (hc : ∀ a, en a = .agg (en a).cells ∨ [en a] = (en a).cells) : Cl n (.lst (some t) sz (l.map en)) := .lst _ sz _ (fun s hs => by injection hs with hs; omega) (cl_flat (fun a _ => h a) hc)
theorem get_map {α : Type} {en : α → MV} {l : List α} {i : Nat} {a : α} (h : l[i]? = some a) : (l.map en)[i]? = some (en a) := by rw [List.getElem?_map, h]; rfl
end
section
section
variable {P : Program} {rd : Option Nat} {o : Oper} {env : Env} {σ S L : MS} {K : MV → MS → Prop}
theorem op_nilCheck {x : Operand} {m : MV} (ho : o.op = .nilCheck x) (hx : evo env x = some m) (hm : m.isPtr = true) (h : K m σ) : OpWp P rd o env σ K := by
 refine OpWp.of_run (by simp [ho]) fun g w a hr hop => ?_
 have hv := hop x (by simp [ho, Op.operands]) _ hx
 obtain ⟨ad, e⟩ := ptr_some hv hm
 refine ⟨_, w, ?_, .same h hr hv⟩
 simp [execOp, ho, e, Instr.sureAddr]
theorem _root_.zH : type_of% @op_nilCheck := @op_nilCheck
theorem op_store_far {t : TypeId} {x y : Operand} {id off : Nat} {l : List MV} {m : MV} {k : Nat} (ho : o.op = .store t x y) (hx : evo env x = some (.ref id off)) (hy : evo env y = some m) (hσ : S[id]? = some (.cells l)) (hk : szOf P t = some k) (hm : m.cells.length = k)
  (h1 : m.cells.all MV.one = true) (hle : off + k ≤ l.length) (h : K (.tup []) (S.set id (.cells (setMany l off m.cells)) ++ L)) : OpWp P rd o env (S ++ L) K := by
 have hlt := (zC.1 hσ).1
 refine op_store ho hx hy (by rw [List.getElem?_append_left hlt]; exact hσ) hk hm h1 hle ?_
 rw [List.set_append_left _ _ hlt]
 exact h
theorem _root_.zE0 : type_of% @op_store_far := @op_store_far
end
section
variable {P : Program} {fn : Func} {S S' L : MS} {R : MV → MS → Prop} {env : Env}
theorem ret_tmpS {e : Exit} {t : Nat} {x y : MV} (he : e = .normal ∨ e = .ret) (hres : fn.results = #[.tmp t]) (hx : get env t = some x) (hs : Sub x y) (hc : Cl S'.length y) (hl : S.length ≤ S'.length) (hS : ClS S') (hR : R y S') : BodyQ P fn S R e env (S' ++ L) := by
 refine ⟨he, [x], y, S', L, ?_, hs, hc, rfl, hl, .inr hS, hR⟩
 rw [hres]
 exact .tmp hx .nil
theorem _root_.zR0 : type_of% @ret_tmpS := @ret_tmpS
theorem ret_noneS {e : Exit} (he : e = .normal ∨ e = .ret) (hres : fn.results = #[]) (hl : S.length ≤ S'.length) (hS : ClS S') (hR : R (.tup []) S') : BodyQ P fn S R e env (S' ++ L) := by
 refine ⟨he, [], .tup [], S', L, ?_, .refl _, .tup _ (by simp), rfl, hl, .inr hS, hR⟩
 rw [hres]
 exact .nil
end
theorem ClS.set {S : MS} (h : ClS S) {id : Nat} {o : MObj} (ho : o.cl S.length) : ClS (S.set id o) := by
 intro i p hp
 rw [List.length_set]
 rw [List.getElem?_set] at hp
 split at hp
 ·split at hp
  ·injection hp with hp
   subst hp
   exact ho
  ·cases hp
 ·exact h i p hp
theorem get_app {S L : MS} {id : Nat} {o : MObj} (h : S[id]? = some o) : (S ++ L)[id]? = some o := by
 rw [List.getElem?_append_left (zC.1 h).1]
 exact h
theorem get_set {S : MS} {id : Nat} {o p : MObj} (h : S[id]? = some o) : (S.set id p)[id]? = some p := by
 rw [List.getElem?_set, if_pos rfl, if_pos (zC.1 h).1]
theorem set_app {S L : MS} {id : Nat} {o p : MObj} (h : S[id]? = some o) : (S ++ L).set id p = S.set id p ++ L := List.set_append_left _ _ (zC.1 h).1
theorem set_set {S : MS} {id : Nat} {o p : MObj} : (S.set id o).set id p = S.set id p := by simp
end
def encY (b : UInt8) : MV := .int .u8 (b.toNat : Int)
theorem flat_encY (l : Bs) : flat (l.map encY) = l.map encY := by
 induction l with
 | nil => rfl
 | cons b l ih => rw [List.map_cons, flat_cons, ih]; rfl
theorem fold_push : ∀ (l acc : Bs), (l.map fun b => (b.toNat : Int)).foldl (fun r n => r.push (UInt8.ofNat n.toNat)) (bs acc) = bs (acc ++ l)
 | [], acc => by simp
 | b :: l, acc => by
  have e : (bs acc).push (UInt8.ofNat ((b.toNat : Int)).toNat) = bs (acc ++ [b]) := by
   apply ByteArray.ext
   simp [bs, ByteArray.push]
  rw [List.map_cons, List.foldl_cons, e, fold_push l (acc ++ [b]), zN]
  rfl
theorem us_bytes {g : Gh} {w : World} : ∀ {l : Bs} {us : List Value}, Rds g w (l.map encY) us → us = (l.map fun b => (b.toNat : Int)).map (Value.int .u8)
 | [], us, h => by
  have := h.1
  simp at this
  simp [this]
 | b :: l, us, h => by
  obtain ⟨u, us', rfl, h1, h2⟩ := Rds.uncons h
  rw [us_bytes h2, h1.inv_int]
  rfl
theorem op_conv_bytes {P : Program} {rd : Option Nat} {o : Oper} {env : Env} {σ : MS} {K : MV → MS → Prop} {t t' e : TypeId} {x : Operand} {tok : Option Nat} {xs : List MV} {l : Bs} (ho : o.op = .convert t t' x) (hs : P.underlying t = some (.slice e)) (he : P.underlying e = some (.int .u8)) (ht : P.underlying t' = some .string)
  (hx : evo env x = some (.lst tok 1 xs)) (hxs : xs = l.map encY) (h : K (.str (bs l)) σ) : OpWp P rd o env σ K := by
 subst hxs
 refine OpWp.of_run (by simp [ho]) fun g w a hr hop => ⟨.string (bs l), w, ?_, .same h hr (.str _)⟩
 obtain ⟨ad, c, us, hv, h1, h2, h3, h4, h5, _⟩ := (hop x (by simp [ho, Op.operands]) _ hx).inv_lst
 rw [flat_encY] at h4
 have hus := us_bytes h4
 simp only [execOp, ho, hv, Sem.run_bind, run_convert_bytes_string w t t' e _ _ _ hs he ht]
 cases ad with
 | none =>
  have hl : l = [] := by
   cases l with
   | nil => rfl
   | cons b l =>
    exfalso
    have hp : 0 < us.length := by rw [h4.1]; simp
    obtain ⟨ad, ha, _⟩ := h5 0 us[0] (zF hp)
    cases ha
  subst hl
  rfl
 | some ad =>
  have hrun := run_loadCells_list (P := P) (w := w) ad us (fun j v hv => by
   obtain ⟨ad', ea, hst⟩ := h5 j v hv
   injection ea with ea
   subst ea
   exact hst.2.1)
  have hlen : us.length = (l.map encY).length := h4.1
  rw [hlen, hus] at hrun
  rw [run_bytesToString w ad _ _ _ hrun]
  have := fold_push l []
  rw [List.nil_append] at this
  have e0 : bs [] = ByteArray.empty := rfl
  rw [e0] at this
  rw [this]
  rfl
theorem op_len_bs {P : Program} {rd : Option Nat} {o : Oper} {env : Env} {σ : MS} {K : MV → MS → Prop} {x : Operand} {l : Bs} {t : TypeId} (ho : o.op = .call { callee := .builtin .len, args := #[x], argTypes := #[t] }) (hu : P.underlying t = some .string) (hx : evo env x = some (.str (bs l)))
  (h : K (.int .i64 (l.length : Int)) σ) : OpWp P rd o env σ K := op_len_str ho hu hx (by rw [bs_size]; exact h)
theorem _root_.zY : type_of% @op_len_bs := @op_len_bs
def numB (n : Nat) : Bs := if h : n < 128 then [UInt8.ofNat n] else UInt8.ofNat (n % 128 + 128) :: numB (n / 128)
 termination_by n
 decreasing_by omega
def textB (s : Bs) : Bs := numB s.length ++ s
def xorI (h : Int) (b : UInt8) : Int := IntKind.u64.wrap (BitVec.ofInt IntKind.u64.bits h ^^^ BitVec.ofInt IntKind.u64.bits (b.toNat : Int)).toNat
def hashStep (h : Int) (b : UInt8) : Int := IntKind.u64.wrap (xorI h b * 1099511628211)
def hashB (l : Bs) : Int := l.foldl hashStep 14695981039346656037
def leB : Nat → Int → Bs
 | 0, _ => []
 | k + 1, h => UInt8.ofNat (IntKind.u8.wrap h).toNat :: leB k (h.fdiv (2 ^ min (8 : Int).toNat IntKind.u64.bits))
theorem leB_len : ∀ k h, (leB k h).length = k
 | 0, _ => rfl
 | k + 1, h => by rw [leB, zK, leB_len k]
def laidB (r : Bs) : Bs := textB r ++ leB 8 (hashB (textB r))
def numGo (at_ n i : Nat) : Bs → Nat × Nat
 | [] => (0, 0)
 | c :: r => if at_ ≤ 100000 then (if c.toNat < 128 then (n + c.toNat % 128 * at_, i + 1) else numGo (at_ * 128) (n + c.toNat % 128 * at_) (i + 1) r) else (0, 0)
def numF (b : Bs) : Nat × Nat := numGo 1 0 0 b
def recsS : Nat → Nat → Bs → List (Bs × Nat)
 | 0, _, _ => []
 | k + 1, off, b =>
  if b = [] then [] else
  let n := (numF b).1
  let fr := (numF b).2
  if fr = 0 ∨ fr + n + 8 > b.length then [] else
  let r := (b.drop fr).take n
  if laidB r ≠ b.take (fr + n + 8) then [] else (r, off + (fr + n + 8)) :: recsS k (off + (fr + n + 8)) (b.drop (fr + n + 8))
def recsF (b : Bs) : List (Bs × Nat) := recsS b.length 0 b
theorem numB_len {n : Nat} (h : n < 2097152) : 1 ≤ (numB n).length ∧ (numB n).length ≤ 3 := by
 rw [numB]
 split
 ·simp
 ·rw [numB]
  split
  ·simp
  ·rw [numB]
   split
   ·simp
   ·omega
theorem _root_.zC1 : type_of% @numB_len := @numB_len
theorem u8_toNat {n : Nat} (h : n < 256) : (UInt8.ofNat n).toNat = n := by simp [UInt8.toNat_ofNat']; omega
theorem _root_.zU0 : type_of% @u8_toNat := @u8_toNat
theorem numGo_last {a n i v : Nat} {c : UInt8} {r : Bs} (ha : a ≤ 100000) (hc : c.toNat = v) (hv : v < 128) : numGo a n i (c :: r) = (n + v * a, i + 1) := by
 rw [numGo, if_pos ha, hc, if_pos hv, Nat.mod_eq_of_lt hv]
theorem numGo_more {a n i v : Nat} {c : UInt8} {r : Bs} (ha : a ≤ 100000) (hc : c.toNat = v + 128) (hv : v < 128) : numGo a n i (c :: r) = numGo (a * 128) (n + v * a) (i + 1) r := by
 rw [numGo, if_pos ha, hc, if_neg (by omega), Nat.add_mod_right, Nat.mod_eq_of_lt hv]
theorem numF_numB {n : Nat} (h : n < 2097152) (rest : Bs) : numF (numB n ++ rest) = (n, (numB n).length) := by
 unfold numF
 rw [numB]
 split
 ·rename_i h1
  rw [List.cons_append, numGo_last (by omega) (zU0 (by omega)) h1, Nat.zero_add, Nat.mul_one]
  rfl
 ·rename_i h1
  rw [List.cons_append, numGo_more (by omega) (zU0 (show n % 128 + 128 < 256 by omega)) (by omega), numB]
  split
  ·rename_i h2
   rw [List.cons_append, numGo_last (by omega) (zU0 (by omega)) h2]
   exact Prod.ext (by show 0 + n % 128 * 1 + n / 128 * 128 = n; omega) rfl
  ·rename_i h2
   rw [List.cons_append, numGo_more (by omega) (zU0 (show n / 128 % 128 + 128 < 256 by omega)) (by omega), numB]
   split
   ·rename_i h3
    rw [List.cons_append, numGo_last (by omega) (zU0 (by omega)) h3]
    exact Prod.ext (by show 0 + n % 128 * 1 + n / 128 % 128 * 128 + n / 128 / 128 * 16384 = n; omega) rfl
   ·omega
theorem numF_part {n : Nat} (h : n < 2097152) {p q : Bs} (hq : q ≠ []) (e : numB n = p ++ q) : numF p = (0, 0) := by
 unfold numF
 rw [numB] at e
 split at e
 ·cases p with
  | nil => rfl
  | cons c p => simp at e; exact absurd e.2.2 hq
 ·rename_i h1
  cases p with
  | nil => rfl
  | cons c p =>
   rw [List.cons_append] at e
   injection e with ec e
   subst ec
   rw [numGo_more (by omega) (zU0 (show n % 128 + 128 < 256 by omega)) (by omega)]
   rw [numB] at e
   split at e
   ·cases p with
    | nil => rfl
    | cons c p => simp at e; exact absurd e.2.2 hq
   ·rename_i h2
    cases p with
    | nil => rfl
    | cons c p =>
     rw [List.cons_append] at e
     injection e with ec e
     subst ec
     rw [numGo_more (by omega) (zU0 (show n / 128 % 128 + 128 < 256 by omega)) (by omega)]
     rw [numB] at e
     split at e
     ·cases p with
      | nil => rfl
      | cons c p => simp at e; exact absurd e.2.2 hq
     ·omega
def laids (rs : List Bs) : Bs := rs.flatMap laidB
def endsF : Nat → List Bs → List (Bs × Nat)
 | _, [] => []
 | off, r :: rs => (r, off + (laidB r).length) :: endsF (off + (laidB r).length) rs
theorem laidB_len (r : Bs) : (laidB r).length = (numB r.length).length + r.length + 8 := by
 simp only [laidB, textB, leB_len, zG]
theorem _root_.zM0 : type_of% @laidB_len := @laidB_len
theorem numF_laid {r : Bs} (h : r.length < 2097152) (rest : Bs) : numF (laidB r ++ rest) = (r.length, (numB r.length).length) := by
 unfold laidB textB
 rw [zN, zN]
 exact numF_numB h _
theorem recs_one {k off : Nat} {r : Bs} (h : r.length < 2097152) (rest : Bs) : recsS (k + 1) off (laidB r ++ rest) = (r, off + (laidB r).length) :: recsS k (off + (laidB r).length) rest := by
 have hl := zM0 r
 have hn := zC1 h
 have hne : laidB r ++ rest ≠ [] := fun e => by
  have := congrArg List.length e
  simp only [zG, List.length_nil] at this
  omega
 have e1 : ((laidB r ++ rest).drop (numB r.length).length).take r.length = r := by
  unfold laidB textB
  simp
 have e2 : (numB r.length).length + r.length + 8 = (laidB r).length := hl.symm
 have e3 : (laidB r ++ rest).take (laidB r).length = laidB r := by simp
 have e4 : (laidB r ++ rest).drop (laidB r).length = rest := by simp
 rw [recsS, if_neg hne]
 simp only [numF_laid h]
 rw [e2, if_neg (by simp only [zG]; omega), e1, e3, if_neg (by simp), e4]
theorem recs_part {k off : Nat} {r p q : Bs} (h : r.length < 2097152) (hq : q ≠ []) (e : laidB r = p ++ q) : recsS k off p = [] := by
 cases k with
 | zero => rfl
 | succ k =>
  rw [recsS]
  split
  ·rfl
  ·have hl := zM0 r
   have hql : 0 < q.length := by cases q with | nil => exact absurd rfl hq | cons _ _ => simp
   have hlen := congrArg List.length e
   rw [zG] at hlen
   have e' : numB r.length ++ (r ++ leB 8 (hashB (textB r))) = p ++ q := by rw [← e]; simp [laidB, textB]
   rcases Nat.lt_or_ge p.length (numB r.length).length with hlt | hge
   ·have h1 : numB r.length = p ++ (numB r.length).drop p.length := by
     have h2 := congrArg (List.take p.length) e'
     rw [List.take_append_of_le_length (by omega), List.take_left'  rfl] at h2
     exact (List.take_append_drop p.length (numB r.length)).symm.trans (by rw [h2])
    have h0 := numF_part h (fun hd => by have := congrArg List.length hd; simp at this; omega) h1
    simp only [h0]
    simp
   ·obtain ⟨p', rfl⟩ : ∃ p', p = numB r.length ++ p' := by
     refine ⟨p.drop (numB r.length).length, ?_⟩
     have h2 := congrArg (List.take (numB r.length).length) e'
     rw [List.take_left' rfl, List.take_append_of_le_length hge] at h2
     exact (List.take_append_drop (numB r.length).length p).symm.trans (by rw [← h2])
    simp only [numF_numB h]
    rw [if_pos (.inr (by omega))]
theorem recs_all {off : Nat} : ∀ {rs : List Bs} {p : Bs} {k : Nat}, (∀ r ∈ rs, r.length < 2097152) → rs.length ≤ k → (∀ j o, recsS j o p = []) → recsS k off (laids rs ++ p) = endsF off rs := by
 intro rs
 induction rs generalizing off with
 | nil => intro p k _ _ hp; exact hp k off
 | cons r rs ih =>
  intro p k h hk hp
  cases k with
  | zero => simp at hk
  | succ k =>
   have e : laids (r :: rs) ++ p = laidB r ++ (laids rs ++ p) := by simp [laids]
   rw [e, recs_one (h r (zP ..)), endsF, ih (fun s hs => h s (zR _ hs)) (by simpa using hk) hp]
theorem laids_len (rs : List Bs) : rs.length ≤ (laids rs).length := by
 induction rs with
 | nil => simp
 | cons r rs ih =>
  have e : (laids (r :: rs)).length = (laidB r).length + (laids rs).length := by simp [laids]
  have := zM0 r
  rw [e, zK]
  omega
theorem recsF_all {rs : List Bs} {p : Bs} (h : ∀ r ∈ rs, r.length < 2097152) (hp : ∀ j o, recsS j o p = []) : recsF (laids rs ++ p) = endsF 0 rs := by
 refine recs_all h ?_ hp
 have := laids_len rs
 rw [zG]
 omega
theorem ends_fst : ∀ (off : Nat) (rs : List Bs), (endsF off rs).map (·.1) = rs
 | _, [] => rfl
 | off, r :: rs => by rw [endsF, List.map_cons, ends_fst]
theorem ends_last : ∀ (off : Nat) (rs : List Bs) (d : Nat), ((endsF off rs).map (·.2)).getLastD d = if rs = [] then d else off + (laids rs).length
 | _, [], d => rfl
 | off, r :: rs, d => by
  have ih := ends_last (off + (laidB r).length) rs (off + (laidB r).length)
  rw [endsF, List.map_cons, List.getLastD_cons, ih]
  have e : (laids (r :: rs)).length = (laidB r).length + (laids rs).length := by simp [laids]
  rw [if_neg (by simp : ¬ r :: rs = []), e]
  by_cases h : rs = []
  ·rw [if_pos h]; subst h; simp [laids]
  ·rw [if_neg h]; omega
theorem cut_laids : ∀ (rs : List Bs) (n : Nat), (∀ r ∈ rs, r.length < 2097152) → ∃ k p, k ≤ rs.length ∧ (laids rs).take n = laids (rs.take k) ++ p ∧ (∀ j o, recsS j o p = []) ∧ (n < (laids rs).length → (laids (rs.take k)).length ≤ n) ∧ (∀ i, i ≤ rs.length → (laids (rs.take i)).length ≤ n → i ≤ k)
 | [], n, _ => ⟨0, [], by simp, by simp [laids], fun j o => by cases j <;> simp [recsS], by simp [laids], fun i hi _ => by simpa using hi⟩
 | r :: rs, n, h => by
  have e : laids (r :: rs) = laidB r ++ laids rs := by simp [laids]
  rcases Nat.lt_or_ge n (laidB r).length with hlt | hge
  ·refine ⟨0, (laidB r).take n, by simp, ?_, fun j o => recs_part (h r (zP ..)) (q := (laidB r).drop n) (fun hd => by have := congrArg List.length hd; simp at this; omega) (by simp), by simp [laids], fun i hi hle => ?_⟩
   ·rw [e, List.take_append_of_le_length (by omega)]
    simp [laids]
   ·cases i with
    | zero => omega
    | succ i =>
     exfalso
     have e2 : (laids ((r :: rs).take (i + 1))).length = (laidB r).length + (laids (rs.take i)).length := by simp [laids]
     omega
  ·obtain ⟨k, p, h1, h2, h3, h4, h5⟩ := cut_laids rs (n - (laidB r).length) (fun s hs => h s (zR _ hs))
   have e2 : ∀ i, (laids ((r :: rs).take (i + 1))) = laidB r ++ (laids (rs.take i)) := fun i => by simp [laids]
   refine ⟨k + 1, p, by simp; omega, ?_, h3, fun hn => ?_, fun i hi hle => ?_⟩
   ·rw [e2, e, List.take_append, h2, List.take_of_length_le hge, zN]
   ·rw [e, zG] at hn
    rw [e2, zG]
    have := h4 (by omega)
    omega
   ·cases i with
    | zero => omega
    | succ i =>
     rw [e2, zG] at hle
     have := h5 i (by simpa using hi) (by omega)
     omega
section
section
variable {P : Program} {rd : Option Nat} {N n : Nat} {o : Oper} {rest : List Oper} {ops : Array Oper} {env : Env} {σ S L : MS} {c c1 c2 : Code} {Q : Exit → Env → MS → Prop} {W : Env → MS → Prop}
theorem qM {x : Operand} {m : MV} (hg : guardOk ops env o = some true) (ho : o.op = .move x) (hx : evo env x = some m) (h : wOps P rd ops W rest (putd o.dst m env) σ) : wOps P rd ops W (o :: rest) env σ := wOps_op hg (zJ ho hx h)
theorem qA {x : Operand} {m : MV} (hg : guardOk ops env o = some true) (ho : o.op = .assign x) (hx : evo env x = some m) (h : wOps P rd ops W rest (putd o.dst m env) σ) : wOps P rd ops W (o :: rest) env σ := wOps_op hg (zX0 ho hx h)
theorem qP {x y z : Operand} {b : Bool} {m : MV} (hg : guardOk ops env o = some true) (ho : o.op = .pick x y z) (hc : evo env x = some (.bool b)) (hm : evo env (if b then y else z) = some m) (h : wOps P rd ops W rest (putd o.dst m env) σ) : wOps P rd ops W (o :: rest) env σ := wOps_op hg (zZ0 ho hc hm h)
theorem qC {b : BinOp} {t t' : TypeId} {x y : Operand} {k : IntKind} {m p : Int} {r : Bool} (hg : guardOk ops env o = some true) (ho : o.op = .binOp b t x y t') (hx : evo env x = some (.int k m)) (hy : evo env y = some (.int k p)) (hr : intCmp b m p = some r) (h : wOps P rd ops W rest (putd o.dst (.bool r) env) σ) : wOps P rd ops W (o :: rest) env σ := wOps_op hg (op_cmp ho hx hy hr h)
theorem qL {t : TypeId} {x : Operand} {k off : Nat} {l : List MV} {ta : Option Nat} {m : MV} (hg : guardOk ops env o = some true) (ho : o.op = .load t x) (hx : evo env x = some (.ref (S.length + k) off)) (hσ : L[k]? = some (.cells l)) (ht : tyAgg P t = some ta) (hm : loadMV ta l off = some m) (h : wOps P rd ops W rest (putd o.dst m env) (S ++ L)) : wOps P rd ops W (o :: rest) env (S ++ L) := wOps_op hg (zB0 ho hx hσ ht hm h)
theorem qF {t : TypeId} {x : Operand} {f id off fo : Nat} {ft : TypeId} (hg : guardOk ops env o = some true) (ho : o.op = .fieldAddr t x f) (hx : evo env x = some (.ref id off)) (hf : fieldOff P t f = some (fo, ft)) (h : wOps P rd ops W rest (putd o.dst (.ref id (off + fo)) env) σ) : wOps P rd ops W (o :: rest) env σ := wOps_op hg (zE ho hx hf h)
theorem qB {t : TypeId} {x : Operand} {m : MV} {k : Nat} {L' : MS} (hg : guardOk ops env o = some true) (ho : o.op = .box t x) (hx : evo env x = some m) (hk : L.length = k) (hL : L ++ [.cells m.cells] = L') (h : wOps P rd ops W rest (putd o.dst (.ref (S.length + k) 0) env) (S ++ L')) : wOps P rd ops W (o :: rest) env (S ++ L) := wOps_op hg (op_box' ho hx hk hL h)
theorem qE {x : Operand} {tok : Option Nat} {sz : Nat} {xs : List MV} {t e : TypeId} (hg : guardOk ops env o = some true) (ho : o.op = .call { callee := .builtin .len, args := #[x], argTypes := #[t] }) (hu : P.underlying t = some (.slice e)) (hx : evo env x = some (.lst tok sz xs)) (h : wOps P rd ops W rest (putd o.dst (.int .i64 (xs.length : Int)) env) σ) : wOps P rd ops W (o :: rest) env σ := wOps_op hg (op_len_lst ho hu hx h)
theorem qS (hg : guardOk ops env o = some false) (h : wOps P rd ops W rest (putd o.dst (.tup []) env) σ) : wOps P rd ops W (o :: rest) env σ := wOps_skip hg h
theorem qO (hg : guardOk ops env o = some true) (h : OpWp P rd o env σ fun x σ' => wOps P rd ops W rest (putd o.dst x env) σ') : wOps P rd ops W (o :: rest) env σ := wOps_op hg h
theorem qN (h : W env σ) : wOps P rd ops W [] env σ := h
theorem qR {id : Nat} (hb : dstsOk n ops = true) (h : wOps P rd ops (fun env σ => Q .normal env σ) ops.toList env σ) : mwp P rd N n (.region id ops false) Q env σ := mwp_region hb h
section
variable {eff : List Nat} {Ss : List MS} {D : Env → Prop} {i : Nat} {s : MS} {m : MV}
theorem dO (hg : guardOk ops env o = some true) (he : effAt i eff 0 = none) (hs : span_ Ss (loOf ops o eff 0 0) (hiOf ops i eff 0) = [s]) (h : OpWp P rd o env s fun x' σ' => x' = m ∧ σ' = s) (hr : dOps P rd ops eff Ss D rest (i + 1) (putd o.dst m env)) : dOps P rd ops eff Ss D (o :: rest) i env := zS hg he (by rw [hs]; exact .cons h .nil) hr
theorem dS (hg : guardOk ops env o = some false) (he : effAt i eff 0 = none) (hr : dOps P rd ops eff Ss D rest (i + 1) (putd o.dst (.tup []) env)) : dOps P rd ops eff Ss D (o :: rest) i env := dOps_skip hg he hr
end
end
theorem qX {P : Program} {rd : Option Nat} {o : Oper} {rest : List Oper} {ops : Array Oper} {env : Env} {σ : MS} {W : Env → MS → Prop} {f : Operand} {args : Array Operand} {ts : Array TypeId} {k : FuncId} {first caps xs : List MV} {X : MV} {T : MS} (hg : guardOk ops env o = some true) (ho : o.op = .call { callee := .value f, args := args, argTypes := ts }) (hf : evo env f = some (.fn (.func k) first caps)) (hx : evos env args.toList = some xs) (hb : CallOk P k) (h : MCalls P k (first ++ xs ++ caps) σ fun v σ' => v = X ∧ σ' = T) (hr : wOps P rd ops W rest (putd o.dst X env) T) : wOps P rd ops W (o :: rest) env σ := wOps_op hg (zH0 ho hf hx hb (h.mono fun v σ' e => by obtain ⟨rfl, rfl⟩ := e; exact hr))
theorem qT {P : Program} {rd : Option Nat} {o o2 o3 o4 : Oper} {rest : List Oper} {ops : Array Oper} {env : Env} {σ : MS} {W : Env → MS → Prop} (h1 : guardOk ops env o = some false) (h2 : guardOk ops (putd o.dst (.tup []) env) o2 = some false) (h3 : guardOk ops (putd o2.dst (.tup []) (putd o.dst (.tup []) env)) o3 = some false) (h4 : guardOk ops (putd o3.dst (.tup []) (putd o2.dst (.tup []) (putd o.dst (.tup []) env))) o4 = some false) (h : wOps P rd ops W rest (putd o4.dst (.tup []) (putd o3.dst (.tup []) (putd o2.dst (.tup []) (putd o.dst (.tup []) env)))) σ) : wOps P rd ops W (o :: o2 :: o3 :: o4 :: rest) env σ := qS h1 <| qS h2 <| qS h3 <| qS h4 h
end
end Go.MV
namespace Go.Proofs.YtplclefbiimnbaaDoor
open Go Go.MV
theorem mo : Tryd.prog.follows .mixedOrders = true := by kernel_rfl
theorem ta3 : tyAgg Tryd.prog 3 = some none := by kernel_rfl
theorem sz3 : szOf Tryd.prog 3 = some 1 := by kernel_rfl
theorem zm3 : zeroMV Tryd.prog 3 = some [.int .i64 0] := by kernel_rfl
theorem sz5 : szOf Tryd.prog 5 = some 1 := by kernel_rfl
theorem zm5 : zeroMV Tryd.prog 5 = some [.int .u8 0] := by kernel_rfl
theorem el5 : elemOk Tryd.prog 5 1 1 = true := by kernel_rfl
theorem ta9 : tyAgg Tryd.prog 9 = some none := by kernel_rfl
theorem sz9 : szOf Tryd.prog 9 = some 1 := by kernel_rfl
theorem el9 : elemOk Tryd.prog 9 1 16 = true := by kernel_rfl
theorem zm28 : zeroMV Tryd.prog 28 = some [.str (bs []), .int .i64 0] := by kernel_rfl
theorem fo28_0 : fieldOff Tryd.prog 28 0 = some (0, 9) := by kernel_rfl
theorem _root_.zL1 : type_of% @fo28_0 := @fo28_0
theorem fo28_1 : fieldOff Tryd.prog 28 1 = some (1, 3) := by kernel_rfl
theorem ta30 : tyAgg Tryd.prog 30 = some (some 3) := by kernel_rfl
theorem sz30 : szOf Tryd.prog 30 = some 3 := by kernel_rfl
theorem zm30 : zeroMV Tryd.prog 30 = some [.int .i64 0, .int .i64 0, .str (bs [])] := by kernel_rfl
theorem fo30_0 : fieldOff Tryd.prog 30 0 = some (0, 3) := by kernel_rfl
theorem fo30_1 : fieldOff Tryd.prog 30 1 = some (1, 3) := by kernel_rfl
theorem fo30_2 : fieldOff Tryd.prog 30 2 = some (2, 9) := by kernel_rfl
theorem _root_.zN0 : type_of% @fo30_2 := @fo30_2
theorem ta38 : tyAgg Tryd.prog 38 = some none := by kernel_rfl
theorem sz38 : szOf Tryd.prog 38 = some 1 := by kernel_rfl
theorem zm38 : zeroMV Tryd.prog 38 = some [.lst0] := by kernel_rfl
theorem ta46 : tyAgg Tryd.prog 46 = some none := by kernel_rfl
theorem zm46 : zeroMV Tryd.prog 46 = some [.int .i64 0] := by kernel_rfl
theorem zm48 : zeroMV Tryd.prog 48 = some [.str (bs []), .int .i64 0] := by kernel_rfl
theorem fo48_0 : fieldOff Tryd.prog 48 0 = some (0, 9) := by kernel_rfl
theorem fo48_1 : fieldOff Tryd.prog 48 1 = some (1, 3) := by kernel_rfl
theorem zm80 : zeroMV Tryd.prog 80 = some [.str (bs []), .int .i64 0] := by kernel_rfl
theorem fo80_0 : fieldOff Tryd.prog 80 0 = some (0, 9) := by kernel_rfl
theorem _root_.zJ1 : type_of% @fo80_0 := @fo80_0
theorem fo80_1 : fieldOff Tryd.prog 80 1 = some (1, 3) := by kernel_rfl
theorem co4 : CallOk Tryd.prog 4 := ⟨_, _, Tryd.func4, by kernel_rfl, rfl⟩
theorem co5 : CallOk Tryd.prog 5 := ⟨_, _, Tryd.func5, by kernel_rfl, rfl⟩
theorem co6 : CallOk Tryd.prog 6 := ⟨_, _, Tryd.func6, by kernel_rfl, rfl⟩
theorem co7 : CallOk Tryd.prog 7 := ⟨_, _, Tryd.func7, by kernel_rfl, rfl⟩
theorem co8 : CallOk Tryd.prog 8 := ⟨_, _, Tryd.func8, by kernel_rfl, rfl⟩
theorem co9 : CallOk Tryd.prog 9 := ⟨_, _, Tryd.func9, by kernel_rfl, rfl⟩
theorem co10 : CallOk Tryd.prog 10 := ⟨_, _, Tryd.func10, by kernel_rfl, rfl⟩
theorem co11 : CallOk Tryd.prog 11 := ⟨_, _, Tryd.func11, by kernel_rfl, rfl⟩
theorem co12 : CallOk Tryd.prog 12 := ⟨_, _, Tryd.func12, by kernel_rfl, rfl⟩
theorem co13 : CallOk Tryd.prog 13 := ⟨_, _, Tryd.func13, by kernel_rfl, rfl⟩
theorem co14 : CallOk Tryd.prog 14 := ⟨_, _, Tryd.func14, by kernel_rfl, rfl⟩
theorem co15 : CallOk Tryd.prog 15 := ⟨_, _, Tryd.func15, by kernel_rfl, rfl⟩
theorem co16 : CallOk Tryd.prog 16 := ⟨_, _, Tryd.func16, by kernel_rfl, rfl⟩
theorem co17 : CallOk Tryd.prog 17 := ⟨_, _, Tryd.func17, by kernel_rfl, rfl⟩
theorem co18 : CallOk Tryd.prog 18 := ⟨_, _, Tryd.func18, by kernel_rfl, rfl⟩
theorem co19 : CallOk Tryd.prog 19 := ⟨_, _, Tryd.func19, by kernel_rfl, rfl⟩
theorem co20 : CallOk Tryd.prog 20 := ⟨_, _, Tryd.func20, by kernel_rfl, rfl⟩
theorem co21 : CallOk Tryd.prog 21 := ⟨_, _, Tryd.func21, by kernel_rfl, rfl⟩
theorem co22 : CallOk Tryd.prog 22 := ⟨_, _, Tryd.func22, by kernel_rfl, rfl⟩
theorem co23 : CallOk Tryd.prog 23 := ⟨_, _, Tryd.func23, by kernel_rfl, rfl⟩
theorem co24 : CallOk Tryd.prog 24 := ⟨_, _, Tryd.func24, by kernel_rfl, rfl⟩
theorem co25 : CallOk Tryd.prog 25 := ⟨_, _, Tryd.func25, by kernel_rfl, rfl⟩
theorem co26 : CallOk Tryd.prog 26 := ⟨_, _, Tryd.func26, by kernel_rfl, rfl⟩
theorem co33 : CallOk Tryd.prog 33 := ⟨_, _, Tryd.func33, by kernel_rfl, rfl⟩
theorem co34 : CallOk Tryd.prog 34 := ⟨_, _, Tryd.func34, by kernel_rfl, rfl⟩
theorem co35 : CallOk Tryd.prog 35 := ⟨_, _, Tryd.func35, by kernel_rfl, rfl⟩
theorem co36 : CallOk Tryd.prog 36 := ⟨_, _, Tryd.func36, by kernel_rfl, rfl⟩
theorem co37 : CallOk Tryd.prog 37 := ⟨_, _, Tryd.func37, by kernel_rfl, rfl⟩
theorem co38 : CallOk Tryd.prog 38 := ⟨_, _, Tryd.func38, by kernel_rfl, rfl⟩
theorem co39 : CallOk Tryd.prog 39 := ⟨_, _, Tryd.func39, by kernel_rfl, rfl⟩
theorem co40 : CallOk Tryd.prog 40 := ⟨_, _, Tryd.func40, by kernel_rfl, rfl⟩
theorem co43 : CallOk Tryd.prog 43 := ⟨_, _, Tryd.func43, by kernel_rfl, rfl⟩
theorem co44 : CallOk Tryd.prog 44 := ⟨_, _, Tryd.func44, by kernel_rfl, rfl⟩
theorem co45 : CallOk Tryd.prog 45 := ⟨_, _, Tryd.func45, by kernel_rfl, rfl⟩
theorem co46 : CallOk Tryd.prog 46 := ⟨_, _, Tryd.func46, by kernel_rfl, rfl⟩
theorem co47 : CallOk Tryd.prog 47 := ⟨_, _, Tryd.func47, by kernel_rfl, rfl⟩
end Go.Proofs.YtplclefbiimnbaaDoor
section
namespace Go.MV
open Go Go.RowKit
theorem quo128 {m : Nat} (h : m < 18446744073709551616) : IntKind.u64.wrap (Int.tdiv (m : Int) 128) = ((m / 128 : Nat) : Int) := by
 have e : Int.tdiv (m : Int) 128 = ((m / 128 : Nat) : Int) := rfl
 rw [e, zI1 (by omega)]
theorem rem128 (m : Nat) : Int.tmod (m : Int) 128 = ((m % 128 : Nat) : Int) := rfl
theorem add128 (m : Nat) : intArith .add .u64 ((m % 128 : Nat) : Int) 128 = some ((m % 128 + 128 : Nat) : Int) := by
 show some (IntKind.u64.wrap (((m % 128 : Nat) : Int) + 128)) = _
 rw [zI1 (by omega)]
 rfl
theorem u8_conv {m : Nat} (h : m < 256) : IntKind.u8.wrap (m : Int) = ((UInt8.ofNat m).toNat : Int) := by
 rw [wrap_u8 (by omega), zU0 h]
theorem u8_wrap (h : Int) : IntKind.u8.wrap h = ((UInt8.ofNat (IntKind.u8.wrap h).toNat).toNat : Int) := by
 have e : 0 ≤ IntKind.u8.wrap h ∧ IntKind.u8.wrap h < 256 := by
  have e1 : IntKind.u8.wrap h = h % 256 := rfl
  rw [e1]; omega
 rw [zU0 (by omega)]
 omega
theorem u64_byte (b : UInt8) : IntKind.u64.wrap (b.toNat : Int) = (b.toNat : Int) := by
 have := b.toNat_lt
 rw [zI1 (by omega)]
theorem i64_byte {m : Nat} (h : m < 256) : IntKind.i64.wrap (m : Int) = (m : Int) := by
 have e : IntKind.i64.wrap (m : Int) = if (m : Int) % 18446744073709551616 ≥ 9223372036854775808 then (m : Int) % 18446744073709551616 - 18446744073709551616 else (m : Int) % 18446744073709551616 := by
  unfold IntKind.wrap
  simp [IntKind.signed, IntKind.bits]
 rw [e]
 split <;> omega
theorem numB_more {m : Nat} (h : 128 ≤ m) : numB m = UInt8.ofNat (m % 128 + 128) :: numB (m / 128) := by rw [numB, dif_neg (by omega)]
theorem numB_last {m : Nat} (h : m < 128) : numB m = [UInt8.ofNat m] := by rw [numB, dif_pos h]
theorem hash_take {b : Bs} {i : Nat} {c : UInt8} (h : b[i]? = some c) : hashB (b.take (i + 1)) = hashStep (hashB (b.take i)) c := by
 rw [List.take_add_one, h]
 simp [hashB]
theorem drop_at {α : Type} {l : List α} {i : Nat} {a : α} (h : l[i]? = some a) : l.drop i = a :: l.drop (i + 1) := by
 obtain ⟨hlt, e⟩ := zC.1 h
 rw [List.drop_eq_getElem_cons hlt, e]
theorem wmul {a b c : Nat} (h : a * b = c) (hc : c < 9223372036854775808) : intArith .mul .i64 (a : Int) (b : Int) = some (c : Int) := by
 show some (IntKind.i64.wrap ((a : Int) * (b : Int))) = _
 have e : (a : Int) * (b : Int) = (c : Int) := by rw [← h]; exact (Int.natCast_mul a b).symm
 rw [e, wrap_i64 (by omega)]
end Go.MV
namespace Go.Proofs.YtplclefbiimnbaaDoor
open Go Go.MV
theorem _root_.zB : type_of% @Nat.le_of_ble_eq_true := @Nat.le_of_ble_eq_true
theorem _root_.zD0 : type_of% @Tryd.underlying71 := @Tryd.underlying71
theorem _root_.zA0 : type_of% @Tryd.underlying5 := @Tryd.underlying5
theorem _root_.zX : type_of% @Tryd.underlying44 := @Tryd.underlying44
theorem _root_.zT : type_of% @List.length_map := @List.length_map
theorem _root_.zD : type_of% @Tryd.underlying9 := @Tryd.underlying9
theorem codeNum_spec (n : Nat) (hn : n < 18446744073709551616) (hl : (numB n).length ≤ 100) (S : MS) : MCalls Tryd.prog 43 [.int .u64 (n : Int)] S fun v σ' => v = .str (bs (numB n)) ∧ σ' = S := by
 refine zM Tryd.func43 V Tryd.ntmps43 (zB V) ?_
 refine zA <| qR V <| qA V V V <| qN <| zA <| qR V <| qA V V V <| qN <| zA <| zW <| mwp_row0 3 5 1 V (Nat.le_refl _) V V ?_
 refine mwp_loopKJ (α := Nat × Bs) [] (fun x => [(0, .int .u64 (x.1 : Int)), (3, .lst (some (S.length + 0)) 1 (x.2.map encY))]) (fun x => [.row 5 1 x.2.length]) (fun x => x.2 ++ numB x.1 = numB n ∧ x.1 ≤ n) (fun x => x.1) (⟨n, []⟩) (Nat.le_refl _) (.nil) (.keep V (.keep V (.nil))) (⟨rfl, Nat.le_refl _⟩) (V) ?_
 rintro ⟨m, out⟩ ⟨he, hm⟩
 dsimp only at he hm ⊢
 have hol : out.length ≤ (numB n).length := by rw [← he, zG]; omega
 refine zA <| zA <| qR V <| qM V V V <| qC V V V V V <| qN ?_
 refine zO V (fun h5 => ?_) (fun h5 => ?_)
 ·
  have hge : 128 ≤ m := by simp at h5; omega
  refine zZ <| zA <| zW <| qR V <| qM V V V <| qM V V V <| qO V <| op_rem V V V (by decide) (rem128 m) ?_
  refine qO V <| zV V V V (add128 m) <| qO V <| zK0 V zD0 zA0 V (u8_conv (show m % 128 + 128 < 256 by omega)) ?_
  refine qO V <| zI0 V zX el5 V V (by decide) (by decide) V V ?_
  refine qO V <| op_append' V zX el5 V V V (by simp) (by simp only [zG, zT, zK, List.length_nil]; omega) (by simp only [zG, zT, zK, List.length_nil]; omega) V ?_
  refine qA V V V <| qN <| qR V <| qM V V V <| qO V <| op_quo V V V (by decide) (quo128 (by omega)) ?_
  refine qA V V V <| qN ?_
  refine ⟨⟨m / 128, out ++ [UInt8.ofNat (m % 128 + 128)]⟩, _, by dsimp only; omega, ⟨by dsimp only; rw [← he, numB_more hge]; simp, by dsimp only; omega⟩, by rw [zG]; rfl, .new trivial .nil, (.nil), (.new' V (V) (.int _ _) (.new' V (by rw [List.map_append]; rfl) (.lst _ _ _ (fun s hs => by injection hs with hs; simp; omega) (by rw [flat_encY]; intro y hy; obtain ⟨z, _, rfl⟩ := List.mem_map.1 hy; exact .int _ _)) (.nil)))⟩
 ·
  have hlt : m < 128 := by simp at h5; omega
  refine zT0 <| zA <| qR V <| qM V V V <| qM V V V <| qO V <| zK0 V zD0 zA0 V (u8_conv (show m < 256 by omega)) ?_
  refine qO V <| zI0 V zX el5 V V (by decide) (by decide) V V ?_
  refine qO V <| op_append' V zX el5 V V V (by simp) (by simp only [zG, zT, zK, List.length_nil]; omega) (by simp only [zG, zT, zK, List.length_nil]; omega) V ?_
  refine qO V <| op_conv_bytes (l := out ++ [UInt8.ofNat m]) V zX zA0 zD V (by rw [List.map_append]; rfl) ?_
  refine qA V V V <| qN <| zU ?_
  exact zL0 (.inr V) Tryd.results43 V (.of_eq (by rw [← he, numB_last hlt])) (.str _) Vv
theorem _root_.zS0 : type_of% @Tryd.underlying3 := @Tryd.underlying3
theorem codeText_spec (s : Bs) (hs : s.length ≤ 1000000) (S : MS) : MCalls Tryd.prog 33 [.str (bs s)] S fun v σ' => v = .str (bs (textB s)) ∧ σ' = S := by
 refine zM Tryd.func33 V Tryd.ntmps33 (zB V) ?_
 have hl := (zC1 (show s.length < 2097152 by omega)).2
 refine zA <| qR V <| qA V V V <| qN <| zA <| qR V <| qM V V V <| qO V <| zY V zD V <| qO V <| zK0 V zS0 zD0 V (zI1 (by omega)) ?_
 refine qX V V V V co43 (codeNum_spec s.length (by omega) (by omega) _) ?_
 refine qM V V V <| qO V <| zB1 V V V (by omega) ?_
 refine qA V V V <| qN <| zU ?_
 exact zL0 (.inr V) Tryd.results33 V (.of_eq (V)) (.str _) Vv
theorem codeHash_spec (b : Bs) (hlen : b.length ≤ 2000000) (S : MS) : MCalls Tryd.prog 34 [.str (bs b)] S fun v σ' => v = .int .u64 (hashB b) ∧ σ' = S := by
 refine zM Tryd.func34 V Tryd.ntmps34 (zB V) ?_
 have hlen' : b.length ≤ maxLen := by simp only [maxLen]; omega
 refine zA <| qR V <| qA V V V <| qN <| zA <| qR V <| qA V V V <| qN <| zA <| zA <| qR V <| qM V V V <| qO V <| zY V zD V <| qM V V V <| qN <| zW ?_
 refine zY0 (α := Nat) [(0, _), (6, _)] (fun i => [(7, .int .i64 (i : Int)), (3, .int .u64 (hashB (b.take i)))]) (fun i => []) (fun i => i ≤ b.length) (fun i => b.length - i) (0) (.keep V (.keep V (.nil))) (.keep V (.keep V (.nil))) (by omega) (V) ?_
 rintro i hi
 refine zA <| qR V <| qC V V V V V <| qN <| zA ?_
 refine zO V (fun h8 => ?_) (fun h8 => ?_)
 ·
  have hlt : i < b.length := by simpa using h8
  obtain ⟨c, hs⟩ : ∃ q_, b[i]? = some q_ := ⟨_, zF hlt⟩
  refine zZ <| zA <| zW <| zA <| qR V <| qM V V V <| qA V V V <| qN <| qR V <| qM V V V <| qM V V V <| qM V V V <| qO V <| op_index_str V zD V V V hs <| qO V <| zK0 V zA0 zD0 V (u64_byte c) <| qO V <| op_bits V V V V <| qO V <| zV V V V V <| qA V V V <| qN <| qR V <| qO V <| zV V V V V ?_
  refine qM V V V <| qN ?_
  refine ⟨i + 1, by omega, by omega, rfl, (.keep V (.keep V (.nil))), (.eq V (zK1 hlt hlen') (.eq V (by rw [hash_take hs]; rfl) (.nil)))⟩
 ·
  have hge : i = b.length := by simp at h8; omega
  refine zT0 <| zA <| qR V <| qM V V V <| qA V V V <| qN <| zU ?_
  exact zL0 (.inr V) Tryd.results34 V (.of_eq (by rw [hge, List.take_length])) (.int _ _) Vv
theorem laid_spec (r : Bs) (hr : r.length ≤ 1000000) (S : MS) : MCalls Tryd.prog 23 [.str (bs r)] S fun v σ' => v = .str (bs (laidB r)) ∧ σ' = S := by
 refine zM Tryd.func23 V Tryd.ntmps23 (zB V) ?_
 have hll := zM0 r
 have hnl := zC1 (show r.length < 2097152 by omega)
 have htt : (textB r).length = (numB r.length).length + r.length := by simp [textB]
 refine zA <| qR V <| qA V V V <| qN <| zA <| qR V <| qM V V V ?_
 refine qX V V V V co33 (codeText_spec r hr _) ?_
 refine qA V V V <| qN <| zA <| qR V <| qM V V V ?_
 refine qX V V V V co34 (codeHash_spec (textB r) (by omega) _) ?_
 refine qA V V V <| qN <| zA <| zA <| qR V <| qM V V V <| qN <| zW ?_
 refine zY0 (α := Nat × Bs × Int) [] (fun x => [(9, .int .i64 (x.1 : Int)), (3, .str (bs x.2.1)), (4, .int .u64 x.2.2)]) (fun x => []) (fun x => x.1 ≤ 8 ∧ x.2.1 ++ leB (8 - x.1) x.2.2 = laidB r) (fun x => 8 - x.1) (⟨0, textB r, hashB (textB r)⟩) (.nil) (.keep V (.keep V (.keep V (.nil)))) (⟨by omega, rfl⟩) (V) ?_
 rintro ⟨i, t, h⟩ ⟨hi, he⟩
 dsimp only at hi he ⊢
 have htl : t.length ≤ (laidB r).length := by rw [← he, zG]; omega
 refine zA <| qR V <| qC V V V V V <| qN <| zA ?_
 refine zO V (fun h10 => ?_) (fun h10 => ?_)
 ·
  have hlt : i < 8 := by simp at h10; omega
  refine zZ <| zA <| zW <| zA <| qR V <| qM V V V <| qM V V V <| qO V <| zK0 V zD0 zA0 V (u8_wrap h) <| qO V <| zI0 V zX el5 V V (by decide) (by decide) V V ?_
  refine qO V <| op_conv_bytes (l := [UInt8.ofNat (IntKind.u8.wrap h).toNat]) V zX zA0 zD V (V) <| qO V <| zB1 V V V (by simp only [zK, List.length_nil]; omega) ?_
  refine qA V V V <| qN <| qR V <| qM V V V <| qO V <| op_shr V V V (by omega) V ?_
  refine qA V V V <| qN <| qR V <| qO V <| zV V V V V <| qM V V V <| qN ?_
  refine ⟨⟨i + 1, t ++ [UInt8.ofNat (IntKind.u8.wrap h).toNat], h.fdiv (2 ^ min (8 : Int).toNat IntKind.u64.bits)⟩, by dsimp only; omega, ⟨by dsimp only; omega, by dsimp only; rw [← he, show 8 - i = 8 - (i + 1) + 1 by omega, leB]; simp⟩, rfl, (.nil), (.eq V (zK1 hlt (by decide)) (.eq V (V) (.eq V (V) (.nil))))⟩
 ·
  have hge : i = 8 := by simp at h10; omega
  refine zT0 <| zA <| qR V <| qM V V V <| qA V V V <| qN <| zU ?_
  exact zL0 (.inr V) Tryd.results23 V (.of_eq (by subst hge; rw [← he, leB, List.append_nil])) (.str _) Vv
theorem _root_.zP1 : type_of% @laid_spec := @laid_spec
theorem number_spec (b : Bs) (hlen : b.length ≤ 2000000) (S : MS) : MCalls Tryd.prog 39 [.str (bs b)] S fun v σ' => v = .tup [.int .i64 ((numF b).1 : Int), .int .i64 ((numF b).2 : Int)] ∧ σ' = S := by
 refine zM Tryd.func39 V Tryd.ntmps39 (zB V) ?_
 have hlen' : b.length ≤ maxLen := by simp only [maxLen]; omega
 refine zA <| qR V <| qA V V V <| qA V V V <| qN <| zA <| qR V <| qA V V V <| qA V V V <| qN <| zA <| zA <| qR V <| qA V V V <| qN <| zW ?_
 refine zY0 (α := Nat × Nat × Nat) [(0, _)] (fun x => [(4, .int .i64 (x.2.1 : Int)), (5, .int .i64 (x.1 : Int)), (6, .int .i64 (x.2.2 : Int))]) (fun x => []) (fun x => x.2.2 ≤ b.length ∧ x.1 ≤ 12800000 ∧ x.2.1 < x.1 ∧ numGo x.1 x.2.1 x.2.2 (b.drop x.2.2) = numF b) (fun x => b.length - x.2.2) (⟨1, 0, 0⟩) (.keep V (.nil)) (.keep V (.keep V (.keep V (.nil)))) (⟨by simp, by simp, by simp, rfl⟩) (V) ?_
 rintro ⟨a, n, i⟩ ⟨hi, ha, hn, he⟩
 dsimp only at hi ha hn he ⊢
 refine zA <| zA <| qR V <| qM V V V <| qM V V V <| qO V <| zY V zD V <| qC V V V V V <| qM V V V ?_
 refine zO1 (fun h11 => ?_) (fun h11 => ?_)
 ·
  have hlt : i < b.length := by simpa using h11
  obtain ⟨c, hs⟩ : ∃ q_, b[i]? = some q_ := ⟨_, zF hlt⟩
  have hcl := c.toNat_lt
  have hm := Nat.mul_le_mul_right a (show c.toNat % 128 ≤ 127 by omega)
  rw [drop_at hs] at he
  refine qM V V V <| qC V V V V V <| qP V V V V <| qN ?_
  refine zO V (fun h14 => ?_) (fun h14 => ?_)
  ·
   have hat : a ≤ 100000 := by simp at h14; omega
   refine zZ <| zA <| zW <| zA <| qR V <| qM V V V <| qM V V V <| qM V V V <| qO V <| op_index_str V zD V V V hs <| qO V <| op_rem V V V (by decide) (rem128 c.toNat) ?_
   refine qO V <| zK0 V zA0 zS0 V (i64_byte (show c.toNat % 128 < 256 by omega)) ?_
   refine qM V V V <| qO V <| zV V V V (wmul (a := c.toNat % 128) (b := a) V (by omega)) ?_
   refine qO V <| zV V V V (wadd (a := n) (b := c.toNat % 128 * a) V (by omega)) ?_
   refine qA V V V <| qN <| zA <| zA <| qR V <| qM V V V <| qM V V V <| qO V <| op_index_str V zD V V V hs <| qC V V V V V <| qN ?_
   refine zO V (fun h29 => ?_) (fun h29 => ?_)
   ·
    have hc : c.toNat < 128 := by simp at h29; omega
    have hE : numF b = (n + c.toNat % 128 * a, i + 1) := by rw [← he, numGo, if_pos hat, if_pos hc]
    refine zA <| qR V <| qM V V V <| qM V V V <| qO V <| zV V V V (wadd (a := i) (b := 1) V (by omega)) ?_
    refine qA V V V <| qA V V V <| qN <| zU ?_
    exact ret_tmp2 (.inr V) Tryd.results39 V V (.of_eq (by rw [hE])) (.of_eq (by rw [hE])) (.int _ _) (.int _ _) Vv
   ·
    have hc : ¬ c.toNat < 128 := by simp at h29; omega
    refine zZ <| qR V <| qM V V V <| qO V <| zV V V V (wmul (a := a) (b := 128) V (by omega)) ?_
    refine qA V V V <| qN <| qR V <| qM V V V <| qO V <| zV V V V V <| qA V V V <| qN ?_
    refine ⟨⟨a * 128, n + c.toNat % 128 * a, i + 1⟩, by dsimp only; omega, ⟨by dsimp only; omega, by dsimp only; omega, by dsimp only; have := Nat.mul_le_mul_right a (show c.toNat % 128 ≤ 127 by omega); omega, by dsimp only; rw [← he, numGo, if_pos hat, if_neg hc]⟩, rfl, (.keep V (.nil)), (.eq V (V) (.eq V (V) (.eq V (zK1 hlt hlen') (.nil))))⟩
  ·
   have h100 : ¬ a ≤ 100000 := by simp at h14; omega
   have hE : numF b = (0, 0) := by rw [← he, numGo, if_neg h100]
   refine zT0 <| zA <| qR V <| qA V V V <| qA V V V <| qN <| zU ?_
   exact ret_tmp2 (.inr V) Tryd.results39 V V (.of_eq (by rw [hE]; rfl)) (.of_eq (by rw [hE]; rfl)) (.int _ _) (.int _ _) Vv
 ·
  have hge : i = b.length := by simp at h11; omega
  have hE : numF b = (0, 0) := by rw [← he, hge, List.drop_length]; rfl
  refine qS V <| qS V <| qP V V V V <| qN <| zF0 V (V) <| zT0 <| zA <| qR V <| qA V V V <| qA V V V <| qN <| zU ?_
  exact ret_tmp2 (.inr V) Tryd.results39 V V (.of_eq (by rw [hE]; rfl)) (.of_eq (by rw [hE]; rfl)) (.int _ _) (.int _ _) Vv
end Go.Proofs.YtplclefbiimnbaaDoor
end
namespace Go.MV
open Go Go.RowKit
def rNumGo : Nat → Nat → Nat → Bs → (Nat × Bs) ⊕ Nat
 | _, _, _, [] => .inr 11
 | i, a, n, c :: r => if (i = 9 ∧ 1 < c.toNat) ∨ (0 < i ∧ c.toNat = 0) then .inr 10 else if c.toNat < 128 then .inl (n + c.toNat % 128 * a, r) else rNumGo (i + 1) (a * 128) (n + c.toNat % 128 * a) r
def rNum (b : Bs) : (Nat × Bs) ⊕ Nat := rNumGo 0 1 0 b
def rText (most : Nat) (b : Bs) : Bs × Bs × Nat := match rNum b with
 | .inr e => ([], b, e)
 | .inl (n, r) => if most < n then ([], r, 13) else if r.length < n then ([], r, 11) else (r.take n, r.drop n, 0)
def rGood (b r : Bs) : Prop := r.take 8 = leB 8 (hashB (b.take (b.length - r.length)))
instance (b r : Bs) : Decidable (rGood b r) := inferInstanceAs (Decidable (_ = _))
def rRead : Nat → Nat → Bs → List Bs × Nat
 | 0, at_, _ => ([], at_)
 | k + 1, at_, b =>
  let t := rText 100000 b
  if t.2.2 ≠ 0 ∨ t.2.1.length < 8 ∨ ¬ rGood b t.2.1 then ([], at_)
  else
   let n := b.length - t.2.1.length + 8
   let q := rRead k (at_ + n) (b.drop n)
   (t.1 :: q.1, q.2)
theorem rNumGo_rest : ∀ {b : Bs} {i a n m : Nat} {r : Bs}, rNumGo i a n b = .inl (m, r) → r.length < b.length ∧ ∃ p, b = p ++ r
 | [], i, a, n, m, r, h => by cases h
 | c :: b, i, a, n, m, r, h => by
  rw [rNumGo] at h
  split at h
  ·cases h
  ·split at h
   ·injection h with h
    injection h with h1 h2
    subst h2
    exact ⟨by simp, [c], rfl⟩
   ·obtain ⟨h1, p, rfl⟩ := rNumGo_rest h
    exact ⟨by simp; omega, c :: p, rfl⟩
theorem rText_rest (most : Nat) (b : Bs) : (rText most b).2.1.length ≤ b.length ∧ (rText most b).1.length ≤ b.length ∧ ∃ p, b = p ++ (rText most b).2.1 := by
 unfold rText
 split
 ·exact ⟨Nat.le_refl _, by simp, [], rfl⟩
 ·rename_i n r h
  obtain ⟨h1, p, rfl⟩ := rNumGo_rest h
  split
  ·exact ⟨by simp, by simp, p, rfl⟩
  ·split
   ·exact ⟨by simp, by simp, p, rfl⟩
   ·refine ⟨by simp; omega, by simp; omega, p ++ r.take n, by simp⟩
theorem rNumGo_numB {n : Nat} (h : n < 2097152) (rest : Bs) : rNum (numB n ++ rest) = .inl (n, rest) := by
 unfold rNum
 rw [numB]
 split
 ·rename_i h1
  have e := zU0 (show n < 256 by omega)
  rw [List.cons_append, rNumGo, if_neg (by omega), e, if_pos h1, Nat.mod_eq_of_lt h1]
  simp
 ·rename_i h1
  have e := zU0 (show n % 128 + 128 < 256 by omega)
  rw [List.cons_append, rNumGo, if_neg (by omega), e, if_neg (by omega), numB]
  split
  ·rename_i h2
   have e2 := zU0 (show n / 128 < 256 by omega)
   rw [List.cons_append, rNumGo, if_neg (by omega), e2, if_pos h2]
   congr 2
   omega
  ·rename_i h2
   have e2 := zU0 (show n / 128 % 128 + 128 < 256 by omega)
   rw [List.cons_append, rNumGo, if_neg (by omega), e2, if_neg (by omega), numB]
   split
   ·rename_i h3
    have e3 := zU0 (show n / 128 / 128 < 256 by omega)
    rw [List.cons_append, rNumGo, if_neg (by omega), e3, if_pos h3]
    congr 2
    omega
   ·omega
theorem rNum_part {n : Nat} (h : n < 2097152) {p q : Bs} (hq : q ≠ []) (e : numB n = p ++ q) : rNum p = .inr 11 := by
 unfold rNum
 rw [numB] at e
 split at e
 ·cases p with
  | nil => rfl
  | cons c p => simp at e; exact absurd e.2.2 hq
 ·rename_i h1
  cases p with
  | nil => rfl
  | cons c p =>
   rw [List.cons_append] at e
   injection e with ec e
   subst ec
   have e1 := zU0 (show n % 128 + 128 < 256 by omega)
   rw [rNumGo, if_neg (by omega), e1, if_neg (by omega)]
   rw [numB] at e
   split at e
   ·cases p with
    | nil => rfl
    | cons c p => simp at e; exact absurd e.2.2 hq
   ·rename_i h2
    cases p with
    | nil => rfl
    | cons c p =>
     rw [List.cons_append] at e
     injection e with ec e
     subst ec
     have e2 := zU0 (show n / 128 % 128 + 128 < 256 by omega)
     rw [rNumGo, if_neg (by omega), e2, if_neg (by omega)]
     rw [numB] at e
     split at e
     ·cases p with
      | nil => rfl
      | cons c p => simp at e; exact absurd e.2.2 hq
     ·omega
theorem rText_laid {r : Bs} (h : r.length ≤ 100000) (rest : Bs) : rText 100000 (laidB r ++ rest) = (r, leB 8 (hashB (textB r)) ++ rest, 0) := by
 have e : laidB r ++ rest = numB r.length ++ (r ++ (leB 8 (hashB (textB r)) ++ rest)) := by simp [laidB, textB]
 unfold rText
 rw [e, rNumGo_numB (by omega)]
 simp only [zG]
 rw [if_neg (by omega), if_neg (by omega)]
 simp
theorem rRead_one {k at_ : Nat} {r : Bs} (h : r.length ≤ 100000) (rest : Bs) : rRead (k + 1) at_ (laidB r ++ rest) = (r :: (rRead k (at_ + (laidB r).length) rest).1, (rRead k (at_ + (laidB r).length) rest).2) := by
  have hl := zM0 r
  have h8 := leB_len 8 (hashB (textB r))
  rw [rRead]
  simp only [rText_laid h]
  have e0 : (laidB r ++ rest).length - (leB 8 (hashB (textB r)) ++ rest).length = (textB r).length := by
    simp only [zG, laidB, leB_len]
    omega
  have hg : rGood (laidB r ++ rest) (leB 8 (hashB (textB r)) ++ rest) := by
    unfold rGood
    rw [e0]
    have e1 : (laidB r ++ rest).take (textB r).length = textB r := by simp [laidB]
    rw [e1, List.take_append_of_le_length (by omega), List.take_of_length_le (by omega)]
  have e2 : (laidB r ++ rest).length - (leB 8 (hashB (textB r)) ++ rest).length + 8 = (laidB r).length := by
    rw [e0]
    simp [laidB, leB_len]
  rw [if_neg (by rintro (h | h | h); · exact h rfl
                 · simp only [zG] at h; omega
                 · exact h hg), e2]
  simp
theorem rRead_part {k at_ : Nat} {r p q : Bs} (h : r.length ≤ 100000) (hq : q ≠ []) (e : laidB r = p ++ q) : rRead k at_ p = ([], at_) := by
 cases k with
 | zero => rfl
 | succ k =>
  have hl := zM0 r
  have hql : 0 < q.length := by cases q with | nil => exact absurd rfl hq | cons _ _ => simp
  have hlen := congrArg List.length e
  rw [zG] at hlen
  have e' : numB r.length ++ (r ++ leB 8 (hashB (textB r))) = p ++ q := by rw [← e]; simp [laidB, textB]
  rw [rRead]
  simp only
  rcases Nat.lt_or_ge p.length (numB r.length).length with hlt | hge
  ·have h1 : numB r.length = p ++ (numB r.length).drop p.length := by
    have h2 := congrArg (List.take p.length) e'
    rw [List.take_append_of_le_length (by omega), List.take_left'  rfl] at h2
    exact (List.take_append_drop p.length (numB r.length)).symm.trans (by rw [h2])
   have h0 := rNum_part (by omega) (fun hd => by have := congrArg List.length hd; simp at this; omega) h1
   have : (rText 100000 p).2.2 ≠ 0 := by simp [rText, h0]
   rw [if_pos (.inl this)]
  ·obtain ⟨p', rfl⟩ : ∃ p', p = numB r.length ++ p' := by
    refine ⟨p.drop (numB r.length).length, ?_⟩
    have h2 := congrArg (List.take (numB r.length).length) e'
    rw [List.take_left' rfl, List.take_append_of_le_length hge] at h2
    exact (List.take_append_drop (numB r.length).length p).symm.trans (by rw [← h2])
   rw [zG] at hlen
   have e3 : rText 100000 (numB r.length ++ p') = if 100000 < r.length then ([], p', 13) else if p'.length < r.length then ([], p', 11) else (p'.take r.length, p'.drop r.length, 0) := by
    unfold rText
    rw [rNumGo_numB (by omega)]
   by_cases h5 : p'.length < r.length
   ·have e5 : rText 100000 (numB r.length ++ p') = ([], p', 11) := by rw [e3, if_neg (by omega), if_pos h5]
    rw [e5, if_pos (.inl (by simp))]
   ·have e5 : rText 100000 (numB r.length ++ p') = (p'.take r.length, p'.drop r.length, 0) := by rw [e3, if_neg (by omega), if_neg h5]
    rw [e5, if_pos (.inr (.inl (by simp; omega)))]
theorem rRead_all : ∀ {rs : List Bs} {p : Bs} {k at_ : Nat}, (∀ r ∈ rs, r.length ≤ 100000) → rs.length ≤ k → (∀ j o, rRead j o p = ([], o)) → rRead k at_ (laids rs ++ p) = (rs, at_ + (laids rs).length) := by
 intro rs
 induction rs with
 | nil => intro p k at_ _ _ hp; rw [show laids ([] : List Bs) ++ p = p from rfl, hp]; rfl
 | cons r rs ih =>
  intro p k at_ h hk hp
  cases k with
  | zero => simp at hk
  | succ k =>
   have e : laids (r :: rs) ++ p = laidB r ++ (laids rs ++ p) := by simp [laids]
   have e2 : (laids (r :: rs)).length = (laidB r).length + (laids rs).length := by simp [laids]
   rw [e, rRead_one (h r (zP ..)), ih (fun s hs => h s (zR _ hs)) (by simpa using hk) hp, e2]
   simp only [Nat.add_assoc]
theorem cut_both : ∀ (rs : List Bs) (n : Nat), (∀ r ∈ rs, r.length ≤ 100000) → ∃ k p, k ≤ rs.length ∧ (laids rs).take n = laids (rs.take k) ++ p ∧ (∀ j o, recsS j o p = []) ∧ (∀ j o, rRead j o p = ([], o)) ∧ (n < (laids rs).length → (laids (rs.take k)).length ≤ n)
 | [], n, _ => ⟨0, [], by simp, by simp [laids], fun j o => by cases j <;> simp [recsS], fun j o => by
   cases j with
   | zero => rfl
   | succ j => simp [rRead, rText, rNum, rNumGo], by simp [laids]⟩
 | r :: rs, n, h => by
  have e : laids (r :: rs) = laidB r ++ laids rs := by simp [laids]
  have hr := h r (zP ..)
  rcases Nat.lt_or_ge n (laidB r).length with hlt | hge
  ·have hne : (laidB r).drop n ≠ [] := fun hd => by have := congrArg List.length hd; simp at this; omega
   have hs : laidB r = (laidB r).take n ++ (laidB r).drop n := by simp
   refine ⟨0, (laidB r).take n, by simp, ?_, fun j o => recs_part (by omega) hne hs, fun j o => rRead_part hr hne hs, by simp [laids]⟩
   rw [e, List.take_append_of_le_length (by omega)]
   simp [laids]
  ·obtain ⟨k, p, h1, h2, h3, h4, h5⟩ := cut_both rs (n - (laidB r).length) (fun s hs => h s (zR _ hs))
   have e2 : ∀ i, (laids ((r :: rs).take (i + 1))) = laidB r ++ (laids (rs.take i)) := fun i => by simp [laids]
   refine ⟨k + 1, p, by simp; omega, ?_, h3, h4, fun hn => ?_⟩
   ·rw [e2, e, List.take_append, h2, List.take_of_length_le hge, zN]
   ·rw [e, zG] at hn
    rw [e2, zG]
    have := h5 (by omega)
    omega
section
def YStep (P : Program) (id : Nat) (xs : List MV) (S : MS) (b : Bool) (S' : MS) : Prop :=
 ∀ (L : MS) (rd : Option Nat) (o : Oper) (env : Env) (f : Operand) (args : Array Operand) (ts : Array TypeId), o.op = .call { callee := .value f, args := args, argTypes := ts } → evo env f = some (.yld id) → evos env args.toList = some xs →
  OpWp P rd o env (S ++ L) (fun v σ' => v = .bool b ∧ σ' = S' ++ L)
def IterOk (P : Program) (k : FuncId) (first caps : List MV) (ys : List (List MV)) (ok : MS → Prop) : Prop :=
 ∀ (id : Nat) (T : Nat → MS) (m : Nat), (∀ j, ok (T j)) → (∀ j y, j < m → ys[j]? = some y → YStep P id y (T j) true (T (j + 1))) →
  (m = ys.length → MCalls P k (first ++ [.yld id] ++ caps) (T 0) fun _ σ' => σ' = T m) ∧
  (∀ y, ys[m]? = some y → YStep P id y (T m) false (T (m + 1)) → MCalls P k (first ++ [.yld id] ++ caps) (T 0) fun _ σ' => σ' = T (m + 1))
theorem get_mid {A B : MS} {o : MObj} : (A ++ o :: B)[A.length]? = some o := by
 rw [List.getElem?_append_right (Nat.le_refl _), Nat.sub_self]; rfl
theorem set_mid {A B : MS} {o p : MObj} : (A ++ o :: B).set A.length p = A ++ p :: B := by
 rw [List.set_append_right _ _ (Nat.le_refl _), Nat.sub_self]; rfl
section
variable {P : Program} {rd : Option Nat} {N n : Nat} {Q : Exit → Env → MS → Prop} {env : Env} {S : MS}
theorem mwp_rangeI {f : Operand} {ps : Array Tmp} {assign body : Code} {k : FuncId} {first caps : List MV} {ys : List (List MV)} {ok : MS → Prop} {L0 : MS} (L : Nat → MS) (hlen : ∀ j, (L j).length = (L 0).length) (hL0 : L0 = L 0) (hf : evo env f = some (.fn (.func k) first caps)) (hb : CallOk P k) (hrd : rd = none) (hN : N ≤ S.length)
  (hit : IterOk P k first caps ys ok) (hok : ∀ j, ok ((S ++ L j) ++ [.loop .ready none ⟨ps, assign, body, env, n⟩])) (hpb : ps.toList.all (fun t => Nat.blt t n) = true) (hps : ∀ y ∈ ys, ps.size = y.length)
  (hround : ∀ j y, ys[j]? = some y → ∀ L' : MS, mwp P (some (S ++ L 0).length) ((S ++ L j).length + 1 + L'.length) n assign (fun e env1 σ1 => e = .normal ∧ σ1 = (S ++ L j) ++ .loop .ready none ⟨ps, assign, body, env, n⟩ :: L' ∧
   mwp P (some (S ++ L 0).length) ((S ++ L j).length + 1 + L'.length) n body (fun e2 env2 σ2 => e2 = .normal ∧ ∃ junk, σ2 = ((S ++ L (j + 1)) ++ .loop .busy none ⟨ps, assign, body, env, n⟩ :: L') ++ junk ∧ (junk = [] ∨ ClS ((S ++ L (j + 1)) ++ .loop .busy none ⟨ps, assign, body, env, n⟩ :: L'))) env1 ((S ++ L j) ++ .loop .busy none ⟨ps, assign, body, env, n⟩ :: L')) (bindPs ps.toList y env) ((S ++ L j) ++ .loop .ready none ⟨ps, assign, body, env, n⟩ :: L'))
  (hend : Q .normal env ((S ++ L ys.length) ++ [.gone])) : mwp P rd N n (.rangeFunc f ps assign body) Q env (S ++ L0) := by
 subst hL0 hrd
 have hid : ∀ j, (S ++ L j).length = (S ++ L 0).length := fun j => by simp [hlen j]
 refine mwp_range hf hb (fun id h => by cases h) (by simp; omega) ?_
 have hys : ∀ j y, j < ys.length → ys[j]? = some y → YStep P (S ++ L 0).length y ((S ++ L j) ++ [.loop .ready none ⟨ps, assign, body, env, n⟩]) true ((S ++ L (j + 1)) ++ [.loop .ready none ⟨ps, assign, body, env, n⟩]) := by
  intro j y hj hy L' rd' o env' f' args ts ho hf' hargs
  have e1 : ((S ++ L j) ++ [.loop .ready none ⟨ps, assign, body, env, n⟩]) ++ L' = (S ++ L j) ++ .loop .ready none ⟨ps, assign, body, env, n⟩ :: L' := by simp
  have e2 : ((S ++ L (j + 1)) ++ [.loop .ready none ⟨ps, assign, body, env, n⟩]) ++ L' = (S ++ L (j + 1)) ++ .loop .ready none ⟨ps, assign, body, env, n⟩ :: L' := by simp
  have hsz : args.size = y.length := by
   have : ∀ (l : List Operand) (ys : List MV), evos env' l = some ys → l.length = ys.length := by
    intro l
    induction l with
    | nil => intro ys h; injection h with h; subst h; rfl
    | cons x l ih =>
     intro ys h
     simp only [evos] at h
     cases hx : evo env' x with
     | none => rw [hx] at h; cases h
     | some m =>
      rw [hx] at h
      cases hl : evos env' l with
      | none => simp only [hl] at h; cases h
      | some ms =>
       simp only [hl] at h
       injection h with h
       subst h
       simp [ih _ hl]
   have := this _ _ hargs
   simpa using this
  rw [e1]
  have hget : ((S ++ L j) ++ MObj.loop .ready none ⟨ps, assign, body, env, n⟩ :: L')[(S ++ L 0).length]? = some (.loop .ready none ⟨ps, assign, body, env, n⟩) := by
   rw [← hid j]; exact get_mid
  have hN' : ((S ++ L j) ++ MObj.loop .ready none ⟨ps, assign, body, env, n⟩ :: L').length = (S ++ L j).length + 1 + L'.length := by
   rw [zG, zK]; omega
  refine op_yield ho hf' hargs hget (by rw [hsz]; exact hps y (zI hy)) hpb ?_
  rw [hN']
  refine mwp_mono (hround j y hy L') ?_
  rintro e env1 σ1 ⟨rfl, rfl, h⟩
  refine ⟨rfl, none, hget, ?_⟩
  have hset : ((S ++ L j) ++ MObj.loop .ready none ⟨ps, assign, body, env, n⟩ :: L').set (S ++ L 0).length (.loop .busy none ⟨ps, assign, body, env, n⟩) = (S ++ L j) ++ .loop .busy none ⟨ps, assign, body, env, n⟩ :: L' := by
   rw [← hid j]; exact set_mid
  rw [hset]
  refine mwp_mono h ?_
  rintro e2 env2 σ2 ⟨rfl, junk, rfl, hcl⟩
  refine ⟨_, junk, none, ⟨ps, assign, body, env, n⟩, rfl, ?_, hcl, ?_, ?_⟩
  ·have h1 := hid (j + 1)
   have h2 := hid j
   simp only [zG, zK] at *
   omega
  ·rw [← hid (j + 1)]; exact get_mid
  ·refine ⟨rfl, ?_⟩
   rw [e2, ← hid (j + 1)]
   exact set_mid
 refine ((hit (S ++ L 0).length (fun j => (S ++ L j) ++ [.loop .ready none ⟨ps, assign, body, env, n⟩]) ys.length hok hys).1 V).mono ?_
 rintro v σ' rfl
 refine ⟨.ready, none, by rw [← hid ys.length]; exact get_mid, by simp, ?_⟩
 show Q .normal env _
 rw [← hid ys.length, set_mid]
 exact hend
end
end
section
theorem Rel.recell {g : Gh} {σ : MS} {w : World} (h : Rel g σ w) {id : Nat} {l l' : List MV} (hσ : σ[id]? = some (.cells l)) (hl : ∀ us, Rds g w l us → Rds g w l' us) : Rel g (σ.set id (.cells l')) w := by
 have hlt := (zC.1 hσ).1
 refine ⟨h.below, h.base, h.fresh, fun i hi => h.bkn i (by simpa using hi), fun t n ht => h.lgn t n (by simpa using ht), ?_⟩
 obtain ⟨own, ho⟩ := h.ex
 refine ⟨own, ⟨fun i o hi => ?_, ho.inj, fun i b hi => by have := ho.lt i b hi; exact ⟨by simpa using this.1, this.2⟩⟩⟩
 rw [List.getElem?_set] at hi
 split at hi
 ·rename_i e
  subst e
  injection hi with hi
  subst hi
  obtain ⟨b, us, ty, h1, h2, h3, h4, h5⟩ := ho.obj _ _ hσ
  exact ⟨b, us, ty, h1, h2, h3, h4, hl us h5⟩
 ·exact ho.obj i o hi
section
variable {P : Program} {rd : Option Nat} {N n : Nat} {c : Code} {Q : Exit → Env → MS → Prop} {env : Env} {S L : MS}
theorem mwp_cellrow {L' : MS} (k ty sz : Nat) {m : Nat} (hk : L[k]? = some (.cells [.lst0])) (hN : N ≤ S.length) (hm : L.length = m) (hL : L.set k (.cells [.lst (some (S.length + m)) sz []]) ++ [.row ty sz 0] = L') (h : mwp P rd N n c Q env (S ++ L')) : mwp P rd N n c Q env (S ++ L) := by
 subst hm hL
 refine mwp_ghost (fun g w tmps hr he => ?_) h
 obtain ⟨r1, l1, d1⟩ := tok_new hr ty sz
 have hlen : (S ++ L).length = S.length + L.length := zG
 refine ⟨_, ?_, he.mono l1, l1.toN N, fun F hF => hF.mono (l1.toN N)⟩
 have hlt := (zC.1 hk).1
 have e : S ++ (L.set k (.cells [.lst (some (S.length + L.length)) sz []]) ++ [.row ty sz 0]) = ((S ++ L) ++ [MObj.row ty sz 0]).set (S.length + k) (.cells [.lst (some (S.length + L.length)) sz []]) := by
  rw [zN, set_own, List.set_append_left _ _ hlt]
 rw [e]
 refine r1.recell (l := [.lst0]) (by rw [zN, getElem?_own, List.getElem?_append_left hlt]; exact hk) fun us hus => ?_
 obtain ⟨u, us', rfl, h1, h2⟩ := hus.uncons
 refine .cons ?_ ?_
 ·rw [h1.inv_lst0, ← hlen]; exact d1
 ·cases us' with
  | nil => exact .nil _ _
  | cons _ _ => have := h2.1; simp at this
theorem YStep.at0 {id : Nat} {xs : List MV} {S S' : MS} {b : Bool} (h : YStep P id xs S b S') {o : Oper} {f : Operand} {args : Array Operand} {ts : Array TypeId} (ho : o.op = .call { callee := .value f, args := args, argTypes := ts }) (hf : evo env f = some (.yld id)) (hx : evos env args.toList = some xs) : OpWp P rd o env S (fun v σ' => v = .bool b ∧ σ' = S') := by
 have := h [] rd o env f args ts ho hf hx
 simpa using this
end
section
variable {P : Program} {fn : Func} {S S' L : MS} {R : MV → MS → Prop} {env : Env}
theorem ret_noneT {e : Exit} (he : e = .normal ∨ e = .ret) (hres : fn.results = #[]) (hl : S.length ≤ S'.length) (hS : ClS S') (hR : R (.tup []) S') : BodyQ P fn S R e env S' := by
 have := ret_noneS (P := P) (env := env) (L := []) he hres hl hS hR
 rwa [List.append_nil] at this
theorem ret_tmpT {e : Exit} {t : Nat} {x y : MV} (he : e = .normal ∨ e = .ret) (hres : fn.results = #[.tmp t]) (hx : get env t = some x) (hs : Sub x y) (hc : Cl S'.length y) (hl : S.length ≤ S'.length) (hS : ClS S') (hR : R y S') : BodyQ P fn S R e env S' := by
 have := zR0 (P := P) (env := env) (L := []) he hres hx hs hc hl hS hR
 rwa [List.append_nil] at this
end
section
variable {P : Program} {rd : Option Nat} {o : Oper} {env : Env} {S L L' R : MS} {K : MV → MS → Prop}
theorem get_mid_ {k : Nat} {ob : MObj} (h : L[k]? = some ob) : ((S ++ L) ++ R)[S.length + k]? = some ob := by
 rw [zN, getElem?_own]
 exact get_app h
theorem set_mid_ {k : Nat} {ob p : MObj} (h : L[k]? = some ob) : ((S ++ L) ++ R).set (S.length + k) p = (S ++ L.set k p) ++ R := by
 rw [zN, set_own, set_app h, zN]
theorem op_load_mid {t : TypeId} {x : Operand} {k off : Nat} {l : List MV} {ta : Option Nat} {m : MV} (ho : o.op = .load t x) (hx : evo env x = some (.ref (S.length + k) off)) (hσ : L[k]? = some (.cells l)) (ht : tyAgg P t = some ta) (hm : loadMV ta l off = some m) (h : K m ((S ++ L) ++ R)) : OpWp P rd o env ((S ++ L) ++ R) K :=
 zJ0 ho hx (get_mid_ hσ) ht hm h
theorem op_store_mid {t : TypeId} {x y : Operand} {i off : Nat} {l : List MV} {m : MV} {k : Nat} (ho : o.op = .store t x y) (hx : evo env x = some (.ref (S.length + i) off)) (hy : evo env y = some m) (hσ : L[i]? = some (.cells l)) (hk : szOf P t = some k) (hm : m.cells.length = k)
  (h1 : m.cells.all MV.one = true) (hle : off + k ≤ l.length) (hL : L.set i (.cells (setMany l off m.cells)) = L') (h : K (.tup []) ((S ++ L') ++ R)) : OpWp P rd o env ((S ++ L) ++ R) K :=
 op_store ho hx hy (get_mid_ hσ) hk hm h1 hle (by rw [set_mid_ hσ, hL]; exact h)
theorem op_append_mid {t e sz bytes k n : Nat} {x y : Operand} {tok : Option Nat} {xs ys : List MV} (ho : o.op = .call { callee := .builtin .append, args := #[x, y], argTypes := #[t, t] }) (hu : P.underlying t = some (.slice e)) (he : elemOk P e sz bytes = true)
  (hx : evo env x = some (.lst (some (S.length + k)) sz xs)) (hy : evo env y = some (.lst tok sz ys)) (hσ : L[k]? = some (.row e sz n)) (hn : xs.length = n) (hb : (n + ys.length) * bytes ≤ 140737488355328) (hml : n + ys.length ≤ 4611686018427387904)
  (hL : L.set k (.row e sz (n + ys.length)) = L') (hK : K (.lst (some (S.length + k)) sz (xs ++ ys)) ((S ++ L') ++ R)) : OpWp P rd o env ((S ++ L) ++ R) K :=
 op_append ho hu he hx hy (get_mid_ hσ) hn hb hml (by rw [set_mid_ hσ, hL]; exact hK)
end
theorem three {p : Prop} [Decidable p] {j m : Nat} (h : j ≤ m) : ¬ p ∨ (p ∧ j < m) ∨ (p ∧ j = m) := by
 by_cases hp : p
 ·rcases Nat.lt_or_eq_of_le h with h | h
  ·exact .inr (.inl ⟨hp, h⟩)
  ·exact .inr (.inr ⟨hp, h⟩)
 ·exact .inl hp
theorem strNe {a b : Bs} (h : a ≠ b) : strCmp .neq a b = some true := by simp [strCmp, h]
theorem strNe' {a b : Bs} (h : a = b) : strCmp .neq a b = some false := by simp [strCmp, h]
end
section
section
variable {P : Program} {rd : Option Nat} {N n : Nat} {Q : Exit → Env → MS → Prop} {env : Env} {S : MS}
end
section
variable {P : Program} {rd : Option Nat} {o : Oper} {env : Env} {σ : MS} {K : MV → MS → Prop}
end
theorem get_box {A R : MS} {x x' y : MObj} : ((A ++ [x, y]) ++ R)[(A ++ [x']).length]? = some y := by rw [zG, zN, getElem?_own]; rfl
section
variable {P : Program} {rd : Option Nat} {o : Oper} {env : Env} {σ σ2 : MS} {K : MV → MS → Prop}
variable {N n : Nat} {Q : Exit → Env → MS → Prop}
end
end
section
section
variable {P : Program} {rd : Option Nat} {N n : Nat} {Q : Exit → Env → MS → Prop} {env : Env} {σ : MS}
theorem mwp_joinX {c rest : Code} {E : Env} (σ3 : MS) (φ : Prop) (h1 : mwp P rd N n c (fun e env1 σ1 => (e = .normal ∧ σ1 = σ3 ∧ EnvSub env1 E ∧ φ) ∨ (e ≠ .normal ∧ Q e env1 σ1)) env σ) (h2 : φ → mwp P rd N n rest Q E σ3) : mwp P rd N n (.seq c rest) Q env σ := by
 refine zA (mwp_mono h1 ?_)
 rintro e env1 σ1 (⟨rfl, rfl, hs, hφ⟩ | ⟨hne, hq⟩)
 ·exact mwp_env hs.get_ (h2 hφ)
 ·cases e with
  | normal => exact absurd rfl hne
  | _ => exact hq
theorem mwp_joinA {α : Type} {c rest : Code} (E : α → Env) (σ3 : α → MS) (φ : α → Prop) (h1 : mwp P rd N n c (fun e env1 σ1 => (∃ z, e = .normal ∧ σ1 = σ3 z ∧ EnvSub env1 (E z) ∧ φ z) ∨ (e ≠ .normal ∧ Q e env1 σ1)) env σ) (h2 : ∀ z, φ z → mwp P rd N n rest Q (E z) (σ3 z)) : mwp P rd N n (.seq c rest) Q env σ := by
 refine zA (mwp_mono h1 ?_)
 rintro e env1 σ1 (⟨z, rfl, rfl, hs, hφ⟩ | ⟨hne, hq⟩)
 ·exact mwp_env hs.get_ (h2 z hφ)
 ·cases e with
  | normal => exact absurd rfl hne
  | _ => exact hq
theorem wOps_at {rest : List Oper} {ops : Array Oper} {W : Env → MS → Prop} (σ' : MS) (e : σ = σ') (h : wOps P rd ops W rest env σ') : wOps P rd ops W rest env σ := e ▸ h
end
end
section
theorem replicate_flat {z : MV} (hz : [z] = z.cells) : ∀ n, flat (List.replicate n z) = List.replicate n z
 | 0 => rfl
 | n + 1 => by rw [List.replicate_succ, flat_cons, replicate_flat hz n, ← hz]; rfl
section
variable {P : Program} {rd : Option Nat} {o : Oper} {env : Env} {σ : MS} {K : MV → MS → Prop}
theorem op_makeSlice1 {t e n bytes : Nat} {x y : Operand} {kx ky : IntKind} {m : Int} {z : MV} (ho : o.op = .makeSlice t x y) (hu : P.underlying t = some (.slice e)) (he : elemOk P e 1 bytes = true) (hz : zeroMV P e = some [z]) (hx : evo env x = some (.int kx m)) (hy : evo env y = some (.int ky m)) (hm : m = (n : Int))
  (hb : bytes * n ≤ 281474976710656) (hn : n ≤ maxLen) (hone : z.one = true) (h : K (.lst none 1 (List.replicate n z)) σ) : OpWp P rd o env σ K := by
 subst hm
 refine OpWp.of_run (by simp [ho]) fun g w a hr hop => ?_
 obtain ⟨i, v, hi, hv, hs, hby, hvs, _⟩ := elemOk_spec he
 have e1 := (hop x (by simp [ho, Op.operands]) _ hx).inv_int
 have e2 := (hop y (by simp [ho, Op.operands]) _ hy).inv_int
 have hn' : (n : Int) ≤ 9223372036854775807 := by simp only [maxLen] at hn; omega
 have hb' : (i.bytes : Int) * (n : Int) ≤ 281474976710656 := by
  rw [hby]
  have : ((bytes * n : Nat) : Int) ≤ 281474976710656 := by omega
  rwa [Int.natCast_mul] at this
 have hrun := run_make (P := P) w t e i v hu hi hv kx ky (n : Int) (n : Int) (by omega) (Int.le_refl _) hb' hn'
 rw [hs, Nat.mul_one, Int.toNat_natCast] at hrun
 obtain ⟨u, hu1⟩ : ∃ u, v.cells = #[u] := Array.size_eq_one_iff.1 hvs
 have hm : madeCells v.cells n = (List.replicate n u).toArray := by
  unfold madeCells
  rw [hu1]
  apply Array.ext
  ·simp
  ·intro j h1 h2
   simp [Nat.mod_one]
 rw [hm] at hrun
 have hzu : Rd g w z u := by
  obtain ⟨v', k0, k1⟩ := zeroMV_some hz
  have hvv : v' = v := by
   have := k0 w
   simp [zeroValue, typeInfo, hi, hv] at this
   exact this.symm
  subst hvv
  have := k1 g w
  rw [hu1] at this
  exact this.2 0 _ _ rfl rfl
 have hzc : [z] = z.cells := by cases z <;> first | rfl | (simp [MV.one] at hone)
 refine ⟨_, _, ?_, gets_stable hr (ms := List.replicate n z) (us := List.replicate n u) e (fun y hy => ?_) ?_ (fun y hy => ?_) (by simp) hn h⟩
 ·simp only [execOp, ho, Sem.run_bind, e1, e2]
  simp [hrun]
 ·rw [List.eq_of_mem_replicate hy, ← hzc]; rfl
 ·rw [replicate_flat hzc]
  refine ⟨by simp, fun j y w' hy hw => ?_⟩
  rw [List.eq_of_mem_replicate (zI hy), List.eq_of_mem_replicate (zI hw)]
  exact hzu
 ·rw [List.eq_of_mem_replicate hy]
  exact one_cell hzu hone
end
end
section
section
variable {P : Program} {rd : Option Nat} {o : Oper} {env : Env} {σ : MS} {K : MV → MS → Prop}
theorem gets_vec {g : Gh} {w : World} (hr : Rel g σ w) {l : List MV} {us : List Value} {sz n c : Nat} (hl : Rds g w l us) (ty : TypeId) {fr : Nat × Nat} (hfr : FrOk fr us.length) (hn : n ≤ c) (hc : c ≤ maxLen) (h : K (.vec σ.length 0 sz n c) (σ ++ [.cells l])) :
  Gets g w K (.slice (some ⟨w.heap.size, 0, none⟩) n c) (w.alloc (.cells us.toArray ty fr)) := by
 obtain ⟨g', h1, h2, h3⟩ := hr.alloc_objF hl ty fr hfr
 exact ⟨_, _, g', h, h1, .vec _ _ _ _ _ _ h3 hn hc, h2⟩
theorem op_makeSliceV {t e n bytes : Nat} {x y : Operand} {kx ky : IntKind} {m : Int} {z : MV} (ho : o.op = .makeSlice t x y) (hu : P.underlying t = some (.slice e)) (he : elemOk P e 1 bytes = true) (hz : zeroMV P e = some [z]) (hx : evo env x = some (.int kx m)) (hy : evo env y = some (.int ky m)) (hm : m = (n : Int))
  (hb : bytes * n ≤ 281474976710656) (hn : n ≤ maxLen) (h : K (.vec σ.length 0 1 n n) (σ ++ [.cells (List.replicate n z)])) : OpWp P rd o env σ K := by
 subst hm
 refine OpWp.of_run (by simp [ho]) fun g w a hr hop => ?_
 obtain ⟨i, v, hi, hv, hs, hby, hvs, _⟩ := elemOk_spec he
 have e1 := (hop x (by simp [ho, Op.operands]) _ hx).inv_int
 have e2 := (hop y (by simp [ho, Op.operands]) _ hy).inv_int
 have hn' : (n : Int) ≤ 9223372036854775807 := by simp only [maxLen] at hn; omega
 have hb' : (i.bytes : Int) * (n : Int) ≤ 281474976710656 := by
  rw [hby]
  have : ((bytes * n : Nat) : Int) ≤ 281474976710656 := by omega
  rwa [Int.natCast_mul] at this
 have hrun := run_make (P := P) w t e i v hu hi hv kx ky (n : Int) (n : Int) (by omega) (Int.le_refl _) hb' hn'
 rw [hs, Nat.mul_one, Int.toNat_natCast] at hrun
 obtain ⟨u, hu1⟩ : ∃ u, v.cells = #[u] := Array.size_eq_one_iff.1 hvs
 have hm : madeCells v.cells n = (List.replicate n u).toArray := by
  unfold madeCells
  rw [hu1]
  apply Array.ext
  ·simp
  ·intro j h1 h2
   simp [Nat.mod_one]
 rw [hm] at hrun
 have hzu : Rd g w z u := by
  obtain ⟨v', k0, k1⟩ := zeroMV_some hz
  have hvv : v' = v := by
   have := k0 w
   simp [zeroValue, typeInfo, hi, hv] at this
   exact this.symm
  subst hvv
  have := k1 g w
  rw [hu1] at this
  exact this.2 0 _ _ rfl rfl
 refine ⟨_, _, ?_, gets_vec hr (l := List.replicate n z) (us := List.replicate n u) ?_ e (.inl V) (Nat.le_refl n) hn h⟩
 ·simp only [execOp, ho, Sem.run_bind, e1, e2]
  simp [hrun]
 ·refine ⟨by simp, fun j y w' hy hw => ?_⟩
  rw [List.eq_of_mem_replicate (zI hy), List.eq_of_mem_replicate (zI hw)]
  exact hzu
theorem op_indexAddr_vec {t e : TypeId} {x y : Operand} {id off sz n c i : Nat} {k : IntKind} {m : Int} (ho : o.op = .indexAddr t x y) (hu : P.underlying t = some (.slice e)) (hs : szOf P e = some sz) (hx : evo env x = some (.vec id off sz n c)) (hy : evo env y = some (.int k m)) (hm : m = (i : Int)) (hi : i < n) (h : K (.ref id (off + i * sz)) σ) : OpWp P rd o env σ K := by
 refine OpWp.of_run (by simp [ho]) fun g w a hr hop => ?_
 subst hm
 obtain ⟨b, hb, h1, h2, hv⟩ := (hop x (by simp [ho, Op.operands]) _ hx).inv_vec
 have hv2 := (hop y (by simp [ho, Op.operands]) _ hy).inv_int
 refine ⟨.pointer (some ⟨b, off + i * sz, none⟩), w, ?_, .same h hr (.ref _ _ _ hb)⟩
 simp [execOp, ho, Instr.indexAt, hv, hv2, asIntOf, run_underlying hu, hi, szOf_run hs, add_off]
theorem op_conv_vec {t t' e : TypeId} {x : Operand} {id off c : Nat} {xs : List MV} {l : Bs} (ho : o.op = .convert t t' x) (hs : P.underlying t = some (.slice e)) (he : P.underlying e = some (.int .u8)) (ht : P.underlying t' = some .string)
  (hx : evo env x = some (.vec id off 1 l.length c)) (hσ : σ[id]? = some (.cells xs)) (hxs : (xs.drop off).take l.length = l.map encY) (h : K (.str (bs l)) σ) : OpWp P rd o env σ K := by
 refine OpWp.of_run (by simp [ho]) fun g w a hr hop => ⟨.string (bs l), w, ?_, .same h hr (.str _)⟩
 obtain ⟨b, hb, h1, h2, hv⟩ := (hop x (by simp [ho, Op.operands]) _ hx).inv_vec
 obtain ⟨own, hown⟩ := hr.ex
 obtain ⟨b', us, ty, e1, e2, e3, ⟨fr, e4, _⟩, e5⟩ := hown.obj _ _ hσ
 rw [hb] at e2
 injection e2 with e2
 subst e2
 have hrd := (e5.drop off).take l.length
 rw [hxs] at hrd
 have hus := us_bytes hrd
 have hrun := run_convert_bytes_back (P := P) w t t' e ⟨b, off, none⟩ c l hs he ht (fun j hj => by
  refine cells_at e4 off j ?_
  have : ((us.drop off).take l.length)[j]? = some (.int .u8 (l[j].toNat : Int)) := by
   rw [hus]
   simp [hj]
  rw [List.getElem?_take, if_pos hj] at this
  exact this)
 simp only [execOp, ho, hv, Sem.run_bind, hrun]
 rfl
end
section
variable {P : Program} {rd : Option Nat} {N n : Nat} {c : Code} {Q : Exit → Env → MS → Prop} {env : Env} {S L : MS}
end
end
end Go.MV
section
namespace Go.MV
open Go Go.RowKit
theorem add128' (m : Nat) : intArith .add .u64 128 ((m % 128 : Nat) : Int) = some ((m % 128 + 128 : Nat) : Int) := by
 show some (IntKind.u64.wrap (128 + ((m % 128 : Nat) : Int))) = _
 rw [zI1 (by omega)]
 congr 1
 omega
theorem amul {a : Nat} (h : a * 128 < 18446744073709551616) : IntKind.u64.wrap ((a : Int) * 128) = ((a * 128 : Nat) : Int) := by
 rw [zI1 (by omega)]
 omega
theorem umul {a b : Nat} (h : a * b < 18446744073709551616) : intArith .mul .u64 (a : Int) (b : Int) = some ((a * b : Nat) : Int) := by
 show some (IntKind.u64.wrap ((a : Int) * (b : Int))) = _
 have e : (a : Int) * (b : Int) = ((a * b : Nat) : Int) := (Int.natCast_mul a b).symm
 rw [e, zI1 (by omega)]
theorem uadd {a b : Nat} (h : a + b < 18446744073709551616) : intArith .add .u64 (a : Int) (b : Int) = some ((a + b : Nat) : Int) := by
 show some (IntKind.u64.wrap ((a : Int) + (b : Int))) = _
 rw [zI1 (by omega)]
 rfl
theorem xfit {a n i c : Nat} (ha : a = 128 ^ i) (hi : i ≤ 9) (hn : n < a) (h9 : i = 9 → c ≤ 1) : c % 128 * a < 18446744073709551616 ∧ n + c % 128 * a < 18446744073709551616 ∧ (¬ i = 9 → a * 128 < 18446744073709551616 ∧ n + c % 128 * a < a * 128) := by
 have hm := Nat.mul_le_mul_right a (show c % 128 ≤ 127 by omega)
 by_cases h : i = 9
 ·subst h
  have h1 := Nat.mul_le_mul_right a (show c % 128 ≤ 1 by have := h9 rfl; omega)
  have h2 : a = 9223372036854775808 := ha
  refine ⟨by omega, by omega, fun hne => absurd V hne⟩
 ·have h1 : (128 : Nat) ^ i ≤ 128 ^ 8 := Nat.pow_le_pow_right (by decide) (by omega)
  have h2 : (128 : Nat) ^ 8 = 72057594037927936 := rfl
  refine ⟨by omega, by omega, fun _ => ⟨by omega, by omega⟩⟩
def eAt (h : Int) (i : Nat) : UInt8 := UInt8.ofNat (IntKind.u8.wrap (h.fdiv (2 ^ min ((8 * i : Nat) : Int).toNat IntKind.u64.bits))).toNat
def eUp (h : Int) (i : Nat) : Bs := (List.range i).map (eAt h)
theorem eUp_len (h : Int) (i : Nat) : (eUp h i).length = i := by simp [eUp]
theorem eUp_succ (h : Int) (i : Nat) : eUp h (i + 1) = eUp h i ++ [eAt h i] := by simp [eUp, List.range_succ]
theorem fdiv_pow (h : Int) (a b : Nat) : (h.fdiv (2 ^ a)).fdiv (2 ^ b) = h.fdiv (2 ^ (a + b)) := by
 have hp : ∀ k : Nat, (0 : Int) ≤ 2 ^ k := fun k => Int.le_of_lt (Int.pow_pos (by decide))
 rw [Int.fdiv_eq_ediv_of_nonneg _ (hp _), Int.fdiv_eq_ediv_of_nonneg _ (hp _), Int.fdiv_eq_ediv_of_nonneg _ (hp _), Int.ediv_ediv_of_nonneg (hp _), Int.pow_add]
theorem eight_eq (h : Int) : eUp h 8 = leB 8 h := by
 have s8 : min (8 : Int).toNat IntKind.u64.bits = 8 := rfl
 have e : ∀ i, i ≤ 7 → min ((8 * i : Nat) : Int).toNat IntKind.u64.bits = 8 * i := fun i hi => by
  show min (8 * i) 64 = 8 * i
  omega
 simp only [leB, s8, fdiv_pow]
 have h0 : eAt h 0 = UInt8.ofNat (IntKind.u8.wrap h).toNat := by
  unfold eAt
  rw [e 0 (by omega)]
  simp
 simp only [eUp, show List.range 8 = [0, 1, 2, 3, 4, 5, 6, 7] from rfl, List.map_cons, List.map_nil, h0]
 simp only [eAt, e 1 (by omega), e 2 (by omega), e 3 (by omega), e 4 (by omega), e 5 (by omega), e 6 (by omega), e 7 (by omega)]
abbrev RdX := Bs × Int
def xFail (e : Int) (r : RdX) : RdX := if r.2 = 0 then (r.1, e) else r
def numX (r : RdX) : Nat × RdX := if r.2 = 0 then (match rNum r.1 with | .inl (n, rest) => (n, (rest, 0)) | .inr e => (0, (r.1, (e : Int)))) else (0, r)
def countX (most : Nat) (r : RdX) : Nat × RdX := if most < (numX r).1 then (0, xFail 13 (numX r).2) else numX r
def textX (most : Nat) (r : RdX) : Bs × RdX :=
 if (countX most r).2.2 ≠ 0 then ([], (countX most r).2)
 else if (countX most r).2.1.length < (countX most r).1 then ([], ((countX most r).2.1, 11))
 else ((countX most r).2.1.take (countX most r).1, ((countX most r).2.1.drop (countX most r).1, 0))
theorem numX_ok {b rest : Bs} {n : Nat} (h : rNum b = .inl (n, rest)) : numX (b, 0) = (n, (rest, 0)) := by
 unfold numX
 rw [if_pos rfl]
 simp only [h]
theorem numX_bad {b : Bs} {e : Nat} (h : rNum b = .inr e) : numX (b, 0) = (0, (b, (e : Int))) := by
 unfold numX
 rw [if_pos rfl]
 simp only [h]
theorem numX_err {b : Bs} {e : Int} (h : e ≠ 0) : numX (b, e) = (0, (b, e)) := by
 unfold numX
 rw [if_neg h]
theorem rNumGo_lt : ∀ {b : Bs} {i a n m : Nat} {r : Bs}, a = 128 ^ i → i ≤ 9 → n < a → rNumGo i a n b = .inl (m, r) → m < 18446744073709551616
 | [], i, a, n, m, r, _, _, _, h => by cases h
 | c :: b, i, a, n, m, r, ha, hi, hn, h => by
  rw [rNumGo] at h
  split at h
  ·cases h
  ·rename_i hc
   obtain ⟨f1, f2, f3⟩ := xfit (c := c.toNat) ha hi hn (by omega)
   split at h
   ·injection h with h
    injection h with h1 h2
    omega
   ·have h9 : ¬ i = 9 := by have := c.toNat_lt; omega
    have f4 := f3 h9
    exact rNumGo_lt (by rw [Nat.pow_succ, ← ha]) (by omega) f4.2 h
theorem rNumGo_e : ∀ {b : Bs} {i a n e : Nat}, rNumGo i a n b = .inr e → e = 10 ∨ e = 11
 | [], i, a, n, e, h => by
  rw [rNumGo] at h
  injection h with h
  exact .inr h.symm
 | c :: b, i, a, n, e, h => by
  rw [rNumGo] at h
  split at h
  ·injection h with h
   exact .inl h.symm
  ·split at h
   ·cases h
   ·exact rNumGo_e h
theorem numX_facts (r : RdX) : (numX r).2.1.length ≤ r.1.length ∧ (numX r).1 < 18446744073709551616 ∧ ((numX r).2.2 ≠ 0 → (numX r).1 = 0) := by
 obtain ⟨b, e⟩ := r
 by_cases he : e = 0
 ·subst he
  cases h : rNum b with
  | inl x =>
   obtain ⟨n, rest⟩ := x
   rw [numX_ok h]
   have h1 := (rNumGo_rest h).1
   exact ⟨by dsimp only; omega, rNumGo_lt (by rfl) (by omega) (by omega) h, fun hn => absurd rfl hn⟩
  | inr e =>
   rw [numX_bad h]
   exact ⟨Nat.le_refl _, (by show (0 : Nat) < 18446744073709551616; decide), fun _ => rfl⟩
 ·rw [numX_err he]
  exact ⟨Nat.le_refl _, (by show (0 : Nat) < 18446744073709551616; decide), fun _ => rfl⟩
theorem xFail_len (e : Int) (r : RdX) : (xFail e r).1 = r.1 := by unfold xFail; split <;> rfl
theorem countX_facts (most : Nat) (r : RdX) : (countX most r).2.1.length ≤ r.1.length ∧ (countX most r).1 ≤ most ∧ (countX most r).1 < 18446744073709551616 := by
 obtain ⟨h1, h2, h3⟩ := numX_facts r
 unfold countX
 split
 ·refine ⟨?_, Nat.zero_le _, (by show (0 : Nat) < 18446744073709551616; decide)⟩
  rw [xFail_len]
  exact h1
 ·exact ⟨h1, by omega, h2⟩
theorem textX_eq (most : Nat) (b : Bs) : textX most (b, 0) = ((rText most b).1, ((rText most b).2.1, ((rText most b).2.2 : Int))) := by
 unfold textX countX rText
 cases h : rNum b with
 | inl x =>
  obtain ⟨n, rest⟩ := x
  rw [numX_ok h]
  by_cases hm : most < n
  ·simp [hm, xFail]
  ·by_cases hl : rest.length < n <;> simp [hm, hl]
 | inr e =>
  rw [numX_bad h]
  have := rNumGo_e h
  have he : (e : Int) ≠ 0 := by omega
  simp [he]
  omega
def xo (r : RdX) : MObj := .cells [.str (bs r.1), .int .i64 r.2]
theorem xo_cl (n : Nat) (r : RdX) : (xo r).cl n := fun x hx => by
 simp only [List.mem_cons, List.not_mem_nil, or_false] at hx
 rcases hx with rfl | rfl
 ·exact .str _
 ·exact .int _ _
theorem set_selfX {S : MS} {id : Nat} {o : MObj} (h : S[id]? = some o) : S.set id o = S := by
 obtain ⟨hlt, e⟩ := zC.1 h
 rw [← e]
 exact List.set_getElem_self hlt
theorem get_setX {S : MS} {id : Nat} {o p : MObj} (h : S[id]? = some o) : (S.set id p)[id]? = some p := List.getElem?_set_self (zC.1 h).1
theorem set_setX {S : MS} {id : Nat} {o p : MObj} : (S.set id o).set id p = S.set id p := List.set_set _
theorem slX {S L : MS} {id : Nat} {o : MObj} (h : S[id]? = some o) : (S ++ L)[id]? = some o := by rw [List.getElem?_append_left (zC.1 h).1]; exact h
theorem set_slX {S L : MS} {id : Nat} {o p : MObj} (h : S[id]? = some o) : (S ++ L).set id p = S.set id p ++ L := List.set_append_left _ _ (zC.1 h).1
theorem eb_get {h : Int} {i : Nat} (hi : i < 8) : setMany ((eUp h i).map encY ++ List.replicate (8 - i) (.int .u8 0)) (0 + i * 1) [.int .u8 ((eAt h i).toNat : Int)] = (eUp h (i + 1)).map encY ++ List.replicate (8 - (i + 1)) (.int .u8 0) := by
 have e1 : ((eUp h i).map encY).length = i := by rw [zT, eUp_len]
 have e2 : List.replicate (8 - i) (MV.int .u8 0) = MV.int .u8 0 :: List.replicate (8 - (i + 1)) (.int .u8 0) := by
  rw [show 8 - i = (8 - (i + 1)) + 1 by omega]
  rfl
 rw [eUp_succ, setMany, Nat.zero_add, Nat.mul_one, e2]
 rw [List.take_append_of_le_length (by omega), List.take_of_length_le (by omega)]
 rw [List.length_singleton, List.drop_append, e1, List.drop_eq_nil_of_le (by omega), show i + 1 - i = 1 by omega]
 simp [encY]
theorem eb_st {S : MS} {h : Int} {i : Nat} (hi : i < 8) : (S ++ [MObj.cells ((eUp h i).map encY ++ List.replicate (8 - i) (.int .u8 0))]).set S.length (.cells (setMany ((eUp h i).map encY ++ List.replicate (8 - i) (.int .u8 0)) (0 + i * 1) [.int .u8 ((eAt h i).toNat : Int)])) = S ++ [MObj.cells ((eUp h (i + 1)).map encY ++ List.replicate (8 - (i + 1)) (.int .u8 0))] := by
 rw [eb_get hi]
 simp
theorem eb_take (h : Int) : (((eUp h 8).map encY ++ List.replicate (8 - 8) (MV.int .u8 0)).drop 0).take (eUp h 8).length = (eUp h 8).map encY := by
 rw [List.drop_zero, Nat.sub_self, List.replicate_zero, List.append_nil, List.take_of_length_le (by simp)]
end Go.MV
namespace Go.Proofs.YtplclefbiimnbaaDoor
open Go Go.MV
theorem rNum_spec (n : Nat) (hn : n < 18446744073709551616) (hl : (numB n).length ≤ 100) (S : MS) : MCalls Tryd.prog 44 [.int .u64 (n : Int)] S fun v σ' => v = .str (bs (numB n)) ∧ σ' = S := by
 refine zM Tryd.func44 V Tryd.ntmps44 (zB V) ?_
 refine zA <| qR V <| qA V V V <| qN <| zA <| qR V <| qA V V V <| qN <| zA <| zW ?_
 refine zY0 (α := Nat × Bs) [] (fun x => [(0, .int .u64 (x.1 : Int)), (3, .str (bs x.2))]) (fun x => []) (fun x => x.2 ++ numB x.1 = numB n ∧ x.1 ≤ n) (fun x => x.1) (⟨n, []⟩) (.nil) (.keep V (.keep V (.nil))) (⟨rfl, Nat.le_refl _⟩) (V) ?_
 rintro ⟨m, out⟩ ⟨he, hm⟩
 dsimp only at he hm ⊢
 have hol : out.length ≤ (numB n).length := by rw [← he, zG]; omega
 refine zA <| zA <| qR V <| qM V V V <| qC V V V V V <| qN ?_
 refine zO V (fun h5 => ?_) (fun h5 => ?_)
 ·
  have hge : 128 ≤ m := by simp at h5; omega
  refine zZ <| zW <| zA <| qR V <| qM V V V <| qM V V V <| qO V <| op_rem V V V (by decide) (rem128 m) ?_
  refine qO V <| zV V V V (add128' m) <| qO V <| zK0 V zD0 zA0 V (u8_conv (show m % 128 + 128 < 256 by omega)) ?_
  refine qO V <| zI0 V zX el5 V V (by decide) (by decide) V V ?_
  refine qO V <| op_conv_bytes (l := [UInt8.ofNat (m % 128 + 128)]) V zX zA0 zD V (V) <| qO V <| zB1 V V V (by simp only [zK, List.length_nil]; omega) ?_
  refine qA V V V <| qN <| qR V <| qM V V V <| qO V <| op_quo V V V (by decide) (quo128 (by omega)) ?_
  refine qA V V V <| qN ?_
  refine ⟨⟨m / 128, out ++ [UInt8.ofNat (m % 128 + 128)]⟩, by dsimp only; omega, ⟨by dsimp only; rw [← he, numB_more hge]; simp, by dsimp only; omega⟩, rfl, (.nil), (.eq V (V) (.eq V (V) (.nil)))⟩
 ·
  have hlt : m < 128 := by simp at h5; omega
  refine zT0 <| zA <| qR V <| qM V V V <| qM V V V <| qO V <| zK0 V zD0 zA0 V (u8_conv (show m < 256 by omega)) ?_
  refine qO V <| zI0 V zX el5 V V (by decide) (by decide) V V ?_
  refine qO V <| op_conv_bytes (l := [UInt8.ofNat m]) V zX zA0 zD V (V) <| qO V <| zB1 V V V (by simp only [zK, List.length_nil]; omega) ?_
  refine qA V V V <| qN <| zU ?_
  exact zL0 (.inr V) Tryd.results44 V (.of_eq (by rw [← he, numB_last hlt])) (.str _) Vv
theorem rText_spec (s : Bs) (hs : s.length ≤ 1000000) (S : MS) : MCalls Tryd.prog 35 [.str (bs s)] S fun v σ' => v = .str (bs (textB s)) ∧ σ' = S := by
 refine zM Tryd.func35 V Tryd.ntmps35 (zB V) ?_
 have hl := (zC1 (show s.length < 2097152 by omega)).2
 refine zA <| qR V <| qA V V V <| qN <| zA <| qR V <| qM V V V <| qO V <| zY V zD V <| qO V <| zK0 V zS0 zD0 V (zI1 (by omega)) ?_
 refine qX V V V V co44 (rNum_spec s.length (by omega) (by omega) _) ?_
 refine qM V V V <| qO V <| zB1 V V V (by omega) ?_
 refine qA V V V <| qN <| zU ?_
 exact zL0 (.inr V) Tryd.results35 V (.of_eq (V)) (.str _) Vv
theorem rHash_spec (b : Bs) (hlen : b.length ≤ 2000000) (S : MS) : MCalls Tryd.prog 37 [.str (bs b)] S fun v σ' => v = .int .u64 (hashB b) ∧ σ' = S := by
 refine zM Tryd.func37 V Tryd.ntmps37 (zB V) ?_
 have hlen' : b.length ≤ maxLen := by simp only [maxLen]; omega
 refine zA <| qR V <| qA V V V <| qN <| zA <| qR V <| qA V V V <| qN <| zA <| zA <| qR V <| qA V V V <| qN <| zW ?_
 refine zY0 (α := Nat) [(0, _)] (fun i => [(4, .int .i64 (i : Int)), (3, .int .u64 (hashB (b.take i)))]) (fun i => []) (fun i => i ≤ b.length) (fun i => b.length - i) (0) (.keep V (.nil)) (.keep V (.keep V (.nil))) (by omega) (V) ?_
 rintro i hi
 refine zA <| zA <| qR V <| qM V V V <| qM V V V <| qO V <| zY V zD V <| qC V V V V V <| qN ?_
 refine zO V (fun h8 => ?_) (fun h8 => ?_)
 ·
  have hlt : i < b.length := by simpa using h8
  obtain ⟨c, hs⟩ : ∃ q_, b[i]? = some q_ := ⟨_, zF hlt⟩
  refine zZ <| zA <| zW <| qR V <| qM V V V <| qM V V V <| qM V V V <| qO V <| op_index_str V zD V V V hs <| qO V <| zK0 V zA0 zD0 V (u64_byte c) <| qO V <| op_bits V V V V <| qO V <| zV V V V V <| qA V V V <| qN <| qR V <| qM V V V <| qO V <| zV V V V V <| qA V V V <| qN ?_
  refine ⟨i + 1, by omega, by omega, rfl, (.keep V (.nil)), (.eq V (zK1 hlt hlen') (.eq V (by rw [hash_take hs]; rfl) (.nil)))⟩
 ·
  have hge : i = b.length := by simp at h8; omega
  refine zT0 <| zA <| qR V <| qM V V V <| qA V V V <| qN <| zU ?_
  exact zL0 (.inr V) Tryd.results37 V (.of_eq (by rw [hge, List.take_length])) (.int _ _) Vv
theorem rEight_spec (h : Int) (S : MS) : MCalls Tryd.prog 36 [.int .u64 h] S fun v σ' => v = .str (bs (leB 8 h)) ∧ σ' = S := by
 refine zM Tryd.func36 V Tryd.ntmps36 (zB V) ?_
 refine zA <| qR V <| qA V V V <| qN <| zA <| qR V <| qO V <| op_makeSliceV V zX el5 zm5 V V V (by decide) (by decide) ?_
 rw [List.append_nil]
 refine qA V V V <| qN <| zA <| zA <| qR V <| qA V V V <| qN <| zW ?_
 refine zY0 (α := Nat) [(0, _), (3, _)] (fun i => [(4, .int .i64 (i : Int))]) (fun i => [.cells ((eUp h i).map encY ++ List.replicate (8 - i) (.int .u8 0))]) (fun i => i ≤ 8) (fun i => 8 - i) (0) (.keep V (.keep V (.nil))) (.keep V (.nil)) (by omega) (V) ?_
 rintro i hi
 refine zA <| zA <| qR V <| qM V V V <| qC V V V V V <| qN ?_
 refine zO V (fun h7 => ?_) (fun h7 => ?_)
 ·
  have hlt : i < 8 := by simp at h7; omega
  refine zZ <| zA <| zW <| qR V <| qM V V V <| qM V V V <| qM V V V <| qM V V V <| qO V <| zV V V V (wmul (a := 8) (b := i) V (by omega)) ?_
  refine qO V <| zK0 V zS0 Tryd.underlying73 V (zI1 (by omega)) ?_
  refine qO V <| op_shr V V V (by omega) V ?_
  refine qO V <| zK0 V zD0 zA0 V (u8_wrap _) <| qO V <| op_indexAddr_vec V zX sz5 V V V hlt <| qO V <| op_store V V V (by simp : (S ++ [MObj.cells ((eUp h i).map encY ++ List.replicate (8 - i) (.int .u8 0))])[S.length]? = some (.cells ((eUp h i).map encY ++ List.replicate (8 - i) (.int .u8 0)))) sz5 V V (by simp [eUp_len]; omega) ?_
  refine wOps_at (S ++ [MObj.cells ((eUp h (i + 1)).map encY ++ List.replicate (8 - (i + 1)) (.int .u8 0))]) (eb_st hlt) <| qN <| qR V <| qM V V V <| qO V <| zV V V V V <| qA V V V <| qN ?_
  refine ⟨i + 1, by omega, by omega, rfl, (.keep V (.keep V (.nil))), (.eq V (zK1 hlt (by decide)) (.nil))⟩
 ·
  have hge : i = 8 := by simp at h7; omega
  subst hge
  refine zT0 <| zA <| qR V <| qM V V V <| qO V <| op_conv_vec (l := eUp h 8) V zX zA0 zD (by rw [eUp_len]; try rfl) (by simp : (S ++ [MObj.cells ((eUp h 8).map encY ++ List.replicate (8 - 8) (.int .u8 0))])[S.length]? = some (.cells ((eUp h 8).map encY ++ List.replicate (8 - 8) (.int .u8 0)))) (eb_take h) ?_
  refine qA V V V <| qN <| zU ?_
  exact zL0 (.inr V) Tryd.results36 V (.of_eq (by rw [eight_eq])) (.str _) Vv
theorem xfails0 (id : Nat) (r : RdX) (S : MS) (h : S[id]? = some (xo r)) (x : Int) : MCalls Tryd.prog 46 [.ref id 0, .int .i64 x] S fun v σ' => v = .tup [] ∧ σ' = S.set id (xo (xFail x r)) := by
 obtain ⟨b, e⟩ := r
 refine zM Tryd.func46 V Tryd.ntmps46 (zB V) ?_
 refine zG0 fun _ hcl => ?_
 rw [List.append_nil] at hcl
 refine zA <| qR V <| qM V V V <| qO V <| zH V V V <| qF V V V fo80_1 <| qO V <| zL V V h ta3 V <| qC V V V V V <| qN ?_
 refine zO V (fun h8 => ?_) (fun h8 => ?_)
 ·
  have he : e = 0 := by simpa using h8
  refine qR V <| qM V V V <| qM V V V <| qO V <| zH V V V <| qF V V V fo80_1 <| qO V <| zE0 V V V h sz3 V V (zB V) <| qN ?_
  exact ret_noneS (S' := S.set id (xo (b, x))) (by simp) Tryd.results46 (by simp) (hcl.set (xo_cl _ _)) ⟨rfl, by rw [xFail, if_pos he]⟩
 ·
  have he : ¬ e = 0 := by simpa using h8
  refine zZ ?_
  exact ret_noneS (S' := S) (by simp) Tryd.results46 (Nat.le_refl _) hcl ⟨rfl, by rw [xFail, if_neg he, set_selfX h]⟩
theorem xfails_spec (id : Nat) (r : RdX) (S L : MS) (h : S[id]? = some (xo r)) (x : Int) : MCalls Tryd.prog 46 [.ref id 0, .int .i64 x] (S ++ L) fun v σ' => v = .tup [] ∧ σ' = S.set id (xo (xFail x r)) ++ L := by
 refine (xfails0 id r (S ++ L) (slX h) x).mono fun v σ' hv => ⟨hv.1, ?_⟩
 rw [hv.2, set_slX h]
theorem _root_.zF1 : type_of% @xfails_spec := @xfails_spec
def RdsX {α : Type} (k : FuncId) (xs : List MV) (id : Nat) (en : α → MV) (M : RdX → α × RdX) : Prop := ∀ (r : RdX) (S : MS), S[id]? = some (xo r) → r.1.length ≤ 8000000 → MCalls Tryd.prog k xs S fun v σ' => v = en (M r).1 ∧ σ' = S.set id (xo (M r).2)
theorem RdsX.sl {α : Type} {k : FuncId} {xs : List MV} {id : Nat} {en : α → MV} {M : RdX → α × RdX} (h : RdsX k xs id en M) {r : RdX} {S L : MS} (hr : S[id]? = some (xo r)) (hl : r.1.length ≤ 8000000) : MCalls Tryd.prog k xs (S ++ L) fun v σ' => v = en (M r).1 ∧ σ' = S.set id (xo (M r).2) ++ L :=
 (h r (S ++ L) (slX hr) hl).mono fun v σ' hv => ⟨hv.1, by rw [hv.2, set_slX hr]⟩
theorem _root_.zH1 : type_of% @Tryd.results47 := @Tryd.results47
theorem xnum0_spec (id : Nat) (b : Bs) (S : MS) (h : S[id]? = some (xo (b, 0))) (hlen : b.length ≤ 8000000) : MCalls Tryd.prog 47 [.ref id 0] S fun v σ' => v = .int .u64 ((numX (b, 0)).1 : Int) ∧ σ' = S.set id (xo (numX (b, 0)).2) := by
 refine zM Tryd.func47 V Tryd.ntmps47 (zB V) ?_
 refine zG0 fun _ hcl => ?_
 rw [List.append_nil] at hcl
 have hlen' : b.length ≤ maxLen := by simp only [maxLen]; omega
 refine zA <| qR V <| qA V V V <| qN <| zA <| qR V <| qA V V V <| qA V V V <| qN <| zA <| zA <| qR V <| qA V V V <| qN <| zW ?_
 refine zY0 (α := Nat × Nat × Nat) [(0, _)] (fun x => [(3, .int .u64 (x.1 : Int)), (4, .int .u64 (x.2.1 : Int)), (5, .int .i64 (x.2.2 : Int))]) (fun x => []) (fun x => x.2.2 ≤ b.length ∧ x.2.2 ≤ 9 ∧ x.2.1 = 128 ^ x.2.2 ∧ x.1 < x.2.1 ∧ rNumGo x.2.2 x.2.1 x.1 (b.drop x.2.2) = rNum b) (fun x => b.length - x.2.2) (⟨0, 1, 0⟩) (.keep V (.nil)) (.keep V (.keep V (.keep V (.nil)))) (⟨by simp, by simp, by simp, by simp, rfl⟩) (V) ?_
 rintro ⟨n, a, i⟩ ⟨hi, hi9, ha, hn, he⟩
 dsimp only at hi hi9 ha hn he ⊢
 refine zA <| zA <| qR V <| qM V V V <| qM V V V <| qO V <| zH V V V <| qF V V V zJ1 <| qO V <| zL V V h ta9 V <| qO V <| zY V zD V <| qC V V V V V <| qM V V V ?_
 refine zO1 (fun h14 => ?_) (fun h14 => ?_)
 ·
  have hlt : i < b.length := by simpa using h14
  obtain ⟨c, hs⟩ : ∃ q_, b[i]? = some q_ := ⟨_, zF hlt⟩
  have hcl0 := c.toNat_lt
  rw [drop_at hs] at he
  refine qM V V V <| qO V <| zH V V V <| qF V V V fo80_1 <| qO V <| zL V V h ta3 V <| qC V V V V V <| qP V V V V <| qN <| zQ0 V (V) <| zZ <| zA <| zW <| zA <| qR V <| qM V V V <| qO V <| zH V V V <| qF V V V zJ1 <| qO V <| zL V V h ta9 V <| qM V V V <| qO V <| op_index_str V zD V V V hs ?_
  refine qO V <| zK0 V zA0 zD0 V (u64_byte c) <| qA V V V <| qN ?_
  refine mwp_joinX (E := [(0, .ref id 0), (3, .int .u64 (n : Int)), (4, .int .u64 (a : Int)), (5, .int .i64 (i : Int)), (6, .int .u64 (c.toNat : Int))]) (S ++ []) (¬ ((i = 9 ∧ 1 < c.toNat) ∨ (0 < i ∧ c.toNat = 0))) ?_ ?_
  ·
   refine zA <| qR V <| qM V V V <| qC V V V V V <| qM V V V ?_
   refine zO1 (fun h32 => ?_) (fun h32 => ?_)
   ·
    have q9 : i = 9 := by simp at h32; omega
    refine qM V V V <| qC V V V V V <| qP V V V V <| qM V V V ?_
    refine zO1 (fun h36 => ?_) (fun h36 => ?_)
    ·
     have q1 : 1 < c.toNat := by simp at h36; omega
     refine qT V V V V <| qS V <| qS V <| qP V V V V <| qN <| zQ0 V (V) <| zA <| qR V <| qM V V V ?_
     refine qX V V V V co46 (zF1 id (b, 0) S [] h _) ?_
     refine qN <| zA <| qR V <| qA V V V <| qN <| zU ?_
     refine .inr ⟨nofun, ?_⟩
     have hE : numX (b, 0) = (0, (b, 10)) := numX_bad (he.symm.trans (by rw [rNumGo, if_pos (by omega)]))
     exact zR0 (.inr V) zH1 V (.refl _) (.int _ _) (by simp) (hcl.set (xo_cl _ (b, 10))) ⟨by rw [hE]; try rfl, by rw [hE]; try rfl⟩
    ·
     have q1 : ¬ 1 < c.toNat := by simp at h36; omega
     refine qM V V V <| qC V V V V V <| qM V V V ?_
     refine zO1 (fun h39 => ?_) (fun h39 => ?_)
     ·
      have q0 : 0 < i := by simp at h39; omega
      refine qM V V V <| qC V V V V V <| qP V V V V <| qP V V V V <| qN ?_
      refine zO V (fun h43 => ?_) (fun h43 => ?_)
      ·
       have qc : c.toNat = 0 := by have := eq_of_beq h43; omega
       refine zA <| qR V <| qM V V V ?_
       refine qX V V V V co46 (zF1 id (b, 0) S [] h _) ?_
       refine qN <| zA <| qR V <| qA V V V <| qN <| zU ?_
       refine .inr ⟨nofun, ?_⟩
       have hE : numX (b, 0) = (0, (b, 10)) := numX_bad (he.symm.trans (by rw [rNumGo, if_pos (by omega)]))
       exact zR0 (.inr V) zH1 V (.refl _) (.int _ _) (by simp) (hcl.set (xo_cl _ (b, 10))) ⟨by rw [hE]; try rfl, by rw [hE]; try rfl⟩
      ·
       have qc : ¬ c.toNat = 0 := by intro e; rw [e] at h43; simp at h43
       refine zZ ?_
       exact .inl ⟨rfl, rfl, .keep rfl (.keep rfl (.keep rfl (.keep rfl (.keep rfl .nil)))), by omega⟩
     ·
      have q0 : ¬ 0 < i := by simp at h39; omega
      refine qS V <| qS V <| qP V V V V <| qP V V V V <| qN <| zF0 V (V) <| zZ ?_
      exact .inl ⟨rfl, rfl, .keep rfl (.keep rfl (.keep rfl (.keep rfl (.keep rfl .nil)))), by omega⟩
   ·
    have q9 : ¬ i = 9 := by simp at h32; omega
    refine qS V <| qS V <| qP V V V V <| qM V V V <| qM V V V <| qC V V V V V <| qM V V V ?_
    refine zO1 (fun h39 => ?_) (fun h39 => ?_)
    ·
     have q0 : 0 < i := by simp at h39; omega
     refine qM V V V <| qC V V V V V <| qP V V V V <| qP V V V V <| qN ?_
     refine zO V (fun h43 => ?_) (fun h43 => ?_)
     ·
      have qc : c.toNat = 0 := by have := eq_of_beq h43; omega
      refine zA <| qR V <| qM V V V ?_
      refine qX V V V V co46 (zF1 id (b, 0) S [] h _) ?_
      refine qN <| zA <| qR V <| qA V V V <| qN <| zU ?_
      refine .inr ⟨nofun, ?_⟩
      have hE : numX (b, 0) = (0, (b, 10)) := numX_bad (he.symm.trans (by rw [rNumGo, if_pos (by omega)]))
      exact zR0 (.inr V) zH1 V (.refl _) (.int _ _) (by simp) (hcl.set (xo_cl _ (b, 10))) ⟨by rw [hE]; try rfl, by rw [hE]; try rfl⟩
     ·
      have qc : ¬ c.toNat = 0 := by intro e; rw [e] at h43; simp at h43
      refine zZ ?_
      exact .inl ⟨rfl, rfl, .keep rfl (.keep rfl (.keep rfl (.keep rfl (.keep rfl .nil)))), by omega⟩
    ·
     have q0 : ¬ 0 < i := by simp at h39; omega
     refine qS V <| qS V <| qP V V V V <| qP V V V V <| qN <| zF0 V (V) <| zZ ?_
     exact .inl ⟨rfl, rfl, .keep rfl (.keep rfl (.keep rfl (.keep rfl (.keep rfl .nil)))), by omega⟩
  ·
   intro hok
   refine zA ?_
   obtain ⟨hf1, hf2, hf3⟩ := xfit (c := c.toNat) ha hi9 hn (by omega)
   refine qR V <| qM V V V <| qM V V V <| qO V <| op_rem V V V (by decide) (rem128 c.toNat) ?_
   refine qM V V V <| qO V <| zV V V V (umul (a := c.toNat % 128) (b := a) hf1) <| qO V <| zV V V V (uadd hf2) <| qA V V V <| qN <| zA <| qR V <| qM V V V <| qO V <| zV V V V V <| qA V V V <| qN <| zA <| qR V <| qM V V V <| qC V V V V V <| qN ?_
   refine zO V (fun h55 => ?_) (fun h55 => ?_)
   ·
    have hlast : c.toNat < 128 := by simp at h55; omega
    have hE : numX (b, 0) = (n + c.toNat % 128 * a, (b.drop (i + 1), 0)) := numX_ok (he.symm.trans (by rw [rNumGo, if_neg hok, if_pos hlast]))
    refine zA <| qR V <| qM V V V <| qM V V V <| qO V <| zH V V V <| qF V V V zJ1 <| qO V <| zL V V h ta9 V <| qM V V V <| qO V <| zV V V V (wadd (a := i) (b := 1) V (by omega)) ?_
    refine qO V <| zC0 V zD V (.some V V) .none (by dsimp only; omega) (by dsimp only; omega) ?_
    rw [List.take_of_length_le (by simp : (b.drop (i + 1)).length ≤ b.length - (i + 1))]
    refine qO V <| zH V V V <| qF V V V zJ1 <| qO V <| zE0 V V V h sz9 V V (zB V) <| qN <| zA <| qR V <| qM V V V <| qA V V V <| qN <| zU ?_
    exact zR0 (.inr V) zH1 V (.refl _) (.int _ _) (by simp) (hcl.set (xo_cl _ (_, 0))) ⟨by rw [hE]; try rfl, by rw [hE]; try rfl⟩
   ·
    have hlast : ¬ c.toNat < 128 := by simp at h55; omega
    have hf4 := hf3 (by omega)
    refine zZ <| qR V <| qM V V V <| qO V <| zV V V V V <| qA V V V <| qN ?_
    refine ⟨⟨n + c.toNat % 128 * a, a * 128, i + 1⟩, by dsimp only; omega, ⟨by dsimp only; omega, by dsimp only; omega, by dsimp only; rw [Nat.pow_succ, ← ha], hf4.2, by dsimp only; rw [← he, rNumGo, if_neg hok, if_neg hlast]⟩, rfl, (.keep V (.nil)), (.eq V (V) (.eq V (congrArg (MV.int .u64) (amul hf4.1)) (.eq V (zK1 hlt hlen') (.nil))))⟩
 ·
  have hge : i = b.length := by simp at h14; omega
  have hE : numX (b, 0) = (0, (b, 11)) := numX_bad (he.symm.trans (by rw [hge, List.drop_length]; rfl))
  refine qT V V V V <| qS V <| qP V V V V <| qN <| zF0 V (V) <| zT0 <| zA <| qR V <| qM V V V ?_
  refine qX V V V V co46 (zF1 id (b, 0) S [] h _) ?_
  refine qN <| zA <| qR V <| qA V V V <| qN <| zU ?_
  exact zR0 (.inr V) zH1 V (.refl _) (.int _ _) (by simp) (hcl.set (xo_cl _ (b, 11))) ⟨by rw [hE]; try rfl, by rw [hE]; try rfl⟩
theorem xnumE_spec (id : Nat) (b : Bs) (e : Int) (he : e ≠ 0) (S : MS) (h : S[id]? = some (xo (b, e))) : MCalls Tryd.prog 47 [.ref id 0] S fun v σ' => v = .int .u64 0 ∧ σ' = S := by
 refine zM Tryd.func47 V Tryd.ntmps47 (zB V) ?_
 refine zG0 fun _ hcl => ?_
 rw [List.append_nil] at hcl
 refine zA <| qR V <| qA V V V <| qN <| zA <| qR V <| qA V V V <| qA V V V <| qN <| zA <| zA <| qR V <| qA V V V <| qN <| zW ?_
 refine zY0 (α := Nat) [(0, _)] (fun x => [(3, .int .u64 (0 : Int)), (4, .int .u64 (1 : Int)), (5, .int .i64 (0 : Int))]) (fun x => []) (fun x => True) (fun x => x) (0) (.keep V (.nil)) (.keep V (.keep V (.keep V (.nil)))) (trivial) (V) ?_
 rintro i _
 refine zA <| zA <| qR V <| qM V V V <| qM V V V <| qO V <| zH V V V <| qF V V V zJ1 <| qO V <| zL V V h ta9 V <| qO V <| zY V zD V <| qC V V V V V <| qM V V V ?_
 refine zO1 (fun h14 => ?_) (fun h14 => ?_)
 ·
  refine qM V V V <| qO V <| zH V V V <| qF V V V fo80_1 <| qO V <| zL V V h ta3 V <| qC V V V V (show intCmp .eql e 0 = some false by simp [intCmp, he]) ?_
  refine qP V V V V <| qN <| zF0 V (V) <| zT0 <| zA <| qR V <| qM V V V ?_
  refine qX V V V V co46 (zF1 id (b, e) S [] h _) ?_
  refine qN <| zA <| qR V <| qA V V V <| qN <| zU ?_
  exact zR0 (.inr V) zH1 V (.refl _) (.int _ _) (by simp) (hcl.set (xo_cl _ (xFail 11 (b, e)))) ⟨rfl, by rw [xFail, if_neg he, set_selfX h]⟩
 ·
  refine qT V V V V <| qS V <| qP V V V V <| qN <| zF0 V (V) <| zT0 <| zA <| qR V <| qM V V V ?_
  refine qX V V V V co46 (zF1 id (b, e) S [] h _) ?_
  refine qN <| zA <| qR V <| qA V V V <| qN <| zU ?_
  exact zR0 (.inr V) zH1 V (.refl _) (.int _ _) (by simp) (hcl.set (xo_cl _ (xFail 11 (b, e)))) ⟨rfl, by rw [xFail, if_neg he, set_selfX h]⟩
theorem xnum_spec (id : Nat) (r : RdX) (S : MS) (h : S[id]? = some (xo r)) (hlen : r.1.length ≤ 8000000) : MCalls Tryd.prog 47 [.ref id 0] S fun v σ' => v = .int .u64 ((numX r).1 : Int) ∧ σ' = S.set id (xo (numX r).2) := by
 obtain ⟨b, e⟩ := r
 by_cases he : e = 0
 ·subst he
  exact xnum0_spec id b S h hlen
 ·refine (xnumE_spec id b e he S h).mono fun v σ' hv => ?_
  rw [numX_err he]
  exact ⟨hv.1, by rw [hv.2, set_selfX h]⟩
theorem xnum_reads (id : Nat) : RdsX 47 [.ref id 0] id (fun n : Nat => .int .u64 (n : Int)) numX := fun r S h hl => xnum_spec id r S h hl
theorem xcount_spec (id : Nat) (r : RdX) (S : MS) (h : S[id]? = some (xo r)) (hlen : r.1.length ≤ 8000000) (most : Nat) (hm : most ≤ 1000000) : MCalls Tryd.prog 45 [.ref id 0, .int .i64 (most : Int)] S fun v σ' => v = .int .i64 ((countX most r).1 : Int) ∧ σ' = S.set id (xo (countX most r).2) := by
 refine zM Tryd.func45 V Tryd.ntmps45 (zB V) ?_
 refine zG0 fun _ hcl => ?_
 rw [List.append_nil] at hcl
 refine zA <| qR V <| qA V V V <| qN <| zA <| qR V <| qM V V V ?_
 refine qX V V V V co47 ((xnum_reads id).sl h hlen) ?_
 refine qA V V V <| qN <| zA <| zA ?_
 have hg : (S.set id (xo (numX r).2))[id]? = some (xo (numX r).2) := get_setX h
 obtain ⟨hf1, hf2, hf3⟩ := numX_facts r
 refine qR V <| qM V V V <| qM V V V <| qO V <| zK0 V zS0 zD0 V (zI1 (by omega)) ?_
 refine qC V V V V V <| qN ?_
 refine zO V (fun h11 => ?_) (fun h11 => ?_)
 ·
  have hlt : most < (numX r).1 := by simp at h11; omega
  refine zA <| qR V <| qM V V V ?_
  refine qX V V V V co46 (zF1 id (numX r).2 _ [] hg _) ?_
  refine qN <| zA <| qR V <| qA V V V <| qN <| zU ?_
  exact zR0 (.inr V) Tryd.results45 V (.refl _) (.int _ _) (by simp) ((hcl.set (xo_cl _ _)).set (xo_cl _ _)) ⟨by rw [countX, if_pos hlt]; rfl, by rw [countX, if_pos hlt, set_setX]⟩
 ·
  have hlt : ¬ most < (numX r).1 := by simp at h11; omega
  refine zZ <| zA <| qR V <| qM V V V <| qO V <| zK0 V zD0 zS0 V (wrap_i64 (by omega)) ?_
  refine qA V V V <| qN <| zU ?_
  exact zR0 (.inr V) Tryd.results45 V (.refl _) (.int _ _) (by simp) (hcl.set (xo_cl _ _)) ⟨by rw [countX, if_neg hlt], by rw [countX, if_neg hlt]⟩
theorem xcount_reads (id most : Nat) (hm : most ≤ 1000000) : RdsX 45 [.ref id 0, .int .i64 (most : Int)] id (fun n : Nat => .int .i64 (n : Int)) (countX most) := fun r S h hl => xcount_spec id r S h hl most hm
theorem xtext_spec (id : Nat) (r : RdX) (S : MS) (h : S[id]? = some (xo r)) (hlen : r.1.length ≤ 8000000) (most : Nat) (hm : most ≤ 1000000) : MCalls Tryd.prog 40 [.ref id 0, .int .i64 (most : Int)] S fun v σ' => v = .str (bs (textX most r).1) ∧ σ' = S.set id (xo (textX most r).2) := by
 refine zM Tryd.func40 V Tryd.ntmps40 (zB V) ?_
 refine zG0 fun _ hcl => ?_
 rw [List.append_nil] at hcl
 refine zA <| qR V <| qA V V V <| qN <| zA <| qR V <| qM V V V <| qM V V V ?_
 refine qX V V V V co45 ((xcount_reads id most hm).sl h hlen) ?_
 refine qA V V V <| qN <| zA <| zA ?_
 have hg : (S.set id (xo (countX most r).2))[id]? = some (xo (countX most r).2) := get_setX h
 obtain ⟨hf1, hf2, hf3⟩ := countX_facts most r
 generalize hc : countX most r = q at hg hf1 hf2 hf3 ⊢
 obtain ⟨n, b, e⟩ := q
 dsimp only at hg hf1 hf2 hf3 ⊢
 by_cases he : e = 0
 by_cases hl : b.length < n

 ·
  subst he
  refine qR V <| qM V V V <| qO V <| zH V V V <| qF V V V fo80_1 <| qO V <| zL V V hg ta3 V <| qC V V V V (V) <| qM V V V <| qM V V V <| qO V <| zH V V V <| qF V V V zJ1 <| qO V <| zL V V hg ta9 V <| qO V <| zY V zD V <| qM V V V <| qC V V V V (show intCmp .lss ((b.length : Nat) : Int) (n : Int) = some true by simp [intCmp]; omega) ?_
  refine qP V V V V <| qN <| zQ0 V (V) <| qR V <| qM V V V ?_
  refine qX V V V V co46 (zF1 id (b, 0) _ [] hg _) ?_
  refine qN <| zA <| zA ?_
  have hg2 : ((S.set id (xo (b, 0))).set id (xo (b, 11)))[id]? = some (xo (b, 11)) := get_setX hg
  refine qR V <| qM V V V <| qO V <| zH V V V <| qF V V V fo80_1 <| qO V <| zL V V hg2 ta3 V <| qC V V V V (V) <| qN <| zQ0 V (V) <| zA <| qR V <| qA V V V <| qN <| zU ?_
  have hT : textX most r = ([], (b, 11)) := by unfold textX; rw [hc]; exact (if_neg (fun h => h rfl)).trans (if_pos hl)
  exact zR0 (.inr V) Tryd.results40 V (.refl _) (.str _) (by simp) ((hcl.set (xo_cl _ _)).set (xo_cl _ (b, 11))) ⟨by rw [hT]; try rfl, by rw [hT, set_setX]; try rfl⟩
 ·
  subst he
  refine qR V <| qM V V V <| qO V <| zH V V V <| qF V V V fo80_1 <| qO V <| zL V V hg ta3 V <| qC V V V V (V) <| qM V V V <| qM V V V <| qO V <| zH V V V <| qF V V V zJ1 <| qO V <| zL V V hg ta9 V <| qO V <| zY V zD V <| qM V V V <| qC V V V V (show intCmp .lss ((b.length : Nat) : Int) (n : Int) = some false by simp [intCmp]; omega) ?_
  refine qP V V V V <| qN <| zF0 V (V) <| zZ <| zA <| zA <| qR V <| qM V V V <| qO V <| zH V V V <| qF V V V fo80_1 <| qO V <| zL V V hg ta3 V <| qC V V V V (V) <| qN <| zF0 V (V) <| zZ <| zA <| qR V <| qM V V V <| qO V <| zH V V V <| qF V V V zJ1 <| qO V <| zL V V hg ta9 V ?_
  refine qM V V V <| qO V <| zC0 V zD V .none (.some V V) (by (try dsimp only); omega) (by (try dsimp only); omega) ?_
  rw [List.drop_zero, Nat.sub_zero]
  refine qA V V V <| qN <| zA <| qR V <| qM V V V <| qM V V V <| qO V <| zH V V V <| qF V V V zJ1 <| qO V <| zL V V hg ta9 V <| qM V V V <| qO V <| zC0 V zD V (.some V V) .none (by (try dsimp only); omega) (by (try dsimp only); omega) ?_
  rw [List.take_of_length_le (by simp : (b.drop n).length ≤ b.length - n)]
  refine qO V <| zH V V V <| qF V V V zJ1 <| qO V <| zE0 V V V hg sz9 V V (zB V) <| qN <| zA <| qR V <| qM V V V <| qA V V V <| qN <| zU ?_
  have hT : textX most r = (b.take n, (b.drop n, 0)) := by unfold textX; rw [hc]; exact (if_neg (fun h => h rfl)).trans (if_neg hl)
  exact zR0 (.inr V) Tryd.results40 V (.refl _) (.str _) (by simp) ((hcl.set (xo_cl _ _)).set (xo_cl _ (b.drop n, 0))) ⟨by rw [hT]; try rfl, by rw [hT, set_setX]; try rfl⟩
 ·
  refine qR V <| qM V V V <| qO V <| zH V V V <| qF V V V fo80_1 <| qO V <| zL V V hg ta3 V <| qC V V V V (show intCmp .eql e 0 = some false by simp [intCmp, he]) ?_
  refine qM V V V <| qT V V V V <| qS V <| qS V <| qS V <| qP V V V V <| qN <| zF0 V (V) <| zZ <| zA <| zA <| qR V <| qM V V V <| qO V <| zH V V V <| qF V V V fo80_1 <| qO V <| zL V V hg ta3 V <| qC V V V V (show intCmp .neq e 0 = some true by simp [intCmp, he]) ?_
  refine qN <| zQ0 V (V) <| zA <| qR V <| qA V V V <| qN <| zU ?_
  have hT : textX most r = ([], (b, e)) := by unfold textX; rw [hc]; exact if_pos he
  exact zR0 (.inr V) Tryd.results40 V (.refl _) (.str _) (by simp) (hcl.set (xo_cl _ _)) ⟨by rw [hT]; try rfl, by rw [hT]⟩
theorem xtext_reads (id most : Nat) (hm : most ≤ 1000000) : RdsX 40 [.ref id 0, .int .i64 (most : Int)] id (fun s : Bs => .str (bs s)) (textX most) := fun r S h hl => xtext_spec id r S h hl most hm
end Go.Proofs.YtplclefbiimnbaaDoor
end
section
namespace Go.MV
open Go Go.RowKit
def recY (p : Bs × Nat) : List MV := [.str (bs p.1), .int .i64 (p.2 : Int)]
theorem numGo_lt : ∀ (l : Bs) (a n i : Nat), n < a → a ≤ 12800000 → (numGo a n i l).1 < 2000000000 ∧ (numGo a n i l).2 ≤ i + l.length
 | [], a, n, i, _, _ => by simp [numGo]
 | c :: l, a, n, i, hn, ha => by
  have hm := Nat.mul_le_mul_right a (show c.toNat % 128 ≤ 127 by omega)
  rw [numGo]
  split
  ·split
   ·simp; omega
   ·have := numGo_lt l (a * 128) (n + c.toNat % 128 * a) (i + 1) (by omega) (by omega)
    simp only [zK]
    omega
  ·simp
theorem numF_lt (l : Bs) : (numF l).1 < 2000000000 ∧ (numF l).2 ≤ l.length := by
 have := numGo_lt l 1 0 0 (by omega) (by omega)
 unfold numF
 omega
theorem drop_nil_len {α : Type} {l : List α} {j : Nat} (h : [] = l.drop j) : l.length ≤ j := by
 have := congrArg List.length h
 simp at this
 omega
theorem drop_cons_get {α : Type} {l r : List α} {a : α} {j : Nat} (h : a :: r = l.drop j) : l[j]? = some a ∧ r = l.drop (j + 1) := by
 have h1 := congrArg (fun q => q[0]?) h
 have h2 := congrArg (List.drop 1) h
 simp only [List.getElem?_cons_zero, List.getElem?_drop, Nat.add_zero] at h1
 refine ⟨h1.symm, ?_⟩
 simpa [List.drop_drop] using h2
theorem recsS_nil {k off : Nat} : recsS k off [] = [] := by cases k <;> simp [recsS]
theorem recsS_stop {k off fr n : Nat} {b : Bs} (e : numF b = (n, fr)) (h : fr = 0 ∨ fr + n + 8 > b.length) : recsS k off b = [] := by
 cases k with
 | zero => rfl
 | succ k =>
  rw [recsS, e]
  dsimp only
  rw [if_pos h]
  split <;> rfl
theorem recsS_bad {k off fr n : Nat} {b : Bs} (e : numF b = (n, fr)) (h : ¬ laidB ((b.drop fr).take n) = b.take (fr + n + 8)) : recsS k off b = [] := by
 cases k with
 | zero => rfl
 | succ k =>
  rw [recsS, e]
  dsimp only
  rw [if_pos h]
  split
  ·rfl
  ·split <;> rfl
theorem recsS_good {k off fr n : Nat} {b : Bs} (hb : b ≠ []) (e : numF b = (n, fr)) (h1 : ¬ (fr = 0 ∨ fr + n + 8 > b.length)) (h : laidB ((b.drop fr).take n) = b.take (fr + n + 8)) : recsS (k + 1) off b = ((b.drop fr).take n, off + (fr + n + 8)) :: recsS k (off + (fr + n + 8)) (b.drop (fr + n + 8)) := by
 rw [recsS, e]
 dsimp only
 rw [if_neg hb, if_neg h1, if_neg (by simpa using h)]
end Go.MV
namespace Go.Proofs.YtplclefbiimnbaaDoor
open Go Go.MV
theorem records1_walk (b : Bs) (hlen : b.length ≤ 1000000) (bid id : Nat) (T : Nat → MS) (m l : Nat) (hok : ∀ j, (T j).length = l ∧ (T j)[bid]? = some (.cells [.str (bs b)])) (hm : m ≤ ((recsF b).map recY).length)
  (hyt : ∀ j y, j < m → ((recsF b).map recY)[j]? = some y → YStep Tryd.prog id y (T j) true (T (j + 1))) (hyf : ∀ j y, j = m → ((recsF b).map recY)[j]? = some y → YStep Tryd.prog id y (T j) false (T (j + 1))) :
  MCalls Tryd.prog 38 ([] ++ [.yld id] ++ [.ref bid 0]) (T 0) fun v σ' => v = .tup [] ∧ σ' = T (if m < ((recsF b).map recY).length then m + 1 else m) := by
 have hml : m ≤ (recsF b).length := by simpa using hm
 refine zM Tryd.func38 V Tryd.ntmps38 (zB V) ?_
 rw [List.append_nil]
 show mwp _ _ _ _ _ _ _ (([] : MS) ++ T 0)
 refine zA <| qR V <| qA V V V <| qN <| zW ?_
 refine zY0 (α := Nat × Nat × Nat) [(0, _), (1, _)] (fun x => [(3, .int .i64 (x.2.1 : Int))]) (fun x => T x.1) (fun x => x.1 ≤ m ∧ x.2.1 ≤ b.length ∧ b.length - x.2.1 ≤ x.2.2 ∧ recsS x.2.2 x.2.1 (b.drop x.2.1) = (recsF b).drop x.1) (fun x => b.length - x.2.1) (⟨0, 0, b.length⟩) (.keep V (.keep V (.nil))) (.keep V (.nil)) (⟨by simp, by simp, by simp, rfl⟩) (V) ?_
 rintro ⟨j, off, k⟩ ⟨hj, hoff, hk, he⟩
 dsimp only at hj hoff hk he ⊢
 refine zA <| zA <| qR V <| qM V V V <| qO V <| zJ0 V V (hok _).2 ta9 V <| qO V <| zY V zD V <| qC V V V V V <| qN ?_
 refine zO V (fun h11 => ?_) (fun h11 => ?_)
 ·
  have hlt : off < b.length := by simpa using h11
  refine zZ <| zW <| zA <| qR V <| qO V <| zJ0 V V (hok _).2 ta9 V <| qM V V V <| qO V <| zC0 V zD V (.some V V) .none (by omega) (by omega) ?_
  rw [List.take_of_length_le (by simp : (b.drop off).length ≤ b.length - off)]
  refine qX V V V V co39 (number_spec (b.drop off) (by simp; omega) _) ?_
  have hlt2 := numF_lt (b.drop off)
  generalize hnf : numF (b.drop off) = nf at hlt2 ⊢
  obtain ⟨n, fr⟩ := nf
  dsimp only at hlt2 ⊢
  rw [List.length_drop] at hlt2
  refine qM V V V <| qO V <| op_extract V V V <| qO V <| op_extract V V V <| qA V V V <| qA V V V <| qN <| zA <| qR V <| qM V V V <| qM V V V <| qO V <| zV V V V (wadd (a := off) (b := fr) V (by omega)) ?_
  refine qM V V V <| qO V <| zV V V V (wadd (a := off + fr) (b := n) V (by omega)) ?_
  refine qO V <| zV V V V (wadd (a := off + fr + n) (b := 8) V (by omega)) ?_
  refine qA V V V <| qN <| zA <| zA <| qR V <| qM V V V <| qC V V V V V <| qM V V V ?_
  refine zO1 (fun h27 => ?_) (fun h27 => ?_)
  ·
   have hN : recsS k off (b.drop off) = [] := recsS_stop hnf (.inl (by simp at h27; omega))
   refine qT V V V V <| qP V V V V <| qN <| zQ0 V (V) ?_
   refine zG0 fun _ hcl => ?_
   refine zU ?_
   have hdl := drop_nil_len (hN.symm.trans he)
   have hjm : j = m := by omega
   exact ret_noneT (S' := T j) (by simp) Tryd.results38 (by rw [(hok _).1, (hok _).1]; exact Nat.le_refl _) hcl ⟨rfl, by rw [hjm, if_neg (by rw [zT]; omega)]⟩
  ·
   have h0 : ¬ fr = 0 := by simp at h27; omega
   refine qM V V V <| qO V <| zJ0 V V (hok _).2 ta9 V <| qO V <| zY V zD V <| qC V V V V V <| qP V V V V <| qN ?_
   refine zO V (fun h32 => ?_) (fun h32 => ?_)
   ·
    have hN : recsS k off (b.drop off) = [] := recsS_stop hnf (.inr (by simp at h32; rw [List.length_drop]; omega))
    refine zG0 fun _ hcl => ?_
    refine zU ?_
    have hdl := drop_nil_len (hN.symm.trans he)
    have hjm : j = m := by omega
    exact ret_noneT (S' := T j) (by simp) Tryd.results38 (by rw [(hok _).1, (hok _).1]; exact Nat.le_refl _) hcl ⟨rfl, by rw [hjm, if_neg (by rw [zT]; omega)]⟩
   ·
    have hle : off + fr + n + 8 ≤ b.length := by simp at h32; omega
    obtain ⟨r, hr⟩ : ∃ r, r = ((b.drop off).drop fr).take n := ⟨_, rfl⟩
    have hrl : r.length ≤ 1000000 := by rw [hr, List.length_take]; simp; omega
    refine zZ <| zA <| qR V <| qO V <| zJ0 V V (hok _).2 ta9 V <| qM V V V <| qM V V V <| qO V <| zV V V V (wadd (a := off) (b := fr) V (by omega)) ?_
    refine qM V V V <| qM V V V <| qO V <| zV V V V (wadd (a := off) (b := fr) V (by omega)) ?_
    refine qM V V V <| qO V <| zV V V V (wadd (a := off + fr) (b := n) V (by omega)) ?_
    refine qO V <| zC0 V zD V (.some V V) (.some V V) (by omega) (by omega) ?_
    rw [show (b.drop (off + fr)).take (off + fr + n - (off + fr)) = r by rw [hr, List.drop_drop, Nat.add_sub_cancel_left]]
    refine qA V V V <| qN <| zA <| zA ?_
    rcases three (p := laidB r = (b.drop off).take (off + fr + n + 8 - off)) hj with hL | ⟨hL, hjm⟩ | ⟨hL, hjm⟩
    ·
     have hN : recsS k off (b.drop off) = [] := recsS_bad hnf (by rw [← hr, show fr + n + 8 = off + fr + n + 8 - off by omega]; exact hL)
     refine zP0 [] [_] mo (by decide) V V V V ?_
     refine dO V V V (zJ V V Vv) <| zS V V (.cons (zH0 V V V co23 (zP1 r hrl _)) .nil) <| dO V V V (zJ0 V V (hok _).2 ta9 V Vv) <| dO V V V (zJ V V Vv) <| dO V V V (zJ V V Vv) <| dO V V V (zC0 V zD V (.some V V) (.some V V) (by omega) (by omega) Vv) ?_
     refine dO V V V (zN1 V V V (strNe hL) Vv) <| dO V V V (zJ V V Vv) <| dS V V <| dS V V <| dS V V <| dS V V <| dS V V <| dO V V V (zZ0 V V V Vv) <| zO0 <| zQ0 V (V) ?_
     refine zG0 fun _ hcl => ?_
     refine zU ?_
     have hdl := drop_nil_len (hN.symm.trans he)
     have hjm : j = m := by omega
     exact ret_noneT (S' := T j) (by simp) Tryd.results38 (by rw [(hok _).1, (hok _).1]; exact Nat.le_refl _) hcl ⟨rfl, by rw [hjm, if_neg (by rw [zT]; omega)]⟩
    ·
     have hnext : recsS (k - 1) (off + fr + n + 8) (b.drop (off + fr + n + 8)) = (recsF b).drop (j + 1) ∧ (recsF b)[j]? = some (r, off + fr + n + 8) := by
      obtain ⟨k, rfl⟩ : ∃ q, k = q + 1 := ⟨k - 1, by omega⟩
      rw [recsS_good (fun h => by have := congrArg List.length h; simp at this; omega) hnf (by rw [List.length_drop]; omega) (by rw [← hr, show fr + n + 8 = off + fr + n + 8 - off by omega]; exact hL), ← hr, List.drop_drop, show off + (fr + n + 8) = off + fr + n + 8 by omega] at he
      have := drop_cons_get he
      exact ⟨this.2, this.1⟩
     obtain ⟨hnext, hy⟩ := hnext
     replace hy : ((recsF b).map recY)[j]? = some [.str (bs r), .int .i64 ((off + fr + n + 8 : Nat) : Int)] := by rw [List.getElem?_map, hy]; rfl
     have hjl := (zC.1 hy).1
     refine zP0 [11] [_, T (j + 1)] mo (by decide) V V V V ?_
     refine zS V V (.cons (zJ V V Vv) (.cons (zJ V V Vv) (.nil))) <| zS V V (.cons (zH0 V V V co23 (zP1 r hrl _)) (.cons (zH0 V V V co23 (zP1 r hrl _)) (.nil))) <| zS V V (.cons (zJ0 V V (hok _).2 ta9 V Vv) (.cons (zJ0 V V (hok _).2 ta9 V Vv) (.nil))) <| zS V V (.cons (zJ V V Vv) (.cons (zJ V V Vv) (.nil))) <| zS V V (.cons (zJ V V Vv) (.cons (zJ V V Vv) (.nil))) <| zS V V (.cons (zC0 V zD V (.some V V) (.some V V) (by omega) (by omega) Vv) (.cons (zC0 V zD V (.some V V) (.some V V) (by omega) (by omega) Vv) (.nil))) ?_
     refine zS V V (.cons (zN1 V V V (strNe' hL) Vv) (.cons (zN1 V V V (strNe' hL) Vv) (.nil))) <| dO V V V (zJ V V Vv) <| dO V V V (zJ V V Vv) <| dO V V V (zJ V V Vv) <| dO V V V (zJ V V Vv) <| zW0 V V V V ((hyt j _ hjm hy).at0 V V V) <| dO V V V (op_not V V Vv) <| zS V V (.cons (zZ0 V V V Vv) (.cons (zZ0 V V V Vv) (.nil))) <| zO0 <| zF0 V (V) <| zZ <| qR V <| qM V V V <| qA V V V <| qN ?_
     refine ⟨⟨j + 1, off + fr + n + 8, k - 1⟩, by dsimp only; omega, ⟨by dsimp only; omega, by dsimp only; omega, by dsimp only; omega, hnext⟩, rfl, (.keep V (.keep V (.nil))), (.eq V (V) (.nil))⟩
    ·
     have hnext : recsS (k - 1) (off + fr + n + 8) (b.drop (off + fr + n + 8)) = (recsF b).drop (j + 1) ∧ (recsF b)[j]? = some (r, off + fr + n + 8) := by
      obtain ⟨k, rfl⟩ : ∃ q, k = q + 1 := ⟨k - 1, by omega⟩
      rw [recsS_good (fun h => by have := congrArg List.length h; simp at this; omega) hnf (by rw [List.length_drop]; omega) (by rw [← hr, show fr + n + 8 = off + fr + n + 8 - off by omega]; exact hL), ← hr, List.drop_drop, show off + (fr + n + 8) = off + fr + n + 8 by omega] at he
      have := drop_cons_get he
      exact ⟨this.2, this.1⟩
     obtain ⟨hnext, hy⟩ := hnext
     replace hy : ((recsF b).map recY)[j]? = some [.str (bs r), .int .i64 ((off + fr + n + 8 : Nat) : Int)] := by rw [List.getElem?_map, hy]; rfl
     have hjl := (zC.1 hy).1
     refine zP0 [11] [_, T (j + 1)] mo (by decide) V V V V ?_
     refine zS V V (.cons (zJ V V Vv) (.cons (zJ V V Vv) (.nil))) <| zS V V (.cons (zH0 V V V co23 (zP1 r hrl _)) (.cons (zH0 V V V co23 (zP1 r hrl _)) (.nil))) <| zS V V (.cons (zJ0 V V (hok _).2 ta9 V Vv) (.cons (zJ0 V V (hok _).2 ta9 V Vv) (.nil))) <| zS V V (.cons (zJ V V Vv) (.cons (zJ V V Vv) (.nil))) <| zS V V (.cons (zJ V V Vv) (.cons (zJ V V Vv) (.nil))) <| zS V V (.cons (zC0 V zD V (.some V V) (.some V V) (by omega) (by omega) Vv) (.cons (zC0 V zD V (.some V V) (.some V V) (by omega) (by omega) Vv) (.nil))) ?_
     refine zS V V (.cons (zN1 V V V (strNe' hL) Vv) (.cons (zN1 V V V (strNe' hL) Vv) (.nil))) <| dO V V V (zJ V V Vv) <| dO V V V (zJ V V Vv) <| dO V V V (zJ V V Vv) <| dO V V V (zJ V V Vv) <| zW0 V V V V ((hyf j _ hjm hy).at0 V V V) <| dO V V V (op_not V V Vv) <| zS V V (.cons (zZ0 V V V Vv) (.cons (zZ0 V V V Vv) (.nil))) <| zO0 <| zQ0 V (V) ?_
     refine zG0 fun _ hcl => ?_
     refine zU ?_
     exact ret_noneT (S' := T (j + 1)) (by simp) Tryd.results38 (by rw [(hok _).1, (hok _).1]; exact Nat.le_refl _) hcl ⟨rfl, by rw [hjm, if_pos (by omega)]⟩
 ·
  refine zG0 fun _ hcl => ?_
  have hge : b.length = off := by simp at h11; omega
  have hN : recsS k off (b.drop off) = [] := by rw [← hge, List.drop_length, recsS_nil]
  refine zT0 ?_
  have hdl := drop_nil_len (hN.symm.trans he)
  have hjm : j = m := by omega
  exact ret_noneT (S' := T j) (by simp) Tryd.results38 (by rw [(hok _).1, (hok _).1]; exact Nat.le_refl _) hcl ⟨rfl, by rw [hjm, if_neg (by rw [zT]; omega)]⟩
theorem records_iter (b : Bs) (hlen : b.length ≤ 1000000) (bid l : Nat) : IterOk Tryd.prog 38 [] [.ref bid 0] ((recsF b).map recY) (fun σ => σ.length = l ∧ σ[bid]? = some (.cells [.str (bs b)])) := by
 intro id T m hok hyt
 refine ⟨fun hm => ?_, fun y hy hyf => ?_⟩
 ·refine (records1_walk b hlen bid id T m l hok (by omega) hyt (fun j y hj hy => ?_)).mono ?_
  ·have := (zC.1 hy).1; omega
  ·rintro v σ' ⟨_, h⟩
   rw [h, if_neg (by omega)]
 ·have hm := (zC.1 hy).1
  refine (records1_walk b hlen bid id T m l hok (by omega) hyt (fun j z hj hz => ?_)).mono ?_
  ·subst hj
   rw [hy] at hz
   injection hz with hz
   subst hz
   exact hyf
  ·rintro v σ' ⟨_, h⟩
   rw [h, if_pos hm]
def tapeO (b : Bs) (k : Nat) : MObj := .cells [.str (bs b), .int .i64 (k : Int)]
theorem tape_cl (n : Nat) (b : Bs) (k : Nat) : (tapeO b k).cl n := fun x hx => by
 rcases List.mem_cons.1 hx with rfl | hx
 ·exact .str _
 ·rcases List.mem_cons.1 hx with rfl | hx
  ·exact .int _ _
  ·cases hx
theorem _root_.zD1 : type_of% @tape_cl := @tape_cl
def endJ (l : List (Bs × Nat)) (j : Nat) : Nat := ((l.take j).map (·.2)).getLastD 0
theorem recsS_end : ∀ (k off : Nat) (b : Bs), ∀ p ∈ recsS k off b, p.2 ≤ off + b.length
 | 0, off, b => by simp [recsS]
 | k + 1, off, b => by
  intro p hp
  rw [recsS] at hp
  dsimp only at hp
  split at hp
  ·cases hp
  ·split at hp
   ·cases hp
   ·split at hp
    ·cases hp
    ·rename_i h1 h2 h3
     rcases List.mem_cons.1 hp with rfl | hp
     ·dsimp only; omega
     ·have := recsS_end k _ _ p hp
      rw [List.length_drop] at this
      omega
theorem endJ_le (c : Bs) : endJ (recsF c) (recsF c).length ≤ c.length := by
 unfold endJ
 rw [List.take_length]
 cases hl : ((recsF c).map (·.2)).getLast? with
 | none => rw [List.getLastD_eq_getLast?, hl]; simp
 | some x =>
  rw [List.getLastD_eq_getLast?, hl]
  obtain ⟨p, hp, rfl⟩ := List.mem_map.1 (List.mem_of_getLast? hl)
  have := recsS_end _ _ _ p hp
  simpa using this
theorem max0 (n : Int) : (if (0 : Int) > n then 0 else n) = ((n.toNat : Nat) : Int) := by split <;> omega
theorem min_nat (a b : Nat) : (if (b : Int) < (a : Int) then (b : Int) else (a : Int)) = ((min a b : Nat) : Int) := by split <;> omega
theorem get_box {A R : MS} {x x' y : MObj} : ((A ++ [x, y]) ++ R)[(A ++ [x']).length]? = some y := by rw [zG, zN, getElem?_own]; rfl
theorem get_box3 {A R : MS} {x x' y z : MObj} : ((A ++ [x, y, z]) ++ R)[(A ++ [x']).length]? = some y := by rw [zG, zN, getElem?_own]; rfl
theorem get_own_set {A R : MS} {i k : Nat} {y o : MObj} (h : R[k]? = some o) : (A.set i y ++ R)[A.length + k]? = some o := by
 have := getElem?_own (A.set i y) R k
 rw [List.length_set] at this
 rw [this]; exact h
theorem endJ_succ {l : List (Bs × Nat)} {j : Nat} {p : Bs × Nat} (h : l[j]? = some p) : endJ l (j + 1) = p.2 := by
 unfold endJ
 rw [List.take_add_one, h]
 simp
theorem records_spec (b : Bs) (S : MS) : MCalls Tryd.prog 25 [.str (bs b)] S fun v σ' => v = .fn (.func 38) [] [.ref S.length 0] ∧ σ' = S ++ [.cells [.str (bs b)]] := by
 refine zM Tryd.func25 V Tryd.ntmps25 (zB V) ?_
 refine zA <| qR V <| qB V V V V V <| qA V V V <| qN <| zA <| qR V <| qO V <| op_makeFunc V V V <| qA V V V <| qN ?_
 refine zG0 fun hcv hcl => ?_
 refine zU ?_
 exact ret_tmpT (.inr V) Tryd.results25 V (.refl _) (hcv 2 _ rfl) (by simp) hcl Vv
theorem new_spec (S : MS) : MCalls Tryd.prog 5 [] S fun v σ' => v = .ref S.length 0 ∧ σ' = S ++ [tapeO [] 0] := by
 refine zM Tryd.func5 V Tryd.ntmps5 (zB V) ?_
 refine zA <| qR V <| qA V V V <| qN <| zA <| qR V <| qO V <| op_build V Tryd.underlying48 zm48 .nil (by kernel_rfl) ?_
 refine qB V V V V V <| qA V V V <| qN ?_
 refine zG0 fun hcv hcl => ?_
 refine zU ?_
 exact ret_tmpT (.inr V) Tryd.results5 V (.refl _) (hcv 0 _ rfl) (by simp) hcl Vv
theorem sync_spec (id : Nat) (b : Bs) (k : Nat) (S : MS) (h : S[id]? = some (tapeO b k)) : MCalls Tryd.prog 9 [.ref id 0] S fun v σ' => v = .tup [] ∧ σ' = S.set id (tapeO b b.length) := by
 refine zM Tryd.func9 V Tryd.ntmps9 (zB V) ?_
 refine zG0 fun _ hcl => ?_
 rw [List.append_nil] at hcl
 refine qR V <| qM V V V <| qM V V V <| qO V <| zH V V V <| qF V V V fo48_0 <| qO V <| zL V V h ta9 V <| qO V <| zY V zD V <| qO V <| zH V V V <| qF V V V fo48_1 <| qO V <| zE0 V V V h sz3 V V (zB V) <| qN ?_
 exact ret_noneS (by simp) Tryd.results9 (by simp) (hcl.set (zD1 _ _ _)) Vv
theorem loose_spec (id : Nat) (b : Bs) (k : Nat) (S : MS) (h : S[id]? = some (tapeO b k)) (hk : k ≤ b.length) (hb : b.length ≤ 1000000) : MCalls Tryd.prog 18 [.ref id 0] S fun v σ' => v = .int .i64 ((b.length - k : Nat) : Int) ∧ σ' = S := by
 refine zM Tryd.func18 V Tryd.ntmps18 (zB V) ?_
 refine zA <| qR V <| qA V V V <| qN <| zA ?_
 refine zP0 [] [_] mo (by decide) V V V V ?_
 refine dO V V V (zJ V V Vv) <| dO V V V (zH V V V Vv) <| dO V V V (zE V V fo48_0 Vv) <| dO V V V (zL V V h ta9 V Vv) <| dO V V V (zY V zD V Vv) <| dO V V V (zJ V V Vv) <| dO V V V (zH V V V Vv) <| dO V V V (zE V V fo48_1 Vv) <| dO V V V (zL V V h ta3 V Vv) <| dO V V V (zV V V V (wsub (a := b.length) (b := k) (c := b.length - k) (by omega) (by omega)) Vv) ?_
 refine dO V V V (zX0 V V Vv) <| zO0 <| zU ?_
 exact zL0 (.inr V) Tryd.results18 V (.refl _) (.int _ _) Vv
theorem len_spec (id : Nat) (b : Bs) (k : Nat) (S : MS) (h : S[id]? = some (tapeO b k)) : MCalls Tryd.prog 20 [.ref id 0] S fun v σ' => v = .int .i64 (b.length : Int) ∧ σ' = S := by
 refine zM Tryd.func20 V Tryd.ntmps20 (zB V) ?_
 refine zA <| qR V <| qA V V V <| qN <| zA <| qR V <| qM V V V <| qO V <| zH V V V <| qF V V V fo48_0 <| qO V <| zL V V h ta9 V <| qO V <| zY V zD V <| qA V V V <| qN <| zU ?_
 exact zL0 (.inr V) Tryd.results20 V (.refl _) (.int _ _) Vv
theorem add_spec (id : Nat) (b : Bs) (k : Nat) (S : MS) (h : S[id]? = some (tapeO b k)) (hb : b.length ≤ 1000000) (r : Bs) (hr : r.length ≤ 1000000) (hfit : b.length + (laidB r).length ≤ 100000) : MCalls Tryd.prog 7 [.ref id 0, .str (bs r)] S fun v σ' => v = .iface0 ∧ σ' = S.set id (tapeO (b ++ laidB r) k) := by
 refine zM Tryd.func7 V Tryd.ntmps7 (zB V) ?_
 have hll := zM0 r
 have hnl := zC1 (show r.length < 2097152 by omega)
 refine zG0 fun _ hcl => ?_
 rw [List.append_nil] at hcl
 refine zA <| qR V <| qA V V V <| qN <| zA ?_
 refine zP0 [] [_] mo (by decide) V V V V ?_
 refine dO V V V (zJ V V Vv) <| dO V V V (zH V V V Vv) <| dO V V V (zE V V fo48_0 Vv) <| dO V V V (zL V V h ta9 V Vv) <| dO V V V (zJ V V Vv) <| zS V V (.cons (zH0 V V V co23 (zP1 r hr _)) .nil) <| dO V V V (zB1 V V V (by omega) Vv) ?_
 refine dO V V V (zX0 V V Vv) <| zO0 <| zA <| zA <| qR V <| qM V V V <| qO V <| zY V zD V <| qC V V V V V <| qN <| zF0 V (by simp; omega) ?_
 refine zZ <| zA <| qR V <| qM V V V <| qM V V V <| qO V <| zH V V V <| qF V V V fo48_0 <| qO V <| zE0 V V V h sz9 V V (zB V) <| qN <| zA <| qR V <| qA V V V <| qN <| zU ?_
 exact zR0 (.inr V) Tryd.results7 V (.refl _) .iface0 (by simp) (hcl.set (zD1 _ _ _)) Vv
theorem addFull_spec (id : Nat) (b : Bs) (k : Nat) (S : MS) (h : S[id]? = some (tapeO b k)) (hb : b.length ≤ 1000000) (r : Bs) (hr : r.length ≤ 1000000) (hfit : ¬ b.length + (laidB r).length ≤ 100000) : MCalls Tryd.prog 7 [.ref id 0, .str (bs r)] S fun v σ' => v = .iface 46 (.int .i64 15) ∧ σ' = S := by
 refine zM Tryd.func7 V Tryd.ntmps7 (zB V) ?_
 have hll := zM0 r
 have hnl := zC1 (show r.length < 2097152 by omega)
 refine zA <| qR V <| qA V V V <| qN <| zA ?_
 refine zP0 [] [_] mo (by decide) V V V V ?_
 refine dO V V V (zJ V V Vv) <| dO V V V (zH V V V Vv) <| dO V V V (zE V V fo48_0 Vv) <| dO V V V (zL V V h ta9 V Vv) <| dO V V V (zJ V V Vv) <| zS V V (.cons (zH0 V V V co23 (zP1 r hr _)) .nil) <| dO V V V (zB1 V V V (by omega) Vv) ?_
 refine dO V V V (zX0 V V Vv) <| zO0 <| zA <| zA <| qR V <| qM V V V <| qO V <| zY V zD V <| qC V V V V V <| qN <| zQ0 V (by simp; omega) ?_
 refine zA <| qR V <| qO V <| op_makeInterface V V Tryd.underlying46 (by simp) ?_
 refine qA V V V <| qN <| zU ?_
 exact zL0 (.inr V) Tryd.results7 V (.refl _) (.iface _ _ (.int _ _)) Vv
theorem crash_spec (id : Nat) (b : Bs) (k : Nat) (S : MS) (h : S[id]? = some (tapeO b k)) (hk : k ≤ b.length) (hb : b.length ≤ 1000000) (n : Int) (hn : (IntKind.i64.wrap n) = n) (c : Bs) (hc : c = b.take (k + min n.toNat (b.length - k))) : MCalls Tryd.prog 11 [.ref id 0, .int .i64 n] S fun v σ' => v = .tup [] ∧ σ' = S.set id (tapeO (c.take (endJ (recsF c) (recsF c).length)) (endJ (recsF c) (recsF c).length)) := by
 refine zM Tryd.func11 V Tryd.ntmps11 (zB V) ?_
 refine zG0 fun _ hcl => ?_
 rw [List.append_nil] at hcl
 have hcl_ : c.length ≤ 1000000 := by rw [hc, List.length_take]; omega
 have hg2 : (S.set id (tapeO c k))[id]? = some (tapeO c k) := get_set h
 refine zA ?_
 refine zP0 [18] [_, S.set id (tapeO c k) ++ []] mo (by decide) V V V V ?_
 refine dO V V V (zJ V V Vv) <| dO V V V (zJ V V Vv) <| dO V V V (zH V V V Vv) <| dO V V V (zE V V fo48_0 Vv) <| dO V V V (zL V V h ta9 V Vv) <| dO V V V (zJ V V Vv) <| dO V V V (zH V V V Vv) <| dO V V V (zE V V fo48_1 Vv) <| dO V V V (zL V V h ta3 V Vv) <| dO V V V (zJ V V Vv) <| dO V V V (op_max2' V V V (max0 n) Vv) <| dO V V V (zJ V V Vv) <| zS V V (.cons (zH0 V V V co18 (loose_spec id b k _ (by first | exact h | exact get_app h) hk hb)) .nil) ?_
 refine dO V V V (op_min2' V V V (min_nat n.toNat (b.length - k)) Vv) <| dO V V V (zV V V V (wadd (a := k) (b := min n.toNat (b.length - k)) V (by omega)) Vv) ?_
 refine dO V V V (zC0 V zD V .none (.some V V) (by omega) (by omega) Vv) ?_
 rw [show (b.drop 0).take (k + min n.toNat (b.length - k) - 0) = c from hc.symm]
 refine zS V V (.cons (zH V V V Vv) (.cons (zH V V V Vv) (.nil))) <| dO V V V (zE V V fo48_0 Vv) <| zW0 V V V V (zE0 V V V h sz9 V V (zB V) Vv) <| zO0 <| zA <| qR V <| qO V <| op_alloc' V zm3 V V <| qO V <| op_store' V V V V sz3 V V (zB V) V <| qN <| zA <| zA <| qR V <| qM V V V <| qO V <| zH V V V <| qF V V V fo48_0 <| qO V <| zL V V (get_set h) ta9 V ?_
 refine qX V V V V co25 (records_spec c _) ?_
 rw [zN]
 refine qN <| zW ?_
 refine mwp_rangeI (ok := fun σ => σ.length = S.length + 3 ∧ σ[((S.set id (tapeO c k)) ++ [MObj.cells [.int .i64 0]]).length]? = some (.cells [.str (bs c)])) (ys := (recsF c).map recY) (fun j => ([.cells [.int .i64 (endJ (recsF c) j : Int)], .cells [.str (bs c)]] : MS)) (fun j => V) V V co38 V (by simp) (records_iter c hcl_ _ _) (fun j => ⟨by simp, get_box⟩) V (fun y hy => by obtain ⟨p, _, rfl⟩ := List.mem_map.1 hy; rfl) ?_ ?_
 ·
  intro j y hy L'
  obtain ⟨p, hp, rfl⟩ : ∃ p, (recsF c)[j]? = some p ∧ recY p = y := by simpa using hy
  refine qR V <| qA V V V <| qN ?_
  refine ⟨rfl, rfl, ?_⟩
  refine zW <| qR V <| qM V V V <| qO V <| op_store_mid V V V V sz3 V V (zB V) V <| qN ?_
  exact ⟨rfl, [], by rw [endJ_succ hp, List.append_nil]; rfl, .inl rfl⟩
 ·
  rw [zN]
  rw [zT]
  obtain ⟨e, he⟩ : ∃ e, e = endJ (recsF c) (recsF c).length := ⟨_, rfl⟩
  rw [← he]
  have hec : e ≤ c.length := by rw [he]; exact endJ_le c
  have hg3 : ((S.set id (tapeO c k)).set id (tapeO (c.take e) k))[id]? = some (tapeO (c.take e) k) := get_set hg2
  refine zP0 [11, 14] [_, ((S.set id (tapeO c k)).set id (tapeO (c.take e) k)) ++ ([.cells [.int .i64 (e : Int)], .cells [.str (bs c)]] ++ [MObj.gone]), (((S.set id (tapeO c k)).set id (tapeO (c.take e) k)).set id (tapeO (c.take e) e)) ++ ([.cells [.int .i64 (e : Int)], .cells [.str (bs c)]] ++ [MObj.gone])] mo (by decide) V V V V ?_
  refine dO V V V (zJ V V Vv) <| zS V V (.cons (zJ V V Vv) (.cons (zJ V V Vv) (.nil))) <| dO V V V (zJ V V Vv) <| dO V V V (zH V V V Vv) <| dO V V V (zE V V fo48_0 Vv) <| dO V V V (zL V V hg2 ta9 V Vv) <| dO V V V (zB0 V V V ta3 V Vv) <| dO V V V (zC0 V zD V .none (.some V V) (by omega) (by omega) Vv) ?_
  refine zS V V (.cons (zB0 V V V ta3 V Vv) (.cons (zJ0 V V (get_own_set V) ta3 V Vv) (.nil))) <| zS V V (.cons (zH V V V Vv) (.cons (zH V V V Vv) (.nil))) <| dO V V V (zE V V fo48_0 Vv) <| zW0 V V V V (zE0 V V V hg2 sz9 V V (zB V) Vv) <| zS V V (.cons (zH V V V Vv) (.cons (zH V V V Vv) (.nil))) <| dO V V V (zE V V fo48_1 Vv) <| zW0 V V V V (zE0 V V V hg3 sz3 V V (zB V) Vv) <| zO0 ?_
  exact ret_noneS (by simp) Tryd.results11 (by simp) (((hcl.set (zD1 _ _ _)).set (zD1 _ _ _)).set (zD1 _ _ _)) ⟨rfl, by rw [set_set, set_set, he]⟩
def encS (s : Bs) : MV := .str (bs s)
theorem cl_encS (n : Nat) (s : Bs) : Cl n (encS s) := .str _
theorem encS_one (s : Bs) : encS s = .agg (encS s).cells ∨ [encS s] = (encS s).cells := .inr rfl
def recJ (l : List (Bs × Nat)) (j : Nat) : List Bs := (l.take j).map (·.1)
theorem recJ_succ {l : List (Bs × Nat)} {j : Nat} {p : Bs × Nat} (h : l[j]? = some p) : recJ l (j + 1) = recJ l j ++ [p.1] := by
 unfold recJ
 rw [List.take_add_one, h]
 simp
theorem recJ_len {l : List (Bs × Nat)} {j : Nat} {x : Bs} : (recJ l j ++ [x]).length = (recJ l j).length + 1 := by simp
theorem recsS_len : ∀ (k off : Nat) (b : Bs), (recsS k off b).length ≤ k
 | 0, off, b => by simp [recsS]
 | k + 1, off, b => by
  rw [recsS]
  dsimp only
  split
  ·simp
  ·split
   ·simp
   ·split
    ·simp
    ·have := recsS_len k (off + ((numF b).2 + (numF b).1 + 8)) (b.drop ((numF b).2 + (numF b).1 + 8))
     simp only [zK]
     omega
theorem _root_.zQ : type_of% @Tryd.underlying38 := @Tryd.underlying38
theorem recordsL_spec (id : Nat) (b : Bs) (k : Nat) (S : MS) (h : S[id]? = some (tapeO b k)) (hb : b.length ≤ 1000000) : MCalls Tryd.prog 16 [.ref id 0] S fun v σ' => v = .lst none 1 (((recsF b).map (·.1)).map encS) ∧ σ' = S := by
 refine zM Tryd.func16 V Tryd.ntmps16 (zB V) ?_
 refine zA <| qR V <| qA V V V <| qN <| zA <| qR V <| qO V <| op_alloc' V zm38 V V <| qN <| zA <| zA <| qR V <| qM V V V <| qO V <| zH V V V <| qF V V V fo48_0 <| qO V <| zL V V h ta9 V ?_
 refine qX V V V V co25 (records_spec b _) ?_
 rw [zN]
 refine qN <| zW <| mwp_cellrow 0 9 1 V (Nat.le_refl _) V V ?_
 refine mwp_rangeI (ok := fun σ => σ.length = S.length + 4 ∧ σ[(S ++ [MObj.cells [.lst0]]).length]? = some (.cells [.str (bs b)])) (ys := (recsF b).map recY) (fun j => ([.cells [.lst (some (S.length + 2)) 1 ((recJ (recsF b) j).map encS)], .cells [.str (bs b)], .row 9 1 (recJ (recsF b) j).length] : MS)) (fun j => V) V V co38 V (by simp) (records_iter b hb _ _) (fun j => ⟨by simp, get_box3⟩) V (fun y hy => by obtain ⟨p, _, rfl⟩ := List.mem_map.1 hy; rfl) ?_ ?_
 ·
  intro j y hy L'
  obtain ⟨p, hp, rfl⟩ : ∃ p, (recsF b)[j]? = some p ∧ recY p = y := by simpa using hy
  have hjl : (recJ (recsF b) j).length ≤ 1000000 := by have h1 := recsS_len b.length 0 b; unfold recJ; rw [zT, List.length_take]; unfold recsF; omega
  refine qR V <| qA V V V <| qN ?_
  refine ⟨rfl, rfl, ?_⟩
  refine zW <| qR V <| qO V <| op_load_mid V V V ta38 V <| qM V V V <| qO V <| zI0 V zQ el9 V V (by decide) (by decide) V V ?_
  refine qO V <| op_append_mid V zQ el9 V V V (by simp) (by simp only [zT, zK, List.length_nil]; omega) (by simp only [zT, zK, List.length_nil]; omega) V ?_
  refine qO V <| op_store_mid V V V V sz38 V V (zB V) V <| qN ?_
  exact ⟨rfl, [], by rw [recJ_succ hp, List.append_nil, List.map_append, recJ_len]; rfl, .inl rfl⟩
 ·
  rw [zN]
  rw [zT]
  refine zA <| qR V <| qL V V V V ta38 V <| qA V V V <| qN <| zU ?_
  exact zL0 (.inr V) Tryd.results16 V (Sub.trans (.view _ _ _) (.of_eq (by unfold recJ; rw [List.take_length]))) (cl_lst (cl_encS _) encS_one) Vv
end Go.Proofs.YtplclefbiimnbaaDoor
end
namespace Go.Proofs.YtplclefbiimnbaaDoor
open Go Go.MV Go.RowKit
section
theorem laids_append (a b : List Bs) : laids (a ++ b) = laids a ++ laids b := by simp [laids]
theorem _root_.zM1 : type_of% @laids_append := @laids_append
theorem laids_one (r : Bs) : laids [r] = laidB r := by simp [laids]
theorem laids_take_succ {l : List Bs} {i : Nat} {r : Bs} (h : l[i]? = some r) : laids (l.take (i + 1)) = laids (l.take i) ++ laidB r := by
 rw [List.take_add_one, h, zM1]
 simp [laids]
theorem laids_le {l : List Bs} (h : ∀ r ∈ l, r.length ≤ 500) : (laids l).length ≤ l.length * 511 := by
 induction l with
 | nil => simp [laids]
 | cons r l ih =>
  have e : (laids (r :: l)).length = (laidB r).length + (laids l).length := by simp [laids]
  have h1 := zM0 r
  have h2 := h r (zP ..)
  have h3 := zC1 (show r.length < 2097152 by omega)
  have h4 := ih fun s hs => h s (zR _ hs)
  rw [e, zK]
  omega
theorem recs_laids {rs : List Bs} (h : ∀ r ∈ rs, r.length < 2097152) : (recsF (laids rs)).map (·.1) = rs := by
 have := recsF_all (p := []) h (fun j o => recsS_nil)
 rw [List.append_nil] at this
 rw [this, ends_fst]
theorem crash_laids {rs : List Bs} (h : ∀ r ∈ rs, r.length < 2097152) (x : Nat) : ∃ j, j ≤ rs.length ∧ ((laids rs).take x).take (endJ (recsF ((laids rs).take x)) (recsF ((laids rs).take x)).length) = laids (rs.take j) ∧ endJ (recsF ((laids rs).take x)) (recsF ((laids rs).take x)).length = (laids (rs.take j)).length ∧
  (x < (laids rs).length → (laids (rs.take j)).length ≤ x) ∧ ∀ i, i ≤ rs.length → (laids (rs.take i)).length ≤ x → i ≤ j := by
 obtain ⟨k, p, h1, h2, h3, h4, h5⟩ := cut_laids rs x h
 have e : recsF ((laids rs).take x) = endsF 0 (rs.take k) := by
  rw [h2]
  exact recsF_all (fun r hr => h r (List.mem_of_mem_take hr)) h3
 have e2 : endJ (recsF ((laids rs).take x)) (recsF ((laids rs).take x)).length = (laids (rs.take k)).length := by
  unfold endJ
  rw [List.take_length, e, ends_last]
  split
  ·rename_i hn; rw [hn]; rfl
  ·omega
 refine ⟨k, h1, ?_, e2, h4, h5⟩
 rw [e2, h2]
 exact List.take_left' rfl
section
variable {P : Program} {rd : Option Nat} {ops : Array Oper} {Q : Env → MS → Prop} {rest : List Oper} {env : Env} {σ : MS}
theorem wOps_st (σ' : MS) (e : σ = σ') (h : wOps P rd ops Q rest env σ') : wOps P rd ops Q rest env σ := e ▸ h
end
theorem cmpE {a b : Int} (h : a = b) : intCmp .eql a b = some true := by simp [intCmp, h]
end
end Go.Proofs.YtplclefbiimnbaaDoor
section
namespace Go.MV
open Go Go.RowKit
theorem rRead_len : ∀ (k at_ : Nat) (b : Bs), (rRead k at_ b).1.length ≤ k ∧ at_ ≤ (rRead k at_ b).2 ∧ (rRead k at_ b).2 ≤ at_ + b.length
 | 0, at_, b => by simp [rRead]
 | k + 1, at_, b => by
  rw [rRead]
  dsimp only
  split
  ·simp
  ·rename_i h
   have h1 := (rText_rest 100000 b).1
   have h8 : 8 ≤ (rText 100000 b).2.1.length := by omega
   have := rRead_len k (at_ + (b.length - (rText 100000 b).2.1.length + 8)) (b.drop (b.length - (rText 100000 b).2.1.length + 8))
   rw [List.length_drop] at this
   simp only [zK]
   omega
theorem rRead_bad {k at_ : Nat} {b : Bs} (h : (rText 100000 b).2.2 ≠ 0 ∨ (rText 100000 b).2.1.length < 8 ∨ ¬ rGood b (rText 100000 b).2.1) : rRead (k + 1) at_ b = ([], at_) := by
 rw [rRead]
 exact if_pos h
theorem rRead_good {k at_ : Nat} {b t r : Bs} (hT : rText 100000 b = (t, r, 0)) (h8 : ¬ r.length < 8) (hg : rGood b r) : rRead (k + 1) at_ b = (t :: (rRead k (at_ + (b.length - r.length + 8)) (b.drop (b.length - r.length + 8))).1, (rRead k (at_ + (b.length - r.length + 8)) (b.drop (b.length - r.length + 8))).2) := by
 rw [rRead, hT]
 dsimp only
 rw [if_neg (fun h => h.elim (fun q => q rfl) fun h => h.elim h8 fun q => q hg)]
theorem min_i (n : Int) (m : Nat) : (if (m : Int) < n then (m : Int) else n) = if (m : Int) < n then (m : Int) else n := rfl
theorem max_i (n : Int) (m : Nat) : (if (0 : Int) < (if (m : Int) < n then (m : Int) else n) then (if (m : Int) < n then (m : Int) else n) else 0) = ((min n.toNat m : Nat) : Int) := by split <;> split at * <;> omega
def rAll (b : Bs) : List Bs × Nat := rRead (b.length + 1) 0 b
theorem strNeq {a b : Bs} (h : a ≠ b) : strCmp .neq a b = some true := by
 simp only [strCmp]
 congr 1
 simp [h]
theorem strNe0 {a b : Bs} (h : a = b) : strCmp .neq a b = some false := by
 subst h
 simp [strCmp]
end Go.MV
namespace Go.Proofs.YtplclefbiimnbaaDoor
open Go Go.MV
theorem rRecord_spec (r : Bs) (hr : r.length ≤ 1000000) (S : MS) : MCalls Tryd.prog 24 [.str (bs r)] S fun v σ' => v = .str (bs (laidB r)) ∧ σ' = S := by
 refine zM Tryd.func24 V Tryd.ntmps24 (zB V) ?_
 have htt : (textB r).length = (numB r.length).length + r.length := by simp [textB]
 have hnl := zC1 (show r.length < 2097152 by omega)
 refine zA <| qR V <| qA V V V <| qN <| zA <| qR V <| qM V V V ?_
 refine qX V V V V co35 (rText_spec r hr _) ?_
 refine qA V V V <| qN <| zA <| qR V <| qM V V V <| qM V V V ?_
 refine qX V V V V co37 (rHash_spec (textB r) (by omega) _) ?_
 refine qX V V V V co36 (rEight_spec _ _) ?_
 refine qO V <| zB1 V V V (by rw [leB_len]; omega) ?_
 refine qA V V V <| qN <| zU ?_
 exact zL0 (.inr V) Tryd.results24 V (.of_eq (V)) (.str _) Vv
theorem rSync_spec (id : Nat) (b : Bs) (k : Nat) (S : MS) (h : S[id]? = some (tapeO b k)) : MCalls Tryd.prog 10 [.ref id 0] S fun v σ' => v = .tup [] ∧ σ' = S.set id (tapeO b b.length) := by
 refine zM Tryd.func10 V Tryd.ntmps10 (zB V) ?_
 refine zG0 fun _ hcl => ?_
 rw [List.append_nil] at hcl
 refine qR V <| qM V V V <| qM V V V <| qO V <| zH V V V <| qF V V V zL1 <| qO V <| zL V V h ta9 V <| qO V <| zY V zD V <| qO V <| zH V V V <| qF V V V fo28_1 <| qO V <| zE0 V V V h sz3 V V (zB V) <| qN ?_
 exact ret_noneS (by simp) Tryd.results10 (by simp) (hcl.set (zD1 _ _ _)) Vv
theorem rLoose_spec (id : Nat) (b : Bs) (k : Nat) (S : MS) (h : S[id]? = some (tapeO b k)) (hk : k ≤ b.length) (hb : b.length ≤ 1000000) : MCalls Tryd.prog 19 [.ref id 0] S fun v σ' => v = .int .i64 ((b.length - k : Nat) : Int) ∧ σ' = S := by
 refine zM Tryd.func19 V Tryd.ntmps19 (zB V) ?_
 refine zA <| qR V <| qA V V V <| qN <| zA ?_
 refine zP0 [] [_] mo (by decide) V V V V ?_
 refine dO V V V (zJ V V Vv) <| dO V V V (zH V V V Vv) <| dO V V V (zE V V zL1 Vv) <| dO V V V (zL V V h ta9 V Vv) <| dO V V V (zY V zD V Vv) <| dO V V V (zJ V V Vv) <| dO V V V (zH V V V Vv) <| dO V V V (zE V V fo28_1 Vv) <| dO V V V (zL V V h ta3 V Vv) <| dO V V V (zV V V V (wsub (a := b.length) (b := k) (c := b.length - k) (by omega) (by omega)) Vv) ?_
 refine dO V V V (zX0 V V Vv) <| zO0 <| zU ?_
 exact zL0 (.inr V) Tryd.results19 V (.refl _) (.int _ _) Vv
theorem rAdd_spec (id : Nat) (b : Bs) (k : Nat) (S : MS) (h : S[id]? = some (tapeO b k)) (hb : b.length ≤ 1000000) (r : Bs) (hr : r.length ≤ 1000000) (hfit : b.length + (laidB r).length ≤ 100000) : MCalls Tryd.prog 8 [.ref id 0, .str (bs r)] S fun v σ' => v = .int .i64 0 ∧ σ' = S.set id (tapeO (b ++ laidB r) k) := by
 refine zM Tryd.func8 V Tryd.ntmps8 (zB V) ?_
 have hll := zM0 r
 have hnl := zC1 (show r.length < 2097152 by omega)
 refine zG0 fun _ hcl => ?_
 rw [List.append_nil] at hcl
 refine zA <| qR V <| qA V V V <| qN <| zA <| qR V <| qM V V V ?_
 refine qX V V V V co24 (rRecord_spec r hr _) ?_
 refine qA V V V <| qN <| zA <| zA <| qR V <| qM V V V <| qO V <| zH V V V <| qF V V V zL1 <| qO V <| zL V V h ta9 V <| qO V <| zY V zD V <| qM V V V <| qO V <| zY V zD V <| qO V <| zV V V V (wadd (a := b.length) (b := (laidB r).length) V (by omega)) ?_
 refine qC V V V V V <| qN <| zF0 V (by simp; omega) ?_
 refine zZ <| zA <| qR V <| qM V V V <| qM V V V <| qO V <| zH V V V <| qF V V V zL1 <| qO V <| zL V V h ta9 V <| qM V V V <| qO V <| zB1 V V V (by omega) ?_
 refine qO V <| zH V V V <| qF V V V zL1 <| qO V <| zE0 V V V h sz9 V V (zB V) <| qN <| zA <| qR V <| qA V V V <| qN <| zU ?_
 exact zR0 (.inr V) Tryd.results8 V (.refl _) (.int _ _) (by simp) (hcl.set (zD1 _ _ _)) Vv
theorem rAddFull_spec (id : Nat) (b : Bs) (k : Nat) (S : MS) (h : S[id]? = some (tapeO b k)) (hb : b.length ≤ 1000000) (r : Bs) (hr : r.length ≤ 1000000) (hfit : ¬ b.length + (laidB r).length ≤ 100000) : MCalls Tryd.prog 8 [.ref id 0, .str (bs r)] S fun v σ' => v = .int .i64 15 ∧ σ' = S := by
 refine zM Tryd.func8 V Tryd.ntmps8 (zB V) ?_
 have hll := zM0 r
 have hnl := zC1 (show r.length < 2097152 by omega)
 refine zA <| qR V <| qA V V V <| qN <| zA <| qR V <| qM V V V ?_
 refine qX V V V V co24 (rRecord_spec r hr _) ?_
 refine qA V V V <| qN <| zA <| zA <| qR V <| qM V V V <| qO V <| zH V V V <| qF V V V zL1 <| qO V <| zL V V h ta9 V <| qO V <| zY V zD V <| qM V V V <| qO V <| zY V zD V <| qO V <| zV V V V (wadd (a := b.length) (b := (laidB r).length) V (by omega)) ?_
 refine qC V V V V V <| qN <| zQ0 V (by simp; omega) ?_
 refine zA <| qR V <| qA V V V <| qN <| zU ?_
 exact zL0 (.inr V) Tryd.results8 V (.refl _) (.int _ _) Vv
theorem rRead_spec (id : Nat) (b : Bs) (k : Nat) (S : MS) (h : S[id]? = some (tapeO b k)) (hb : b.length ≤ 1000000) : MCalls Tryd.prog 26 [.ref id 0] S fun v σ' => v = .tup [.lst none 1 ((rAll b).1.map encS), .int .i64 ((rAll b).2 : Int)] ∧ σ' = S := by
 refine zM Tryd.func26 V Tryd.ntmps26 (zB V) ?_
 refine zA <| qR V <| qA V V V <| qA V V V <| qN <| zA <| qR V <| qA V V V <| qN <| zA <| qR V <| qA V V V <| qN <| zW <| mwp_row0 4 9 1 V (Nat.le_refl _) V V ?_
 refine mwp_loopKJ (α := Nat × Nat × List Bs) [(0, _)] (fun x => [(4, .lst (some (S.length + 0)) 1 (x.2.2.map encS)), (5, .int .i64 (x.2.1 : Int))]) (fun x => [.row 9 1 x.2.2.length]) (fun x => x.2.1 ≤ b.length ∧ b.length - x.2.1 < x.1 ∧ x.2.2.length ≤ x.2.1 ∧ (x.2.2 ++ (rRead x.1 x.2.1 (b.drop x.2.1)).1, (rRead x.1 x.2.1 (b.drop x.2.1)).2) = rAll b) (fun x => x.1) (⟨b.length + 1, 0, []⟩) (Nat.le_refl _) (.keep V (.nil)) (.keep V (.keep V (.nil))) (⟨Nat.zero_le _, Nat.lt_succ_self _, Nat.le_refl _, rfl⟩) (V) ?_
 rintro ⟨j, a, out⟩ ⟨ha, hj, hol, he⟩
 dsimp only at ha hj hol he ⊢
 obtain ⟨j, rfl⟩ : ∃ q, j = q + 1 := ⟨j - 1, by omega⟩
 have hbd : (b.drop a).length = b.length - a := List.length_drop
 have hrest := rText_rest 100000 (b.drop a)
 generalize hT : rText 100000 (b.drop a) = T at hrest
 obtain ⟨t, r, e⟩ := T
 dsimp only at hrest
 have hX := textX_eq 100000 (b.drop a)
 rw [hT] at hX
 dsimp only at hX
 refine zW <| zA <| qR V <| qM V V V <| qO V <| zH V V V <| qF V V V zL1 <| qO V <| zL V V h ta9 V <| qM V V V <| qO V <| zC0 V zD V (.some V V) .none (by (try dsimp only); omega) (by (try dsimp only); omega) ?_
 rw [List.take_of_length_le (by simp : (b.drop a).length ≤ b.length - a)]
 refine qO V <| op_build V Tryd.underlying80 zm80 (.cons zJ1 sz9 V V (zB V) .nil) (by kernel_rfl) ?_
 refine qB V V V V V <| qA V V V <| qN <| zA <| qR V <| qM V V V ?_
 refine qX V V V V co40 (xtext_reads (S.length + 1) 100000 (by decide) (b.drop a, 0) (S ++ [MObj.row 9 1 out.length, xo (b.drop a, 0)]) (by simp : (S ++ [MObj.row 9 1 out.length, xo (b.drop a, 0)])[S.length + 1]? = some (xo (b.drop a, 0))) (by show (b.drop a).length ≤ _; omega)) ?_
 rw [hX]
 refine wOps_at (S ++ [MObj.row 9 1 out.length, xo (r, (e : Int))]) (by simp) ?_
 refine qA V V V <| qN <| zA ?_
 refine zP0 [] [_] mo (by decide) V V V V ?_
 refine dO V V V (zJ V V Vv) <| dO V V V (zH V V V Vv) <| dO V V V (zE V V zL1 Vv) <| dO V V V (zL V V h ta9 V Vv) <| dO V V V (zY V zD V Vv) <| dO V V V (zJ V V Vv) <| dO V V V (zV V V V (wsub (a := b.length) (b := a) (c := b.length - a) (by omega) (by omega)) Vv) ?_
 refine dO V V V (zJ V V Vv) <| dO V V V (zH V V V Vv) <| dO V V V (zE V V zJ1 Vv) <| dO V V V (zB0 V V V ta9 V Vv) <| dO V V V (zY V zD V Vv) <| dO V V V (zV V V V (wsub (a := b.length - a) (b := r.length) (c := b.length - a - r.length) (by omega) (by omega)) Vv) ?_
 refine dO V V V (zX0 V V Vv) <| zO0 <| zA <| zA ?_
 by_cases h0 : e = 0
 by_cases h8 : r.length < 8
 rotate_left
 by_cases hg : rGood (b.drop a) r
 ·
  subst h0
  have hN := rRead_good (k := j) (at_ := a) hT h8 hg
  have hgd : r.take 8 = leB 8 (hashB ((b.drop a).take (b.length - a - r.length))) := by have := hg; unfold rGood at this; rw [hbd] at this; exact this
  rw [hbd] at hN
  refine zP0 [] [_] mo (by decide) V V V V ?_
  refine dO V V V (zJ V V Vv) <| dO V V V (zH V V V Vv) <| dO V V V (zE V V fo80_1 Vv) <| dO V V V (zB0 V V V ta3 V Vv) <| dO V V V (op_cmp V V V (V) Vv) <| dO V V V (zJ V V Vv) <| dO V V V (zJ V V Vv) <| dO V V V (zH V V V Vv) <| dO V V V (zE V V zJ1 Vv) <| dO V V V (zB0 V V V ta9 V Vv) <| dO V V V (zY V zD V Vv) <| dO V V V (op_cmp V V V (show intCmp .lss ((r.length : Nat) : Int) 8 = some false by simp [intCmp]; omega) Vv) ?_
  refine dO V V V (zZ0 V V V Vv) <| dO V V V (zJ V V Vv) <| dO V V V (zJ V V Vv) <| dO V V V (zH V V V Vv) <| dO V V V (zE V V zJ1 Vv) <| dO V V V (zB0 V V V ta9 V Vv) <| dO V V V (zC0 V zD V .none (.some V V) (by (try dsimp only); omega) (by (try dsimp only); omega) Vv) ?_
  rw [List.drop_zero, Nat.sub_zero]
  refine dO V V V (zJ V V Vv) <| dO V V V (zH V V V Vv) <| dO V V V (zE V V zL1 Vv) <| dO V V V (zL V V h ta9 V Vv) <| dO V V V (zJ V V Vv) <| dO V V V (zJ V V Vv) <| dO V V V (zJ V V Vv) <| dO V V V (zV V V V (wadd (a := a) (b := b.length - a - r.length) V (by omega)) Vv) ?_
  refine dO V V V (zC0 V zD V (.some V V) (.some V V) (by (try dsimp only); omega) (by (try dsimp only); omega) Vv) ?_
  rw [Nat.add_sub_cancel_left]
  refine zS V V (.cons (zH0 V V V co37 (rHash_spec _ (by simp; omega) _)) .nil) ?_
  refine zS V V (.cons (zH0 V V V co36 (rEight_spec _ _)) .nil) <| dO V V V (zN1 V V V (strNe0 hgd) Vv) <| dO V V V (zZ0 V V V Vv) <| zO0 <| zF0 V (V) <| zZ <| zA <| qR V <| qM V V V <| qM V V V <| qO V <| zI0 V zQ el9 V V (by decide) (by decide) V V ?_
  refine qO V <| op_append' V zQ el9 V V V (by simp) (by simp only [zT, zK, List.length_nil]; omega) (by simp only [zT, zK, List.length_nil]; omega) V ?_
  refine qA V V V <| qN <| qR V <| qM V V V <| qM V V V <| qO V <| zV V V V (wadd (a := a) (b := b.length - a - r.length) V (by omega)) ?_
  refine qO V <| zV V V V (wadd (a := a + (b.length - a - r.length)) (b := 8) V (by omega)) ?_
  refine qA V V V <| qN ?_
  refine ⟨⟨j, a + (b.length - a - r.length) + 8, out ++ [t]⟩, [xo (r, 0)], by dsimp only; omega, ⟨by dsimp only; omega, by dsimp only; omega, by simp only [zG, zK, List.length_nil]; omega, by dsimp only; rw [← he, hN]; simp [List.drop_drop, Nat.add_assoc]⟩, by simp, .new trivial .nil, (.old V V (.nil)), (.new' V (by rw [List.map_append]; rfl) (cl_lstT (by simp) (cl_encS _) encS_one) (.new' V (V) (.int _ _) (.nil)))⟩
 ·
  subst h0
  have hgd : ¬ r.take 8 = leB 8 (hashB ((b.drop a).take (b.length - a - r.length))) := fun q => hg (by unfold rGood; rw [hbd]; exact q)
  refine zP0 [] [_] mo (by decide) V V V V ?_
  refine dO V V V (zJ V V Vv) <| dO V V V (zH V V V Vv) <| dO V V V (zE V V fo80_1 Vv) <| dO V V V (zB0 V V V ta3 V Vv) <| dO V V V (op_cmp V V V (V) Vv) <| dO V V V (zJ V V Vv) <| dO V V V (zJ V V Vv) <| dO V V V (zH V V V Vv) <| dO V V V (zE V V zJ1 Vv) <| dO V V V (zB0 V V V ta9 V Vv) <| dO V V V (zY V zD V Vv) <| dO V V V (op_cmp V V V (show intCmp .lss ((r.length : Nat) : Int) 8 = some false by simp [intCmp]; omega) Vv) ?_
  refine dO V V V (zZ0 V V V Vv) <| dO V V V (zJ V V Vv) <| dO V V V (zJ V V Vv) <| dO V V V (zH V V V Vv) <| dO V V V (zE V V zJ1 Vv) <| dO V V V (zB0 V V V ta9 V Vv) <| dO V V V (zC0 V zD V .none (.some V V) (by (try dsimp only); omega) (by (try dsimp only); omega) Vv) ?_
  rw [List.drop_zero, Nat.sub_zero]
  refine dO V V V (zJ V V Vv) <| dO V V V (zH V V V Vv) <| dO V V V (zE V V zL1 Vv) <| dO V V V (zL V V h ta9 V Vv) <| dO V V V (zJ V V Vv) <| dO V V V (zJ V V Vv) <| dO V V V (zJ V V Vv) <| dO V V V (zV V V V (wadd (a := a) (b := b.length - a - r.length) V (by omega)) Vv) ?_
  refine dO V V V (zC0 V zD V (.some V V) (.some V V) (by (try dsimp only); omega) (by (try dsimp only); omega) Vv) ?_
  rw [Nat.add_sub_cancel_left]
  refine zS V V (.cons (zH0 V V V co37 (rHash_spec _ (by simp; omega) _)) .nil) ?_
  refine zS V V (.cons (zH0 V V V co36 (rEight_spec _ _)) .nil) <| dO V V V (zN1 V V V (strNeq hgd) Vv) <| dO V V V (zZ0 V V V Vv) <| zO0 <| zQ0 V (V) <| zA <| qR V <| qM V V V <| qM V V V <| qA V V V <| qA V V V <| qN <| zU ?_
  have hN : rRead (j + 1) a (b.drop a) = ([], a) := rRead_bad (by rw [hT]; exact .inr (.inr hg))
  rw [hN, List.append_nil] at he
  exact ret_tmp2 (.inr V) Tryd.results26 V V (Sub.trans (.view _ _ _) (.of_eq (by rw [← he]))) (.of_eq (by rw [← he])) (cl_lst (cl_encS _) encS_one) (.int _ _) Vv
 ·
  refine zP0 [] [_] mo (by decide) V V V V ?_
  refine dO V V V (zJ V V Vv) <| dO V V V (zH V V V Vv) <| dO V V V (zE V V fo80_1 Vv) <| dO V V V (zB0 V V V ta3 V Vv) <| dO V V V (op_cmp V V V (show intCmp .neq (e : Int) 0 = some true by simp [intCmp]; omega) Vv) ?_
  refine dO V V V (zJ V V Vv) <| dS V V <| dS V V <| dS V V <| dS V V <| dS V V <| dS V V <| dO V V V (zZ0 V V V Vv) <| dO V V V (zJ V V Vv) <| dS V V <| dS V V <| dS V V <| dS V V <| dS V V <| dS V V <| dS V V <| dS V V <| dS V V <| dS V V <| dS V V <| dS V V <| dS V V <| dS V V <| dS V V <| dS V V <| dS V V <| dO V V V (zZ0 V V V Vv) <| zO0 <| zQ0 V (V) <| zA ?_
  refine qR V <| qM V V V <| qM V V V <| qA V V V <| qA V V V <| qN <| zU ?_
  have hN : rRead (j + 1) a (b.drop a) = ([], a) := rRead_bad (by rw [hT]; exact .inl h0)
  rw [hN, List.append_nil] at he
  exact ret_tmp2 (.inr V) Tryd.results26 V V (Sub.trans (.view _ _ _) (.of_eq (by rw [← he]))) (.of_eq (by rw [← he])) (cl_lst (cl_encS _) encS_one) (.int _ _) Vv
 ·
  subst h0
  refine zP0 [] [_] mo (by decide) V V V V ?_
  refine dO V V V (zJ V V Vv) <| dO V V V (zH V V V Vv) <| dO V V V (zE V V fo80_1 Vv) <| dO V V V (zB0 V V V ta3 V Vv) <| dO V V V (op_cmp V V V (V) Vv) <| dO V V V (zJ V V Vv) <| dO V V V (zJ V V Vv) <| dO V V V (zH V V V Vv) <| dO V V V (zE V V zJ1 Vv) <| dO V V V (zB0 V V V ta9 V Vv) <| dO V V V (zY V zD V Vv) <| dO V V V (op_cmp V V V (show intCmp .lss ((r.length : Nat) : Int) 8 = some true by simp [intCmp]; omega) Vv) ?_
  refine dO V V V (zZ0 V V V Vv) <| dO V V V (zJ V V Vv) <| dS V V <| dS V V <| dS V V <| dS V V <| dS V V <| dS V V <| dS V V <| dS V V <| dS V V <| dS V V <| dS V V <| dS V V <| dS V V <| dS V V <| dS V V <| dS V V <| dS V V <| dO V V V (zZ0 V V V Vv) <| zO0 <| zQ0 V (V) <| zA <| qR V <| qM V V V <| qM V V V <| qA V V V ?_
  refine qA V V V <| qN <| zU ?_
  have hN : rRead (j + 1) a (b.drop a) = ([], a) := rRead_bad (by rw [hT]; exact .inr (.inl h8))
  rw [hN, List.append_nil] at he
  exact ret_tmp2 (.inr V) Tryd.results26 V V (Sub.trans (.view _ _ _) (.of_eq (by rw [← he]))) (.of_eq (by rw [← he])) (cl_lst (cl_encS _) encS_one) (.int _ _) Vv
theorem rRecords_spec (id : Nat) (b : Bs) (k : Nat) (S : MS) (h : S[id]? = some (tapeO b k)) (hb : b.length ≤ 1000000) : MCalls Tryd.prog 17 [.ref id 0] S fun v σ' => v = .lst none 1 ((rAll b).1.map encS) ∧ σ' = S := by
 refine zM Tryd.func17 V Tryd.ntmps17 (zB V) ?_
 refine zA <| qR V <| qA V V V <| qN <| zA <| qR V <| qM V V V ?_
 refine qX V V V V co26 (rRead_spec id b k _ (by first | exact h | exact get_app h) hb) ?_
 refine qM V V V <| qO V <| op_extract V V V <| qO V <| op_extract V V V <| qA V V V <| qA V V V <| qN <| zA <| qR V <| qM V V V <| qA V V V <| qN <| zU ?_
 exact zL0 (.inr V) Tryd.results17 V (.of_eq (V)) (cl_lst (cl_encS _) encS_one) Vv
theorem rCrash_spec (id : Nat) (b : Bs) (k : Nat) (S : MS) (h : S[id]? = some (tapeO b k)) (hk : k ≤ b.length) (hb : b.length ≤ 1000000) (n : Int) (hn : (IntKind.i64.wrap n) = n) (c : Bs) (hc : c = b.take (k + min n.toNat (b.length - k))) : MCalls Tryd.prog 12 [.ref id 0, .int .i64 n] S fun v σ' => v = .tup [] ∧ σ' = S.set id (tapeO (c.take (rAll c).2) (rAll c).2) := by
 refine zM Tryd.func12 V Tryd.ntmps12 (zB V) ?_
 refine zG0 fun _ hcl => ?_
 rw [List.append_nil] at hcl
 have hcl_ : c.length ≤ 1000000 := by rw [hc, List.length_take]; omega
 have hg2 : (S.set id (tapeO c k))[id]? = some (tapeO c k) := get_set h
 obtain ⟨e, he⟩ : ∃ e, e = (rAll c).2 := ⟨_, rfl⟩
 have hec : e ≤ c.length := by have := rRead_len (c.length + 1) 0 c; rw [he]; unfold rAll; omega
 have hg3 : ((S.set id (tapeO c k)).set id (tapeO (c.take e) k))[id]? = some (tapeO (c.take e) k) := get_set hg2
 refine zA ?_
 refine zP0 [18] [_, S.set id (tapeO c k) ++ []] mo (by decide) V V V V ?_
 refine dO V V V (zJ V V Vv) <| dO V V V (zJ V V Vv) <| dO V V V (zH V V V Vv) <| dO V V V (zE V V zL1 Vv) <| dO V V V (zL V V h ta9 V Vv) <| dO V V V (zJ V V Vv) <| dO V V V (zH V V V Vv) <| dO V V V (zE V V fo28_1 Vv) <| dO V V V (zL V V h ta3 V Vv) <| dO V V V (zJ V V Vv) <| dO V V V (zJ V V Vv) <| zS V V (.cons (zH0 V V V co19 (rLoose_spec id b k _ (by first | exact h | exact get_app h) hk hb)) .nil) ?_
 refine dO V V V (op_min2' V V V (min_i n _) Vv) <| dO V V V (op_max2' V V V (max_i n (b.length - k)) Vv) <| dO V V V (zV V V V (wadd (a := k) (b := min n.toNat (b.length - k)) V (by omega)) Vv) ?_
 refine dO V V V (zC0 V zD V .none (.some V V) (by omega) (by omega) Vv) ?_
 rw [show (b.drop 0).take (k + min n.toNat (b.length - k) - 0) = c from hc.symm]
 refine zS V V (.cons (zH V V V Vv) (.cons (zH V V V Vv) (.nil))) <| dO V V V (zE V V zL1 Vv) <| zW0 V V V V (zE0 V V V h sz9 V V (zB V) Vv) <| zO0 <| zA <| qR V <| qM V V V ?_
 refine qX V V V V co26 (rRead_spec id c k _ (by first | exact hg2 | exact get_app hg2) hcl_) ?_
 rw [← he]
 refine qM V V V <| qO V <| op_extract V V V <| qO V <| op_extract V V V <| qA V V V <| qA V V V <| qN <| zA <| qR V <| qM V V V <| qM V V V <| qO V <| zH V V V <| qF V V V zL1 <| qO V <| zL V V hg2 ta9 V <| qM V V V <| qO V <| zC0 V zD V .none (.some V V) (by omega) (by omega) ?_
 rw [List.drop_zero, Nat.sub_zero]
 refine qO V <| zH V V V <| qF V V V zL1 <| qO V <| zE0 V V V hg2 sz9 V V (zB V) <| qN <| qR V <| qM V V V <| qM V V V <| qO V <| zH V V V <| qF V V V fo28_1 <| qO V <| zE0 V V V hg3 sz3 V V (zB V) <| qN ?_
 exact ret_noneS (by simp) Tryd.results12 (by simp) (((hcl.set (zD1 _ _ _)).set (zD1 _ _ _)).set (zD1 _ _ _)) ⟨rfl, by rw [set_set, set_set]; rfl⟩
theorem rReplace_spec (id : Nat) (b : Bs) (k : Nat) (S : MS) (h : S[id]? = some (tapeO b k)) (l : List Bs) (hl : ∀ r ∈ l, r.length ≤ 500) (hn : l.length ≤ 10) (hfit0 : (laids l).length ≤ 100000) : MCalls Tryd.prog 14 [.ref id 0, .lst none 1 (l.map encS)] S fun v σ' => v = .int .i64 0 ∧ σ' = S.set id (tapeO (laids l) (laids l).length) := by
 refine zM Tryd.func14 V Tryd.ntmps14 (zB V) ?_
 refine mwp_len (t := 1) V fun hlen => ?_
 rw [zT] at hlen
 refine zG0 fun _ hcl => ?_
 rw [List.append_nil] at hcl
 have hg2 : (S.set id (tapeO (laids l) k))[id]? = some (tapeO (laids l) k) := get_set h
 refine zA <| qR V <| qA V V V <| qN <| zA <| qR V <| qA V V V <| qN <| zA <| zA <| qR V <| qA V V V <| qN <| zW ?_
 refine zY0 (α := Nat) [(0, _), (1, _)] (fun i => [(5, .str (bs (laids (l.take i)))), (6, .int .i64 (i : Int))]) (fun i => []) (fun i => i ≤ l.length) (fun i => l.length - i) (0) (.keep V (.keep V (.nil))) (.keep V (.keep V (.nil))) (by omega) (V) ?_
 rintro i hi
 refine zA <| zA <| qR V <| qM V V V <| qM V V V <| qE V V zQ V <| qC V V V V V <| qN ?_
 refine zO V (fun h10 => ?_) (fun h10 => ?_)
 ·
  have hlt : i < l.length := by simpa using h10
  obtain ⟨r, hs⟩ : ∃ q_, l[i]? = some q_ := ⟨_, zF hlt⟩
  have hr5 := hl r (zI hs)
  have hll := zM0 r
  have hnl := zC1 (show r.length < 2097152 by omega)
  have hle := laids_le (l := l.take i) fun s hs => hl s (List.mem_of_mem_take hs)
  have hti : (l.take i).length ≤ 10 := by rw [List.length_take]; omega
  refine zZ <| zA <| zW <| qR V <| qM V V V <| qM V V V <| qM V V V <| qO V <| op_indexAddr V zQ sz9 (by decide) V V V (get_map hs) ?_
  refine qO V <| op_load_sptr V V ta9 V ?_
  refine qX V V V V co24 (rRecord_spec r (by omega) _) ?_
  refine qO V <| zB1 V V V (by omega) ?_
  refine qA V V V <| qN <| qR V <| qM V V V <| qO V <| zV V V V V <| qA V V V <| qN ?_
  refine ⟨i + 1, by omega, by omega, rfl, (.keep V (.keep V (.nil))), (.eq V (by rw [laids_take_succ hs]) (.eq V (zK1 hlt hlen) (.nil)))⟩
 ·
  have hge : i = l.length := by simp at h10; omega
  have hfit := laids_le hl
  rw [hge, List.take_length]
  refine zT0 <| zA <| zA <| qR V <| qM V V V <| qO V <| zY V zD V <| qC V V V V V <| qN <| zF0 V (by simp; omega) ?_
  refine zZ <| zA <| qR V <| qM V V V <| qM V V V <| qM V V V <| qM V V V <| qO V <| zY V zD V <| qO V <| zH V V V <| qF V V V zL1 <| qO V <| zE0 V V V h sz9 V V (zB V) <| qO V <| zH V V V <| qF V V V fo28_1 <| qO V <| zE0 V V V hg2 sz3 V V (zB V) <| qN <| zA <| qR V <| qA V V V ?_
  refine qN <| zU ?_
  exact zR0 (.inr V) Tryd.results14 V (.refl _) (.int _ _) (by simp) ((hcl.set (zD1 _ _ _)).set (zD1 _ _ _)) ⟨rfl, by rw [set_set]; rfl⟩
theorem replace_spec (id : Nat) (b : Bs) (k : Nat) (S : MS) (h : S[id]? = some (tapeO b k)) (l : List Bs) (hl : ∀ r ∈ l, r.length ≤ 500) (hn : l.length ≤ 10) (hfit0 : (laids l).length ≤ 100000) : MCalls Tryd.prog 13 [.ref id 0, .lst none 1 (l.map encS)] S fun v σ' => v = .iface0 ∧ σ' = S.set id (tapeO (laids l) (laids l).length) := by
 refine zM Tryd.func13 V Tryd.ntmps13 (zB V) ?_
 refine mwp_len (t := 1) V fun hlen => ?_
 rw [zT] at hlen
 refine zG0 fun _ hcl => ?_
 rw [List.append_nil] at hcl
 have hg2 : (S.set id (tapeO (laids l) k))[id]? = some (tapeO (laids l) k) := get_set h
 refine zA <| qR V <| qA V V V <| qN <| zA <| qR V <| qA V V V <| qN <| zA <| zA <| qR V <| qM V V V <| qE V V zQ V <| qM V V V <| qN <| zW ?_
 refine zY0 (α := Nat) [(0, _), (8, _), (9, _)] (fun i => [(5, .str (bs (laids (l.take i)))), (10, .int .i64 (i : Int))]) (fun i => []) (fun i => i ≤ l.length) (fun i => l.length - i) (0) (.keep V (.keep V (.keep V (.nil)))) (.keep V (.keep V (.nil))) (by omega) (V) ?_
 rintro i hi
 refine zA <| qR V <| qC V V V V V <| qN <| zA ?_
 refine zO V (fun h11 => ?_) (fun h11 => ?_)
 ·
  have hlt : i < l.length := by simpa using h11
  obtain ⟨r, hs⟩ : ∃ q_, l[i]? = some q_ := ⟨_, zF hlt⟩
  have hr5 := hl r (zI hs)
  have hll := zM0 r
  have hnl := zC1 (show r.length < 2097152 by omega)
  have hle := laids_le (l := l.take i) fun s hs => hl s (List.mem_of_mem_take hs)
  have hti : (l.take i).length ≤ 10 := by rw [List.length_take]; omega
  refine zZ <| zA <| zW <| zA <| qR V <| qO V <| op_indexAddr V zQ sz9 (by decide) V V V (get_map hs) ?_
  refine qO V <| op_load_sptr V V ta9 V <| qA V V V <| qN <| qR V <| qM V V V <| qM V V V ?_
  refine qX V V V V co23 (zP1 r (by omega) _) ?_
  refine qO V <| zB1 V V V (by omega) ?_
  refine qA V V V <| qN <| qR V <| qO V <| zV V V V V <| qM V V V <| qN ?_
  refine ⟨i + 1, by omega, by omega, rfl, (.keep V (.keep V (.keep V (.nil)))), (.eq V (by rw [laids_take_succ hs]) (.eq V (zK1 hlt hlen) (.nil)))⟩
 ·
  have hge : i = l.length := by simp at h11; omega
  have hfit := laids_le hl
  rw [hge, List.take_length]
  refine zT0 <| zA <| zA <| qR V <| qM V V V <| qO V <| zY V zD V <| qC V V V V V <| qN <| zF0 V (by simp; omega) ?_
  refine zZ <| zA <| qR V <| qM V V V <| qM V V V <| qM V V V <| qM V V V <| qO V <| zY V zD V <| qO V <| zH V V V <| qF V V V fo48_0 <| qO V <| zE0 V V V h sz9 V V (zB V) <| qO V <| zH V V V <| qF V V V fo48_1 <| qO V <| zE0 V V V hg2 sz3 V V (zB V) <| qN <| zA <| qR V <| qA V V V ?_
  refine qN <| zU ?_
  exact zR0 (.inr V) Tryd.results13 V (.refl _) (.iface0) (by simp) ((hcl.set (zD1 _ _ _)).set (zD1 _ _ _)) ⟨rfl, by rw [set_set]; rfl⟩
end Go.Proofs.YtplclefbiimnbaaDoor
end
namespace Go.Proofs.YtplclefbiimnbaaDoor
open Go Go.MV Go.RowKit Go.Extern.Stop Go.Extern
theorem tT (v : Value) (w : World) : (Extern.ReflectliteType.typeOf #[.iface 46 v]).run Tryd.prog w = .ok (.iface 83 (.agg #[.pointer (some ⟨Tryd.prog.globals.size, 46, none⟩)])) w := by kernel_rfl
theorem cT (w : World) : ((Extern.ReflectliteType.method fun t => do Extern.Rtype.noPackHeld "Comparable" t; pure (.bool (← typeInfo t).comparable)) #[.agg #[.pointer (some ⟨Tryd.prog.globals.size, 46, none⟩)]]).run Tryd.prog w = .ok (.bool true) w := by kernel_rfl
theorem mR (v : Value) (w : World) : (Go.method 229 83 v "Comparable").run Tryd.prog w = .ok (71, v) w := by kernel_rfl
theorem errComp : (Tryd.prog.info? 46).map (·.comparable) = some true := by kernel_rfl
theorem _root_.zG1 : type_of% @Tryd.underlying33 := @Tryd.underlying33
theorem eqErr (n : Int) (w : World) : (binOp .eql 33 (.iface 46 (.int .i64 n)) (.iface 46 (.int .i64 n))).run Tryd.prog w = .ok (.bool true) w := by
 obtain ⟨i, hi, hcmp⟩ := Option.map_eq_some_iff.1 errComp
 have h : ∀ d : Nat, (Op.equalIn (d + 2) 33 (.iface 46 (.int .i64 n)) (.iface 46 (.int .i64 n))).run Tryd.prog w = .ok true w := fun d => by
  simp [Op.equalIn, run_underlying zG1, run_underlying Tryd.underlying46, typeInfo, hi, hcmp]
 simp only [binOp]
 simp [Op.equal, Op.maxDepth, h 9998]
theorem nilErr (v : Value) (w : World) : (binOp .eql 33 (.iface 46 v) .nilIface).run Tryd.prog w = .ok (.bool false) w := by
 have h : ∀ d : Nat, (Op.equalIn (d + 1) 33 (.iface 46 v) .nilIface).run Tryd.prog w = .ok false w := fun d => by simp [Op.equalIn, run_underlying zG1]
 simp only [binOp]
 simp [Op.equal, Op.maxDepth, h 9999]
theorem isSame (n : Int) (w : World) : Calls Tryd.prog 21 #[.iface 46 (.int .i64 n), .iface 46 (.int .i64 n)] w fun e w' => e = .returned (.bool true) ∧ w' = w := by
 have h8 := @run_callFunc_extern Tryd.prog 27 _ Extern.ReflectliteType.typeOf Tryd.func27 (by kernel_rfl) (by kernel_rfl) (by kernel_rfl) (by kernel_rfl)
 have h32 := @run_callFunc_extern Tryd.prog 71 _ (Extern.ReflectliteType.method fun t => do Extern.Rtype.noPackHeld "Comparable" t; pure (.bool (← typeInfo t).comparable)) Tryd.func71 (by kernel_rfl) (by kernel_rfl) (by kernel_rfl) (by kernel_rfl)
 obtain ⟨H, hT, hC⟩ : ∃ H : Value, (∀ (v : Value) (w : World), (callFunc 27 #[.iface 46 v]).run Tryd.prog w = .ok (.value (.iface 83 H)) w) ∧ (∀ w : World, (callFunc 71 #[H]).run Tryd.prog w = .ok (.value (.bool true)) w) := ⟨_, fun v w => by rw [h8, tT]; rfl, fun w => by rw [h32, cT]; rfl⟩
 clear h8 h32
 have mR := mR
 have heq := eqErr n w
 have hnil := nilErr (.int .i64 n) w
 go_enter Tryd.func21, Tryd.ntmps21
 go_wp2
 refine wp_loop_rounds 1 ?_
 rw [rounds_succ]
 go_wp2
 go_ret
 exact ⟨rfl, rfl⟩
theorem errIs_spec (n : Int) (S : MS) : MCalls Tryd.prog 21 [.iface 46 (.int .i64 n), .iface 46 (.int .i64 n)] S fun v σ' => v = .bool true ∧ σ' = S := by
 intro g w vs hrel hrd
 obtain ⟨u, us, rfl, h1, h2⟩ := hrd.uncons
 obtain ⟨u2, us2, rfl, h3, h4⟩ := h2.uncons
 obtain ⟨a, rfl, ha⟩ := h1.inv_iface
 obtain ⟨b, rfl, hb⟩ := h3.inv_iface
 have e1 := ha.inv_int
 have e2 := hb.inv_int
 have e3 : us2 = [] := List.eq_nil_of_length_eq_zero h4.1
 subst e1 e2 e3
 refine (callsIn_wide.2 (isSame n w)).mono ?_
 rintro e w' ⟨rfl, rfl⟩
 exact ⟨_, rfl, .bool true, S, g, ⟨rfl, rfl⟩, hrel, .bool _, .refl _ _⟩
end Go.Proofs.YtplclefbiimnbaaDoor
namespace Go.Proofs.YtplclefbiimnbaaDoor
open Go Go.MV
theorem sameTexts_spec (a b : List Bs) (S : MS) : MCalls Tryd.prog 15 [.lst none 1 (a.map encS), .lst none 1 (b.map encS)] S fun v σ' => v = .bool (decide (a = b)) ∧ σ' = S := by
 refine zM Tryd.func15 V Tryd.ntmps15 (zB V) ?_
 refine mwp_len (t := 0) V fun hlen => ?_
 rw [zT] at hlen
 refine zA <| qR V <| qA V V V <| qN <| zA <| zA <| qR V <| qM V V V <| qE V V zQ V <| qM V V V <| qE V V zQ V <| qC V V V V V <| qN ?_
 refine zO V (fun h10 => ?_) (fun h10 => ?_)
 ·
  refine zA <| qR V <| qA V V V <| qN <| zU ?_
  exact zL0 (.inr V) Tryd.results15 V (.of_eq (by congr 1; symm; rw [decide_eq_false_iff_not]; intro e; subst e; simp at h10)) (.bool _) Vv
 ·
  have hab : a.length = b.length := by simp at h10; omega
  refine zZ <| zA <| zA <| qR V <| qA V V V <| qN <| zW ?_
  refine zY0 (α := Nat) [(0, _), (1, _)] (fun i => [(5, .int .i64 (i : Int))]) (fun i => []) (fun i => i ≤ a.length ∧ a.take i = b.take i) (fun i => a.length - i) (0) (.keep V (.keep V (.nil))) (.keep V (.nil)) (⟨by omega, rfl⟩) (V) ?_
  rintro i ⟨hi, heq⟩
  refine zA <| zA <| qR V <| qM V V V <| qM V V V <| qE V V zQ V <| qC V V V V V <| qN ?_
  refine zO V (fun h14 => ?_) (fun h14 => ?_)
  ·
   have hlt : i < a.length := by simpa using h14
   obtain ⟨x, hs⟩ : ∃ q_, a[i]? = some q_ := ⟨_, zF hlt⟩
   obtain ⟨y, hs2⟩ : ∃ s, b[i]? = some s := ⟨_, zF (by omega)⟩
   refine zZ <| zA <| zW <| zA ?_
   refine zP0 [] [_] mo (by decide) V V V V ?_
   refine dO V V V (zJ V V Vv) <| dO V V V (zJ V V Vv) <| dO V V V (op_indexAddr V zQ sz9 (by decide) V V V (get_map hs) Vv) ?_
   refine dO V V V (op_load_sptr V V ta9 V Vv) <| dO V V V (zJ V V Vv) <| dO V V V (zJ V V Vv) <| dO V V V (op_indexAddr V zQ sz9 (by decide) V V V (get_map hs2) Vv) ?_
   refine dO V V V (op_load_sptr V V ta9 V Vv) <| dO V V V (zN1 V V V V Vv) <| zO0 ?_
   refine zO V (fun h25 => ?_) (fun h25 => ?_)
   ·
    refine zA <| qR V <| qA V V V <| qN <| zU ?_
    exact zL0 (.inr V) Tryd.results15 V (.of_eq (by congr 1; symm; rw [decide_eq_false_iff_not]; intro e; subst e; rw [hs2] at hs; injection hs with hs; subst hs; simp at h25)) (.bool _) Vv
   ·
    refine zZ <| qR V <| qM V V V <| qO V <| zV V V V V <| qA V V V <| qN ?_
    refine ⟨i + 1, by omega, ⟨by omega, ?_⟩, rfl, (.keep V (.keep V (.nil))), (.eq V (zK1 hlt hlen) (.nil))⟩
    rw [List.take_add_one, List.take_add_one, hs, hs2, heq]
    simp at h25
    rw [h25]
  ·
   have hge : i = a.length := by simp at h14; omega
   refine zT0 <| zA <| qR V <| qA V V V <| qN <| zU ?_
   exact zL0 (.inr V) Tryd.results15 V (.of_eq (by congr 1; symm; rw [decide_eq_true_iff]; rw [hge, List.take_length, hab, List.take_length] at heq; exact heq)) (.bool _) Vv
theorem known_len : (laids [[97, 98]]).length = 11 ∧ (laids ([[97, 98]] ++ [[99, 100]])).length = 22 := by
 rw [zM1, zG, laids_one, laids_one, zM0, zM0]
 have e : (numB 2).length = 1 := by rw [numB_last (by omega)]; rfl
 simp [e]
theorem knownT_spec : MCalls Tryd.prog 4 [] [] fun v σ' => v = .bool true ∧ σ' = [] := by
 refine zM Tryd.func4 V Tryd.ntmps4 (zB V) ?_
 obtain ⟨hl1, hl2⟩ := known_len
 have hk1 : ([] : Bs).length + (laidB [97, 98]).length ≤ 100000 := by rw [← laids_one, hl1]; decide
 have hk2 : (laids [[97, 98]]).length + (laidB [99, 100]).length ≤ 100000 := by have := hl2; rw [zM1, zG, laids_one (r := [99, 100])] at this; omega
 have hk3 : ¬ (laids [[97, 98]]).length + (laidB (List.replicate 100000 0)).length ≤ 100000 := by rw [zM0, List.length_replicate]; omega
 have hk4 : (laids ([[97, 98]] ++ [[99, 100]])).take 21 = (laids ([[97, 98]] ++ [[99, 100]])).take ((laids [[97, 98]]).length + min (10 : Int).toNat ((laids ([[97, 98]] ++ [[99, 100]])).length - (laids [[97, 98]]).length)) := by rw [hl1, hl2]; rfl
 have hk5 : tapeO (((laids ([[97, 98]] ++ [[99, 100]])).take 21).take (endJ (recsF ((laids ([[97, 98]] ++ [[99, 100]])).take 21)) (recsF ((laids ([[97, 98]] ++ [[99, 100]])).take 21)).length)) (endJ (recsF ((laids ([[97, 98]] ++ [[99, 100]])).take 21)) (recsF ((laids ([[97, 98]] ++ [[99, 100]])).take 21)).length) = tapeO (laids [[97, 98]]) (laids [[97, 98]]).length := by
  obtain ⟨j, h1, h2, h3, h4, h5⟩ := crash_laids (rs := [[97, 98]] ++ [[99, 100]]) (by simp) 21
  have h6 := h5 1 (by simp) (by show (laids [[97, 98]]).length ≤ 21; omega)
  have h7 : j = 1 := by
   have h8 := h4 (by omega)
   have : j ≤ 2 := h1
   rcases Nat.lt_or_ge j 2 with h | h
   ·omega
   ·have : j = 2 := by omega
    subst this
    exact absurd h8 (by show ¬ (laids ([[97, 98]] ++ [[99, 100]])).length ≤ 21; omega)
  subst h7
  rw [h2, h3]
  rfl
 refine zA <| qR V <| qA V V V <| qN <| zA <| qR V ?_
 refine qX V V V V co5 (new_spec _) ?_
 refine wOps_st ([] ++ [tapeO [] 0]) V <| qA V V V <| qN <| zA <| zA <| qR V <| qM V V V <| qO V <| op_ptrnil V Tryd.underlying24 V V V (.inl Vv) <| qN <| zF0 V (V) <| zZ <| zA <| qR V <| qM V V V ?_
 refine qX V V V V co7 (add_spec 0 [] 0 _ rfl (by decide) [97, 98] (by decide) hk1) ?_
 refine wOps_st ([] ++ [tapeO (laidB [97, 98]) 0]) V ?_
 rw [← laids_one (r := [97, 98])]
 refine qA V V V <| qN <| zA <| qR V <| qM V V V ?_
 refine qX V V V V co9 (sync_spec 0 (laids [[97, 98]]) 0 _ rfl) ?_
 refine wOps_st ([] ++ [tapeO (laids [[97, 98]]) (laids [[97, 98]]).length]) V <| qN <| zA <| qR V <| qM V V V ?_
 refine qX V V V V co7 (add_spec 0 (laids [[97, 98]]) (laids [[97, 98]]).length _ rfl (by omega) [99, 100] (by decide) hk2) ?_
 refine wOps_st ([] ++ [tapeO (laids [[97, 98]] ++ laidB [99, 100]) (laids [[97, 98]]).length]) V ?_
 rw [← laids_one (r := [99, 100]), ← zM1]
 refine qA V V V <| qN <| zA <| qR V <| qM V V V ?_
 refine qX V V V V co18 (loose_spec 0 (laids ([[97, 98]] ++ [[99, 100]])) (laids [[97, 98]]).length _ rfl (by omega) (by omega)) ?_
 rw [show (laids ([[97, 98]] ++ [[99, 100]])).length - (laids [[97, 98]]).length = 11 by omega]
 refine qA V V V <| qN <| zA <| qR V <| qM V V V <| qM V V V <| qO V <| zV V V V (show intArith .sub .i64 ((11 : Nat) : Int) 1 = some 10 from V) ?_
 refine qX V V V V co11 (crash_spec 0 (laids ([[97, 98]] ++ [[99, 100]])) (laids [[97, 98]]).length _ rfl (by omega) (by omega) 10 V ((laids ([[97, 98]] ++ [[99, 100]])).take 21) hk4) ?_
 refine wOps_st ([] ++ [tapeO (((laids ([[97, 98]] ++ [[99, 100]])).take 21).take (endJ (recsF ((laids ([[97, 98]] ++ [[99, 100]])).take 21)) (recsF ((laids ([[97, 98]] ++ [[99, 100]])).take 21)).length)) (endJ (recsF ((laids ([[97, 98]] ++ [[99, 100]])).take 21)) (recsF ((laids ([[97, 98]] ++ [[99, 100]])).take 21)).length)]) V ?_
 rw [hk5]
 refine qN <| zA <| qR V <| qM V V V <| qO V <| op_makeSlice1 V zX el5 zm5 V V V (by decide) (by decide) V ?_
 refine qO V <| op_conv_bytes (l := List.replicate 100000 0) V zX zA0 zD V (by rw [List.map_replicate]; rfl) ?_
 refine qX V V V V co7 (addFull_spec 0 (laids [[97, 98]]) (laids [[97, 98]]).length _ rfl (by omega) (List.replicate 100000 0) (by rw [List.length_replicate]; omega) hk3) ?_
 refine qA V V V <| qN <| zA <| qR V <| qM V V V <| qO V <| op_if0 V zG1 V V (.inl Vv) <| qM V V V <| qM V V V <| qO V <| op_if0 V zG1 V V (.inl Vv) <| qP V V V V <| qM V V V <| qM V V V <| qC V V V V (V) <| qP V V V V <| qM V V V <| qM V V V ?_
 refine qX V V V V co20 (len_spec 0 (laids [[97, 98]]) (laids [[97, 98]]).length _ rfl) ?_
 refine qC V V V V (cmpE (by rw [hl1]; rfl)) ?_
 refine qP V V V V <| qM V V V <| qM V V V ?_
 refine qX V V V V co16 (recordsL_spec 0 (laids [[97, 98]]) (laids [[97, 98]]).length _ rfl (by omega)) ?_
 rw [recs_laids (by simp)]
 refine qO V <| zI0 V zQ el9 V V (by decide) (by decide) V V ?_
 refine qX V V V V co15 (sameTexts_spec [[97, 98]] [[97, 98]] _) ?_
 rw [decide_eq_true rfl]
 refine qP V V V V <| qM V V V <| qM V V V <| qO V <| op_makeInterface V V Tryd.underlying46 (by simp) ?_
 refine qX V V V V co21 (errIs_spec 15 _) ?_
 refine qP V V V V <| qA V V V <| qN <| zU ?_
 exact zL0 (.inr V) Tryd.results4 V (.of_eq (V)) (.bool _) Vv
end Go.Proofs.YtplclefbiimnbaaDoor
namespace Go.Proofs.YtplclefbiimnbaaDoor
open Go Go.MV Go.RowKit Go.Extern.Stop Go.Stop Go.Extern
abbrev hndE (t : Nat) : Value := .agg #[.pointer (some ⟨1, t, none⟩)]
abbrev rlV (t : Nat) (a : Addr) (f : Int) : Value := .agg #[.pointer (some ⟨1, t, none⟩), .pointer (some a), .int .u64 f]
theorem as_v1 (t : Addr) (w : World) : (ReflectliteValue.unpack (.iface 50 (.pointer (some t)))).run Tryd.prog w
  = .ok (rlV 50 ⟨w.heap.size, 0, none⟩ 150) (w.alloc (.cells #[.pointer (some t)] 50)) := by kernel_rfl
theorem as_type (a : Addr) (w : World) : (ReflectliteValue.methodAny (ReflectliteValue.valueError "reflectlite.Value.Type" 0) (fun t _ _ _ => ReflectliteType.toType t) #[rlV 50 a 150]).run Tryd.prog w
  = .ok (.iface 83 (hndE 50)) w := by kernel_rfl
theorem as_mKind (h : Value) (w : World) : (Go.method 229 83 (.agg #[h]) "Kind").run Tryd.prog w = .ok (62, h) w := by kernel_rfl
theorem as_kP (w : World) : ((ReflectliteType.abiMethod fun t => (fun a : Nat => Value.int IntKind.u8 (a : Int)) <$> Rtype.kind t) #[.pointer (some ⟨1, 50, none⟩)]).run Tryd.prog w = .ok (.int .u8 22) w := by kernel_rfl
theorem as_kE (w : World) : ((ReflectliteType.abiMethod fun t => (fun a : Nat => Value.int IntKind.u8 (a : Int)) <$> Rtype.kind t) #[.pointer (some ⟨1, 46, none⟩)]).run Tryd.prog w = .ok (.int .u8 2) w := by kernel_rfl
theorem as_rlm (z : Sem Value) (f : TypeId → Addr → Nat → Nat → Sem Value) (v : Value) :
  ReflectliteValue.method z f #[v] = (do match ← ReflectliteValue.parts v with | none => z | some (t, a, fl) => f t a fl (fl % 32)) := rfl
theorem as_pP (a : Addr) (w : World) : (ReflectliteValue.parts (rlV 50 a 150)).run Tryd.prog w = .ok (some (50, a, 150)) w := by kernel_rfl
theorem as_isNil (a p : Addr) (W : World) (ha : W.cell? a = some (.pointer (some p))) :
  (ReflectliteValue.method (ReflectliteValue.valueError "reflectlite.Value.IsNil" 0) ReflectliteValue.isNil #[rlV 50 a 150]).run Tryd.prog W = .ok (.bool false) W := by
 rw [as_rlm]
 simp only [Sem.run_bind, as_pP, Result.andThen]
 simp [ReflectliteValue.isNil, loadVar, isAgg, underlying, Tryd.underlying50, ha, Result.andThen]
theorem as_mElem (h : Value) (w : World) : (Go.method 229 83 (.agg #[h]) "Elem").run Tryd.prog w = .ok (72, .agg #[h]) w := by kernel_rfl
theorem as_mImpl (h : Value) (w : World) : (Go.method 229 83 (.agg #[h]) "Implements").run Tryd.prog w = .ok (73, .agg #[h]) w := by kernel_rfl
theorem as_mAss (h : Value) (w : World) : (Go.method 229 83 (.agg #[h]) "AssignableTo").run Tryd.prog w = .ok (70, .agg #[h]) w := by kernel_rfl
theorem as_elemT (w : World) : (ReflectliteType.method ReflectliteType.elem #[hndE 50]).run Tryd.prog w = .ok (.iface 83 (hndE 46)) w := by kernel_rfl
theorem as_impl (w : World) : (ReflectliteType.relation "Implements" ReflectliteType.implements_ #[hndE 46, .iface 83 (hndE 33)]).run Tryd.prog w = .ok (.bool true) w := by kernel_rfl
theorem as_typeOf (v : Value) (w : World) : (ReflectliteType.typeOf #[.iface 46 v]).run Tryd.prog w = .ok (.iface 83 (hndE 46)) w := by kernel_rfl
theorem as_assign (w : World) : (ReflectliteType.relation "AssignableTo" ReflectliteType.assignableTo #[hndE 46, .iface 83 (hndE 46)]).run Tryd.prog w = .ok (.bool true) w := by kernel_rfl
theorem as_v2 (k : Int) (w : World) : (ReflectliteValue.unpack (.iface 46 (.int .i64 k))).run Tryd.prog w
  = .ok (rlV 46 ⟨w.heap.size, 0, none⟩ 130) (w.alloc (.cells #[.int .i64 k] 46)) := by kernel_rfl
theorem as_elemOf (w : World) : (Rtype.elem? 50).run Tryd.prog w = .ok (some 46) w := by kernel_rfl
theorem as_mk (p : Addr) (w : World) : (ReflectliteValue.mk 46 p ReflectliteValue.flagAddr).run Tryd.prog w = .ok (rlV 46 p 386) w := by kernel_rfl
theorem as_elemV (a p : Addr) (W : World) (ha : W.cell? a = some (.pointer (some p))) :
  (ReflectliteValue.method (ReflectliteValue.valueError "reflectlite.Value.Elem" 0) ReflectliteValue.elem #[rlV 50 a 150]).run Tryd.prog W = .ok (rlV 46 p 386) W := by
 rw [as_rlm]
 simp only [Sem.run_bind, as_pP, Result.andThen]
 simp [ReflectliteValue.elem, loadVar, isAgg, underlying, Tryd.underlying50, ha, Result.andThen, as_elemOf, as_mk]
theorem as_rls (v x : Value) : ReflectliteValue.set #[v, x] = (do
  let (some (dst, a, fl), some (src, b, _)) := (← ReflectliteValue.parts v, ← ReflectliteValue.parts x)
   | unsupported (.noEntry "extern/(internal/reflectlite.Value).Set.zeroValue")
  if fl / ReflectliteValue.flagAddr % 2 == 0 then unsupported (.noEntry "extern/(internal/reflectlite.Value).Set.unaddressable")
  let val ← loadVar src b
  if ← Rtype.directlyAssignable dst src then storeVar dst a val
  else if ← Rtype.implements dst src then
   if (← Rtype.kind src) == 20 then
    match val with
    | .nilIface => unsupported (.noEntry "extern/reflectlite: a nil value of one interface type handed on as a value of another")
    | _ => storeVar dst a val
   else storeVar dst a (.iface src val)
  else panicString ("reflectlite.Set: value of type " ++ (← Rtype.spelt src) ++ " is not assignable to type " ++ (← Rtype.spelt dst))
  pure (.tuple #[])) := rfl
theorem as_pA (a : Addr) (w : World) : (ReflectliteValue.parts (rlV 46 a 386)).run Tryd.prog w = .ok (some (46, a, 386)) w := by kernel_rfl
theorem as_pB (a : Addr) (w : World) : (ReflectliteValue.parts (rlV 46 a 130)).run Tryd.prog w = .ok (some (46, a, 130)) w := by kernel_rfl
theorem as_direct (w : World) : (Rtype.directlyAssignable 46 46).run Tryd.prog w = .ok true w := by kernel_rfl
theorem as_set (ta b : Addr) (k : Int) (old : Value) (W : World) (hb : W.cell? b = some (.int .i64 k)) (ht : W.cell? ta = some old) (hf : W.frozen? ta = false) :
  (ReflectliteValue.set #[rlV 46 ta 386, rlV 46 b 130]).run Tryd.prog W = .ok (.tuple #[]) (W.setCell ta (.int .i64 k)) := by
 rw [as_rls]
 simp only [Sem.run_bind, as_pA, as_pB, Result.andThen]
 simp [ReflectliteValue.flagAddr, loadVar, isAgg, underlying, Tryd.underlying46, hb, Result.andThen, as_direct, storeVar, Value.cells, storeCells, Addr.add]
 rw [run_store Tryd.prog W ta _ _ (by rfl)]
 simp [ht, hf]
abbrev asW (t : Addr) (k : Int) (w : World) : World := (((w.alloc (.cells #[.pointer (some t)] 50)).alloc (.cells #[.pointer (some ⟨1, 50, none⟩), .pointer (some ⟨w.heap.size, 0, none⟩), .int .u64 150] 64)).alloc (.cells #[.pointer (some ⟨1, 50, none⟩), .pointer (some ⟨w.heap.size, 0, none⟩), .int .u64 150] 64)).alloc (.cells #[.int .i64 k] 46)
abbrev hndErr : Value := .iface 83 (hndE 33)
theorem as_hit (k : Int) (t : Addr) (old : Value) (w : World) (hg : w.cell? ⟨0, 0, none⟩ = some hndErr) (ht0 : w.cell? t = some old) (hf0 : w.frozen? t = false) :
  Calls Tryd.prog 22 #[.iface 46 (.int .i64 k), .iface 50 (.pointer (some t))] w fun ev w' => ev = .returned (.bool true) ∧ w' = (asW t k w).setCell t (.int .i64 k) := by
 have h6 := @run_callFunc_extern Tryd.prog 29 _ (fun args => ReflectliteValue.unpack (args.getD 0 (.tuple #[]))) Tryd.func29 (by kernel_rfl) (by kernel_rfl) (by kernel_rfl) (by kernel_rfl)
 have h7 := @run_callFunc_extern Tryd.prog 30 _ (ReflectliteValue.methodAny (ReflectliteValue.valueError "reflectlite.Value.Type" 0) (fun t _ _ _ => ReflectliteType.toType t)) Tryd.func30 (by kernel_rfl) (by kernel_rfl) (by kernel_rfl) (by kernel_rfl)
 have h8 := @run_callFunc_extern Tryd.prog 31 _ (ReflectliteValue.method (ReflectliteValue.valueError "reflectlite.Value.IsNil" 0) ReflectliteValue.isNil) Tryd.func31 (by kernel_rfl) (by kernel_rfl) (by kernel_rfl) (by kernel_rfl)
 have h27 := @run_callFunc_extern Tryd.prog 62 _ (ReflectliteType.abiMethod fun t => do pure (.int .u8 (← Rtype.kind t))) Tryd.func62 (by kernel_rfl) (by kernel_rfl) (by kernel_rfl) (by kernel_rfl)
 have h37 := @run_callFunc_extern Tryd.prog 72 _ (ReflectliteType.method ReflectliteType.elem) Tryd.func72 (by kernel_rfl) (by kernel_rfl) (by kernel_rfl) (by kernel_rfl)
 have h38 := @run_callFunc_extern Tryd.prog 73 _ (ReflectliteType.relation "Implements" ReflectliteType.implements_) Tryd.func73 (by kernel_rfl) (by kernel_rfl) (by kernel_rfl) (by kernel_rfl)
 have h10 := @run_callFunc_extern Tryd.prog 27 _ ReflectliteType.typeOf Tryd.func27 (by kernel_rfl) (by kernel_rfl) (by kernel_rfl) (by kernel_rfl)
 have h35 := @run_callFunc_extern Tryd.prog 70 _ (ReflectliteType.relation "AssignableTo" ReflectliteType.assignableTo) Tryd.func70 (by kernel_rfl) (by kernel_rfl) (by kernel_rfl) (by kernel_rfl)
 have h11 := @run_callFunc_extern Tryd.prog 41 _ (ReflectliteValue.method (ReflectliteValue.valueError "reflectlite.Value.Elem" 0) ReflectliteValue.elem) Tryd.func41 (by kernel_rfl) (by kernel_rfl) (by kernel_rfl) (by kernel_rfl)
 have h12 := @run_callFunc_extern Tryd.prog 42 _ ReflectliteValue.set Tryd.func42 (by kernel_rfl) (by kernel_rfl) (by kernel_rfl) (by kernel_rfl)
 have tO := as_typeOf
 have mA := as_mAss
 have a25 := as_assign
 have v25 := as_v2
 have f6 := as_v1
 have f7 := as_type
 have mK := as_mKind
 have mE := as_mElem
 have mI := as_mImpl
 have k27 := as_kP
 have k25 := as_kE
 have e27 := as_elemT
 have i25 := as_impl
 have n8 := as_isNil ⟨w.heap.size, 0, none⟩ t ((w.alloc (.cells #[.pointer (some t)] 50)).alloc (.cells #[.pointer (some ⟨1, 50, none⟩), .pointer (some ⟨w.heap.size, 0, none⟩), .int .u64 150] 64)) (by simp)
 have hlt : 0 < w.heap.size := by
  rcases Nat.lt_or_ge 0 w.heap.size with h | h
  ·exact h
  ·simp [World.cell?, Array.getElem?_eq_none h] at hg
 have hg2 : ((w.alloc (.cells #[.pointer (some t)] 50)).alloc (.cells #[.pointer (some ⟨1, 50, none⟩), .pointer (some ⟨w.heap.size, 0, none⟩), .int .u64 150] 64)).cell? ⟨0, 0, none⟩ = some hndErr := by
  rw [World.cell?_alloc_lt _ _ ⟨0, 0, none⟩ (by simp <;> omega), World.cell?_alloc_lt _ _ ⟨0, 0, none⟩ hlt]; exact hg
 have htl : t.block < w.heap.size := by
  rcases Nat.lt_or_ge t.block w.heap.size with h | h
  ·exact h
  ·simp [World.cell?, Array.getElem?_eq_none h] at ht0
 have el := as_elemV ⟨w.heap.size, 0, none⟩ t (((w.alloc (.cells #[.pointer (some t)] 50)).alloc (.cells #[.pointer (some ⟨1, 50, none⟩), .pointer (some ⟨w.heap.size, 0, none⟩), .int .u64 150] 64)).alloc (.cells #[.pointer (some ⟨1, 50, none⟩), .pointer (some ⟨w.heap.size, 0, none⟩), .int .u64 150] 64)) (by rw [World.cell?_alloc_lt _ _ ⟨w.heap.size, 0, none⟩ (by simp; omega)]; simp)
 have st := as_set t ⟨w.heap.size + 1 + 1 + 1, 0, none⟩ k old (asW t k w)
  (by rw [World.cell?_alloc_at _ _ _ _ (by simp)]; rfl)
  (by rw [World.cell?_alloc_lt _ _ t (by simp; omega), World.cell?_alloc_lt _ _ t (by simp; omega), World.cell?_alloc_lt _ _ t (by simp; omega), World.cell?_alloc_lt _ _ t htl]; exact ht0)
  (by rw [World.frozen?_alloc_old _ _ t (by simp; omega), World.frozen?_alloc_old _ _ t (by simp; omega), World.frozen?_alloc_old _ _ t (by simp; omega), World.frozen?_alloc_old _ _ t (Nat.ne_of_lt htl)]; exact hf0)
 go_enter Tryd.func22, Tryd.ntmps22
 go_wp2
 refine wp_loop_rounds 1 ?_
 rw [rounds_succ]
 go_wp2
 go_ret
 exact ⟨rfl, rfl⟩
end Go.Proofs.YtplclefbiimnbaaDoor
namespace Go.MV
open Go Go.RowKit Go.ChangeShapes Go.WideShapes Go.Deep
section
def g0 (W : World) : Gh := { B := W.heap.size, w0 := W, st := fun b => match W.heap[b]? with | some (.cells c _ _) => c.size | _ => 0, bk := fun _ => none, lg := fun _ _ => none }
theorem rel0 (W : World) : Rel (g0 W) [] W := by
 refine ⟨.refl _ _, Nat.le_refl _, fun b hb => ?_, fun _ _ => rfl, fun _ _ _ => rfl, fun _ => none, ⟨fun id o h => (by simp at h), fun i j b h => (by cases h), fun id b h => (by cases h)⟩⟩
 show (match W.heap[b]? with | some (.cells c _ _) => c.size | _ => 0) = 0
 rw [Array.getElem?_eq_none hb]
theorem stab0 {W : World} {ad : Addr} {k : Nat} {v : Value} (h : W.cell? (ad.add k) = some v) (h1 : v.oneCell' = true) : Stab (g0 W) W ad k v := by
 refine ⟨?_, h, h1⟩
 have e := cell_spot h
 rw [e] at h
 show _ < (match W.heap[(ad.add k).block]? with | some (.cells c _ _) => c.size | _ => 0)
 unfold World.cell? at h
 split at h
 ·rename_i c t f hc
  simp only [Option.isSome_none, Bool.false_eq_true, if_false] at h
  simp only at hc
  rw [hc]
  exact (Array.getElem?_eq_some_iff.1 h).1
 ·cases h
def TyFs (T : TypeId → List MV → Prop) : List Field → List MV → Prop
 | [], l => l = []
 | f :: fs, l => ∃ a b, l = a ++ b ∧ T f.type a ∧ TyFs T fs b
def ElF (P : Program) (e : TypeId) (x : MV) : Prop := match P.underlying e with | some (.struct _) => x = .agg x.cells | _ => [x] = x.cells
def TyM (P : Program) : Nat → TypeId → List MV → Prop
 | 0, _, _ => False
 | n + 1, t, l =>
  match P.underlying t with
  | some (.int k) => ∃ v, l = [.int k v] ∧ (Lit.int k v).wf = true
  | some .bool => ∃ b, l = [.bool b]
  | some .string => ∃ s, l = [.str s] ∧ s.size ≤ maxLen
  | some (.slice e) => ∃ xs, l = [.lst none (P.cellsOf e) xs] ∧ ∀ x ∈ xs, x.cells.length = P.cellsOf e ∧ TyM P n e x.cells ∧ ElF P e x
  | some (.struct fs) => TyFs (TyM P n) fs.toList l
  | _ => False
def contig (P : Program) (size : Nat) : List Field → Nat → Bool
 | [], off => Nat.beq off size
 | f :: fs, off => Nat.beq f.offset off && contig P size fs (off + P.cellsOf f.type)
def okTypes (P : Program) (ts : List TypeId) : Bool :=
 ts.all fun t => match P.underlying t with
  | some (.int _) | some .bool | some .string => true
  | some (.slice e) => natMem e ts && (match P.underlying e with | some (.struct _) => true | _ => Nat.beq (P.cellsOf e) 1)
  | some (.struct fs) => fs.toList.all (fun f => natMem f.type ts) && contig P (P.cellsOf t) fs.toList 0
  | _ => false
mutual
def szM : MV → Nat
 | .str s => s.data.toList.length + 1
 | .lst _ _ xs => szMs xs + 1
 | .agg l => szMs l + 1
 | _ => 1
def szMs : List MV → Nat
 | [] => 0
 | x :: r => szM x + szMs r
end
theorem szMs_append : ∀ a b : List MV, szMs (a ++ b) = szMs a + szMs b
 | [], b => by simp [szMs]
 | x :: a, b => by rw [List.cons_append, szMs, szMs, szMs_append a b]; omega
theorem rds_of_fields {P : Program} {W : World} {T : TypeId → List MV → Prop} {cs : List Value} {size : Nat} (hlen : cs.length = size) : ∀ (fs : List Field) (off : Nat) (zs : List Nat), contig P size fs off = true →
  (∀ (i : Nat) (f : Field), fs[i]? = some f → ∃ l, Rds (g0 W) W l ((cs.drop f.offset).take (P.cellsOf f.type)) ∧ T f.type l ∧ l.length = P.cellsOf f.type ∧ (∀ y ∈ l, y.one = true) ∧ szMs l ≤ zs.getD i 0) → ∃ l, Rds (g0 W) W l (cs.drop off) ∧ TyFs T fs l ∧ (∀ y ∈ l, y.one = true) ∧ szMs l ≤ zs.sum
 | [], off, zs, hc, _ => by
  have := Nat.eq_of_beq_eq_true hc
  refine ⟨[], ?_, rfl, (fun y hy => by cases hy), by simp [szMs]⟩
  rw [List.drop_eq_nil_of_le (by omega)]
  exact .nil _ _
 | f :: fs, off, zs, hc, h => by
  simp only [contig, Bool.and_eq_true] at hc
  have ho := Nat.eq_of_beq_eq_true hc.1
  obtain ⟨a, h1, h2, h3, h5, h6⟩ := h 0 f rfl
  obtain ⟨b, k1, k2, k3, k4⟩ := rds_of_fields hlen fs _ zs.tail hc.2 (fun i f' hf' => by
   obtain ⟨l, g1, g2, g3, g4, g5⟩ := h (i + 1) f' (by simpa using hf')
   exact ⟨l, g1, g2, g3, g4, by cases zs <;> simpa using g5⟩)
  refine ⟨a ++ b, ?_, ⟨a, b, rfl, h2, k2⟩, fun y hy => (zV0.1 hy).elim (h5 y) (k3 y), ?_⟩
  ·have e : cs.drop off = (cs.drop off).take (P.cellsOf f.type) ++ cs.drop (off + P.cellsOf f.type) := by
    rw [← List.drop_drop, List.take_append_drop]
   rw [e]
   rw [ho] at h1
   exact h1.append k1
  ·rw [szMs_append]
   cases zs with
   | nil =>
    have h6 : szMs a ≤ 0 := by simpa using h6
    have k4 : szMs b ≤ 0 := by simpa using k4
    simp
    omega
   | cons z zs =>
    have h6 : szMs a ≤ z := by simpa using h6
    have k4 : szMs b ≤ zs.sum := by simpa using k4
    rw [List.sum_cons]
    omega
theorem tyFs_mono {T T' : TypeId → List MV → Prop} (h : ∀ t l, T t l → T' t l) : ∀ (fs : List Field) (l : List MV), TyFs T fs l → TyFs T' fs l
 | [], l, hl => hl
 | f :: fs, l, ⟨a, b, e, h1, h2⟩ => ⟨a, b, e, h _ _ h1, tyFs_mono h fs b h2⟩
theorem tyM_succ {P : Program} : ∀ (n : Nat) (t : TypeId) (l : List MV), TyM P n t l → TyM P (n + 1) t l
 | 0, t, l, h => h.elim
 | n + 1, t, l, h => by
  unfold TyM at h ⊢
  split at h
  ·rename_i k hu; exact h
  ·rename_i hu; exact h
  ·rename_i hu; exact h
  ·rename_i e hu
   obtain ⟨xs, h1, h2⟩ := h
   exact ⟨xs, h1, fun x hx => ⟨(h2 x hx).1, tyM_succ n _ _ (h2 x hx).2.1, (h2 x hx).2.2⟩⟩
  ·rename_i fs hu; exact tyFs_mono (tyM_succ n) _ _ h
  ·exact h.elim
theorem tyM_le {P : Program} {n m : Nat} (h : n ≤ m) {t : TypeId} {l : List MV} (ht : TyM P n t l) : TyM P m t l := by
 obtain ⟨d, rfl⟩ := Nat.le.dest h
 induction d with
 | zero => exact ht
 | succ d ih => exact tyM_succ _ _ _ (ih (by omega))
section
variable {H : Type} {enc : TypeId × Value → H} {P : Program} {W : World} {base : Nat} {spare : Nat → Bool} {held : Bool}
theorem common_bound {α : Type} {p : Nat → α → Prop} (hm : ∀ n m a, n ≤ m → p n a → p m a) : ∀ (l : List α), (∀ a ∈ l, ∃ n, p n a) → ∃ n, ∀ a ∈ l, p n a
 | [], _ => ⟨0, fun a h => by cases h⟩
 | a :: l, h => by
  obtain ⟨n, hn⟩ := h a (zP ..)
  obtain ⟨m, hm'⟩ := common_bound hm l (fun b hb => h b (zR _ hb))
  refine ⟨max n m, fun b hb => ?_⟩
  rcases List.mem_cons.1 hb with rfl | hb
  ·exact hm _ _ _ (by omega) hn
  ·exact hm _ _ _ (by omega) (hm' b hb)
mutual
def dBulk : DataW H → Nat
 | .lit (.string b) => b.length + 1
 | .slice es _ => dBulkAll es + 1
 | .agg ps => dBulkAll ps + 1
 | _ => 1
def dBulkAll : List (DataW H) → Nat
 | [] => 0
 | d :: r => dBulk d + dBulkAll r
end
theorem dBulkAll_eq : ∀ l : List (DataW H), dBulkAll l = (l.map dBulk).sum
 | [] => rfl
 | d :: r => by rw [dBulkAll, dBulkAll_eq r]; rfl
theorem reads_gen {ts : List TypeId} (hok : okTypes P ts = true) : ∀ (n : Nat) (x : DataW H × List MemPlace) (fuel : Nat) (t : TypeId) (cs : List Value), SizeOf.sizeOf x.1 ≤ n → t ∈ ts → DataW.trod enc P W base spare held fuel t cs = some x →
  ∃ (l : List MV) (m : Nat), Rds (g0 W) W l cs ∧ TyM P m t l ∧ (∀ y ∈ l, y.one = true) ∧ szMs l + (match P.underlying t with | some (.struct _) => 1 | _ => 0) ≤ dBulk x.1 := by
 intro n
 induction n using Nat.strongRecOn with
 | _ n ih =>
 intro x fuel t cs hx ht h
 have hot : (match P.underlying t with
  | some (.int _) | some .bool | some .string => true
  | some (.slice e) => natMem e ts && (match P.underlying e with | some (.struct _) => true | _ => Nat.beq (P.cellsOf e) 1)
  | some (.struct fs) => fs.toList.all (fun f => natMem f.type ts) && contig P (P.cellsOf t) fs.toList 0
  | _ => false) = true := by
  simp only [okTypes, List.all_eq_true] at hok
  exact hok t ht
 split at hot
 ·rename_i k hu
  obtain ⟨v, rfl, rfl, hwf⟩ := DataW.trod_int hu h
  refine ⟨[.int k v], 1, .cons (.int _ _) (.nil _ _), ?_, by simp [MV.one], by rw [hu]; simp [szMs, szM, dBulk]⟩
  unfold TyM
  rw [hu]
  exact ⟨v, rfl, hwf⟩
 ·rename_i hu
  obtain ⟨b, rfl, rfl⟩ := DataW.trod_bool hu h
  refine ⟨[.bool b], 1, .cons (.bool _) (.nil _ _), ?_, by simp [MV.one], by rw [hu]; simp [szMs, szM, dBulk]⟩
  unfold TyM
  rw [hu]
  exact ⟨b, rfl⟩
 ·rename_i hu
  obtain ⟨s, rfl, rfl, hs⟩ := DataW.trod_string hu h
  refine ⟨[.str s], 1, .cons (.str _) (.nil _ _), ?_, by simp [MV.one], by rw [hu]; simp [szMs, szM, dBulk]⟩
  unfold TyM
  rw [hu]
  exact ⟨s, rfl, hs⟩
 ·rename_i e hu
  simp only [Bool.and_eq_true] at hot
  have he : e ∈ ts := natMem_iff.1 hot.1
  rcases open_slice hu h with ⟨rfl, rfl⟩ | ⟨a, len, cap, m, n', D, Pl, rfl, hb, hl, hm, hmm, rfl, hi⟩
  ·refine ⟨[.lst none (P.cellsOf e) []], 1, .cons (Sub.nil _ _ _ _ .lst0) (.nil _ _), ?_, by simp [MV.one], by rw [hu]; simp [szMs, szM, dBulk]⟩
   unfold TyM
   rw [hu]
   exact ⟨[], rfl, fun x hx => by cases hx⟩
  ·have hlm : len ≤ m := by rw [hmm]; split <;> omega
   have hel : ∀ i, i < len → ∃ (l : List MV) (k : Nat) (us : List Value), us.length = P.cellsOf e ∧ Rds (g0 W) W l us ∧ TyM P k e l ∧ ((∀ y ∈ l, y.one = true) ∧ szMs l + (match P.underlying e with | some (.struct _) => 1 | _ => 0) ≤ dBulk (D i)) ∧ ∀ j, j < P.cellsOf e → W.cell? ((a.add (i * P.cellsOf e)).add j) = us[j]? := by
    intro i hil
    obtain ⟨cs', hc, ht'⟩ := hi i (by omega)
    obtain ⟨_, hlen, hcell⟩ := World.cells?_some hc
    have hsz : SizeOf.sizeOf (D i) < n := by
     have hmem : D i ∈ (List.range len).map D := List.mem_map.2 ⟨i, List.mem_range.2 hil, rfl⟩
     have := List.sizeOf_lt_of_mem hmem
     simp only [DataW.slice.sizeOf_spec] at hx
     omega
    obtain ⟨l, k, h1, h2, h3⟩ := ih _ hsz (D i, Pl i) n' e cs' (Nat.le_refl _) he ht'
    exact ⟨l, k, cs', hlen, h1, h2, h3, hcell⟩
   have hall : ∀ (N : Nat), N ≤ len → ∃ (xs : List MV) (us : List Value) (k : Nat), xs.length = N ∧ us.length = N * P.cellsOf e ∧ Rds (g0 W) W (flat xs) us ∧ (∀ y ∈ flat xs, y.one = true) ∧ (∀ x ∈ xs, x.cells.length = P.cellsOf e ∧ TyM P k e x.cells ∧ ElF P e x) ∧
     (∀ j, j < N * P.cellsOf e → W.cell? (a.add j) = us[j]?) ∧ szMs xs ≤ (((List.range N).map D).map dBulk).sum := by
    intro N
    induction N with
    | zero => exact fun _ => ⟨[], [], 0, rfl, by simp, .nil _ _, by simp [flat], by simp, by simp, by simp [szMs]⟩
    | succ N ihN =>
     intro hN
     obtain ⟨xs, us, k, q1, q2, q3, q4, q5, q6, q7⟩ := ihN (by omega)
     obtain ⟨l, k', us', r1, r2, r3, ⟨r4, r6⟩, r5⟩ := hel N (by omega)
     have hll : l.length = P.cellsOf e := by rw [← r2.1, r1]
     obtain ⟨y, hy1, hy2, hy3⟩ : ∃ y : MV, y.cells = l ∧ ElF P e y ∧ szM y ≤ dBulk (D N) := by
      cases hue : P.underlying e with
      | none => 
       have hk1 : P.cellsOf e = 1 := by have := hot.2; rw [hue] at this; exact Nat.eq_of_beq_eq_true this
       match l, hll.trans hk1 with
       | [y], _ =>
        have := r4 y (zP ..)
        simp only [ElF, hue]
        rw [hue] at r6
        have r7 : szM y ≤ dBulk (D N) := by simpa [szMs] using r6
        refine ⟨y, ?_, ?_, r7⟩ <;> (cases y <;> first | rfl | (cases this; done))
      | some d =>
       cases d with
       | struct fs =>
        rw [hue] at r6
        exact ⟨.agg l, rfl, by simp only [ElF, hue]; rfl, r6⟩
       | _ =>
        have hk1 : P.cellsOf e = 1 := by have := hot.2; rw [hue] at this; exact Nat.eq_of_beq_eq_true this
        match l, hll.trans hk1 with
        | [y], _ =>
         have := r4 y (zP ..)
         simp only [ElF, hue]
         rw [hue] at r6
         have r7 : szM y ≤ dBulk (D N) := by simpa [szMs] using r6
         refine ⟨y, ?_, ?_, r7⟩ <;> (cases y <;> first | rfl | (cases this; done))
     refine ⟨xs ++ [y], us ++ us', max k k', by simp [q1], by rw [zG, q2, r1, Nat.add_mul]; omega, ?_, ?_, ?_, ?_, by rw [szMs_append, List.range_succ, List.map_append, List.map_append, List.sum_append, show ((([N] : List Nat).map D).map dBulk).sum = dBulk (D N) by simp, show szMs [y] = szM y by simp [szMs]]; omega⟩
     ·rw [flat_append]
      refine q3.append ?_
      simp only [flat, List.flatMap_cons, List.flatMap_nil, List.append_nil, hy1]
      exact r2
     ·intro z hz
      rw [flat_append, zV0] at hz
      rcases hz with hz | hz
      ·exact q4 z hz
      ·simp only [flat, List.flatMap_cons, List.flatMap_nil, List.append_nil, hy1] at hz
       exact r4 z hz
     ·intro x hx
      rcases zV0.1 hx with hx | hx
      ·exact ⟨(q5 x hx).1, tyM_le (by omega) (q5 x hx).2.1, (q5 x hx).2.2⟩
      ·simp at hx
       subst hx
       rw [hy1]
       exact ⟨hll, tyM_le (by omega) r3, hy2⟩
     ·intro j hj
      rw [Nat.add_mul, Nat.one_mul] at hj
      by_cases hjl : j < N * P.cellsOf e
      ·rw [List.getElem?_append_left (by omega)]
       exact q6 j hjl
      ·rw [List.getElem?_append_right (by omega), q2, ← r5 (j - N * P.cellsOf e) (by omega), Go.MV.add_add]
       congr 2
       omega
   obtain ⟨xs, us, k, q1, q2, q3, q4, q5, q6, q7⟩ := hall len (Nat.le_refl _)
   refine ⟨[.lst none (P.cellsOf e) xs], k + 1, .cons (.lst' q1 hl hm (fun x hx => (q5 x hx).1) q3 (fun j u hu => ⟨a, rfl, stab0 ?_ ?_⟩) (fun t ht => by cases ht)) (.nil _ _), ?_, by simp [MV.one], by rw [hu]; simp only [szMs, szM, dBulk, dBulkAll_eq]; omega⟩
   ·have hj : j < us.length := (zC.1 hu).1
    rw [q6 j (by omega)]
    exact hu
   ·have hj : j < us.length := (zC.1 hu).1
    have hjf : j < (flat xs).length := by rw [← q3.1]; exact hj
    exact one_cell (q3.2 j _ u (zF hjf) hu) (q4 _ (List.getElem_mem hjf))
   ·unfold TyM
    rw [hu]
    exact ⟨xs, rfl, q5⟩
 ·rename_i fs hu
  simp only [Bool.and_eq_true, List.all_eq_true] at hot
  obtain ⟨xs, n', rfl, rfl, hlen, hxl, hf⟩ := DataW.trod_struct hu h
  have hfld : ∀ (i : Nat) (f : Field), fs.toList[i]? = some f → ∃ (k : Nat) (l : List MV), Rds (g0 W) W l ((cs.drop f.offset).take (P.cellsOf f.type)) ∧ TyM P k f.type l ∧ (∀ y ∈ l, y.one = true) ∧ szMs l ≤ ((xs.map (·.1)).map dBulk).getD i 0 := by
   intro i f hi
   have hfm := zI hi
   have hi' : fs[i]? = some f := by simpa using hi
   have hilt : i < xs.length := by rw [hxl]; exact (Array.getElem?_eq_some_iff.1 hi').1
   have htr := hf i f hi'
   rw [zF hilt] at htr
   have hsz : SizeOf.sizeOf xs[i].1 < n := by
    have hmem : xs[i].1 ∈ xs.map (·.1) := List.mem_map.2 ⟨xs[i], List.getElem_mem hilt, rfl⟩
    have := List.sizeOf_lt_of_mem hmem
    simp only [DataW.agg.sizeOf_spec] at hx
    omega
   obtain ⟨l, k, h1, h2, h3⟩ := ih _ hsz xs[i] n' f.type _ (Nat.le_refl _) (natMem_iff.1 (hot.1 f hfm)) htr
   refine ⟨k, l, h1, h2, h3.1, ?_⟩
   have : ((xs.map (·.1)).map dBulk).getD i 0 = dBulk xs[i].1 := by simp [hilt]
   rw [this]
   have := h3.2
   omega
  obtain ⟨K, hK⟩ := common_bound (p := fun k (q : Nat × Field) => ∃ l : List MV, Rds (g0 W) W l ((cs.drop q.2.offset).take (P.cellsOf q.2.type)) ∧ TyM P k q.2.type l ∧ (∀ y ∈ l, y.one = true) ∧ szMs l ≤ ((xs.map (·.1)).map dBulk).getD q.1 0) (fun a b f hab ⟨l, h1, h2, h3⟩ => ⟨l, h1, tyM_le hab h2, h3⟩) (fs.toList.zipIdx.map fun p => (p.2, p.1)) (fun q hq => by
   obtain ⟨p, hp, rfl⟩ := List.mem_map.1 hq
   exact hfld p.2 p.1 (List.mem_zipIdx_iff_getElem?.1 hp))
  replace hK : ∀ (i : Nat) (f : Field), fs.toList[i]? = some f → ∃ l : List MV, Rds (g0 W) W l ((cs.drop f.offset).take (P.cellsOf f.type)) ∧ TyM P K f.type l ∧ (∀ y ∈ l, y.one = true) ∧ szMs l ≤ ((xs.map (·.1)).map dBulk).getD i 0 := fun i f hi => hK (i, f) (List.mem_map.2 ⟨(f, i), List.mem_zipIdx_iff_getElem?.2 hi, rfl⟩)
  have hcont := hot.2
  have hlens : ∀ (gs : List Field) (off : Nat), contig P (P.cellsOf t) gs off = true → off ≤ P.cellsOf t ∧ ∀ f ∈ gs, f.offset + P.cellsOf f.type ≤ P.cellsOf t := by
   intro gs
   induction gs with
   | nil => exact fun off hc => ⟨Nat.le_of_eq (Nat.eq_of_beq_eq_true hc), fun f hf => by cases hf⟩
   | cons f gs ihg =>
    intro off hc
    simp only [contig, Bool.and_eq_true] at hc
    have ho := Nat.eq_of_beq_eq_true hc.1
    obtain ⟨h1, h2⟩ := ihg _ hc.2
    refine ⟨by omega, fun f' hf' => ?_⟩
    rcases List.mem_cons.1 hf' with rfl | hf'
    ·omega
    ·exact h2 f' hf'
  obtain ⟨l, h1, h2, h3⟩ := rds_of_fields (P := P) (W := W) (T := TyM P K) hlen fs.toList 0 ((xs.map (·.1)).map dBulk) hcont (fun i f hi => by
   obtain ⟨l, h1, h2, h3⟩ := hK i f hi
   refine ⟨l, h1, h2, ?_, h3⟩
   have := (hlens _ _ hcont).2 f (zI hi)
   rw [← h1.1, List.length_take, List.length_drop, hlen]
   omega)
  refine ⟨l, K + 1, by simpa using h1, ?_, h3.1, by rw [hu]; simp only [dBulk, dBulkAll_eq]; have := h3.2; omega⟩
  unfold TyM
  rw [hu]
  exact h2
 ·cases hot
end
section
variable {H : Type} {enc : TypeId × Value → H} {P : Program} {W : World} {base b0 : Nat} {spare : Nat → Bool} {held : Bool} {r : Reach}
theorem arg_one {ts : List TypeId} (hok : okTypes P ts = true) {t : TypeId} (ht : t ∈ ts) {v : Value} {d : DataW H} {p : List MemPlace} (hv : v.cells = #[v]) (h : DataW.Trod enc P W base spare held t v d p) :
  ∃ (l : List MV) (m : Nat), Rds (g0 W) W l [v] ∧ TyM P m t l := by
 obtain ⟨fuel, hf⟩ := h
 rw [hv] at hf
 obtain ⟨l, m, h1, h2, _⟩ := reads_gen hok _ _ _ _ _ (Nat.le_refl _) ht hf
 exact ⟨l, m, h1, h2⟩
end
end
end Go.MV
namespace Go.Proofs.YtplclefbiimnbaaDoor
open Go Go.MV Go.RowKit
def fixE : MObj := .fixed ⟨0, 0, none⟩ hndErr
theorem errAs_spec (k old : Int) (i id : Nat) (S : MS) (hi : S[i]? = some fixE) (hid : S[id]? = some (.cells [.int .i64 old])) :
  MCalls Tryd.prog 22 [.iface 46 (.int .i64 k), .iface 50 (.ref id 0)] S fun v σ' => v = .bool true ∧ σ' = S.set id (.cells [.int .i64 k]) := by
 intro g w vs hrel hrd
 obtain ⟨u, us, rfl, h1, h2⟩ := hrd.uncons
 obtain ⟨u2, us2, rfl, h3, h4⟩ := h2.uncons
 obtain ⟨a, rfl, ha⟩ := h1.inv_iface
 obtain ⟨b, rfl, hb⟩ := h3.inv_iface
 have e1 := ha.inv_int
 obtain ⟨blk, hbk, e2⟩ := hb.inv_ref
 have e3 : us2 = [] := List.eq_nil_of_length_eq_zero h4.1
 subst e1 e2 e3
 obtain ⟨own, hown⟩ := hrel.ex
 obtain ⟨_, hst⟩ := hown.obj _ _ hi
 have hg : w.cell? ⟨0, 0, none⟩ = some hndErr := hst.2.1
 obtain ⟨b', us', ty, f1, f2, f3, ⟨fr, f4, f5⟩, f6⟩ := hown.obj _ _ hid
 rw [hbk] at f2
 injection f2 with f2
 subst f2
 obtain ⟨v0, us3, rfl, q1, q2⟩ := f6.uncons
 have e4 : us3 = [] := List.eq_nil_of_length_eq_zero q2.1
 have e5 := q1.inv_int
 subst e4 e5
 have hlt : blk < w.heap.size := (hown.lt _ _ f1).2.2
 have hc : w.cell? ⟨blk, 0, none⟩ = some (.int .i64 old) := by simp [World.cell?, f4]
 have hf : w.frozen? ⟨blk, 0, none⟩ = false := by
  rcases f5 with rfl | hfr
  ·simp [World.frozen?, f4]
  ·simp at hfr
   simp [World.frozen?, f4]
   omega
 refine (callsIn_wide.2 (as_hit k ⟨blk, 0, none⟩ _ w hg hc hf)).mono ?_
 rintro e w' ⟨rfl, rfl⟩
 have r1 := hrel.alloc_stab (.cells #[.pointer (some ⟨blk, 0, none⟩)] 50) 0
 have l1 := Le.alloc_stab hrel (.cells #[.pointer (some ⟨blk, 0, none⟩)] 50) 0
 have r2 := r1.alloc_stab (.cells #[.pointer (some ⟨1, 50, none⟩), .pointer (some ⟨w.heap.size, 0, none⟩), .int .u64 150] 64) 0
 have l2 := Le.alloc_stab r1 (.cells #[.pointer (some ⟨1, 50, none⟩), .pointer (some ⟨w.heap.size, 0, none⟩), .int .u64 150] 64) 0
 have r3 := r2.alloc_stab (.cells #[.pointer (some ⟨1, 50, none⟩), .pointer (some ⟨w.heap.size, 0, none⟩), .int .u64 150] 64) 0
 have l3 := Le.alloc_stab r2 (.cells #[.pointer (some ⟨1, 50, none⟩), .pointer (some ⟨w.heap.size, 0, none⟩), .int .u64 150] 64) 0
 have r4 := r3.alloc_stab (.cells #[.int .i64 k] 46) 0
 have l4 := Le.alloc_stab r3 (.cells #[.int .i64 k] 46) 0
 have hb4 : (asW ⟨blk, 0, none⟩ k w).heap[blk]? = some (.cells [Value.int .i64 old].toArray ty fr) := by
  rw [Below.heap_alloc _ _ _ (by simp; omega), Below.heap_alloc _ _ _ (by simp; omega), Below.heap_alloc _ _ _ (by simp; omega), Below.heap_alloc _ _ _ hlt]
  exact f4
 obtain ⟨hrel5, hl5⟩ := r4.store (cs := [.int .i64 k]) (us := [.int .i64 k]) (off := 0) hid (.cons (.int _ _) (.nil _ _)) (by simp) hbk hb4
 have hw : (asW ⟨blk, 0, none⟩ k w).setCell ⟨blk, 0, none⟩ (.int .i64 k) = (asW ⟨blk, 0, none⟩ k w).setRow blk ([Value.int .i64 old].take 0 ++ [Value.int .i64 k] ++ [Value.int .i64 old].drop (0 + 1)).toArray := setCell_eq_setRow _ _ _ _ _ _ _ hb4
 rw [hw]
 exact ⟨_, rfl, .bool true, _, _, ⟨rfl, rfl⟩, hrel5, .bool _, (((l1.trans l2).trans l3).trans l4).trans hl5⟩
theorem errAs_own (n : Int) (S : MS) (hS : S[0]? = some fixE) : MCalls Tryd.prog 22 [.iface 46 (.int .i64 n), .iface 50 (.ref (S.length + 0) 0)] (S ++ [.cells [.int .i64 0]]) fun v σ' => v = .bool true ∧ σ' = S ++ [.cells [.int .i64 n]] := by
 refine (errAs_spec n 0 0 (S.length + 0) _ (get_app hS) (by rw [getElem?_own]; rfl)).mono ?_
 rintro v σ' ⟨rfl, rfl⟩
 exact ⟨rfl, by rw [set_own]; rfl⟩
theorem rel0F (W : World) {ad : Addr} {v : Value} (h : W.cell? (ad.add 0) = some v) (h1 : v.oneCell' = true) : Rel (g0 W) [.fixed ad v] W := by
 refine ⟨.refl _ _, Nat.le_refl _, (rel0 W).fresh, fun _ _ => rfl, fun _ _ _ => rfl, fun _ => none, ⟨fun id o h => ?_, fun i j b h => (by cases h), fun id b h => (by cases h)⟩⟩
 cases id with
 | zero =>
  simp at h
  subst h
  exact ⟨rfl, stab0 (by assumption) h1⟩
 | succ n => simp at h
theorem law_callsF {P : Program} {f : FuncId} {xs : List MV} {W : World} {vs : List Value} {ad : Addr} {u : Value} (hu : W.cell? (ad.add 0) = some u) (h1 : u.oneCell' = true) (h : MCalls P f xs [.fixed ad u] fun v σ' => v = .bool true ∧ σ' = [.fixed ad u]) (hr : Rds (g0 W) W xs vs) : Calls P f vs.toArray W fun e w' => e = .returned (.bool true) ∧ Below W.heap.size W w' := by
 refine (callsIn_wide.1 (h (g0 W) W vs (rel0F W hu h1) hr)).mono ?_
 rintro e w' ⟨v, rfl, x, σ', g', ⟨rfl, rfl⟩, hrel, hrd, hle⟩
 rw [hrd.inv_bool]
 have := hrel.below
 rw [hle.B, hle.w0] at this
 exact ⟨rfl, this⟩
theorem code14_nil (S : MS) : MCalls Tryd.prog 6 [.iface0] S fun v σ' => v = .int .i64 0 ∧ σ' = S := by
 refine zM Tryd.func6 V Tryd.ntmps6 (zB V) ?_
 refine zA <| qR V <| qA V V V <| qN <| zA <| qR V <| qO V <| op_alloc' V zm46 V V <| qN <| zA <| zA <| qR V <| qM V V V <| qO V <| op_if0 V zG1 V V (.inl Vv) <| qN <| zQ0 V (V) <| zA <| qR V <| qA V V V <| qN <| zU ?_
 exact zL0 (.inr V) Tryd.results6 V (.refl _) (.int _ _) Vv
theorem code14_err (n : Int) (S : MS) (hS : S[0]? = some fixE) : MCalls Tryd.prog 6 [.iface 46 (.int .i64 n)] S fun v σ' => v = .int .i64 n ∧ σ' = S := by
 refine zM Tryd.func6 V Tryd.ntmps6 (zB V) ?_
 show mwp _ _ _ _ _ _ _ _
 refine zA <| qR V <| qA V V V <| qN <| zA <| qR V <| qO V <| op_alloc' V zm46 V V <| qN <| zA <| zA <| qR V <| qM V V V <| qO V <| op_ifnil V zG1 V V (.inl Vv) <| qN <| zF0 V (V) <| zZ <| zA <| zA <| qR V <| qM V V V <| qO V <| op_makeInterface V V Tryd.underlying50 (by simp) ?_
 refine qX V V V V co22 (errAs_own n S hS) ?_
 refine qO V <| op_not V V <| qN <| zF0 V (V) <| zZ <| zA <| qR V <| qL V V V V ta46 V <| qA V V V <| qN <| zU ?_
 exact zL0 (.inr V) Tryd.results6 V (.refl _) (.int _ _) Vv
end Go.Proofs.YtplclefbiimnbaaDoor
namespace Go.MV
open Go Go.RowKit
theorem cell_below {w w' : World} (hb : Below w.heap.size w w') {b : Nat} (hlt : b < w.heap.size) (i : Nat) : w'.cell? ⟨b, i, none⟩ = w.cell? ⟨b, i, none⟩ :=
 World.cell?_of_block (w := w) (a := ⟨b, i, none⟩) (hb.block b hlt)
theorem Rel.grown0 {g : Gh} {σ : MS} {w w' : World} (h : Rel g σ w) (hb : Below w.heap.size w w') : Rel g σ w' ∧ Le g w g w' := by
 have hl : Le g w g w' := by
  refine ⟨⟨rfl, rfl, fun c i hi => ⟨hi, cell_below hb (h.st_lt hi) i⟩, fun _ _ h => h, fun _ _ _ h => h, hb.size⟩, fun c x hx => ?_⟩
  have hlt : c < w.heap.size := (Array.getElem?_eq_some_iff.1 hx).1
  exact (hb.block c hlt).trans hx
 refine ⟨⟨h.below.trans ⟨hb.os, hb.tape, hb.output, hb.size, fun i hi => hb.block i (Nat.lt_of_lt_of_le hi h.size)⟩, h.base, fun c hc => h.fresh c (by have := hb.size; omega), h.bkn, h.lgn, ?_⟩, hl⟩
 obtain ⟨own, ho⟩ := h.ex
 exact ⟨own, ho.keep hl (fun id c e => ⟨hb.block c (ho.lt id c e).2.2, rfl⟩) (fun _ _ => rfl)⟩
theorem MCalls.frame {P : Program} {f : FuncId} {b : Bool} (h : MCalls P f [] [] fun v σ' => v = .bool b ∧ σ' = []) (S : MS) : MCalls P f [] S fun v σ' => v = .bool b ∧ σ' = S := by
 intro g w vs hrel hrd
 have e : vs = [] := List.eq_nil_of_length_eq_zero hrd.1
 subst e
 refine (h (g0 w) w [] (rel0 w) (.nil _ _)).mono ?_
 rintro e w' ⟨v, rfl, x, σ', g', ⟨rfl, rfl⟩, hr, hx, hl⟩
 have hb : Below w.heap.size w w' := by
  have := hr.below
  rw [hl.B, hl.w0] at this
  exact this
 obtain ⟨r2, l2⟩ := hrel.grown0 hb
 refine ⟨v, rfl, .bool b, S, g, Vv, r2, ?_, l2⟩
 rw [hx.inv_bool]
 exact .bool _
end Go.MV
