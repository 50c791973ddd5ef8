/-
  Rows of bytes made texts. No program.
-/
import Derived.Test.YtihpnfpdocnniaaFar
import Derived.Laws.BytesString
set_option linter.unusedVariables false
set_option linter.unusedSimpArgs false
namespace Go.MV
open Go Go.RowKit
def encY (b : UInt8) : MV := .int .u8 (b.toNat : Int)
theorem flat_encY (l : Bs) : flat (l.map encY) = l.map encY := by
  induction l with
  | nil => rfl
  | cons b l ih => rw [List.map_cons, flat_cons, ih]; rfl
theorem fold_push : ∀ (l acc : Bs), (l.map fun b => (b.toNat : Int)).foldl (fun r n => r.push (UInt8.ofNat n.toNat)) (bs acc) = bs (acc ++ l)
  | [], acc => by simp
  | b :: l, acc => by
    have e : (bs acc).push (UInt8.ofNat ((b.toNat : Int)).toNat) = bs (acc ++ [b]) := by
      apply ByteArray.ext
      simp [bs, ByteArray.push]
    rw [List.map_cons, List.foldl_cons, e, fold_push l (acc ++ [b]), List.append_assoc]
    rfl
theorem us_bytes {g : Gh} {w : World} : ∀ {l : Bs} {us : List Value}, Rds g w (l.map encY) us → us = (l.map fun b => (b.toNat : Int)).map (Value.int .u8)
  | [], us, h => by
    have := h.1
    simp at this
    simp [this]
  | b :: l, us, h => by
    obtain ⟨u, us', rfl, h1, h2⟩ := Rds.uncons h
    rw [us_bytes h2, h1.inv_int]
    rfl
theorem op_conv_bytes {P : Program} {rd : Option Nat} {o : Oper} {env : Env} {σ : MS} {K : MV → MS → Prop} {t t' e : TypeId} {x : Operand} {tok : Option Nat} {xs : List MV} {l : Bs} (ho : o.op = .convert t t' x) (hs : P.underlying t = some (.slice e)) (he : P.underlying e = some (.int .u8)) (ht : P.underlying t' = some .string)
    (hx : evo env x = some (.lst tok 1 xs)) (hxs : xs = l.map encY) (h : K (.str (bs l)) σ) : OpWp P rd o env σ K := by
  subst hxs
  refine OpWp.of_run (by simp [ho]) fun g w a hr hop => ⟨.string (bs l), w, ?_, .same h hr (.str _)⟩
  obtain ⟨ad, c, us, hv, h1, h2, h3, h4, h5, _⟩ := (hop x (by simp [ho, Op.operands]) _ hx).inv_lst
  rw [flat_encY] at h4
  have hus := us_bytes h4
  simp only [execOp, ho, hv, Sem.run_bind, run_convert_bytes_string w t t' e _ _ _ hs he ht]
  cases ad with
  | none =>
    have hl : l = [] := by
      cases l with
      | nil => rfl
      | cons b l =>
        exfalso
        have hp : 0 < us.length := by rw [h4.1]; simp
        obtain ⟨ad, ha, _⟩ := h5 0 us[0] (List.getElem?_eq_getElem hp)
        cases ha
    subst hl
    rfl
  | some ad =>
    have hrun := run_loadCells_list (P := P) (w := w) ad us (fun j v hv => by
      obtain ⟨ad', ea, hst⟩ := h5 j v hv
      injection ea with ea
      subst ea
      exact hst.2.1)
    have hlen : us.length = (l.map encY).length := h4.1
    rw [hlen, hus] at hrun
    rw [run_bytesToString w ad _ _ _ hrun]
    have := fold_push l []
    rw [List.nil_append] at this
    have e0 : bs [] = ByteArray.empty := rfl
    rw [e0] at this
    rw [this]
    rfl
theorem op_len_bs {P : Program} {rd : Option Nat} {o : Oper} {env : Env} {σ : MS} {K : MV → MS → Prop} {x : Operand} {l : Bs} {t : TypeId} (ho : o.op = .call { callee := .builtin .len, args := #[x], argTypes := #[t] }) (hu : P.underlying t = some .string) (hx : evo env x = some (.str (bs l)))
    (h : K (.int .i64 (l.length : Int)) σ) : OpWp P rd o env σ K := op_len_str ho hu hx (by rw [bs_size]; exact h)
theorem u8_ofNat (n : Nat) : (.int .u8 ((n % 256 : Nat) : Int) : MV) = encY (UInt8.ofNat n) := by
  unfold encY
  congr 1
end Go.MV
