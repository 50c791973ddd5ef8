/-
  Comparing flat structs. No program.
-/
import Derived.Test.YtihpnfpdocnniaaBit
import Derived.Laws.StructEq
set_option linter.unusedVariables false
set_option linter.unusedSimpArgs false
namespace Go.MV
open Go Go.RowKit

/-- Two cells of one scalar kind: are they the same? -/
def eqOne : TypeDesc → MV → MV → Option Bool
  | .int _, .int k a, .int k' b => if k = k' then some (a == b) else none
  | .bool, .bool a, .bool b => some (a == b)
  | .string, .str a, .str b => some (strL a == strL b)
  | _, _, _ => none
def eqFs (P : Program) (l l' : List MV) : List Field → Option Bool
  | [] => some true
  | f :: fs => match P.underlying f.type, l[f.offset]?, l'[f.offset]? with
    | some d, some x, some y => match eqOne d x y, eqFs P l l' fs with
      | some a, some b => some (a && b)
      | _, _ => none
    | _, _, _ => none
def flatStruct (P : Program) (t : TypeId) : Bool := match P.underlying t with
  | some (.struct fs) => !P.stoodInHeld t && !P.eqGuardType P.depth t && fs.toList.all (fun f => f.name != "_" && match P.underlying f.type with | some (.int _) | some .bool | some .string => true | _ => false)
  | _ => false
theorem eqOne_run {P : Program} {g : Gh} {w w' : World} {t : TypeId} {d : TypeDesc} (hu : P.underlying t = some d) {x y : MV} {u v : Value} {r : Bool} (h : eqOne d x y = some r) (hx : Rd g w x u) (hy : Rd g w y v) (n : Nat) : (Op.equalIn (n + 1) t u v).run P w' = .ok r w' := by
  unfold eqOne at h
  split at h
  · rw [hx.inv_int, hy.inv_int]
    split at h
    · rename_i k a k' b hk
      subst hk
      injection h with h
      subst h
      simp [Op.equalIn, run_underlying hu]
    · cases h
  · rw [hx.inv_bool, hy.inv_bool]
    injection h with h
    subst h
    simp [Op.equalIn, run_underlying hu]
  · rw [hx.inv_str, hy.inv_str]
    injection h with h
    subst h
    rw [run_equalIn_string _ _ _ _ _ hu]
    rw [ByteArray.toList_eq, ByteArray.toList_eq]
    rfl
  · cases h
theorem eqFs_run {P : Program} {g : Gh} {w w' : World} {l l' : List MV} {us vs : List Value} (hl : Rds g w l us) (hl' : Rds g w l' vs) (n : Nat) : ∀ {fs : List Field} {r : Bool}, (fs.all fun f => f.name != "_" && match P.underlying f.type with | some (.int _) | some .bool | some .string => true | _ => false) = true → eqFs P l l' fs = some r → (Op.eqFields (n + 1) us.toArray vs.toArray fs).run P w' = .ok r w'
  | [], r, _, h => by
    injection h with h
    subst h
    simp [Op.eqFields]
  | f :: fs, r, hall, h => by
    simp only [List.all_cons, Bool.and_eq_true] at hall
    unfold eqFs at h
    split at h
    · rename_i d x y hu hx hy
      split at h
      · rename_i a b ha hb
        injection h with h
        subst h
        have ih := eqFs_run (w' := w') hl hl' n hall.2 hb
        obtain ⟨u, hu1, hu2⟩ := hl.get hx
        obtain ⟨v, hv1, hv2⟩ := hl'.get hy
        have hagg : (isAgg f.type).run P w' = .ok false w' := by
          have := hall.1.2
          rw [hu] at this
          unfold isAgg
          simp only [Sem.run_bind, run_underlying hu, Result.andThen_ok]
          cases d <;> first | rfl | (cases this; done)
        have hp1 : (part f.type us.toArray f.offset).run P w' = .ok u w' := by
          unfold part
          simp [hagg, hu1]
        have hp2 : (part f.type vs.toArray f.offset).run P w' = .ok v w' := by
          unfold part
          simp [hagg, hv1]
        have hn : f.name ≠ "_" := by simpa using hall.1.1
        have he := eqOne_run (w' := w') hu ha hu2 hv2 n
        simp only [Op.eqFields, if_pos hn, Sem.run_bind, hp1, hp2, he, Result.andThen_ok]
        cases a with
        | true => simpa using ih
        | false => simp
      · cases h
    · cases h
theorem op_eqstruct {P : Program} {rd : Option Nat} {o : Oper} {env : Env} {σ : MS} {K : MV → MS → Prop} {b : BinOp} {r r' : Bool} {t t' : TypeId} {x y : Operand} {l l' : List MV} (ho : o.op = .binOp b t x y t') (hf : flatStruct P t = true) (hx : evo env x = some (.agg l)) (hy : evo env y = some (.agg l'))
    (he : eqFs P l l' (P.fieldsOf t).toList = some r) (hb : b = .eql ∧ r' = r ∨ b = .neq ∧ r' = !r) (h : K (.bool r') σ) : OpWp P rd o env σ K := by
  refine OpWp.of_run (by rcases hb with ⟨rfl, rfl⟩ | ⟨rfl, rfl⟩ <;> simp [ho]) fun g w a hr hop => ?_
  obtain ⟨us, e1, h1⟩ := (hop x (by simp [ho, Op.operands]) _ hx).inv_agg
  obtain ⟨vs, e2, h2⟩ := (hop y (by simp [ho, Op.operands]) _ hy).inv_agg
  refine ⟨.bool r', w, ?_, .same h hr (.bool _)⟩
  unfold flatStruct at hf
  split at hf
  · rename_i fs hu
    simp only [Bool.and_eq_true, Bool.not_eq_true'] at hf
    have hfo : P.fieldsOf t = fs := by simp [Program.fieldsOf, hu]
    rw [hfo] at he
    have hrun := eqFs_run (w' := w) h1 h2 9998 hf.2 he
    have hq : (Op.equalIn 10000 t (.agg us.toArray) (.agg vs.toArray)).run P w = .ok r w := by
      rw [run_equalIn_struct w 9999 t us.toArray vs.toArray (by rw [hfo]; exact hu) hf.1.1, hfo]
      exact hrun
    rcases hb with ⟨rfl, rfl⟩ | ⟨rfl, rfl⟩ <;> (simp only [execOp, ho, e1, e2, Sem.run_bind, Sem.run_pure]; simp [eqGuard, binOp, Op.equal, Op.maxDepth, hq, hf.1.2])
  · cases hf
end Go.MV
