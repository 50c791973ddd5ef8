/-
  Ranges over functions: what an iterator is asked, what a round is. No program.
-/
import Derived.Test.YtihpnfpdocnniaaFar
set_option linter.unusedVariables false
set_option linter.unusedSimpArgs false
namespace Go.MV
open Go Go.RowKit
/-- A call of yield with these values answers b and leaves S', whatever the iterator's own objects are. -/
def YStep (P : Program) (id : Nat) (xs : List MV) (S : MS) (b : Bool) (S' : MS) : Prop :=
  ∀ (L : MS) (rd : Option Nat) (o : Oper) (env : Env) (f : Operand) (args : Array Operand) (ts : Array TypeId), o.op = .call { callee := .value f, args := args, argTypes := ts } → evo env f = some (.yld id) → evos env args.toList = some xs →
    OpWp P rd o env (S ++ L) (fun v σ' => v = .bool b ∧ σ' = S' ++ L)
/-- An iterator that gives ys: it asks for each while the answer is true. -/
def IterOk (P : Program) (k : FuncId) (first caps : List MV) (ys : List (List MV)) (ok : MS → Prop) : Prop :=
  ∀ (id : Nat) (T : Nat → MS) (m : Nat), (∀ j, ok (T j)) → (∀ j y, j < m → ys[j]? = some y → YStep P id y (T j) true (T (j + 1))) →
    (m = ys.length → MCalls P k (first ++ [.yld id] ++ caps) (T 0) fun _ σ' => σ' = T m) ∧
    (∀ y, ys[m]? = some y → YStep P id y (T m) false (T (m + 1)) → MCalls P k (first ++ [.yld id] ++ caps) (T 0) fun _ σ' => σ' = T (m + 1))

theorem get_mid {A B : MS} {o : MObj} : (A ++ o :: B)[A.length]? = some o := by
  rw [List.getElem?_append_right (Nat.le_refl _), Nat.sub_self]; rfl
theorem set_mid {A B : MS} {o p : MObj} : (A ++ o :: B).set A.length p = A ++ p :: B := by
  rw [List.set_append_right _ _ (Nat.le_refl _), Nat.sub_self]; rfl
section
variable {P : Program} {rd : Option Nat} {N n : Nat} {Q : Exit → Env → MS → Prop} {env : Env} {S : MS}
/-- A range over a function whose body always goes on: L j: the call's own objects behind j rounds. -/
theorem mwp_rangeI {f : Operand} {ps : Array Tmp} {assign body : Code} {k : FuncId} {first caps : List MV} {ys : List (List MV)} {ok : MS → Prop} {L0 : MS} (L : Nat → MS) (hlen : ∀ j, (L j).length = (L 0).length) (hL0 : L0 = L 0) (hf : evo env f = some (.fn (.func k) first caps)) (hb : CallOk P k) (hrd : rd = none) (hN : N ≤ S.length)
    (hit : IterOk P k first caps ys ok) (hok : ∀ j, ok ((S ++ L j) ++ [.loop .ready none ⟨ps, assign, body, env, n⟩])) (hpb : ps.toList.all (fun t => Nat.blt t n) = true) (hps : ∀ y ∈ ys, ps.size = y.length)
    (hround : ∀ j y, ys[j]? = some y → ∀ L' : MS, mwp P (some (S ++ L 0).length) ((S ++ L j).length + 1 + L'.length) n assign (fun e env1 σ1 => e = .normal ∧ σ1 = (S ++ L j) ++ .loop .ready none ⟨ps, assign, body, env, n⟩ :: L' ∧
      mwp P (some (S ++ L 0).length) ((S ++ L j).length + 1 + L'.length) n body (fun e2 env2 σ2 => e2 = .normal ∧ ∃ junk, σ2 = ((S ++ L (j + 1)) ++ .loop .busy none ⟨ps, assign, body, env, n⟩ :: L') ++ junk ∧ (junk = [] ∨ ClS ((S ++ L (j + 1)) ++ .loop .busy none ⟨ps, assign, body, env, n⟩ :: L'))) env1 ((S ++ L j) ++ .loop .busy none ⟨ps, assign, body, env, n⟩ :: L')) (bindPs ps.toList y env) ((S ++ L j) ++ .loop .ready none ⟨ps, assign, body, env, n⟩ :: L'))
    (hend : Q .normal env ((S ++ L ys.length) ++ [.gone])) : mwp P rd N n (.rangeFunc f ps assign body) Q env (S ++ L0) := by
  subst hL0 hrd
  have hid : ∀ j, (S ++ L j).length = (S ++ L 0).length := fun j => by simp [hlen j]
  refine mwp_range hf hb (fun id h => by cases h) (by simp; omega) ?_
  have hys : ∀ j y, j < ys.length → ys[j]? = some y → YStep P (S ++ L 0).length y ((S ++ L j) ++ [.loop .ready none ⟨ps, assign, body, env, n⟩]) true ((S ++ L (j + 1)) ++ [.loop .ready none ⟨ps, assign, body, env, n⟩]) := by
    intro j y hj hy L' rd' o env' f' args ts ho hf' hargs
    have e1 : ((S ++ L j) ++ [.loop .ready none ⟨ps, assign, body, env, n⟩]) ++ L' = (S ++ L j) ++ .loop .ready none ⟨ps, assign, body, env, n⟩ :: L' := by simp
    have e2 : ((S ++ L (j + 1)) ++ [.loop .ready none ⟨ps, assign, body, env, n⟩]) ++ L' = (S ++ L (j + 1)) ++ .loop .ready none ⟨ps, assign, body, env, n⟩ :: L' := by simp
    have hsz : args.size = y.length := by
      have : ∀ (l : List Operand) (ys : List MV), evos env' l = some ys → l.length = ys.length := by
        intro l
        induction l with
        | nil => intro ys h; injection h with h; subst h; rfl
        | cons x l ih =>
          intro ys h
          simp only [evos] at h
          cases hx : evo env' x with
          | none => rw [hx] at h; cases h
          | some m =>
            rw [hx] at h
            cases hl : evos env' l with
            | none => simp only [hl] at h; cases h
            | some ms =>
              simp only [hl] at h
              injection h with h
              subst h
              simp [ih _ hl]
      have := this _ _ hargs
      simpa using this
    rw [e1]
    have hget : ((S ++ L j) ++ MObj.loop .ready none ⟨ps, assign, body, env, n⟩ :: L')[(S ++ L 0).length]? = some (.loop .ready none ⟨ps, assign, body, env, n⟩) := by
      rw [← hid j]; exact get_mid
    have hN' : ((S ++ L j) ++ MObj.loop .ready none ⟨ps, assign, body, env, n⟩ :: L').length = (S ++ L j).length + 1 + L'.length := by
      rw [List.length_append, List.length_cons]; omega
    refine op_yield ho hf' hargs hget (by rw [hsz]; exact hps y (List.mem_of_getElem? hy)) hpb ?_
    rw [hN']
    refine mwp_mono (hround j y hy L') ?_
    rintro e env1 σ1 ⟨rfl, rfl, h⟩
    refine ⟨rfl, none, hget, ?_⟩
    have hset : ((S ++ L j) ++ MObj.loop .ready none ⟨ps, assign, body, env, n⟩ :: L').set (S ++ L 0).length (.loop .busy none ⟨ps, assign, body, env, n⟩) = (S ++ L j) ++ .loop .busy none ⟨ps, assign, body, env, n⟩ :: L' := by
      rw [← hid j]; exact set_mid
    rw [hset]
    refine mwp_mono h ?_
    rintro e2 env2 σ2 ⟨rfl, junk, rfl, hcl⟩
    refine ⟨_, junk, none, ⟨ps, assign, body, env, n⟩, rfl, ?_, hcl, ?_, ?_⟩
    · have h1 := hid (j + 1)
      have h2 := hid j
      simp only [List.length_append, List.length_cons] at *
      omega
    · rw [← hid (j + 1)]; exact get_mid
    · refine ⟨rfl, ?_⟩
      rw [e2, ← hid (j + 1)]
      exact set_mid
  refine ((hit (S ++ L 0).length (fun j => (S ++ L j) ++ [.loop .ready none ⟨ps, assign, body, env, n⟩]) ys.length hok hys).1 rfl).mono ?_
  rintro v σ' rfl
  refine ⟨.ready, none, by rw [← hid ys.length]; exact get_mid, by simp, ?_⟩
  show Q .normal env _
  rw [← hid ys.length, set_mid]
  exact hend
end
end Go.MV
