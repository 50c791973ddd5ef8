/-
  More rules: a cell read as less, a nil row in a cell taken for a row of the call's own, rounds of iterators, results in a state that grew. No program.
-/
import Derived.Test.YtihpnfpdocnniaaIter
set_option linter.unusedVariables false
set_option linter.unusedSimpArgs false
namespace Go.MV
open Go Go.RowKit
theorem Rel.recell {g : Gh} {σ : MS} {w : World} (h : Rel g σ w) {id : Nat} {l l' : List MV} (hσ : σ[id]? = some (.cells l)) (hl : ∀ us, Rds g w l us → Rds g w l' us) : Rel g (σ.set id (.cells l')) w := by
  have hlt := (List.getElem?_eq_some_iff.1 hσ).1
  refine ⟨h.below, h.base, h.fresh, fun i hi => h.bkn i (by simpa using hi), fun t n ht => h.lgn t n (by simpa using ht), ?_⟩
  obtain ⟨own, ho⟩ := h.ex
  refine ⟨own, ⟨fun i o hi => ?_, ho.inj, fun i b hi => by have := ho.lt i b hi; exact ⟨by simpa using this.1, this.2⟩⟩⟩
  rw [List.getElem?_set] at hi
  split at hi
  · rename_i e
    subst e
    injection hi with hi
    subst hi
    obtain ⟨b, us, ty, h1, h2, h3, h4, h5⟩ := ho.obj _ _ hσ
    exact ⟨b, us, ty, h1, h2, h3, h4, hl us h5⟩
  · exact ho.obj i o hi
section
variable {P : Program} {rd : Option Nat} {N n : Nat} {c : Code} {Q : Exit → Env → MS → Prop} {env : Env} {S L : MS}
/-- Nil in a cell taken for a row of the call's own. -/
theorem mwp_cellrow {L' : MS} (k ty sz : Nat) {m : Nat} (hk : L[k]? = some (.cells [.lst0])) (hN : N ≤ S.length) (hm : L.length = m) (hL : L.set k (.cells [.lst (some (S.length + m)) sz []]) ++ [.row ty sz 0] = L') (h : mwp P rd N n c Q env (S ++ L')) : mwp P rd N n c Q env (S ++ L) := by
  subst hm hL
  refine mwp_ghost (fun g w tmps hr he => ?_) h
  obtain ⟨r1, l1, d1⟩ := tok_new hr ty sz
  have hlen : (S ++ L).length = S.length + L.length := List.length_append
  refine ⟨_, ?_, he.mono l1, l1.toN N, fun F hF => hF.mono (l1.toN N)⟩
  have hlt := (List.getElem?_eq_some_iff.1 hk).1
  have e : S ++ (L.set k (.cells [.lst (some (S.length + L.length)) sz []]) ++ [.row ty sz 0]) = ((S ++ L) ++ [MObj.row ty sz 0]).set (S.length + k) (.cells [.lst (some (S.length + L.length)) sz []]) := by
    rw [List.append_assoc, set_own, List.set_append_left _ _ hlt]
  rw [e]
  refine r1.recell (l := [.lst0]) (by rw [List.append_assoc, getElem?_own, List.getElem?_append_left hlt]; exact hk) fun us hus => ?_
  obtain ⟨u, us', rfl, h1, h2⟩ := hus.uncons
  refine .cons ?_ ?_
  · rw [h1.inv_lst0, ← hlen]; exact d1
  · cases us' with
    | nil => exact .nil _ _
    | cons _ _ => have := h2.1; simp at this
theorem YStep.at0 {id : Nat} {xs : List MV} {S S' : MS} {b : Bool} (h : YStep P id xs S b S') {o : Oper} {f : Operand} {args : Array Operand} {ts : Array TypeId} (ho : o.op = .call { callee := .value f, args := args, argTypes := ts }) (hf : evo env f = some (.yld id)) (hx : evos env args.toList = some xs) : OpWp P rd o env S (fun v σ' => v = .bool b ∧ σ' = S') := by
  have := h [] rd o env f args ts ho hf hx
  simpa using this
end
section
variable {P : Program} {fn : Func} {S S' L : MS} {R : MV → MS → Prop} {env : Env}
theorem ret_noneT {e : Exit} (he : e = .normal ∨ e = .ret) (hres : fn.results = #[]) (hl : S.length ≤ S'.length) (hS : ClS S') (hR : R (.tup []) S') : BodyQ P fn S R e env S' := by
  have := ret_noneS (P := P) (env := env) (L := []) he hres hl hS hR
  rwa [List.append_nil] at this
theorem ret_tmpT {e : Exit} {t : Nat} {x y : MV} (he : e = .normal ∨ e = .ret) (hres : fn.results = #[.tmp t]) (hx : get env t = some x) (hs : Sub x y) (hc : Cl S'.length y) (hl : S.length ≤ S'.length) (hS : ClS S') (hR : R y S') : BodyQ P fn S R e env S' := by
  have := ret_tmpS (P := P) (env := env) (L := []) he hres hx hs hc hl hS hR
  rwa [List.append_nil] at this
end
section
variable {P : Program} {rd : Option Nat} {o : Oper} {env : Env} {S L L' R : MS} {K : MV → MS → Prop}
theorem get_mid_ {k : Nat} {ob : MObj} (h : L[k]? = some ob) : ((S ++ L) ++ R)[S.length + k]? = some ob := by
  rw [List.append_assoc, getElem?_own]
  exact get_app h
theorem set_mid_ {k : Nat} {ob p : MObj} (h : L[k]? = some ob) : ((S ++ L) ++ R).set (S.length + k) p = (S ++ L.set k p) ++ R := by
  rw [List.append_assoc, set_own, set_app h, List.append_assoc]
theorem op_load_mid {t : TypeId} {x : Operand} {k off : Nat} {l : List MV} {ta : Option Nat} {m : MV} (ho : o.op = .load t x) (hx : evo env x = some (.ref (S.length + k) off)) (hσ : L[k]? = some (.cells l)) (ht : tyAgg P t = some ta) (hm : loadMV ta l off = some m) (h : K m ((S ++ L) ++ R)) : OpWp P rd o env ((S ++ L) ++ R) K :=
  op_load_ref ho hx (get_mid_ hσ) ht hm h
theorem op_store_mid {t : TypeId} {x y : Operand} {i off : Nat} {l : List MV} {m : MV} {k : Nat} (ho : o.op = .store t x y) (hx : evo env x = some (.ref (S.length + i) off)) (hy : evo env y = some m) (hσ : L[i]? = some (.cells l)) (hk : szOf P t = some k) (hm : m.cells.length = k)
    (h1 : m.cells.all MV.one = true) (hle : off + k ≤ l.length) (hL : L.set i (.cells (setMany l off m.cells)) = L') (h : K (.tup []) ((S ++ L') ++ R)) : OpWp P rd o env ((S ++ L) ++ R) K :=
  op_store ho hx hy (get_mid_ hσ) hk hm h1 hle (by rw [set_mid_ hσ, hL]; exact h)
theorem op_append_mid {t e sz bytes k n : Nat} {x y : Operand} {tok : Option Nat} {xs ys : List MV} (ho : o.op = .call { callee := .builtin .append, args := #[x, y], argTypes := #[t, t] }) (hu : P.underlying t = some (.slice e)) (he : elemOk P e sz bytes = true)
    (hx : evo env x = some (.lst (some (S.length + k)) sz xs)) (hy : evo env y = some (.lst tok sz ys)) (hσ : L[k]? = some (.row e sz n)) (hn : xs.length = n) (hb : (n + ys.length) * bytes ≤ 140737488355328) (hml : n + ys.length ≤ 4611686018427387904)
    (hL : L.set k (.row e sz (n + ys.length)) = L') (hK : K (.lst (some (S.length + k)) sz (xs ++ ys)) ((S ++ L') ++ R)) : OpWp P rd o env ((S ++ L) ++ R) K :=
  op_append ho hu he hx hy (get_mid_ hσ) hn hb hml (by rw [set_mid_ hσ, hL]; exact hK)
end
theorem three {p : Prop} [Decidable p] {j m : Nat} (h : j ≤ m) : ¬ p ∨ (p ∧ j < m) ∨ (p ∧ j = m) := by
  by_cases hp : p
  · rcases Nat.lt_or_eq_of_le h with h | h
    · exact .inr (.inl ⟨hp, h⟩)
    · exact .inr (.inr ⟨hp, h⟩)
  · exact .inl hp
theorem strNe {a b : Bs} (h : a ≠ b) : strCmp .neq a b = some true := by simp [strCmp, h]
theorem strNe' {a b : Bs} (h : a = b) : strCmp .neq a b = some false := by simp [strCmp, h]
theorem strEq {a b : Bs} (h : a = b) : strCmp .eql a b = some true := by simp [strCmp, h]
end Go.MV
