/-
  Loops whose heads keep some temporaries as they are; nil as a row of the call's own. No program.
-/
import Derived.Test.YtihpnfpdocnniaaEqs
set_option linter.unusedVariables false
set_option linter.unusedSimpArgs false
namespace Go.MV
open Go Go.RowKit
section
variable {P : Program} {rd : Option Nat} {N n : Nat} {Q : Exit → Env → MS → Prop} {env : Env} {S L : MS} {c : Code}
theorem EnvSub.app {env A B : Env} (h : EnvSub env A) (k : EnvSub env B) : EnvSub env (A ++ B) := by
  induction h with
  | nil => exact k
  | cons h1 h2 _ ih => exact .cons h1 h2 ih
theorem EnvTo.app {n : Nat} {env E0 A B : Env} (h : EnvTo n env E0 A) (k : EnvTo n env E0 B) : EnvTo n env E0 (A ++ B) := by
  induction h with
  | nil => exact k
  | old h1 h2 _ ih => exact .old h1 h2 ih
  | new h1 h2 h3 _ ih => exact .new h1 h2 h3 ih
/-- A loop: K keeps, E turns, L are the call's objects. -/
theorem mwp_loopK {α : Type} {L0 : MS} (K : Env) (E : α → Env) (L : α → MS) (I : α → Prop) (m : α → Nat) (x₀ : α) (hK : EnvSub env K) (hE : EnvSub env (E x₀)) (h₀ : I x₀) (hL : L0 = L x₀)
    (round : ∀ x, I x → mwp P rd N n c (ThenM (fun env' σ' => ∃ y, m y < m x ∧ I y ∧ σ' = S ++ L y ∧ EnvSub env' K ∧ EnvSub env' (E y)) Q) (K ++ E x) (S ++ L x)) : mwp P rd N n (.loop c) Q env (S ++ L0) := by
  refine mwp_loop0 (fun x => K ++ E x) L I m x₀ h₀ hL (hK.app hE) fun x hx => mwp_mono (round x hx) fun e env' σ' h => ?_
  cases e with
  | normal =>
    obtain ⟨y, h1, h2, h3, h4, h5⟩ := h
    exact ⟨y, h1, h2, h3, h4.app h5⟩
  | _ => exact h
theorem mwp_loopKJ {α : Type} {L0 : MS} (K : Env) (E : α → Env) (L : α → MS) (I : α → Prop) (m : α → Nat) (x₀ : α) (hN : N ≤ S.length) (hK : EnvSub env K) (hE : EnvSub env (E x₀)) (h₀ : I x₀) (hL : L0 = L x₀)
    (round : ∀ x, I x → mwp P rd N n c (ThenM (fun env' σ' => ∃ y junk, m y < m x ∧ I y ∧ σ' = S ++ (L y ++ junk) ∧ LTo (S.length + (L x).length) (L x) (L y) ∧ EnvTo (S.length + (L x).length) env' (K ++ E x) K ∧ EnvTo (S.length + (L x).length) env' (K ++ E x) (E y)) Q) (K ++ E x) (S ++ L x)) : mwp P rd N n (.loop c) Q env (S ++ L0) := by
  refine mwp_loopJ (fun x => K ++ E x) L I m x₀ hN h₀ hL (hK.app hE) fun x hx => mwp_mono (round x hx) fun e env' σ' h => ?_
  cases e with
  | normal =>
    obtain ⟨y, junk, h1, h2, h3, h4, h5, h6⟩ := h
    exact ⟨y, junk, h1, h2, h3, h4, h5.app h6⟩
  | _ => exact h
/-- Nil taken for a row of the call's own. -/
theorem mwp_row0 {L' : MS} (t ty sz : Nat) {k : Nat} (ht : get env t = some .lst0) (hN : N ≤ S.length) (hk : L.length = k) (hL : L ++ [.row ty sz 0] = L') (h : mwp P rd N n c Q ((t, .lst (some (S.length + k)) sz []) :: env) (S ++ L')) : mwp P rd N n c Q env (S ++ L) := by
  subst hk hL
  refine mwp_ghost (fun g w tmps hr he => ?_) h
  obtain ⟨r1, l1, d1⟩ := tok_new hr ty sz
  have hlen : (S ++ L).length = S.length + L.length := List.length_append
  refine ⟨_, by rw [← List.append_assoc]; exact r1, fun s y hy => ?_, l1.toN N, fun F hF => hF.mono (l1.toN N)⟩
  by_cases e : t = s
  · subst e
    rw [get_cons_self] at hy
    injection hy with hy
    subst hy
    obtain ⟨v, hv, hrd⟩ := he t _ ht
    refine ⟨v, hv, ?_⟩
    rw [hrd.inv_lst0, ← hlen]
    exact d1
  · rw [get_cons_ne _ _ e] at hy
    obtain ⟨v, hv, hrd⟩ := he s y hy
    exact ⟨v, hv, hrd.mono l1⟩
/-- A temporary read as less. -/
theorem mwp_view (t : Nat) {x y : MV} (ht : get env t = some x) (hs : Sub x y) (h : mwp P rd N n c Q ((t, y) :: env) S) : mwp P rd N n c Q env S := by
  refine mwp_env (fun s z hz => ?_) h
  by_cases e : t = s
  · subst e
    rw [get_cons_self] at hz
    injection hz with hz
    subst hz
    exact ⟨x, ht, hs⟩
  · rw [get_cons_ne _ _ e] at hz
    exact ⟨z, hz, .refl z⟩
end
theorem wOps_case {P : Program} {rd : Option Nat} {ops : Array Oper} {Q : Env → MS → Prop} {rest : List Oper} {t : Nat} {e : Bool} {env : Env} {σ : MS} (hT : e = true → wOps P rd ops Q rest ((t, .bool true) :: env) σ) (hF : e = false → wOps P rd ops Q rest ((t, .bool false) :: env) σ) : wOps P rd ops Q rest (putd (some t) (.bool e) env) σ := by
  cases e
  · exact hF rfl
  · exact hT rfl
theorem dOps_case {P : Program} {rd : Option Nat} {ops : Array Oper} {eff : List Nat} {Ss : List MS} {Q : Env → Prop} {rest : List Oper} {i t : Nat} {e : Bool} {env : Env} (hT : e = true → dOps P rd ops eff Ss Q rest i ((t, .bool true) :: env)) (hF : e = false → dOps P rd ops eff Ss Q rest i ((t, .bool false) :: env)) : dOps P rd ops eff Ss Q rest i (putd (some t) (.bool e) env) := by
  cases e
  · exact hF rfl
  · exact hT rfl
theorem op_min2' {P : Program} {rd : Option Nat} {o : Oper} {env : Env} {σ : MS} {K : MV → MS → Prop} {ts : Array TypeId} {x y : Operand} {k : IntKind} {m n r : Int} (ho : o.op = .call { callee := .builtin .min, args := #[x, y], argTypes := ts }) (hx : evo env x = some (.int k m)) (hy : evo env y = some (.int k n)) (hr : (if n < m then n else m) = r) (h : K (.int k r) σ) : OpWp P rd o env σ K := op_min2 ho hx hy (hr ▸ h)
theorem op_max2' {P : Program} {rd : Option Nat} {o : Oper} {env : Env} {σ : MS} {K : MV → MS → Prop} {ts : Array TypeId} {x y : Operand} {k : IntKind} {m n r : Int} (ho : o.op = .call { callee := .builtin .max, args := #[x, y], argTypes := ts }) (hx : evo env x = some (.int k m)) (hy : evo env y = some (.int k n)) (hr : (if n > m then n else m) = r) (h : K (.int k r) σ) : OpWp P rd o env σ K := op_max2 ho hx hy (hr ▸ h)
theorem cl_flat {α : Type} {en : α → MV} {n : Nat} {l : List α} (h : ∀ a ∈ l, Cl n (en a)) (hc : ∀ a, en a = .agg (en a).cells ∨ [en a] = (en a).cells) : ∀ x ∈ flat (l.map en), Cl n x := by
  intro x hx
  obtain ⟨y, hy, hx⟩ := List.mem_flatMap.1 hx
  obtain ⟨a, ha, rfl⟩ := List.mem_map.1 hy
  rcases hc a with e | e
  · have := h a ha
    rw [e] at this
    cases this with
    | agg _ h => exact h x hx
  · rw [← e] at hx
    simp at hx
    subst hx
    exact h a ha
theorem cl_lst {α : Type} {en : α → MV} {n sz : Nat} {l : List α} (h : ∀ a, Cl n (en a)) (hc : ∀ a, en a = .agg (en a).cells ∨ [en a] = (en a).cells) : Cl n (.lst none sz (l.map en)) := .lst none sz _ (fun t ht => by cases ht) (cl_flat (fun a _ => h a) hc)
theorem cl_lstT {α : Type} {en : α → MV} {n sz t : Nat} {l : List α} (ht : t < n) (h : ∀ a, Cl n (en a)) (hc : ∀ a, en a = .agg (en a).cells ∨ [en a] = (en a).cells) : Cl n (.lst (some t) sz (l.map en)) := .lst _ sz _ (fun s hs => by injection hs with hs; omega) (cl_flat (fun a _ => h a) hc)
theorem get_map {α : Type} {en : α → MV} {l : List α} {i : Nat} {a : α} (h : l[i]? = some a) : (l.map en)[i]? = some (en a) := by rw [List.getElem?_map, h]; rfl
end Go.MV
