/-
  What a crash leaves: whole records, as many as came before the tear. No program.
-/
import Derived.Test.YtddcpfbmoahnpaaTapB
import Derived.Test.YtddcpfbmoahnpaaMk
set_option linter.unusedVariables false
set_option linter.unusedSimpArgs false
namespace Go.Proofs.Ytddcpfbmoahnpaa
open Go Go.MV Go.RowKit
theorem laids_append (a b : List Bs) : laids (a ++ b) = laids a ++ laids b := by simp [laids]
theorem laids_one (r : Bs) : laids [r] = laidB r := by simp [laids]
theorem laids_take_succ {l : List Bs} {i : Nat} {r : Bs} (h : l[i]? = some r) : laids (l.take (i + 1)) = laids (l.take i) ++ laidB r := by
  rw [List.take_add_one, h, laids_append]
  simp [laids]
theorem laids_le {l : List Bs} (h : ∀ r ∈ l, r.length ≤ 500) : (laids l).length ≤ l.length * 511 := by
  induction l with
  | nil => simp [laids]
  | cons r l ih =>
    have e : (laids (r :: l)).length = (laidB r).length + (laids l).length := by simp [laids]
    have h1 := laidB_len r
    have h2 := h r (List.mem_cons_self ..)
    have h3 := numB_len (show r.length < 2097152 by omega)
    have h4 := ih fun s hs => h s (List.mem_cons_of_mem _ hs)
    rw [e, List.length_cons]
    omega
theorem recJ_all {l : List (Bs × Nat)} : recJ l l.length = l.map (·.1) := by unfold recJ; rw [List.take_length]
theorem recs_laids {rs : List Bs} (h : ∀ r ∈ rs, r.length < 2097152) : (recsF (laids rs)).map (·.1) = rs := by
  have := recsF_all (p := []) h (fun j o => recsS_nil)
  rw [List.append_nil] at this
  rw [this, ends_fst]
theorem crash_laids {rs : List Bs} (h : ∀ r ∈ rs, r.length < 2097152) (x : Nat) : ∃ j, j ≤ rs.length ∧ ((laids rs).take x).take (endJ (recsF ((laids rs).take x)) (recsF ((laids rs).take x)).length) = laids (rs.take j) ∧ endJ (recsF ((laids rs).take x)) (recsF ((laids rs).take x)).length = (laids (rs.take j)).length ∧
    (x < (laids rs).length → (laids (rs.take j)).length ≤ x) ∧ ∀ i, i ≤ rs.length → (laids (rs.take i)).length ≤ x → i ≤ j := by
  obtain ⟨k, p, h1, h2, h3, h4, h5⟩ := cut_laids rs x h
  have e : recsF ((laids rs).take x) = endsF 0 (rs.take k) := by
    rw [h2]
    exact recsF_all (fun r hr => h r (List.mem_of_mem_take hr)) h3
  have e2 : endJ (recsF ((laids rs).take x)) (recsF ((laids rs).take x)).length = (laids (rs.take k)).length := by
    unfold endJ
    rw [List.take_length, e, ends_last]
    split
    · rename_i hn; rw [hn]; rfl
    · omega
  refine ⟨k, h1, ?_, e2, h4, h5⟩
  rw [e2, h2]
  exact List.take_left' rfl
section
variable {P : Program} {rd : Option Nat} {ops : Array Oper} {Q : Env → MS → Prop} {rest : List Oper} {env : Env} {σ : MS}
theorem wOps_st (σ' : MS) (e : σ = σ') (h : wOps P rd ops Q rest env σ') : wOps P rd ops Q rest env σ := e ▸ h
end
theorem set_self_ {S : MS} {id : Nat} {o : MObj} (h : S[id]? = some o) : S.set id o = S := by
  obtain ⟨hlt, e⟩ := List.getElem?_eq_some_iff.1 h
  rw [← e]
  exact List.set_getElem_self hlt
theorem laidsS {rs l : List Bs} {i : Nat} {r : Bs} (h : l[i]? = some r) : laids (rs ++ l.take (i + 1)) = laids (rs ++ l.take i) ++ laidB r := by
  rw [laids_append, laids_take_succ h, laids_append, List.append_assoc]
theorem laids_fit {rs l : List Bs} {i : Nat} {r : Bs} (h : l[i]? = some r) : (laids (rs ++ l.take i)).length + (laidB r).length ≤ (laids rs).length + (laids l).length := by
  have e : laids l = laids (l.take (i + 1)) ++ laids (l.drop (i + 1)) := by rw [← laids_append, List.take_append_drop]
  rw [e, laids_take_succ h, laids_append]
  simp only [List.length_append]
  omega
theorem cmpN {a b : Int} (h : ¬ a < b) : intCmp .lss a b = some false := by simp [intCmp, h]
theorem cmpG {a b : Int} (h : ¬ a > b) : intCmp .gtr a b = some false := by simp [intCmp]; omega
theorem cmpE {a b : Int} (h : a = b) : intCmp .eql a b = some true := by simp [intCmp, h]
theorem cmpNe {a b : Int} (h : a = b) : intCmp .neq a b = some false := by simp [intCmp, h]
theorem cmpGe {a b : Int} (h : a ≥ b) : intCmp .geq a b = some true := by simp [intCmp]; omega
theorem cmpGe' {a b : Int} (h : ¬ a ≥ b) : intCmp .geq a b = some false := by simp [intCmp]; omega
end Go.Proofs.Ytddcpfbmoahnpaa
