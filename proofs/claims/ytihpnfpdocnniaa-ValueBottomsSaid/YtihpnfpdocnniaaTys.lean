/-
  Arguments of this seat's types as typed data.
-/
import Derived.Test.YtihpnfpdocnniaaFacts
import Derived.Test.YtihpnfpdocnniaaArg
set_option linter.unusedVariables false
set_option linter.unusedSimpArgs false
namespace Go.Proofs.Ytihpnfpdocnniaa
open Go Go.MV
theorem tys_ok : okTypes Try.prog [24, 22, 3] = true := by kernel_rfl
theorem cells_sch : Try.prog.cellsOf 24 = 2 := by kernel_rfl
theorem tyM_int {n : Nat} {l : List MV} (h : TyM Try.prog n 3 l) : ∃ v, l = [.int .i64 v] ∧ (Lit.int .i64 v).wf = true := by
  cases n with
  | zero => exact h.elim
  | succ n => unfold TyM at h; rw [Try.underlying3] at h; exact h
theorem tyM_sch (n : Nat) : ∀ (l : List MV), TyM Try.prog n 24 l → ∃ s, MV.agg l = encS s := by
  induction n using Nat.strongRecOn with
  | _ n ih =>
  intro l h
  match n, ih, h with
  | n + 1, ih, h =>
    unfold TyM at h
    rw [Try.underlying24] at h
    obtain ⟨a, _, rfl, h1, b, _, rfl, h2, rfl⟩ := h
    obtain ⟨k, rfl, _⟩ := tyM_int h1
    match n, ih, h2 with
    | n + 1, ih, h2 =>
      unfold TyM at h2
      rw [Try.underlying22] at h2
      obtain ⟨xs, rfl, hx⟩ := h2
      have hss : ∀ ys : List MV, (∀ x ∈ ys, x.cells.length = Try.prog.cellsOf 24 ∧ TyM Try.prog n 24 x.cells ∧ ElF Try.prog 24 x) → ∃ ss, ys = encSs ss := by
        intro ys
        induction ys with
        | nil => exact fun _ => ⟨[], by simp [encSs]⟩
        | cons y ys ihy =>
          intro hy
          obtain ⟨ss, rfl⟩ := ihy (fun x hx => hy x (List.mem_cons_of_mem _ hx))
          obtain ⟨h1, h2, h3⟩ := hy y (List.mem_cons_self ..)
          obtain ⟨s, hs⟩ := ih n (by omega) _ h2
          refine ⟨s :: ss, ?_⟩
          simp only [ElF, Try.underlying24] at h3
          rw [h3, hs]; simp [encSs]
      obtain ⟨ss, rfl⟩ := hss xs hx
      exact ⟨.mk k ss, by rw [cells_sch]; simp [encS]⟩
theorem arg_sch {H : Type} {enc : TypeId × Value → H} {W : World} {base b0 : Nat} {spare : Nat → Bool} {held : Bool} {r : Reach} {v : Value} {d : DataW H} {p : List MemPlace} (hv : Value.okWide Try.prog W r b0 24 v) (h : DataW.Trod enc Try.prog W base spare held 24 v d p) :
    ∃ s, Rd (g0 W) W (encS s) v := by
  obtain ⟨l, m, h1, h2⟩ := arg_struct tys_ok (by simp) Try.underlying24 hv h
  obtain ⟨s, hs⟩ := tyM_sch _ _ h2
  exact ⟨s, hs ▸ h1⟩
end Go.Proofs.Ytihpnfpdocnniaa
