/-
  Arguments that are values as typed data.
-/
import Derived.Test.YtihpnfpdocnniaaFacts
import Derived.Test.YtihpnfpdocnniaaRw
import Derived.Test.YtihpnfpdocnniaaValP
import Derived.Test.YtihpnfpdocnniaaTyC
set_option linter.unusedVariables false
set_option linter.unusedSimpArgs false
set_option maxRecDepth 100000
namespace Go.Proofs.Ytihpnfpdocnniaa
open Go Go.MV
theorem cellsV_str : Try.prog.cellsOf 9 = 1 := by kernel_rfl
theorem cellsV_clk : Try.prog.cellsOf 40 = 1 := by kernel_rfl
theorem cellsV_val : Try.prog.cellsOf 30 = 5 := by kernel_rfl
theorem tyM_val (n : Nat) : ∀ (l : List MV), TyM Try.prog n 30 l → ∃ x : Val, MV.agg l = encV x ∧ okV x := by
  induction n using Nat.strongRecOn with
  | _ n ih =>
  intro l h
  obtain ⟨n', rfl, h⟩ := tyM_struct Try.underlying30 h
  obtain ⟨a, _, rfl, h1, b, _, rfl, h2, c, _, rfl, h3, d, _, rfl, h4, e, _, rfl, h5, rfl⟩ := h
  obtain ⟨v1, rfl, w1⟩ := tyM_intK Try.underlying25 h1
  obtain ⟨v2, rfl, w2⟩ := tyM_intK Try.underlying25 h2
  obtain ⟨k1, rfl, hk1⟩ := wf_u64 w1
  obtain ⟨k2, rfl, hk2⟩ := wf_u64 w2
  obtain ⟨xs, m3, hm3, rfl, hx3⟩ := tyM_slice Try.underlying26 h3
  obtain ⟨ss, rfl, _⟩ := all_enc (enc := encX) (q := fun _ => True) (xs := xs) (fun x hx => by
    obtain ⟨_, g2, g3⟩ := hx3 x hx
    obtain ⟨a, e1, _⟩ := el_str Try.underlying9 m3 x g2 g3
    exact ⟨a, e1, trivial⟩)
  obtain ⟨ys, m4, hm4, rfl, hx4⟩ := tyM_slice Try.underlying27 h4
  obtain ⟨cs, rfl, hcs⟩ := all_enc (enc := encC) (q := fun c : List Tk => ∀ t ∈ c, okTk t) (xs := ys) (fun x hx => by
    obtain ⟨_, g2, g3⟩ := hx4 x hx
    obtain ⟨zs, m5, hm5, e5, hx5⟩ := tyM_slice Try.underlying40 g2
    simp only [ElF, Try.underlying40] at g3
    rw [e5] at g3
    injection g3 with g3 _
    obtain ⟨c, rfl, hc⟩ := all_enc (enc := encT) (q := okTk) (xs := zs) (fun z hz => by
      obtain ⟨f1, f2, f3⟩ := hx5 z hz
      exact el_tick m5 z f1 f2 f3)
    refine ⟨c, ?_, hc⟩
    rw [g3, cells_tick]
    rfl)
  obtain ⟨us, m6, hm6, rfl, hx6⟩ := tyM_slice Try.underlying28 h5
  obtain ⟨vs, rfl, hvs⟩ := all_enc (enc := encV) (q := okV) (xs := us) (fun x hx => by
    obtain ⟨_, g2, g3⟩ := hx6 x hx
    obtain ⟨v, e1, hv⟩ := ih m6 (by omega) _ g2
    simp only [ElF, Try.underlying30] at g3
    exact ⟨v, g3.trans e1, hv⟩)
  refine ⟨.mk k1 k2 ss cs vs, ?_, ?_⟩
  · rw [cellsV_str, cellsV_clk, cellsV_val, encV, encVs_eq]
    rfl
  · simp only [okV]
    exact ⟨by omega, by omega, hcs, okVs_iff.2 hvs⟩
theorem arg_val {ts : List TypeId} (hok : okTypes Try.prog ts = true) (ht : 30 ∈ ts) {H : Type} {enc : TypeId × Value → H} {W : World} {base b0 : Nat} {spare : Nat → Bool} {held : Bool} {r : Reach} {v : Value} {d : DataW H} {p : List MemPlace} (hv : Value.okWide Try.prog W r b0 30 v) (h : DataW.Trod enc Try.prog W base spare held 30 v d p) :
    ∃ x : Val, Rd (g0 W) W (encV x) v ∧ okV x := by
  obtain ⟨l, m, h1, h2⟩ := arg_struct hok ht Try.underlying30 hv h
  obtain ⟨x, hx, ho⟩ := tyM_val _ _ h2
  exact ⟨x, hx ▸ h1, ho⟩
end Go.Proofs.Ytihpnfpdocnniaa
