/-
  Arguments that are clocks as typed data.
-/
import Derived.Test.YtihpnfpdocnniaaFacts
import Derived.Test.YtihpnfpdocnniaaRw
import Derived.Test.YtihpnfpdocnniaaClkP
set_option linter.unusedVariables false
set_option linter.unusedSimpArgs false
namespace Go.Proofs.Ytihpnfpdocnniaa
open Go Go.MV
theorem cells_tick : Try.prog.cellsOf 39 = 2 := by kernel_rfl
theorem tyM_tick {m : Nat} {l : List MV} (h : TyM Try.prog m 39 l) : ∃ a : Tk, MV.agg l = encT a ∧ (0 ≤ a.2 ∧ a.2 < 18446744073709551616) := by
  obtain ⟨m', _, h⟩ := tyM_struct Try.underlying39 h
  obtain ⟨a, _, rfl, h1, b, _, rfl, h2, rfl⟩ := h
  obtain ⟨w, rfl, _⟩ := tyM_intK Try.underlying3 h1
  obtain ⟨n, rfl, hw⟩ := tyM_intK Try.underlying25 h2
  obtain ⟨k, rfl, hk⟩ := wf_u64 hw
  exact ⟨(w, k), rfl, by dsimp only; omega, by dsimp only; omega⟩
theorem el_tick (m : Nat) (x : MV) (_ : x.cells.length = Try.prog.cellsOf 39) (h : TyM Try.prog m 39 x.cells) (he : ElF Try.prog 39 x) : ∃ a : Tk, x = encT a ∧ (0 ≤ a.2 ∧ a.2 < 18446744073709551616) := by
  obtain ⟨a, e, ha⟩ := tyM_tick h
  simp only [ElF, Try.underlying39] at he
  exact ⟨a, he.trans e, ha⟩
theorem arg_clock {ts : List TypeId} (hok : okTypes Try.prog ts = true) (ht : 40 ∈ ts) {H : Type} {enc : TypeId × Value → H} {W : World} {base b0 : Nat} {spare : Nat → Bool} {held : Bool} {r : Reach} {v : Value} {d : DataW H} {p : List MemPlace} (hv : Value.okWide Try.prog W r b0 40 v) (h : DataW.Trod enc Try.prog W base spare held 40 v d p) :
    ∃ c : List Tk, Rd (g0 W) W (.lst none 2 (c.map encT)) v ∧ (∀ t ∈ c, 0 ≤ t.2 ∧ t.2 < 18446744073709551616) ∧ c.length ≤ maxLen := by
  obtain ⟨c, h1, h2, h3⟩ := arg_slice (en := encT) hok ht Try.underlying40 el_tick hv h
  rw [cells_tick] at h1
  exact ⟨c, h1, h2, h3⟩
theorem cells_u8 : Try.prog.cellsOf 5 = 1 := by kernel_rfl
theorem arg_bytes {ts : List TypeId} (hok : okTypes Try.prog ts = true) (ht : 44 ∈ ts) {H : Type} {enc : TypeId × Value → H} {W : World} {base b0 : Nat} {spare : Nat → Bool} {held : Bool} {r : Reach} {v : Value} {d : DataW H} {p : List MemPlace} (hv : Value.okWide Try.prog W r b0 44 v) (h : DataW.Trod enc Try.prog W base spare held 44 v d p) :
    ∃ l : List Nat, Rd (g0 W) W (.lst none 1 (l.map fun b : Nat => .int .u8 (b : Int))) v ∧ (∀ b ∈ l, b ≤ 255) ∧ l.length ≤ maxLen := by
  obtain ⟨c, h1, h2, h3⟩ := arg_slice (en := fun b : Nat => .int .u8 (b : Int)) (q := fun b => b ≤ 255) hok ht Try.underlying44 (fun m x _ h he => by
    obtain ⟨a, rfl, hw⟩ := el_int Try.underlying5 m x h he
    obtain ⟨k, rfl, hk⟩ := wf_u8 hw
    exact ⟨k, rfl, hk⟩) hv h
  rw [cells_u8] at h1
  exact ⟨c, h1, h2, h3⟩
end Go.Proofs.Ytihpnfpdocnniaa
