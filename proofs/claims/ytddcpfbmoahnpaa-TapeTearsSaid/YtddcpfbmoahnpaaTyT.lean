/-
  Arguments that are rows of texts as typed data.
-/
import Derived.Test.YtddcpfbmoahnpaaFacts
import Derived.Test.YtddcpfbmoahnpaaRw
set_option linter.unusedVariables false
set_option linter.unusedSimpArgs false
set_option maxRecDepth 100000
namespace Go.Proofs.Ytddcpfbmoahnpaa
open Go Go.MV
theorem cells_str : Try.prog.cellsOf 9 = 1 := by kernel_rfl
def TxtOk (s : Bs) : Prop := s.length ≤ maxLen
theorem el_txt (m : Nat) (x : MV) (_ : x.cells.length = Try.prog.cellsOf 9) (h : TyM Try.prog m 9 x.cells) (he : ElF Try.prog 9 x) : ∃ a : Bs, x = .str (bs a) ∧ TxtOk a := by
  obtain ⟨a, h1, h2⟩ := el_str Try.underlying9 m x h he
  exact ⟨a, h1, h2⟩
theorem arg_texts {ts : List TypeId} (hok : okTypes Try.prog ts = true) (ht : 22 ∈ ts) {H : Type} {enc : TypeId × Value → H} {W : World} {base b0 : Nat} {spare : Nat → Bool} {held : Bool} {r : Reach} {v : Value} {d : DataW H} {p : List MemPlace} (hv : Value.okWide Try.prog W r b0 22 v) (h : DataW.Trod enc Try.prog W base spare held 22 v d p) :
    ∃ c : List Bs, Rd (g0 W) W (.lst none 1 (c.map fun s => .str (bs s))) v ∧ (∀ s ∈ c, TxtOk s) ∧ c.length ≤ maxLen := by
  obtain ⟨c, h1, h2, h3⟩ := arg_slice (en := fun s : Bs => .str (bs s)) hok ht Try.underlying22 (q := TxtOk) el_txt hv h
  rw [cells_str] at h1
  exact ⟨c, h1, h2, h3⟩
end Go.Proofs.Ytddcpfbmoahnpaa
