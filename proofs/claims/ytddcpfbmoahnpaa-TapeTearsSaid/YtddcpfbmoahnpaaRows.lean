/-
  No cell of these rows narrows 'for every input' (looked for: loops, veiled, ifaces, maps, wideKeys, modest, calm, conditions, laid).
  DERIVED. THE GIVEN ROWS OF THIS SEAT. 3 by the template 'for every input the law returns true; each argument reads behind the call as it read before'; 0 by the template 'total and deterministic' (their statements: YtddcpfbmoahnpaaTotals.lean).
  GIVEN WITH THE SEED: the statements are not yours to turn. If you find one false, say at which input.
  Laid BY PROGRAM, IN A SANDBOX (cutbox-rows.mjs): the forced cells as the released guide's own fill.sh prints them over the translation a24af70296952622… (all of the seat's roots in one cut). By AI agents, Wed Nov 11 2026. No macro, syntax, notation, axiom, sorry.
-/
import Derived.Test.YtddcpfbmoahnpaaChecked
import GoSem.Claim
import GoSem.ClaimJoined
import GoSem.ClaimMapViews
import Derived.JoinedTies
import Derived.KernelRfl
namespace Go.Proofs.Ytddcpfbmoahnpaa
/- THE CELL 'sum', in the pinned program and in every row, IS THE sha256 OF THE DUMP (.gsa) THAT YtddcpfbmoahnpaaProg.lean LOADS. Nothing in Lean hashes anything: it is a label: what it is worth is what the hold of that sum in a sandbox is worth. -/
noncomputable def Try.pinned : Pinned := { name := "ytddcpfbmoahnpaa", sum := "a24af70296952622a7ba993e1c77dbc1f3e2f214244acfbdca2740926a4ff4d2", checked := Try.checked }
namespace Rows
def none {H : Type} : Left H := { results := [], args := [] }

/-- 'trefoillaw14.TapeSafe': WHATEVER THE INPUT: true; the input reads as it did. -/
def tapeSafeSpec : ChangeSpec := { name := "tapeSafe", fn := fun _ => fun
  | [d1, d2, d3, d4] => { results := [.lit (.bool true)], args := [d1, d2, d3, d4] }
  | _ => none }
def tapeSafeRow : OpenClaim := { program := "ytddcpfbmoahnpaa", sum := "a24af70296952622a7ba993e1c77dbc1f3e2f214244acfbdca2740926a4ff4d2", func := "trefoil/trefoillaw14.TapeSafe", spec := "tapeSafe", inPlace := ["internal/reflectlite.TypeOf"], unfollowed := true, recurses := true, apart := false }
def TapeSafeSaid : Prop := tapeSafeRow.holds Try.pinned (OpenSpec.ofChange tapeSafeSpec)

/-- ITS FALSE NEIGHBOUR: 'it returns false'. Refute it at one input. -/
def tapeSafeWrong : ChangeSpec := { name := "tapeSafe", fn := fun _ => fun
  | [d1, d2, d3, d4] => { results := [.lit (.bool false)], args := [d1, d2, d3, d4] }
  | _ => none }
def TapeSafeWrongFalsely : Prop := tapeSafeRow.holds Try.pinned (OpenSpec.ofChange tapeSafeWrong)

/-- 'trefoillaw14.TapeTears': WHATEVER THE INPUT: true; the input reads as it did. -/
def tapeTearsSpec : ChangeSpec := { name := "tapeTears", fn := fun _ => fun
  | [d1, d2] => { results := [.lit (.bool true)], args := [d1, d2] }
  | _ => none }
def tapeTearsRow : OpenClaim := { program := "ytddcpfbmoahnpaa", sum := "a24af70296952622a7ba993e1c77dbc1f3e2f214244acfbdca2740926a4ff4d2", func := "trefoil/trefoillaw14.TapeTears", spec := "tapeTears", inPlace := ["internal/reflectlite.TypeOf"], unfollowed := true, recurses := true, apart := false }
def TapeTearsSaid : Prop := tapeTearsRow.holds Try.pinned (OpenSpec.ofChange tapeTearsSpec)

/-- ITS FALSE NEIGHBOUR: 'it returns false'. Refute it at one input. -/
def tapeTearsWrong : ChangeSpec := { name := "tapeTears", fn := fun _ => fun
  | [d1, d2] => { results := [.lit (.bool false)], args := [d1, d2] }
  | _ => none }
def TapeTearsWrongFalsely : Prop := tapeTearsRow.holds Try.pinned (OpenSpec.ofChange tapeTearsWrong)

/-- 'trefoillaw21.HeatCounts': WHATEVER THE INPUT: true; the input reads as it did. -/
def heatCountsSpec : ChangeSpec := { name := "heatCounts", fn := fun _ => fun
  | [d] => { results := [.lit (.bool true)], args := [d] }
  | _ => none }
def heatCountsRow : OpenClaim := { program := "ytddcpfbmoahnpaa", sum := "a24af70296952622a7ba993e1c77dbc1f3e2f214244acfbdca2740926a4ff4d2", func := "trefoil/trefoillaw21.HeatCounts", spec := "heatCounts", unfollowed := true, recurses := true, apart := false }
def HeatCountsSaid : Prop := heatCountsRow.holds Try.pinned (OpenSpec.ofChange heatCountsSpec)

/-- ITS FALSE NEIGHBOUR: 'it returns false'. Refute it at one input. -/
def heatCountsWrong : ChangeSpec := { name := "heatCounts", fn := fun _ => fun
  | [d] => { results := [.lit (.bool false)], args := [d] }
  | _ => none }
def HeatCountsWrongFalsely : Prop := heatCountsRow.holds Try.pinned (OpenSpec.ofChange heatCountsWrong)

/- THE SECOND FORM. 'bulk': how many values and letters a reading holds, each counted each time it is reached (what is shared counts as often as it is met; a slice's spare places count too). A statement '..UptoSaid' is the law's where the arguments, and the package variables that the reading takes, are together of bulk at most 1048576: NARROWER than '..Said'. Prove '..Said' where nothing that the law and all that it calls make is longer than what came in: it says more and counts as full. Else prove '..UptoSaid'. A law counts once. -/
mutual
def uptoBulk {H : Type} : DataW H → Nat
  | .lit (.string bytes) => bytes.length + 1
  | .lit _ => 1
  | .nil => 1
  | .ptr d => uptoBulk d + 1
  | .slice elems spare => uptoBulkAll elems + uptoBulkAll spare + 1
  | .agg parts => uptoBulkAll parts + 1
  | .iface _ d => uptoBulk d + 1
  | .map entries => uptoBulkEntries entries + 1
  | .held _ => 1
def uptoBulkAll {H : Type} : List (DataW H) → Nat
  | [] => 0
  | d :: r => uptoBulk d + uptoBulkAll r
def uptoBulkEntries {H : Type} : List (Lit × DataW H) → Nat
  | [] => 0
  | x :: r => uptoBulkEntry x + uptoBulkEntries r
def uptoBulkEntry {H : Type} : Lit × DataW H → Nat
  | (.string bytes, d) => bytes.length + uptoBulk d + 1
  | (_, d) => uptoBulk d + 1
 end
def uptoSmall : (H : Type) → List (DataW H) → Bool := fun _ ds => decide (uptoBulkAll ds ≤ 1048576)
def OpenSpec.upto (s : _root_.Go.ChangeSpec) : _root_.Go.OpenSpec := { _root_.Go.OpenSpec.ofChange s with cond := some uptoSmall }

/-- 'trefoillaw14.TapeSafe', WHERE WHAT IT READS IS OF BULK AT MOST 1048576: true; the input reads as it did. -/
def tapeSafeUptoRow : OpenClaim := { program := "ytddcpfbmoahnpaa", sum := "a24af70296952622a7ba993e1c77dbc1f3e2f214244acfbdca2740926a4ff4d2", func := "trefoil/trefoillaw14.TapeSafe", spec := "tapeSafe", inPlace := ["internal/reflectlite.TypeOf"], unfollowed := true, recurses := true, apart := false, narrowed := true }
def TapeSafeUptoSaid : Prop := tapeSafeUptoRow.holds Try.pinned (OpenSpec.upto tapeSafeSpec)

/-- 'trefoillaw14.TapeTears', WHERE WHAT IT READS IS OF BULK AT MOST 1048576: true; the input reads as it did. -/
def tapeTearsUptoRow : OpenClaim := { program := "ytddcpfbmoahnpaa", sum := "a24af70296952622a7ba993e1c77dbc1f3e2f214244acfbdca2740926a4ff4d2", func := "trefoil/trefoillaw14.TapeTears", spec := "tapeTears", inPlace := ["internal/reflectlite.TypeOf"], unfollowed := true, recurses := true, apart := false, narrowed := true }
def TapeTearsUptoSaid : Prop := tapeTearsUptoRow.holds Try.pinned (OpenSpec.upto tapeTearsSpec)

/-- 'trefoillaw21.HeatCounts', WHERE WHAT IT READS IS OF BULK AT MOST 1048576: true; the input reads as it did. -/
def heatCountsUptoRow : OpenClaim := { program := "ytddcpfbmoahnpaa", sum := "a24af70296952622a7ba993e1c77dbc1f3e2f214244acfbdca2740926a4ff4d2", func := "trefoil/trefoillaw21.HeatCounts", spec := "heatCounts", unfollowed := true, recurses := true, apart := false, narrowed := true }
def HeatCountsUptoSaid : Prop := heatCountsUptoRow.holds Try.pinned (OpenSpec.upto heatCountsSpec)

end Rows
end Go.Proofs.Ytddcpfbmoahnpaa
