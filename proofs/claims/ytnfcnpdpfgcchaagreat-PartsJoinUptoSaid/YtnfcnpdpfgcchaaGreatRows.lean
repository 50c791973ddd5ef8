/-
  NARROWER THAN 'FOR EVERY INPUT', by the rows' own cells (each row's printed sentence says how): PartsJoin: loops.
  DERIVED. THE GIVEN ROWS OF THIS SEAT. 5 by the template 'for every input the law returns true; each argument reads behind the call as it read before'; 0 by the template 'total and deterministic' (their statements: YtnfcnpdpfgcchaaGreatTotals.lean).
  GIVEN WITH THE SEED: the statements are not yours to turn. If you find one false, say at which input.
  Laid BY PROGRAM, IN A SANDBOX (cutbox-rows.mjs): the forced cells as the released guide's own fill.sh prints them over the translation afbe010d6500c576… (all of the seat's roots in one cut). By AI agents, Wed Nov 11 2026. No macro, syntax, notation, axiom, sorry.
-/
import Derived.Test.YtnfcnpdpfgcchaaGreatChecked
import GoSem.Claim
import GoSem.ClaimJoined
import GoSem.ClaimMapViews
import Derived.JoinedTies
import Derived.KernelRfl
namespace Go.Proofs.YtnfcnpdpfgcchaaGreat
/- THE CELL 'sum', in the pinned program and in every row, IS THE sha256 OF THE DUMP (.gsa) THAT YtnfcnpdpfgcchaaGreatProg.lean LOADS. Nothing in Lean hashes anything: it is a label: what it is worth is what the hold of that sum in a sandbox is worth. -/
noncomputable def Tryz.pinned : Pinned := { name := "ytnfcnpdpfgcchaagreat", sum := "afbe010d6500c5769a01ac878829b3bc189aa80f90e2620a568f2f1900ded5b6", checked := Tryz.checked }
namespace Rows
def none {H : Type} : Left H := { results := [], args := [] }

/-- 'trefoillaw8.PartsJoin': WHATEVER THE INPUT: true; the input reads as it did. -/
def partsJoinSpec : ChangeSpec := { name := "partsJoin", fn := fun _ => fun
  | [d1, d2, d3] => { results := [.lit (.bool true)], args := [d1, d2, d3] }
  | _ => none }
def partsJoinRow : OpenClaim := { program := "ytnfcnpdpfgcchaagreat", sum := "afbe010d6500c5769a01ac878829b3bc189aa80f90e2620a568f2f1900ded5b6", func := "trefoil/trefoillaw8.PartsJoin", spec := "partsJoin", inPlace := ["internal/bytealg.abigen_runtime_cmpstring", "internal/reflectlite.TypeOf"], unfollowed := true, recurses := true, loops := true, apart := false }
def PartsJoinSaid : Prop := partsJoinRow.holds Tryz.pinned (OpenSpec.ofChange partsJoinSpec)

/-- ITS FALSE NEIGHBOUR: 'it returns false'. Refute it at one input. -/
def partsJoinWrong : ChangeSpec := { name := "partsJoin", fn := fun _ => fun
  | [d1, d2, d3] => { results := [.lit (.bool false)], args := [d1, d2, d3] }
  | _ => none }
def PartsJoinWrongFalsely : Prop := partsJoinRow.holds Tryz.pinned (OpenSpec.ofChange partsJoinWrong)

/-- 'trefoillaw8.PartsCounts': WHATEVER THE INPUT: true; the input reads as it did. -/
def partsCountsSpec : ChangeSpec := { name := "partsCounts", fn := fun _ => fun
  | [d] => { results := [.lit (.bool true)], args := [d] }
  | _ => none }
def partsCountsRow : OpenClaim := { program := "ytnfcnpdpfgcchaagreat", sum := "afbe010d6500c5769a01ac878829b3bc189aa80f90e2620a568f2f1900ded5b6", func := "trefoil/trefoillaw8.PartsCounts", spec := "partsCounts", inPlace := ["internal/bytealg.abigen_runtime_cmpstring", "internal/reflectlite.TypeOf"], unfollowed := true, recurses := true, apart := false }
def PartsCountsSaid : Prop := partsCountsRow.holds Tryz.pinned (OpenSpec.ofChange partsCountsSpec)

/-- ITS FALSE NEIGHBOUR: 'it returns false'. Refute it at one input. -/
def partsCountsWrong : ChangeSpec := { name := "partsCounts", fn := fun _ => fun
  | [d] => { results := [.lit (.bool false)], args := [d] }
  | _ => none }
def PartsCountsWrongFalsely : Prop := partsCountsRow.holds Tryz.pinned (OpenSpec.ofChange partsCountsWrong)

/-- 'trefoillaw8.PartsDiffSets': WHATEVER THE INPUT: true; the input reads as it did. -/
def partsDiffSetsSpec : ChangeSpec := { name := "partsDiffSets", fn := fun _ => fun
  | [d1, d2] => { results := [.lit (.bool true)], args := [d1, d2] }
  | _ => none }
def partsDiffSetsRow : OpenClaim := { program := "ytnfcnpdpfgcchaagreat", sum := "afbe010d6500c5769a01ac878829b3bc189aa80f90e2620a568f2f1900ded5b6", func := "trefoil/trefoillaw8.PartsDiffSets", spec := "partsDiffSets", inPlace := ["internal/bytealg.abigen_runtime_cmpstring", "internal/reflectlite.TypeOf"], unfollowed := true, recurses := true, apart := false }
def PartsDiffSetsSaid : Prop := partsDiffSetsRow.holds Tryz.pinned (OpenSpec.ofChange partsDiffSetsSpec)

/-- ITS FALSE NEIGHBOUR: 'it returns false'. Refute it at one input. -/
def partsDiffSetsWrong : ChangeSpec := { name := "partsDiffSets", fn := fun _ => fun
  | [d1, d2] => { results := [.lit (.bool false)], args := [d1, d2] }
  | _ => none }
def PartsDiffSetsWrongFalsely : Prop := partsDiffSetsRow.holds Tryz.pinned (OpenSpec.ofChange partsDiffSetsWrong)

/-- 'trefoillaw8.PartsDiffMaps': WHATEVER THE INPUT: true; the input reads as it did. -/
def partsDiffMapsSpec : ChangeSpec := { name := "partsDiffMaps", fn := fun _ => fun
  | [d1, d2] => { results := [.lit (.bool true)], args := [d1, d2] }
  | _ => none }
def partsDiffMapsRow : OpenClaim := { program := "ytnfcnpdpfgcchaagreat", sum := "afbe010d6500c5769a01ac878829b3bc189aa80f90e2620a568f2f1900ded5b6", func := "trefoil/trefoillaw8.PartsDiffMaps", spec := "partsDiffMaps", inPlace := ["internal/bytealg.abigen_runtime_cmpstring", "internal/reflectlite.TypeOf"], unfollowed := true, recurses := true, apart := false }
def PartsDiffMapsSaid : Prop := partsDiffMapsRow.holds Tryz.pinned (OpenSpec.ofChange partsDiffMapsSpec)

/-- ITS FALSE NEIGHBOUR: 'it returns false'. Refute it at one input. -/
def partsDiffMapsWrong : ChangeSpec := { name := "partsDiffMaps", fn := fun _ => fun
  | [d1, d2] => { results := [.lit (.bool false)], args := [d1, d2] }
  | _ => none }
def PartsDiffMapsWrongFalsely : Prop := partsDiffMapsRow.holds Tryz.pinned (OpenSpec.ofChange partsDiffMapsWrong)

/-- 'trefoillaw8.PartsVersions': WHATEVER THE INPUT: true; the input reads as it did. -/
def partsVersionsSpec : ChangeSpec := { name := "partsVersions", fn := fun _ => fun
  | [d1, d2] => { results := [.lit (.bool true)], args := [d1, d2] }
  | _ => none }
def partsVersionsRow : OpenClaim := { program := "ytnfcnpdpfgcchaagreat", sum := "afbe010d6500c5769a01ac878829b3bc189aa80f90e2620a568f2f1900ded5b6", func := "trefoil/trefoillaw8.PartsVersions", spec := "partsVersions", inPlace := ["internal/bytealg.abigen_runtime_cmpstring", "internal/reflectlite.TypeOf"], unfollowed := true, recurses := true, apart := false }
def PartsVersionsSaid : Prop := partsVersionsRow.holds Tryz.pinned (OpenSpec.ofChange partsVersionsSpec)

/-- ITS FALSE NEIGHBOUR: 'it returns false'. Refute it at one input. -/
def partsVersionsWrong : ChangeSpec := { name := "partsVersions", fn := fun _ => fun
  | [d1, d2] => { results := [.lit (.bool false)], args := [d1, d2] }
  | _ => none }
def PartsVersionsWrongFalsely : Prop := partsVersionsRow.holds Tryz.pinned (OpenSpec.ofChange partsVersionsWrong)

/- THE SECOND FORM. 'bulk': how many values and letters a reading holds, each counted each time it is reached (what is shared counts as often as it is met; a slice's spare places count too). A statement '..UptoSaid' is the law's where the arguments, and the package variables that the reading takes, are together of bulk at most 1048576: NARROWER than '..Said'. Prove '..Said' where nothing that the law and all that it calls make is longer than what came in: it says more and counts as full. Else prove '..UptoSaid'. A law counts once. -/
mutual
def uptoBulk {H : Type} : DataW H → Nat
  | .lit (.string bytes) => bytes.length + 1
  | .lit _ => 1
  | .nil => 1
  | .ptr d => uptoBulk d + 1
  | .slice elems spare => uptoBulkAll elems + uptoBulkAll spare + 1
  | .agg parts => uptoBulkAll parts + 1
  | .iface _ d => uptoBulk d + 1
  | .map entries => uptoBulkEntries entries + 1
  | .held _ => 1
def uptoBulkAll {H : Type} : List (DataW H) → Nat
  | [] => 0
  | d :: r => uptoBulk d + uptoBulkAll r
def uptoBulkEntries {H : Type} : List (Lit × DataW H) → Nat
  | [] => 0
  | x :: r => uptoBulkEntry x + uptoBulkEntries r
def uptoBulkEntry {H : Type} : Lit × DataW H → Nat
  | (.string bytes, d) => bytes.length + uptoBulk d + 1
  | (_, d) => uptoBulk d + 1
 end
def uptoSmall : (H : Type) → List (DataW H) → Bool := fun _ ds => decide (uptoBulkAll ds ≤ 1048576)
def OpenSpec.upto (s : _root_.Go.ChangeSpec) : _root_.Go.OpenSpec := { _root_.Go.OpenSpec.ofChange s with cond := some uptoSmall }

/-- 'trefoillaw8.PartsJoin', WHERE WHAT IT READS IS OF BULK AT MOST 1048576: true; the input reads as it did. -/
def partsJoinUptoRow : OpenClaim := { program := "ytnfcnpdpfgcchaagreat", sum := "afbe010d6500c5769a01ac878829b3bc189aa80f90e2620a568f2f1900ded5b6", func := "trefoil/trefoillaw8.PartsJoin", spec := "partsJoin", inPlace := ["internal/bytealg.abigen_runtime_cmpstring", "internal/reflectlite.TypeOf"], unfollowed := true, recurses := true, loops := true, apart := false, narrowed := true }
def PartsJoinUptoSaid : Prop := partsJoinUptoRow.holds Tryz.pinned (OpenSpec.upto partsJoinSpec)

/-- 'trefoillaw8.PartsCounts', WHERE WHAT IT READS IS OF BULK AT MOST 1048576: true; the input reads as it did. -/
def partsCountsUptoRow : OpenClaim := { program := "ytnfcnpdpfgcchaagreat", sum := "afbe010d6500c5769a01ac878829b3bc189aa80f90e2620a568f2f1900ded5b6", func := "trefoil/trefoillaw8.PartsCounts", spec := "partsCounts", inPlace := ["internal/bytealg.abigen_runtime_cmpstring", "internal/reflectlite.TypeOf"], unfollowed := true, recurses := true, apart := false, narrowed := true }
def PartsCountsUptoSaid : Prop := partsCountsUptoRow.holds Tryz.pinned (OpenSpec.upto partsCountsSpec)

/-- 'trefoillaw8.PartsDiffSets', WHERE WHAT IT READS IS OF BULK AT MOST 1048576: true; the input reads as it did. -/
def partsDiffSetsUptoRow : OpenClaim := { program := "ytnfcnpdpfgcchaagreat", sum := "afbe010d6500c5769a01ac878829b3bc189aa80f90e2620a568f2f1900ded5b6", func := "trefoil/trefoillaw8.PartsDiffSets", spec := "partsDiffSets", inPlace := ["internal/bytealg.abigen_runtime_cmpstring", "internal/reflectlite.TypeOf"], unfollowed := true, recurses := true, apart := false, narrowed := true }
def PartsDiffSetsUptoSaid : Prop := partsDiffSetsUptoRow.holds Tryz.pinned (OpenSpec.upto partsDiffSetsSpec)

/-- 'trefoillaw8.PartsDiffMaps', WHERE WHAT IT READS IS OF BULK AT MOST 1048576: true; the input reads as it did. -/
def partsDiffMapsUptoRow : OpenClaim := { program := "ytnfcnpdpfgcchaagreat", sum := "afbe010d6500c5769a01ac878829b3bc189aa80f90e2620a568f2f1900ded5b6", func := "trefoil/trefoillaw8.PartsDiffMaps", spec := "partsDiffMaps", inPlace := ["internal/bytealg.abigen_runtime_cmpstring", "internal/reflectlite.TypeOf"], unfollowed := true, recurses := true, apart := false, narrowed := true }
def PartsDiffMapsUptoSaid : Prop := partsDiffMapsUptoRow.holds Tryz.pinned (OpenSpec.upto partsDiffMapsSpec)

/-- 'trefoillaw8.PartsVersions', WHERE WHAT IT READS IS OF BULK AT MOST 1048576: true; the input reads as it did. -/
def partsVersionsUptoRow : OpenClaim := { program := "ytnfcnpdpfgcchaagreat", sum := "afbe010d6500c5769a01ac878829b3bc189aa80f90e2620a568f2f1900ded5b6", func := "trefoil/trefoillaw8.PartsVersions", spec := "partsVersions", inPlace := ["internal/bytealg.abigen_runtime_cmpstring", "internal/reflectlite.TypeOf"], unfollowed := true, recurses := true, apart := false, narrowed := true }
def PartsVersionsUptoSaid : Prop := partsVersionsUptoRow.holds Tryz.pinned (OpenSpec.upto partsVersionsSpec)

end Rows
end Go.Proofs.YtnfcnpdpfgcchaaGreat
