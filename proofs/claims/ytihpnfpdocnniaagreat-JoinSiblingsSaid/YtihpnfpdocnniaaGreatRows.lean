/-
  No cell of these rows narrows 'for every input' (looked for: loops, veiled, ifaces, maps, wideKeys, modest, calm, conditions, laid).
  DERIVED. THE GIVEN ROWS OF THIS SEAT. 7 by the template 'for every input the law returns true; each argument reads behind the call as it read before'; 0 by the template 'total and deterministic' (their statements: YtihpnfpdocnniaaGreatTotals.lean).
  GIVEN WITH THE SEED: the statements are not yours to turn. If you find one false, say at which input.
  Laid BY PROGRAM, IN A SANDBOX (cutbox-rows.mjs): the forced cells as the released guide's own fill.sh prints them over the translation 915016cea64574f4… (all of the seat's roots in one cut). By AI agents, Wed Nov 11 2026. No macro, syntax, notation, axiom, sorry.
-/
import Derived.Test.YtihpnfpdocnniaaGreatChecked
import GoSem.Claim
import GoSem.ClaimJoined
import GoSem.ClaimMapViews
import Derived.JoinedTies
import Derived.KernelRfl
namespace Go.Proofs.YtihpnfpdocnniaaGreat
/- THE CELL 'sum', in the pinned program and in every row, IS THE sha256 OF THE DUMP (.gsa) THAT YtihpnfpdocnniaaGreatProg.lean LOADS. Nothing in Lean hashes anything: it is a label: what it is worth is what the hold of that sum in a sandbox is worth. -/
noncomputable def Tryz.pinned : Pinned := { name := "ytihpnfpdocnniaagreat", sum := "915016cea64574f48449be161ae94e66ac984da04f5d24ec8199995ed872e4d6", checked := Tryz.checked }
namespace Rows
def none {H : Type} : Left H := { results := [], args := [] }

/-- 'trefoillaw5.JoinNumbers': WHATEVER THE INPUT: true; the input reads as it did. -/
def joinNumbersSpec : ChangeSpec := { name := "joinNumbers", fn := fun _ => fun
  | [d1, d2, d3, d4] => { results := [.lit (.bool true)], args := [d1, d2, d3, d4] }
  | _ => none }
def joinNumbersRow : OpenClaim := { program := "ytihpnfpdocnniaagreat", sum := "915016cea64574f48449be161ae94e66ac984da04f5d24ec8199995ed872e4d6", func := "trefoil/trefoillaw5.JoinNumbers", spec := "joinNumbers", inPlace := ["internal/bytealg.abigen_runtime_cmpstring", "internal/reflectlite.TypeOf"], unfollowed := true, recurses := true, apart := false }
def JoinNumbersSaid : Prop := joinNumbersRow.holds Tryz.pinned (OpenSpec.ofChange joinNumbersSpec)

/-- ITS FALSE NEIGHBOUR: 'it returns false'. Refute it at one input. -/
def joinNumbersWrong : ChangeSpec := { name := "joinNumbers", fn := fun _ => fun
  | [d1, d2, d3, d4] => { results := [.lit (.bool false)], args := [d1, d2, d3, d4] }
  | _ => none }
def JoinNumbersWrongFalsely : Prop := joinNumbersRow.holds Tryz.pinned (OpenSpec.ofChange joinNumbersWrong)

/-- 'trefoillaw5.JoinSets': WHATEVER THE INPUT: true; the input reads as it did. -/
def joinSetsSpec : ChangeSpec := { name := "joinSets", fn := fun _ => fun
  | [d1, d2] => { results := [.lit (.bool true)], args := [d1, d2] }
  | _ => none }
def joinSetsRow : OpenClaim := { program := "ytihpnfpdocnniaagreat", sum := "915016cea64574f48449be161ae94e66ac984da04f5d24ec8199995ed872e4d6", func := "trefoil/trefoillaw5.JoinSets", spec := "joinSets", inPlace := ["internal/bytealg.abigen_runtime_cmpstring", "internal/reflectlite.TypeOf"], unfollowed := true, recurses := true, apart := false }
def JoinSetsSaid : Prop := joinSetsRow.holds Tryz.pinned (OpenSpec.ofChange joinSetsSpec)

/-- ITS FALSE NEIGHBOUR: 'it returns false'. Refute it at one input. -/
def joinSetsWrong : ChangeSpec := { name := "joinSets", fn := fun _ => fun
  | [d1, d2] => { results := [.lit (.bool false)], args := [d1, d2] }
  | _ => none }
def JoinSetsWrongFalsely : Prop := joinSetsRow.holds Tryz.pinned (OpenSpec.ofChange joinSetsWrong)

/-- 'trefoillaw5.JoinMaps': WHATEVER THE INPUT: true; the input reads as it did. -/
def joinMapsSpec : ChangeSpec := { name := "joinMaps", fn := fun _ => fun
  | [d1, d2] => { results := [.lit (.bool true)], args := [d1, d2] }
  | _ => none }
def joinMapsRow : OpenClaim := { program := "ytihpnfpdocnniaagreat", sum := "915016cea64574f48449be161ae94e66ac984da04f5d24ec8199995ed872e4d6", func := "trefoil/trefoillaw5.JoinMaps", spec := "joinMaps", inPlace := ["internal/bytealg.abigen_runtime_cmpstring", "internal/reflectlite.TypeOf"], unfollowed := true, recurses := true, apart := false }
def JoinMapsSaid : Prop := joinMapsRow.holds Tryz.pinned (OpenSpec.ofChange joinMapsSpec)

/-- ITS FALSE NEIGHBOUR: 'it returns false'. Refute it at one input. -/
def joinMapsWrong : ChangeSpec := { name := "joinMaps", fn := fun _ => fun
  | [d1, d2] => { results := [.lit (.bool false)], args := [d1, d2] }
  | _ => none }
def JoinMapsWrongFalsely : Prop := joinMapsRow.holds Tryz.pinned (OpenSpec.ofChange joinMapsWrong)

/-- 'trefoillaw5.JoinPairs': WHATEVER THE INPUT: true; the input reads as it did. -/
def joinPairsSpec : ChangeSpec := { name := "joinPairs", fn := fun _ => fun
  | [d1, d2, d3, d4, d5, d6] => { results := [.lit (.bool true)], args := [d1, d2, d3, d4, d5, d6] }
  | _ => none }
def joinPairsRow : OpenClaim := { program := "ytihpnfpdocnniaagreat", sum := "915016cea64574f48449be161ae94e66ac984da04f5d24ec8199995ed872e4d6", func := "trefoil/trefoillaw5.JoinPairs", spec := "joinPairs", inPlace := ["internal/bytealg.abigen_runtime_cmpstring", "internal/reflectlite.TypeOf"], unfollowed := true, recurses := true, apart := false }
def JoinPairsSaid : Prop := joinPairsRow.holds Tryz.pinned (OpenSpec.ofChange joinPairsSpec)

/-- ITS FALSE NEIGHBOUR: 'it returns false'. Refute it at one input. -/
def joinPairsWrong : ChangeSpec := { name := "joinPairs", fn := fun _ => fun
  | [d1, d2, d3, d4, d5, d6] => { results := [.lit (.bool false)], args := [d1, d2, d3, d4, d5, d6] }
  | _ => none }
def JoinPairsWrongFalsely : Prop := joinPairsRow.holds Tryz.pinned (OpenSpec.ofChange joinPairsWrong)

/-- 'trefoillaw5.JoinLasts': WHATEVER THE INPUT: true; the input reads as it did. -/
def joinLastsSpec : ChangeSpec := { name := "joinLasts", fn := fun _ => fun
  | [d1, d2, d3, d4, d5, d6] => { results := [.lit (.bool true)], args := [d1, d2, d3, d4, d5, d6] }
  | _ => none }
def joinLastsRow : OpenClaim := { program := "ytihpnfpdocnniaagreat", sum := "915016cea64574f48449be161ae94e66ac984da04f5d24ec8199995ed872e4d6", func := "trefoil/trefoillaw5.JoinLasts", spec := "joinLasts", inPlace := ["internal/bytealg.abigen_runtime_cmpstring", "internal/reflectlite.TypeOf"], unfollowed := true, recurses := true, apart := false }
def JoinLastsSaid : Prop := joinLastsRow.holds Tryz.pinned (OpenSpec.ofChange joinLastsSpec)

/-- ITS FALSE NEIGHBOUR: 'it returns false'. Refute it at one input. -/
def joinLastsWrong : ChangeSpec := { name := "joinLasts", fn := fun _ => fun
  | [d1, d2, d3, d4, d5, d6] => { results := [.lit (.bool false)], args := [d1, d2, d3, d4, d5, d6] }
  | _ => none }
def JoinLastsWrongFalsely : Prop := joinLastsRow.holds Tryz.pinned (OpenSpec.ofChange joinLastsWrong)

/-- 'trefoillaw5.JoinSiblings': WHATEVER THE INPUT: true; the input reads as it did. -/
def joinSiblingsSpec : ChangeSpec := { name := "joinSiblings", fn := fun _ => fun
  | [d1, d2] => { results := [.lit (.bool true)], args := [d1, d2] }
  | _ => none }
def joinSiblingsRow : OpenClaim := { program := "ytihpnfpdocnniaagreat", sum := "915016cea64574f48449be161ae94e66ac984da04f5d24ec8199995ed872e4d6", func := "trefoil/trefoillaw5.JoinSiblings", spec := "joinSiblings", inPlace := ["internal/bytealg.abigen_runtime_cmpstring", "internal/reflectlite.TypeOf"], unfollowed := true, recurses := true, apart := false }
def JoinSiblingsSaid : Prop := joinSiblingsRow.holds Tryz.pinned (OpenSpec.ofChange joinSiblingsSpec)

/-- ITS FALSE NEIGHBOUR: 'it returns false'. Refute it at one input. -/
def joinSiblingsWrong : ChangeSpec := { name := "joinSiblings", fn := fun _ => fun
  | [d1, d2] => { results := [.lit (.bool false)], args := [d1, d2] }
  | _ => none }
def JoinSiblingsWrongFalsely : Prop := joinSiblingsRow.holds Tryz.pinned (OpenSpec.ofChange joinSiblingsWrong)

/-- 'trefoillaw5.JoinTwins': WHATEVER THE INPUT: true; the input reads as it did. -/
def joinTwinsSpec : ChangeSpec := { name := "joinTwins", fn := fun _ => fun
  | [d1, d2, d3] => { results := [.lit (.bool true)], args := [d1, d2, d3] }
  | _ => none }
def joinTwinsRow : OpenClaim := { program := "ytihpnfpdocnniaagreat", sum := "915016cea64574f48449be161ae94e66ac984da04f5d24ec8199995ed872e4d6", func := "trefoil/trefoillaw5.JoinTwins", spec := "joinTwins", inPlace := ["internal/bytealg.abigen_runtime_cmpstring", "internal/reflectlite.TypeOf"], unfollowed := true, recurses := true, apart := false }
def JoinTwinsSaid : Prop := joinTwinsRow.holds Tryz.pinned (OpenSpec.ofChange joinTwinsSpec)

/-- ITS FALSE NEIGHBOUR: 'it returns false'. Refute it at one input. -/
def joinTwinsWrong : ChangeSpec := { name := "joinTwins", fn := fun _ => fun
  | [d1, d2, d3] => { results := [.lit (.bool false)], args := [d1, d2, d3] }
  | _ => none }
def JoinTwinsWrongFalsely : Prop := joinTwinsRow.holds Tryz.pinned (OpenSpec.ofChange joinTwinsWrong)

/- THE SECOND FORM. 'bulk': how many values and letters a reading holds, each counted each time it is reached (what is shared counts as often as it is met; a slice's spare places count too). A statement '..UptoSaid' is the law's where the arguments, and the package variables that the reading takes, are together of bulk at most 1048576: NARROWER than '..Said'. Prove '..Said' where nothing that the law and all that it calls make is longer than what came in: it says more and counts as full. Else prove '..UptoSaid'. A law counts once. -/
mutual
def uptoBulk {H : Type} : DataW H → Nat
  | .lit (.string bytes) => bytes.length + 1
  | .lit _ => 1
  | .nil => 1
  | .ptr d => uptoBulk d + 1
  | .slice elems spare => uptoBulkAll elems + uptoBulkAll spare + 1
  | .agg parts => uptoBulkAll parts + 1
  | .iface _ d => uptoBulk d + 1
  | .map entries => uptoBulkEntries entries + 1
  | .held _ => 1
def uptoBulkAll {H : Type} : List (DataW H) → Nat
  | [] => 0
  | d :: r => uptoBulk d + uptoBulkAll r
def uptoBulkEntries {H : Type} : List (Lit × DataW H) → Nat
  | [] => 0
  | x :: r => uptoBulkEntry x + uptoBulkEntries r
def uptoBulkEntry {H : Type} : Lit × DataW H → Nat
  | (.string bytes, d) => bytes.length + uptoBulk d + 1
  | (_, d) => uptoBulk d + 1
 end
def uptoSmall : (H : Type) → List (DataW H) → Bool := fun _ ds => decide (uptoBulkAll ds ≤ 1048576)
def OpenSpec.upto (s : _root_.Go.ChangeSpec) : _root_.Go.OpenSpec := { _root_.Go.OpenSpec.ofChange s with cond := some uptoSmall }

/-- 'trefoillaw5.JoinNumbers', WHERE WHAT IT READS IS OF BULK AT MOST 1048576: true; the input reads as it did. -/
def joinNumbersUptoRow : OpenClaim := { program := "ytihpnfpdocnniaagreat", sum := "915016cea64574f48449be161ae94e66ac984da04f5d24ec8199995ed872e4d6", func := "trefoil/trefoillaw5.JoinNumbers", spec := "joinNumbers", inPlace := ["internal/bytealg.abigen_runtime_cmpstring", "internal/reflectlite.TypeOf"], unfollowed := true, recurses := true, apart := false, narrowed := true }
def JoinNumbersUptoSaid : Prop := joinNumbersUptoRow.holds Tryz.pinned (OpenSpec.upto joinNumbersSpec)

/-- 'trefoillaw5.JoinSets', WHERE WHAT IT READS IS OF BULK AT MOST 1048576: true; the input reads as it did. -/
def joinSetsUptoRow : OpenClaim := { program := "ytihpnfpdocnniaagreat", sum := "915016cea64574f48449be161ae94e66ac984da04f5d24ec8199995ed872e4d6", func := "trefoil/trefoillaw5.JoinSets", spec := "joinSets", inPlace := ["internal/bytealg.abigen_runtime_cmpstring", "internal/reflectlite.TypeOf"], unfollowed := true, recurses := true, apart := false, narrowed := true }
def JoinSetsUptoSaid : Prop := joinSetsUptoRow.holds Tryz.pinned (OpenSpec.upto joinSetsSpec)

/-- 'trefoillaw5.JoinMaps', WHERE WHAT IT READS IS OF BULK AT MOST 1048576: true; the input reads as it did. -/
def joinMapsUptoRow : OpenClaim := { program := "ytihpnfpdocnniaagreat", sum := "915016cea64574f48449be161ae94e66ac984da04f5d24ec8199995ed872e4d6", func := "trefoil/trefoillaw5.JoinMaps", spec := "joinMaps", inPlace := ["internal/bytealg.abigen_runtime_cmpstring", "internal/reflectlite.TypeOf"], unfollowed := true, recurses := true, apart := false, narrowed := true }
def JoinMapsUptoSaid : Prop := joinMapsUptoRow.holds Tryz.pinned (OpenSpec.upto joinMapsSpec)

/-- 'trefoillaw5.JoinPairs', WHERE WHAT IT READS IS OF BULK AT MOST 1048576: true; the input reads as it did. -/
def joinPairsUptoRow : OpenClaim := { program := "ytihpnfpdocnniaagreat", sum := "915016cea64574f48449be161ae94e66ac984da04f5d24ec8199995ed872e4d6", func := "trefoil/trefoillaw5.JoinPairs", spec := "joinPairs", inPlace := ["internal/bytealg.abigen_runtime_cmpstring", "internal/reflectlite.TypeOf"], unfollowed := true, recurses := true, apart := false, narrowed := true }
def JoinPairsUptoSaid : Prop := joinPairsUptoRow.holds Tryz.pinned (OpenSpec.upto joinPairsSpec)

/-- 'trefoillaw5.JoinLasts', WHERE WHAT IT READS IS OF BULK AT MOST 1048576: true; the input reads as it did. -/
def joinLastsUptoRow : OpenClaim := { program := "ytihpnfpdocnniaagreat", sum := "915016cea64574f48449be161ae94e66ac984da04f5d24ec8199995ed872e4d6", func := "trefoil/trefoillaw5.JoinLasts", spec := "joinLasts", inPlace := ["internal/bytealg.abigen_runtime_cmpstring", "internal/reflectlite.TypeOf"], unfollowed := true, recurses := true, apart := false, narrowed := true }
def JoinLastsUptoSaid : Prop := joinLastsUptoRow.holds Tryz.pinned (OpenSpec.upto joinLastsSpec)

/-- 'trefoillaw5.JoinSiblings', WHERE WHAT IT READS IS OF BULK AT MOST 1048576: true; the input reads as it did. -/
def joinSiblingsUptoRow : OpenClaim := { program := "ytihpnfpdocnniaagreat", sum := "915016cea64574f48449be161ae94e66ac984da04f5d24ec8199995ed872e4d6", func := "trefoil/trefoillaw5.JoinSiblings", spec := "joinSiblings", inPlace := ["internal/bytealg.abigen_runtime_cmpstring", "internal/reflectlite.TypeOf"], unfollowed := true, recurses := true, apart := false, narrowed := true }
def JoinSiblingsUptoSaid : Prop := joinSiblingsUptoRow.holds Tryz.pinned (OpenSpec.upto joinSiblingsSpec)

/-- 'trefoillaw5.JoinTwins', WHERE WHAT IT READS IS OF BULK AT MOST 1048576: true; the input reads as it did. -/
def joinTwinsUptoRow : OpenClaim := { program := "ytihpnfpdocnniaagreat", sum := "915016cea64574f48449be161ae94e66ac984da04f5d24ec8199995ed872e4d6", func := "trefoil/trefoillaw5.JoinTwins", spec := "joinTwins", inPlace := ["internal/bytealg.abigen_runtime_cmpstring", "internal/reflectlite.TypeOf"], unfollowed := true, recurses := true, apart := false, narrowed := true }
def JoinTwinsUptoSaid : Prop := joinTwinsUptoRow.holds Tryz.pinned (OpenSpec.upto joinTwinsSpec)

end Rows
end Go.Proofs.YtihpnfpdocnniaaGreat
