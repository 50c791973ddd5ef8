/-
  NARROWER THAN 'FOR EVERY INPUT', by the rows' own cells (each row's printed sentence says how): StampLaws: loops · JoinRows: loops · PartsJoin: loops.
  DERIVED. THE GIVEN ROWS OF THIS SEAT. 12 by the template 'for every input the law returns true; each argument reads behind the call as it read before'; 0 by the template 'total and deterministic' (their statements: YtlooahbfpmigfaaGreatTotals.lean).
  GIVEN WITH THE SEED: the statements are not yours to turn. If you find one false, say at which input.
  Laid BY PROGRAM, IN A SANDBOX (cutbox-rows.mjs): the forced cells as the released guide's own fill.sh prints them over the translation e54cc9de44a25963… (all of the seat's roots in one cut). By AI agents, Wed Nov 11 2026. No macro, syntax, notation, axiom, sorry.
-/
import Derived.Test.YtlooahbfpmigfaaGreatChecked
import GoSem.Claim
import GoSem.ClaimJoined
import GoSem.ClaimMapViews
import Derived.JoinedTies
import Derived.KernelRfl
namespace Go.Proofs.YtlooahbfpmigfaaGreat
/- THE CELL 'sum', in the pinned program and in every row, IS THE sha256 OF THE DUMP (.gsa) THAT YtlooahbfpmigfaaGreatProg.lean LOADS. Nothing in Lean hashes anything: it is a label: what it is worth is what the hold of that sum in a sandbox is worth. -/
noncomputable def Tryz.pinned : Pinned := { name := "ytlooahbfpmigfaagreat", sum := "e54cc9de44a25963df5333cb7dddc35a6f4a957ecc242f002e81821700ab7ce7", checked := Tryz.checked }
namespace Rows
def none {H : Type} : Left H := { results := [], args := [] }

/-- 'trefoillaw6.OrderSets': WHATEVER THE INPUT: true; the input reads as it did. -/
def orderSetsSpec : ChangeSpec := { name := "orderSets", fn := fun _ => fun
  | [d1, d2] => { results := [.lit (.bool true)], args := [d1, d2] }
  | _ => none }
def orderSetsRow : OpenClaim := { program := "ytlooahbfpmigfaagreat", sum := "e54cc9de44a25963df5333cb7dddc35a6f4a957ecc242f002e81821700ab7ce7", func := "trefoil/trefoillaw6.OrderSets", spec := "orderSets", inPlace := ["internal/bytealg.abigen_runtime_cmpstring", "internal/reflectlite.TypeOf"], unfollowed := true, recurses := true, apart := false }
def OrderSetsSaid : Prop := orderSetsRow.holds Tryz.pinned (OpenSpec.ofChange orderSetsSpec)

/-- ITS FALSE NEIGHBOUR: 'it returns false'. Refute it at one input. -/
def orderSetsWrong : ChangeSpec := { name := "orderSets", fn := fun _ => fun
  | [d1, d2] => { results := [.lit (.bool false)], args := [d1, d2] }
  | _ => none }
def OrderSetsWrongFalsely : Prop := orderSetsRow.holds Tryz.pinned (OpenSpec.ofChange orderSetsWrong)

/-- 'trefoillaw6.OrderNumbers': WHATEVER THE INPUT: true; the input reads as it did. -/
def orderNumbersSpec : ChangeSpec := { name := "orderNumbers", fn := fun _ => fun
  | [d1, d2, d3, d4] => { results := [.lit (.bool true)], args := [d1, d2, d3, d4] }
  | _ => none }
def orderNumbersRow : OpenClaim := { program := "ytlooahbfpmigfaagreat", sum := "e54cc9de44a25963df5333cb7dddc35a6f4a957ecc242f002e81821700ab7ce7", func := "trefoil/trefoillaw6.OrderNumbers", spec := "orderNumbers", inPlace := ["internal/bytealg.abigen_runtime_cmpstring", "internal/reflectlite.TypeOf"], unfollowed := true, recurses := true, apart := false }
def OrderNumbersSaid : Prop := orderNumbersRow.holds Tryz.pinned (OpenSpec.ofChange orderNumbersSpec)

/-- ITS FALSE NEIGHBOUR: 'it returns false'. Refute it at one input. -/
def orderNumbersWrong : ChangeSpec := { name := "orderNumbers", fn := fun _ => fun
  | [d1, d2, d3, d4] => { results := [.lit (.bool false)], args := [d1, d2, d3, d4] }
  | _ => none }
def OrderNumbersWrongFalsely : Prop := orderNumbersRow.holds Tryz.pinned (OpenSpec.ofChange orderNumbersWrong)

/-- 'trefoillaw6.OrderPairs': WHATEVER THE INPUT: true; the input reads as it did. -/
def orderPairsSpec : ChangeSpec := { name := "orderPairs", fn := fun _ => fun
  | [d1, d2, d3, d4] => { results := [.lit (.bool true)], args := [d1, d2, d3, d4] }
  | _ => none }
def orderPairsRow : OpenClaim := { program := "ytlooahbfpmigfaagreat", sum := "e54cc9de44a25963df5333cb7dddc35a6f4a957ecc242f002e81821700ab7ce7", func := "trefoil/trefoillaw6.OrderPairs", spec := "orderPairs", inPlace := ["internal/bytealg.abigen_runtime_cmpstring", "internal/reflectlite.TypeOf"], unfollowed := true, recurses := true, apart := false }
def OrderPairsSaid : Prop := orderPairsRow.holds Tryz.pinned (OpenSpec.ofChange orderPairsSpec)

/-- ITS FALSE NEIGHBOUR: 'it returns false'. Refute it at one input. -/
def orderPairsWrong : ChangeSpec := { name := "orderPairs", fn := fun _ => fun
  | [d1, d2, d3, d4] => { results := [.lit (.bool false)], args := [d1, d2, d3, d4] }
  | _ => none }
def OrderPairsWrongFalsely : Prop := orderPairsRow.holds Tryz.pinned (OpenSpec.ofChange orderPairsWrong)

/-- 'trefoillaw6.OrderClocks': WHATEVER THE INPUT: true; the input reads as it did. -/
def orderClocksSpec : ChangeSpec := { name := "orderClocks", fn := fun _ => fun
  | [d1, d2] => { results := [.lit (.bool true)], args := [d1, d2] }
  | _ => none }
def orderClocksRow : OpenClaim := { program := "ytlooahbfpmigfaagreat", sum := "e54cc9de44a25963df5333cb7dddc35a6f4a957ecc242f002e81821700ab7ce7", func := "trefoil/trefoillaw6.OrderClocks", spec := "orderClocks", inPlace := ["internal/bytealg.abigen_runtime_cmpstring", "internal/reflectlite.TypeOf"], unfollowed := true, recurses := true, apart := false }
def OrderClocksSaid : Prop := orderClocksRow.holds Tryz.pinned (OpenSpec.ofChange orderClocksSpec)

/-- ITS FALSE NEIGHBOUR: 'it returns false'. Refute it at one input. -/
def orderClocksWrong : ChangeSpec := { name := "orderClocks", fn := fun _ => fun
  | [d1, d2] => { results := [.lit (.bool false)], args := [d1, d2] }
  | _ => none }
def OrderClocksWrongFalsely : Prop := orderClocksRow.holds Tryz.pinned (OpenSpec.ofChange orderClocksWrong)

/-- 'trefoillaw6.OrderVersions': WHATEVER THE INPUT: true; the input reads as it did. -/
def orderVersionsSpec : ChangeSpec := { name := "orderVersions", fn := fun _ => fun
  | [d1, d2, d3, d4] => { results := [.lit (.bool true)], args := [d1, d2, d3, d4] }
  | _ => none }
def orderVersionsRow : OpenClaim := { program := "ytlooahbfpmigfaagreat", sum := "e54cc9de44a25963df5333cb7dddc35a6f4a957ecc242f002e81821700ab7ce7", func := "trefoil/trefoillaw6.OrderVersions", spec := "orderVersions", inPlace := ["internal/bytealg.abigen_runtime_cmpstring", "internal/reflectlite.TypeOf"], unfollowed := true, recurses := true, apart := false }
def OrderVersionsSaid : Prop := orderVersionsRow.holds Tryz.pinned (OpenSpec.ofChange orderVersionsSpec)

/-- ITS FALSE NEIGHBOUR: 'it returns false'. Refute it at one input. -/
def orderVersionsWrong : ChangeSpec := { name := "orderVersions", fn := fun _ => fun
  | [d1, d2, d3, d4] => { results := [.lit (.bool false)], args := [d1, d2, d3, d4] }
  | _ => none }
def OrderVersionsWrongFalsely : Prop := orderVersionsRow.holds Tryz.pinned (OpenSpec.ofChange orderVersionsWrong)

/-- 'trefoillaw11.StampLaws': WHATEVER THE INPUT: true; the input reads as it did. -/
def stampLawsSpec : ChangeSpec := { name := "stampLaws", fn := fun _ => fun
  | [d1, d2, d3] => { results := [.lit (.bool true)], args := [d1, d2, d3] }
  | _ => none }
def stampLawsRow : OpenClaim := { program := "ytlooahbfpmigfaagreat", sum := "e54cc9de44a25963df5333cb7dddc35a6f4a957ecc242f002e81821700ab7ce7", func := "trefoil/trefoillaw11.StampLaws", spec := "stampLaws", inPlace := ["internal/bytealg.abigen_runtime_cmpstring", "internal/reflectlite.TypeOf"], unfollowed := true, recurses := true, loops := true, apart := false }
def StampLawsSaid : Prop := stampLawsRow.holds Tryz.pinned (OpenSpec.ofChange stampLawsSpec)

/-- ITS FALSE NEIGHBOUR: 'it returns false'. Refute it at one input. -/
def stampLawsWrong : ChangeSpec := { name := "stampLaws", fn := fun _ => fun
  | [d1, d2, d3] => { results := [.lit (.bool false)], args := [d1, d2, d3] }
  | _ => none }
def StampLawsWrongFalsely : Prop := stampLawsRow.holds Tryz.pinned (OpenSpec.ofChange stampLawsWrong)

/-- 'trefoillaw5.JoinRows': WHATEVER THE INPUT: true; the input reads as it did. -/
def joinRowsSpec : ChangeSpec := { name := "joinRows", fn := fun _ => fun
  | [d1, d2, d3, d4] => { results := [.lit (.bool true)], args := [d1, d2, d3, d4] }
  | _ => none }
def joinRowsRow : OpenClaim := { program := "ytlooahbfpmigfaagreat", sum := "e54cc9de44a25963df5333cb7dddc35a6f4a957ecc242f002e81821700ab7ce7", func := "trefoil/trefoillaw5.JoinRows", spec := "joinRows", inPlace := ["internal/bytealg.abigen_runtime_cmpstring", "internal/reflectlite.TypeOf"], unfollowed := true, recurses := true, loops := true, apart := false }
def JoinRowsSaid : Prop := joinRowsRow.holds Tryz.pinned (OpenSpec.ofChange joinRowsSpec)

/-- ITS FALSE NEIGHBOUR: 'it returns false'. Refute it at one input. -/
def joinRowsWrong : ChangeSpec := { name := "joinRows", fn := fun _ => fun
  | [d1, d2, d3, d4] => { results := [.lit (.bool false)], args := [d1, d2, d3, d4] }
  | _ => none }
def JoinRowsWrongFalsely : Prop := joinRowsRow.holds Tryz.pinned (OpenSpec.ofChange joinRowsWrong)

/-- 'trefoillaw8.PartsCounts': WHATEVER THE INPUT: true; the input reads as it did. -/
def partsCountsSpec : ChangeSpec := { name := "partsCounts", fn := fun _ => fun
  | [d] => { results := [.lit (.bool true)], args := [d] }
  | _ => none }
def partsCountsRow : OpenClaim := { program := "ytlooahbfpmigfaagreat", sum := "e54cc9de44a25963df5333cb7dddc35a6f4a957ecc242f002e81821700ab7ce7", func := "trefoil/trefoillaw8.PartsCounts", spec := "partsCounts", inPlace := ["internal/bytealg.abigen_runtime_cmpstring", "internal/reflectlite.TypeOf"], unfollowed := true, recurses := true, apart := false }
def PartsCountsSaid : Prop := partsCountsRow.holds Tryz.pinned (OpenSpec.ofChange partsCountsSpec)

/-- ITS FALSE NEIGHBOUR: 'it returns false'. Refute it at one input. -/
def partsCountsWrong : ChangeSpec := { name := "partsCounts", fn := fun _ => fun
  | [d] => { results := [.lit (.bool false)], args := [d] }
  | _ => none }
def PartsCountsWrongFalsely : Prop := partsCountsRow.holds Tryz.pinned (OpenSpec.ofChange partsCountsWrong)

/-- 'trefoillaw8.PartsDiffSets': WHATEVER THE INPUT: true; the input reads as it did. -/
def partsDiffSetsSpec : ChangeSpec := { name := "partsDiffSets", fn := fun _ => fun
  | [d1, d2] => { results := [.lit (.bool true)], args := [d1, d2] }
  | _ => none }
def partsDiffSetsRow : OpenClaim := { program := "ytlooahbfpmigfaagreat", sum := "e54cc9de44a25963df5333cb7dddc35a6f4a957ecc242f002e81821700ab7ce7", func := "trefoil/trefoillaw8.PartsDiffSets", spec := "partsDiffSets", inPlace := ["internal/bytealg.abigen_runtime_cmpstring", "internal/reflectlite.TypeOf"], unfollowed := true, recurses := true, apart := false }
def PartsDiffSetsSaid : Prop := partsDiffSetsRow.holds Tryz.pinned (OpenSpec.ofChange partsDiffSetsSpec)

/-- ITS FALSE NEIGHBOUR: 'it returns false'. Refute it at one input. -/
def partsDiffSetsWrong : ChangeSpec := { name := "partsDiffSets", fn := fun _ => fun
  | [d1, d2] => { results := [.lit (.bool false)], args := [d1, d2] }
  | _ => none }
def PartsDiffSetsWrongFalsely : Prop := partsDiffSetsRow.holds Tryz.pinned (OpenSpec.ofChange partsDiffSetsWrong)

/-- 'trefoillaw8.PartsDiffMaps': WHATEVER THE INPUT: true; the input reads as it did. -/
def partsDiffMapsSpec : ChangeSpec := { name := "partsDiffMaps", fn := fun _ => fun
  | [d1, d2] => { results := [.lit (.bool true)], args := [d1, d2] }
  | _ => none }
def partsDiffMapsRow : OpenClaim := { program := "ytlooahbfpmigfaagreat", sum := "e54cc9de44a25963df5333cb7dddc35a6f4a957ecc242f002e81821700ab7ce7", func := "trefoil/trefoillaw8.PartsDiffMaps", spec := "partsDiffMaps", inPlace := ["internal/bytealg.abigen_runtime_cmpstring", "internal/reflectlite.TypeOf"], unfollowed := true, recurses := true, apart := false }
def PartsDiffMapsSaid : Prop := partsDiffMapsRow.holds Tryz.pinned (OpenSpec.ofChange partsDiffMapsSpec)

/-- ITS FALSE NEIGHBOUR: 'it returns false'. Refute it at one input. -/
def partsDiffMapsWrong : ChangeSpec := { name := "partsDiffMaps", fn := fun _ => fun
  | [d1, d2] => { results := [.lit (.bool false)], args := [d1, d2] }
  | _ => none }
def PartsDiffMapsWrongFalsely : Prop := partsDiffMapsRow.holds Tryz.pinned (OpenSpec.ofChange partsDiffMapsWrong)

/-- 'trefoillaw8.PartsVersions': WHATEVER THE INPUT: true; the input reads as it did. -/
def partsVersionsSpec : ChangeSpec := { name := "partsVersions", fn := fun _ => fun
  | [d1, d2] => { results := [.lit (.bool true)], args := [d1, d2] }
  | _ => none }
def partsVersionsRow : OpenClaim := { program := "ytlooahbfpmigfaagreat", sum := "e54cc9de44a25963df5333cb7dddc35a6f4a957ecc242f002e81821700ab7ce7", func := "trefoil/trefoillaw8.PartsVersions", spec := "partsVersions", inPlace := ["internal/bytealg.abigen_runtime_cmpstring", "internal/reflectlite.TypeOf"], unfollowed := true, recurses := true, apart := false }
def PartsVersionsSaid : Prop := partsVersionsRow.holds Tryz.pinned (OpenSpec.ofChange partsVersionsSpec)

/-- ITS FALSE NEIGHBOUR: 'it returns false'. Refute it at one input. -/
def partsVersionsWrong : ChangeSpec := { name := "partsVersions", fn := fun _ => fun
  | [d1, d2] => { results := [.lit (.bool false)], args := [d1, d2] }
  | _ => none }
def PartsVersionsWrongFalsely : Prop := partsVersionsRow.holds Tryz.pinned (OpenSpec.ofChange partsVersionsWrong)

/-- 'trefoillaw8.PartsJoin': WHATEVER THE INPUT: true; the input reads as it did. -/
def partsJoinSpec : ChangeSpec := { name := "partsJoin", fn := fun _ => fun
  | [d1, d2, d3] => { results := [.lit (.bool true)], args := [d1, d2, d3] }
  | _ => none }
def partsJoinRow : OpenClaim := { program := "ytlooahbfpmigfaagreat", sum := "e54cc9de44a25963df5333cb7dddc35a6f4a957ecc242f002e81821700ab7ce7", func := "trefoil/trefoillaw8.PartsJoin", spec := "partsJoin", inPlace := ["internal/bytealg.abigen_runtime_cmpstring", "internal/reflectlite.TypeOf"], unfollowed := true, recurses := true, loops := true, apart := false }
def PartsJoinSaid : Prop := partsJoinRow.holds Tryz.pinned (OpenSpec.ofChange partsJoinSpec)

/-- ITS FALSE NEIGHBOUR: 'it returns false'. Refute it at one input. -/
def partsJoinWrong : ChangeSpec := { name := "partsJoin", fn := fun _ => fun
  | [d1, d2, d3] => { results := [.lit (.bool false)], args := [d1, d2, d3] }
  | _ => none }
def PartsJoinWrongFalsely : Prop := partsJoinRow.holds Tryz.pinned (OpenSpec.ofChange partsJoinWrong)

/- THE SECOND FORM. 'bulk': how many values and letters a reading holds, each counted each time it is reached (what is shared counts as often as it is met; a slice's spare places count too). A statement '..UptoSaid' is the law's where the arguments, and the package variables that the reading takes, are together of bulk at most 1048576: NARROWER than '..Said'. Prove '..Said' where nothing that the law and all that it calls make is longer than what came in: it says more and counts as full. Else prove '..UptoSaid'. A law counts once. -/
mutual
def uptoBulk {H : Type} : DataW H → Nat
  | .lit (.string bytes) => bytes.length + 1
  | .lit _ => 1
  | .nil => 1
  | .ptr d => uptoBulk d + 1
  | .slice elems spare => uptoBulkAll elems + uptoBulkAll spare + 1
  | .agg parts => uptoBulkAll parts + 1
  | .iface _ d => uptoBulk d + 1
  | .map entries => uptoBulkEntries entries + 1
  | .held _ => 1
def uptoBulkAll {H : Type} : List (DataW H) → Nat
  | [] => 0
  | d :: r => uptoBulk d + uptoBulkAll r
def uptoBulkEntries {H : Type} : List (Lit × DataW H) → Nat
  | [] => 0
  | x :: r => uptoBulkEntry x + uptoBulkEntries r
def uptoBulkEntry {H : Type} : Lit × DataW H → Nat
  | (.string bytes, d) => bytes.length + uptoBulk d + 1
  | (_, d) => uptoBulk d + 1
 end
def uptoSmall : (H : Type) → List (DataW H) → Bool := fun _ ds => decide (uptoBulkAll ds ≤ 1048576)
def OpenSpec.upto (s : _root_.Go.ChangeSpec) : _root_.Go.OpenSpec := { _root_.Go.OpenSpec.ofChange s with cond := some uptoSmall }

/-- 'trefoillaw6.OrderSets', WHERE WHAT IT READS IS OF BULK AT MOST 1048576: true; the input reads as it did. -/
def orderSetsUptoRow : OpenClaim := { program := "ytlooahbfpmigfaagreat", sum := "e54cc9de44a25963df5333cb7dddc35a6f4a957ecc242f002e81821700ab7ce7", func := "trefoil/trefoillaw6.OrderSets", spec := "orderSets", inPlace := ["internal/bytealg.abigen_runtime_cmpstring", "internal/reflectlite.TypeOf"], unfollowed := true, recurses := true, apart := false, narrowed := true }
def OrderSetsUptoSaid : Prop := orderSetsUptoRow.holds Tryz.pinned (OpenSpec.upto orderSetsSpec)

/-- 'trefoillaw6.OrderNumbers', WHERE WHAT IT READS IS OF BULK AT MOST 1048576: true; the input reads as it did. -/
def orderNumbersUptoRow : OpenClaim := { program := "ytlooahbfpmigfaagreat", sum := "e54cc9de44a25963df5333cb7dddc35a6f4a957ecc242f002e81821700ab7ce7", func := "trefoil/trefoillaw6.OrderNumbers", spec := "orderNumbers", inPlace := ["internal/bytealg.abigen_runtime_cmpstring", "internal/reflectlite.TypeOf"], unfollowed := true, recurses := true, apart := false, narrowed := true }
def OrderNumbersUptoSaid : Prop := orderNumbersUptoRow.holds Tryz.pinned (OpenSpec.upto orderNumbersSpec)

/-- 'trefoillaw6.OrderPairs', WHERE WHAT IT READS IS OF BULK AT MOST 1048576: true; the input reads as it did. -/
def orderPairsUptoRow : OpenClaim := { program := "ytlooahbfpmigfaagreat", sum := "e54cc9de44a25963df5333cb7dddc35a6f4a957ecc242f002e81821700ab7ce7", func := "trefoil/trefoillaw6.OrderPairs", spec := "orderPairs", inPlace := ["internal/bytealg.abigen_runtime_cmpstring", "internal/reflectlite.TypeOf"], unfollowed := true, recurses := true, apart := false, narrowed := true }
def OrderPairsUptoSaid : Prop := orderPairsUptoRow.holds Tryz.pinned (OpenSpec.upto orderPairsSpec)

/-- 'trefoillaw6.OrderClocks', WHERE WHAT IT READS IS OF BULK AT MOST 1048576: true; the input reads as it did. -/
def orderClocksUptoRow : OpenClaim := { program := "ytlooahbfpmigfaagreat", sum := "e54cc9de44a25963df5333cb7dddc35a6f4a957ecc242f002e81821700ab7ce7", func := "trefoil/trefoillaw6.OrderClocks", spec := "orderClocks", inPlace := ["internal/bytealg.abigen_runtime_cmpstring", "internal/reflectlite.TypeOf"], unfollowed := true, recurses := true, apart := false, narrowed := true }
def OrderClocksUptoSaid : Prop := orderClocksUptoRow.holds Tryz.pinned (OpenSpec.upto orderClocksSpec)

/-- 'trefoillaw6.OrderVersions', WHERE WHAT IT READS IS OF BULK AT MOST 1048576: true; the input reads as it did. -/
def orderVersionsUptoRow : OpenClaim := { program := "ytlooahbfpmigfaagreat", sum := "e54cc9de44a25963df5333cb7dddc35a6f4a957ecc242f002e81821700ab7ce7", func := "trefoil/trefoillaw6.OrderVersions", spec := "orderVersions", inPlace := ["internal/bytealg.abigen_runtime_cmpstring", "internal/reflectlite.TypeOf"], unfollowed := true, recurses := true, apart := false, narrowed := true }
def OrderVersionsUptoSaid : Prop := orderVersionsUptoRow.holds Tryz.pinned (OpenSpec.upto orderVersionsSpec)

/-- 'trefoillaw11.StampLaws', WHERE WHAT IT READS IS OF BULK AT MOST 1048576: true; the input reads as it did. -/
def stampLawsUptoRow : OpenClaim := { program := "ytlooahbfpmigfaagreat", sum := "e54cc9de44a25963df5333cb7dddc35a6f4a957ecc242f002e81821700ab7ce7", func := "trefoil/trefoillaw11.StampLaws", spec := "stampLaws", inPlace := ["internal/bytealg.abigen_runtime_cmpstring", "internal/reflectlite.TypeOf"], unfollowed := true, recurses := true, loops := true, apart := false, narrowed := true }
def StampLawsUptoSaid : Prop := stampLawsUptoRow.holds Tryz.pinned (OpenSpec.upto stampLawsSpec)

/-- 'trefoillaw5.JoinRows', WHERE WHAT IT READS IS OF BULK AT MOST 1048576: true; the input reads as it did. -/
def joinRowsUptoRow : OpenClaim := { program := "ytlooahbfpmigfaagreat", sum := "e54cc9de44a25963df5333cb7dddc35a6f4a957ecc242f002e81821700ab7ce7", func := "trefoil/trefoillaw5.JoinRows", spec := "joinRows", inPlace := ["internal/bytealg.abigen_runtime_cmpstring", "internal/reflectlite.TypeOf"], unfollowed := true, recurses := true, loops := true, apart := false, narrowed := true }
def JoinRowsUptoSaid : Prop := joinRowsUptoRow.holds Tryz.pinned (OpenSpec.upto joinRowsSpec)

/-- 'trefoillaw8.PartsCounts', WHERE WHAT IT READS IS OF BULK AT MOST 1048576: true; the input reads as it did. -/
def partsCountsUptoRow : OpenClaim := { program := "ytlooahbfpmigfaagreat", sum := "e54cc9de44a25963df5333cb7dddc35a6f4a957ecc242f002e81821700ab7ce7", func := "trefoil/trefoillaw8.PartsCounts", spec := "partsCounts", inPlace := ["internal/bytealg.abigen_runtime_cmpstring", "internal/reflectlite.TypeOf"], unfollowed := true, recurses := true, apart := false, narrowed := true }
def PartsCountsUptoSaid : Prop := partsCountsUptoRow.holds Tryz.pinned (OpenSpec.upto partsCountsSpec)

/-- 'trefoillaw8.PartsDiffSets', WHERE WHAT IT READS IS OF BULK AT MOST 1048576: true; the input reads as it did. -/
def partsDiffSetsUptoRow : OpenClaim := { program := "ytlooahbfpmigfaagreat", sum := "e54cc9de44a25963df5333cb7dddc35a6f4a957ecc242f002e81821700ab7ce7", func := "trefoil/trefoillaw8.PartsDiffSets", spec := "partsDiffSets", inPlace := ["internal/bytealg.abigen_runtime_cmpstring", "internal/reflectlite.TypeOf"], unfollowed := true, recurses := true, apart := false, narrowed := true }
def PartsDiffSetsUptoSaid : Prop := partsDiffSetsUptoRow.holds Tryz.pinned (OpenSpec.upto partsDiffSetsSpec)

/-- 'trefoillaw8.PartsDiffMaps', WHERE WHAT IT READS IS OF BULK AT MOST 1048576: true; the input reads as it did. -/
def partsDiffMapsUptoRow : OpenClaim := { program := "ytlooahbfpmigfaagreat", sum := "e54cc9de44a25963df5333cb7dddc35a6f4a957ecc242f002e81821700ab7ce7", func := "trefoil/trefoillaw8.PartsDiffMaps", spec := "partsDiffMaps", inPlace := ["internal/bytealg.abigen_runtime_cmpstring", "internal/reflectlite.TypeOf"], unfollowed := true, recurses := true, apart := false, narrowed := true }
def PartsDiffMapsUptoSaid : Prop := partsDiffMapsUptoRow.holds Tryz.pinned (OpenSpec.upto partsDiffMapsSpec)

/-- 'trefoillaw8.PartsVersions', WHERE WHAT IT READS IS OF BULK AT MOST 1048576: true; the input reads as it did. -/
def partsVersionsUptoRow : OpenClaim := { program := "ytlooahbfpmigfaagreat", sum := "e54cc9de44a25963df5333cb7dddc35a6f4a957ecc242f002e81821700ab7ce7", func := "trefoil/trefoillaw8.PartsVersions", spec := "partsVersions", inPlace := ["internal/bytealg.abigen_runtime_cmpstring", "internal/reflectlite.TypeOf"], unfollowed := true, recurses := true, apart := false, narrowed := true }
def PartsVersionsUptoSaid : Prop := partsVersionsUptoRow.holds Tryz.pinned (OpenSpec.upto partsVersionsSpec)

/-- 'trefoillaw8.PartsJoin', WHERE WHAT IT READS IS OF BULK AT MOST 1048576: true; the input reads as it did. -/
def partsJoinUptoRow : OpenClaim := { program := "ytlooahbfpmigfaagreat", sum := "e54cc9de44a25963df5333cb7dddc35a6f4a957ecc242f002e81821700ab7ce7", func := "trefoil/trefoillaw8.PartsJoin", spec := "partsJoin", inPlace := ["internal/bytealg.abigen_runtime_cmpstring", "internal/reflectlite.TypeOf"], unfollowed := true, recurses := true, loops := true, apart := false, narrowed := true }
def PartsJoinUptoSaid : Prop := partsJoinUptoRow.holds Tryz.pinned (OpenSpec.upto partsJoinSpec)

end Rows
end Go.Proofs.YtlooahbfpmigfaaGreat
