/-
  NARROWER THAN 'FOR EVERY INPUT', by the rows' own cells (each row's printed sentence says how): ValueTells: loops · ValueBottoms: loops.
  DERIVED. THE GIVEN ROWS OF THIS SEAT. 5 by the template 'for every input the law returns true; each argument reads behind the call as it read before'; 0 by the template 'total and deterministic' (their statements: YtihpnfpdocnniaaTotals.lean).
  GIVEN WITH THE SEED: the statements are not yours to turn. If you find one false, say at which input.
  Laid BY PROGRAM, IN A SANDBOX (cutbox-rows.mjs): the forced cells as the released guide's own fill.sh prints them over the translation 55b275ec4c1a0b8d… (all of the seat's roots in one cut). By AI agents, Wed Nov 11 2026. No macro, syntax, notation, axiom, sorry.
-/
import Derived.Test.YtihpnfpdocnniaaChecked
import GoSem.Claim
import GoSem.ClaimJoined
import GoSem.ClaimMapViews
import Derived.JoinedTies
import Derived.KernelRfl
namespace Go.Proofs.Ytihpnfpdocnniaa
/- THE CELL 'sum', in the pinned program and in every row, IS THE sha256 OF THE DUMP (.gsa) THAT YtihpnfpdocnniaaProg.lean LOADS. Nothing in Lean hashes anything: it is a label: what it is worth is what the hold of that sum in a sandbox is worth. -/
noncomputable def Try.pinned : Pinned := { name := "ytihpnfpdocnniaa", sum := "55b275ec4c1a0b8d58e2a0d56374db18c0f98077afb262c8bb7010eadbf39619", checked := Try.checked }
namespace Rows
def none {H : Type} : Left H := { results := [], args := [] }

/-- 'trefoillaw4.ValueTells': WHATEVER THE INPUT: true; the input reads as it did. -/
def valueTellsSpec : ChangeSpec := { name := "valueTells", fn := fun _ => fun
  | [d1, d2, d3] => { results := [.lit (.bool true)], args := [d1, d2, d3] }
  | _ => none }
def valueTellsRow : OpenClaim := { program := "ytihpnfpdocnniaa", sum := "55b275ec4c1a0b8d58e2a0d56374db18c0f98077afb262c8bb7010eadbf39619", func := "trefoil/trefoillaw4.ValueTells", spec := "valueTells", unfollowed := true, recurses := true, loops := true, apart := false }
def ValueTellsSaid : Prop := valueTellsRow.holds Try.pinned (OpenSpec.ofChange valueTellsSpec)

/-- ITS FALSE NEIGHBOUR: 'it returns false'. Refute it at one input. -/
def valueTellsWrong : ChangeSpec := { name := "valueTells", fn := fun _ => fun
  | [d1, d2, d3] => { results := [.lit (.bool false)], args := [d1, d2, d3] }
  | _ => none }
def ValueTellsWrongFalsely : Prop := valueTellsRow.holds Try.pinned (OpenSpec.ofChange valueTellsWrong)

/-- 'trefoillaw4.ValueBottoms': WHATEVER THE INPUT: true; the input reads as it did. -/
def valueBottomsSpec : ChangeSpec := { name := "valueBottoms", fn := fun _ => fun
  | [d1, d2] => { results := [.lit (.bool true)], args := [d1, d2] }
  | _ => none }
def valueBottomsRow : OpenClaim := { program := "ytihpnfpdocnniaa", sum := "55b275ec4c1a0b8d58e2a0d56374db18c0f98077afb262c8bb7010eadbf39619", func := "trefoil/trefoillaw4.ValueBottoms", spec := "valueBottoms", unfollowed := true, recurses := true, loops := true, apart := false }
def ValueBottomsSaid : Prop := valueBottomsRow.holds Try.pinned (OpenSpec.ofChange valueBottomsSpec)

/-- ITS FALSE NEIGHBOUR: 'it returns false'. Refute it at one input. -/
def valueBottomsWrong : ChangeSpec := { name := "valueBottoms", fn := fun _ => fun
  | [d1, d2] => { results := [.lit (.bool false)], args := [d1, d2] }
  | _ => none }
def ValueBottomsWrongFalsely : Prop := valueBottomsRow.holds Try.pinned (OpenSpec.ofChange valueBottomsWrong)

/-- 'trefoillaw4.ValueParts': WHATEVER THE INPUT: true; the input reads as it did. -/
def valuePartsSpec : ChangeSpec := { name := "valueParts", fn := fun _ => fun
  | [d1, d2, d3, d4, d5, d6] => { results := [.lit (.bool true)], args := [d1, d2, d3, d4, d5, d6] }
  | _ => none }
def valuePartsRow : OpenClaim := { program := "ytihpnfpdocnniaa", sum := "55b275ec4c1a0b8d58e2a0d56374db18c0f98077afb262c8bb7010eadbf39619", func := "trefoil/trefoillaw4.ValueParts", spec := "valueParts", unfollowed := true, recurses := true, apart := false }
def ValuePartsSaid : Prop := valuePartsRow.holds Try.pinned (OpenSpec.ofChange valuePartsSpec)

/-- ITS FALSE NEIGHBOUR: 'it returns false'. Refute it at one input. -/
def valuePartsWrong : ChangeSpec := { name := "valueParts", fn := fun _ => fun
  | [d1, d2, d3, d4, d5, d6] => { results := [.lit (.bool false)], args := [d1, d2, d3, d4, d5, d6] }
  | _ => none }
def ValuePartsWrongFalsely : Prop := valuePartsRow.holds Try.pinned (OpenSpec.ofChange valuePartsWrong)

/-- 'trefoillaw4.ValueSiblings': WHATEVER THE INPUT: true; the input reads as it did. -/
def valueSiblingsSpec : ChangeSpec := { name := "valueSiblings", fn := fun _ => fun
  | [d1, d2, d3, d4] => { results := [.lit (.bool true)], args := [d1, d2, d3, d4] }
  | _ => none }
def valueSiblingsRow : OpenClaim := { program := "ytihpnfpdocnniaa", sum := "55b275ec4c1a0b8d58e2a0d56374db18c0f98077afb262c8bb7010eadbf39619", func := "trefoil/trefoillaw4.ValueSiblings", spec := "valueSiblings", unfollowed := true, recurses := true, apart := false }
def ValueSiblingsSaid : Prop := valueSiblingsRow.holds Try.pinned (OpenSpec.ofChange valueSiblingsSpec)

/-- ITS FALSE NEIGHBOUR: 'it returns false'. Refute it at one input. -/
def valueSiblingsWrong : ChangeSpec := { name := "valueSiblings", fn := fun _ => fun
  | [d1, d2, d3, d4] => { results := [.lit (.bool false)], args := [d1, d2, d3, d4] }
  | _ => none }
def ValueSiblingsWrongFalsely : Prop := valueSiblingsRow.holds Try.pinned (OpenSpec.ofChange valueSiblingsWrong)

/-- 'trefoillaw4.ValueLimits': WHATEVER THE INPUT: true; the input reads as it did. -/
def valueLimitsSpec : ChangeSpec := { name := "valueLimits", fn := fun _ => fun
  | [d1, d2] => { results := [.lit (.bool true)], args := [d1, d2] }
  | _ => none }
def valueLimitsRow : OpenClaim := { program := "ytihpnfpdocnniaa", sum := "55b275ec4c1a0b8d58e2a0d56374db18c0f98077afb262c8bb7010eadbf39619", func := "trefoil/trefoillaw4.ValueLimits", spec := "valueLimits", unfollowed := true, recurses := true, apart := false }
def ValueLimitsSaid : Prop := valueLimitsRow.holds Try.pinned (OpenSpec.ofChange valueLimitsSpec)

/-- ITS FALSE NEIGHBOUR: 'it returns false'. Refute it at one input. -/
def valueLimitsWrong : ChangeSpec := { name := "valueLimits", fn := fun _ => fun
  | [d1, d2] => { results := [.lit (.bool false)], args := [d1, d2] }
  | _ => none }
def ValueLimitsWrongFalsely : Prop := valueLimitsRow.holds Try.pinned (OpenSpec.ofChange valueLimitsWrong)

/- THE SECOND FORM. 'bulk': how many values and letters a reading holds, each counted each time it is reached (what is shared counts as often as it is met; a slice's spare places count too). A statement '..UptoSaid' is the law's where the arguments, and the package variables that the reading takes, are together of bulk at most 1048576: NARROWER than '..Said'. Prove '..Said' where nothing that the law and all that it calls make is longer than what came in: it says more and counts as full. Else prove '..UptoSaid'. A law counts once. -/
mutual
def uptoBulk {H : Type} : DataW H → Nat
  | .lit (.string bytes) => bytes.length + 1
  | .lit _ => 1
  | .nil => 1
  | .ptr d => uptoBulk d + 1
  | .slice elems spare => uptoBulkAll elems + uptoBulkAll spare + 1
  | .agg parts => uptoBulkAll parts + 1
  | .iface _ d => uptoBulk d + 1
  | .map entries => uptoBulkEntries entries + 1
  | .held _ => 1
def uptoBulkAll {H : Type} : List (DataW H) → Nat
  | [] => 0
  | d :: r => uptoBulk d + uptoBulkAll r
def uptoBulkEntries {H : Type} : List (Lit × DataW H) → Nat
  | [] => 0
  | x :: r => uptoBulkEntry x + uptoBulkEntries r
def uptoBulkEntry {H : Type} : Lit × DataW H → Nat
  | (.string bytes, d) => bytes.length + uptoBulk d + 1
  | (_, d) => uptoBulk d + 1
 end
def uptoSmall : (H : Type) → List (DataW H) → Bool := fun _ ds => decide (uptoBulkAll ds ≤ 1048576)
def OpenSpec.upto (s : _root_.Go.ChangeSpec) : _root_.Go.OpenSpec := { _root_.Go.OpenSpec.ofChange s with cond := some uptoSmall }

/-- 'trefoillaw4.ValueTells', WHERE WHAT IT READS IS OF BULK AT MOST 1048576: true; the input reads as it did. -/
def valueTellsUptoRow : OpenClaim := { program := "ytihpnfpdocnniaa", sum := "55b275ec4c1a0b8d58e2a0d56374db18c0f98077afb262c8bb7010eadbf39619", func := "trefoil/trefoillaw4.ValueTells", spec := "valueTells", unfollowed := true, recurses := true, loops := true, apart := false, narrowed := true }
def ValueTellsUptoSaid : Prop := valueTellsUptoRow.holds Try.pinned (OpenSpec.upto valueTellsSpec)

/-- 'trefoillaw4.ValueBottoms', WHERE WHAT IT READS IS OF BULK AT MOST 1048576: true; the input reads as it did. -/
def valueBottomsUptoRow : OpenClaim := { program := "ytihpnfpdocnniaa", sum := "55b275ec4c1a0b8d58e2a0d56374db18c0f98077afb262c8bb7010eadbf39619", func := "trefoil/trefoillaw4.ValueBottoms", spec := "valueBottoms", unfollowed := true, recurses := true, loops := true, apart := false, narrowed := true }
def ValueBottomsUptoSaid : Prop := valueBottomsUptoRow.holds Try.pinned (OpenSpec.upto valueBottomsSpec)

/-- 'trefoillaw4.ValueParts', WHERE WHAT IT READS IS OF BULK AT MOST 1048576: true; the input reads as it did. -/
def valuePartsUptoRow : OpenClaim := { program := "ytihpnfpdocnniaa", sum := "55b275ec4c1a0b8d58e2a0d56374db18c0f98077afb262c8bb7010eadbf39619", func := "trefoil/trefoillaw4.ValueParts", spec := "valueParts", unfollowed := true, recurses := true, apart := false, narrowed := true }
def ValuePartsUptoSaid : Prop := valuePartsUptoRow.holds Try.pinned (OpenSpec.upto valuePartsSpec)

/-- 'trefoillaw4.ValueSiblings', WHERE WHAT IT READS IS OF BULK AT MOST 1048576: true; the input reads as it did. -/
def valueSiblingsUptoRow : OpenClaim := { program := "ytihpnfpdocnniaa", sum := "55b275ec4c1a0b8d58e2a0d56374db18c0f98077afb262c8bb7010eadbf39619", func := "trefoil/trefoillaw4.ValueSiblings", spec := "valueSiblings", unfollowed := true, recurses := true, apart := false, narrowed := true }
def ValueSiblingsUptoSaid : Prop := valueSiblingsUptoRow.holds Try.pinned (OpenSpec.upto valueSiblingsSpec)

/-- 'trefoillaw4.ValueLimits', WHERE WHAT IT READS IS OF BULK AT MOST 1048576: true; the input reads as it did. -/
def valueLimitsUptoRow : OpenClaim := { program := "ytihpnfpdocnniaa", sum := "55b275ec4c1a0b8d58e2a0d56374db18c0f98077afb262c8bb7010eadbf39619", func := "trefoil/trefoillaw4.ValueLimits", spec := "valueLimits", unfollowed := true, recurses := true, apart := false, narrowed := true }
def ValueLimitsUptoSaid : Prop := valueLimitsUptoRow.holds Try.pinned (OpenSpec.upto valueLimitsSpec)

end Rows
end Go.Proofs.Ytihpnfpdocnniaa
