/-
  DERIVED. GIVEN WITH THE SEED: THE CARDS: each row of YtciimaabeabkdaaGreatDoorRows.lean that lists a variable, with what it lists TIED to the program's text (the seventh form; the later family's looks); each row that meets fmt, with fmt's text TOLD by the authors' own Lean function (tested against real Go, not proved from fmt's source: count such statements apart). THE CARD IS WHAT COUNTS. Prove the row's statement (the work); the ties are given (YtciimaabeabkdaaGreatDoorTie.lean); close each card by the builder's one call (the guide's Derived/Test/ToyasCard.lean, 'card_holds'). Laid BY PROGRAM, IN A SANDBOX (cutbox-door.mjs). By AI agents, Wed Nov 11 2026. No macro, syntax, notation, axiom, sorry.
-/
import Derived.Test.YtciimaabeabkdaaGreatDoorRows
import GoSem.ClaimSeven
namespace Go.Proofs.YtciimaabeabkdaaGreatDoor
namespace Rows

/-- THE TIED CARD OF 'trefoillaw19.LetterBack'. -/
def letterBackCard : Claim7 := { stood := { row := letterBackRow, standIns := [], harness := (true, "5824aa0344c3cb2ff1adf59a807253262c8567f9e3987745f516cbc709cca191"), looks := true }, kinds := [], alts := [], laidByText := true, laidKinds := [.data, .pinned], laidTests := true, laidLooks := .later }
def LetterBackCardSaid : Prop := Claim7.holds Tryz.pinned (.plain (OpenSpec.ofChange letterBackSpec)) letterBackCard

/-- THE TIED CARD OF 'trefoillaw13.TableFinds'. -/
def tableFindsCard : Claim7 := { stood := { row := tableFindsRow, standIns := [], harness := (true, "5824aa0344c3cb2ff1adf59a807253262c8567f9e3987745f516cbc709cca191"), looks := true }, kinds := [], alts := [], laidByText := true, laidKinds := [.data, .pinned], laidTests := true, laidLooks := .later }
def TableFindsCardSaid : Prop := Claim7.holds Tryz.pinned (.plain (OpenSpec.ofChange tableFindsSpec)) tableFindsCard

/-- THE TIED CARD OF 'trefoillaw13.TableGrows'. -/
def tableGrowsCard : Claim7 := { stood := { row := tableGrowsRow, standIns := [], harness := (true, "5824aa0344c3cb2ff1adf59a807253262c8567f9e3987745f516cbc709cca191"), looks := true }, kinds := [], alts := [], laidByText := true, laidKinds := [.data, .pinned], laidTests := true, laidLooks := .later }
def TableGrowsCardSaid : Prop := Claim7.holds Tryz.pinned (.plain (OpenSpec.ofChange tableGrowsSpec)) tableGrowsCard

/-- THE TIED CARD OF 'trefoillaw13.TableKeys'. -/
def tableKeysCard : Claim7 := { stood := { row := tableKeysRow, standIns := [], harness := (true, "5824aa0344c3cb2ff1adf59a807253262c8567f9e3987745f516cbc709cca191"), looks := true }, kinds := [], alts := [], laidByText := true, laidKinds := [.data, .pinned], laidTests := true, laidLooks := .later }
def TableKeysCardSaid : Prop := Claim7.holds Tryz.pinned (.plain (OpenSpec.ofChange tableKeysSpec)) tableKeysCard

/-- THE TIED CARD OF 'trefoillaw13.TableSums'. -/
def tableSumsCard : Claim7 := { stood := { row := tableSumsRow, standIns := [], harness := (true, "5824aa0344c3cb2ff1adf59a807253262c8567f9e3987745f516cbc709cca191"), looks := true }, kinds := [], alts := [], laidByText := true, laidKinds := [.data, .pinned], laidTests := true, laidLooks := .later }
def TableSumsCardSaid : Prop := Claim7.holds Tryz.pinned (.plain (OpenSpec.ofChange tableSumsSpec)) tableSumsCard

/-- THE TIED CARD OF 'trefoillaw20.PostFull'. -/
def postFullCard : Claim7 := { stood := { row := postFullRow, standIns := [], harness := (true, "5824aa0344c3cb2ff1adf59a807253262c8567f9e3987745f516cbc709cca191"), looks := true }, kinds := [], alts := [], laidByText := true, laidKinds := [.data, .pinned], laidTests := true, laidLooks := .later }
def PostFullCardSaid : Prop := Claim7.holds Tryz.pinned (.plain (OpenSpec.ofChange postFullSpec)) postFullCard

/-- THE TIED CARD OF 'trefoillaw20.PostOrders'. -/
def postOrdersCard : Claim7 := { stood := { row := postOrdersRow, standIns := [], harness := (true, "5824aa0344c3cb2ff1adf59a807253262c8567f9e3987745f516cbc709cca191"), looks := true }, kinds := [], alts := [], laidByText := true, laidKinds := [.data, .pinned], laidTests := true, laidLooks := .later }
def PostOrdersCardSaid : Prop := Claim7.holds Tryz.pinned (.plain (OpenSpec.ofChange postOrdersSpec)) postOrdersCard

/-- THE TIED CARD OF 'trefoillaw19.LetterTells'. -/
def letterTellsCard : Claim7 := { stood := { row := letterTellsRow, standIns := [], harness := (true, "5824aa0344c3cb2ff1adf59a807253262c8567f9e3987745f516cbc709cca191"), looks := true }, kinds := [], alts := [], laidByText := true, laidKinds := [.data, .handle, .pinned], laidTests := true, laidLooks := .later }
def LetterTellsCardSaid : Prop := Claim7.holds Tryz.pinned (.plain (OpenSpec.ofChange letterTellsSpec)) letterTellsCard

/-- THE TIED CARD OF 'trefoillaw20.PostPlays'. -/
def postPlaysCard : Claim7 := { stood := { row := postPlaysRow, standIns := [], harness := (true, "5824aa0344c3cb2ff1adf59a807253262c8567f9e3987745f516cbc709cca191"), looks := true }, kinds := [], alts := [], laidByText := true, laidKinds := [.data, .handle, .pinned], laidTests := true, laidLooks := .later }
def PostPlaysCardSaid : Prop := Claim7.holds Tryz.pinned (.plain (OpenSpec.ofChange postPlaysSpec)) postPlaysCard

/-- THE SECOND FORM's CARD OF 'trefoillaw19.LetterBack'. -/
def letterBackUptoCard : Claim7 := { stood := { row := letterBackUptoRow, standIns := [], harness := (true, "5824aa0344c3cb2ff1adf59a807253262c8567f9e3987745f516cbc709cca191"), looks := true }, kinds := [], alts := [], laidByText := true, laidKinds := [.data, .pinned], laidTests := true, laidLooks := .later }
def LetterBackUptoCardSaid : Prop := Claim7.holds Tryz.pinned (.plain (OpenSpec.upto letterBackSpec)) letterBackUptoCard

/-- THE SECOND FORM's CARD OF 'trefoillaw13.TableFinds'. -/
def tableFindsUptoCard : Claim7 := { stood := { row := tableFindsUptoRow, standIns := [], harness := (true, "5824aa0344c3cb2ff1adf59a807253262c8567f9e3987745f516cbc709cca191"), looks := true }, kinds := [], alts := [], laidByText := true, laidKinds := [.data, .pinned], laidTests := true, laidLooks := .later }
def TableFindsUptoCardSaid : Prop := Claim7.holds Tryz.pinned (.plain (OpenSpec.upto tableFindsSpec)) tableFindsUptoCard

/-- THE SECOND FORM's CARD OF 'trefoillaw13.TableGrows'. -/
def tableGrowsUptoCard : Claim7 := { stood := { row := tableGrowsUptoRow, standIns := [], harness := (true, "5824aa0344c3cb2ff1adf59a807253262c8567f9e3987745f516cbc709cca191"), looks := true }, kinds := [], alts := [], laidByText := true, laidKinds := [.data, .pinned], laidTests := true, laidLooks := .later }
def TableGrowsUptoCardSaid : Prop := Claim7.holds Tryz.pinned (.plain (OpenSpec.upto tableGrowsSpec)) tableGrowsUptoCard

/-- THE SECOND FORM's CARD OF 'trefoillaw13.TableKeys'. -/
def tableKeysUptoCard : Claim7 := { stood := { row := tableKeysUptoRow, standIns := [], harness := (true, "5824aa0344c3cb2ff1adf59a807253262c8567f9e3987745f516cbc709cca191"), looks := true }, kinds := [], alts := [], laidByText := true, laidKinds := [.data, .pinned], laidTests := true, laidLooks := .later }
def TableKeysUptoCardSaid : Prop := Claim7.holds Tryz.pinned (.plain (OpenSpec.upto tableKeysSpec)) tableKeysUptoCard

/-- THE SECOND FORM's CARD OF 'trefoillaw13.TableSums'. -/
def tableSumsUptoCard : Claim7 := { stood := { row := tableSumsUptoRow, standIns := [], harness := (true, "5824aa0344c3cb2ff1adf59a807253262c8567f9e3987745f516cbc709cca191"), looks := true }, kinds := [], alts := [], laidByText := true, laidKinds := [.data, .pinned], laidTests := true, laidLooks := .later }
def TableSumsUptoCardSaid : Prop := Claim7.holds Tryz.pinned (.plain (OpenSpec.upto tableSumsSpec)) tableSumsUptoCard

/-- THE SECOND FORM's CARD OF 'trefoillaw20.PostFull'. -/
def postFullUptoCard : Claim7 := { stood := { row := postFullUptoRow, standIns := [], harness := (true, "5824aa0344c3cb2ff1adf59a807253262c8567f9e3987745f516cbc709cca191"), looks := true }, kinds := [], alts := [], laidByText := true, laidKinds := [.data, .pinned], laidTests := true, laidLooks := .later }
def PostFullUptoCardSaid : Prop := Claim7.holds Tryz.pinned (.plain (OpenSpec.upto postFullSpec)) postFullUptoCard

/-- THE SECOND FORM's CARD OF 'trefoillaw20.PostOrders'. -/
def postOrdersUptoCard : Claim7 := { stood := { row := postOrdersUptoRow, standIns := [], harness := (true, "5824aa0344c3cb2ff1adf59a807253262c8567f9e3987745f516cbc709cca191"), looks := true }, kinds := [], alts := [], laidByText := true, laidKinds := [.data, .pinned], laidTests := true, laidLooks := .later }
def PostOrdersUptoCardSaid : Prop := Claim7.holds Tryz.pinned (.plain (OpenSpec.upto postOrdersSpec)) postOrdersUptoCard

/-- THE SECOND FORM's CARD OF 'trefoillaw19.LetterTells'. -/
def letterTellsUptoCard : Claim7 := { stood := { row := letterTellsUptoRow, standIns := [], harness := (true, "5824aa0344c3cb2ff1adf59a807253262c8567f9e3987745f516cbc709cca191"), looks := true }, kinds := [], alts := [], laidByText := true, laidKinds := [.data, .handle, .pinned], laidTests := true, laidLooks := .later }
def LetterTellsUptoCardSaid : Prop := Claim7.holds Tryz.pinned (.plain (OpenSpec.upto letterTellsSpec)) letterTellsUptoCard

/-- THE SECOND FORM's CARD OF 'trefoillaw20.PostPlays'. -/
def postPlaysUptoCard : Claim7 := { stood := { row := postPlaysUptoRow, standIns := [], harness := (true, "5824aa0344c3cb2ff1adf59a807253262c8567f9e3987745f516cbc709cca191"), looks := true }, kinds := [], alts := [], laidByText := true, laidKinds := [.data, .handle, .pinned], laidTests := true, laidLooks := .later }
def PostPlaysUptoCardSaid : Prop := Claim7.holds Tryz.pinned (.plain (OpenSpec.upto postPlaysSpec)) postPlaysUptoCard
end Rows
end Go.Proofs.YtciimaabeabkdaaGreatDoor
