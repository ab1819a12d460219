/-
  DERIVED. GIVEN WITH THE SEED: THE CARDS: each row of YtlnfdpdancolmaaDoorRows.lean that lists a variable, with what it lists TIED to the program's text (the seventh form; the later family's looks); each row that meets fmt, with fmt's text TOLD by the authors' own Lean function (tested against real Go, not proved from fmt's source: count such statements apart). THE CARD IS WHAT COUNTS. Prove the row's statement (the work); the ties are given (YtlnfdpdancolmaaDoorTie.lean); close each card by the builder's one call (the guide's Derived/Test/ToyasCard.lean, 'card_holds'). Laid BY PROGRAM, IN A SANDBOX (cutbox-door.mjs). By AI agents, Wed Nov 11 2026. No macro, syntax, notation, axiom, sorry.
-/
import Derived.Test.YtlnfdpdancolmaaDoorRows
import GoSem.ClaimSeven
namespace Go.Proofs.YtlnfdpdancolmaaDoor
namespace Rows

/-- THE TIED CARD OF 'retroactlaw44.NetTells'. -/
def netTellsCard : Claim7 := { stood := { row := netTellsRow, standIns := [], harness := (true, "c8b8106ccb564805b2006389aa761bf8423b991ab4a089b67e2a959b5f9667ae"), looks := false }, kinds := [], alts := [], laidByText := true, laidKinds := [.data], laidTests := true, laidLooks := .later }
def NetTellsCardSaid : Prop := Claim7.holds Tryd.pinned (.plain (OpenSpec.ofChange netTellsSpec)) netTellsCard

/-- THE TIED CARD OF 'retroactlaw44.NetDiffers'. -/
def netDiffersCard : Claim7 := { stood := { row := netDiffersRow, standIns := [], harness := (true, "c8b8106ccb564805b2006389aa761bf8423b991ab4a089b67e2a959b5f9667ae"), looks := false }, kinds := [], alts := [], laidByText := true, laidKinds := [.data], laidTests := true, laidLooks := .later }
def NetDiffersCardSaid : Prop := Claim7.holds Tryd.pinned (.plain (OpenSpec.ofChange netDiffersSpec)) netDiffersCard

/-- THE TIED CARD OF 'retroactlaw44.NetTurns'. -/
def netTurnsCard : Claim7 := { stood := { row := netTurnsRow, standIns := [], harness := (true, "c8b8106ccb564805b2006389aa761bf8423b991ab4a089b67e2a959b5f9667ae"), looks := false }, kinds := [], alts := [], laidByText := true, laidKinds := [.data], laidTests := true, laidLooks := .later }
def NetTurnsCardSaid : Prop := Claim7.holds Tryd.pinned (.plain (OpenSpec.ofChange netTurnsSpec)) netTurnsCard

/-- THE TIED CARD OF 'retroactlaw44.NetKeeps'. -/
def netKeepsCard : Claim7 := { stood := { row := netKeepsRow, standIns := [], harness := (true, "c8b8106ccb564805b2006389aa761bf8423b991ab4a089b67e2a959b5f9667ae"), looks := false }, kinds := [], alts := [], laidByText := true, laidKinds := [.data], laidTests := true, laidLooks := .later }
def NetKeepsCardSaid : Prop := Claim7.holds Tryd.pinned (.plain (OpenSpec.ofChange netKeepsSpec)) netKeepsCard

/-- THE TIED CARD OF 'retroactlaw44.NetBack'. -/
def netBackCard : Claim7 := { stood := { row := netBackRow, standIns := [], harness := (true, "c8b8106ccb564805b2006389aa761bf8423b991ab4a089b67e2a959b5f9667ae"), looks := false }, kinds := [], alts := [], laidByText := true, laidKinds := [.data], laidTests := true, laidLooks := .later }
def NetBackCardSaid : Prop := Claim7.holds Tryd.pinned (.plain (OpenSpec.ofChange netBackSpec)) netBackCard

/-- THE TIED CARD OF 'retroactlaw44.NetSwaps'. -/
def netSwapsCard : Claim7 := { stood := { row := netSwapsRow, standIns := [], harness := (true, "c8b8106ccb564805b2006389aa761bf8423b991ab4a089b67e2a959b5f9667ae"), looks := false }, kinds := [], alts := [], laidByText := true, laidKinds := [.data], laidTests := true, laidLooks := .later }
def NetSwapsCardSaid : Prop := Claim7.holds Tryd.pinned (.plain (OpenSpec.ofChange netSwapsSpec)) netSwapsCard

/-- THE SECOND FORM's CARD OF 'retroactlaw44.NetTells'. -/
def netTellsUptoCard : Claim7 := { stood := { row := netTellsUptoRow, standIns := [], harness := (true, "c8b8106ccb564805b2006389aa761bf8423b991ab4a089b67e2a959b5f9667ae"), looks := false }, kinds := [], alts := [], laidByText := true, laidKinds := [.data], laidTests := true, laidLooks := .later }
def NetTellsUptoCardSaid : Prop := Claim7.holds Tryd.pinned (.plain (OpenSpec.upto netTellsSpec)) netTellsUptoCard

/-- THE SECOND FORM's CARD OF 'retroactlaw44.NetDiffers'. -/
def netDiffersUptoCard : Claim7 := { stood := { row := netDiffersUptoRow, standIns := [], harness := (true, "c8b8106ccb564805b2006389aa761bf8423b991ab4a089b67e2a959b5f9667ae"), looks := false }, kinds := [], alts := [], laidByText := true, laidKinds := [.data], laidTests := true, laidLooks := .later }
def NetDiffersUptoCardSaid : Prop := Claim7.holds Tryd.pinned (.plain (OpenSpec.upto netDiffersSpec)) netDiffersUptoCard

/-- THE SECOND FORM's CARD OF 'retroactlaw44.NetTurns'. -/
def netTurnsUptoCard : Claim7 := { stood := { row := netTurnsUptoRow, standIns := [], harness := (true, "c8b8106ccb564805b2006389aa761bf8423b991ab4a089b67e2a959b5f9667ae"), looks := false }, kinds := [], alts := [], laidByText := true, laidKinds := [.data], laidTests := true, laidLooks := .later }
def NetTurnsUptoCardSaid : Prop := Claim7.holds Tryd.pinned (.plain (OpenSpec.upto netTurnsSpec)) netTurnsUptoCard

/-- THE SECOND FORM's CARD OF 'retroactlaw44.NetKeeps'. -/
def netKeepsUptoCard : Claim7 := { stood := { row := netKeepsUptoRow, standIns := [], harness := (true, "c8b8106ccb564805b2006389aa761bf8423b991ab4a089b67e2a959b5f9667ae"), looks := false }, kinds := [], alts := [], laidByText := true, laidKinds := [.data], laidTests := true, laidLooks := .later }
def NetKeepsUptoCardSaid : Prop := Claim7.holds Tryd.pinned (.plain (OpenSpec.upto netKeepsSpec)) netKeepsUptoCard

/-- THE SECOND FORM's CARD OF 'retroactlaw44.NetBack'. -/
def netBackUptoCard : Claim7 := { stood := { row := netBackUptoRow, standIns := [], harness := (true, "c8b8106ccb564805b2006389aa761bf8423b991ab4a089b67e2a959b5f9667ae"), looks := false }, kinds := [], alts := [], laidByText := true, laidKinds := [.data], laidTests := true, laidLooks := .later }
def NetBackUptoCardSaid : Prop := Claim7.holds Tryd.pinned (.plain (OpenSpec.upto netBackSpec)) netBackUptoCard

/-- THE SECOND FORM's CARD OF 'retroactlaw44.NetSwaps'. -/
def netSwapsUptoCard : Claim7 := { stood := { row := netSwapsUptoRow, standIns := [], harness := (true, "c8b8106ccb564805b2006389aa761bf8423b991ab4a089b67e2a959b5f9667ae"), looks := false }, kinds := [], alts := [], laidByText := true, laidKinds := [.data], laidTests := true, laidLooks := .later }
def NetSwapsUptoCardSaid : Prop := Claim7.holds Tryd.pinned (.plain (OpenSpec.upto netSwapsSpec)) netSwapsUptoCard
end Rows
end Go.Proofs.YtlnfdpdancolmaaDoor
