/-
  DERIVED. GIVEN WITH THE SEED: THE CARDS: each row of YtlhddgkbbdfacaaDoorRows.lean that lists a variable, with what it lists TIED to the program's text (the seventh form; the later family's looks); each row that meets fmt, with fmt's text TOLD by the authors' own Lean function (tested against real Go, not proved from fmt's source: count such statements apart). THE CARD IS WHAT COUNTS. Prove the row's statement (the work); the ties are given (YtlhddgkbbdfacaaDoorTie.lean); close each card by the builder's one call (the guide's Derived/Test/ToyasCard.lean, 'card_holds'). Laid BY PROGRAM, IN A SANDBOX (cutbox-door.mjs). By AI agents, Wed Nov 11 2026. No macro, syntax, notation, axiom, sorry.
-/
import Derived.Test.YtlhddgkbbdfacaaDoorRows
import GoSem.ClaimSeven
namespace Go.Proofs.YtlhddgkbbdfacaaDoor
namespace Rows

/-- THE TIED CARD OF 'cavalcadelaw11.TreeHashes'. -/
def treeHashesCard : Claim7 := { stood := { row := treeHashesRow, standIns := [], harness := (true, "ec2849dcf2af4127de183f792a0558de632495dd7b81c67154eb31294bb3c11f"), looks := false }, kinds := [], alts := [], laidByText := true, laidKinds := [.data], laidTests := true, laidLooks := .later }
def TreeHashesCardSaid : Prop := Claim7.holds Tryd.pinned (.plain (OpenSpec.ofChange treeHashesSpec)) treeHashesCard

/-- THE TIED CARD OF 'cavalcadelaw11.TreeFinal'. -/
def treeFinalCard : Claim7 := { stood := { row := treeFinalRow, standIns := [], harness := (true, "ec2849dcf2af4127de183f792a0558de632495dd7b81c67154eb31294bb3c11f"), looks := false }, kinds := [], alts := [], laidByText := true, laidKinds := [.data], laidTests := true, laidLooks := .later }
def TreeFinalCardSaid : Prop := Claim7.holds Tryd.pinned (.plain (OpenSpec.ofChange treeFinalSpec)) treeFinalCard

/-- THE TIED CARD OF 'cavalcadelaw11.TreeRefused'. -/
def treeRefusedCard : Claim7 := { stood := { row := treeRefusedRow, standIns := [], harness := (true, "ec2849dcf2af4127de183f792a0558de632495dd7b81c67154eb31294bb3c11f"), looks := false }, kinds := [], alts := [], laidByText := true, laidKinds := [.data], laidTests := true, laidLooks := .later }
def TreeRefusedCardSaid : Prop := Claim7.holds Tryd.pinned (.plain (OpenSpec.ofChange treeRefusedSpec)) treeRefusedCard

/-- THE TIED CARD OF 'cavalcadelaw11.TreeLinked'. -/
def treeLinkedCard : Claim7 := { stood := { row := treeLinkedRow, standIns := [], harness := (true, "ec2849dcf2af4127de183f792a0558de632495dd7b81c67154eb31294bb3c11f"), looks := false }, kinds := [], alts := [], laidByText := true, laidKinds := [.data], laidTests := true, laidLooks := .later }
def TreeLinkedCardSaid : Prop := Claim7.holds Tryd.pinned (.plain (OpenSpec.ofChange treeLinkedSpec)) treeLinkedCard

/-- THE TIED CARD OF 'cavalcadelaw11.TreeDoes'. -/
def treeDoesCard : Claim7 := { stood := { row := treeDoesRow, standIns := [], harness := (true, "ec2849dcf2af4127de183f792a0558de632495dd7b81c67154eb31294bb3c11f"), looks := false }, kinds := [], alts := [], laidByText := true, laidKinds := [.data], laidTests := true, laidLooks := .later }
def TreeDoesCardSaid : Prop := Claim7.holds Tryd.pinned (.plain (OpenSpec.ofChange treeDoesSpec)) treeDoesCard

/-- THE TIED CARD OF 'cavalcadelaw11.TreeNone'. -/
def treeNoneCard : Claim7 := { stood := { row := treeNoneRow, standIns := [], harness := (true, "ec2849dcf2af4127de183f792a0558de632495dd7b81c67154eb31294bb3c11f"), looks := false }, kinds := [], alts := [], laidByText := true, laidKinds := [.data], laidTests := true, laidLooks := .later }
def TreeNoneCardSaid : Prop := Claim7.holds Tryd.pinned (.plain (OpenSpec.ofChange treeNoneSpec)) treeNoneCard

/-- THE SECOND FORM's CARD OF 'cavalcadelaw11.TreeHashes'. -/
def treeHashesUptoCard : Claim7 := { stood := { row := treeHashesUptoRow, standIns := [], harness := (true, "ec2849dcf2af4127de183f792a0558de632495dd7b81c67154eb31294bb3c11f"), looks := false }, kinds := [], alts := [], laidByText := true, laidKinds := [.data], laidTests := true, laidLooks := .later }
def TreeHashesUptoCardSaid : Prop := Claim7.holds Tryd.pinned (.plain (OpenSpec.upto treeHashesSpec)) treeHashesUptoCard

/-- THE SECOND FORM's CARD OF 'cavalcadelaw11.TreeFinal'. -/
def treeFinalUptoCard : Claim7 := { stood := { row := treeFinalUptoRow, standIns := [], harness := (true, "ec2849dcf2af4127de183f792a0558de632495dd7b81c67154eb31294bb3c11f"), looks := false }, kinds := [], alts := [], laidByText := true, laidKinds := [.data], laidTests := true, laidLooks := .later }
def TreeFinalUptoCardSaid : Prop := Claim7.holds Tryd.pinned (.plain (OpenSpec.upto treeFinalSpec)) treeFinalUptoCard

/-- THE SECOND FORM's CARD OF 'cavalcadelaw11.TreeRefused'. -/
def treeRefusedUptoCard : Claim7 := { stood := { row := treeRefusedUptoRow, standIns := [], harness := (true, "ec2849dcf2af4127de183f792a0558de632495dd7b81c67154eb31294bb3c11f"), looks := false }, kinds := [], alts := [], laidByText := true, laidKinds := [.data], laidTests := true, laidLooks := .later }
def TreeRefusedUptoCardSaid : Prop := Claim7.holds Tryd.pinned (.plain (OpenSpec.upto treeRefusedSpec)) treeRefusedUptoCard

/-- THE SECOND FORM's CARD OF 'cavalcadelaw11.TreeLinked'. -/
def treeLinkedUptoCard : Claim7 := { stood := { row := treeLinkedUptoRow, standIns := [], harness := (true, "ec2849dcf2af4127de183f792a0558de632495dd7b81c67154eb31294bb3c11f"), looks := false }, kinds := [], alts := [], laidByText := true, laidKinds := [.data], laidTests := true, laidLooks := .later }
def TreeLinkedUptoCardSaid : Prop := Claim7.holds Tryd.pinned (.plain (OpenSpec.upto treeLinkedSpec)) treeLinkedUptoCard

/-- THE SECOND FORM's CARD OF 'cavalcadelaw11.TreeDoes'. -/
def treeDoesUptoCard : Claim7 := { stood := { row := treeDoesUptoRow, standIns := [], harness := (true, "ec2849dcf2af4127de183f792a0558de632495dd7b81c67154eb31294bb3c11f"), looks := false }, kinds := [], alts := [], laidByText := true, laidKinds := [.data], laidTests := true, laidLooks := .later }
def TreeDoesUptoCardSaid : Prop := Claim7.holds Tryd.pinned (.plain (OpenSpec.upto treeDoesSpec)) treeDoesUptoCard

/-- THE SECOND FORM's CARD OF 'cavalcadelaw11.TreeNone'. -/
def treeNoneUptoCard : Claim7 := { stood := { row := treeNoneUptoRow, standIns := [], harness := (true, "ec2849dcf2af4127de183f792a0558de632495dd7b81c67154eb31294bb3c11f"), looks := false }, kinds := [], alts := [], laidByText := true, laidKinds := [.data], laidTests := true, laidLooks := .later }
def TreeNoneUptoCardSaid : Prop := Claim7.holds Tryd.pinned (.plain (OpenSpec.upto treeNoneSpec)) treeNoneUptoCard
end Rows
end Go.Proofs.YtlhddgkbbdfacaaDoor
