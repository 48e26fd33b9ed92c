/-
  DERIVED. GIVEN WITH THE SEED: THE CARDS: each row of YtbadncpjbdfinaaDoorRows.lean that lists a variable, with what it lists TIED to the program's text (the seventh form; the later family's looks); each row that meets fmt, with fmt's text TOLD by the authors' own Lean function (tested against real Go, not proved from fmt's source: count such statements apart). THE CARD IS WHAT COUNTS. Prove the row's statement (the work); the ties are given (YtbadncpjbdfinaaDoorTie.lean); close each card by the builder's one call (the guide's Derived/Test/ToyasCard.lean, 'card_holds'). Laid BY PROGRAM, IN A SANDBOX (cutbox-door.mjs). By AI agents, Wed Nov 11 2026. No macro, syntax, notation, axiom, sorry.
-/
import Derived.Test.YtbadncpjbdfinaaDoorRows
import GoSem.ClaimSeven
namespace Go.Proofs.YtbadncpjbdfinaaDoor
namespace Rows

/-- THE TIED CARD OF 'cavalcadelaw03.SealKeys'. -/
def sealKeysCard : Claim7 := { stood := { row := sealKeysRow, standIns := [], harness := (true, "9ea6fe7400c7bdc58b90e0c2f4b5eb46086dcf6aca198f2fe796d62d8307c7e6"), looks := false }, kinds := [], alts := [], laidByText := true, laidKinds := [.data], laidTests := true, laidLooks := .later }
def SealKeysCardSaid : Prop := Claim7.holds Tryd.pinned (.plain (OpenSpec.ofChange sealKeysSpec)) sealKeysCard

/-- THE TIED CARD OF 'cavalcadelaw03.SealTags'. -/
def sealTagsCard : Claim7 := { stood := { row := sealTagsRow, standIns := [], harness := (true, "9ea6fe7400c7bdc58b90e0c2f4b5eb46086dcf6aca198f2fe796d62d8307c7e6"), looks := false }, kinds := [], alts := [], laidByText := true, laidKinds := [.data], laidTests := true, laidLooks := .later }
def SealTagsCardSaid : Prop := Claim7.holds Tryd.pinned (.plain (OpenSpec.ofChange sealTagsSpec)) sealTagsCard

/-- THE TIED CARD OF 'cavalcadelaw03.SealChecks'. -/
def sealChecksCard : Claim7 := { stood := { row := sealChecksRow, standIns := [], harness := (true, "9ea6fe7400c7bdc58b90e0c2f4b5eb46086dcf6aca198f2fe796d62d8307c7e6"), looks := false }, kinds := [], alts := [], laidByText := true, laidKinds := [.data], laidTests := true, laidLooks := .later }
def SealChecksCardSaid : Prop := Claim7.holds Tryd.pinned (.plain (OpenSpec.ofChange sealChecksSpec)) sealChecksCard

/-- THE TIED CARD OF 'cavalcadelaw03.SealTurned'. -/
def sealTurnedCard : Claim7 := { stood := { row := sealTurnedRow, standIns := [], harness := (true, "9ea6fe7400c7bdc58b90e0c2f4b5eb46086dcf6aca198f2fe796d62d8307c7e6"), looks := false }, kinds := [], alts := [], laidByText := true, laidKinds := [.data], laidTests := true, laidLooks := .later }
def SealTurnedCardSaid : Prop := Claim7.holds Tryd.pinned (.plain (OpenSpec.ofChange sealTurnedSpec)) sealTurnedCard

/-- THE TIED CARD OF 'cavalcadelaw02.DigestSums'. -/
def digestSumsCard : Claim7 := { stood := { row := digestSumsRow, standIns := [], harness := (true, "9ea6fe7400c7bdc58b90e0c2f4b5eb46086dcf6aca198f2fe796d62d8307c7e6"), looks := false }, kinds := [], alts := [], laidByText := true, laidKinds := [.data], laidTests := true, laidLooks := .later }
def DigestSumsCardSaid : Prop := Claim7.holds Tryd.pinned (.plain (OpenSpec.ofChange digestSumsSpec)) digestSumsCard

/-- THE TIED CARD OF 'cavalcadelaw02.DigestProves'. -/
def digestProvesCard : Claim7 := { stood := { row := digestProvesRow, standIns := [], harness := (true, "9ea6fe7400c7bdc58b90e0c2f4b5eb46086dcf6aca198f2fe796d62d8307c7e6"), looks := false }, kinds := [], alts := [], laidByText := true, laidKinds := [.data], laidTests := true, laidLooks := .later }
def DigestProvesCardSaid : Prop := Claim7.holds Tryd.pinned (.plain (OpenSpec.ofChange digestProvesSpec)) digestProvesCard

/-- THE TIED CARD OF 'cavalcadelaw02.DigestChains'. -/
def digestChainsCard : Claim7 := { stood := { row := digestChainsRow, standIns := [], harness := (true, "9ea6fe7400c7bdc58b90e0c2f4b5eb46086dcf6aca198f2fe796d62d8307c7e6"), looks := false }, kinds := [], alts := [], laidByText := true, laidKinds := [.data], laidTests := true, laidLooks := .later }
def DigestChainsCardSaid : Prop := Claim7.holds Tryd.pinned (.plain (OpenSpec.ofChange digestChainsSpec)) digestChainsCard

/-- THE TIED CARD OF 'cavalcadelaw02.DigestRoots'. -/
def digestRootsCard : Claim7 := { stood := { row := digestRootsRow, standIns := [], harness := (true, "9ea6fe7400c7bdc58b90e0c2f4b5eb46086dcf6aca198f2fe796d62d8307c7e6"), looks := false }, kinds := [], alts := [], laidByText := true, laidKinds := [.data], laidTests := true, laidLooks := .later }
def DigestRootsCardSaid : Prop := Claim7.holds Tryd.pinned (.plain (OpenSpec.ofChange digestRootsSpec)) digestRootsCard

/-- THE TIED CARD OF 'cavalcadelaw02.DigestShows'. -/
def digestShowsCard : Claim7 := { stood := { row := digestShowsRow, standIns := [], harness := (true, "9ea6fe7400c7bdc58b90e0c2f4b5eb46086dcf6aca198f2fe796d62d8307c7e6"), looks := false }, kinds := [], alts := [], laidByText := true, laidKinds := [.data], laidTests := true, laidLooks := .later }
def DigestShowsCardSaid : Prop := Claim7.holds Tryd.pinned (.plain (OpenSpec.ofChange digestShowsSpec)) digestShowsCard

/-- THE TIED CARD OF 'cavalcadelaw02.DigestTurned'. -/
def digestTurnedCard : Claim7 := { stood := { row := digestTurnedRow, standIns := [], harness := (true, "9ea6fe7400c7bdc58b90e0c2f4b5eb46086dcf6aca198f2fe796d62d8307c7e6"), looks := false }, kinds := [], alts := [], laidByText := true, laidKinds := [.data], laidTests := true, laidLooks := .later }
def DigestTurnedCardSaid : Prop := Claim7.holds Tryd.pinned (.plain (OpenSpec.ofChange digestTurnedSpec)) digestTurnedCard

/-- THE SECOND FORM's CARD OF 'cavalcadelaw03.SealKeys'. -/
def sealKeysUptoCard : Claim7 := { stood := { row := sealKeysUptoRow, standIns := [], harness := (true, "9ea6fe7400c7bdc58b90e0c2f4b5eb46086dcf6aca198f2fe796d62d8307c7e6"), looks := false }, kinds := [], alts := [], laidByText := true, laidKinds := [.data], laidTests := true, laidLooks := .later }
def SealKeysUptoCardSaid : Prop := Claim7.holds Tryd.pinned (.plain (OpenSpec.upto sealKeysSpec)) sealKeysUptoCard

/-- THE SECOND FORM's CARD OF 'cavalcadelaw03.SealTags'. -/
def sealTagsUptoCard : Claim7 := { stood := { row := sealTagsUptoRow, standIns := [], harness := (true, "9ea6fe7400c7bdc58b90e0c2f4b5eb46086dcf6aca198f2fe796d62d8307c7e6"), looks := false }, kinds := [], alts := [], laidByText := true, laidKinds := [.data], laidTests := true, laidLooks := .later }
def SealTagsUptoCardSaid : Prop := Claim7.holds Tryd.pinned (.plain (OpenSpec.upto sealTagsSpec)) sealTagsUptoCard

/-- THE SECOND FORM's CARD OF 'cavalcadelaw03.SealChecks'. -/
def sealChecksUptoCard : Claim7 := { stood := { row := sealChecksUptoRow, standIns := [], harness := (true, "9ea6fe7400c7bdc58b90e0c2f4b5eb46086dcf6aca198f2fe796d62d8307c7e6"), looks := false }, kinds := [], alts := [], laidByText := true, laidKinds := [.data], laidTests := true, laidLooks := .later }
def SealChecksUptoCardSaid : Prop := Claim7.holds Tryd.pinned (.plain (OpenSpec.upto sealChecksSpec)) sealChecksUptoCard

/-- THE SECOND FORM's CARD OF 'cavalcadelaw03.SealTurned'. -/
def sealTurnedUptoCard : Claim7 := { stood := { row := sealTurnedUptoRow, standIns := [], harness := (true, "9ea6fe7400c7bdc58b90e0c2f4b5eb46086dcf6aca198f2fe796d62d8307c7e6"), looks := false }, kinds := [], alts := [], laidByText := true, laidKinds := [.data], laidTests := true, laidLooks := .later }
def SealTurnedUptoCardSaid : Prop := Claim7.holds Tryd.pinned (.plain (OpenSpec.upto sealTurnedSpec)) sealTurnedUptoCard

/-- THE SECOND FORM's CARD OF 'cavalcadelaw02.DigestSums'. -/
def digestSumsUptoCard : Claim7 := { stood := { row := digestSumsUptoRow, standIns := [], harness := (true, "9ea6fe7400c7bdc58b90e0c2f4b5eb46086dcf6aca198f2fe796d62d8307c7e6"), looks := false }, kinds := [], alts := [], laidByText := true, laidKinds := [.data], laidTests := true, laidLooks := .later }
def DigestSumsUptoCardSaid : Prop := Claim7.holds Tryd.pinned (.plain (OpenSpec.upto digestSumsSpec)) digestSumsUptoCard

/-- THE SECOND FORM's CARD OF 'cavalcadelaw02.DigestProves'. -/
def digestProvesUptoCard : Claim7 := { stood := { row := digestProvesUptoRow, standIns := [], harness := (true, "9ea6fe7400c7bdc58b90e0c2f4b5eb46086dcf6aca198f2fe796d62d8307c7e6"), looks := false }, kinds := [], alts := [], laidByText := true, laidKinds := [.data], laidTests := true, laidLooks := .later }
def DigestProvesUptoCardSaid : Prop := Claim7.holds Tryd.pinned (.plain (OpenSpec.upto digestProvesSpec)) digestProvesUptoCard

/-- THE SECOND FORM's CARD OF 'cavalcadelaw02.DigestChains'. -/
def digestChainsUptoCard : Claim7 := { stood := { row := digestChainsUptoRow, standIns := [], harness := (true, "9ea6fe7400c7bdc58b90e0c2f4b5eb46086dcf6aca198f2fe796d62d8307c7e6"), looks := false }, kinds := [], alts := [], laidByText := true, laidKinds := [.data], laidTests := true, laidLooks := .later }
def DigestChainsUptoCardSaid : Prop := Claim7.holds Tryd.pinned (.plain (OpenSpec.upto digestChainsSpec)) digestChainsUptoCard

/-- THE SECOND FORM's CARD OF 'cavalcadelaw02.DigestRoots'. -/
def digestRootsUptoCard : Claim7 := { stood := { row := digestRootsUptoRow, standIns := [], harness := (true, "9ea6fe7400c7bdc58b90e0c2f4b5eb46086dcf6aca198f2fe796d62d8307c7e6"), looks := false }, kinds := [], alts := [], laidByText := true, laidKinds := [.data], laidTests := true, laidLooks := .later }
def DigestRootsUptoCardSaid : Prop := Claim7.holds Tryd.pinned (.plain (OpenSpec.upto digestRootsSpec)) digestRootsUptoCard

/-- THE SECOND FORM's CARD OF 'cavalcadelaw02.DigestShows'. -/
def digestShowsUptoCard : Claim7 := { stood := { row := digestShowsUptoRow, standIns := [], harness := (true, "9ea6fe7400c7bdc58b90e0c2f4b5eb46086dcf6aca198f2fe796d62d8307c7e6"), looks := false }, kinds := [], alts := [], laidByText := true, laidKinds := [.data], laidTests := true, laidLooks := .later }
def DigestShowsUptoCardSaid : Prop := Claim7.holds Tryd.pinned (.plain (OpenSpec.upto digestShowsSpec)) digestShowsUptoCard

/-- THE SECOND FORM's CARD OF 'cavalcadelaw02.DigestTurned'. -/
def digestTurnedUptoCard : Claim7 := { stood := { row := digestTurnedUptoRow, standIns := [], harness := (true, "9ea6fe7400c7bdc58b90e0c2f4b5eb46086dcf6aca198f2fe796d62d8307c7e6"), looks := false }, kinds := [], alts := [], laidByText := true, laidKinds := [.data], laidTests := true, laidLooks := .later }
def DigestTurnedUptoCardSaid : Prop := Claim7.holds Tryd.pinned (.plain (OpenSpec.upto digestTurnedSpec)) digestTurnedUptoCard
end Rows
end Go.Proofs.YtbadncpjbdfinaaDoor
