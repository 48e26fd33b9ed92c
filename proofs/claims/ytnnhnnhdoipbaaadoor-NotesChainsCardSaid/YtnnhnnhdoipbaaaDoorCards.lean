/-
  DERIVED. GIVEN WITH THE SEED: THE CARDS: each row of YtnnhnnhdoipbaaaDoorRows.lean that lists a variable, with what it lists TIED to the program's text (the seventh form; the later family's looks); each row that meets fmt, with fmt's text TOLD by the authors' own Lean function (tested against real Go, not proved from fmt's source: count such statements apart). THE CARD IS WHAT COUNTS. Prove the row's statement (the work); the ties are given (YtnnhnnhdoipbaaaDoorTie.lean); close each card by the builder's one call (the guide's Derived/Test/ToyasCard.lean, 'card_holds'). Laid BY PROGRAM, IN A SANDBOX (cutbox-door.mjs). By AI agents, Wed Nov 11 2026. No macro, syntax, notation, axiom, sorry.
-/
import Derived.Test.YtnnhnnhdoipbaaaDoorRows
import GoSem.ClaimSeven
namespace Go.Proofs.YtnnhnnhdoipbaaaDoor
namespace Rows

/-- THE TIED CARD OF 'cavalcadelaw05.NotesBids'. -/
def notesBidsCard : Claim7 := { stood := { row := notesBidsRow, standIns := [], harness := (true, "c515d8a8638dbcd35c1119e9201b1e665e513b3860a1cb6996641a31c9dec330"), looks := false }, kinds := [], alts := [], laidByText := true, laidKinds := [.data], laidTests := true, laidLooks := .later }
def NotesBidsCardSaid : Prop := Claim7.holds Tryd.pinned (.plain (OpenSpec.ofChange notesBidsSpec)) notesBidsCard

/-- THE TIED CARD OF 'cavalcadelaw05.NotesReceipts'. -/
def notesReceiptsCard : Claim7 := { stood := { row := notesReceiptsRow, standIns := [], harness := (true, "c515d8a8638dbcd35c1119e9201b1e665e513b3860a1cb6996641a31c9dec330"), looks := false }, kinds := [], alts := [], laidByText := true, laidKinds := [.data], laidTests := true, laidLooks := .later }
def NotesReceiptsCardSaid : Prop := Claim7.holds Tryd.pinned (.plain (OpenSpec.ofChange notesReceiptsSpec)) notesReceiptsCard

/-- THE TIED CARD OF 'cavalcadelaw05.NotesBatches'. -/
def notesBatchesCard : Claim7 := { stood := { row := notesBatchesRow, standIns := [], harness := (true, "c515d8a8638dbcd35c1119e9201b1e665e513b3860a1cb6996641a31c9dec330"), looks := false }, kinds := [], alts := [], laidByText := true, laidKinds := [.data], laidTests := true, laidLooks := .later }
def NotesBatchesCardSaid : Prop := Claim7.holds Tryd.pinned (.plain (OpenSpec.ofChange notesBatchesSpec)) notesBatchesCard

/-- THE TIED CARD OF 'cavalcadelaw05.NotesItems'. -/
def notesItemsCard : Claim7 := { stood := { row := notesItemsRow, standIns := [], harness := (true, "c515d8a8638dbcd35c1119e9201b1e665e513b3860a1cb6996641a31c9dec330"), looks := false }, kinds := [], alts := [], laidByText := true, laidKinds := [.data], laidTests := true, laidLooks := .later }
def NotesItemsCardSaid : Prop := Claim7.holds Tryd.pinned (.plain (OpenSpec.ofChange notesItemsSpec)) notesItemsCard

/-- THE TIED CARD OF 'cavalcadelaw05.NotesChains'. -/
def notesChainsCard : Claim7 := { stood := { row := notesChainsRow, standIns := [], harness := (true, "c515d8a8638dbcd35c1119e9201b1e665e513b3860a1cb6996641a31c9dec330"), looks := false }, kinds := [], alts := [], laidByText := true, laidKinds := [.data], laidTests := true, laidLooks := .later }
def NotesChainsCardSaid : Prop := Claim7.holds Tryd.pinned (.plain (OpenSpec.ofChange notesChainsSpec)) notesChainsCard

/-- THE TIED CARD OF 'cavalcadelaw05.NotesReads'. -/
def notesReadsCard : Claim7 := { stood := { row := notesReadsRow, standIns := [], harness := (true, "c515d8a8638dbcd35c1119e9201b1e665e513b3860a1cb6996641a31c9dec330"), looks := false }, kinds := [], alts := [], laidByText := true, laidKinds := [.data], laidTests := true, laidLooks := .later }
def NotesReadsCardSaid : Prop := Claim7.holds Tryd.pinned (.plain (OpenSpec.ofChange notesReadsSpec)) notesReadsCard

/-- THE TIED CARD OF 'cavalcadelaw05.NotesBack'. -/
def notesBackCard : Claim7 := { stood := { row := notesBackRow, standIns := [], harness := (true, "c515d8a8638dbcd35c1119e9201b1e665e513b3860a1cb6996641a31c9dec330"), looks := false }, kinds := [], alts := [], laidByText := true, laidKinds := [.data], laidTests := true, laidLooks := .later }
def NotesBackCardSaid : Prop := Claim7.holds Tryd.pinned (.plain (OpenSpec.ofChange notesBackSpec)) notesBackCard

/-- THE SECOND FORM's CARD OF 'cavalcadelaw05.NotesBids'. -/
def notesBidsUptoCard : Claim7 := { stood := { row := notesBidsUptoRow, standIns := [], harness := (true, "c515d8a8638dbcd35c1119e9201b1e665e513b3860a1cb6996641a31c9dec330"), looks := false }, kinds := [], alts := [], laidByText := true, laidKinds := [.data], laidTests := true, laidLooks := .later }
def NotesBidsUptoCardSaid : Prop := Claim7.holds Tryd.pinned (.plain (OpenSpec.upto notesBidsSpec)) notesBidsUptoCard

/-- THE SECOND FORM's CARD OF 'cavalcadelaw05.NotesReceipts'. -/
def notesReceiptsUptoCard : Claim7 := { stood := { row := notesReceiptsUptoRow, standIns := [], harness := (true, "c515d8a8638dbcd35c1119e9201b1e665e513b3860a1cb6996641a31c9dec330"), looks := false }, kinds := [], alts := [], laidByText := true, laidKinds := [.data], laidTests := true, laidLooks := .later }
def NotesReceiptsUptoCardSaid : Prop := Claim7.holds Tryd.pinned (.plain (OpenSpec.upto notesReceiptsSpec)) notesReceiptsUptoCard

/-- THE SECOND FORM's CARD OF 'cavalcadelaw05.NotesBatches'. -/
def notesBatchesUptoCard : Claim7 := { stood := { row := notesBatchesUptoRow, standIns := [], harness := (true, "c515d8a8638dbcd35c1119e9201b1e665e513b3860a1cb6996641a31c9dec330"), looks := false }, kinds := [], alts := [], laidByText := true, laidKinds := [.data], laidTests := true, laidLooks := .later }
def NotesBatchesUptoCardSaid : Prop := Claim7.holds Tryd.pinned (.plain (OpenSpec.upto notesBatchesSpec)) notesBatchesUptoCard

/-- THE SECOND FORM's CARD OF 'cavalcadelaw05.NotesItems'. -/
def notesItemsUptoCard : Claim7 := { stood := { row := notesItemsUptoRow, standIns := [], harness := (true, "c515d8a8638dbcd35c1119e9201b1e665e513b3860a1cb6996641a31c9dec330"), looks := false }, kinds := [], alts := [], laidByText := true, laidKinds := [.data], laidTests := true, laidLooks := .later }
def NotesItemsUptoCardSaid : Prop := Claim7.holds Tryd.pinned (.plain (OpenSpec.upto notesItemsSpec)) notesItemsUptoCard

/-- THE SECOND FORM's CARD OF 'cavalcadelaw05.NotesChains'. -/
def notesChainsUptoCard : Claim7 := { stood := { row := notesChainsUptoRow, standIns := [], harness := (true, "c515d8a8638dbcd35c1119e9201b1e665e513b3860a1cb6996641a31c9dec330"), looks := false }, kinds := [], alts := [], laidByText := true, laidKinds := [.data], laidTests := true, laidLooks := .later }
def NotesChainsUptoCardSaid : Prop := Claim7.holds Tryd.pinned (.plain (OpenSpec.upto notesChainsSpec)) notesChainsUptoCard

/-- THE SECOND FORM's CARD OF 'cavalcadelaw05.NotesReads'. -/
def notesReadsUptoCard : Claim7 := { stood := { row := notesReadsUptoRow, standIns := [], harness := (true, "c515d8a8638dbcd35c1119e9201b1e665e513b3860a1cb6996641a31c9dec330"), looks := false }, kinds := [], alts := [], laidByText := true, laidKinds := [.data], laidTests := true, laidLooks := .later }
def NotesReadsUptoCardSaid : Prop := Claim7.holds Tryd.pinned (.plain (OpenSpec.upto notesReadsSpec)) notesReadsUptoCard

/-- THE SECOND FORM's CARD OF 'cavalcadelaw05.NotesBack'. -/
def notesBackUptoCard : Claim7 := { stood := { row := notesBackUptoRow, standIns := [], harness := (true, "c515d8a8638dbcd35c1119e9201b1e665e513b3860a1cb6996641a31c9dec330"), looks := false }, kinds := [], alts := [], laidByText := true, laidKinds := [.data], laidTests := true, laidLooks := .later }
def NotesBackUptoCardSaid : Prop := Claim7.holds Tryd.pinned (.plain (OpenSpec.upto notesBackSpec)) notesBackUptoCard
end Rows
end Go.Proofs.YtnnhnnhdoipbaaaDoor
