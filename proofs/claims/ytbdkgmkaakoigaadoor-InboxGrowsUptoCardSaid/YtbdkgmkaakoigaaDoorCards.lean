/-
  DERIVED. GIVEN WITH THE SEED: THE CARDS: each row of YtbdkgmkaakoigaaDoorRows.lean that lists a variable, with what it lists TIED to the program's text (the seventh form; the later family's looks); each row that meets fmt, with fmt's text TOLD by the authors' own Lean function (tested against real Go, not proved from fmt's source: count such statements apart). THE CARD IS WHAT COUNTS. Prove the row's statement (the work); the ties are given (YtbdkgmkaakoigaaDoorTie.lean); close each card by the builder's one call (the guide's Derived/Test/ToyasCard.lean, 'card_holds'). Laid BY PROGRAM, IN A SANDBOX (cutbox-door.mjs). By AI agents, Wed Nov 11 2026. No macro, syntax, notation, axiom, sorry.
-/
import Derived.Test.YtbdkgmkaakoigaaDoorRows
import GoSem.ClaimSeven
namespace Go.Proofs.YtbdkgmkaakoigaaDoor
namespace Rows

/-- THE TIED CARD OF 'cavalcadelaw12.InboxReach'. -/
def inboxReachCard : Claim7 := { stood := { row := inboxReachRow, standIns := [], harness := (true, "33dc35c9b36cbbf41844675fbb2ffc1a3f18b8298d95f83e60e65c069dbf7a2a"), looks := false }, kinds := [], alts := [], laidByText := true, laidKinds := [.data], laidTests := true, laidLooks := .later }
def InboxReachCardSaid : Prop := Claim7.holds Tryd.pinned (.plain (OpenSpec.ofChange inboxReachSpec)) inboxReachCard

/-- THE TIED CARD OF 'cavalcadelaw12.InboxGrows'. -/
def inboxGrowsCard : Claim7 := { stood := { row := inboxGrowsRow, standIns := [], harness := (true, "33dc35c9b36cbbf41844675fbb2ffc1a3f18b8298d95f83e60e65c069dbf7a2a"), looks := false }, kinds := [], alts := [], laidByText := true, laidKinds := [.data], laidTests := true, laidLooks := .later }
def InboxGrowsCardSaid : Prop := Claim7.holds Tryd.pinned (.plain (OpenSpec.ofChange inboxGrowsSpec)) inboxGrowsCard

/-- THE TIED CARD OF 'cavalcadelaw12.InboxChained'. -/
def inboxChainedCard : Claim7 := { stood := { row := inboxChainedRow, standIns := [], harness := (true, "33dc35c9b36cbbf41844675fbb2ffc1a3f18b8298d95f83e60e65c069dbf7a2a"), looks := false }, kinds := [], alts := [], laidByText := true, laidKinds := [.data], laidTests := true, laidLooks := .later }
def InboxChainedCardSaid : Prop := Claim7.holds Tryd.pinned (.plain (OpenSpec.ofChange inboxChainedSpec)) inboxChainedCard

/-- THE TIED CARD OF 'cavalcadelaw12.InboxWaits'. -/
def inboxWaitsCard : Claim7 := { stood := { row := inboxWaitsRow, standIns := [], harness := (true, "33dc35c9b36cbbf41844675fbb2ffc1a3f18b8298d95f83e60e65c069dbf7a2a"), looks := false }, kinds := [], alts := [], laidByText := true, laidKinds := [.data], laidTests := true, laidLooks := .later }
def InboxWaitsCardSaid : Prop := Claim7.holds Tryd.pinned (.plain (OpenSpec.ofChange inboxWaitsSpec)) inboxWaitsCard

/-- THE TIED CARD OF 'cavalcadelaw12.InboxMessages'. -/
def inboxMessagesCard : Claim7 := { stood := { row := inboxMessagesRow, standIns := [], harness := (true, "33dc35c9b36cbbf41844675fbb2ffc1a3f18b8298d95f83e60e65c069dbf7a2a"), looks := false }, kinds := [], alts := [], laidByText := true, laidKinds := [.data], laidTests := true, laidLooks := .later }
def InboxMessagesCardSaid : Prop := Claim7.holds Tryd.pinned (.plain (OpenSpec.ofChange inboxMessagesSpec)) inboxMessagesCard

/-- THE SECOND FORM's CARD OF 'cavalcadelaw12.InboxReach'. -/
def inboxReachUptoCard : Claim7 := { stood := { row := inboxReachUptoRow, standIns := [], harness := (true, "33dc35c9b36cbbf41844675fbb2ffc1a3f18b8298d95f83e60e65c069dbf7a2a"), looks := false }, kinds := [], alts := [], laidByText := true, laidKinds := [.data], laidTests := true, laidLooks := .later }
def InboxReachUptoCardSaid : Prop := Claim7.holds Tryd.pinned (.plain (OpenSpec.upto inboxReachSpec)) inboxReachUptoCard

/-- THE SECOND FORM's CARD OF 'cavalcadelaw12.InboxGrows'. -/
def inboxGrowsUptoCard : Claim7 := { stood := { row := inboxGrowsUptoRow, standIns := [], harness := (true, "33dc35c9b36cbbf41844675fbb2ffc1a3f18b8298d95f83e60e65c069dbf7a2a"), looks := false }, kinds := [], alts := [], laidByText := true, laidKinds := [.data], laidTests := true, laidLooks := .later }
def InboxGrowsUptoCardSaid : Prop := Claim7.holds Tryd.pinned (.plain (OpenSpec.upto inboxGrowsSpec)) inboxGrowsUptoCard

/-- THE SECOND FORM's CARD OF 'cavalcadelaw12.InboxChained'. -/
def inboxChainedUptoCard : Claim7 := { stood := { row := inboxChainedUptoRow, standIns := [], harness := (true, "33dc35c9b36cbbf41844675fbb2ffc1a3f18b8298d95f83e60e65c069dbf7a2a"), looks := false }, kinds := [], alts := [], laidByText := true, laidKinds := [.data], laidTests := true, laidLooks := .later }
def InboxChainedUptoCardSaid : Prop := Claim7.holds Tryd.pinned (.plain (OpenSpec.upto inboxChainedSpec)) inboxChainedUptoCard

/-- THE SECOND FORM's CARD OF 'cavalcadelaw12.InboxWaits'. -/
def inboxWaitsUptoCard : Claim7 := { stood := { row := inboxWaitsUptoRow, standIns := [], harness := (true, "33dc35c9b36cbbf41844675fbb2ffc1a3f18b8298d95f83e60e65c069dbf7a2a"), looks := false }, kinds := [], alts := [], laidByText := true, laidKinds := [.data], laidTests := true, laidLooks := .later }
def InboxWaitsUptoCardSaid : Prop := Claim7.holds Tryd.pinned (.plain (OpenSpec.upto inboxWaitsSpec)) inboxWaitsUptoCard

/-- THE SECOND FORM's CARD OF 'cavalcadelaw12.InboxMessages'. -/
def inboxMessagesUptoCard : Claim7 := { stood := { row := inboxMessagesUptoRow, standIns := [], harness := (true, "33dc35c9b36cbbf41844675fbb2ffc1a3f18b8298d95f83e60e65c069dbf7a2a"), looks := false }, kinds := [], alts := [], laidByText := true, laidKinds := [.data], laidTests := true, laidLooks := .later }
def InboxMessagesUptoCardSaid : Prop := Claim7.holds Tryd.pinned (.plain (OpenSpec.upto inboxMessagesSpec)) inboxMessagesUptoCard
end Rows
end Go.Proofs.YtbdkgmkaakoigaaDoor
