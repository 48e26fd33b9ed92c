/-
  DERIVED. GIVEN WITH THE SEED: THE CARDS: each row of YtaeahloenahelaaDoorRows.lean that lists a variable, with what it lists TIED to the program's text (the seventh form; the later family's looks); each row that meets fmt, with fmt's text TOLD by the authors' own Lean function (tested against real Go, not proved from fmt's source: count such statements apart). THE CARD IS WHAT COUNTS. Prove the row's statement (the work); the ties are given (YtaeahloenahelaaDoorTie.lean); close each card by the builder's one call (the guide's Derived/Test/ToyasCard.lean, 'card_holds'). Laid BY PROGRAM, IN A SANDBOX (cutbox-door.mjs). By AI agents, Wed Nov 11 2026. No macro, syntax, notation, axiom, sorry.
-/
import Derived.Test.YtaeahloenahelaaDoorRows
import GoSem.ClaimSeven
namespace Go.Proofs.YtaeahloenahelaaDoor
namespace Rows

/-- THE TIED CARD OF 'cavalcadelaw15.AuctionWins'. -/
def auctionWinsCard : Claim7 := { stood := { row := auctionWinsRow, standIns := [], harness := (true, "650b560a70cbabbeb371bcd1088109af5d0d72191c37ae3923db80c0a90a240e"), looks := false }, kinds := [], alts := [], laidByText := true, laidKinds := [.data], laidTests := true, laidLooks := .later }
def AuctionWinsCardSaid : Prop := Claim7.holds Tryd.pinned (.plain (OpenSpec.ofChange auctionWinsSpec)) auctionWinsCard

/-- THE TIED CARD OF 'cavalcadelaw15.AuctionFair'. -/
def auctionFairCard : Claim7 := { stood := { row := auctionFairRow, standIns := [], harness := (true, "650b560a70cbabbeb371bcd1088109af5d0d72191c37ae3923db80c0a90a240e"), looks := false }, kinds := [], alts := [], laidByText := true, laidKinds := [.data], laidTests := true, laidLooks := .later }
def AuctionFairCardSaid : Prop := Claim7.holds Tryd.pinned (.plain (OpenSpec.ofChange auctionFairSpec)) auctionFairCard

/-- THE TIED CARD OF 'cavalcadelaw15.AuctionLosers'. -/
def auctionLosersCard : Claim7 := { stood := { row := auctionLosersRow, standIns := [], harness := (true, "650b560a70cbabbeb371bcd1088109af5d0d72191c37ae3923db80c0a90a240e"), looks := false }, kinds := [], alts := [], laidByText := true, laidKinds := [.data], laidTests := true, laidLooks := .later }
def AuctionLosersCardSaid : Prop := Claim7.holds Tryd.pinned (.plain (OpenSpec.ofChange auctionLosersSpec)) auctionLosersCard

/-- THE TIED CARD OF 'cavalcadelaw16.LaneRounds'. -/
def laneRoundsCard : Claim7 := { stood := { row := laneRoundsRow, standIns := [], harness := (true, "650b560a70cbabbeb371bcd1088109af5d0d72191c37ae3923db80c0a90a240e"), looks := false }, kinds := [], alts := [], laidByText := true, laidKinds := [.data], laidTests := true, laidLooks := .later }
def LaneRoundsCardSaid : Prop := Claim7.holds Tryd.pinned (.plain (OpenSpec.ofChange laneRoundsSpec)) laneRoundsCard

/-- THE TIED CARD OF 'cavalcadelaw16.LaneDoes'. -/
def laneDoesCard : Claim7 := { stood := { row := laneDoesRow, standIns := [], harness := (true, "650b560a70cbabbeb371bcd1088109af5d0d72191c37ae3923db80c0a90a240e"), looks := false }, kinds := [], alts := [], laidByText := true, laidKinds := [.data], laidTests := true, laidLooks := .later }
def LaneDoesCardSaid : Prop := Claim7.holds Tryd.pinned (.plain (OpenSpec.ofChange laneDoesSpec)) laneDoesCard

/-- THE TIED CARD OF 'cavalcadelaw16.LaneChecks'. -/
def laneChecksCard : Claim7 := { stood := { row := laneChecksRow, standIns := [], harness := (true, "650b560a70cbabbeb371bcd1088109af5d0d72191c37ae3923db80c0a90a240e"), looks := false }, kinds := [], alts := [], laidByText := true, laidKinds := [.data], laidTests := true, laidLooks := .later }
def LaneChecksCardSaid : Prop := Claim7.holds Tryd.pinned (.plain (OpenSpec.ofChange laneChecksSpec)) laneChecksCard

/-- THE TIED CARD OF 'cavalcadelaw16.LaneNone'. -/
def laneNoneCard : Claim7 := { stood := { row := laneNoneRow, standIns := [], harness := (true, "650b560a70cbabbeb371bcd1088109af5d0d72191c37ae3923db80c0a90a240e"), looks := false }, kinds := [], alts := [], laidByText := true, laidKinds := [.data], laidTests := true, laidLooks := .later }
def LaneNoneCardSaid : Prop := Claim7.holds Tryd.pinned (.plain (OpenSpec.ofChange laneNoneSpec)) laneNoneCard

/-- THE TIED CARD OF 'cavalcadelaw15.AuctionNone'. -/
def auctionNoneCard : Claim7 := { stood := { row := auctionNoneRow, standIns := [], harness := (true, "650b560a70cbabbeb371bcd1088109af5d0d72191c37ae3923db80c0a90a240e"), looks := false }, kinds := [], alts := [], laidByText := true, laidKinds := [.data], laidTests := true, laidLooks := .later }
def AuctionNoneCardSaid : Prop := Claim7.holds Tryd.pinned (.plain (OpenSpec.ofChange auctionNoneSpec)) auctionNoneCard

/-- THE TIED CARD OF 'cavalcadelaw15.AuctionBooks'. -/
def auctionBooksCard : Claim7 := { stood := { row := auctionBooksRow, standIns := [], harness := (true, "650b560a70cbabbeb371bcd1088109af5d0d72191c37ae3923db80c0a90a240e"), looks := false }, kinds := [], alts := [], laidByText := true, laidKinds := [.data], laidTests := true, laidLooks := .later }
def AuctionBooksCardSaid : Prop := Claim7.holds Tryd.pinned (.plain (OpenSpec.ofChange auctionBooksSpec)) auctionBooksCard

/-- THE SECOND FORM's CARD OF 'cavalcadelaw15.AuctionWins'. -/
def auctionWinsUptoCard : Claim7 := { stood := { row := auctionWinsUptoRow, standIns := [], harness := (true, "650b560a70cbabbeb371bcd1088109af5d0d72191c37ae3923db80c0a90a240e"), looks := false }, kinds := [], alts := [], laidByText := true, laidKinds := [.data], laidTests := true, laidLooks := .later }
def AuctionWinsUptoCardSaid : Prop := Claim7.holds Tryd.pinned (.plain (OpenSpec.upto auctionWinsSpec)) auctionWinsUptoCard

/-- THE SECOND FORM's CARD OF 'cavalcadelaw15.AuctionFair'. -/
def auctionFairUptoCard : Claim7 := { stood := { row := auctionFairUptoRow, standIns := [], harness := (true, "650b560a70cbabbeb371bcd1088109af5d0d72191c37ae3923db80c0a90a240e"), looks := false }, kinds := [], alts := [], laidByText := true, laidKinds := [.data], laidTests := true, laidLooks := .later }
def AuctionFairUptoCardSaid : Prop := Claim7.holds Tryd.pinned (.plain (OpenSpec.upto auctionFairSpec)) auctionFairUptoCard

/-- THE SECOND FORM's CARD OF 'cavalcadelaw15.AuctionLosers'. -/
def auctionLosersUptoCard : Claim7 := { stood := { row := auctionLosersUptoRow, standIns := [], harness := (true, "650b560a70cbabbeb371bcd1088109af5d0d72191c37ae3923db80c0a90a240e"), looks := false }, kinds := [], alts := [], laidByText := true, laidKinds := [.data], laidTests := true, laidLooks := .later }
def AuctionLosersUptoCardSaid : Prop := Claim7.holds Tryd.pinned (.plain (OpenSpec.upto auctionLosersSpec)) auctionLosersUptoCard

/-- THE SECOND FORM's CARD OF 'cavalcadelaw16.LaneRounds'. -/
def laneRoundsUptoCard : Claim7 := { stood := { row := laneRoundsUptoRow, standIns := [], harness := (true, "650b560a70cbabbeb371bcd1088109af5d0d72191c37ae3923db80c0a90a240e"), looks := false }, kinds := [], alts := [], laidByText := true, laidKinds := [.data], laidTests := true, laidLooks := .later }
def LaneRoundsUptoCardSaid : Prop := Claim7.holds Tryd.pinned (.plain (OpenSpec.upto laneRoundsSpec)) laneRoundsUptoCard

/-- THE SECOND FORM's CARD OF 'cavalcadelaw16.LaneDoes'. -/
def laneDoesUptoCard : Claim7 := { stood := { row := laneDoesUptoRow, standIns := [], harness := (true, "650b560a70cbabbeb371bcd1088109af5d0d72191c37ae3923db80c0a90a240e"), looks := false }, kinds := [], alts := [], laidByText := true, laidKinds := [.data], laidTests := true, laidLooks := .later }
def LaneDoesUptoCardSaid : Prop := Claim7.holds Tryd.pinned (.plain (OpenSpec.upto laneDoesSpec)) laneDoesUptoCard

/-- THE SECOND FORM's CARD OF 'cavalcadelaw16.LaneChecks'. -/
def laneChecksUptoCard : Claim7 := { stood := { row := laneChecksUptoRow, standIns := [], harness := (true, "650b560a70cbabbeb371bcd1088109af5d0d72191c37ae3923db80c0a90a240e"), looks := false }, kinds := [], alts := [], laidByText := true, laidKinds := [.data], laidTests := true, laidLooks := .later }
def LaneChecksUptoCardSaid : Prop := Claim7.holds Tryd.pinned (.plain (OpenSpec.upto laneChecksSpec)) laneChecksUptoCard

/-- THE SECOND FORM's CARD OF 'cavalcadelaw16.LaneNone'. -/
def laneNoneUptoCard : Claim7 := { stood := { row := laneNoneUptoRow, standIns := [], harness := (true, "650b560a70cbabbeb371bcd1088109af5d0d72191c37ae3923db80c0a90a240e"), looks := false }, kinds := [], alts := [], laidByText := true, laidKinds := [.data], laidTests := true, laidLooks := .later }
def LaneNoneUptoCardSaid : Prop := Claim7.holds Tryd.pinned (.plain (OpenSpec.upto laneNoneSpec)) laneNoneUptoCard

/-- THE SECOND FORM's CARD OF 'cavalcadelaw15.AuctionNone'. -/
def auctionNoneUptoCard : Claim7 := { stood := { row := auctionNoneUptoRow, standIns := [], harness := (true, "650b560a70cbabbeb371bcd1088109af5d0d72191c37ae3923db80c0a90a240e"), looks := false }, kinds := [], alts := [], laidByText := true, laidKinds := [.data], laidTests := true, laidLooks := .later }
def AuctionNoneUptoCardSaid : Prop := Claim7.holds Tryd.pinned (.plain (OpenSpec.upto auctionNoneSpec)) auctionNoneUptoCard

/-- THE SECOND FORM's CARD OF 'cavalcadelaw15.AuctionBooks'. -/
def auctionBooksUptoCard : Claim7 := { stood := { row := auctionBooksUptoRow, standIns := [], harness := (true, "650b560a70cbabbeb371bcd1088109af5d0d72191c37ae3923db80c0a90a240e"), looks := false }, kinds := [], alts := [], laidByText := true, laidKinds := [.data], laidTests := true, laidLooks := .later }
def AuctionBooksUptoCardSaid : Prop := Claim7.holds Tryd.pinned (.plain (OpenSpec.upto auctionBooksSpec)) auctionBooksUptoCard
end Rows
end Go.Proofs.YtaeahloenahelaaDoor
