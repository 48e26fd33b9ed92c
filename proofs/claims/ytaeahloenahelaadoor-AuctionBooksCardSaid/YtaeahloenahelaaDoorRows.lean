/-
  NARROWER THAN 'FOR EVERY INPUT', by the rows' own cells (each row's printed sentence says how): AuctionWins: laid · AuctionFair: laid · AuctionLosers: laid · LaneRounds: laid · LaneDoes: laid · LaneChecks: laid · LaneNone: laid · AuctionNone: laid · AuctionBooks: laid.
  DERIVED. THE GIVEN ROWS OF THIS SEAT. 9 by the template 'for every input the law returns true; each argument reads behind the call as it read before'; 0 by the template 'total and deterministic' (their statements: YtaeahloenahelaaDoorTotals.lean).
  GIVEN WITH THE SEED: the statements are not yours to turn. If you find one false, say at which input.
  Laid BY PROGRAM, IN A SANDBOX (cutbox-rows.mjs): the forced cells as the released guide's own fill.sh prints them over the translation 263d234db8722576… (all of the seat's roots in one cut). By AI agents, Wed Nov 11 2026. No macro, syntax, notation, axiom, sorry.
-/
import Derived.Test.YtaeahloenahelaaDoorChecked
import GoSem.Claim
import GoSem.ClaimJoined
import GoSem.ClaimMapViews
import Derived.JoinedTies
import Derived.KernelRfl
namespace Go.Proofs.YtaeahloenahelaaDoor
/- THE CELL 'sum', in the pinned program and in every row, IS THE sha256 OF THE DUMP (.gsa) THAT YtaeahloenahelaaDoorProg.lean LOADS. Nothing in Lean hashes anything: it is a label: what it is worth is what the hold of that sum in a sandbox is worth. -/
noncomputable def Tryd.pinned : Pinned := { name := "ytaeahloenahelaadoor", sum := "263d234db872257642335fd91dd8de10c41c5b73928216ddbfda0fb26d95e916", checked := Tryd.checked }
namespace Rows
def none {H : Type} : Left H := { results := [], args := [] }

/- WHAT THE LISTED PACKAGE-LEVEL VARIABLES READ AS WHEN THE CALL BEGINS. Each datum BY PROGRAM (the guide's laid-datum.mjs) off the statement by which the dump's own 'gosem.cut.vars' lays the variable. In a bare row this is a premise. The card (YtaeahloenahelaaDoorCards.lean) ties it to the program's text. -/
def laid_cavalcade_digest_rounds {H : Type} : DataW H := .agg [.lit (.int .u32 1116352408), .lit (.int .u32 1899447441), .lit (.int .u32 3049323471), .lit (.int .u32 3921009573), .lit (.int .u32 961987163), .lit (.int .u32 1508970993), .lit (.int .u32 2453635748), .lit (.int .u32 2870763221), .lit (.int .u32 3624381080), .lit (.int .u32 310598401), .lit (.int .u32 607225278), .lit (.int .u32 1426881987), .lit (.int .u32 1925078388), .lit (.int .u32 2162078206), .lit (.int .u32 2614888103), .lit (.int .u32 3248222580), .lit (.int .u32 3835390401), .lit (.int .u32 4022224774), .lit (.int .u32 264347078), .lit (.int .u32 604807628), .lit (.int .u32 770255983), .lit (.int .u32 1249150122), .lit (.int .u32 1555081692), .lit (.int .u32 1996064986), .lit (.int .u32 2554220882), .lit (.int .u32 2821834349), .lit (.int .u32 2952996808), .lit (.int .u32 3210313671), .lit (.int .u32 3336571891), .lit (.int .u32 3584528711), .lit (.int .u32 113926993), .lit (.int .u32 338241895), .lit (.int .u32 666307205), .lit (.int .u32 773529912), .lit (.int .u32 1294757372), .lit (.int .u32 1396182291), .lit (.int .u32 1695183700), .lit (.int .u32 1986661051), .lit (.int .u32 2177026350), .lit (.int .u32 2456956037), .lit (.int .u32 2730485921), .lit (.int .u32 2820302411), .lit (.int .u32 3259730800), .lit (.int .u32 3345764771), .lit (.int .u32 3516065817), .lit (.int .u32 3600352804), .lit (.int .u32 4094571909), .lit (.int .u32 275423344), .lit (.int .u32 430227734), .lit (.int .u32 506948616), .lit (.int .u32 659060556), .lit (.int .u32 883997877), .lit (.int .u32 958139571), .lit (.int .u32 1322822218), .lit (.int .u32 1537002063), .lit (.int .u32 1747873779), .lit (.int .u32 1955562222), .lit (.int .u32 2024104815), .lit (.int .u32 2227730452), .lit (.int .u32 2361852424), .lit (.int .u32 2428436474), .lit (.int .u32 2756734187), .lit (.int .u32 3204031479), .lit (.int .u32 3329325298)]

/-- 'cavalcadelaw15.AuctionWins': WHATEVER THE INPUT: true; the input reads as it did. -/
def auctionWinsSpec : ChangeSpec := { name := "auctionWins", fn := fun _ => fun
  | [d] => { results := [.lit (.bool true)], args := [d] }
  | _ => none }
def auctionWinsRow : OpenClaim := { program := "ytaeahloenahelaadoor", sum := "263d234db872257642335fd91dd8de10c41c5b73928216ddbfda0fb26d95e916", func := "cavalcade/cavalcadelaw15.AuctionWins", spec := "auctionWins", unfollowed := true, recurses := true, named := ["cavalcade/digest.rounds"], apart := false, laid := [("cavalcade/digest.rounds", laid_cavalcade_digest_rounds)] }
def AuctionWinsSaid : Prop := auctionWinsRow.holds Tryd.pinned (OpenSpec.ofChange auctionWinsSpec)

/-- ITS FALSE NEIGHBOUR: 'it returns false'. Refute it at one input. -/
def auctionWinsWrong : ChangeSpec := { name := "auctionWins", fn := fun _ => fun
  | [d] => { results := [.lit (.bool false)], args := [d] }
  | _ => none }
def AuctionWinsWrongFalsely : Prop := auctionWinsRow.holds Tryd.pinned (OpenSpec.ofChange auctionWinsWrong)

/-- 'cavalcadelaw15.AuctionFair': WHATEVER THE INPUT: true; the input reads as it did. -/
def auctionFairSpec : ChangeSpec := { name := "auctionFair", fn := fun _ => fun
  | [d] => { results := [.lit (.bool true)], args := [d] }
  | _ => none }
def auctionFairRow : OpenClaim := { program := "ytaeahloenahelaadoor", sum := "263d234db872257642335fd91dd8de10c41c5b73928216ddbfda0fb26d95e916", func := "cavalcade/cavalcadelaw15.AuctionFair", spec := "auctionFair", unfollowed := true, recurses := true, named := ["cavalcade/digest.rounds"], apart := false, laid := [("cavalcade/digest.rounds", laid_cavalcade_digest_rounds)] }
def AuctionFairSaid : Prop := auctionFairRow.holds Tryd.pinned (OpenSpec.ofChange auctionFairSpec)

/-- ITS FALSE NEIGHBOUR: 'it returns false'. Refute it at one input. -/
def auctionFairWrong : ChangeSpec := { name := "auctionFair", fn := fun _ => fun
  | [d] => { results := [.lit (.bool false)], args := [d] }
  | _ => none }
def AuctionFairWrongFalsely : Prop := auctionFairRow.holds Tryd.pinned (OpenSpec.ofChange auctionFairWrong)

/-- 'cavalcadelaw15.AuctionLosers': WHATEVER THE INPUT: true; the input reads as it did. -/
def auctionLosersSpec : ChangeSpec := { name := "auctionLosers", fn := fun _ => fun
  | [d1, d2] => { results := [.lit (.bool true)], args := [d1, d2] }
  | _ => none }
def auctionLosersRow : OpenClaim := { program := "ytaeahloenahelaadoor", sum := "263d234db872257642335fd91dd8de10c41c5b73928216ddbfda0fb26d95e916", func := "cavalcade/cavalcadelaw15.AuctionLosers", spec := "auctionLosers", unfollowed := true, recurses := true, named := ["cavalcade/digest.rounds"], apart := false, laid := [("cavalcade/digest.rounds", laid_cavalcade_digest_rounds)] }
def AuctionLosersSaid : Prop := auctionLosersRow.holds Tryd.pinned (OpenSpec.ofChange auctionLosersSpec)

/-- ITS FALSE NEIGHBOUR: 'it returns false'. Refute it at one input. -/
def auctionLosersWrong : ChangeSpec := { name := "auctionLosers", fn := fun _ => fun
  | [d1, d2] => { results := [.lit (.bool false)], args := [d1, d2] }
  | _ => none }
def AuctionLosersWrongFalsely : Prop := auctionLosersRow.holds Tryd.pinned (OpenSpec.ofChange auctionLosersWrong)

/-- 'cavalcadelaw16.LaneRounds': WHATEVER THE INPUT: true; the input reads as it did. -/
def laneRoundsSpec : ChangeSpec := { name := "laneRounds", fn := fun _ => fun
  | [d1, d2] => { results := [.lit (.bool true)], args := [d1, d2] }
  | _ => none }
def laneRoundsRow : OpenClaim := { program := "ytaeahloenahelaadoor", sum := "263d234db872257642335fd91dd8de10c41c5b73928216ddbfda0fb26d95e916", func := "cavalcade/cavalcadelaw16.LaneRounds", spec := "laneRounds", unfollowed := true, recurses := true, named := ["cavalcade/digest.rounds"], apart := false, laid := [("cavalcade/digest.rounds", laid_cavalcade_digest_rounds)] }
def LaneRoundsSaid : Prop := laneRoundsRow.holds Tryd.pinned (OpenSpec.ofChange laneRoundsSpec)

/-- ITS FALSE NEIGHBOUR: 'it returns false'. Refute it at one input. -/
def laneRoundsWrong : ChangeSpec := { name := "laneRounds", fn := fun _ => fun
  | [d1, d2] => { results := [.lit (.bool false)], args := [d1, d2] }
  | _ => none }
def LaneRoundsWrongFalsely : Prop := laneRoundsRow.holds Tryd.pinned (OpenSpec.ofChange laneRoundsWrong)

/-- 'cavalcadelaw16.LaneDoes': WHATEVER THE INPUT: true; the input reads as it did. -/
def laneDoesSpec : ChangeSpec := { name := "laneDoes", fn := fun _ => fun
  | [d1, d2] => { results := [.lit (.bool true)], args := [d1, d2] }
  | _ => none }
def laneDoesRow : OpenClaim := { program := "ytaeahloenahelaadoor", sum := "263d234db872257642335fd91dd8de10c41c5b73928216ddbfda0fb26d95e916", func := "cavalcade/cavalcadelaw16.LaneDoes", spec := "laneDoes", unfollowed := true, recurses := true, named := ["cavalcade/digest.rounds"], apart := false, laid := [("cavalcade/digest.rounds", laid_cavalcade_digest_rounds)] }
def LaneDoesSaid : Prop := laneDoesRow.holds Tryd.pinned (OpenSpec.ofChange laneDoesSpec)

/-- ITS FALSE NEIGHBOUR: 'it returns false'. Refute it at one input. -/
def laneDoesWrong : ChangeSpec := { name := "laneDoes", fn := fun _ => fun
  | [d1, d2] => { results := [.lit (.bool false)], args := [d1, d2] }
  | _ => none }
def LaneDoesWrongFalsely : Prop := laneDoesRow.holds Tryd.pinned (OpenSpec.ofChange laneDoesWrong)

/-- 'cavalcadelaw16.LaneChecks': WHATEVER THE INPUT: true; the input reads as it did. -/
def laneChecksSpec : ChangeSpec := { name := "laneChecks", fn := fun _ => fun
  | [d1, d2, d3] => { results := [.lit (.bool true)], args := [d1, d2, d3] }
  | _ => none }
def laneChecksRow : OpenClaim := { program := "ytaeahloenahelaadoor", sum := "263d234db872257642335fd91dd8de10c41c5b73928216ddbfda0fb26d95e916", func := "cavalcade/cavalcadelaw16.LaneChecks", spec := "laneChecks", unfollowed := true, recurses := true, named := ["cavalcade/digest.rounds"], apart := false, laid := [("cavalcade/digest.rounds", laid_cavalcade_digest_rounds)] }
def LaneChecksSaid : Prop := laneChecksRow.holds Tryd.pinned (OpenSpec.ofChange laneChecksSpec)

/-- ITS FALSE NEIGHBOUR: 'it returns false'. Refute it at one input. -/
def laneChecksWrong : ChangeSpec := { name := "laneChecks", fn := fun _ => fun
  | [d1, d2, d3] => { results := [.lit (.bool false)], args := [d1, d2, d3] }
  | _ => none }
def LaneChecksWrongFalsely : Prop := laneChecksRow.holds Tryd.pinned (OpenSpec.ofChange laneChecksWrong)

/-- 'cavalcadelaw16.LaneNone': WHATEVER THE INPUT: true; the input reads as it did. -/
def laneNoneSpec : ChangeSpec := { name := "laneNone", fn := fun _ => fun
  | [d] => { results := [.lit (.bool true)], args := [d] }
  | _ => none }
def laneNoneRow : OpenClaim := { program := "ytaeahloenahelaadoor", sum := "263d234db872257642335fd91dd8de10c41c5b73928216ddbfda0fb26d95e916", func := "cavalcade/cavalcadelaw16.LaneNone", spec := "laneNone", unfollowed := true, recurses := true, named := ["cavalcade/digest.rounds"], apart := false, laid := [("cavalcade/digest.rounds", laid_cavalcade_digest_rounds)] }
def LaneNoneSaid : Prop := laneNoneRow.holds Tryd.pinned (OpenSpec.ofChange laneNoneSpec)

/-- ITS FALSE NEIGHBOUR: 'it returns false'. Refute it at one input. -/
def laneNoneWrong : ChangeSpec := { name := "laneNone", fn := fun _ => fun
  | [d] => { results := [.lit (.bool false)], args := [d] }
  | _ => none }
def LaneNoneWrongFalsely : Prop := laneNoneRow.holds Tryd.pinned (OpenSpec.ofChange laneNoneWrong)

/-- 'cavalcadelaw15.AuctionNone': WHATEVER THE INPUT: true; the input reads as it did. -/
def auctionNoneSpec : ChangeSpec := { name := "auctionNone", fn := fun _ => fun
  | [d] => { results := [.lit (.bool true)], args := [d] }
  | _ => none }
def auctionNoneRow : OpenClaim := { program := "ytaeahloenahelaadoor", sum := "263d234db872257642335fd91dd8de10c41c5b73928216ddbfda0fb26d95e916", func := "cavalcade/cavalcadelaw15.AuctionNone", spec := "auctionNone", unfollowed := true, recurses := true, named := ["cavalcade/digest.rounds"], apart := false, laid := [("cavalcade/digest.rounds", laid_cavalcade_digest_rounds)] }
def AuctionNoneSaid : Prop := auctionNoneRow.holds Tryd.pinned (OpenSpec.ofChange auctionNoneSpec)

/-- ITS FALSE NEIGHBOUR: 'it returns false'. Refute it at one input. -/
def auctionNoneWrong : ChangeSpec := { name := "auctionNone", fn := fun _ => fun
  | [d] => { results := [.lit (.bool false)], args := [d] }
  | _ => none }
def AuctionNoneWrongFalsely : Prop := auctionNoneRow.holds Tryd.pinned (OpenSpec.ofChange auctionNoneWrong)

/-- 'cavalcadelaw15.AuctionBooks': WHATEVER THE INPUT: true; the input reads as it did. -/
def auctionBooksSpec : ChangeSpec := { name := "auctionBooks", fn := fun _ => fun
  | [d1, d2] => { results := [.lit (.bool true)], args := [d1, d2] }
  | _ => none }
def auctionBooksRow : OpenClaim := { program := "ytaeahloenahelaadoor", sum := "263d234db872257642335fd91dd8de10c41c5b73928216ddbfda0fb26d95e916", func := "cavalcade/cavalcadelaw15.AuctionBooks", spec := "auctionBooks", unfollowed := true, recurses := true, named := ["cavalcade/digest.rounds"], apart := false, laid := [("cavalcade/digest.rounds", laid_cavalcade_digest_rounds)] }
def AuctionBooksSaid : Prop := auctionBooksRow.holds Tryd.pinned (OpenSpec.ofChange auctionBooksSpec)

/-- ITS FALSE NEIGHBOUR: 'it returns false'. Refute it at one input. -/
def auctionBooksWrong : ChangeSpec := { name := "auctionBooks", fn := fun _ => fun
  | [d1, d2] => { results := [.lit (.bool false)], args := [d1, d2] }
  | _ => none }
def AuctionBooksWrongFalsely : Prop := auctionBooksRow.holds Tryd.pinned (OpenSpec.ofChange auctionBooksWrong)

/- THE SECOND FORM. 'bulk': how many values and letters a reading holds, each counted each time it is reached (what is shared counts as often as it is met; a slice's spare places count too). A statement '..UptoSaid' is the law's where the arguments, and the package variables that the reading takes, are together of bulk at most 1048576: NARROWER than '..Said'. Prove '..Said' where nothing that the law and all that it calls make is longer than what came in: it says more and counts as full. Else prove '..UptoSaid'. A law counts once. -/
mutual
def uptoBulk {H : Type} : DataW H → Nat
  | .lit (.string bytes) => bytes.length + 1
  | .lit _ => 1
  | .nil => 1
  | .ptr d => uptoBulk d + 1
  | .slice elems spare => uptoBulkAll elems + uptoBulkAll spare + 1
  | .agg parts => uptoBulkAll parts + 1
  | .iface _ d => uptoBulk d + 1
  | .map entries => uptoBulkEntries entries + 1
  | .held _ => 1
def uptoBulkAll {H : Type} : List (DataW H) → Nat
  | [] => 0
  | d :: r => uptoBulk d + uptoBulkAll r
def uptoBulkEntries {H : Type} : List (Lit × DataW H) → Nat
  | [] => 0
  | x :: r => uptoBulkEntry x + uptoBulkEntries r
def uptoBulkEntry {H : Type} : Lit × DataW H → Nat
  | (.string bytes, d) => bytes.length + uptoBulk d + 1
  | (_, d) => uptoBulk d + 1
 end
def uptoSmall : (H : Type) → List (DataW H) → Bool := fun _ ds => decide (uptoBulkAll ds ≤ 1048576)
def OpenSpec.upto (s : _root_.Go.ChangeSpec) : _root_.Go.OpenSpec := { _root_.Go.OpenSpec.ofChange s with cond := some uptoSmall }

/-- 'cavalcadelaw15.AuctionWins', WHERE WHAT IT READS IS OF BULK AT MOST 1048576: true; the input reads as it did. -/
def auctionWinsUptoRow : OpenClaim := { program := "ytaeahloenahelaadoor", sum := "263d234db872257642335fd91dd8de10c41c5b73928216ddbfda0fb26d95e916", func := "cavalcade/cavalcadelaw15.AuctionWins", spec := "auctionWins", unfollowed := true, recurses := true, named := ["cavalcade/digest.rounds"], apart := false, laid := [("cavalcade/digest.rounds", laid_cavalcade_digest_rounds)], narrowed := true }
def AuctionWinsUptoSaid : Prop := auctionWinsUptoRow.holds Tryd.pinned (OpenSpec.upto auctionWinsSpec)

/-- 'cavalcadelaw15.AuctionFair', WHERE WHAT IT READS IS OF BULK AT MOST 1048576: true; the input reads as it did. -/
def auctionFairUptoRow : OpenClaim := { program := "ytaeahloenahelaadoor", sum := "263d234db872257642335fd91dd8de10c41c5b73928216ddbfda0fb26d95e916", func := "cavalcade/cavalcadelaw15.AuctionFair", spec := "auctionFair", unfollowed := true, recurses := true, named := ["cavalcade/digest.rounds"], apart := false, laid := [("cavalcade/digest.rounds", laid_cavalcade_digest_rounds)], narrowed := true }
def AuctionFairUptoSaid : Prop := auctionFairUptoRow.holds Tryd.pinned (OpenSpec.upto auctionFairSpec)

/-- 'cavalcadelaw15.AuctionLosers', WHERE WHAT IT READS IS OF BULK AT MOST 1048576: true; the input reads as it did. -/
def auctionLosersUptoRow : OpenClaim := { program := "ytaeahloenahelaadoor", sum := "263d234db872257642335fd91dd8de10c41c5b73928216ddbfda0fb26d95e916", func := "cavalcade/cavalcadelaw15.AuctionLosers", spec := "auctionLosers", unfollowed := true, recurses := true, named := ["cavalcade/digest.rounds"], apart := false, laid := [("cavalcade/digest.rounds", laid_cavalcade_digest_rounds)], narrowed := true }
def AuctionLosersUptoSaid : Prop := auctionLosersUptoRow.holds Tryd.pinned (OpenSpec.upto auctionLosersSpec)

/-- 'cavalcadelaw16.LaneRounds', WHERE WHAT IT READS IS OF BULK AT MOST 1048576: true; the input reads as it did. -/
def laneRoundsUptoRow : OpenClaim := { program := "ytaeahloenahelaadoor", sum := "263d234db872257642335fd91dd8de10c41c5b73928216ddbfda0fb26d95e916", func := "cavalcade/cavalcadelaw16.LaneRounds", spec := "laneRounds", unfollowed := true, recurses := true, named := ["cavalcade/digest.rounds"], apart := false, laid := [("cavalcade/digest.rounds", laid_cavalcade_digest_rounds)], narrowed := true }
def LaneRoundsUptoSaid : Prop := laneRoundsUptoRow.holds Tryd.pinned (OpenSpec.upto laneRoundsSpec)

/-- 'cavalcadelaw16.LaneDoes', WHERE WHAT IT READS IS OF BULK AT MOST 1048576: true; the input reads as it did. -/
def laneDoesUptoRow : OpenClaim := { program := "ytaeahloenahelaadoor", sum := "263d234db872257642335fd91dd8de10c41c5b73928216ddbfda0fb26d95e916", func := "cavalcade/cavalcadelaw16.LaneDoes", spec := "laneDoes", unfollowed := true, recurses := true, named := ["cavalcade/digest.rounds"], apart := false, laid := [("cavalcade/digest.rounds", laid_cavalcade_digest_rounds)], narrowed := true }
def LaneDoesUptoSaid : Prop := laneDoesUptoRow.holds Tryd.pinned (OpenSpec.upto laneDoesSpec)

/-- 'cavalcadelaw16.LaneChecks', WHERE WHAT IT READS IS OF BULK AT MOST 1048576: true; the input reads as it did. -/
def laneChecksUptoRow : OpenClaim := { program := "ytaeahloenahelaadoor", sum := "263d234db872257642335fd91dd8de10c41c5b73928216ddbfda0fb26d95e916", func := "cavalcade/cavalcadelaw16.LaneChecks", spec := "laneChecks", unfollowed := true, recurses := true, named := ["cavalcade/digest.rounds"], apart := false, laid := [("cavalcade/digest.rounds", laid_cavalcade_digest_rounds)], narrowed := true }
def LaneChecksUptoSaid : Prop := laneChecksUptoRow.holds Tryd.pinned (OpenSpec.upto laneChecksSpec)

/-- 'cavalcadelaw16.LaneNone', WHERE WHAT IT READS IS OF BULK AT MOST 1048576: true; the input reads as it did. -/
def laneNoneUptoRow : OpenClaim := { program := "ytaeahloenahelaadoor", sum := "263d234db872257642335fd91dd8de10c41c5b73928216ddbfda0fb26d95e916", func := "cavalcade/cavalcadelaw16.LaneNone", spec := "laneNone", unfollowed := true, recurses := true, named := ["cavalcade/digest.rounds"], apart := false, laid := [("cavalcade/digest.rounds", laid_cavalcade_digest_rounds)], narrowed := true }
def LaneNoneUptoSaid : Prop := laneNoneUptoRow.holds Tryd.pinned (OpenSpec.upto laneNoneSpec)

/-- 'cavalcadelaw15.AuctionNone', WHERE WHAT IT READS IS OF BULK AT MOST 1048576: true; the input reads as it did. -/
def auctionNoneUptoRow : OpenClaim := { program := "ytaeahloenahelaadoor", sum := "263d234db872257642335fd91dd8de10c41c5b73928216ddbfda0fb26d95e916", func := "cavalcade/cavalcadelaw15.AuctionNone", spec := "auctionNone", unfollowed := true, recurses := true, named := ["cavalcade/digest.rounds"], apart := false, laid := [("cavalcade/digest.rounds", laid_cavalcade_digest_rounds)], narrowed := true }
def AuctionNoneUptoSaid : Prop := auctionNoneUptoRow.holds Tryd.pinned (OpenSpec.upto auctionNoneSpec)

/-- 'cavalcadelaw15.AuctionBooks', WHERE WHAT IT READS IS OF BULK AT MOST 1048576: true; the input reads as it did. -/
def auctionBooksUptoRow : OpenClaim := { program := "ytaeahloenahelaadoor", sum := "263d234db872257642335fd91dd8de10c41c5b73928216ddbfda0fb26d95e916", func := "cavalcade/cavalcadelaw15.AuctionBooks", spec := "auctionBooks", unfollowed := true, recurses := true, named := ["cavalcade/digest.rounds"], apart := false, laid := [("cavalcade/digest.rounds", laid_cavalcade_digest_rounds)], narrowed := true }
def AuctionBooksUptoSaid : Prop := auctionBooksUptoRow.holds Tryd.pinned (OpenSpec.upto auctionBooksSpec)

end Rows
end Go.Proofs.YtaeahloenahelaaDoor
