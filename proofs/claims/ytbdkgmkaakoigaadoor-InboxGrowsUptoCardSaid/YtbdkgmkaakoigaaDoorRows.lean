/-
  NARROWER THAN 'FOR EVERY INPUT', by the rows' own cells (each row's printed sentence says how): InboxReach: laid · InboxGrows: laid · InboxChained: laid · InboxWaits: laid · InboxMessages: laid.
  DERIVED. THE GIVEN ROWS OF THIS SEAT. 5 by the template 'for every input the law returns true; each argument reads behind the call as it read before'; 0 by the template 'total and deterministic' (their statements: YtbdkgmkaakoigaaDoorTotals.lean).
  GIVEN WITH THE SEED: the statements are not yours to turn. If you find one false, say at which input.
  Laid BY PROGRAM, IN A SANDBOX (cutbox-rows.mjs): the forced cells as the released guide's own fill.sh prints them over the translation 28ce7445679d9df4… (all of the seat's roots in one cut). By AI agents, Wed Nov 11 2026. No macro, syntax, notation, axiom, sorry.
-/
import Derived.Test.YtbdkgmkaakoigaaDoorChecked
import GoSem.Claim
import GoSem.ClaimJoined
import GoSem.ClaimMapViews
import Derived.JoinedTies
import Derived.KernelRfl
namespace Go.Proofs.YtbdkgmkaakoigaaDoor
/- THE CELL 'sum', in the pinned program and in every row, IS THE sha256 OF THE DUMP (.gsa) THAT YtbdkgmkaakoigaaDoorProg.lean LOADS. Nothing in Lean hashes anything: it is a label: what it is worth is what the hold of that sum in a sandbox is worth. -/
noncomputable def Tryd.pinned : Pinned := { name := "ytbdkgmkaakoigaadoor", sum := "28ce7445679d9df4d58a969f6e591a16fb50155c9bbd33c4a0133ca741c79a50", checked := Tryd.checked }
namespace Rows
def none {H : Type} : Left H := { results := [], args := [] }

/- WHAT THE LISTED PACKAGE-LEVEL VARIABLES READ AS WHEN THE CALL BEGINS. Each datum BY PROGRAM (the guide's laid-datum.mjs) off the statement by which the dump's own 'gosem.cut.vars' lays the variable. In a bare row this is a premise. The card (YtbdkgmkaakoigaaDoorCards.lean) ties it to the program's text. -/
def laid_cavalcade_digest_rounds {H : Type} : DataW H := .agg [.lit (.int .u32 1116352408), .lit (.int .u32 1899447441), .lit (.int .u32 3049323471), .lit (.int .u32 3921009573), .lit (.int .u32 961987163), .lit (.int .u32 1508970993), .lit (.int .u32 2453635748), .lit (.int .u32 2870763221), .lit (.int .u32 3624381080), .lit (.int .u32 310598401), .lit (.int .u32 607225278), .lit (.int .u32 1426881987), .lit (.int .u32 1925078388), .lit (.int .u32 2162078206), .lit (.int .u32 2614888103), .lit (.int .u32 3248222580), .lit (.int .u32 3835390401), .lit (.int .u32 4022224774), .lit (.int .u32 264347078), .lit (.int .u32 604807628), .lit (.int .u32 770255983), .lit (.int .u32 1249150122), .lit (.int .u32 1555081692), .lit (.int .u32 1996064986), .lit (.int .u32 2554220882), .lit (.int .u32 2821834349), .lit (.int .u32 2952996808), .lit (.int .u32 3210313671), .lit (.int .u32 3336571891), .lit (.int .u32 3584528711), .lit (.int .u32 113926993), .lit (.int .u32 338241895), .lit (.int .u32 666307205), .lit (.int .u32 773529912), .lit (.int .u32 1294757372), .lit (.int .u32 1396182291), .lit (.int .u32 1695183700), .lit (.int .u32 1986661051), .lit (.int .u32 2177026350), .lit (.int .u32 2456956037), .lit (.int .u32 2730485921), .lit (.int .u32 2820302411), .lit (.int .u32 3259730800), .lit (.int .u32 3345764771), .lit (.int .u32 3516065817), .lit (.int .u32 3600352804), .lit (.int .u32 4094571909), .lit (.int .u32 275423344), .lit (.int .u32 430227734), .lit (.int .u32 506948616), .lit (.int .u32 659060556), .lit (.int .u32 883997877), .lit (.int .u32 958139571), .lit (.int .u32 1322822218), .lit (.int .u32 1537002063), .lit (.int .u32 1747873779), .lit (.int .u32 1955562222), .lit (.int .u32 2024104815), .lit (.int .u32 2227730452), .lit (.int .u32 2361852424), .lit (.int .u32 2428436474), .lit (.int .u32 2756734187), .lit (.int .u32 3204031479), .lit (.int .u32 3329325298)]

/-- 'cavalcadelaw12.InboxReach': WHATEVER THE INPUT: true; the input reads as it did. -/
def inboxReachSpec : ChangeSpec := { name := "inboxReach", fn := fun _ => fun
  | [d1, d2] => { results := [.lit (.bool true)], args := [d1, d2] }
  | _ => none }
def inboxReachRow : OpenClaim := { program := "ytbdkgmkaakoigaadoor", sum := "28ce7445679d9df4d58a969f6e591a16fb50155c9bbd33c4a0133ca741c79a50", func := "cavalcade/cavalcadelaw12.InboxReach", spec := "inboxReach", unfollowed := true, recurses := true, named := ["cavalcade/digest.rounds"], apart := false, laid := [("cavalcade/digest.rounds", laid_cavalcade_digest_rounds)] }
def InboxReachSaid : Prop := inboxReachRow.holds Tryd.pinned (OpenSpec.ofChange inboxReachSpec)

/-- ITS FALSE NEIGHBOUR: 'it returns false'. Refute it at one input. -/
def inboxReachWrong : ChangeSpec := { name := "inboxReach", fn := fun _ => fun
  | [d1, d2] => { results := [.lit (.bool false)], args := [d1, d2] }
  | _ => none }
def InboxReachWrongFalsely : Prop := inboxReachRow.holds Tryd.pinned (OpenSpec.ofChange inboxReachWrong)

/-- 'cavalcadelaw12.InboxGrows': WHATEVER THE INPUT: true; the input reads as it did. -/
def inboxGrowsSpec : ChangeSpec := { name := "inboxGrows", fn := fun _ => fun
  | [d1, d2] => { results := [.lit (.bool true)], args := [d1, d2] }
  | _ => none }
def inboxGrowsRow : OpenClaim := { program := "ytbdkgmkaakoigaadoor", sum := "28ce7445679d9df4d58a969f6e591a16fb50155c9bbd33c4a0133ca741c79a50", func := "cavalcade/cavalcadelaw12.InboxGrows", spec := "inboxGrows", unfollowed := true, recurses := true, named := ["cavalcade/digest.rounds"], apart := false, laid := [("cavalcade/digest.rounds", laid_cavalcade_digest_rounds)] }
def InboxGrowsSaid : Prop := inboxGrowsRow.holds Tryd.pinned (OpenSpec.ofChange inboxGrowsSpec)

/-- ITS FALSE NEIGHBOUR: 'it returns false'. Refute it at one input. -/
def inboxGrowsWrong : ChangeSpec := { name := "inboxGrows", fn := fun _ => fun
  | [d1, d2] => { results := [.lit (.bool false)], args := [d1, d2] }
  | _ => none }
def InboxGrowsWrongFalsely : Prop := inboxGrowsRow.holds Tryd.pinned (OpenSpec.ofChange inboxGrowsWrong)

/-- 'cavalcadelaw12.InboxChained': WHATEVER THE INPUT: true; the input reads as it did. -/
def inboxChainedSpec : ChangeSpec := { name := "inboxChained", fn := fun _ => fun
  | [d] => { results := [.lit (.bool true)], args := [d] }
  | _ => none }
def inboxChainedRow : OpenClaim := { program := "ytbdkgmkaakoigaadoor", sum := "28ce7445679d9df4d58a969f6e591a16fb50155c9bbd33c4a0133ca741c79a50", func := "cavalcade/cavalcadelaw12.InboxChained", spec := "inboxChained", unfollowed := true, recurses := true, named := ["cavalcade/digest.rounds"], apart := false, laid := [("cavalcade/digest.rounds", laid_cavalcade_digest_rounds)] }
def InboxChainedSaid : Prop := inboxChainedRow.holds Tryd.pinned (OpenSpec.ofChange inboxChainedSpec)

/-- ITS FALSE NEIGHBOUR: 'it returns false'. Refute it at one input. -/
def inboxChainedWrong : ChangeSpec := { name := "inboxChained", fn := fun _ => fun
  | [d] => { results := [.lit (.bool false)], args := [d] }
  | _ => none }
def InboxChainedWrongFalsely : Prop := inboxChainedRow.holds Tryd.pinned (OpenSpec.ofChange inboxChainedWrong)

/-- 'cavalcadelaw12.InboxWaits': WHATEVER THE INPUT: true; the input reads as it did. -/
def inboxWaitsSpec : ChangeSpec := { name := "inboxWaits", fn := fun _ => fun
  | [d1, d2, d3] => { results := [.lit (.bool true)], args := [d1, d2, d3] }
  | _ => none }
def inboxWaitsRow : OpenClaim := { program := "ytbdkgmkaakoigaadoor", sum := "28ce7445679d9df4d58a969f6e591a16fb50155c9bbd33c4a0133ca741c79a50", func := "cavalcade/cavalcadelaw12.InboxWaits", spec := "inboxWaits", unfollowed := true, recurses := true, named := ["cavalcade/digest.rounds"], apart := false, laid := [("cavalcade/digest.rounds", laid_cavalcade_digest_rounds)] }
def InboxWaitsSaid : Prop := inboxWaitsRow.holds Tryd.pinned (OpenSpec.ofChange inboxWaitsSpec)

/-- ITS FALSE NEIGHBOUR: 'it returns false'. Refute it at one input. -/
def inboxWaitsWrong : ChangeSpec := { name := "inboxWaits", fn := fun _ => fun
  | [d1, d2, d3] => { results := [.lit (.bool false)], args := [d1, d2, d3] }
  | _ => none }
def InboxWaitsWrongFalsely : Prop := inboxWaitsRow.holds Tryd.pinned (OpenSpec.ofChange inboxWaitsWrong)

/-- 'cavalcadelaw12.InboxMessages': WHATEVER THE INPUT: true; the input reads as it did. -/
def inboxMessagesSpec : ChangeSpec := { name := "inboxMessages", fn := fun _ => fun
  | [d] => { results := [.lit (.bool true)], args := [d] }
  | _ => none }
def inboxMessagesRow : OpenClaim := { program := "ytbdkgmkaakoigaadoor", sum := "28ce7445679d9df4d58a969f6e591a16fb50155c9bbd33c4a0133ca741c79a50", func := "cavalcade/cavalcadelaw12.InboxMessages", spec := "inboxMessages", unfollowed := true, recurses := true, named := ["cavalcade/digest.rounds"], apart := false, laid := [("cavalcade/digest.rounds", laid_cavalcade_digest_rounds)] }
def InboxMessagesSaid : Prop := inboxMessagesRow.holds Tryd.pinned (OpenSpec.ofChange inboxMessagesSpec)

/-- ITS FALSE NEIGHBOUR: 'it returns false'. Refute it at one input. -/
def inboxMessagesWrong : ChangeSpec := { name := "inboxMessages", fn := fun _ => fun
  | [d] => { results := [.lit (.bool false)], args := [d] }
  | _ => none }
def InboxMessagesWrongFalsely : Prop := inboxMessagesRow.holds Tryd.pinned (OpenSpec.ofChange inboxMessagesWrong)

/- THE SECOND FORM. 'bulk': how many values and letters a reading holds, each counted each time it is reached (what is shared counts as often as it is met; a slice's spare places count too). A statement '..UptoSaid' is the law's where the arguments, and the package variables that the reading takes, are together of bulk at most 1048576: NARROWER than '..Said'. Prove '..Said' where nothing that the law and all that it calls make is longer than what came in: it says more and counts as full. Else prove '..UptoSaid'. A law counts once. -/
mutual
def uptoBulk {H : Type} : DataW H → Nat
  | .lit (.string bytes) => bytes.length + 1
  | .lit _ => 1
  | .nil => 1
  | .ptr d => uptoBulk d + 1
  | .slice elems spare => uptoBulkAll elems + uptoBulkAll spare + 1
  | .agg parts => uptoBulkAll parts + 1
  | .iface _ d => uptoBulk d + 1
  | .map entries => uptoBulkEntries entries + 1
  | .held _ => 1
def uptoBulkAll {H : Type} : List (DataW H) → Nat
  | [] => 0
  | d :: r => uptoBulk d + uptoBulkAll r
def uptoBulkEntries {H : Type} : List (Lit × DataW H) → Nat
  | [] => 0
  | x :: r => uptoBulkEntry x + uptoBulkEntries r
def uptoBulkEntry {H : Type} : Lit × DataW H → Nat
  | (.string bytes, d) => bytes.length + uptoBulk d + 1
  | (_, d) => uptoBulk d + 1
 end
def uptoSmall : (H : Type) → List (DataW H) → Bool := fun _ ds => decide (uptoBulkAll ds ≤ 1048576)
def OpenSpec.upto (s : _root_.Go.ChangeSpec) : _root_.Go.OpenSpec := { _root_.Go.OpenSpec.ofChange s with cond := some uptoSmall }

/-- 'cavalcadelaw12.InboxReach', WHERE WHAT IT READS IS OF BULK AT MOST 1048576: true; the input reads as it did. -/
def inboxReachUptoRow : OpenClaim := { program := "ytbdkgmkaakoigaadoor", sum := "28ce7445679d9df4d58a969f6e591a16fb50155c9bbd33c4a0133ca741c79a50", func := "cavalcade/cavalcadelaw12.InboxReach", spec := "inboxReach", unfollowed := true, recurses := true, named := ["cavalcade/digest.rounds"], apart := false, laid := [("cavalcade/digest.rounds", laid_cavalcade_digest_rounds)], narrowed := true }
def InboxReachUptoSaid : Prop := inboxReachUptoRow.holds Tryd.pinned (OpenSpec.upto inboxReachSpec)

/-- 'cavalcadelaw12.InboxGrows', WHERE WHAT IT READS IS OF BULK AT MOST 1048576: true; the input reads as it did. -/
def inboxGrowsUptoRow : OpenClaim := { program := "ytbdkgmkaakoigaadoor", sum := "28ce7445679d9df4d58a969f6e591a16fb50155c9bbd33c4a0133ca741c79a50", func := "cavalcade/cavalcadelaw12.InboxGrows", spec := "inboxGrows", unfollowed := true, recurses := true, named := ["cavalcade/digest.rounds"], apart := false, laid := [("cavalcade/digest.rounds", laid_cavalcade_digest_rounds)], narrowed := true }
def InboxGrowsUptoSaid : Prop := inboxGrowsUptoRow.holds Tryd.pinned (OpenSpec.upto inboxGrowsSpec)

/-- 'cavalcadelaw12.InboxChained', WHERE WHAT IT READS IS OF BULK AT MOST 1048576: true; the input reads as it did. -/
def inboxChainedUptoRow : OpenClaim := { program := "ytbdkgmkaakoigaadoor", sum := "28ce7445679d9df4d58a969f6e591a16fb50155c9bbd33c4a0133ca741c79a50", func := "cavalcade/cavalcadelaw12.InboxChained", spec := "inboxChained", unfollowed := true, recurses := true, named := ["cavalcade/digest.rounds"], apart := false, laid := [("cavalcade/digest.rounds", laid_cavalcade_digest_rounds)], narrowed := true }
def InboxChainedUptoSaid : Prop := inboxChainedUptoRow.holds Tryd.pinned (OpenSpec.upto inboxChainedSpec)

/-- 'cavalcadelaw12.InboxWaits', WHERE WHAT IT READS IS OF BULK AT MOST 1048576: true; the input reads as it did. -/
def inboxWaitsUptoRow : OpenClaim := { program := "ytbdkgmkaakoigaadoor", sum := "28ce7445679d9df4d58a969f6e591a16fb50155c9bbd33c4a0133ca741c79a50", func := "cavalcade/cavalcadelaw12.InboxWaits", spec := "inboxWaits", unfollowed := true, recurses := true, named := ["cavalcade/digest.rounds"], apart := false, laid := [("cavalcade/digest.rounds", laid_cavalcade_digest_rounds)], narrowed := true }
def InboxWaitsUptoSaid : Prop := inboxWaitsUptoRow.holds Tryd.pinned (OpenSpec.upto inboxWaitsSpec)

/-- 'cavalcadelaw12.InboxMessages', WHERE WHAT IT READS IS OF BULK AT MOST 1048576: true; the input reads as it did. -/
def inboxMessagesUptoRow : OpenClaim := { program := "ytbdkgmkaakoigaadoor", sum := "28ce7445679d9df4d58a969f6e591a16fb50155c9bbd33c4a0133ca741c79a50", func := "cavalcade/cavalcadelaw12.InboxMessages", spec := "inboxMessages", unfollowed := true, recurses := true, named := ["cavalcade/digest.rounds"], apart := false, laid := [("cavalcade/digest.rounds", laid_cavalcade_digest_rounds)], narrowed := true }
def InboxMessagesUptoSaid : Prop := inboxMessagesUptoRow.holds Tryd.pinned (OpenSpec.upto inboxMessagesSpec)

end Rows
end Go.Proofs.YtbdkgmkaakoigaaDoor
