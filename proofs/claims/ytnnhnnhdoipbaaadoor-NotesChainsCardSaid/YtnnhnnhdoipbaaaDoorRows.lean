/-
  NARROWER THAN 'FOR EVERY INPUT', by the rows' own cells (each row's printed sentence says how): NotesBids: laid · NotesReceipts: laid · NotesBatches: laid · NotesItems: laid · NotesChains: laid · NotesReads: laid · NotesBack: laid.
  DERIVED. THE GIVEN ROWS OF THIS SEAT. 7 by the template 'for every input the law returns true; each argument reads behind the call as it read before'; 0 by the template 'total and deterministic' (their statements: YtnnhnnhdoipbaaaDoorTotals.lean).
  GIVEN WITH THE SEED: the statements are not yours to turn. If you find one false, say at which input.
  Laid BY PROGRAM, IN A SANDBOX (cutbox-rows.mjs): the forced cells as the released guide's own fill.sh prints them over the translation b19ee56e3661f23a… (all of the seat's roots in one cut). By AI agents, Wed Nov 11 2026. No macro, syntax, notation, axiom, sorry.
-/
import Derived.Test.YtnnhnnhdoipbaaaDoorChecked
import GoSem.Claim
import GoSem.ClaimJoined
import GoSem.ClaimMapViews
import Derived.JoinedTies
import Derived.KernelRfl
namespace Go.Proofs.YtnnhnnhdoipbaaaDoor
/- THE CELL 'sum', in the pinned program and in every row, IS THE sha256 OF THE DUMP (.gsa) THAT YtnnhnnhdoipbaaaDoorProg.lean LOADS. Nothing in Lean hashes anything: it is a label: what it is worth is what the hold of that sum in a sandbox is worth. -/
noncomputable def Tryd.pinned : Pinned := { name := "ytnnhnnhdoipbaaadoor", sum := "b19ee56e3661f23ac4742e6c46e1cb0313bc40d22d7f60e592b9b174c74b4560", checked := Tryd.checked }
namespace Rows
def none {H : Type} : Left H := { results := [], args := [] }

/- WHAT THE LISTED PACKAGE-LEVEL VARIABLES READ AS WHEN THE CALL BEGINS. Each datum BY PROGRAM (the guide's laid-datum.mjs) off the statement by which the dump's own 'gosem.cut.vars' lays the variable. In a bare row this is a premise. The card (YtnnhnnhdoipbaaaDoorCards.lean) ties it to the program's text. -/
def laid_cavalcade_digest_rounds {H : Type} : DataW H := .agg [.lit (.int .u32 1116352408), .lit (.int .u32 1899447441), .lit (.int .u32 3049323471), .lit (.int .u32 3921009573), .lit (.int .u32 961987163), .lit (.int .u32 1508970993), .lit (.int .u32 2453635748), .lit (.int .u32 2870763221), .lit (.int .u32 3624381080), .lit (.int .u32 310598401), .lit (.int .u32 607225278), .lit (.int .u32 1426881987), .lit (.int .u32 1925078388), .lit (.int .u32 2162078206), .lit (.int .u32 2614888103), .lit (.int .u32 3248222580), .lit (.int .u32 3835390401), .lit (.int .u32 4022224774), .lit (.int .u32 264347078), .lit (.int .u32 604807628), .lit (.int .u32 770255983), .lit (.int .u32 1249150122), .lit (.int .u32 1555081692), .lit (.int .u32 1996064986), .lit (.int .u32 2554220882), .lit (.int .u32 2821834349), .lit (.int .u32 2952996808), .lit (.int .u32 3210313671), .lit (.int .u32 3336571891), .lit (.int .u32 3584528711), .lit (.int .u32 113926993), .lit (.int .u32 338241895), .lit (.int .u32 666307205), .lit (.int .u32 773529912), .lit (.int .u32 1294757372), .lit (.int .u32 1396182291), .lit (.int .u32 1695183700), .lit (.int .u32 1986661051), .lit (.int .u32 2177026350), .lit (.int .u32 2456956037), .lit (.int .u32 2730485921), .lit (.int .u32 2820302411), .lit (.int .u32 3259730800), .lit (.int .u32 3345764771), .lit (.int .u32 3516065817), .lit (.int .u32 3600352804), .lit (.int .u32 4094571909), .lit (.int .u32 275423344), .lit (.int .u32 430227734), .lit (.int .u32 506948616), .lit (.int .u32 659060556), .lit (.int .u32 883997877), .lit (.int .u32 958139571), .lit (.int .u32 1322822218), .lit (.int .u32 1537002063), .lit (.int .u32 1747873779), .lit (.int .u32 1955562222), .lit (.int .u32 2024104815), .lit (.int .u32 2227730452), .lit (.int .u32 2361852424), .lit (.int .u32 2428436474), .lit (.int .u32 2756734187), .lit (.int .u32 3204031479), .lit (.int .u32 3329325298)]

/-- 'cavalcadelaw05.NotesBids': WHATEVER THE INPUT: true; the input reads as it did. -/
def notesBidsSpec : ChangeSpec := { name := "notesBids", fn := fun _ => fun
  | [d] => { results := [.lit (.bool true)], args := [d] }
  | _ => none }
def notesBidsRow : OpenClaim := { program := "ytnnhnnhdoipbaaadoor", sum := "b19ee56e3661f23ac4742e6c46e1cb0313bc40d22d7f60e592b9b174c74b4560", func := "cavalcade/cavalcadelaw05.NotesBids", spec := "notesBids", named := ["cavalcade/digest.rounds"], apart := false, laid := [("cavalcade/digest.rounds", laid_cavalcade_digest_rounds)] }
def NotesBidsSaid : Prop := notesBidsRow.holds Tryd.pinned (OpenSpec.ofChange notesBidsSpec)

/-- ITS FALSE NEIGHBOUR: 'it returns false'. Refute it at one input. -/
def notesBidsWrong : ChangeSpec := { name := "notesBids", fn := fun _ => fun
  | [d] => { results := [.lit (.bool false)], args := [d] }
  | _ => none }
def NotesBidsWrongFalsely : Prop := notesBidsRow.holds Tryd.pinned (OpenSpec.ofChange notesBidsWrong)

/-- 'cavalcadelaw05.NotesReceipts': WHATEVER THE INPUT: true; the input reads as it did. -/
def notesReceiptsSpec : ChangeSpec := { name := "notesReceipts", fn := fun _ => fun
  | [d] => { results := [.lit (.bool true)], args := [d] }
  | _ => none }
def notesReceiptsRow : OpenClaim := { program := "ytnnhnnhdoipbaaadoor", sum := "b19ee56e3661f23ac4742e6c46e1cb0313bc40d22d7f60e592b9b174c74b4560", func := "cavalcade/cavalcadelaw05.NotesReceipts", spec := "notesReceipts", named := ["cavalcade/digest.rounds"], apart := false, laid := [("cavalcade/digest.rounds", laid_cavalcade_digest_rounds)] }
def NotesReceiptsSaid : Prop := notesReceiptsRow.holds Tryd.pinned (OpenSpec.ofChange notesReceiptsSpec)

/-- ITS FALSE NEIGHBOUR: 'it returns false'. Refute it at one input. -/
def notesReceiptsWrong : ChangeSpec := { name := "notesReceipts", fn := fun _ => fun
  | [d] => { results := [.lit (.bool false)], args := [d] }
  | _ => none }
def NotesReceiptsWrongFalsely : Prop := notesReceiptsRow.holds Tryd.pinned (OpenSpec.ofChange notesReceiptsWrong)

/-- 'cavalcadelaw05.NotesBatches': WHATEVER THE INPUT: true; the input reads as it did. -/
def notesBatchesSpec : ChangeSpec := { name := "notesBatches", fn := fun _ => fun
  | [d] => { results := [.lit (.bool true)], args := [d] }
  | _ => none }
def notesBatchesRow : OpenClaim := { program := "ytnnhnnhdoipbaaadoor", sum := "b19ee56e3661f23ac4742e6c46e1cb0313bc40d22d7f60e592b9b174c74b4560", func := "cavalcade/cavalcadelaw05.NotesBatches", spec := "notesBatches", named := ["cavalcade/digest.rounds"], apart := false, laid := [("cavalcade/digest.rounds", laid_cavalcade_digest_rounds)] }
def NotesBatchesSaid : Prop := notesBatchesRow.holds Tryd.pinned (OpenSpec.ofChange notesBatchesSpec)

/-- ITS FALSE NEIGHBOUR: 'it returns false'. Refute it at one input. -/
def notesBatchesWrong : ChangeSpec := { name := "notesBatches", fn := fun _ => fun
  | [d] => { results := [.lit (.bool false)], args := [d] }
  | _ => none }
def NotesBatchesWrongFalsely : Prop := notesBatchesRow.holds Tryd.pinned (OpenSpec.ofChange notesBatchesWrong)

/-- 'cavalcadelaw05.NotesItems': WHATEVER THE INPUT: true; the input reads as it did. -/
def notesItemsSpec : ChangeSpec := { name := "notesItems", fn := fun _ => fun
  | [d] => { results := [.lit (.bool true)], args := [d] }
  | _ => none }
def notesItemsRow : OpenClaim := { program := "ytnnhnnhdoipbaaadoor", sum := "b19ee56e3661f23ac4742e6c46e1cb0313bc40d22d7f60e592b9b174c74b4560", func := "cavalcade/cavalcadelaw05.NotesItems", spec := "notesItems", named := ["cavalcade/digest.rounds"], apart := false, laid := [("cavalcade/digest.rounds", laid_cavalcade_digest_rounds)] }
def NotesItemsSaid : Prop := notesItemsRow.holds Tryd.pinned (OpenSpec.ofChange notesItemsSpec)

/-- ITS FALSE NEIGHBOUR: 'it returns false'. Refute it at one input. -/
def notesItemsWrong : ChangeSpec := { name := "notesItems", fn := fun _ => fun
  | [d] => { results := [.lit (.bool false)], args := [d] }
  | _ => none }
def NotesItemsWrongFalsely : Prop := notesItemsRow.holds Tryd.pinned (OpenSpec.ofChange notesItemsWrong)

/-- 'cavalcadelaw05.NotesChains': WHATEVER THE INPUT: true; the input reads as it did. -/
def notesChainsSpec : ChangeSpec := { name := "notesChains", fn := fun _ => fun
  | [d1, d2] => { results := [.lit (.bool true)], args := [d1, d2] }
  | _ => none }
def notesChainsRow : OpenClaim := { program := "ytnnhnnhdoipbaaadoor", sum := "b19ee56e3661f23ac4742e6c46e1cb0313bc40d22d7f60e592b9b174c74b4560", func := "cavalcade/cavalcadelaw05.NotesChains", spec := "notesChains", named := ["cavalcade/digest.rounds"], apart := false, laid := [("cavalcade/digest.rounds", laid_cavalcade_digest_rounds)] }
def NotesChainsSaid : Prop := notesChainsRow.holds Tryd.pinned (OpenSpec.ofChange notesChainsSpec)

/-- ITS FALSE NEIGHBOUR: 'it returns false'. Refute it at one input. -/
def notesChainsWrong : ChangeSpec := { name := "notesChains", fn := fun _ => fun
  | [d1, d2] => { results := [.lit (.bool false)], args := [d1, d2] }
  | _ => none }
def NotesChainsWrongFalsely : Prop := notesChainsRow.holds Tryd.pinned (OpenSpec.ofChange notesChainsWrong)

/-- 'cavalcadelaw05.NotesReads': WHATEVER THE INPUT: true; the input reads as it did. -/
def notesReadsSpec : ChangeSpec := { name := "notesReads", fn := fun _ => fun
  | [d] => { results := [.lit (.bool true)], args := [d] }
  | _ => none }
def notesReadsRow : OpenClaim := { program := "ytnnhnnhdoipbaaadoor", sum := "b19ee56e3661f23ac4742e6c46e1cb0313bc40d22d7f60e592b9b174c74b4560", func := "cavalcade/cavalcadelaw05.NotesReads", spec := "notesReads", named := ["cavalcade/digest.rounds"], apart := false, laid := [("cavalcade/digest.rounds", laid_cavalcade_digest_rounds)] }
def NotesReadsSaid : Prop := notesReadsRow.holds Tryd.pinned (OpenSpec.ofChange notesReadsSpec)

/-- ITS FALSE NEIGHBOUR: 'it returns false'. Refute it at one input. -/
def notesReadsWrong : ChangeSpec := { name := "notesReads", fn := fun _ => fun
  | [d] => { results := [.lit (.bool false)], args := [d] }
  | _ => none }
def NotesReadsWrongFalsely : Prop := notesReadsRow.holds Tryd.pinned (OpenSpec.ofChange notesReadsWrong)

/-- 'cavalcadelaw05.NotesBack': WHATEVER THE INPUT: true; the input reads as it did. -/
def notesBackSpec : ChangeSpec := { name := "notesBack", fn := fun _ => fun
  | [d1, d2] => { results := [.lit (.bool true)], args := [d1, d2] }
  | _ => none }
def notesBackRow : OpenClaim := { program := "ytnnhnnhdoipbaaadoor", sum := "b19ee56e3661f23ac4742e6c46e1cb0313bc40d22d7f60e592b9b174c74b4560", func := "cavalcade/cavalcadelaw05.NotesBack", spec := "notesBack", named := ["cavalcade/digest.rounds"], apart := false, laid := [("cavalcade/digest.rounds", laid_cavalcade_digest_rounds)] }
def NotesBackSaid : Prop := notesBackRow.holds Tryd.pinned (OpenSpec.ofChange notesBackSpec)

/-- ITS FALSE NEIGHBOUR: 'it returns false'. Refute it at one input. -/
def notesBackWrong : ChangeSpec := { name := "notesBack", fn := fun _ => fun
  | [d1, d2] => { results := [.lit (.bool false)], args := [d1, d2] }
  | _ => none }
def NotesBackWrongFalsely : Prop := notesBackRow.holds Tryd.pinned (OpenSpec.ofChange notesBackWrong)

/- THE SECOND FORM. 'bulk': how many values and letters a reading holds, each counted each time it is reached (what is shared counts as often as it is met; a slice's spare places count too). A statement '..UptoSaid' is the law's where the arguments, and the package variables that the reading takes, are together of bulk at most 1048576: NARROWER than '..Said'. Prove '..Said' where nothing that the law and all that it calls make is longer than what came in: it says more and counts as full. Else prove '..UptoSaid'. A law counts once. -/
mutual
def uptoBulk {H : Type} : DataW H → Nat
  | .lit (.string bytes) => bytes.length + 1
  | .lit _ => 1
  | .nil => 1
  | .ptr d => uptoBulk d + 1
  | .slice elems spare => uptoBulkAll elems + uptoBulkAll spare + 1
  | .agg parts => uptoBulkAll parts + 1
  | .iface _ d => uptoBulk d + 1
  | .map entries => uptoBulkEntries entries + 1
  | .held _ => 1
def uptoBulkAll {H : Type} : List (DataW H) → Nat
  | [] => 0
  | d :: r => uptoBulk d + uptoBulkAll r
def uptoBulkEntries {H : Type} : List (Lit × DataW H) → Nat
  | [] => 0
  | x :: r => uptoBulkEntry x + uptoBulkEntries r
def uptoBulkEntry {H : Type} : Lit × DataW H → Nat
  | (.string bytes, d) => bytes.length + uptoBulk d + 1
  | (_, d) => uptoBulk d + 1
 end
def uptoSmall : (H : Type) → List (DataW H) → Bool := fun _ ds => decide (uptoBulkAll ds ≤ 1048576)
def OpenSpec.upto (s : _root_.Go.ChangeSpec) : _root_.Go.OpenSpec := { _root_.Go.OpenSpec.ofChange s with cond := some uptoSmall }

/-- 'cavalcadelaw05.NotesBids', WHERE WHAT IT READS IS OF BULK AT MOST 1048576: true; the input reads as it did. -/
def notesBidsUptoRow : OpenClaim := { program := "ytnnhnnhdoipbaaadoor", sum := "b19ee56e3661f23ac4742e6c46e1cb0313bc40d22d7f60e592b9b174c74b4560", func := "cavalcade/cavalcadelaw05.NotesBids", spec := "notesBids", named := ["cavalcade/digest.rounds"], apart := false, laid := [("cavalcade/digest.rounds", laid_cavalcade_digest_rounds)], narrowed := true }
def NotesBidsUptoSaid : Prop := notesBidsUptoRow.holds Tryd.pinned (OpenSpec.upto notesBidsSpec)

/-- 'cavalcadelaw05.NotesReceipts', WHERE WHAT IT READS IS OF BULK AT MOST 1048576: true; the input reads as it did. -/
def notesReceiptsUptoRow : OpenClaim := { program := "ytnnhnnhdoipbaaadoor", sum := "b19ee56e3661f23ac4742e6c46e1cb0313bc40d22d7f60e592b9b174c74b4560", func := "cavalcade/cavalcadelaw05.NotesReceipts", spec := "notesReceipts", named := ["cavalcade/digest.rounds"], apart := false, laid := [("cavalcade/digest.rounds", laid_cavalcade_digest_rounds)], narrowed := true }
def NotesReceiptsUptoSaid : Prop := notesReceiptsUptoRow.holds Tryd.pinned (OpenSpec.upto notesReceiptsSpec)

/-- 'cavalcadelaw05.NotesBatches', WHERE WHAT IT READS IS OF BULK AT MOST 1048576: true; the input reads as it did. -/
def notesBatchesUptoRow : OpenClaim := { program := "ytnnhnnhdoipbaaadoor", sum := "b19ee56e3661f23ac4742e6c46e1cb0313bc40d22d7f60e592b9b174c74b4560", func := "cavalcade/cavalcadelaw05.NotesBatches", spec := "notesBatches", named := ["cavalcade/digest.rounds"], apart := false, laid := [("cavalcade/digest.rounds", laid_cavalcade_digest_rounds)], narrowed := true }
def NotesBatchesUptoSaid : Prop := notesBatchesUptoRow.holds Tryd.pinned (OpenSpec.upto notesBatchesSpec)

/-- 'cavalcadelaw05.NotesItems', WHERE WHAT IT READS IS OF BULK AT MOST 1048576: true; the input reads as it did. -/
def notesItemsUptoRow : OpenClaim := { program := "ytnnhnnhdoipbaaadoor", sum := "b19ee56e3661f23ac4742e6c46e1cb0313bc40d22d7f60e592b9b174c74b4560", func := "cavalcade/cavalcadelaw05.NotesItems", spec := "notesItems", named := ["cavalcade/digest.rounds"], apart := false, laid := [("cavalcade/digest.rounds", laid_cavalcade_digest_rounds)], narrowed := true }
def NotesItemsUptoSaid : Prop := notesItemsUptoRow.holds Tryd.pinned (OpenSpec.upto notesItemsSpec)

/-- 'cavalcadelaw05.NotesChains', WHERE WHAT IT READS IS OF BULK AT MOST 1048576: true; the input reads as it did. -/
def notesChainsUptoRow : OpenClaim := { program := "ytnnhnnhdoipbaaadoor", sum := "b19ee56e3661f23ac4742e6c46e1cb0313bc40d22d7f60e592b9b174c74b4560", func := "cavalcade/cavalcadelaw05.NotesChains", spec := "notesChains", named := ["cavalcade/digest.rounds"], apart := false, laid := [("cavalcade/digest.rounds", laid_cavalcade_digest_rounds)], narrowed := true }
def NotesChainsUptoSaid : Prop := notesChainsUptoRow.holds Tryd.pinned (OpenSpec.upto notesChainsSpec)

/-- 'cavalcadelaw05.NotesReads', WHERE WHAT IT READS IS OF BULK AT MOST 1048576: true; the input reads as it did. -/
def notesReadsUptoRow : OpenClaim := { program := "ytnnhnnhdoipbaaadoor", sum := "b19ee56e3661f23ac4742e6c46e1cb0313bc40d22d7f60e592b9b174c74b4560", func := "cavalcade/cavalcadelaw05.NotesReads", spec := "notesReads", named := ["cavalcade/digest.rounds"], apart := false, laid := [("cavalcade/digest.rounds", laid_cavalcade_digest_rounds)], narrowed := true }
def NotesReadsUptoSaid : Prop := notesReadsUptoRow.holds Tryd.pinned (OpenSpec.upto notesReadsSpec)

/-- 'cavalcadelaw05.NotesBack', WHERE WHAT IT READS IS OF BULK AT MOST 1048576: true; the input reads as it did. -/
def notesBackUptoRow : OpenClaim := { program := "ytnnhnnhdoipbaaadoor", sum := "b19ee56e3661f23ac4742e6c46e1cb0313bc40d22d7f60e592b9b174c74b4560", func := "cavalcade/cavalcadelaw05.NotesBack", spec := "notesBack", named := ["cavalcade/digest.rounds"], apart := false, laid := [("cavalcade/digest.rounds", laid_cavalcade_digest_rounds)], narrowed := true }
def NotesBackUptoSaid : Prop := notesBackUptoRow.holds Tryd.pinned (OpenSpec.upto notesBackSpec)

end Rows
end Go.Proofs.YtnnhnnhdoipbaaaDoor
