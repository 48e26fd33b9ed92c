/-
  No cell of these rows narrows 'for every input' (looked for: loops, veiled, ifaces, maps, wideKeys, modest, calm, conditions, laid).
  DERIVED. THE GIVEN ROWS OF THIS SEAT. 11 by the template 'for every input the law returns true; each argument reads behind the call as it read before'; 0 by the template 'total and deterministic' (their statements: YtlaojmcpiggfeaaTotals.lean).
  GIVEN WITH THE SEED: the statements are not yours to turn. If you find one false, say at which input.
  Laid BY PROGRAM, IN A SANDBOX (cutbox-rows.mjs): the forced cells as the released guide's own fill.sh prints them over the translation cb05b16710d53362… (all of the seat's roots in one cut). By AI agents, Wed Nov 11 2026. No macro, syntax, notation, axiom, sorry.
-/
import Derived.Test.YtlaojmcpiggfeaaChecked
import GoSem.Claim
import GoSem.ClaimJoined
import GoSem.ClaimMapViews
import Derived.JoinedTies
import Derived.KernelRfl
namespace Go.Proofs.Ytlaojmcpiggfeaa
/- THE CELL 'sum', in the pinned program and in every row, IS THE sha256 OF THE DUMP (.gsa) THAT YtlaojmcpiggfeaaProg.lean LOADS. Nothing in Lean hashes anything: it is a label: what it is worth is what the hold of that sum in a sandbox is worth. -/
noncomputable def Try.pinned : Pinned := { name := "ytlaojmcpiggfeaa", sum := "cb05b16710d53362511cb8acc47526b1c316ce72c8a20bf4371c38b0853344a1", checked := Try.checked }
namespace Rows
def none {H : Type} : Left H := { results := [], args := [] }

/-- 'cavalcadelaw01.OctetsLays': WHATEVER THE INPUT: true; the input reads as it did. -/
def octetsLaysSpec : ChangeSpec := { name := "octetsLays", fn := fun _ => fun
  | [d1, d2] => { results := [.lit (.bool true)], args := [d1, d2] }
  | _ => none }
def octetsLaysRow : OpenClaim := { program := "ytlaojmcpiggfeaa", sum := "cb05b16710d53362511cb8acc47526b1c316ce72c8a20bf4371c38b0853344a1", func := "cavalcade/cavalcadelaw01.OctetsLays", spec := "octetsLays", apart := false }
def OctetsLaysSaid : Prop := octetsLaysRow.holds Try.pinned (OpenSpec.ofChange octetsLaysSpec)

/-- ITS FALSE NEIGHBOUR: 'it returns false'. Refute it at one input. -/
def octetsLaysWrong : ChangeSpec := { name := "octetsLays", fn := fun _ => fun
  | [d1, d2] => { results := [.lit (.bool false)], args := [d1, d2] }
  | _ => none }
def OctetsLaysWrongFalsely : Prop := octetsLaysRow.holds Try.pinned (OpenSpec.ofChange octetsLaysWrong)

/-- 'cavalcadelaw14.BankDoes': WHATEVER THE INPUT: true; the input reads as it did. -/
def bankDoesSpec : ChangeSpec := { name := "bankDoes", fn := fun _ => fun
  | [d1, d2] => { results := [.lit (.bool true)], args := [d1, d2] }
  | _ => none }
def bankDoesRow : OpenClaim := { program := "ytlaojmcpiggfeaa", sum := "cb05b16710d53362511cb8acc47526b1c316ce72c8a20bf4371c38b0853344a1", func := "cavalcade/cavalcadelaw14.BankDoes", spec := "bankDoes", apart := false }
def BankDoesSaid : Prop := bankDoesRow.holds Try.pinned (OpenSpec.ofChange bankDoesSpec)

/-- ITS FALSE NEIGHBOUR: 'it returns false'. Refute it at one input. -/
def bankDoesWrong : ChangeSpec := { name := "bankDoes", fn := fun _ => fun
  | [d1, d2] => { results := [.lit (.bool false)], args := [d1, d2] }
  | _ => none }
def BankDoesWrongFalsely : Prop := bankDoesRow.holds Try.pinned (OpenSpec.ofChange bankDoesWrong)

/-- 'cavalcadelaw14.BankSums': WHATEVER THE INPUT: true; the input reads as it did. -/
def bankSumsSpec : ChangeSpec := { name := "bankSums", fn := fun _ => fun
  | [d] => { results := [.lit (.bool true)], args := [d] }
  | _ => none }
def bankSumsRow : OpenClaim := { program := "ytlaojmcpiggfeaa", sum := "cb05b16710d53362511cb8acc47526b1c316ce72c8a20bf4371c38b0853344a1", func := "cavalcade/cavalcadelaw14.BankSums", spec := "bankSums", apart := false }
def BankSumsSaid : Prop := bankSumsRow.holds Try.pinned (OpenSpec.ofChange bankSumsSpec)

/-- ITS FALSE NEIGHBOUR: 'it returns false'. Refute it at one input. -/
def bankSumsWrong : ChangeSpec := { name := "bankSums", fn := fun _ => fun
  | [d] => { results := [.lit (.bool false)], args := [d] }
  | _ => none }
def BankSumsWrongFalsely : Prop := bankSumsRow.holds Try.pinned (OpenSpec.ofChange bankSumsWrong)

/-- 'cavalcadelaw14.BankApart': WHATEVER THE INPUT: true; the input reads as it did. -/
def bankApartSpec : ChangeSpec := { name := "bankApart", fn := fun _ => fun
  | [d1, d2] => { results := [.lit (.bool true)], args := [d1, d2] }
  | _ => none }
def bankApartRow : OpenClaim := { program := "ytlaojmcpiggfeaa", sum := "cb05b16710d53362511cb8acc47526b1c316ce72c8a20bf4371c38b0853344a1", func := "cavalcade/cavalcadelaw14.BankApart", spec := "bankApart", apart := false }
def BankApartSaid : Prop := bankApartRow.holds Try.pinned (OpenSpec.ofChange bankApartSpec)

/-- ITS FALSE NEIGHBOUR: 'it returns false'. Refute it at one input. -/
def bankApartWrong : ChangeSpec := { name := "bankApart", fn := fun _ => fun
  | [d1, d2] => { results := [.lit (.bool false)], args := [d1, d2] }
  | _ => none }
def BankApartWrongFalsely : Prop := bankApartRow.holds Try.pinned (OpenSpec.ofChange bankApartWrong)

/-- 'cavalcadelaw14.BankBack': WHATEVER THE INPUT: true; the input reads as it did. -/
def bankBackSpec : ChangeSpec := { name := "bankBack", fn := fun _ => fun
  | [d1, d2] => { results := [.lit (.bool true)], args := [d1, d2] }
  | _ => none }
def bankBackRow : OpenClaim := { program := "ytlaojmcpiggfeaa", sum := "cb05b16710d53362511cb8acc47526b1c316ce72c8a20bf4371c38b0853344a1", func := "cavalcade/cavalcadelaw14.BankBack", spec := "bankBack", apart := false }
def BankBackSaid : Prop := bankBackRow.holds Try.pinned (OpenSpec.ofChange bankBackSpec)

/-- ITS FALSE NEIGHBOUR: 'it returns false'. Refute it at one input. -/
def bankBackWrong : ChangeSpec := { name := "bankBack", fn := fun _ => fun
  | [d1, d2] => { results := [.lit (.bool false)], args := [d1, d2] }
  | _ => none }
def BankBackWrongFalsely : Prop := bankBackRow.holds Try.pinned (OpenSpec.ofChange bankBackWrong)

/-- 'cavalcadelaw14.BankNone': WHATEVER THE INPUT: true; the input reads as it did. -/
def bankNoneSpec : ChangeSpec := { name := "bankNone", fn := fun _ => fun
  | [d] => { results := [.lit (.bool true)], args := [d] }
  | _ => none }
def bankNoneRow : OpenClaim := { program := "ytlaojmcpiggfeaa", sum := "cb05b16710d53362511cb8acc47526b1c316ce72c8a20bf4371c38b0853344a1", func := "cavalcade/cavalcadelaw14.BankNone", spec := "bankNone", apart := false }
def BankNoneSaid : Prop := bankNoneRow.holds Try.pinned (OpenSpec.ofChange bankNoneSpec)

/-- ITS FALSE NEIGHBOUR: 'it returns false'. Refute it at one input. -/
def bankNoneWrong : ChangeSpec := { name := "bankNone", fn := fun _ => fun
  | [d] => { results := [.lit (.bool false)], args := [d] }
  | _ => none }
def BankNoneWrongFalsely : Prop := bankNoneRow.holds Try.pinned (OpenSpec.ofChange bankNoneWrong)

/-- 'cavalcadelaw01.OctetsLists': WHATEVER THE INPUT: true; the input reads as it did. -/
def octetsListsSpec : ChangeSpec := { name := "octetsLists", fn := fun _ => fun
  | [d] => { results := [.lit (.bool true)], args := [d] }
  | _ => none }
def octetsListsRow : OpenClaim := { program := "ytlaojmcpiggfeaa", sum := "cb05b16710d53362511cb8acc47526b1c316ce72c8a20bf4371c38b0853344a1", func := "cavalcade/cavalcadelaw01.OctetsLists", spec := "octetsLists", apart := false }
def OctetsListsSaid : Prop := octetsListsRow.holds Try.pinned (OpenSpec.ofChange octetsListsSpec)

/-- ITS FALSE NEIGHBOUR: 'it returns false'. Refute it at one input. -/
def octetsListsWrong : ChangeSpec := { name := "octetsLists", fn := fun _ => fun
  | [d] => { results := [.lit (.bool false)], args := [d] }
  | _ => none }
def OctetsListsWrongFalsely : Prop := octetsListsRow.holds Try.pinned (OpenSpec.ofChange octetsListsWrong)

/-- 'cavalcadelaw01.OctetsReads': WHATEVER THE INPUT: true; the input reads as it did. -/
def octetsReadsSpec : ChangeSpec := { name := "octetsReads", fn := fun _ => fun
  | [d1, d2] => { results := [.lit (.bool true)], args := [d1, d2] }
  | _ => none }
def octetsReadsRow : OpenClaim := { program := "ytlaojmcpiggfeaa", sum := "cb05b16710d53362511cb8acc47526b1c316ce72c8a20bf4371c38b0853344a1", func := "cavalcade/cavalcadelaw01.OctetsReads", spec := "octetsReads", apart := false }
def OctetsReadsSaid : Prop := octetsReadsRow.holds Try.pinned (OpenSpec.ofChange octetsReadsSpec)

/-- ITS FALSE NEIGHBOUR: 'it returns false'. Refute it at one input. -/
def octetsReadsWrong : ChangeSpec := { name := "octetsReads", fn := fun _ => fun
  | [d1, d2] => { results := [.lit (.bool false)], args := [d1, d2] }
  | _ => none }
def OctetsReadsWrongFalsely : Prop := octetsReadsRow.holds Try.pinned (OpenSpec.ofChange octetsReadsWrong)

/-- 'cavalcadelaw01.OctetsBehind': WHATEVER THE INPUT: true; the input reads as it did. -/
def octetsBehindSpec : ChangeSpec := { name := "octetsBehind", fn := fun _ => fun
  | [d1, d2, d3] => { results := [.lit (.bool true)], args := [d1, d2, d3] }
  | _ => none }
def octetsBehindRow : OpenClaim := { program := "ytlaojmcpiggfeaa", sum := "cb05b16710d53362511cb8acc47526b1c316ce72c8a20bf4371c38b0853344a1", func := "cavalcade/cavalcadelaw01.OctetsBehind", spec := "octetsBehind", apart := false }
def OctetsBehindSaid : Prop := octetsBehindRow.holds Try.pinned (OpenSpec.ofChange octetsBehindSpec)

/-- ITS FALSE NEIGHBOUR: 'it returns false'. Refute it at one input. -/
def octetsBehindWrong : ChangeSpec := { name := "octetsBehind", fn := fun _ => fun
  | [d1, d2, d3] => { results := [.lit (.bool false)], args := [d1, d2, d3] }
  | _ => none }
def OctetsBehindWrongFalsely : Prop := octetsBehindRow.holds Try.pinned (OpenSpec.ofChange octetsBehindWrong)

/-- 'cavalcadelaw01.OctetsBack': WHATEVER THE INPUT: true; the input reads as it did. -/
def octetsBackSpec : ChangeSpec := { name := "octetsBack", fn := fun _ => fun
  | [d1, d2, d3] => { results := [.lit (.bool true)], args := [d1, d2, d3] }
  | _ => none }
def octetsBackRow : OpenClaim := { program := "ytlaojmcpiggfeaa", sum := "cb05b16710d53362511cb8acc47526b1c316ce72c8a20bf4371c38b0853344a1", func := "cavalcade/cavalcadelaw01.OctetsBack", spec := "octetsBack", apart := false }
def OctetsBackSaid : Prop := octetsBackRow.holds Try.pinned (OpenSpec.ofChange octetsBackSpec)

/-- ITS FALSE NEIGHBOUR: 'it returns false'. Refute it at one input. -/
def octetsBackWrong : ChangeSpec := { name := "octetsBack", fn := fun _ => fun
  | [d1, d2, d3] => { results := [.lit (.bool false)], args := [d1, d2, d3] }
  | _ => none }
def OctetsBackWrongFalsely : Prop := octetsBackRow.holds Try.pinned (OpenSpec.ofChange octetsBackWrong)

/-- 'cavalcadelaw01.OctetsOnce': WHATEVER THE INPUT: true; the input reads as it did. -/
def octetsOnceSpec : ChangeSpec := { name := "octetsOnce", fn := fun _ => fun
  | [d1, d2] => { results := [.lit (.bool true)], args := [d1, d2] }
  | _ => none }
def octetsOnceRow : OpenClaim := { program := "ytlaojmcpiggfeaa", sum := "cb05b16710d53362511cb8acc47526b1c316ce72c8a20bf4371c38b0853344a1", func := "cavalcade/cavalcadelaw01.OctetsOnce", spec := "octetsOnce", apart := false }
def OctetsOnceSaid : Prop := octetsOnceRow.holds Try.pinned (OpenSpec.ofChange octetsOnceSpec)

/-- ITS FALSE NEIGHBOUR: 'it returns false'. Refute it at one input. -/
def octetsOnceWrong : ChangeSpec := { name := "octetsOnce", fn := fun _ => fun
  | [d1, d2] => { results := [.lit (.bool false)], args := [d1, d2] }
  | _ => none }
def OctetsOnceWrongFalsely : Prop := octetsOnceRow.holds Try.pinned (OpenSpec.ofChange octetsOnceWrong)

/- THE SECOND FORM. 'bulk': how many values and letters a reading holds, each counted each time it is reached (what is shared counts as often as it is met; a slice's spare places count too). A statement '..UptoSaid' is the law's where the arguments, and the package variables that the reading takes, are together of bulk at most 1048576: NARROWER than '..Said'. Prove '..Said' where nothing that the law and all that it calls make is longer than what came in: it says more and counts as full. Else prove '..UptoSaid'. A law counts once. -/
mutual
def uptoBulk {H : Type} : DataW H → Nat
  | .lit (.string bytes) => bytes.length + 1
  | .lit _ => 1
  | .nil => 1
  | .ptr d => uptoBulk d + 1
  | .slice elems spare => uptoBulkAll elems + uptoBulkAll spare + 1
  | .agg parts => uptoBulkAll parts + 1
  | .iface _ d => uptoBulk d + 1
  | .map entries => uptoBulkEntries entries + 1
  | .held _ => 1
def uptoBulkAll {H : Type} : List (DataW H) → Nat
  | [] => 0
  | d :: r => uptoBulk d + uptoBulkAll r
def uptoBulkEntries {H : Type} : List (Lit × DataW H) → Nat
  | [] => 0
  | x :: r => uptoBulkEntry x + uptoBulkEntries r
def uptoBulkEntry {H : Type} : Lit × DataW H → Nat
  | (.string bytes, d) => bytes.length + uptoBulk d + 1
  | (_, d) => uptoBulk d + 1
 end
def uptoSmall : (H : Type) → List (DataW H) → Bool := fun _ ds => decide (uptoBulkAll ds ≤ 1048576)
def OpenSpec.upto (s : _root_.Go.ChangeSpec) : _root_.Go.OpenSpec := { _root_.Go.OpenSpec.ofChange s with cond := some uptoSmall }

/-- 'cavalcadelaw01.OctetsLays', WHERE WHAT IT READS IS OF BULK AT MOST 1048576: true; the input reads as it did. -/
def octetsLaysUptoRow : OpenClaim := { program := "ytlaojmcpiggfeaa", sum := "cb05b16710d53362511cb8acc47526b1c316ce72c8a20bf4371c38b0853344a1", func := "cavalcade/cavalcadelaw01.OctetsLays", spec := "octetsLays", apart := false, narrowed := true }
def OctetsLaysUptoSaid : Prop := octetsLaysUptoRow.holds Try.pinned (OpenSpec.upto octetsLaysSpec)

/-- 'cavalcadelaw14.BankDoes', WHERE WHAT IT READS IS OF BULK AT MOST 1048576: true; the input reads as it did. -/
def bankDoesUptoRow : OpenClaim := { program := "ytlaojmcpiggfeaa", sum := "cb05b16710d53362511cb8acc47526b1c316ce72c8a20bf4371c38b0853344a1", func := "cavalcade/cavalcadelaw14.BankDoes", spec := "bankDoes", apart := false, narrowed := true }
def BankDoesUptoSaid : Prop := bankDoesUptoRow.holds Try.pinned (OpenSpec.upto bankDoesSpec)

/-- 'cavalcadelaw14.BankSums', WHERE WHAT IT READS IS OF BULK AT MOST 1048576: true; the input reads as it did. -/
def bankSumsUptoRow : OpenClaim := { program := "ytlaojmcpiggfeaa", sum := "cb05b16710d53362511cb8acc47526b1c316ce72c8a20bf4371c38b0853344a1", func := "cavalcade/cavalcadelaw14.BankSums", spec := "bankSums", apart := false, narrowed := true }
def BankSumsUptoSaid : Prop := bankSumsUptoRow.holds Try.pinned (OpenSpec.upto bankSumsSpec)

/-- 'cavalcadelaw14.BankApart', WHERE WHAT IT READS IS OF BULK AT MOST 1048576: true; the input reads as it did. -/
def bankApartUptoRow : OpenClaim := { program := "ytlaojmcpiggfeaa", sum := "cb05b16710d53362511cb8acc47526b1c316ce72c8a20bf4371c38b0853344a1", func := "cavalcade/cavalcadelaw14.BankApart", spec := "bankApart", apart := false, narrowed := true }
def BankApartUptoSaid : Prop := bankApartUptoRow.holds Try.pinned (OpenSpec.upto bankApartSpec)

/-- 'cavalcadelaw14.BankBack', WHERE WHAT IT READS IS OF BULK AT MOST 1048576: true; the input reads as it did. -/
def bankBackUptoRow : OpenClaim := { program := "ytlaojmcpiggfeaa", sum := "cb05b16710d53362511cb8acc47526b1c316ce72c8a20bf4371c38b0853344a1", func := "cavalcade/cavalcadelaw14.BankBack", spec := "bankBack", apart := false, narrowed := true }
def BankBackUptoSaid : Prop := bankBackUptoRow.holds Try.pinned (OpenSpec.upto bankBackSpec)

/-- 'cavalcadelaw14.BankNone', WHERE WHAT IT READS IS OF BULK AT MOST 1048576: true; the input reads as it did. -/
def bankNoneUptoRow : OpenClaim := { program := "ytlaojmcpiggfeaa", sum := "cb05b16710d53362511cb8acc47526b1c316ce72c8a20bf4371c38b0853344a1", func := "cavalcade/cavalcadelaw14.BankNone", spec := "bankNone", apart := false, narrowed := true }
def BankNoneUptoSaid : Prop := bankNoneUptoRow.holds Try.pinned (OpenSpec.upto bankNoneSpec)

/-- 'cavalcadelaw01.OctetsLists', WHERE WHAT IT READS IS OF BULK AT MOST 1048576: true; the input reads as it did. -/
def octetsListsUptoRow : OpenClaim := { program := "ytlaojmcpiggfeaa", sum := "cb05b16710d53362511cb8acc47526b1c316ce72c8a20bf4371c38b0853344a1", func := "cavalcade/cavalcadelaw01.OctetsLists", spec := "octetsLists", apart := false, narrowed := true }
def OctetsListsUptoSaid : Prop := octetsListsUptoRow.holds Try.pinned (OpenSpec.upto octetsListsSpec)

/-- 'cavalcadelaw01.OctetsReads', WHERE WHAT IT READS IS OF BULK AT MOST 1048576: true; the input reads as it did. -/
def octetsReadsUptoRow : OpenClaim := { program := "ytlaojmcpiggfeaa", sum := "cb05b16710d53362511cb8acc47526b1c316ce72c8a20bf4371c38b0853344a1", func := "cavalcade/cavalcadelaw01.OctetsReads", spec := "octetsReads", apart := false, narrowed := true }
def OctetsReadsUptoSaid : Prop := octetsReadsUptoRow.holds Try.pinned (OpenSpec.upto octetsReadsSpec)

/-- 'cavalcadelaw01.OctetsBehind', WHERE WHAT IT READS IS OF BULK AT MOST 1048576: true; the input reads as it did. -/
def octetsBehindUptoRow : OpenClaim := { program := "ytlaojmcpiggfeaa", sum := "cb05b16710d53362511cb8acc47526b1c316ce72c8a20bf4371c38b0853344a1", func := "cavalcade/cavalcadelaw01.OctetsBehind", spec := "octetsBehind", apart := false, narrowed := true }
def OctetsBehindUptoSaid : Prop := octetsBehindUptoRow.holds Try.pinned (OpenSpec.upto octetsBehindSpec)

/-- 'cavalcadelaw01.OctetsBack', WHERE WHAT IT READS IS OF BULK AT MOST 1048576: true; the input reads as it did. -/
def octetsBackUptoRow : OpenClaim := { program := "ytlaojmcpiggfeaa", sum := "cb05b16710d53362511cb8acc47526b1c316ce72c8a20bf4371c38b0853344a1", func := "cavalcade/cavalcadelaw01.OctetsBack", spec := "octetsBack", apart := false, narrowed := true }
def OctetsBackUptoSaid : Prop := octetsBackUptoRow.holds Try.pinned (OpenSpec.upto octetsBackSpec)

/-- 'cavalcadelaw01.OctetsOnce', WHERE WHAT IT READS IS OF BULK AT MOST 1048576: true; the input reads as it did. -/
def octetsOnceUptoRow : OpenClaim := { program := "ytlaojmcpiggfeaa", sum := "cb05b16710d53362511cb8acc47526b1c316ce72c8a20bf4371c38b0853344a1", func := "cavalcade/cavalcadelaw01.OctetsOnce", spec := "octetsOnce", apart := false, narrowed := true }
def OctetsOnceUptoSaid : Prop := octetsOnceUptoRow.holds Try.pinned (OpenSpec.upto octetsOnceSpec)

end Rows
end Go.Proofs.Ytlaojmcpiggfeaa
