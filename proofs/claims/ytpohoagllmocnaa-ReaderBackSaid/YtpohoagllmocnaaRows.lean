/-
  No cell of these rows narrows 'for every input' (looked for: loops, veiled, ifaces, maps, wideKeys, modest, calm, conditions, laid).
  DERIVED. THE GIVEN ROWS OF THIS SEAT. 3 by the template 'for every input the law returns true; each argument reads behind the call as it read before'; 0 by the template 'total and deterministic' (their statements: YtpohoagllmocnaaTotals.lean).
  GIVEN WITH THE SEED: the statements are not yours to turn. If you find one false, say at which input.
  Laid BY PROGRAM, IN A SANDBOX (cutbox-rows.mjs): the forced cells as the released guide's own fill.sh prints them over the translation cf1ee5189a9ab00b… (all of the seat's roots in one cut). By AI agents, Wed Nov 11 2026. No macro, syntax, notation, axiom, sorry.
-/
import Derived.Test.YtpohoagllmocnaaChecked
import GoSem.Claim
import GoSem.ClaimJoined
import GoSem.ClaimMapViews
import Derived.JoinedTies
import Derived.KernelRfl
namespace Go.Proofs.Ytpohoagllmocnaa
/- THE CELL 'sum', in the pinned program and in every row, IS THE sha256 OF THE DUMP (.gsa) THAT YtpohoagllmocnaaProg.lean LOADS. Nothing in Lean hashes anything: it is a label: what it is worth is what the hold of that sum in a sandbox is worth. -/
noncomputable def Try.pinned : Pinned := { name := "ytpohoagllmocnaa", sum := "cf1ee5189a9ab00bb984e8b1bd598e10d65e4fb78869e159b67aad906096159f", checked := Try.checked }
namespace Rows
def none {H : Type} : Left H := { results := [], args := [] }

/-- 'norialaw03.ReaderReads': WHATEVER THE INPUT: true; the input reads as it did. -/
def readerReadsSpec : ChangeSpec := { name := "readerReads", fn := fun _ => fun
  | [d1, d2] => { results := [.lit (.bool true)], args := [d1, d2] }
  | _ => none }
def readerReadsRow : OpenClaim := { program := "ytpohoagllmocnaa", sum := "cf1ee5189a9ab00bb984e8b1bd598e10d65e4fb78869e159b67aad906096159f", func := "noria/norialaw03.ReaderReads", spec := "readerReads", apart := false }
def ReaderReadsSaid : Prop := readerReadsRow.holds Try.pinned (OpenSpec.ofChange readerReadsSpec)

/-- ITS FALSE NEIGHBOUR: 'it returns false'. Refute it at one input. -/
def readerReadsWrong : ChangeSpec := { name := "readerReads", fn := fun _ => fun
  | [d1, d2] => { results := [.lit (.bool false)], args := [d1, d2] }
  | _ => none }
def ReaderReadsWrongFalsely : Prop := readerReadsRow.holds Try.pinned (OpenSpec.ofChange readerReadsWrong)

/-- 'norialaw03.ReaderWrites': WHATEVER THE INPUT: true; the input reads as it did. -/
def readerWritesSpec : ChangeSpec := { name := "readerWrites", fn := fun _ => fun
  | [d] => { results := [.lit (.bool true)], args := [d] }
  | _ => none }
def readerWritesRow : OpenClaim := { program := "ytpohoagllmocnaa", sum := "cf1ee5189a9ab00bb984e8b1bd598e10d65e4fb78869e159b67aad906096159f", func := "noria/norialaw03.ReaderWrites", spec := "readerWrites", apart := false }
def ReaderWritesSaid : Prop := readerWritesRow.holds Try.pinned (OpenSpec.ofChange readerWritesSpec)

/-- ITS FALSE NEIGHBOUR: 'it returns false'. Refute it at one input. -/
def readerWritesWrong : ChangeSpec := { name := "readerWrites", fn := fun _ => fun
  | [d] => { results := [.lit (.bool false)], args := [d] }
  | _ => none }
def ReaderWritesWrongFalsely : Prop := readerWritesRow.holds Try.pinned (OpenSpec.ofChange readerWritesWrong)

/-- 'norialaw03.ReaderBack': WHATEVER THE INPUT: true; the input reads as it did. -/
def readerBackSpec : ChangeSpec := { name := "readerBack", fn := fun _ => fun
  | [d] => { results := [.lit (.bool true)], args := [d] }
  | _ => none }
def readerBackRow : OpenClaim := { program := "ytpohoagllmocnaa", sum := "cf1ee5189a9ab00bb984e8b1bd598e10d65e4fb78869e159b67aad906096159f", func := "noria/norialaw03.ReaderBack", spec := "readerBack", apart := false }
def ReaderBackSaid : Prop := readerBackRow.holds Try.pinned (OpenSpec.ofChange readerBackSpec)

/-- ITS FALSE NEIGHBOUR: 'it returns false'. Refute it at one input. -/
def readerBackWrong : ChangeSpec := { name := "readerBack", fn := fun _ => fun
  | [d] => { results := [.lit (.bool false)], args := [d] }
  | _ => none }
def ReaderBackWrongFalsely : Prop := readerBackRow.holds Try.pinned (OpenSpec.ofChange readerBackWrong)

/- THE SECOND FORM. 'bulk': how many values and letters a reading holds, each counted each time it is reached (what is shared counts as often as it is met; a slice's spare places count too). A statement '..UptoSaid' is the law's where the arguments, and the package variables that the reading takes, are together of bulk at most 1048576: NARROWER than '..Said'. Prove '..Said' where nothing that the law and all that it calls make is longer than what came in: it says more and counts as full. Else prove '..UptoSaid'. A law counts once. -/
mutual
def uptoBulk {H : Type} : DataW H → Nat
  | .lit (.string bytes) => bytes.length + 1
  | .lit _ => 1
  | .nil => 1
  | .ptr d => uptoBulk d + 1
  | .slice elems spare => uptoBulkAll elems + uptoBulkAll spare + 1
  | .agg parts => uptoBulkAll parts + 1
  | .iface _ d => uptoBulk d + 1
  | .map entries => uptoBulkEntries entries + 1
  | .held _ => 1
def uptoBulkAll {H : Type} : List (DataW H) → Nat
  | [] => 0
  | d :: r => uptoBulk d + uptoBulkAll r
def uptoBulkEntries {H : Type} : List (Lit × DataW H) → Nat
  | [] => 0
  | x :: r => uptoBulkEntry x + uptoBulkEntries r
def uptoBulkEntry {H : Type} : Lit × DataW H → Nat
  | (.string bytes, d) => bytes.length + uptoBulk d + 1
  | (_, d) => uptoBulk d + 1
 end
def uptoSmall : (H : Type) → List (DataW H) → Bool := fun _ ds => decide (uptoBulkAll ds ≤ 1048576)
def OpenSpec.upto (s : _root_.Go.ChangeSpec) : _root_.Go.OpenSpec := { _root_.Go.OpenSpec.ofChange s with cond := some uptoSmall }

/-- 'norialaw03.ReaderReads', WHERE WHAT IT READS IS OF BULK AT MOST 1048576: true; the input reads as it did. -/
def readerReadsUptoRow : OpenClaim := { program := "ytpohoagllmocnaa", sum := "cf1ee5189a9ab00bb984e8b1bd598e10d65e4fb78869e159b67aad906096159f", func := "noria/norialaw03.ReaderReads", spec := "readerReads", apart := false, narrowed := true }
def ReaderReadsUptoSaid : Prop := readerReadsUptoRow.holds Try.pinned (OpenSpec.upto readerReadsSpec)

/-- 'norialaw03.ReaderWrites', WHERE WHAT IT READS IS OF BULK AT MOST 1048576: true; the input reads as it did. -/
def readerWritesUptoRow : OpenClaim := { program := "ytpohoagllmocnaa", sum := "cf1ee5189a9ab00bb984e8b1bd598e10d65e4fb78869e159b67aad906096159f", func := "noria/norialaw03.ReaderWrites", spec := "readerWrites", apart := false, narrowed := true }
def ReaderWritesUptoSaid : Prop := readerWritesUptoRow.holds Try.pinned (OpenSpec.upto readerWritesSpec)

/-- 'norialaw03.ReaderBack', WHERE WHAT IT READS IS OF BULK AT MOST 1048576: true; the input reads as it did. -/
def readerBackUptoRow : OpenClaim := { program := "ytpohoagllmocnaa", sum := "cf1ee5189a9ab00bb984e8b1bd598e10d65e4fb78869e159b67aad906096159f", func := "noria/norialaw03.ReaderBack", spec := "readerBack", apart := false, narrowed := true }
def ReaderBackUptoSaid : Prop := readerBackUptoRow.holds Try.pinned (OpenSpec.upto readerBackSpec)

end Rows
end Go.Proofs.Ytpohoagllmocnaa
