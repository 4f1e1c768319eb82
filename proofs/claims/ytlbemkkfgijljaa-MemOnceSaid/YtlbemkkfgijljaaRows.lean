/-
  No cell of these rows narrows 'for every input' (looked for: loops, veiled, ifaces, maps, wideKeys, modest, calm, conditions, laid).
  DERIVED. THE GIVEN ROWS OF THIS SEAT. 4 by the template 'for every input the law returns true; each argument reads behind the call as it read before'; 0 by the template 'total and deterministic' (their statements: YtlbemkkfgijljaaTotals.lean).
  GIVEN WITH THE SEED: the statements are not yours to turn. If you find one false, say at which input.
  Laid BY PROGRAM, IN A SANDBOX (cutbox-rows.mjs): the forced cells as the released guide's own fill.sh prints them over the translation 86e96ab5a9b5edaf… (all of the seat's roots in one cut). By AI agents, Wed Nov 11 2026. No macro, syntax, notation, axiom, sorry.
-/
import Derived.Test.YtlbemkkfgijljaaChecked
import GoSem.Claim
import GoSem.ClaimJoined
import GoSem.ClaimMapViews
import Derived.JoinedTies
import Derived.KernelRfl
namespace Go.Proofs.Ytlbemkkfgijljaa
/- THE CELL 'sum', in the pinned program and in every row, IS THE sha256 OF THE DUMP (.gsa) THAT YtlbemkkfgijljaaProg.lean LOADS. Nothing in Lean hashes anything: it is a label: what it is worth is what the hold of that sum in a sandbox is worth. -/
noncomputable def Try.pinned : Pinned := { name := "ytlbemkkfgijljaa", sum := "86e96ab5a9b5edafda545eec9218179628481765a7b699e75ecc40d6081b72da", checked := Try.checked }
namespace Rows
def none {H : Type} : Left H := { results := [], args := [] }

/-- 'norialaw23.MemPuts': WHATEVER THE INPUT: true; the input reads as it did. -/
def memPutsSpec : ChangeSpec := { name := "memPuts", fn := fun _ => fun
  | [d1, d2, d3] => { results := [.lit (.bool true)], args := [d1, d2, d3] }
  | _ => none }
def memPutsRow : OpenClaim := { program := "ytlbemkkfgijljaa", sum := "86e96ab5a9b5edafda545eec9218179628481765a7b699e75ecc40d6081b72da", func := "noria/norialaw23.MemPuts", spec := "memPuts", unfollowed := true, recurses := true, apart := false }
def MemPutsSaid : Prop := memPutsRow.holds Try.pinned (OpenSpec.ofChange memPutsSpec)

/-- ITS FALSE NEIGHBOUR: 'it returns false'. Refute it at one input. -/
def memPutsWrong : ChangeSpec := { name := "memPuts", fn := fun _ => fun
  | [d1, d2, d3] => { results := [.lit (.bool false)], args := [d1, d2, d3] }
  | _ => none }
def MemPutsWrongFalsely : Prop := memPutsRow.holds Try.pinned (OpenSpec.ofChange memPutsWrong)

/-- 'norialaw23.MemFinds': WHATEVER THE INPUT: true; the input reads as it did. -/
def memFindsSpec : ChangeSpec := { name := "memFinds", fn := fun _ => fun
  | [d1, d2, d3] => { results := [.lit (.bool true)], args := [d1, d2, d3] }
  | _ => none }
def memFindsRow : OpenClaim := { program := "ytlbemkkfgijljaa", sum := "86e96ab5a9b5edafda545eec9218179628481765a7b699e75ecc40d6081b72da", func := "noria/norialaw23.MemFinds", spec := "memFinds", unfollowed := true, recurses := true, apart := false }
def MemFindsSaid : Prop := memFindsRow.holds Try.pinned (OpenSpec.ofChange memFindsSpec)

/-- ITS FALSE NEIGHBOUR: 'it returns false'. Refute it at one input. -/
def memFindsWrong : ChangeSpec := { name := "memFinds", fn := fun _ => fun
  | [d1, d2, d3] => { results := [.lit (.bool false)], args := [d1, d2, d3] }
  | _ => none }
def MemFindsWrongFalsely : Prop := memFindsRow.holds Try.pinned (OpenSpec.ofChange memFindsWrong)

/-- 'norialaw23.MemStarts': WHATEVER THE INPUT: true; the input reads as it did. -/
def memStartsSpec : ChangeSpec := { name := "memStarts", fn := fun _ => fun
  | [d1, d2] => { results := [.lit (.bool true)], args := [d1, d2] }
  | _ => none }
def memStartsRow : OpenClaim := { program := "ytlbemkkfgijljaa", sum := "86e96ab5a9b5edafda545eec9218179628481765a7b699e75ecc40d6081b72da", func := "noria/norialaw23.MemStarts", spec := "memStarts", unfollowed := true, recurses := true, apart := false }
def MemStartsSaid : Prop := memStartsRow.holds Try.pinned (OpenSpec.ofChange memStartsSpec)

/-- ITS FALSE NEIGHBOUR: 'it returns false'. Refute it at one input. -/
def memStartsWrong : ChangeSpec := { name := "memStarts", fn := fun _ => fun
  | [d1, d2] => { results := [.lit (.bool false)], args := [d1, d2] }
  | _ => none }
def MemStartsWrongFalsely : Prop := memStartsRow.holds Try.pinned (OpenSpec.ofChange memStartsWrong)

/-- 'norialaw23.MemOnce': WHATEVER THE INPUT: true; the input reads as it did. -/
def memOnceSpec : ChangeSpec := { name := "memOnce", fn := fun _ => fun
  | [d1, d2, d3] => { results := [.lit (.bool true)], args := [d1, d2, d3] }
  | _ => none }
def memOnceRow : OpenClaim := { program := "ytlbemkkfgijljaa", sum := "86e96ab5a9b5edafda545eec9218179628481765a7b699e75ecc40d6081b72da", func := "noria/norialaw23.MemOnce", spec := "memOnce", unfollowed := true, recurses := true, apart := false }
def MemOnceSaid : Prop := memOnceRow.holds Try.pinned (OpenSpec.ofChange memOnceSpec)

/-- ITS FALSE NEIGHBOUR: 'it returns false'. Refute it at one input. -/
def memOnceWrong : ChangeSpec := { name := "memOnce", fn := fun _ => fun
  | [d1, d2, d3] => { results := [.lit (.bool false)], args := [d1, d2, d3] }
  | _ => none }
def MemOnceWrongFalsely : Prop := memOnceRow.holds Try.pinned (OpenSpec.ofChange memOnceWrong)

/- THE SECOND FORM. 'bulk': how many values and letters a reading holds, each counted each time it is reached (what is shared counts as often as it is met; a slice's spare places count too). A statement '..UptoSaid' is the law's where the arguments, and the package variables that the reading takes, are together of bulk at most 1048576: NARROWER than '..Said'. Prove '..Said' where nothing that the law and all that it calls make is longer than what came in: it says more and counts as full. Else prove '..UptoSaid'. A law counts once. -/
mutual
def uptoBulk {H : Type} : DataW H → Nat
  | .lit (.string bytes) => bytes.length + 1
  | .lit _ => 1
  | .nil => 1
  | .ptr d => uptoBulk d + 1
  | .slice elems spare => uptoBulkAll elems + uptoBulkAll spare + 1
  | .agg parts => uptoBulkAll parts + 1
  | .iface _ d => uptoBulk d + 1
  | .map entries => uptoBulkEntries entries + 1
  | .held _ => 1
def uptoBulkAll {H : Type} : List (DataW H) → Nat
  | [] => 0
  | d :: r => uptoBulk d + uptoBulkAll r
def uptoBulkEntries {H : Type} : List (Lit × DataW H) → Nat
  | [] => 0
  | x :: r => uptoBulkEntry x + uptoBulkEntries r
def uptoBulkEntry {H : Type} : Lit × DataW H → Nat
  | (.string bytes, d) => bytes.length + uptoBulk d + 1
  | (_, d) => uptoBulk d + 1
 end
def uptoSmall : (H : Type) → List (DataW H) → Bool := fun _ ds => decide (uptoBulkAll ds ≤ 1048576)
def OpenSpec.upto (s : _root_.Go.ChangeSpec) : _root_.Go.OpenSpec := { _root_.Go.OpenSpec.ofChange s with cond := some uptoSmall }

/-- 'norialaw23.MemPuts', WHERE WHAT IT READS IS OF BULK AT MOST 1048576: true; the input reads as it did. -/
def memPutsUptoRow : OpenClaim := { program := "ytlbemkkfgijljaa", sum := "86e96ab5a9b5edafda545eec9218179628481765a7b699e75ecc40d6081b72da", func := "noria/norialaw23.MemPuts", spec := "memPuts", unfollowed := true, recurses := true, apart := false, narrowed := true }
def MemPutsUptoSaid : Prop := memPutsUptoRow.holds Try.pinned (OpenSpec.upto memPutsSpec)

/-- 'norialaw23.MemFinds', WHERE WHAT IT READS IS OF BULK AT MOST 1048576: true; the input reads as it did. -/
def memFindsUptoRow : OpenClaim := { program := "ytlbemkkfgijljaa", sum := "86e96ab5a9b5edafda545eec9218179628481765a7b699e75ecc40d6081b72da", func := "noria/norialaw23.MemFinds", spec := "memFinds", unfollowed := true, recurses := true, apart := false, narrowed := true }
def MemFindsUptoSaid : Prop := memFindsUptoRow.holds Try.pinned (OpenSpec.upto memFindsSpec)

/-- 'norialaw23.MemStarts', WHERE WHAT IT READS IS OF BULK AT MOST 1048576: true; the input reads as it did. -/
def memStartsUptoRow : OpenClaim := { program := "ytlbemkkfgijljaa", sum := "86e96ab5a9b5edafda545eec9218179628481765a7b699e75ecc40d6081b72da", func := "noria/norialaw23.MemStarts", spec := "memStarts", unfollowed := true, recurses := true, apart := false, narrowed := true }
def MemStartsUptoSaid : Prop := memStartsUptoRow.holds Try.pinned (OpenSpec.upto memStartsSpec)

/-- 'norialaw23.MemOnce', WHERE WHAT IT READS IS OF BULK AT MOST 1048576: true; the input reads as it did. -/
def memOnceUptoRow : OpenClaim := { program := "ytlbemkkfgijljaa", sum := "86e96ab5a9b5edafda545eec9218179628481765a7b699e75ecc40d6081b72da", func := "noria/norialaw23.MemOnce", spec := "memOnce", unfollowed := true, recurses := true, apart := false, narrowed := true }
def MemOnceUptoSaid : Prop := memOnceUptoRow.holds Try.pinned (OpenSpec.upto memOnceSpec)

end Rows
end Go.Proofs.Ytlbemkkfgijljaa
