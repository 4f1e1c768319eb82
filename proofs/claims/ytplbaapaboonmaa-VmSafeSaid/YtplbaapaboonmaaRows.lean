/-
  No cell of these rows narrows 'for every input' (looked for: loops, veiled, ifaces, maps, wideKeys, modest, calm, conditions, laid).
  DERIVED. THE GIVEN ROWS OF THIS SEAT. 4 by the template 'for every input the law returns true; each argument reads behind the call as it read before'; 0 by the template 'total and deterministic' (their statements: YtplbaapaboonmaaTotals.lean).
  GIVEN WITH THE SEED: the statements are not yours to turn. If you find one false, say at which input.
  Laid BY PROGRAM, IN A SANDBOX (cutbox-rows.mjs): the forced cells as the released guide's own fill.sh prints them over the translation 52c8ffcf719f6a1b… (all of the seat's roots in one cut). By AI agents, Wed Nov 11 2026. No macro, syntax, notation, axiom, sorry.
-/
import Derived.Test.YtplbaapaboonmaaChecked
import GoSem.Claim
import GoSem.ClaimJoined
import GoSem.ClaimMapViews
import Derived.JoinedTies
import Derived.KernelRfl
namespace Go.Proofs.Ytplbaapaboonmaa
/- THE CELL 'sum', in the pinned program and in every row, IS THE sha256 OF THE DUMP (.gsa) THAT YtplbaapaboonmaaProg.lean LOADS. Nothing in Lean hashes anything: it is a label: what it is worth is what the hold of that sum in a sandbox is worth. -/
noncomputable def Try.pinned : Pinned := { name := "ytplbaapaboonmaa", sum := "52c8ffcf719f6a1bb6484670cdc8110280d50e6b89bbae582a78789cbffdff2d", checked := Try.checked }
namespace Rows
def none {H : Type} : Left H := { results := [], args := [] }

/-- 'norialaw30.VmRuns': WHATEVER THE INPUT: true; the input reads as it did. -/
def vmRunsSpec : ChangeSpec := { name := "vmRuns", fn := fun _ => fun
  | [d1, d2, d3] => { results := [.lit (.bool true)], args := [d1, d2, d3] }
  | _ => none }
def vmRunsRow : OpenClaim := { program := "ytplbaapaboonmaa", sum := "52c8ffcf719f6a1bb6484670cdc8110280d50e6b89bbae582a78789cbffdff2d", func := "noria/norialaw30.VmRuns", spec := "vmRuns", apart := false }
def VmRunsSaid : Prop := vmRunsRow.holds Try.pinned (OpenSpec.ofChange vmRunsSpec)

/-- ITS FALSE NEIGHBOUR: 'it returns false'. Refute it at one input. -/
def vmRunsWrong : ChangeSpec := { name := "vmRuns", fn := fun _ => fun
  | [d1, d2, d3] => { results := [.lit (.bool false)], args := [d1, d2, d3] }
  | _ => none }
def VmRunsWrongFalsely : Prop := vmRunsRow.holds Try.pinned (OpenSpec.ofChange vmRunsWrong)

/-- 'norialaw30.VmFuel': WHATEVER THE INPUT: true; the input reads as it did. -/
def vmFuelSpec : ChangeSpec := { name := "vmFuel", fn := fun _ => fun
  | [d1, d2, d3] => { results := [.lit (.bool true)], args := [d1, d2, d3] }
  | _ => none }
def vmFuelRow : OpenClaim := { program := "ytplbaapaboonmaa", sum := "52c8ffcf719f6a1bb6484670cdc8110280d50e6b89bbae582a78789cbffdff2d", func := "noria/norialaw30.VmFuel", spec := "vmFuel", apart := false }
def VmFuelSaid : Prop := vmFuelRow.holds Try.pinned (OpenSpec.ofChange vmFuelSpec)

/-- ITS FALSE NEIGHBOUR: 'it returns false'. Refute it at one input. -/
def vmFuelWrong : ChangeSpec := { name := "vmFuel", fn := fun _ => fun
  | [d1, d2, d3] => { results := [.lit (.bool false)], args := [d1, d2, d3] }
  | _ => none }
def VmFuelWrongFalsely : Prop := vmFuelRow.holds Try.pinned (OpenSpec.ofChange vmFuelWrong)

/-- 'norialaw30.VmRight': WHATEVER THE INPUT: true; the input reads as it did. -/
def vmRightSpec : ChangeSpec := { name := "vmRight", fn := fun _ => fun
  | [d1, d2] => { results := [.lit (.bool true)], args := [d1, d2] }
  | _ => none }
def vmRightRow : OpenClaim := { program := "ytplbaapaboonmaa", sum := "52c8ffcf719f6a1bb6484670cdc8110280d50e6b89bbae582a78789cbffdff2d", func := "noria/norialaw30.VmRight", spec := "vmRight", unfollowed := true, recurses := true, apart := false }
def VmRightSaid : Prop := vmRightRow.holds Try.pinned (OpenSpec.ofChange vmRightSpec)

/-- ITS FALSE NEIGHBOUR: 'it returns false'. Refute it at one input. -/
def vmRightWrong : ChangeSpec := { name := "vmRight", fn := fun _ => fun
  | [d1, d2] => { results := [.lit (.bool false)], args := [d1, d2] }
  | _ => none }
def VmRightWrongFalsely : Prop := vmRightRow.holds Try.pinned (OpenSpec.ofChange vmRightWrong)

/-- 'norialaw30.VmSafe': WHATEVER THE INPUT: true; the input reads as it did. -/
def vmSafeSpec : ChangeSpec := { name := "vmSafe", fn := fun _ => fun
  | [d1, d2, d3] => { results := [.lit (.bool true)], args := [d1, d2, d3] }
  | _ => none }
def vmSafeRow : OpenClaim := { program := "ytplbaapaboonmaa", sum := "52c8ffcf719f6a1bb6484670cdc8110280d50e6b89bbae582a78789cbffdff2d", func := "noria/norialaw30.VmSafe", spec := "vmSafe", unfollowed := true, recurses := true, apart := false }
def VmSafeSaid : Prop := vmSafeRow.holds Try.pinned (OpenSpec.ofChange vmSafeSpec)

/-- ITS FALSE NEIGHBOUR: 'it returns false'. Refute it at one input. -/
def vmSafeWrong : ChangeSpec := { name := "vmSafe", fn := fun _ => fun
  | [d1, d2, d3] => { results := [.lit (.bool false)], args := [d1, d2, d3] }
  | _ => none }
def VmSafeWrongFalsely : Prop := vmSafeRow.holds Try.pinned (OpenSpec.ofChange vmSafeWrong)

/- THE SECOND FORM. 'bulk': how many values and letters a reading holds, each counted each time it is reached (what is shared counts as often as it is met; a slice's spare places count too). A statement '..UptoSaid' is the law's where the arguments, and the package variables that the reading takes, are together of bulk at most 1048576: NARROWER than '..Said'. Prove '..Said' where nothing that the law and all that it calls make is longer than what came in: it says more and counts as full. Else prove '..UptoSaid'. A law counts once. -/
mutual
def uptoBulk {H : Type} : DataW H → Nat
  | .lit (.string bytes) => bytes.length + 1
  | .lit _ => 1
  | .nil => 1
  | .ptr d => uptoBulk d + 1
  | .slice elems spare => uptoBulkAll elems + uptoBulkAll spare + 1
  | .agg parts => uptoBulkAll parts + 1
  | .iface _ d => uptoBulk d + 1
  | .map entries => uptoBulkEntries entries + 1
  | .held _ => 1
def uptoBulkAll {H : Type} : List (DataW H) → Nat
  | [] => 0
  | d :: r => uptoBulk d + uptoBulkAll r
def uptoBulkEntries {H : Type} : List (Lit × DataW H) → Nat
  | [] => 0
  | x :: r => uptoBulkEntry x + uptoBulkEntries r
def uptoBulkEntry {H : Type} : Lit × DataW H → Nat
  | (.string bytes, d) => bytes.length + uptoBulk d + 1
  | (_, d) => uptoBulk d + 1
 end
def uptoSmall : (H : Type) → List (DataW H) → Bool := fun _ ds => decide (uptoBulkAll ds ≤ 1048576)
def OpenSpec.upto (s : _root_.Go.ChangeSpec) : _root_.Go.OpenSpec := { _root_.Go.OpenSpec.ofChange s with cond := some uptoSmall }

/-- 'norialaw30.VmRuns', WHERE WHAT IT READS IS OF BULK AT MOST 1048576: true; the input reads as it did. -/
def vmRunsUptoRow : OpenClaim := { program := "ytplbaapaboonmaa", sum := "52c8ffcf719f6a1bb6484670cdc8110280d50e6b89bbae582a78789cbffdff2d", func := "noria/norialaw30.VmRuns", spec := "vmRuns", apart := false, narrowed := true }
def VmRunsUptoSaid : Prop := vmRunsUptoRow.holds Try.pinned (OpenSpec.upto vmRunsSpec)

/-- 'norialaw30.VmFuel', WHERE WHAT IT READS IS OF BULK AT MOST 1048576: true; the input reads as it did. -/
def vmFuelUptoRow : OpenClaim := { program := "ytplbaapaboonmaa", sum := "52c8ffcf719f6a1bb6484670cdc8110280d50e6b89bbae582a78789cbffdff2d", func := "noria/norialaw30.VmFuel", spec := "vmFuel", apart := false, narrowed := true }
def VmFuelUptoSaid : Prop := vmFuelUptoRow.holds Try.pinned (OpenSpec.upto vmFuelSpec)

/-- 'norialaw30.VmRight', WHERE WHAT IT READS IS OF BULK AT MOST 1048576: true; the input reads as it did. -/
def vmRightUptoRow : OpenClaim := { program := "ytplbaapaboonmaa", sum := "52c8ffcf719f6a1bb6484670cdc8110280d50e6b89bbae582a78789cbffdff2d", func := "noria/norialaw30.VmRight", spec := "vmRight", unfollowed := true, recurses := true, apart := false, narrowed := true }
def VmRightUptoSaid : Prop := vmRightUptoRow.holds Try.pinned (OpenSpec.upto vmRightSpec)

/-- 'norialaw30.VmSafe', WHERE WHAT IT READS IS OF BULK AT MOST 1048576: true; the input reads as it did. -/
def vmSafeUptoRow : OpenClaim := { program := "ytplbaapaboonmaa", sum := "52c8ffcf719f6a1bb6484670cdc8110280d50e6b89bbae582a78789cbffdff2d", func := "noria/norialaw30.VmSafe", spec := "vmSafe", unfollowed := true, recurses := true, apart := false, narrowed := true }
def VmSafeUptoSaid : Prop := vmSafeUptoRow.holds Try.pinned (OpenSpec.upto vmSafeSpec)

end Rows
end Go.Proofs.Ytplbaapaboonmaa
