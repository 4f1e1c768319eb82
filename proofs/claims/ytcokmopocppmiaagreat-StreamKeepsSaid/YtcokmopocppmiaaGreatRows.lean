/-
  NARROWER THAN 'FOR EVERY INPUT', by the rows' own cells (each row's printed sentence says how): StreamSteps: loops · StreamRuns: loops · StreamKeeps: loops.
  DERIVED. THE GIVEN ROWS OF THIS SEAT. 3 by the template 'for every input the law returns true; each argument reads behind the call as it read before'; 0 by the template 'total and deterministic' (their statements: YtcokmopocppmiaaGreatTotals.lean).
  GIVEN WITH THE SEED: the statements are not yours to turn. If you find one false, say at which input.
  Laid BY PROGRAM, IN A SANDBOX (cutbox-rows.mjs): the forced cells as the released guide's own fill.sh prints them over the translation 111c5f9d4c4f1f9b… (all of the seat's roots in one cut). By AI agents, Wed Nov 11 2026. No macro, syntax, notation, axiom, sorry.
-/
import Derived.Test.YtcokmopocppmiaaGreatChecked
import GoSem.Claim
import GoSem.ClaimJoined
import GoSem.ClaimMapViews
import Derived.JoinedTies
import Derived.KernelRfl
namespace Go.Proofs.YtcokmopocppmiaaGreat
/- THE CELL 'sum', in the pinned program and in every row, IS THE sha256 OF THE DUMP (.gsa) THAT YtcokmopocppmiaaGreatProg.lean LOADS. Nothing in Lean hashes anything: it is a label: what it is worth is what the hold of that sum in a sandbox is worth. -/
noncomputable def Tryz.pinned : Pinned := { name := "ytcokmopocppmiaagreat", sum := "111c5f9d4c4f1f9b52df32f3f237084d554335e7535f0fd329d917424c4c991d", checked := Tryz.checked }
namespace Rows
def none {H : Type} : Left H := { results := [], args := [] }

/-- 'norialaw24.StreamSteps': WHATEVER THE INPUT: true; the input reads as it did. -/
def streamStepsSpec : ChangeSpec := { name := "streamSteps", fn := fun _ => fun
  | [d1, d2, d3] => { results := [.lit (.bool true)], args := [d1, d2, d3] }
  | _ => none }
def streamStepsRow : OpenClaim := { program := "ytcokmopocppmiaagreat", sum := "111c5f9d4c4f1f9b52df32f3f237084d554335e7535f0fd329d917424c4c991d", func := "noria/norialaw24.StreamSteps", spec := "streamSteps", unfollowed := true, recurses := true, loops := true, apart := false }
def StreamStepsSaid : Prop := streamStepsRow.holds Tryz.pinned (OpenSpec.ofChange streamStepsSpec)

/-- ITS FALSE NEIGHBOUR: 'it returns false'. Refute it at one input. -/
def streamStepsWrong : ChangeSpec := { name := "streamSteps", fn := fun _ => fun
  | [d1, d2, d3] => { results := [.lit (.bool false)], args := [d1, d2, d3] }
  | _ => none }
def StreamStepsWrongFalsely : Prop := streamStepsRow.holds Tryz.pinned (OpenSpec.ofChange streamStepsWrong)

/-- 'norialaw24.StreamRuns': WHATEVER THE INPUT: true; the input reads as it did. -/
def streamRunsSpec : ChangeSpec := { name := "streamRuns", fn := fun _ => fun
  | [d1, d2] => { results := [.lit (.bool true)], args := [d1, d2] }
  | _ => none }
def streamRunsRow : OpenClaim := { program := "ytcokmopocppmiaagreat", sum := "111c5f9d4c4f1f9b52df32f3f237084d554335e7535f0fd329d917424c4c991d", func := "noria/norialaw24.StreamRuns", spec := "streamRuns", unfollowed := true, recurses := true, loops := true, apart := false }
def StreamRunsSaid : Prop := streamRunsRow.holds Tryz.pinned (OpenSpec.ofChange streamRunsSpec)

/-- ITS FALSE NEIGHBOUR: 'it returns false'. Refute it at one input. -/
def streamRunsWrong : ChangeSpec := { name := "streamRuns", fn := fun _ => fun
  | [d1, d2] => { results := [.lit (.bool false)], args := [d1, d2] }
  | _ => none }
def StreamRunsWrongFalsely : Prop := streamRunsRow.holds Tryz.pinned (OpenSpec.ofChange streamRunsWrong)

/-- 'norialaw24.StreamKeeps': WHATEVER THE INPUT: true; the input reads as it did. -/
def streamKeepsSpec : ChangeSpec := { name := "streamKeeps", fn := fun _ => fun
  | [d1, d2] => { results := [.lit (.bool true)], args := [d1, d2] }
  | _ => none }
def streamKeepsRow : OpenClaim := { program := "ytcokmopocppmiaagreat", sum := "111c5f9d4c4f1f9b52df32f3f237084d554335e7535f0fd329d917424c4c991d", func := "noria/norialaw24.StreamKeeps", spec := "streamKeeps", unfollowed := true, recurses := true, loops := true, apart := false }
def StreamKeepsSaid : Prop := streamKeepsRow.holds Tryz.pinned (OpenSpec.ofChange streamKeepsSpec)

/-- ITS FALSE NEIGHBOUR: 'it returns false'. Refute it at one input. -/
def streamKeepsWrong : ChangeSpec := { name := "streamKeeps", fn := fun _ => fun
  | [d1, d2] => { results := [.lit (.bool false)], args := [d1, d2] }
  | _ => none }
def StreamKeepsWrongFalsely : Prop := streamKeepsRow.holds Tryz.pinned (OpenSpec.ofChange streamKeepsWrong)

/- THE SECOND FORM. 'bulk': how many values and letters a reading holds, each counted each time it is reached (what is shared counts as often as it is met; a slice's spare places count too). A statement '..UptoSaid' is the law's where the arguments, and the package variables that the reading takes, are together of bulk at most 1048576: NARROWER than '..Said'. Prove '..Said' where nothing that the law and all that it calls make is longer than what came in: it says more and counts as full. Else prove '..UptoSaid'. A law counts once. -/
mutual
def uptoBulk {H : Type} : DataW H → Nat
  | .lit (.string bytes) => bytes.length + 1
  | .lit _ => 1
  | .nil => 1
  | .ptr d => uptoBulk d + 1
  | .slice elems spare => uptoBulkAll elems + uptoBulkAll spare + 1
  | .agg parts => uptoBulkAll parts + 1
  | .iface _ d => uptoBulk d + 1
  | .map entries => uptoBulkEntries entries + 1
  | .held _ => 1
def uptoBulkAll {H : Type} : List (DataW H) → Nat
  | [] => 0
  | d :: r => uptoBulk d + uptoBulkAll r
def uptoBulkEntries {H : Type} : List (Lit × DataW H) → Nat
  | [] => 0
  | x :: r => uptoBulkEntry x + uptoBulkEntries r
def uptoBulkEntry {H : Type} : Lit × DataW H → Nat
  | (.string bytes, d) => bytes.length + uptoBulk d + 1
  | (_, d) => uptoBulk d + 1
 end
def uptoSmall : (H : Type) → List (DataW H) → Bool := fun _ ds => decide (uptoBulkAll ds ≤ 1048576)
def OpenSpec.upto (s : _root_.Go.ChangeSpec) : _root_.Go.OpenSpec := { _root_.Go.OpenSpec.ofChange s with cond := some uptoSmall }

/-- 'norialaw24.StreamSteps', WHERE WHAT IT READS IS OF BULK AT MOST 1048576: true; the input reads as it did. -/
def streamStepsUptoRow : OpenClaim := { program := "ytcokmopocppmiaagreat", sum := "111c5f9d4c4f1f9b52df32f3f237084d554335e7535f0fd329d917424c4c991d", func := "noria/norialaw24.StreamSteps", spec := "streamSteps", unfollowed := true, recurses := true, loops := true, apart := false, narrowed := true }
def StreamStepsUptoSaid : Prop := streamStepsUptoRow.holds Tryz.pinned (OpenSpec.upto streamStepsSpec)

/-- 'norialaw24.StreamRuns', WHERE WHAT IT READS IS OF BULK AT MOST 1048576: true; the input reads as it did. -/
def streamRunsUptoRow : OpenClaim := { program := "ytcokmopocppmiaagreat", sum := "111c5f9d4c4f1f9b52df32f3f237084d554335e7535f0fd329d917424c4c991d", func := "noria/norialaw24.StreamRuns", spec := "streamRuns", unfollowed := true, recurses := true, loops := true, apart := false, narrowed := true }
def StreamRunsUptoSaid : Prop := streamRunsUptoRow.holds Tryz.pinned (OpenSpec.upto streamRunsSpec)

/-- 'norialaw24.StreamKeeps', WHERE WHAT IT READS IS OF BULK AT MOST 1048576: true; the input reads as it did. -/
def streamKeepsUptoRow : OpenClaim := { program := "ytcokmopocppmiaagreat", sum := "111c5f9d4c4f1f9b52df32f3f237084d554335e7535f0fd329d917424c4c991d", func := "noria/norialaw24.StreamKeeps", spec := "streamKeeps", unfollowed := true, recurses := true, loops := true, apart := false, narrowed := true }
def StreamKeepsUptoSaid : Prop := streamKeepsUptoRow.holds Tryz.pinned (OpenSpec.upto streamKeepsSpec)

end Rows
end Go.Proofs.YtcokmopocppmiaaGreat
