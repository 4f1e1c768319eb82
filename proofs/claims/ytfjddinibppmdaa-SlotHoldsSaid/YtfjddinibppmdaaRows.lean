/-
  No cell of these rows narrows 'for every input' (looked for: loops, veiled, ifaces, maps, wideKeys, modest, calm, conditions, laid).
  DERIVED. THE GIVEN ROWS OF THIS SEAT. 3 by the template 'for every input the law returns true; each argument reads behind the call as it read before'; 0 by the template 'total and deterministic' (their statements: YtfjddinibppmdaaTotals.lean).
  GIVEN WITH THE SEED: the statements are not yours to turn. If you find one false, say at which input.
  Laid BY PROGRAM, IN A SANDBOX (cutbox-rows.mjs): the forced cells as the released guide's own fill.sh prints them over the translation e9587db56f9d6811… (all of the seat's roots in one cut). By AI agents, Wed Nov 11 2026. No macro, syntax, notation, axiom, sorry.
-/
import Derived.Test.YtfjddinibppmdaaChecked
import GoSem.Claim
import GoSem.ClaimJoined
import GoSem.ClaimMapViews
import Derived.JoinedTies
import Derived.KernelRfl
namespace Go.Proofs.Ytfjddinibppmdaa
/- THE CELL 'sum', in the pinned program and in every row, IS THE sha256 OF THE DUMP (.gsa) THAT YtfjddinibppmdaaProg.lean LOADS. Nothing in Lean hashes anything: it is a label: what it is worth is what the hold of that sum in a sandbox is worth. -/
noncomputable def Try.pinned : Pinned := { name := "ytfjddinibppmdaa", sum := "e9587db56f9d681171395a7a153fb85313728e35ac418b936936fd0842aa82eb", checked := Try.checked }
namespace Rows
def none {H : Type} : Left H := { results := [], args := [] }

/-- 'norialaw42.SlotHolds': WHATEVER THE INPUT: true; the input reads as it did. -/
def slotHoldsSpec : ChangeSpec := { name := "slotHolds", fn := fun _ => fun
  | [d1, d2] => { results := [.lit (.bool true)], args := [d1, d2] }
  | _ => none }
def slotHoldsRow : OpenClaim := { program := "ytfjddinibppmdaa", sum := "e9587db56f9d681171395a7a153fb85313728e35ac418b936936fd0842aa82eb", func := "noria/norialaw42.SlotHolds", spec := "slotHolds", inPlace := ["sync/atomic.LoadInt64", "sync/atomic.StoreInt64", "sync/atomic.AddInt64"], apart := false }
def SlotHoldsSaid : Prop := slotHoldsRow.holds Try.pinned (OpenSpec.ofChange slotHoldsSpec)

/-- ITS FALSE NEIGHBOUR: 'it returns false'. Refute it at one input. -/
def slotHoldsWrong : ChangeSpec := { name := "slotHolds", fn := fun _ => fun
  | [d1, d2] => { results := [.lit (.bool false)], args := [d1, d2] }
  | _ => none }
def SlotHoldsWrongFalsely : Prop := slotHoldsRow.holds Try.pinned (OpenSpec.ofChange slotHoldsWrong)

/-- 'norialaw42.SlotActs': WHATEVER THE INPUT: true; the input reads as it did. -/
def slotActsSpec : ChangeSpec := { name := "slotActs", fn := fun _ => fun
  | [d1, d2] => { results := [.lit (.bool true)], args := [d1, d2] }
  | _ => none }
def slotActsRow : OpenClaim := { program := "ytfjddinibppmdaa", sum := "e9587db56f9d681171395a7a153fb85313728e35ac418b936936fd0842aa82eb", func := "noria/norialaw42.SlotActs", spec := "slotActs", inPlace := ["sync/atomic.LoadInt64", "sync/atomic.StoreInt64", "sync/atomic.AddInt64"], apart := false }
def SlotActsSaid : Prop := slotActsRow.holds Try.pinned (OpenSpec.ofChange slotActsSpec)

/-- ITS FALSE NEIGHBOUR: 'it returns false'. Refute it at one input. -/
def slotActsWrong : ChangeSpec := { name := "slotActs", fn := fun _ => fun
  | [d1, d2] => { results := [.lit (.bool false)], args := [d1, d2] }
  | _ => none }
def SlotActsWrongFalsely : Prop := slotActsRow.holds Try.pinned (OpenSpec.ofChange slotActsWrong)

/-- 'norialaw42.SlotNobody': WHATEVER THE INPUT: true; the input reads as it did. -/
def slotNobodySpec : ChangeSpec := { name := "slotNobody", fn := fun _ => fun
  | [d1, d2] => { results := [.lit (.bool true)], args := [d1, d2] }
  | _ => none }
def slotNobodyRow : OpenClaim := { program := "ytfjddinibppmdaa", sum := "e9587db56f9d681171395a7a153fb85313728e35ac418b936936fd0842aa82eb", func := "noria/norialaw42.SlotNobody", spec := "slotNobody", inPlace := ["sync/atomic.LoadInt64", "sync/atomic.StoreInt64", "sync/atomic.AddInt64"], apart := false }
def SlotNobodySaid : Prop := slotNobodyRow.holds Try.pinned (OpenSpec.ofChange slotNobodySpec)

/-- ITS FALSE NEIGHBOUR: 'it returns false'. Refute it at one input. -/
def slotNobodyWrong : ChangeSpec := { name := "slotNobody", fn := fun _ => fun
  | [d1, d2] => { results := [.lit (.bool false)], args := [d1, d2] }
  | _ => none }
def SlotNobodyWrongFalsely : Prop := slotNobodyRow.holds Try.pinned (OpenSpec.ofChange slotNobodyWrong)

/- THE SECOND FORM. 'bulk': how many values and letters a reading holds, each counted each time it is reached (what is shared counts as often as it is met; a slice's spare places count too). A statement '..UptoSaid' is the law's where the arguments, and the package variables that the reading takes, are together of bulk at most 1048576: NARROWER than '..Said'. Prove '..Said' where nothing that the law and all that it calls make is longer than what came in: it says more and counts as full. Else prove '..UptoSaid'. A law counts once. -/
mutual
def uptoBulk {H : Type} : DataW H → Nat
  | .lit (.string bytes) => bytes.length + 1
  | .lit _ => 1
  | .nil => 1
  | .ptr d => uptoBulk d + 1
  | .slice elems spare => uptoBulkAll elems + uptoBulkAll spare + 1
  | .agg parts => uptoBulkAll parts + 1
  | .iface _ d => uptoBulk d + 1
  | .map entries => uptoBulkEntries entries + 1
  | .held _ => 1
def uptoBulkAll {H : Type} : List (DataW H) → Nat
  | [] => 0
  | d :: r => uptoBulk d + uptoBulkAll r
def uptoBulkEntries {H : Type} : List (Lit × DataW H) → Nat
  | [] => 0
  | x :: r => uptoBulkEntry x + uptoBulkEntries r
def uptoBulkEntry {H : Type} : Lit × DataW H → Nat
  | (.string bytes, d) => bytes.length + uptoBulk d + 1
  | (_, d) => uptoBulk d + 1
 end
def uptoSmall : (H : Type) → List (DataW H) → Bool := fun _ ds => decide (uptoBulkAll ds ≤ 1048576)
def OpenSpec.upto (s : _root_.Go.ChangeSpec) : _root_.Go.OpenSpec := { _root_.Go.OpenSpec.ofChange s with cond := some uptoSmall }

/-- 'norialaw42.SlotHolds', WHERE WHAT IT READS IS OF BULK AT MOST 1048576: true; the input reads as it did. -/
def slotHoldsUptoRow : OpenClaim := { program := "ytfjddinibppmdaa", sum := "e9587db56f9d681171395a7a153fb85313728e35ac418b936936fd0842aa82eb", func := "noria/norialaw42.SlotHolds", spec := "slotHolds", inPlace := ["sync/atomic.LoadInt64", "sync/atomic.StoreInt64", "sync/atomic.AddInt64"], apart := false, narrowed := true }
def SlotHoldsUptoSaid : Prop := slotHoldsUptoRow.holds Try.pinned (OpenSpec.upto slotHoldsSpec)

/-- 'norialaw42.SlotActs', WHERE WHAT IT READS IS OF BULK AT MOST 1048576: true; the input reads as it did. -/
def slotActsUptoRow : OpenClaim := { program := "ytfjddinibppmdaa", sum := "e9587db56f9d681171395a7a153fb85313728e35ac418b936936fd0842aa82eb", func := "noria/norialaw42.SlotActs", spec := "slotActs", inPlace := ["sync/atomic.LoadInt64", "sync/atomic.StoreInt64", "sync/atomic.AddInt64"], apart := false, narrowed := true }
def SlotActsUptoSaid : Prop := slotActsUptoRow.holds Try.pinned (OpenSpec.upto slotActsSpec)

/-- 'norialaw42.SlotNobody', WHERE WHAT IT READS IS OF BULK AT MOST 1048576: true; the input reads as it did. -/
def slotNobodyUptoRow : OpenClaim := { program := "ytfjddinibppmdaa", sum := "e9587db56f9d681171395a7a153fb85313728e35ac418b936936fd0842aa82eb", func := "noria/norialaw42.SlotNobody", spec := "slotNobody", inPlace := ["sync/atomic.LoadInt64", "sync/atomic.StoreInt64", "sync/atomic.AddInt64"], apart := false, narrowed := true }
def SlotNobodyUptoSaid : Prop := slotNobodyUptoRow.holds Try.pinned (OpenSpec.upto slotNobodySpec)

end Rows
end Go.Proofs.Ytfjddinibppmdaa
