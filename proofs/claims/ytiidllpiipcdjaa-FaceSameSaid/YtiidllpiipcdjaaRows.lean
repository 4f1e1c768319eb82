/-
  No cell of these rows narrows 'for every input' (looked for: loops, veiled, ifaces, maps, wideKeys, modest, calm, conditions, laid).
  DERIVED. THE GIVEN ROWS OF THIS SEAT. 4 by the template 'for every input the law returns true; each argument reads behind the call as it read before'; 0 by the template 'total and deterministic' (their statements: YtiidllpiipcdjaaTotals.lean).
  GIVEN WITH THE SEED: the statements are not yours to turn. If you find one false, say at which input.
  Laid BY PROGRAM, IN A SANDBOX (cutbox-rows.mjs): the forced cells as the released guide's own fill.sh prints them over the translation ebb1e29e6da9ae1c… (all of the seat's roots in one cut). By AI agents, Wed Nov 11 2026. No macro, syntax, notation, axiom, sorry.
-/
import Derived.Test.YtiidllpiipcdjaaChecked
import GoSem.Claim
import GoSem.ClaimJoined
import GoSem.ClaimMapViews
import Derived.JoinedTies
import Derived.KernelRfl
namespace Go.Proofs.Ytiidllpiipcdjaa
/- THE CELL 'sum', in the pinned program and in every row, IS THE sha256 OF THE DUMP (.gsa) THAT YtiidllpiipcdjaaProg.lean LOADS. Nothing in Lean hashes anything: it is a label: what it is worth is what the hold of that sum in a sandbox is worth. -/
noncomputable def Try.pinned : Pinned := { name := "ytiidllpiipcdjaa", sum := "ebb1e29e6da9ae1c12292c1dfe73fe73c3e9dc6ccc95f15e74141b3800e7b407", checked := Try.checked }
namespace Rows
def none {H : Type} : Left H := { results := [], args := [] }

/-- 'norialaw36.FaceThirds': WHATEVER THE INPUT: true; the input reads as it did. -/
def faceThirdsSpec : ChangeSpec := { name := "faceThirds", fn := fun _ => fun
  | [d] => { results := [.lit (.bool true)], args := [d] }
  | _ => none }
def faceThirdsRow : OpenClaim := { program := "ytiidllpiipcdjaa", sum := "ebb1e29e6da9ae1c12292c1dfe73fe73c3e9dc6ccc95f15e74141b3800e7b407", func := "noria/norialaw36.FaceThirds", spec := "faceThirds", unfollowed := true, recurses := true, apart := false }
def FaceThirdsSaid : Prop := faceThirdsRow.holds Try.pinned (OpenSpec.ofChange faceThirdsSpec)

/-- ITS FALSE NEIGHBOUR: 'it returns false'. Refute it at one input. -/
def faceThirdsWrong : ChangeSpec := { name := "faceThirds", fn := fun _ => fun
  | [d] => { results := [.lit (.bool false)], args := [d] }
  | _ => none }
def FaceThirdsWrongFalsely : Prop := faceThirdsRow.holds Try.pinned (OpenSpec.ofChange faceThirdsWrong)

/-- 'norialaw36.FaceSame': WHATEVER THE INPUT: true; the input reads as it did. -/
def faceSameSpec : ChangeSpec := { name := "faceSame", fn := fun _ => fun
  | [d1, d2] => { results := [.lit (.bool true)], args := [d1, d2] }
  | _ => none }
def faceSameRow : OpenClaim := { program := "ytiidllpiipcdjaa", sum := "ebb1e29e6da9ae1c12292c1dfe73fe73c3e9dc6ccc95f15e74141b3800e7b407", func := "noria/norialaw36.FaceSame", spec := "faceSame", unfollowed := true, recurses := true, apart := false }
def FaceSameSaid : Prop := faceSameRow.holds Try.pinned (OpenSpec.ofChange faceSameSpec)

/-- ITS FALSE NEIGHBOUR: 'it returns false'. Refute it at one input. -/
def faceSameWrong : ChangeSpec := { name := "faceSame", fn := fun _ => fun
  | [d1, d2] => { results := [.lit (.bool false)], args := [d1, d2] }
  | _ => none }
def FaceSameWrongFalsely : Prop := faceSameRow.holds Try.pinned (OpenSpec.ofChange faceSameWrong)

/-- 'norialaw36.FaceLays': WHATEVER THE INPUT: true; the input reads as it did. -/
def faceLaysSpec : ChangeSpec := { name := "faceLays", fn := fun _ => fun
  | [d1, d2, d3] => { results := [.lit (.bool true)], args := [d1, d2, d3] }
  | _ => none }
def faceLaysRow : OpenClaim := { program := "ytiidllpiipcdjaa", sum := "ebb1e29e6da9ae1c12292c1dfe73fe73c3e9dc6ccc95f15e74141b3800e7b407", func := "noria/norialaw36.FaceLays", spec := "faceLays", unfollowed := true, recurses := true, apart := false }
def FaceLaysSaid : Prop := faceLaysRow.holds Try.pinned (OpenSpec.ofChange faceLaysSpec)

/-- ITS FALSE NEIGHBOUR: 'it returns false'. Refute it at one input. -/
def faceLaysWrong : ChangeSpec := { name := "faceLays", fn := fun _ => fun
  | [d1, d2, d3] => { results := [.lit (.bool false)], args := [d1, d2, d3] }
  | _ => none }
def FaceLaysWrongFalsely : Prop := faceLaysRow.holds Try.pinned (OpenSpec.ofChange faceLaysWrong)

/-- 'norialaw36.FaceTells': WHATEVER THE INPUT: true; the input reads as it did. -/
def faceTellsSpec : ChangeSpec := { name := "faceTells", fn := fun _ => fun
  | [d1, d2] => { results := [.lit (.bool true)], args := [d1, d2] }
  | _ => none }
def faceTellsRow : OpenClaim := { program := "ytiidllpiipcdjaa", sum := "ebb1e29e6da9ae1c12292c1dfe73fe73c3e9dc6ccc95f15e74141b3800e7b407", func := "noria/norialaw36.FaceTells", spec := "faceTells", unfollowed := true, recurses := true, apart := false }
def FaceTellsSaid : Prop := faceTellsRow.holds Try.pinned (OpenSpec.ofChange faceTellsSpec)

/-- ITS FALSE NEIGHBOUR: 'it returns false'. Refute it at one input. -/
def faceTellsWrong : ChangeSpec := { name := "faceTells", fn := fun _ => fun
  | [d1, d2] => { results := [.lit (.bool false)], args := [d1, d2] }
  | _ => none }
def FaceTellsWrongFalsely : Prop := faceTellsRow.holds Try.pinned (OpenSpec.ofChange faceTellsWrong)

/- THE SECOND FORM. 'bulk': how many values and letters a reading holds, each counted each time it is reached (what is shared counts as often as it is met; a slice's spare places count too). A statement '..UptoSaid' is the law's where the arguments, and the package variables that the reading takes, are together of bulk at most 1048576: NARROWER than '..Said'. Prove '..Said' where nothing that the law and all that it calls make is longer than what came in: it says more and counts as full. Else prove '..UptoSaid'. A law counts once. -/
mutual
def uptoBulk {H : Type} : DataW H → Nat
  | .lit (.string bytes) => bytes.length + 1
  | .lit _ => 1
  | .nil => 1
  | .ptr d => uptoBulk d + 1
  | .slice elems spare => uptoBulkAll elems + uptoBulkAll spare + 1
  | .agg parts => uptoBulkAll parts + 1
  | .iface _ d => uptoBulk d + 1
  | .map entries => uptoBulkEntries entries + 1
  | .held _ => 1
def uptoBulkAll {H : Type} : List (DataW H) → Nat
  | [] => 0
  | d :: r => uptoBulk d + uptoBulkAll r
def uptoBulkEntries {H : Type} : List (Lit × DataW H) → Nat
  | [] => 0
  | x :: r => uptoBulkEntry x + uptoBulkEntries r
def uptoBulkEntry {H : Type} : Lit × DataW H → Nat
  | (.string bytes, d) => bytes.length + uptoBulk d + 1
  | (_, d) => uptoBulk d + 1
 end
def uptoSmall : (H : Type) → List (DataW H) → Bool := fun _ ds => decide (uptoBulkAll ds ≤ 1048576)
def OpenSpec.upto (s : _root_.Go.ChangeSpec) : _root_.Go.OpenSpec := { _root_.Go.OpenSpec.ofChange s with cond := some uptoSmall }

/-- 'norialaw36.FaceThirds', WHERE WHAT IT READS IS OF BULK AT MOST 1048576: true; the input reads as it did. -/
def faceThirdsUptoRow : OpenClaim := { program := "ytiidllpiipcdjaa", sum := "ebb1e29e6da9ae1c12292c1dfe73fe73c3e9dc6ccc95f15e74141b3800e7b407", func := "noria/norialaw36.FaceThirds", spec := "faceThirds", unfollowed := true, recurses := true, apart := false, narrowed := true }
def FaceThirdsUptoSaid : Prop := faceThirdsUptoRow.holds Try.pinned (OpenSpec.upto faceThirdsSpec)

/-- 'norialaw36.FaceSame', WHERE WHAT IT READS IS OF BULK AT MOST 1048576: true; the input reads as it did. -/
def faceSameUptoRow : OpenClaim := { program := "ytiidllpiipcdjaa", sum := "ebb1e29e6da9ae1c12292c1dfe73fe73c3e9dc6ccc95f15e74141b3800e7b407", func := "noria/norialaw36.FaceSame", spec := "faceSame", unfollowed := true, recurses := true, apart := false, narrowed := true }
def FaceSameUptoSaid : Prop := faceSameUptoRow.holds Try.pinned (OpenSpec.upto faceSameSpec)

/-- 'norialaw36.FaceLays', WHERE WHAT IT READS IS OF BULK AT MOST 1048576: true; the input reads as it did. -/
def faceLaysUptoRow : OpenClaim := { program := "ytiidllpiipcdjaa", sum := "ebb1e29e6da9ae1c12292c1dfe73fe73c3e9dc6ccc95f15e74141b3800e7b407", func := "noria/norialaw36.FaceLays", spec := "faceLays", unfollowed := true, recurses := true, apart := false, narrowed := true }
def FaceLaysUptoSaid : Prop := faceLaysUptoRow.holds Try.pinned (OpenSpec.upto faceLaysSpec)

/-- 'norialaw36.FaceTells', WHERE WHAT IT READS IS OF BULK AT MOST 1048576: true; the input reads as it did. -/
def faceTellsUptoRow : OpenClaim := { program := "ytiidllpiipcdjaa", sum := "ebb1e29e6da9ae1c12292c1dfe73fe73c3e9dc6ccc95f15e74141b3800e7b407", func := "noria/norialaw36.FaceTells", spec := "faceTells", unfollowed := true, recurses := true, apart := false, narrowed := true }
def FaceTellsUptoSaid : Prop := faceTellsUptoRow.holds Try.pinned (OpenSpec.upto faceTellsSpec)

end Rows
end Go.Proofs.Ytiidllpiipcdjaa
