/- SlotActs. -/
import Derived.Test.YtfjddinibppmdaaSlN
set_option linter.all false
set_option maxRecDepth 20000
namespace Go.Proofs.Ytfjddinibppmdaa
open Go.Nk

structure okW (a : As) : Prop where
  k : okA a
  fh : fewF a.h.x = true
  fo : fewF a.o.x = true
theorem few_Z : fewF imgZ = true := by decide
theorem okV_z : okV vnZ := ⟨by decide, by decide⟩
theorem okV_of {x : Img} {l : List Int} {b : Bool} (h : fewF x = true) (hl : l.length ≤ 1200) : okV ⟨b, x, l⟩ := ⟨(few_E h).2.2.2.1, hl⟩
theorem okW_act {a : As} (h : okW a) {x : Img} (hx : fewF x = true) {v : List Int} (hv : v.length ≤ 1200) (d : Int) : okW (actA a x v d) := by
  unfold actA
  split
  · unfold loadA; split
    · exact ⟨⟨okV_of hx hv, okV_z, fun e => by cases e⟩, hx, few_Z⟩
    · exact h
  split
  · unfold keepA; split
    · exact ⟨⟨okV_of h.fh hv, h.k.o, fun _ => rfl⟩, h.fh, h.fo⟩
    · exact h
  split
  · unfold stageA; split
    · rename_i t
      exact ⟨⟨h.k.h, okV_of hx (by decide), fun _ => t⟩, h.fh, hx⟩
    · exact h
  split
  · unfold writeA; split
    · rename_i t
      simp only [wrOk, Bool.and_eq_true, decide_eq_true_eq, missF] at t
      have b := sumC_bd a.o.x.slots h.k.o.1
      obtain ⟨_, t⟩ := t
      have t2 : (v.length : Int) ≤ sumC a.o.x.slots - (a.o.st.length : Int) := of_decide_eq_true t
      exact ⟨⟨h.k.h, ⟨h.k.o.1, by show (a.o.st ++ v).length ≤ 1200; rw [List.length_append]; omega⟩, h.k.ho⟩, h.fh, h.fo⟩
    · exact h
  split
  · unfold commitA; split
    · rename_i t
      simp only [cmOk, Bool.and_eq_true] at t
      exact ⟨⟨h.k.o, h.k.h, fun _ => t.1⟩, h.fo, h.fh⟩
    · exact h
  · exact ⟨⟨h.k.h, okV_z, fun e => by cases e⟩, h.fh, few_Z⟩
theorem imgAt_few {l : List Img} (h : ∀ x ∈ l, fewF x = true) (i : Int) : fewF (imgAt l i) = true := by
  unfold imgAt
  split
  · exact few_Z
  · cases e : l[i.toNat]? with
    | none => exact few_Z
    | some x => exact h x (List.mem_of_getElem? e)
theorem reads_Act : Reads (.struct [.int .i64, .int .i64, .slice (.int .i64)]) cAct (fun _ => True) :=
  Reads.as (Reads.struct (Reads.cons Reads.int (Reads.cons Reads.int (Reads.cons reads_Is Reads.nil)))) (fun x => ⟨x.1, x.2.1, x.2.2.1⟩) (fun _ => rfl) (fun _ _ => trivial)
theorem reads_Acts : Reads (.slice (.struct [.int .i64, .int .i64, .slice (.int .i64)])) (fun l : List Act => [.sl (l.map cAct)]) (fun _ => True) :=
  Reads.as (Reads.slice reads_Act) (fun l => l) (fun _ => rfl) (fun _ _ => trivial)
theorem reads_Imgs : Reads (.slice shImg) (fun l : List Img => [.sl (l.map cImg)]) (fun l => ∀ x ∈ l, okLen x) :=
  Reads.as (Reads.slice reads_Img) (fun l => l) (fun _ => rfl) (fun _ h => h.2)
end Go.Proofs.Ytfjddinibppmdaa
