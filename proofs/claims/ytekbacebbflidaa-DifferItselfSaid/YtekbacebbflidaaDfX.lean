/- The Builder's text, walked in this program. -/
import Derived.Test.YtekbacebbflidaaDfB
import Derived.Test.YtekbacebbflidaaDfS
import Derived.Deep.RegionHeld3
set_option linter.all false
set_option maxRecDepth 20000
namespace Go.Proofs
open Go.RowKit

theorem builder_kept {T e : TypeId} {B b : Nat} {bs : List Value} {w w' : World} (h : Lib.IsBuilder T e B b bs w) (hb : Below w.heap.size w w') : Lib.IsBuilder T e B b bs w' := by
  have one : ∀ p, Lib.BuilderAt T e B b p bs w → Lib.BuilderAt T e B b p bs w' := by
    intro p hp
    have hlt := hp.lt
    obtain ⟨h1, v, h2, h3, h4⟩ := hp
    refine ⟨h1, v, (hb.block b hlt).trans h2, ⟨h3.1, ?_⟩, h4⟩
    rcases h3.2 with hn | ⟨g, cap, cur, rfl, hg, hgg, rest⟩
    · exact .inl hn
    · refine .inr ⟨g, cap, cur, rfl, hg, (hb.block g ?_).trans hgg, rest⟩
      rcases Nat.lt_or_ge g w.heap.size with h' | h'
      · exact h'
      · simp [Array.getElem?_eq_none h'] at hgg
  exact h.imp (one _) (one _)

theorem builder_drew {T e : TypeId} {B b : Nat} {bs : List Value} {w : World} (h : Lib.IsBuilder T e B b bs w) : Lib.IsBuilder T e B b bs w.drew :=
  h.imp (fun h => h) (fun h => h)

theorem flat_take {α : Type} (f : α → List UInt8) (l : List α) (k : Nat) (h : k < l.length) : (l.take (k + 1)).flatMap f = (l.take k).flatMap f ++ f l[k] := by
  rw [List.take_succ_eq_append_getElem h, List.flatMap_append]
  simp

theorem flat_le {α : Type} (f : α → List UInt8) (l : List α) (k : Nat) : ((l.take k).flatMap f).length ≤ (l.flatMap f).length := by
  conv => rhs; rw [← List.take_append_drop k l, List.flatMap_append, List.length_append]
  omega

theorem new_heap (w : World) (o : Obj) : (w.alloc o).heap[w.heap.size]? = some o := by
  unfold World.alloc
  simp only [Array.getElem?_push_size]

theorem new_cell (w : World) (cs : Array Value) (T : TypeId) (j : Nat) : (w.alloc (.cells cs T)).cell? ⟨w.heap.size, j, none⟩ = cs[j]? := by
  rw [Lib.cell_of_heap (new_heap w _)]

theorem new_size (w : World) (o : Obj) : w.heap.size < (w.alloc o).heap.size := by
  unfold World.alloc
  simp only [Array.size_push]
  omega

set_option maxHeartbeats 2000000 in
set_option maxRecDepth 100000 in
theorem Try.text_walk (sg : Int → List UInt8) (hsg : ∀ (n : Int) (W : World), Calls Try.prog 21 #[.int .i64 n] W fun e w' => e = .returned (.string ⟨(sg n).toArray⟩) ∧ Below W.heap.size W w')
    (l : List (List UInt8 × Int)) (blk off cap : Nat) (w : World) (hblk : blk < w.heap.size) (hlen : l.length ≤ 140737488355328)
    (hc : ∀ k, k < l.length → w.cell? ⟨blk, off + k * 2, none⟩ = some (.string ⟨(l.getD k default).1.toArray⟩) ∧ w.cell? ⟨blk, off + k * 2 + 1, none⟩ = some (.int .i64 (l.getD k default).2))
    (hpos : 0 < l.length)
    (hsum : (l.flatMap fun c => sg c.2 ++ [32] ++ c.1 ++ [10]).length ≤ 140737488355328) :
    Calls Try.prog 11 #[.slice (some ⟨blk, off, none⟩) l.length cap] w fun e w' => e = .returned (.string ⟨(l.flatMap fun c => sg c.2 ++ [32] ++ c.1 ++ [10]).toArray⟩) ∧ Below w.heap.size w w' := by
  have h0 : Lib.IsBuilder 57 5 w.heap.size w.heap.size (Lib.byteCells []) (w.alloc (.cells #[.pointer none, .slice none 0 0] 57)) := Lib.fresh_isBuilder 57 5 w
  have b0 : Below w.heap.size w (w.alloc (.cells #[.pointer none, .slice none 0 0] 57)) := (Below.refl _ w).alloc (Nat.le_refl _) _
  go_enter Try.func11, Try.ntmps11
  go_wp2
  go_loopw [8] (fun i wr => ∃ k : Nat, k ≤ l.length ∧ i = .int .i64 k ∧ Lib.IsBuilder 57 5 w.heap.size w.heap.size (Lib.byteCells ((l.take k).flatMap fun c => sg c.2 ++ [32] ++ c.1 ++ [10])) wr ∧ Below w.heap.size w wr)
    (fun i _ => l.length - (intOf i).toNat)
  case atStart => exact ⟨0, Nat.zero_le _, rfl, h0, b0⟩
  case round =>
    obtain ⟨k, hk, rfl, hI, hB⟩ := hrel
    by_cases hlt : k < l.length
    · have hc0 := (hB.cell (p := ⟨blk, off + k * 2, none⟩) hblk).trans (hc k hlt).1
      have hc1 := (hB.cell (p := ⟨blk, off + k * 2 + 1, none⟩) hblk).trans (hc k hlt).2
      have hd : decide ((k : Int) < (l.length : Int)) = true := by simpa using hlt
      have hsz := hB.size
      have hne : wr.heap.size ≠ w.heap.size := by
        rcases hI with h | h <;> (have := h.lt; omega)
      have hft := flat_take (fun c => sg c.snd ++ [32] ++ c.fst ++ [10]) l k hlt
      have hfl := flat_le (fun c => sg c.snd ++ [32] ++ c.fst ++ [10]) l (k + 1)
      have hpc : ((List.take k l).flatMap (fun c => sg c.snd ++ [32] ++ c.fst ++ [10])).length + ((sg l[k].snd).length + 1 + l[k].fst.length + 1) ≤ 140737488355328 := by
        rw [hft] at hfl
        simp only [List.length_append, List.length_cons, List.length_nil] at hfl
        omega
      have hq1 : ¬ (9223372036854775807 < (sg l[k].snd).length + 1) := by omega
      have hq2 : ¬ (9223372036854775807 < (sg l[k].snd).length + 1 + l[k].fst.length) := by omega
      have hq3 : ¬ (9223372036854775807 < (sg l[k].snd).length + 1 + l[k].fst.length + 1) := by omega
      have HP : Hid (((List.take k l).flatMap (fun c => sg c.snd ++ [32] ++ c.fst ++ [10])).length + ((sg l[k].snd).length + 1 + l[k].fst.length + 1) ≤ 140737488355328) := hpc
      clear hft hfl hpc hc h0 b0
      have hI1 : Lib.IsBuilder 57 5 w.heap.size w.heap.size (Lib.byteCells (List.flatMap (fun c => sg c.snd ++ [32] ++ c.fst ++ [10]) (List.take k l))) (wr.alloc (Obj.cells #[Value.string { data := l[k].fst.toArray }, Value.int IntKind.i64 l[k].snd] 40)) :=
        builder_kept hI ((Below.refl _ wr).alloc (Nat.le_refl _) _)
      have hB1 : Below w.heap.size w (wr.alloc (Obj.cells #[Value.string { data := l[k].fst.toArray }, Value.int IntKind.i64 l[k].snd] 40)) := hB.alloc hsz _
      have hd0 : (wr.alloc (Obj.cells #[Value.string { data := l[k].fst.toArray }, Value.int IntKind.i64 l[k].snd] 40)).cell? ⟨wr.heap.size, 0, none⟩ = some (Value.string { data := l[k].fst.toArray }) := (new_cell wr _ 40 0).trans rfl
      have hd1 : (wr.alloc (Obj.cells #[Value.string { data := l[k].fst.toArray }, Value.int IntKind.i64 l[k].snd] 40)).cell? ⟨wr.heap.size, 1, none⟩ = some (Value.int IntKind.i64 l[k].snd) := (new_cell wr _ 40 1).trans rfl
      have hcl : wr.heap.size < (wr.alloc (Obj.cells #[Value.string { data := l[k].fst.toArray }, Value.int IntKind.i64 l[k].snd] 40)).heap.size := new_size wr _
      have hbl : (wr.alloc (Obj.cells #[Value.string { data := l[k].fst.toArray }, Value.int IntKind.i64 l[k].snd] 40)).heap[wr.heap.size]? = some (.cells #[Value.string { data := l[k].fst.toArray }, Value.int IntKind.i64 l[k].snd] 40 (0, 0)) := new_heap wr _
      go_wp2
      generalize (wr.alloc (Obj.cells #[Value.string { data := l[k].fst.toArray }, Value.int IntKind.i64 l[k].snd] 40)) = W0 at *
      generalize wr.heap.size = cc at *
      clear hI hB hc0 hc1 hsz
      have hI2 := builder_drew hI1
      have hB2 := hB1.drew
      go_region_held3 (fun w' => w'.heap[cc]? = some (.cells #[Value.string { data := l[k].fst.toArray }, Value.int IntKind.i64 l[k].snd] 40 (0, 0)) ∧ w'.cell? ⟨cc, 0, none⟩ = some (Value.string { data := l[k].fst.toArray }) ∧ w'.cell? ⟨cc, 1, none⟩ = some (Value.int IntKind.i64 l[k].snd))
        ((try refine And.intro ?_ (And.intro ?_ ?_)) <;> assumption)
        (first
          | (go_at_call 21; refine (hsg _ _).mono ?_; rintro e w' ⟨rfl, hb'⟩; have hS1 := builder_kept hI2 hb'; have hS2 := hB2.trans (hb'.mono hB2.size); have hS0 := (hb'.block cc hcl).trans hbl; have hS3 := (hb'.cell (p := ⟨cc, 0, none⟩) hcl).trans hd0; have hS4 := (hb'.cell (p := ⟨cc, 1, none⟩) hcl).trans hd1)
          | (go_at_call 20; refine (Try.write_any w.heap.size w.heap.size _ _ _ hS1 (by have hz := HP.out; rw [Lib.byteCells_length]; generalize (List.flatMap _ (List.take k l)).length = N at hz ⊢; simp [ByteArray.size]; omega) (by have := hS2.size; omega)).mono ?_; rintro e w'' ⟨rfl, hN, hBn, hKn⟩; have hT0 := (hKn cc _ 40 hS0 (by decide) hne).trans hS0; have hT1 : w''.cell? ⟨cc, 0, none⟩ = some (Value.string { data := l[k].fst.toArray }) := (Lib.cell_of_heap hT0 0).trans rfl; have hT2 : w''.cell? ⟨cc, 1, none⟩ = some (Value.int IntKind.i64 l[k].snd) := (Lib.cell_of_heap hT0 1).trans rfl))
      have hE : Lib.IsBuilder 57 5 w.heap.size w.heap.size (Lib.byteCells ((l.take (k + 1)).flatMap fun c => sg c.snd ++ [32] ++ c.fst ++ [10])) w'' := by
        rw [flat_take _ l k hlt, Lib.byteCells_append]
        rw [Lib.strCells_eq] at hN
        refine Or.inr ?_
        simpa using hN
      have hBE := hS2.trans hBn
      clear hN hKn hT0 hT1 hT2 hS0 hS3 hS4 hS1 hI1 hI2 hB1 hB2 hd0 hd1 hbl hcl hBn hb' hS2
      go_wp2
      go_roundw
      case rel => exact ⟨k + 1, by omega, by go_num, hE, hBE⟩
      case measure => simp [intOf]; omega
    · have hke : k = l.length := by omega
      have hd : decide ((k : Int) < (l.length : Int)) = false := by simpa using hlt
      have hI1 : Lib.IsBuilder 57 5 w.heap.size w.heap.size (Lib.byteCells (l.flatMap fun c => sg c.snd ++ [32] ++ c.fst ++ [10])) wr := by
        rw [hke, List.take_length] at hI
        exact hI
      clear hI hc h0 b0 hsg
      go_wp2_with (go_at_call 22; refine (Try.Builder_String_any w.heap.size w.heap.size _ _ hI1 hB.size).mono ?_; rintro e w' ⟨rfl, hb'⟩)
      go_ret
      exact ⟨by simp, hB.trans hb'⟩

set_option maxHeartbeats 1000000 in
set_option maxRecDepth 100000 in
theorem Try.text_none (A : Option Addr) (cap : Nat) (w : World) :
    Calls Try.prog 11 #[.slice A 0 cap] w fun e w' => e = .returned (.string ⟨#[]⟩) ∧ Below w.heap.size w w' := by
  have h0 : Lib.IsBuilder 57 5 w.heap.size w.heap.size (Lib.byteCells []) (w.alloc (.cells #[.pointer none, .slice none 0 0] 57)) := Lib.fresh_isBuilder 57 5 w
  have b0 : Below w.heap.size w (w.alloc (.cells #[.pointer none, .slice none 0 0] 57)) := (Below.refl _ w).alloc (Nat.le_refl _) _
  go_enter Try.func11, Try.ntmps11
  go_wp2
  refine wp_loop_rounds 1 ?_
  rw [rounds_succ]
  go_wp2_with (go_at_call 22; refine (Try.Builder_String_any w.heap.size w.heap.size _ _ h0 b0.size).mono ?_; rintro e w' ⟨rfl, hb'⟩)
  go_ret
  exact ⟨by simp, b0.trans hb'⟩
end Go.Proofs
