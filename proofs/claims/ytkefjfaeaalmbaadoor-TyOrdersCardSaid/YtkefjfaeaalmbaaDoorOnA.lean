/- ident.Once, walked: are texts unlike? -/
import Derived.Test.YtkefjfaeaalmbaaDoorProg
import Derived.WalkKit
import Derived.Maps.OwnOps
import Derived.Maps.Views
import Derived.StringKeys
set_option linter.all false
set_option maxRecDepth 20000
namespace Go.Proofs
open Go.RowKit Go.Maps

/-- A map that bears 1 at each of these texts, and nothing else. -/
structure SeenM (D : DataW Unit) (m : List (List UInt8)) : Prop where
  isMap : IsMap D
  at_ : ∀ s z, D.atKey (.string s) z = if s ∈ m then .lit (.int .i64 1) else z
theorem SeenM.none : SeenM (.map []) [] := ⟨isMap_empty, fun s z => by simp [DataW.atKey]⟩
theorem SeenM.put {D : DataW Unit} {m : List (List UInt8)} (h : SeenM D m) (s : List UInt8) : SeenM (D.put (.string s) (.lit (.int .i64 1))) (m ++ [s]) := by
  refine ⟨h.isMap.put _ _, fun t z => ?_⟩
  by_cases e : t = s
  · subst e
    rw [atKey_put_same h.isMap (show WideAt.IsKeyLit (.string t) from trivial)]
    simp
  · rw [atKey_put_other (by simpa using e), h.at_]
    simp [e]
theorem once_law9 : Keyed Tryd.prog 9 := string_keyed Tryd.underlying9
theorem once_zero3 (w : World) : (zeroValue 3).run Tryd.prog w = .ok (.int .i64 0) w := by kernel_rfl

set_option maxHeartbeats 800000 in
set_option maxRecDepth 100000 in
theorem Tryd.once_none (A : Option Addr) (cap : Nat) (w : World) :
    Calls Tryd.prog 31 #[.slice A 0 cap] w fun e w' => e = .returned (.bool true) ∧ Below w.heap.size w w' := by
  have hmm := @run_makeMap Tryd.prog
  go_enter Tryd.func31, Tryd.ntmps31
  go_wp2
  refine wp_loop_rounds 1 ?_
  rw [rounds_succ]
  go_wp2
  go_ret
  exact ⟨rfl, (Below.refl _ _).alloc (Nat.le_refl _) _⟩

set_option maxHeartbeats 1600000 in
set_option maxRecDepth 100000 in
theorem Tryd.once_any (l : List (List UInt8)) (blk off cap : Nat) (w : World) (hblk : blk < w.heap.size) (hlen : l.length ≤ 140737488351232) (hs : ∀ k, k < l.length → (l.getD k []).length ≤ maxLen)
    (hc : ∀ k, k < l.length → w.cell? ⟨blk, off + k, none⟩ = some (.string ⟨(l.getD k []).toArray⟩)) :
    Calls Tryd.prog 31 #[.slice (some ⟨blk, off, none⟩) l.length cap] w fun e w' => e = .returned (.bool (decide l.Nodup)) ∧ Below w.heap.size w w' := by
  have hmm := @run_makeMap Tryd.prog
  go_enter Tryd.func31, Tryd.ntmps31
  go_wp2
  go_loopw [9] (fun i wr => ∃ k : Nat, k ≤ l.length ∧ i = .int .i64 k ∧ (l.take k).Nodup ∧ (∃ D, SeenM D (l.take k) ∧ wr.ownsMap Tryd.prog 9 (plainElem Tryd.prog 3) w.heap.size k D) ∧ Below w.heap.size w wr)
    (fun i _ => l.length - (intOf i).toNat)
  case atStart => exact ⟨0, Nat.zero_le _, rfl, List.nodup_nil, ⟨_, SeenM.none, World.ownsMap_made _ _ _ _⟩, (Below.refl _ _).alloc (Nat.le_refl _) _⟩
  case round =>
    obtain ⟨k, hk, rfl, hnd, ⟨D, hD, hown⟩, hnx⟩ := hrel
    by_cases hlt : k < l.length
    · have hcx := (hnx.cell (p := ⟨blk, off + k, none⟩) hblk).trans (hc k hlt)
      have hkey : keyOf Tryd.prog 9 (.string ⟨(l.getD k []).toArray⟩) = some (.string (l.getD k [])) := WideMaps.keyOf_string_mk Tryd.underlying9 (by simpa [ByteArray.size] using hs k hlt)
      have hd : decide ((k : Int) < (l.length : Int)) = true := by simpa using hlt
      have hat1 := fun z => hD.at_ (l.getD k []) z
      have htk : l.take (k + 1) = l.take k ++ [l.getD k []] := by
        rw [List.take_succ_eq_append_getElem hlt]; simp [hlt]
      generalize hS : l.getD k [] = S at *
      by_cases hm : S ∈ l.take k
      · simp only [if_pos hm] at hat1
        have hc1 : ∀ c, D.atKey (.string S) (.lit (.int .i64 0)) = .lit (.int .i64 c) → c = 1 := fun c h => by rw [hat1] at h; simpa using h.symm
        go_wp2_with (first
          | (at_lookup; refine wpList_lookup_own_int _ rfl _ _ 59 rfl 9 3 .i64 once_law9 Tryd.underlying59 Tryd.underlying3 (once_zero3 _) w.heap.size k _ rfl hown _ _ rfl hkey ?_; intro c hat hwc; obtain rfl := hc1 c hat)
          | go_in)
        go_ret
        refine ⟨?_, hnx⟩
        have : ¬ l.Nodup := fun h => by
          have h2 := (List.take_append_drop (k + 1) l ▸ h).sublist (List.sublist_append_left _ _)
          rw [htk] at h2
          rw [List.nodup_append] at h2
          exact h2.2.2 S hm S (by simp) rfl
        simp [this]
      · simp only [if_neg hm] at hat1
        have hc1 : ∀ c, D.atKey (.string S) (.lit (.int .i64 0)) = .lit (.int .i64 c) → c = 0 := fun c h => by rw [hat1] at h; simpa using h.symm
        go_wp2_with (first
          | (at_lookup; refine wpList_lookup_own_int _ rfl _ _ 59 rfl 9 3 .i64 once_law9 Tryd.underlying59 Tryd.underlying3 (once_zero3 _) w.heap.size k _ rfl hown _ _ rfl hkey ?_; intro c hat hwc; obtain rfl := hc1 c hat)
          | (at_mapUpdate; refine wpList_mapUpdate_own _ rfl _ _ _ 59 rfl 9 3 once_law9 Tryd.underlying59 _ w.heap.size k _ rfl hown (by unfold maxLen; omega) _ _ _ rfl rfl hkey (.lit (.int .i64 1)) [] (plainElem_int Tryd.underlying3 (by decide)) ?_; intro w1 hown1 hgrow1)
          | go_in)
        go_roundw
        case rel => exact ⟨k + 1, by omega, by go_num, by rw [htk, List.nodup_append]; exact ⟨hnd, by simp, fun a ha b hb => by simp at hb; subst hb; exact fun e => hm (e ▸ ha)⟩, ⟨_, by rw [htk]; exact hD.put S, hown1⟩, hnx.grown hgrow1 hnx.size (fun j hj => by cases hj; exact Nat.le_refl _)⟩
        case measure => simp [intOf]; omega
    · have hke : k = l.length := by omega
      have hd : decide ((k : Int) < (l.length : Int)) = false := by simpa using hlt
      go_wp2
      go_ret
      rw [hke, List.take_length] at hnd
      exact ⟨by simp [hnd], hnx⟩
end Go.Proofs
