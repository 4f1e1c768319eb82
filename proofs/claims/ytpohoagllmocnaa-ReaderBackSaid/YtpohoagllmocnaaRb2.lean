/- ReaderBack's heap while it writes. -/
import Derived.Test.YtpohoagllmocnaaRbLaw2
set_option linter.unusedSimpArgs false
set_option linter.unusedVariables false
set_option maxRecDepth 20000
namespace Go.Proofs.Ytpohoagllmocnaa
open Go.Nk

/-- The writer, its bytes (j: what they were when it failed), and what else. -/
def hV (s : WS) (j : List UInt8) (t : List DObj) : List DObj := match s with
  | some b => ⟨.loc, 2, [[.own 1 b.length 0 b.length, .bool true]]⟩ :: ⟨.imm, 1, bsl b⟩ :: t
  | none => ⟨.loc, 2, [[.nil, .bool false]]⟩ :: ⟨.imm, 1, bsl j⟩ :: t
/-- After a piece. -/
def jV (s : WS) (j : List UInt8) : List UInt8 := match s with
  | some b => b
  | none => j
theorem hV_len (s : WS) (j : List UInt8) (t : List DObj) : (hV s j t).length = t.length + 2 := by cases s <;> rfl
theorem hV_app (s : WS) (j : List UInt8) (t u : List DObj) : hV s j t ++ u = hV s j (t ++ u) := by cases s <;> rfl
theorem hV_set (s : WS) (j : List UInt8) (a c : DObj) : (hV s j [a]).set 2 c = hV s j [c] := by cases s <;> rfl
theorem hV_get (s : WS) (j : List UInt8) (a : DObj) : (hV s j [a])[2]? = some a := by cases s <;> rfl
theorem hV_cut (s : WS) (j : List UInt8) (t : List DObj) : ((hV s j t).take 2).map (DObj.cut 2) = hV s j [] := by cases s <;> simp only [hV, List.take_succ_cons, List.take_zero, List.map_cons, List.map_nil, cut_some, cut_none, List.map_cons, List.map_nil, get_cons, Nk.get_nil, Nat.reduceEqDiff, ↓reduceIte, Nat.succ_ne_self, DV.cut, DV.inB, DObj.cut, List.take_nil, List.take_zero, if_true, Nat.zero_ne_one, Nat.one_ne_zero, DV.inBL, Bool.and_true, Bool.true_and, reduceCtorEq, Nat.zero_lt_one, decide_true, decide_false, Nat.reduceLT, List.take_succ_cons]
theorem hV_isW (b j : List UInt8) (t : List DObj) : isW true (hV (some b) j t) 0 1 (some b) := ⟨rfl, rfl, by decide⟩
theorem hV_isB (j : List UInt8) (t : List DObj) : isW true (hV none j t) 0 0 none := rfl
theorem hV_setW (b j : List UInt8) (s : WS) (t : List DObj) : setW true (hV (some b) j t) 0 1 s = hV s b t := by cases s <;> rfl

theorem one_Num (s : WS) (j : List UInt8) (t : List DObj) (k z : Int) : ∃ p : Prop, (((jV s j).length + 4 ≤ 4294967296 ∧ k < 9223372036854775808) → p) ∧ s_wNum [.ptr 0 1 0 0, .int .i64 k, .int .i64 z] (hV s j t) = ⟨p, .tup [], hV (s.bind fun b => wNum b k z) (jV s j) t⟩ := by
  cases s with
  | some b => exact ⟨_, id, (s_wNum_at (hV_isW b j t) k z).trans (by rw [hV_setW]; rfl)⟩
  | none => exact ⟨_, fun _ => trivial, s_wNum_bad (hV_isB j t) k z⟩
theorem one_Int (s : WS) (j : List UInt8) (t : List DObj) (x : Int) : ∃ p : Prop, (((jV s j).length + 20 ≤ 4294967296 ∧ -9223372036854775808 ≤ x ∧ x < 9223372036854775808) → p) ∧ s_wInt [.ptr 0 1 0 0, .int .i64 x] (hV s j t) = ⟨p, .tup [], hV (s.bind fun b => wLen b (intF x) 1) (jV s j) t⟩ := by
  cases s with
  | some b => exact ⟨_, id, (s_wInt_at (hV_isW b j t) x).trans (by rw [hV_setW]; rfl)⟩
  | none => exact ⟨_, fun h => h.2, s_wInt_bad (hV_isB j t) x⟩
theorem one_Text (s : WS) (j : List UInt8) (t : List DObj) (c : List UInt8) : ∃ p : Prop, (((jV s j).length + c.length + 20 ≤ 4294967296) → p) ∧ s_wText [.ptr 0 1 0 0, .str c] (hV s j t) = ⟨p, .tup [], hV (s.bind fun b => wLen b c 2) (jV s j) t⟩ := by
  cases s with
  | some b => exact ⟨_, id, (s_wText_at (hV_isW b j t) c).trans (by rw [hV_setW]; rfl)⟩
  | none => exact ⟨_, fun h => by omega, s_wText_bad (hV_isB j t) c⟩
theorem one_Part (s : WS) (j : List UInt8) (t : List DObj) (c : List UInt8) : ∃ p : Prop, (((jV s j).length + c.length + 20 ≤ 4294967296) → p) ∧ s_wPart [.ptr 0 1 0 0, .sl (bsl c)] (hV s j t) = ⟨p, .tup [], hV (s.bind fun b => wLen b c 4) (jV s j) t⟩ := by
  cases s with
  | some b => exact ⟨_, id, (s_wPart_at (hV_isW b j t) c).trans (by rw [hV_setW]; rfl)⟩
  | none => exact ⟨_, fun h => by omega, s_wPart_bad (hV_isB j t) c⟩
end Go.Proofs.Ytpohoagllmocnaa
