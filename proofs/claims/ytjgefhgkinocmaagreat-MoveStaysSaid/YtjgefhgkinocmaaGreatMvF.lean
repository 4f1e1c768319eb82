/- MoveDoes. -/
import Derived.Test.YtjgefhgkinocmaaGreatMvE
set_option linter.all false
set_option maxRecDepth 20000
namespace Go.Proofs.YtjgefhgkinocmaaGreat
open Go.Nk
noncomputable def s_numM : List DV → Prop × DV := spec1 eI fun n => (True, .int .i64 n)
theorem s_numM_at (n : Int) : s_numM [.int .i64 n] = (True, .int .i64 n) := spec1_at inj_I _ n
theorem ok_norialaw41_num : OkP Tryz.prog 9 s_numM := by
  refine OkP.mk1 (ps := []) (hs := []) trivial trivial m_norialaw41_num fun n _ => ?_
  (have hcondQ := Bool.and_self; refine Todo.of ?_); (repeat' (first | ((with_reducible refine Todo.to ?_); (repeat (simp only [↓rP, rT, eI, dvalX, dval, retV, DR.val, fzT, fzV, fz1, DV.immB, ↓reduceIte, reduceCtorEq, d_norialaw41_num ])))))
noncomputable def s_liveM : List DV → Prop × DV := spec0 (True, .bool true)
theorem s_liveM_at : s_liveM [] = (True, .bool true) := spec0_at _
def pEx : Pln := ⟨1, 0, 2, 1, [], []⟩
theorem ok_norialaw41_live : OkP Tryz.prog 7 s_liveM := by
  refine OkP.mk0 (ps := [(20, s_mOne), (9, s_numM), (12, s_ValsM)]) (hs := []) ⟨ok_move_One, ok_norialaw41_num, ok_Vals, trivial⟩ trivial m_norialaw41_live fun _ => ?_
  have e := s_mOne_at pEx [7, 8, 9] 0
  have h : okP1 pEx [7, 8, 9] 0 := ⟨by decide, by decide, by decide, by decide, by intro x hx; simp at hx; rcases hx with rfl | rfl | rfl <;> exact ⟨by omega, by omega⟩, by intro i hi; cases hi⟩
  rw [eq_true h] at e
  have ea : aloneF pEx [7, 8, 9] 0 = ⟨[8, 9], 0, 0⟩ := rfl
  rw [ea] at e
  have e2 : il [7, 8, 9] = [[.int .i64 7], [.int .i64 8], [.int .i64 9]] := rfl
  have e3 : il [8, 9] = [[.int .i64 8], [.int .i64 9]] := rfl
  have ev := s_ValsM_at [8, 9] [8, 9]
  simp only [pEx, List.map_nil, cTold, cPln, il, List.map_cons] at e ev
  (have hcondQ := Bool.and_self; refine Todo.of ?_); (repeat' (first | ((with_reducible refine Todo.to ?_); (repeat (simp only [↓rP, rT, rU, buildCells, dvalX, dval, dBin, dInt, retV, DR.val, fzT, fzVs, fzV, fz1, DV.immB, dCallP, viewVs, viewV, view1, viewL, noMemV, noMem, fzLL, fzL, bRow, bU, cellsOf, setFrom, DV.isU, Nat.reduceEqDiff, Nat.reduceAdd, ↓reduceIte, reduceCtorEq, Nat.reduceLeDiff, Nat.reduceLT, forall_const, d_norialaw41_live, s_numM_at, e, ev, hcondQ])))))
end Go.Proofs.YtjgefhgkinocmaaGreat
