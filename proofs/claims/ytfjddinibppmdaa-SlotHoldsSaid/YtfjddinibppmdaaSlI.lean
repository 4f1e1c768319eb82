/- The page's example. -/
import Derived.Test.YtfjddinibppmdaaSlH
set_option linter.all false
set_option maxRecDepth 20000
namespace Go.Proofs.Ytfjddinibppmdaa
open Go.Nk

def xL : Img := ⟨[], [], [], [⟨[97], ⟨1, 0, 0⟩, 0, []⟩], [], []⟩
@[reducible] def cX : List DV := [.sl [], .sl [], .sl [], .sl [[.str [97], .int .i64 1, .int .i64 0, .int .i64 0, .int .i64 0, .sl []]], .sl [], .sl []]
theorem cX_is : cImg xL = cX := rfl
theorem qZ_as : qZ.as = ⟨vnZ, vnZ, 0⟩ := rfl
theorem xL_ok : okXL xL [1] := ⟨by decide, by decide⟩
theorem okV_L {l : List Int} (h : l.length ≤ 1200) : okV ⟨true, xL, l⟩ := ⟨by show 1 ≤ 150; decide, h⟩
noncomputable def s_liveS : List DV → Prop × DV := spec0 (True, .bool true)
theorem s_liveS_at : s_liveS [] = (True, .bool true) := spec0_at _
theorem loc_get {hp hp' : List DObj} {n : Nat} {q' : Qs} (h : Stp hp n hp' q') {i z : Nat} {es : List (List DV)} (hi : i ≠ n) (e : hp[i]? = some ⟨.loc, z, es⟩) : hp'[i]? = some ⟨.loc, z, es⟩ := h.k i _ hi e rfl
set_option maxHeartbeats 1000000 in
theorem ok_norialaw42_live : OkP Try.prog 7 s_liveS := by
  refine OkP.mk0 (ps := [(17, s_Vals)]) (hs := [(8, s_New), (9, s_Load), (11, s_Stage), (13, s_Write), (14, s_Commit), (10, s_Active), (21, s_Commits)])
    ⟨ok_noriaref01_Vals, trivial⟩ ⟨ok_New, ok_Load, ok_Stage, ok_Write, ok_Commit, ok_Active, ok_Commits, trivial⟩ m_norialaw42_live fun _ => ?_
  have r0 : Rep [⟨.loc, 6, [cImg xL]⟩, oQ true qZ] 1 true qZ := rep_z (hp := [⟨.loc, 6, [cImg xL]⟩]) (t := [])
  have eN : s_New [] [⟨.loc, 6, [cX]⟩] = ⟨True, .ptr 1 1 0 0, [⟨.loc, 6, [cX]⟩, oQ true qZ]⟩ := by rw [s_New_at]; rfl
  have e1 := s_Load_at (x := xL) (l := [1]) r0
  obtain ⟨t1, a1⟩ := load_step r0 xL [1]
  rw [show (if misB xL [1] = true then one ([⟨.loc, 6, [cImg xL]⟩, oQ true qZ] ++ jk xL [1] _) 1 (oQ true (loadQ qZ xL [1] _)) else _) = Sload 1 qZ xL [1] [⟨.loc, 6, [cImg xL]⟩, oQ true qZ] from rfl, eq_true xL_ok, show misB xL [1] = true by decide] at e1
  have g1 := loc_get t1 (i := 0) (by decide) rfl
  rw [qZ_as, show loadA ⟨vnZ, vnZ, 0⟩ xL [1] = ⟨⟨true, xL, [1]⟩, vnZ, 0⟩ by simp [loadA, show misB xL [1] = true by decide]] at a1
  generalize Sload 1 qZ xL [1] [⟨.loc, 6, [cImg xL]⟩, oQ true qZ] = hp1 at e1 t1 g1
  generalize SloadQ qZ xL [1] _ = q1 at t1 a1
  have r1 := t1.r
  clear t1 r0
  have e2 := s_Stage_at (x := xL) r1
  obtain ⟨t2, a2⟩ := stage_step r1 xL
  rw [show (if q1.he.there = true then one (hp1 ++ [oJA xL [] (hp1.length + 1), oSt []]) 1 (oQ true (stageQ q1 xL (hp1.length + 1))) else hp1) = Sstage 1 q1 xL hp1 from rfl, show q1.he = ⟨true, xL, [1]⟩ from congrArg As.h a1] at e2
  have g2 := loc_get t2 (i := 0) (by decide) g1
  rw [a1, show stageA ⟨⟨true, xL, [1]⟩, vnZ, 0⟩ xL = ⟨⟨true, xL, [1]⟩, ⟨true, xL, []⟩, 0⟩ from rfl] at a2
  generalize Sstage 1 q1 xL hp1 = hp2 at e2 t2 g2
  generalize SstageQ q1 xL _ = q2 at t2 a2
  have r2 := t2.r
  clear t2
  have e3 := s_Write_at (l := [2]) r2
  obtain ⟨t3, a3⟩ := write_step r2 [2]
  have o2 : q2.ot = ⟨true, xL, []⟩ := congrArg As.o a2
  rw [show (if (q2.ot.there && decide ((([2] : List Int).length : Int) ≤ missF q2.ot)) = true then one (hp2.set (otH q2) (oSt (q2.ot.st ++ [2]))) 1 (oQ true (writeQ q2 [2])) else hp2) = Swrite 1 q2 [2] hp2 from rfl, o2, eq_true (show (⟨true, xL, []⟩ : Vn).there = true → okV ⟨true, xL, []⟩ ∧ ([2] : List Int).length ≤ 1200 from fun _ => ⟨okV_L (by decide), by decide⟩),
    show ((⟨true, xL, []⟩ : Vn).there && decide ((([2] : List Int).length : Int) ≤ missF ⟨true, xL, []⟩)) = true by decide] at e3
  rw [a2, show writeA ⟨⟨true, xL, [1]⟩, ⟨true, xL, []⟩, 0⟩ [2] = ⟨⟨true, xL, [1]⟩, ⟨true, xL, [2]⟩, 0⟩ by simp [writeA, show wrOk ⟨⟨true, xL, [1]⟩, ⟨true, xL, []⟩, 0⟩ [2] = true by decide, addV]] at a3
  generalize Swrite 1 q2 [2] hp2 = hp3 at e3 t3
  generalize SwriteQ q2 [2] = q3 at t3 a3
  have r3 := t3.r
  clear t3
  have e4 := s_Commit_at r3
  obtain ⟨t4, a4⟩ := commit_step r3
  have o3 : q3.ot = ⟨true, xL, [2]⟩ := congrArg As.o a3
  rw [show (if (q3.ot.there && missF q3.ot == 0) = true then one hp3 1 (oQ true (cmtQ q3)) else hp3) = Scommit 1 q3 hp3 from rfl, o3, eq_true (show (⟨true, xL, [2]⟩ : Vn).there = true → okV ⟨true, xL, [2]⟩ from fun _ => okV_L (by decide)),
    show ((⟨true, xL, [2]⟩ : Vn).there && missF ⟨true, xL, [2]⟩ == 0) = true by decide] at e4
  rw [a3, show commitA ⟨⟨true, xL, [1]⟩, ⟨true, xL, [2]⟩, 0⟩ = ⟨⟨true, xL, [2]⟩, ⟨true, xL, [1]⟩, 1⟩ by simp [commitA, show cmOk ⟨⟨true, xL, [1]⟩, ⟨true, xL, [2]⟩, 0⟩ = true by decide, show IntKind.i64.wrap 1 = 1 by decide]] at a4
  generalize Scommit 1 q3 hp3 = hp4 at e4 t4
  generalize ScommitQ q3 = q4 at t4 a4
  have r4 := t4.r
  clear t4
  have e5 := s_Active_at r4
  have h4 : q4.he = ⟨true, xL, [2]⟩ := congrArg As.h a4
  have o4 : q4.ot = ⟨true, xL, [1]⟩ := congrArg As.o a4
  rw [h4, eq_true (show (⟨true, xL, [2]⟩ : Vn).there = true → (⟨true, xL, [2]⟩ : Vn).st.length ≤ 1200 from fun _ => by decide)] at e5
  have e6 := fun t => s_Commit_at (r4.app (t := t))
  have e7 := fun t => s_Commits_at ((commit_step (r4.app (t := t))).1.r)
  have a7 := fun t => (commit_step (r4.app (t := t))).2
  have e6' : ∀ t, s_Commit [.ptr 1 1 0 0] (hp4 ++ t) = ⟨True, .bool true, Scommit 1 q4 (hp4 ++ t)⟩ := fun t => by
    rw [e6 t, o4, eq_true (show (⟨true, xL, [1]⟩ : Vn).there = true → okV ⟨true, xL, [1]⟩ from fun _ => okV_L (by decide)), show ((⟨true, xL, [1]⟩ : Vn).there && missF ⟨true, xL, [1]⟩ == 0) = true by decide]
    unfold Scommit
    rw [o4, show ((⟨true, xL, [1]⟩ : Vn).there && missF ⟨true, xL, [1]⟩ == 0) = true by decide]
  have a8 : (ScommitQ q4).c = 2 := by
    have := congrArg As.c (a7 [])
    rw [a4, show commitA ⟨⟨true, xL, [2]⟩, ⟨true, xL, [1]⟩, 1⟩ = ⟨⟨true, xL, [1]⟩, ⟨true, xL, [2]⟩, 2⟩ by simp [commitA, show cmOk ⟨⟨true, xL, [2]⟩, ⟨true, xL, [1]⟩, 1⟩ = true by decide, show IntKind.i64.wrap 2 = 2 by decide]] at this
    exact this
  simp only [cmF, if_true, a8] at e7
  have ev := s_Vals_same [2] (by decide)
  have i1 : ils [1] = [[.int .i64 1]] := rfl
  have i2 : ils [2] = [[.int .i64 2]] := rfl
  have n5 : (⟨true, xL, [2]⟩ : Vn).there = true := rfl
  simp only [n5, if_true, acYes, oSt, i1, i2, cX_is, List.length_cons, List.length_nil, Nat.zero_add] at e1 e2 e3 e4 e5 e6' e7 ev g1 g2 eN
  clear e6
  
  (have hcondQ := Bool.and_self; refine Todo.of ?_); (repeat' (first | ((with_reducible refine Todo.to ?_); (repeat (first | (simp only [↓rP, rT, rU, eI, eU, eB, eS, eBs, eL, eA, buildCells, sepsD, sepB, hdl, dvalX, DOp.kind, dval, frameFrom, dBin, dInt, dStr, dBeq, dUn, dLoad, cellsAt, retV, retL, DR.val, fzT, fzVs, fzV, fz1, DV.immB, IntKind.bits, dCallP, viewVs, viewV, view1, capVL, capV, viewL, noMemV, noMem, elemsOf, dAppend, dAppz, dStore, DV.one, alive, freezeAt, fzLL, fzL, bRow, bU, cellsOf, setFrom, DV.isU, lenMax, lenCap, Nat.reduceEqDiff, Nat.reduceAdd, ↓reduceIte, reduceCtorEq, Nat.reduceSub, Int.reduceToNat, Int.reducePow, Nat.reducePow, Int.reduceLE, Int.reduceLT, Nat.reduceLeDiff, Nat.reduceLT, Int.reduceBEq, Int.reduceBNe, Int.reduceEq, Int.reduceNe, Int.reduceAdd, Int.reduceSub, Int.reduceMul, Int.reduceNeg, Int.reduceTDiv, Int.reduceTMod, Int.reduceMod, Int.reduceDiv, Nat.reduceMul, forall_const, implies_true, d_norialaw42_live, eEns, eIls, eImg, ePrt, ePrts, eRows, eSs, eTy, eVn, eY, sls_len, ils_len, ils_rowsT, sls_rowsT, sls_tk0, ils_tk0, eN, e1, e2, e3, e4, e5, e6', e7, ev, g1, g2, get3b, get3c, set3c, List.append_assoc , hcondQ]) | (simp (disch := omega) only [i64_id, u64_id, u8_id, getD_map'])))) | ((with_reducible refine And.intro ?_ ?_); · first | trivial | omega | (simp; done) | (simp; omega)) | ((first | ((with_reducible refine dwp_condI (t := ?_) ?_ (fun hcQ => ?_) (fun hcQ => ?_)); rotate_left; · rfl) | ((with_reducible refine dops_guardI (t := ?_) ?_ (fun hcQ => ?_) (fun hcQ => ?_)); rotate_left; · rfl)) <;> (have hn := hcQ; have hcondQ := hcQ) <;> (try simp only [decide_eq_true_eq, decide_eq_false_iff_not, beq_iff_eq, bne_iff_ne, ne_eq, Bool.and_eq_true, Bool.or_eq_true, Bool.not_eq_true, Bool.not_eq_false, beq_eq_false_iff_ne, bne_eq_false_iff_eq, Bool.not_eq_true', Bool.not_eq_false', Int.ofNat_lt, Int.ofNat_le, Bool.or_eq_false_iff, Bool.and_eq_false_imp, Decidable.not_not, gt_iff_lt, ge_iff_le] at hn) <;> (try (exfalso; omega)) <;> (refine Todo.of ?_)) | (((with_reducible refine dwp_condA ?_ ?_ ?_); · rfl) <;> (refine Todo.of ?_)))) <;> (try (first | (with_reducible rfl) | exact Nat.le_refl _ | exact Int.le_refl _ | assumption | omega))
end Go.Proofs.Ytfjddinibppmdaa
