/- The text of changes. -/
import Derived.Test.YtekbacebbflidaaTyI
import Derived.Test.YtekbacebbflidaaDfX
set_option linter.all false
set_option maxRecDepth 20000
namespace Go.Proofs.Ytekbacebbflidaa
open Go.Nk Go.RowKit

/-- What becomes of a path. -/
structure Chg where
  path : List UInt8
  what : Int
  deriving DecidableEq
@[reducible] def cChg (c : Chg) : List DV := [.str c.path, .int .i64 c.what]
theorem cChg_inj : ∀ x y, cChg x = cChg y → x = y := fun x y h => by
  cases x; cases y
  simp only [cChg, List.cons.injEq, DV.str.injEq, DV.int.injEq, true_and, and_true] at h
  obtain ⟨rfl, rfl⟩ := h
  rfl
instance : Inhabited Chg := ⟨⟨[], 0⟩⟩
abbrev eChgs : List Chg → DV := eL cChg
theorem inj_Chgs : Inj eChgs := inj_L cChg_inj
abbrev eSlt : Slt → DV := eA cSlt
theorem inj_Slt : Inj eSlt := inj_A cSlt_inj

def signF (n : Int) : List UInt8 := if n = 1 then [61] else if n = 2 then [33] else if n = 3 then [43] else if n = 4 then [45] else [63]
theorem signF_len (n : Int) : (signF n).length = 1 := by unfold signF; split <;> (try split) <;> (try split) <;> (try split) <;> rfl
noncomputable def s_sign : List DV → Prop × DV := spec1 eI fun n => (True, .str (signF n))
theorem s_sign_at (n : Int) : s_sign [.int .i64 n] = (True, .str (signF n)) := spec1_at inj_I _ n
theorem ok_differ_sign : OkP Try.prog 21 s_sign := by
  refine OkP.mk1 (ps := []) (hs := []) trivial trivial m_differ_sign fun n _ => ?_
  by_cases h1 : n = 1
  · subst h1; (have hcondQ := Bool.and_self; refine Todo.of ?_); (repeat' (first | ((with_reducible refine Todo.to ?_); (repeat (first | (simp only [↓rP, rT, rU, eI, eU, eB, eS, eBs, eL, eA, buildCells, sepsD, sepB, hdl, dvalX, DOp.kind, dval, frameFrom, dBin, dInt, dStr, dBeq, dUn, dLoad, cellsAt, retV, retL, DR.val, fzT, fzVs, fzV, fz1, DV.immB, IntKind.bits, dCallP, viewVs, viewV, view1, capVL, capV, viewL, noMemV, noMem, elemsOf, dAppend, dAppz, dStore, DV.one, alive, freezeAt, fzLL, fzL, bRow, bU, cellsOf, setFrom, DV.isU, lenMax, Nat.reduceEqDiff, Nat.reduceAdd, ↓reduceIte, reduceCtorEq, Nat.reduceSub, Int.reduceToNat, Int.reducePow, Nat.reducePow, Int.reduceLE, Int.reduceLT, Nat.reduceLeDiff, Nat.reduceLT, Int.reduceBEq, Int.reduceBNe, Int.reduceEq, Int.reduceNe, Int.reduceAdd, Int.reduceSub, Int.reduceMul, Int.reduceNeg, Int.reduceTDiv, Int.reduceTMod, Int.reduceMod, Int.reduceDiv, Nat.reduceMul, forall_const, implies_true, d_differ_sign, eChgs, eEns, eIls, eImg, ePrt, ePrts, eRows, eSlt, eSlts, eSs, eTy, eY, sls_len, ils_len, ils_rowsT, sls_rowsT, sls_tk0, ils_tk0, signF , hcondQ]) | (simp (disch := omega) only [i64_id, u64_id, u8_id, getD_map'])))) | ((with_reducible refine And.intro ?_ ?_); · first | trivial | omega | (simp; done) | (simp; omega)) | ((first | ((with_reducible refine dwp_condI (t := ?_) ?_ (fun hcQ => ?_) (fun hcQ => ?_)); rotate_left; · rfl) | ((with_reducible refine dops_guardI (t := ?_) ?_ (fun hcQ => ?_) (fun hcQ => ?_)); rotate_left; · rfl)) <;> (have hn := hcQ; have hcondQ := hcQ) <;> (try simp only [decide_eq_true_eq, decide_eq_false_iff_not, beq_iff_eq, bne_iff_ne, ne_eq, Bool.and_eq_true, Bool.or_eq_true, Bool.not_eq_true, Bool.not_eq_false, beq_eq_false_iff_ne, bne_eq_false_iff_eq, Bool.not_eq_true', Bool.not_eq_false', Int.ofNat_lt, Int.ofNat_le, Bool.or_eq_false_iff, Bool.and_eq_false_imp, Decidable.not_not, gt_iff_lt, ge_iff_le] at hn) <;> (try (exfalso; omega)) <;> (refine Todo.of ?_)) | (((with_reducible refine dwp_condA ?_ ?_ ?_); · rfl) <;> (refine Todo.of ?_)))) <;> (try (first | (with_reducible rfl) | exact Nat.le_refl _ | exact Int.le_refl _ | assumption | omega))
  by_cases h2 : n = 2
  · subst h2; (have hcondQ := Bool.and_self; refine Todo.of ?_); (repeat' (first | ((with_reducible refine Todo.to ?_); (repeat (first | (simp only [↓rP, rT, rU, eI, eU, eB, eS, eBs, eL, eA, buildCells, sepsD, sepB, hdl, dvalX, DOp.kind, dval, frameFrom, dBin, dInt, dStr, dBeq, dUn, dLoad, cellsAt, retV, retL, DR.val, fzT, fzVs, fzV, fz1, DV.immB, IntKind.bits, dCallP, viewVs, viewV, view1, capVL, capV, viewL, noMemV, noMem, elemsOf, dAppend, dAppz, dStore, DV.one, alive, freezeAt, fzLL, fzL, bRow, bU, cellsOf, setFrom, DV.isU, lenMax, Nat.reduceEqDiff, Nat.reduceAdd, ↓reduceIte, reduceCtorEq, Nat.reduceSub, Int.reduceToNat, Int.reducePow, Nat.reducePow, Int.reduceLE, Int.reduceLT, Nat.reduceLeDiff, Nat.reduceLT, Int.reduceBEq, Int.reduceBNe, Int.reduceEq, Int.reduceNe, Int.reduceAdd, Int.reduceSub, Int.reduceMul, Int.reduceNeg, Int.reduceTDiv, Int.reduceTMod, Int.reduceMod, Int.reduceDiv, Nat.reduceMul, forall_const, implies_true, d_differ_sign, eChgs, eEns, eIls, eImg, ePrt, ePrts, eRows, eSlt, eSlts, eSs, eTy, eY, sls_len, ils_len, ils_rowsT, sls_rowsT, sls_tk0, ils_tk0, signF , hcondQ]) | (simp (disch := omega) only [i64_id, u64_id, u8_id, getD_map'])))) | ((with_reducible refine And.intro ?_ ?_); · first | trivial | omega | (simp; done) | (simp; omega)) | ((first | ((with_reducible refine dwp_condI (t := ?_) ?_ (fun hcQ => ?_) (fun hcQ => ?_)); rotate_left; · rfl) | ((with_reducible refine dops_guardI (t := ?_) ?_ (fun hcQ => ?_) (fun hcQ => ?_)); rotate_left; · rfl)) <;> (have hn := hcQ; have hcondQ := hcQ) <;> (try simp only [decide_eq_true_eq, decide_eq_false_iff_not, beq_iff_eq, bne_iff_ne, ne_eq, Bool.and_eq_true, Bool.or_eq_true, Bool.not_eq_true, Bool.not_eq_false, beq_eq_false_iff_ne, bne_eq_false_iff_eq, Bool.not_eq_true', Bool.not_eq_false', Int.ofNat_lt, Int.ofNat_le, Bool.or_eq_false_iff, Bool.and_eq_false_imp, Decidable.not_not, gt_iff_lt, ge_iff_le] at hn) <;> (try (exfalso; omega)) <;> (refine Todo.of ?_)) | (((with_reducible refine dwp_condA ?_ ?_ ?_); · rfl) <;> (refine Todo.of ?_)))) <;> (try (first | (with_reducible rfl) | exact Nat.le_refl _ | exact Int.le_refl _ | assumption | omega))
  by_cases h3 : n = 3
  · subst h3; (have hcondQ := Bool.and_self; refine Todo.of ?_); (repeat' (first | ((with_reducible refine Todo.to ?_); (repeat (first | (simp only [↓rP, rT, rU, eI, eU, eB, eS, eBs, eL, eA, buildCells, sepsD, sepB, hdl, dvalX, DOp.kind, dval, frameFrom, dBin, dInt, dStr, dBeq, dUn, dLoad, cellsAt, retV, retL, DR.val, fzT, fzVs, fzV, fz1, DV.immB, IntKind.bits, dCallP, viewVs, viewV, view1, capVL, capV, viewL, noMemV, noMem, elemsOf, dAppend, dAppz, dStore, DV.one, alive, freezeAt, fzLL, fzL, bRow, bU, cellsOf, setFrom, DV.isU, lenMax, Nat.reduceEqDiff, Nat.reduceAdd, ↓reduceIte, reduceCtorEq, Nat.reduceSub, Int.reduceToNat, Int.reducePow, Nat.reducePow, Int.reduceLE, Int.reduceLT, Nat.reduceLeDiff, Nat.reduceLT, Int.reduceBEq, Int.reduceBNe, Int.reduceEq, Int.reduceNe, Int.reduceAdd, Int.reduceSub, Int.reduceMul, Int.reduceNeg, Int.reduceTDiv, Int.reduceTMod, Int.reduceMod, Int.reduceDiv, Nat.reduceMul, forall_const, implies_true, d_differ_sign, eChgs, eEns, eIls, eImg, ePrt, ePrts, eRows, eSlt, eSlts, eSs, eTy, eY, sls_len, ils_len, ils_rowsT, sls_rowsT, sls_tk0, ils_tk0, signF , hcondQ]) | (simp (disch := omega) only [i64_id, u64_id, u8_id, getD_map'])))) | ((with_reducible refine And.intro ?_ ?_); · first | trivial | omega | (simp; done) | (simp; omega)) | ((first | ((with_reducible refine dwp_condI (t := ?_) ?_ (fun hcQ => ?_) (fun hcQ => ?_)); rotate_left; · rfl) | ((with_reducible refine dops_guardI (t := ?_) ?_ (fun hcQ => ?_) (fun hcQ => ?_)); rotate_left; · rfl)) <;> (have hn := hcQ; have hcondQ := hcQ) <;> (try simp only [decide_eq_true_eq, decide_eq_false_iff_not, beq_iff_eq, bne_iff_ne, ne_eq, Bool.and_eq_true, Bool.or_eq_true, Bool.not_eq_true, Bool.not_eq_false, beq_eq_false_iff_ne, bne_eq_false_iff_eq, Bool.not_eq_true', Bool.not_eq_false', Int.ofNat_lt, Int.ofNat_le, Bool.or_eq_false_iff, Bool.and_eq_false_imp, Decidable.not_not, gt_iff_lt, ge_iff_le] at hn) <;> (try (exfalso; omega)) <;> (refine Todo.of ?_)) | (((with_reducible refine dwp_condA ?_ ?_ ?_); · rfl) <;> (refine Todo.of ?_)))) <;> (try (first | (with_reducible rfl) | exact Nat.le_refl _ | exact Int.le_refl _ | assumption | omega))
  by_cases h4 : n = 4
  · subst h4; (have hcondQ := Bool.and_self; refine Todo.of ?_); (repeat' (first | ((with_reducible refine Todo.to ?_); (repeat (first | (simp only [↓rP, rT, rU, eI, eU, eB, eS, eBs, eL, eA, buildCells, sepsD, sepB, hdl, dvalX, DOp.kind, dval, frameFrom, dBin, dInt, dStr, dBeq, dUn, dLoad, cellsAt, retV, retL, DR.val, fzT, fzVs, fzV, fz1, DV.immB, IntKind.bits, dCallP, viewVs, viewV, view1, capVL, capV, viewL, noMemV, noMem, elemsOf, dAppend, dAppz, dStore, DV.one, alive, freezeAt, fzLL, fzL, bRow, bU, cellsOf, setFrom, DV.isU, lenMax, Nat.reduceEqDiff, Nat.reduceAdd, ↓reduceIte, reduceCtorEq, Nat.reduceSub, Int.reduceToNat, Int.reducePow, Nat.reducePow, Int.reduceLE, Int.reduceLT, Nat.reduceLeDiff, Nat.reduceLT, Int.reduceBEq, Int.reduceBNe, Int.reduceEq, Int.reduceNe, Int.reduceAdd, Int.reduceSub, Int.reduceMul, Int.reduceNeg, Int.reduceTDiv, Int.reduceTMod, Int.reduceMod, Int.reduceDiv, Nat.reduceMul, forall_const, implies_true, d_differ_sign, eChgs, eEns, eIls, eImg, ePrt, ePrts, eRows, eSlt, eSlts, eSs, eTy, eY, sls_len, ils_len, ils_rowsT, sls_rowsT, sls_tk0, ils_tk0, signF , hcondQ]) | (simp (disch := omega) only [i64_id, u64_id, u8_id, getD_map'])))) | ((with_reducible refine And.intro ?_ ?_); · first | trivial | omega | (simp; done) | (simp; omega)) | ((first | ((with_reducible refine dwp_condI (t := ?_) ?_ (fun hcQ => ?_) (fun hcQ => ?_)); rotate_left; · rfl) | ((with_reducible refine dops_guardI (t := ?_) ?_ (fun hcQ => ?_) (fun hcQ => ?_)); rotate_left; · rfl)) <;> (have hn := hcQ; have hcondQ := hcQ) <;> (try simp only [decide_eq_true_eq, decide_eq_false_iff_not, beq_iff_eq, bne_iff_ne, ne_eq, Bool.and_eq_true, Bool.or_eq_true, Bool.not_eq_true, Bool.not_eq_false, beq_eq_false_iff_ne, bne_eq_false_iff_eq, Bool.not_eq_true', Bool.not_eq_false', Int.ofNat_lt, Int.ofNat_le, Bool.or_eq_false_iff, Bool.and_eq_false_imp, Decidable.not_not, gt_iff_lt, ge_iff_le] at hn) <;> (try (exfalso; omega)) <;> (refine Todo.of ?_)) | (((with_reducible refine dwp_condA ?_ ?_ ?_); · rfl) <;> (refine Todo.of ?_)))) <;> (try (first | (with_reducible rfl) | exact Nat.le_refl _ | exact Int.le_refl _ | assumption | omega))
  have hs : signF n = [63] := by simp [signF, h1, h2, h3, h4]
  by_cases h0 : n = 0
  · subst h0; (have hcondQ := Bool.and_self; refine Todo.of ?_); (repeat' (first | ((with_reducible refine Todo.to ?_); (repeat (first | (simp only [↓rP, rT, rU, eI, eU, eB, eS, eBs, eL, eA, buildCells, sepsD, sepB, hdl, dvalX, DOp.kind, dval, frameFrom, dBin, dInt, dStr, dBeq, dUn, dLoad, cellsAt, retV, retL, DR.val, fzT, fzVs, fzV, fz1, DV.immB, IntKind.bits, dCallP, viewVs, viewV, view1, capVL, capV, viewL, noMemV, noMem, elemsOf, dAppend, dAppz, dStore, DV.one, alive, freezeAt, fzLL, fzL, bRow, bU, cellsOf, setFrom, DV.isU, lenMax, Nat.reduceEqDiff, Nat.reduceAdd, ↓reduceIte, reduceCtorEq, Nat.reduceSub, Int.reduceToNat, Int.reducePow, Nat.reducePow, Int.reduceLE, Int.reduceLT, Nat.reduceLeDiff, Nat.reduceLT, Int.reduceBEq, Int.reduceBNe, Int.reduceEq, Int.reduceNe, Int.reduceAdd, Int.reduceSub, Int.reduceMul, Int.reduceNeg, Int.reduceTDiv, Int.reduceTMod, Int.reduceMod, Int.reduceDiv, Nat.reduceMul, forall_const, implies_true, d_differ_sign, eChgs, eEns, eIls, eImg, ePrt, ePrts, eRows, eSlt, eSlts, eSs, eTy, eY, sls_len, ils_len, ils_rowsT, sls_rowsT, sls_tk0, ils_tk0, signF , hcondQ]) | (simp (disch := omega) only [i64_id, u64_id, u8_id, getD_map'])))) | ((with_reducible refine And.intro ?_ ?_); · first | trivial | omega | (simp; done) | (simp; omega)) | ((first | ((with_reducible refine dwp_condI (t := ?_) ?_ (fun hcQ => ?_) (fun hcQ => ?_)); rotate_left; · rfl) | ((with_reducible refine dops_guardI (t := ?_) ?_ (fun hcQ => ?_) (fun hcQ => ?_)); rotate_left; · rfl)) <;> (have hn := hcQ; have hcondQ := hcQ) <;> (try simp only [decide_eq_true_eq, decide_eq_false_iff_not, beq_iff_eq, bne_iff_ne, ne_eq, Bool.and_eq_true, Bool.or_eq_true, Bool.not_eq_true, Bool.not_eq_false, beq_eq_false_iff_ne, bne_eq_false_iff_eq, Bool.not_eq_true', Bool.not_eq_false', Int.ofNat_lt, Int.ofNat_le, Bool.or_eq_false_iff, Bool.and_eq_false_imp, Decidable.not_not, gt_iff_lt, ge_iff_le] at hn) <;> (try (exfalso; omega)) <;> (refine Todo.of ?_)) | (((with_reducible refine dwp_condA ?_ ?_ ?_); · rfl) <;> (refine Todo.of ?_)))) <;> (try (first | (with_reducible rfl) | exact Nat.le_refl _ | exact Int.le_refl _ | assumption | omega))
  (have hcondQ := Bool.and_self; refine Todo.of ?_); (repeat' (first | ((with_reducible refine Todo.to ?_); (repeat (first | (simp only [↓rP, rT, rU, eI, eU, eB, eS, eBs, eL, eA, buildCells, sepsD, sepB, hdl, dvalX, DOp.kind, dval, frameFrom, dBin, dInt, dStr, dBeq, dUn, dLoad, cellsAt, retV, retL, DR.val, fzT, fzVs, fzV, fz1, DV.immB, IntKind.bits, dCallP, viewVs, viewV, view1, capVL, capV, viewL, noMemV, noMem, elemsOf, dAppend, dAppz, dStore, DV.one, alive, freezeAt, fzLL, fzL, bRow, bU, cellsOf, setFrom, DV.isU, lenMax, Nat.reduceEqDiff, Nat.reduceAdd, ↓reduceIte, reduceCtorEq, Nat.reduceSub, Int.reduceToNat, Int.reducePow, Nat.reducePow, Int.reduceLE, Int.reduceLT, Nat.reduceLeDiff, Nat.reduceLT, Int.reduceBEq, Int.reduceBNe, Int.reduceEq, Int.reduceNe, Int.reduceAdd, Int.reduceSub, Int.reduceMul, Int.reduceNeg, Int.reduceTDiv, Int.reduceTMod, Int.reduceMod, Int.reduceDiv, Nat.reduceMul, forall_const, implies_true, d_differ_sign, eChgs, eEns, eIls, eImg, ePrt, ePrts, eRows, eSlt, eSlts, eSs, eTy, eY, sls_len, ils_len, ils_rowsT, sls_rowsT, sls_tk0, ils_tk0, hs , hcondQ]) | (simp (disch := omega) only [i64_id, u64_id, u8_id, getD_map'])))) | ((with_reducible refine And.intro ?_ ?_); · first | trivial | omega | (simp; done) | (simp; omega)) | ((first | ((with_reducible refine dwp_condI (t := ?_) ?_ (fun hcQ => ?_) (fun hcQ => ?_)); rotate_left; · rfl) | ((with_reducible refine dops_guardI (t := ?_) ?_ (fun hcQ => ?_) (fun hcQ => ?_)); rotate_left; · rfl)) <;> (have hn := hcQ; have hcondQ := hcQ) <;> (try simp only [decide_eq_true_eq, decide_eq_false_iff_not, beq_iff_eq, bne_iff_ne, ne_eq, Bool.and_eq_true, Bool.or_eq_true, Bool.not_eq_true, Bool.not_eq_false, beq_eq_false_iff_ne, bne_eq_false_iff_eq, Bool.not_eq_true', Bool.not_eq_false', Int.ofNat_lt, Int.ofNat_le, Bool.or_eq_false_iff, Bool.and_eq_false_imp, Decidable.not_not, gt_iff_lt, ge_iff_le] at hn) <;> (try (exfalso; omega)) <;> (refine Todo.of ?_)) | (((with_reducible refine dwp_condA ?_ ?_ ?_); · rfl) <;> (refine Todo.of ?_)))) <;> (try (first | (with_reducible rfl) | exact Nat.le_refl _ | exact Int.le_refl _ | assumption | omega))

theorem raw1 {P : Program} {g : FuncId} {α : Type} {e : α → DV} {f : α → Prop × DV}
    (k : ∀ a, (f a).1 → callOk P g = true ∧ TellsP P g [e a] (f a).2) : OkP P g (spec1 e f) := by
  intro args hp
  unfold spec1 at hp ⊢
  split at hp
  · rename_i h
    rw [dif_pos h]
    have hx := h.choose_spec
    have := k _ hp
    generalize h.choose = a at *
    subst hx
    exact this
  · exact hp.elim

theorem sign_world (n : Int) (W : World) : Calls Try.prog 21 #[.int .i64 n] W fun e w' => e = .returned (.string ⟨(signF n).toArray⟩) ∧ Below W.heap.size W w' := by
  have h := (ok_differ_sign [.int .i64 n] (by rw [s_sign_at]; trivial)).2
  rw [s_sign_at] at h
  refine (h (fun b => b < W.heap.size) (fun _ => False) W #[.int .i64 n] (fun b h => h.elim) (fun b h => h) ?_).mono ?_
  · exact ⟨rfl, fun j d hd => by
      match j, hd with
      | 0, hd => cases hd; exact ⟨_, rfl, .imm (.int _ _)⟩⟩
  · rintro e w' ⟨v, F', rfl, hm, _, hv⟩
    refine ⟨?_, ⟨hm.os, hm.tape, hm.output, hm.size, fun k hk => hm.keepK k hk⟩⟩
    cases hv with
    | imm h => cases h; rfl

def txt (l : List Chg) : List UInt8 := l.flatMap fun c => signF c.what ++ [32] ++ c.path ++ [10]
noncomputable def s_Text : List DV → Prop × DV := spec1 eChgs fun l => (l.length ≤ 1000000 ∧ (txt l).length ≤ 140737488355328, .str (txt l))
theorem s_Text_at (l : List Chg) : s_Text [.sl (l.map cChg)] = (l.length ≤ 1000000 ∧ (txt l).length ≤ 140737488355328, .str (txt l)) := spec1_at inj_Chgs _ l
theorem ok_differ_Text : OkP Try.prog 11 s_Text := by
  refine raw1 fun l h => ⟨by kernel_rfl, ?_⟩
  obtain ⟨h1, h2⟩ := h
  intro K F w args hF hK ha
  obtain ⟨v, rfl⟩ : ∃ v, args = #[v] := by
    have := ha.1
    obtain ⟨a⟩ := args
    match a, this with
    | [v], _ => exact ⟨v, rfl⟩
  obtain ⟨v', hv', hv⟩ := ha.2 0 _ rfl
  cases hv'
  have fin : ∀ e w', (e = Ending.returned (.string ⟨(txt l).toArray⟩) ∧ Below w.heap.size w w') → ∃ v F', e = .returned v ∧ Moves K F w F' w' ∧ (∀ b, F' b → b < w'.heap.size) ∧ VRep F' none_ [] w' (.str (txt l)) v := by
    rintro e w' ⟨rfl, hb⟩
    exact ⟨_, F, rfl, ⟨hb.os, hb.tape, hb.output, hb.size, fun b h => hb.block b (hK b h), fun b h => hb.block b (hF b h), fun _ h => h, fun _ h => .inl h⟩, fun b h => Nat.lt_of_lt_of_le (hF b h) hb.size, .imm (.str _)⟩
  cases hv with
  | imm h =>
    cases h with
    | sl es A n c a z cv hn hnc hA hz hc hr =>
      subst hn
      by_cases hl : l = []
      · subst hl
        exact (Try.text_none A c w).mono fin
      · obtain ⟨hA1, hA2, hA3⟩ := hA (by simpa using hl)
        subst hA1
        obtain ⟨blk, off, sp⟩ := a
        simp only at hA2
        subst hA2
        have hz2 : z = 2 := by
          obtain ⟨x, l', rfl⟩ := List.exists_cons_of_ne_nil hl
          have := hz 0 (cChg x) rfl
          simpa using this.symm
        subst hz2
        have hp : 0 < l.length := by
          rcases Nat.eq_zero_or_pos l.length with h | h
          · exact absurd (List.length_eq_zero_iff.1 h) hl
          · exact h
        have hcell : ∀ k, k < l.length → w.cell? ⟨blk, off + k * 2, none⟩ = some (.string ⟨((l.map fun c : Chg => (c.path, c.what)).getD k default).1.toArray⟩) ∧ w.cell? ⟨blk, off + k * 2 + 1, none⟩ = some (.int .i64 ((l.map fun c : Chg => (c.path, c.what)).getD k default).2) := by
          intro k hk
          have e1 : cellAt (l.map cChg) k 0 = some (.str l[k].path) := by simp [cellAt, hk]
          have e2 : cellAt (l.map cChg) k 1 = some (.int .i64 l[k].what) := by simp [cellAt, hk]
          have c1 := (hc k 0 _ e1).1
          have c2 := (hc k 1 _ e2).1
          have r1 := hr k 0 _ e1
          have r2 := hr k 1 _ e2
          have g : (l.map fun c : Chg => (c.path, c.what)).getD k default = (l[k].path, l[k].what) := by simp [hk]
          rw [g]
          generalize cv k 0 = v0 at *
          generalize cv k 1 = v1 at *
          cases r1
          cases r2
          exact ⟨c1, c2⟩
        have htx : ((l.map fun c : Chg => (c.path, c.what)).flatMap fun c => signF c.2 ++ [32] ++ c.1 ++ [10]) = txt l := by
          simp only [txt, List.flatMap_map]
        have := Try.text_walk signF sign_world (l.map fun c : Chg => (c.path, c.what)) blk off c w (hF _ hA3) (by rw [List.length_map]; omega) (by rw [List.length_map]; exact hcell) (by rw [List.length_map]; exact hp) (by rw [htx]; exact h2)
        rw [htx, List.length_map] at this
        rw [List.length_map]
        exact this.mono fin
end Go.Proofs.Ytekbacebbflidaa
