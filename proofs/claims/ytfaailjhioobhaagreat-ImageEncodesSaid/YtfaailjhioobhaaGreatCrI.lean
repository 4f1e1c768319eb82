/- Sums of bytes, their tails, bytes one behind the other. -/
import Derived.Test.YtfaailjhioobhaaGreatCrD
import Derived.Test.YtfaailjhioobhaaGreatOctBack2
import Derived.Test.YtfaailjhioobhaaGreatNkZ5
set_option linter.all false
set_option maxRecDepth 20000
namespace Go.Proofs.YtfaailjhioobhaaGreat
open Go.Nk Crc0
@[reducible] def cBs (b : List UInt8) : List DV := [.sl (bsl b)]
theorem cBs_inj : ∀ x y, cBs x = cBs y → x = y := fun x y h => bsl_inj (by simpa using h)
abbrev eBss : List (List UInt8) → DV := eL cBs
theorem inj_Bss : Inj eBss := inj_L cBs_inj

/-- What Grow leaves behind that nobody names. -/
def gB (n : Nat) : List DObj := if n = 0 then [] else [⟨.dead, 1, List.replicate n [.int .u8 0]⟩, ⟨.dead, 1, []⟩]
noncomputable def s_GrowB : List DV → List DObj → Res := specG (fun (x : Nat × Nat) a hp => a = [.nil, .int .i64 x.1] ∧ x.2 = hp.length) (fun x => (x.1 ≤ 1000000000, .own (x.2 + (gB x.1).length) 0 0 0)) fun x hp => hp ++ (gB x.1 ++ [⟨.imm, 1, []⟩])
theorem s_GrowB_run (n : Nat) (hp : List DObj) : s_GrowB [.nil, .int .i64 n] hp = ⟨n ≤ 1000000000, .own (hp.length + (gB n).length) 0 0 0, hp ++ (gB n ++ [⟨.imm, 1, []⟩])⟩ := by
  refine specG_at (x := (n, hp.length)) ?_ ⟨rfl, rfl⟩
  rintro ⟨x1, x2⟩ ⟨y1, y2⟩ a hp ⟨rfl, rfl⟩ ⟨h, rfl⟩
  simp only [List.cons.injEq, DV.int.injEq, true_and, and_true] at h
  have : x1 = y1 := by omega
  subst this; rfl
theorem ok_slices_Grow_byte_byte : OkH Tryz.prog 63 s_GrowB := by
  refine OkH.mkGH (ps := []) (hs := []) trivial trivial m_slices_Grow_byte_byte (by rintro x a hp ⟨rfl, _⟩; rfl) ?_
  rintro ⟨n, L⟩ a hp ⟨rfl, rfl⟩ hl
  simp only at hl ⊢
  
  by_cases q : n = 0
  · subst q
    (have hcondQ := Bool.and_self; refine Todo.of ?_); (repeat' (first | ((with_reducible refine Todo.to ?_); (repeat (first | (simp only [↓rP, rT, rU, dvalX, dval, frameFrom, dBin, dInt, retV, DR.val, Nat.reduceEqDiff, ↓reduceIte, reduceCtorEq, Int.reduceSub, d_slices_Grow_byte_byte, gB, Nat.add_zero ]) | (simp (disch := omega) only [i64_id])))) | ((with_reducible refine And.intro ?_ ?_); · first | trivial | omega | (simp; done) | (simp; omega)) | (((with_reducible refine dwp_condA ?_ ?_ ?_); · rfl) <;> (refine Todo.of ?_)))) <;> (try (first | (with_reducible rfl) | exact Nat.le_refl _ | exact Int.le_refl _ | assumption | omega))
  · (have hcondQ := Bool.and_self; refine Todo.of ?_); (repeat' (first | ((with_reducible refine Todo.to ?_); (repeat (first | (simp only [↓rP, rT, rU, dvalX, dval, frameFrom, dBin, dInt, retV, DR.val, dAppz, lenMax, Nat.reduceEqDiff, Nat.reduceAdd, ↓reduceIte, reduceCtorEq, Nat.reduceSub, Int.reduceToNat, Int.reduceLE, Nat.reduceLeDiff, d_slices_Grow_byte_byte, gB, q, List.append_assoc, Nat.add_zero, lst_get, lst_get1, lst_set, lst_set1, dSlice, dBound, Int.sub_zero , hcondQ]) | (simp (disch := omega) only [i64_id])))) | ((with_reducible refine And.intro ?_ ?_); · first | trivial | omega | (simp; done) | (simp; omega)) | ((first | ((with_reducible refine dwp_condI (t := ?_) ?_ (fun hcQ => ?_) (fun hcQ => ?_)); rotate_left; · rfl) | ((with_reducible refine dops_guardI (t := ?_) ?_ (fun hcQ => ?_) (fun hcQ => ?_)); rotate_left; · rfl)) <;> (have hn := hcQ; have hcondQ := hcQ) <;> (try simp only [decide_eq_true_eq, decide_eq_false_iff_not] at hn) <;> (try (exfalso; omega)) <;> (refine Todo.of ?_)) | (((with_reducible refine dwp_condA ?_ ?_ ?_); · rfl) <;> (refine Todo.of ?_)))) <;> (try (first | (with_reducible rfl) | exact Nat.le_refl _ | exact Int.le_refl _ | assumption | omega))

noncomputable def s_ConcatB : List DV → Prop × DV := spec1 eBss fun v => (v.length ≤ 1000000 ∧ v.flatten.length ≤ 1000000000, .sl (bsl v.flatten))
theorem s_ConcatB_at (v : List (List UInt8)) : s_ConcatB [.sl (v.map cBs)] = (v.length ≤ 1000000 ∧ v.flatten.length ≤ 1000000000, .sl (bsl v.flatten)) := spec1_at inj_Bss _ v
theorem bsl_appendR (a b : List UInt8) : bsl a ++ bsl b = bsl (a ++ b) := (bsl_append a b).symm
theorem bsl_tk (b : List UInt8) : (bsl b).take b.length = bsl b := List.take_of_length_le (by rw [bsl_length]; exact Nat.le_refl _)
theorem bsl_rowsT (b : List UInt8) : (∀ e ∈ bsl b, e.length = 1) = True := eq_true bsl_rows
theorem ok_slices_Concat_byte_byte : OkP Tryz.prog 23 s_ConcatB := by
  refine OkP.mk1 (ps := []) (hs := [(63, s_GrowB)]) trivial ⟨ok_slices_Grow_byte_byte, trivial⟩ m_slices_Concat_byte_byte fun v h => ?_
  obtain ⟨hl, hf⟩ := h
  
  (have hcondQ := Bool.and_self; refine Todo.of ?_); (repeat' (first | ((with_reducible refine Todo.to ?_); (repeat (first | (simp only [↓rP, rT, rU, eL, dvalX, dval, ↓reduceIte, reduceCtorEq, d_slices_Concat_byte_byte, eBss ]) | (simp (disch := omega) only [i64_id, u64_id, u8_id, getD_map'])))) | ((with_reducible refine And.intro ?_ ?_); · first | trivial | omega | (simp; done) | (simp; omega)) | (((with_reducible refine dwp_condA ?_ ?_ ?_); · rfl) <;> (refine Todo.of ?_)))) <;> (try (first | (with_reducible rfl) | exact Nat.le_refl _ | exact Int.le_refl _ | assumption | omega))
  refine dwp_each v (fun k (n : Nat) => ⟨[(0, .sl (v.map cBs)), (3, .int .i64 n), (9, .sl (v.map cBs)), (10, .int .i64 v.length), (11, .int .i64 k)], []⟩) (fun k r n => n + r.flatten.length = v.flatten.length) 0 (Nat.le_refl _) (by simp only [cut_some, List.map_cons, List.map_nil, get_cons, Nk.get_nil, Nat.reduceEqDiff, ↓reduceIte, DV.cut, DV.inB, List.take_nil, reduceCtorEq] <;> rfl) (by simp) (fun k x r n d hx hd hr => ?_) (fun k n e hr => ?_)
  · simp only [List.flatten_cons, List.length_append] at hr
    (have hcondQ := Bool.and_self; refine Todo.of ?_); (repeat' (first | ((with_reducible refine Todo.to ?_); (repeat (first | (simp only [↓rP, rT, rU, dvalX, dval, dBin, dInt, dLoad, cellsAt, Nat.reduceEqDiff, ↓reduceIte, reduceCtorEq, d, map_getD cBs hx , hcondQ]) | (simp (disch := omega) only [i64_id])))) | ((with_reducible refine And.intro ?_ ?_); · first | trivial | omega | (simp; done) | (simp; omega)) | ((first | ((with_reducible refine dwp_condI (t := ?_) ?_ (fun hcQ => ?_) (fun hcQ => ?_)); rotate_left; · rfl) | ((with_reducible refine dops_guardI (t := ?_) ?_ (fun hcQ => ?_) (fun hcQ => ?_)); rotate_left; · rfl)) <;> (have hn := hcQ; have hcondQ := hcQ) <;> (try simp only [decide_eq_true_eq, decide_eq_false_iff_not] at hn) <;> (try (exfalso; omega)) <;> (refine Todo.of ?_)) | (((with_reducible refine dwp_condA ?_ ?_ ?_); · rfl) <;> (refine Todo.of ?_)))) <;> (try (first | (with_reducible rfl) | exact Nat.le_refl _ | exact Int.le_refl _ | assumption | omega))
    exact ⟨n + x.length, by simp only [cut_some, List.map_cons, List.map_nil, get_cons, Nk.get_nil, Nat.reduceEqDiff, ↓reduceIte, Nat.succ_ne_self, DV.cut, DV.inB, List.take_nil, reduceCtorEq, Int.natCast_add, Int.natCast_one] <;> rfl, by omega⟩
  simp only [List.flatten_nil, List.length_nil, Nat.add_zero] at hr
  subst hr
  have e1 := s_GrowB_run v.flatten.length []
  simp only [List.length_nil, Nat.zero_add, List.nil_append] at e1
  (have hcondQ := Bool.and_self; refine Todo.of ?_); (repeat' (first | ((with_reducible refine Todo.to ?_); (repeat (first | (simp only [↓rP, rT, rU, dvalX, dval, dBin, dInt, Nat.reduceEqDiff, ↓reduceIte, reduceCtorEq, e, e1 ]) | (simp (disch := omega) only [i64_id, u64_id, u8_id, getD_map'])))) | ((with_reducible refine And.intro ?_ ?_); · first | trivial | omega | (simp; done) | (simp; omega)) | (((with_reducible refine dwp_condA ?_ ?_ ?_); · rfl) <;> (refine Todo.of ?_)))) <;> (try (first | (with_reducible rfl) | exact Nat.le_refl _ | exact Int.le_refl _ | assumption | omega))
  refine dwp_each v (fun k (o : List UInt8) => ⟨[(6, .own (gB v.flatten.length).length o.length 0 o.length), (25, .sl (v.map cBs)), (26, .int .i64 v.length), (27, .int .i64 k)], gB v.flatten.length ++ [⟨.imm, 1, bsl o⟩]⟩) (fun k r o => o ++ r.flatten = v.flatten) [] trivial (by simp only [cut_none, List.map_cons, List.map_nil, get_cons, Nk.get_nil, Nat.reduceEqDiff, ↓reduceIte, List.length_nil] <;> rfl) rfl (fun k x r o d hx hd hr => ?_) (fun k o e hr => ?_)
  · simp only [List.flatten_cons] at hr
    have hb : o.length + x.length ≤ v.flatten.length := by rw [← hr]; simp
    (have hcondQ := Bool.and_self; refine Todo.of ?_); (repeat' (first | ((with_reducible refine Todo.to ?_); (repeat (first | (simp only [↓rP, rT, rU, dvalX, dval, dBin, dInt, dLoad, cellsAt, elemsOf, dAppend, lenMax, Nat.reduceEqDiff, ↓reduceIte, bsl_rowsT, d, map_getD cBs hx, g_get, g_set, bsl_appendR ]) | (simp (disch := omega) only [i64_id])))) | ((with_reducible refine And.intro ?_ ?_); · first | trivial | omega | (simp; done) | (simp; omega)) | (((with_reducible refine dwp_condA ?_ ?_ ?_); · rfl) <;> (refine Todo.of ?_)))) <;> (try (first | (with_reducible rfl) | exact Nat.le_refl _ | exact Int.le_refl _ | assumption | omega))
    exact ⟨o ++ x, by simp only [cut_none, List.map_cons, List.map_nil, get_cons, Nk.get_nil, Nat.reduceEqDiff, ↓reduceIte, Nat.succ_ne_self, Int.natCast_add, Int.natCast_one, List.length_append] <;> rfl, by simpa using hr⟩
  · simp only [List.flatten_nil, List.append_nil] at hr
    subst hr
    (have hcondQ := Bool.and_self; refine Todo.of ?_); (repeat' (first | ((with_reducible refine Todo.to ?_); (repeat (first | (simp only [↓rP, rT, rU, dvalX, dval, dBin, dInt, retV, DR.val, fzT, fzV, fz1, elemsOf, freezeAt, Nat.reduceEqDiff, ↓reduceIte, reduceCtorEq, bsl_tk, e, g_get ]) | (simp (disch := omega) only [i64_id, u64_id, u8_id, getD_map'])))) | ((with_reducible refine And.intro ?_ ?_); · first | trivial | omega | (simp; done) | (simp; omega)) | (((with_reducible refine dwp_condA ?_ ?_ ?_); · rfl) <;> (refine Todo.of ?_)))) <;> (try (first | (with_reducible rfl) | exact Nat.le_refl _ | exact Int.le_refl _ | assumption | omega))

/-! the tail of a sum -/
def tlk (n : BitVec 32) (k : Nat) : List UInt8 := (List.range k).map fun i => UInt8.ofNat (n >>> (8 * i)).toNat
def tl (n : BitVec 32) : List UInt8 := tlk n 4
theorem tlk_succ (n : BitVec 32) (k : Nat) : tlk n (k + 1) = tlk n k ++ [UInt8.ofNat (n >>> (8 * k)).toNat] := by
  simp [tlk, List.range_succ]
theorem tlk_len (n : BitVec 32) (k : Nat) : (tlk n k).length = k := by simp [tlk]
theorem shr_succ (n : BitVec 32) (k : Nat) : (n >>> (8 * k)) >>> 8 = n >>> (8 * (k + 1)) := by
  rw [← BitVec.shiftRight_add]; congr 1
theorem n_u8 (x : BitVec 32) : IntKind.u8.wrap (x.toNat : Int) = ((UInt8.ofNat x.toNat).toNat : Int) := by
  rw [IntKind.wrap_u8, UInt8.toNat_ofNat']; omega
theorem n_quo256 (x : BitVec 32) : IntKind.u32.wrap (Int.tdiv (x.toNat : Int) 256) = ((x >>> 8).toNat : Int) := by
  have := x.isLt
  rw [BitVec.toNat_ushiftRight, Nat.shiftRight_eq_div_pow, Int.tdiv_eq_ediv_of_nonneg (by omega), u32w (by omega)]
  omega
theorem n_rem256 (x : BitVec 32) : IntKind.u8.wrap (Int.tmod (x.toNat : Int) 256) = ((UInt8.ofNat x.toNat).toNat : Int) := by
  rw [Int.tmod_eq_emod_of_nonneg (by omega), IntKind.wrap_u8, UInt8.toNat_ofNat']; omega
theorem bsl_snoc (o : List UInt8) (c : UInt8) : bsl o ++ [[.int .u8 (c.toNat : Int)]] = bsl (o ++ [c]) := by simp [bsl]

noncomputable def s_tail : List DV → Prop × DV := spec1 eW32 fun n => (True, .sl (bsl (tl n)))
theorem s_tail_at (n : BitVec 32) : s_tail [.int .u32 (n.toNat : Int)] = (True, .sl (bsl (tl n))) := spec1_at inj_W32 _ n
noncomputable def s_rTail : List DV → Prop × DV := spec1 eW32 fun n => (True, .sl (bsl (tl n)))
theorem s_rTail_at (n : BitVec 32) : s_rTail [.int .u32 (n.toNat : Int)] = (True, .sl (bsl (tl n))) := spec1_at inj_W32 _ n
theorem ok_crc_tail : OkP Tryz.prog 61 s_tail := by
  refine OkP.mk1 (ps := []) (hs := []) trivial trivial m_crc_tail fun n _ => ?_
  (have hcondQ := Bool.and_self; refine Todo.of ?_); (repeat' (first | ((with_reducible refine Todo.to ?_); (repeat (first | (simp only [↓rP, rT, rU, dvalX, dval, lenCap, ↓reduceIte, Int.reduceToNat, Int.reduceLE, d_crc_tail, eW32 ]) | (simp (disch := omega) only [i64_id, u64_id, u8_id, getD_map'])))) | ((with_reducible refine And.intro ?_ ?_); · first | trivial | omega | (simp; done) | (simp; omega)) | (((with_reducible refine dwp_condA ?_ ?_ ?_); · rfl) <;> (refine Todo.of ?_)))) <;> (try (first | (with_reducible rfl) | exact Nat.le_refl _ | exact Int.le_refl _ | assumption | omega))
  refine dwp_loop (fun k : Nat => ⟨[(0, .int .u32 ((n >>> (8 * k)).toNat : Int)), (3, .own 0 k 0 k), (5, .int .i64 k)], [⟨.imm, 1, bsl (tlk n k)⟩]⟩) (fun k => k ≤ 4) (fun k => 4 - k) 0 (Nat.zero_le _) (by simp only [cut_some, List.map_cons, List.map_nil, get_cons, Nk.get_nil, Nat.reduceEqDiff, ↓reduceIte, DV.cut, DV.inB, DObj.cut, List.take_nil, reduceCtorEq, Nat.zero_lt_one, decide_true, List.take_succ_cons]; simp [tlk, bsl]) (Nat.zero_le _) fun k hk => ?_
  by_cases d : k < 4
  · have w1 : IntKind.i64.wrap ((k : Int) + 1) = ((k + 1 : Nat) : Int) := by rw [wrap_i64_id (by omega)]; omega
    have l1 := tlk_len n k
    (have hcondQ := Bool.and_self; refine Todo.of ?_); (repeat' (first | ((with_reducible refine Todo.to ?_); (repeat (first | (simp only [↓rP, rT, rU, dvalX, dval, dBin, dInt, fz1, DV.immB, IntKind.bits, elemsOf, dAppend, fzLL, fzL, bRow, bU, cellsOf, DV.isU, lenMax, Nat.reduceEqDiff, ↓reduceIte, reduceCtorEq, Int.reduceToNat, Int.reduceLE, Nat.reduceLeDiff, forall_const, w1, n_u8, n_shr8, shr_succ, bsl_snoc, l1 , hcondQ]) | (simp (disch := omega) only [i64_id, u64_id, u8_id, getD_map'])))) | ((with_reducible refine And.intro ?_ ?_); · first | trivial | omega | (simp; done) | (simp; omega)) | ((first | ((with_reducible refine dwp_condI (t := ?_) ?_ (fun hcQ => ?_) (fun hcQ => ?_)); rotate_left; · rfl) | ((with_reducible refine dops_guardI (t := ?_) ?_ (fun hcQ => ?_) (fun hcQ => ?_)); rotate_left; · rfl)) <;> (have hn := hcQ; have hcondQ := hcQ) <;> (try simp only [decide_eq_true_eq, decide_eq_false_iff_not] at hn) <;> (try (exfalso; omega)) <;> (refine Todo.of ?_)) | (((with_reducible refine dwp_condA ?_ ?_ ?_); · rfl) <;> (refine Todo.of ?_)))) <;> (try (first | (with_reducible rfl) | exact Nat.le_refl _ | exact Int.le_refl _ | assumption | omega))
    refine ⟨k + 1, ?_, by omega, by omega⟩
    simp only [cut_some, List.map_cons, List.map_nil, get_cons, Nk.get_nil, Nat.reduceEqDiff, ↓reduceIte, DV.cut, DV.inB, DObj.cut, List.take_nil, reduceCtorEq, Nat.zero_lt_one, decide_true, List.take_succ_cons, tlk_succ]
  · have : k = 4 := by omega
    subst this
    have l2 : (bsl (tlk n 4)).take 4 = bsl (tl n) := List.take_of_length_le (by rw [bsl_length, tlk_len]; exact Nat.le_refl _)
    (have hcondQ := Bool.and_self; refine Todo.of ?_); (repeat' (first | ((with_reducible refine Todo.to ?_); (repeat (first | (simp only [↓rP, rT, rU, dvalX, dval, dBin, dInt, retV, DR.val, fzT, fzV, fz1, elemsOf, freezeAt, Nat.reduceEqDiff, ↓reduceIte, reduceCtorEq, Nat.reduceSub, Nat.reduceLeDiff, Nat.reduceMul, l2, tlk_len n 4 ]) | (simp (disch := omega) only [i64_id, u64_id, u8_id, getD_map'])))) | ((with_reducible refine And.intro ?_ ?_); · first | trivial | omega | (simp; done) | (simp; omega)) | (((with_reducible refine dwp_condA ?_ ?_ ?_); · rfl) <;> (refine Todo.of ?_)))) <;> (try (first | (with_reducible rfl) | exact Nat.le_refl _ | exact Int.le_refl _ | assumption | omega))
theorem ok_noriaref02_tail : OkP Tryz.prog 72 s_rTail := by
  refine OkP.mk1 (ps := []) (hs := []) trivial trivial m_noriaref02_tail fun n _ => ?_
  (have hcondQ := Bool.and_self; refine Todo.of ?_); (repeat' (first | ((with_reducible refine Todo.to ?_); (repeat (first | (simp only [↓rP, rT, rU, dvalX, dval, fzLL, ↓reduceIte, reduceCtorEq, forall_const, d_noriaref02_tail, eW32 ]) | (simp (disch := omega) only [i64_id, u64_id, u8_id, getD_map'])))) | ((with_reducible refine And.intro ?_ ?_); · first | trivial | omega | (simp; done) | (simp; omega)) | (((with_reducible refine dwp_condA ?_ ?_ ?_); · rfl) <;> (refine Todo.of ?_)))) <;> (try (first | (with_reducible rfl) | exact Nat.le_refl _ | exact Int.le_refl _ | assumption | omega))
  refine dwp_loop (fun k : Nat => ⟨[(0, .int .u32 ((n >>> (8 * k)).toNat : Int)), (3, .own 0 k 0 k), (4, .int .i64 k)], [⟨.imm, 1, bsl (tlk n k)⟩]⟩) (fun k => k ≤ 4) (fun k => 4 - k) 0 (Nat.zero_le _) (by simp only [cut_some, List.map_cons, List.map_nil, get_cons, Nk.get_nil, Nat.reduceEqDiff, ↓reduceIte, DV.cut, DV.inB, DObj.cut, List.take_nil, reduceCtorEq, Nat.zero_lt_one, decide_true, List.take_succ_cons]; simp [tlk, bsl]) (Nat.zero_le _) fun k hk => ?_
  by_cases d : k < 4
  · have w1 : IntKind.i64.wrap ((k : Int) + 1) = ((k + 1 : Nat) : Int) := by rw [wrap_i64_id (by omega)]; omega
    have l1 := tlk_len n k
    (have hcondQ := Bool.and_self; refine Todo.of ?_); (repeat' (first | ((with_reducible refine Todo.to ?_); (repeat (first | (simp only [↓rP, rT, rU, dvalX, dval, dBin, dInt, fz1, DV.immB, elemsOf, dAppend, fzLL, fzL, bRow, bU, cellsOf, DV.isU, lenMax, Nat.reduceEqDiff, ↓reduceIte, reduceCtorEq, Nat.reduceLeDiff, Int.reduceEq, forall_const, w1, n_rem256, n_quo256, shr_succ, bsl_snoc, l1 , hcondQ]) | (simp (disch := omega) only [i64_id, u64_id, u8_id, getD_map'])))) | ((with_reducible refine And.intro ?_ ?_); · first | trivial | omega | (simp; done) | (simp; omega)) | ((first | ((with_reducible refine dwp_condI (t := ?_) ?_ (fun hcQ => ?_) (fun hcQ => ?_)); rotate_left; · rfl) | ((with_reducible refine dops_guardI (t := ?_) ?_ (fun hcQ => ?_) (fun hcQ => ?_)); rotate_left; · rfl)) <;> (have hn := hcQ; have hcondQ := hcQ) <;> (try simp only [decide_eq_true_eq, decide_eq_false_iff_not] at hn) <;> (try (exfalso; omega)) <;> (refine Todo.of ?_)) | (((with_reducible refine dwp_condA ?_ ?_ ?_); · rfl) <;> (refine Todo.of ?_)))) <;> (try (first | (with_reducible rfl) | exact Nat.le_refl _ | exact Int.le_refl _ | assumption | omega))
    refine ⟨k + 1, ?_, by omega, by omega⟩
    simp only [cut_some, List.map_cons, List.map_nil, get_cons, Nk.get_nil, Nat.reduceEqDiff, ↓reduceIte, DV.cut, DV.inB, DObj.cut, List.take_nil, reduceCtorEq, Nat.zero_lt_one, decide_true, List.take_succ_cons, tlk_succ]
  · have : k = 4 := by omega
    subst this
    have l2 : (bsl (tlk n 4)).take 4 = bsl (tl n) := List.take_of_length_le (by rw [bsl_length, tlk_len]; exact Nat.le_refl _)
    (have hcondQ := Bool.and_self; refine Todo.of ?_); (repeat' (first | ((with_reducible refine Todo.to ?_); (repeat (first | (simp only [↓rP, rT, rU, dvalX, dval, dBin, dInt, retV, DR.val, fzT, fzV, fz1, elemsOf, freezeAt, Nat.reduceEqDiff, ↓reduceIte, reduceCtorEq, Nat.reduceSub, Nat.reduceLeDiff, Nat.reduceMul, l2, tlk_len n 4 ]) | (simp (disch := omega) only [i64_id, u64_id, u8_id, getD_map'])))) | ((with_reducible refine And.intro ?_ ?_); · first | trivial | omega | (simp; done) | (simp; omega)) | (((with_reducible refine dwp_condA ?_ ?_ ?_); · rfl) <;> (refine Todo.of ?_)))) <;> (try (first | (with_reducible rfl) | exact Nat.le_refl _ | exact Int.le_refl _ | assumption | omega))

/-! the sum of bytes -/
def crcF (b : List UInt8) : BitVec 32 := ~~~ reg 0xffffffff#32 b
noncomputable def s_Of : List DV → Prop × DV := spec1 eBs fun b => (b.length ≤ 4294967296, .int .u32 ((crcF b).toNat : Int))
theorem s_Of_at (b : List UInt8) : s_Of [.sl (bsl b)] = (b.length ≤ 4294967296, .int .u32 ((crcF b).toNat : Int)) := spec1_at inj_Bs _ b
noncomputable def s_rOf : List DV → Prop × DV := spec1 eBs fun b => (b.length ≤ 4294967296, .int .u32 ((crcF b).toNat : Int))
theorem s_rOf_at (b : List UInt8) : s_rOf [.sl (bsl b)] = (b.length ≤ 4294967296, .int .u32 ((crcF b).toNat : Int)) := spec1_at inj_Bs _ b
theorem okS_new : okS newS := ⟨by simp [newS], rfl, fun h => absurd rfl h⟩
theorem ok_crc_Of : OkP Tryz.prog 62 s_Of := by
  refine OkP.mk1 (ps := []) (hs := [(110, s_New), (111, s_Add), (112, s_Value)]) trivial ⟨ok_New, ok_Add, ok_Value, trivial⟩ m_crc_Of fun b h => ?_
  have h : b.length ≤ 4294967296 := h
  have e1 := s_New_at []
  have e2 := s_Add_at (hp := [oS newS]) (n := 0) (s := newS) rfl b
  have e3 := s_Value_at (hp := [oS (addS newS b)]) (n := 0) (s := addS newS b) rfl
  have k1 := okS_new
  have k2 : (addS newS b).t.length = 256 := (okS_add k1 (b := b)).1
  have ev : valF (addS newS b) = crcF b := rfl
  
  (have hcondQ := Bool.and_self; refine Todo.of ?_); (repeat' (first | ((with_reducible refine Todo.to ?_); (repeat (first | (simp only [↓rP, rT, rU, eBs, dvalX, dval, retV, DR.val, fzT, fzV, fz1, DV.immB, Nat.reduceEqDiff, ↓reduceIte, reduceCtorEq, d_crc_Of, e1, e2, e3, k1, k2, h, ev ]) | (simp (disch := omega) only [i64_id, u64_id, u8_id, getD_map'])))) | ((with_reducible refine And.intro ?_ ?_); · first | trivial | omega | (simp; done) | (simp; omega)) | (((with_reducible refine dwp_condA ?_ ?_ ?_); · rfl) <;> (refine Todo.of ?_)))) <;> (try (first | (with_reducible rfl) | exact Nat.le_refl _ | exact Int.le_refl _ | assumption | omega))

theorem n_rem2 (x : BitVec 32) : (Int.tmod (x.toNat : Int) 2 == 1) = decide (x &&& 1#32 = 1#32) := by
  rw [Int.tmod_eq_emod_of_nonneg (by omega)]
  have e : (x &&& 1#32 = 1#32) ↔ x.toNat % 2 = 1 := by
    rw [← BitVec.toNat_inj, BitVec.toNat_and, show (1#32).toNat = 2 ^ 1 - 1 from rfl, Nat.and_two_pow_sub_one_eq_mod]
  by_cases h : x &&& 1#32 = 1#32
  · rw [decide_eq_true h]; have := e.1 h; simp only [beq_iff_eq]; omega
  · rw [decide_eq_false h]; have hn : ¬ x.toNat % 2 = 1 := fun k => h (e.2 k); simp only [beq_eq_false_iff_ne]; omega
theorem n_quo2 (x : BitVec 32) : IntKind.u32.wrap (Int.tdiv (x.toNat : Int) 2) = ((x >>> 1).toNat : Int) := by
  have h := x.isLt
  have e : Int.tdiv (x.toNat : Int) 2 = ((x.toNat / 2 : Nat) : Int) := by rw [Int.tdiv_eq_ediv_of_nonneg (by omega)]; rfl
  rw [e, u32w ⟨by omega, by omega⟩, BitVec.toNat_ushiftRight, Nat.shiftRight_eq_div_pow]
theorem n_conv (c : UInt8) : IntKind.u32.wrap (c.toNat : Int) = ((BitVec.ofNat 32 c.toNat).toNat : Int) := by
  have := c.toNat_lt
  rw [u32w (by omega), BitVec.toNat_ofNat]; omega
theorem n_sub (x : BitVec 32) : IntKind.u32.wrap (4294967295 - (x.toNat : Int)) = ((~~~ x).toNat : Int) := by
  have := x.isLt
  rw [u32w (by omega), BitVec.toNat_not]; omega
theorem ok_noriaref02_Of : OkP Tryz.prog 73 s_rOf := by
  refine OkP.mk1 (ps := []) (hs := []) trivial trivial m_noriaref02_Of fun b h => ?_
  try dsimp only at h
  (have hcondQ := Bool.and_self; refine Todo.of ?_); (repeat' (first | ((with_reducible refine Todo.to ?_); (repeat (first | (simp only [↓rP, rT, eBs, dvalX, dval, d_noriaref02_Of ]) | (simp (disch := omega) only [i64_id, u64_id, u8_id, getD_map'])))) | ((with_reducible refine And.intro ?_ ?_); · first | trivial | omega | (simp; done) | (simp; omega)) | (((with_reducible refine dwp_condA ?_ ?_ ?_); · rfl) <;> (refine Todo.of ?_)))) <;> (try (first | (with_reducible rfl) | exact Nat.le_refl _ | exact Int.le_refl _ | assumption | omega))
  refine dwp_loop (fun k : Nat => ⟨[(0, .sl (bsl b)), (3, .int .u32 ((reg 0xffffffff#32 (b.take k)).toNat : Int)), (4, .int .i64 k)], []⟩) (fun k => k ≤ b.length) (fun k => b.length - k) 0 (Nat.le_refl _) (by simp only [cut_some, List.map_cons, List.map_nil, get_cons, Nk.get_nil, Nat.reduceEqDiff, ↓reduceIte, DV.cut, DV.inB, List.take_nil, List.take_zero, reduceCtorEq]; rfl) (Nat.zero_le _) fun k hk => ?_
  by_cases d : k < b.length
  rotate_left
  · rw [List.take_of_length_le (by omega)]
    (have hcondQ := Bool.and_self; refine Todo.of ?_); (repeat' (first | ((with_reducible refine Todo.to ?_); (repeat (first | (simp only [↓rP, rT, rU, dvalX, dval, dBin, dInt, retV, DR.val, fzT, fzV, fz1, DV.immB, Nat.reduceEqDiff, ↓reduceIte, reduceCtorEq, d, n_sub, crcF ]) | (simp (disch := omega) only [i64_id, u64_id, u8_id, getD_map'])))) | ((with_reducible refine And.intro ?_ ?_); · first | trivial | omega | (simp; done) | (simp; omega)) | (((with_reducible refine dwp_condA ?_ ?_ ?_); · rfl) <;> (refine Todo.of ?_)))) <;> (try (first | (with_reducible rfl) | exact Nat.le_refl _ | exact Int.le_refl _ | assumption | omega))
  have k0 : (0 : Int) ≤ k := Int.natCast_nonneg k
  have w1 : IntKind.i64.wrap ((k : Int) + 1) = ((k + 1 : Nat) : Int) := by rw [wrap_i64_id (by omega)]; omega
  have bg : (bsl b).getD k [] = [.int .u8 ((b.getD k 0).toNat : Int)] := bsl_getD d
  have rt := reg_take (r := 0xffffffff#32) d
  generalize reg 0xffffffff#32 (b.take k) = r at *
  (have hcondQ := Bool.and_self; refine Todo.of ?_); (repeat' (first | ((with_reducible refine Todo.to ?_); (repeat (first | (simp only [↓rP, rT, rU, dvalX, dval, dBin, dInt, dLoad, cellsAt, Nat.reduceEqDiff, ↓reduceIte, reduceCtorEq, d, bg, n_conv, n_xor ]) | (simp (disch := omega) only [i64_id, u64_id, u8_id, getD_map'])))) | ((with_reducible refine And.intro ?_ ?_); · first | trivial | omega | (simp; done) | (simp; omega)) | (((with_reducible refine dwp_condA ?_ ?_ ?_); · rfl) <;> (refine Todo.of ?_)))) <;> (try (first | (with_reducible rfl) | exact Nat.le_refl _ | exact Int.le_refl _ | assumption | omega))
  refine dwp_loop (fun j : Nat => ⟨[(0, .sl (bsl b)), (3, .int .u32 ((it j (r ^^^ BitVec.ofNat 32 (b.getD k 0).toNat)).toNat : Int)), (4, .int .i64 k), (5, .int .i64 j)], []⟩) (fun j => j ≤ 8) (fun j => 8 - j) 0 (Nat.le_refl _) (by simp only [cut_some, List.map_cons, List.map_nil, get_cons, Nk.get_nil, Nat.reduceEqDiff, ↓reduceIte, Nat.succ_ne_self, DV.cut, DV.inB, List.take_nil, reduceCtorEq]; rfl) (Nat.zero_le _) fun j hj => ?_
  by_cases dj : j < 8
  · have w2 : IntKind.i64.wrap ((j : Int) + 1) = ((j + 1 : Nat) : Int) := by rw [wrap_i64_id (by omega)]; omega
    have is := it_succ j (r ^^^ BitVec.ofNat 32 (b.getD k 0).toNat)
    generalize it j (r ^^^ BitVec.ofNat 32 (b.getD k 0).toNat) = v at *
    by_cases c : v &&& 1#32 = 1#32
    · (have hcondQ := Bool.and_self; refine Todo.of ?_); (repeat' (first | ((with_reducible refine Todo.to ?_); (repeat (first | (simp only [↓rP, rT, rU, dvalX, dval, dBin, dInt, Nat.reduceEqDiff, ↓reduceIte, reduceCtorEq, Int.reduceEq, w2, n_rem2, n_quo2, n_xorp, c , hcondQ]) | (simp (disch := omega) only [i64_id, u64_id, u8_id, getD_map'])))) | ((with_reducible refine And.intro ?_ ?_); · first | trivial | omega | (simp; done) | (simp; omega)) | ((first | ((with_reducible refine dwp_condI (t := ?_) ?_ (fun hcQ => ?_) (fun hcQ => ?_)); rotate_left; · rfl) | ((with_reducible refine dops_guardI (t := ?_) ?_ (fun hcQ => ?_) (fun hcQ => ?_)); rotate_left; · rfl)) <;> (have hn := hcQ; have hcondQ := hcQ) <;> (try simp only [decide_eq_true_eq, decide_eq_false_iff_not] at hn) <;> (try (exfalso; omega)) <;> (refine Todo.of ?_)) | (((with_reducible refine dwp_condA ?_ ?_ ?_); · rfl) <;> (refine Todo.of ?_)))) <;> (try (first | (with_reducible rfl) | exact Nat.le_refl _ | exact Int.le_refl _ | assumption | omega))
      refine ⟨j + 1, ?_, by omega, by omega⟩
      simp only [cut_some, List.map_cons, List.map_nil, get_cons, Nk.get_nil, Nat.reduceEqDiff, ↓reduceIte, Nat.succ_ne_self, DV.cut, DV.inB, List.take_nil, reduceCtorEq, is, T_odd c]
    · (have hcondQ := Bool.and_self; refine Todo.of ?_); (repeat' (first | ((with_reducible refine Todo.to ?_); (repeat (first | (simp only [↓rP, rT, rU, dvalX, dval, dBin, dInt, Nat.reduceEqDiff, ↓reduceIte, reduceCtorEq, Int.reduceEq, w2, n_rem2, n_quo2, c , hcondQ]) | (simp (disch := omega) only [i64_id, u64_id, u8_id, getD_map'])))) | ((with_reducible refine And.intro ?_ ?_); · first | trivial | omega | (simp; done) | (simp; omega)) | ((first | ((with_reducible refine dwp_condI (t := ?_) ?_ (fun hcQ => ?_) (fun hcQ => ?_)); rotate_left; · rfl) | ((with_reducible refine dops_guardI (t := ?_) ?_ (fun hcQ => ?_) (fun hcQ => ?_)); rotate_left; · rfl)) <;> (have hn := hcQ; have hcondQ := hcQ) <;> (try simp only [decide_eq_true_eq, decide_eq_false_iff_not] at hn) <;> (try (exfalso; omega)) <;> (refine Todo.of ?_)) | (((with_reducible refine dwp_condA ?_ ?_ ?_); · rfl) <;> (refine Todo.of ?_)))) <;> (try (first | (with_reducible rfl) | exact Nat.le_refl _ | exact Int.le_refl _ | assumption | omega))
      refine ⟨j + 1, ?_, by omega, by omega⟩
      simp only [cut_some, List.map_cons, List.map_nil, get_cons, Nk.get_nil, Nat.reduceEqDiff, ↓reduceIte, Nat.succ_ne_self, DV.cut, DV.inB, List.take_nil, reduceCtorEq, is, T_even c]
  · have hj8 : j = 8 := by omega
    subst hj8
    (have hcondQ := Bool.and_self; refine Todo.of ?_); (repeat' (first | ((with_reducible refine Todo.to ?_); (repeat (first | (simp only [↓rP, rT, rU, dvalX, dval, dBin, dInt, Nat.reduceEqDiff, ↓reduceIte, reduceCtorEq, Nat.reduceSub, w1 ]) | (simp (disch := omega) only [i64_id, u64_id, u8_id, getD_map'])))) | ((with_reducible refine And.intro ?_ ?_); · first | trivial | omega | (simp; done) | (simp; omega)) | (((with_reducible refine dwp_condA ?_ ?_ ?_); · rfl) <;> (refine Todo.of ?_)))) <;> (try (first | (with_reducible rfl) | exact Nat.le_refl _ | exact Int.le_refl _ | assumption | omega))
    refine ⟨k + 1, ?_, by omega, by omega⟩
    rw [rt]
    simp only [cut_some, List.map_cons, List.map_nil, get_cons, Nk.get_nil, Nat.reduceEqDiff, ↓reduceIte, DV.cut, DV.inB, List.take_nil, reduceCtorEq]

/-! sealed, and opened -/
theorem bsl_byte (b : List UInt8) : ∀ e ∈ bsl b, ∃ n, e = [DV.int .u8 n] := by
  intro e he
  simp only [bsl, List.mem_map] at he
  obtain ⟨x, _, rfl⟩ := he
  exact ⟨_, rfl⟩
theorem b2f_bsl (b : List UInt8) : (bsl b).map b2f = b := by
  induction b with
  | nil => rfl
  | cons x b ih =>
    show b2f [.int .u8 (x.toNat : Int)] :: (bsl b).map b2f = _
    rw [ih]
    congr 1
    simp [b2f]
noncomputable def s_BEq : List DV → Prop × DV := spec2 eBs eBs fun a b => (True, .bool (a == b))
theorem s_BEq_at (a : List UInt8) (b : List UInt8) : s_BEq [.sl (bsl a), .sl (bsl b)] = (True, .bool (a == b)) := spec2_at inj_Bs inj_Bs _ a b
theorem ok_bytes_Equal : OkP Tryz.prog 74 s_BEq := by
  refine OkP.mk2 (ps := []) (hs := []) trivial trivial m_bytes_Equal fun a b _ => ?_
  have e1 : (∀ e ∈ bsl a, ∃ n, e = [DV.int .u8 n]) = True := eq_true (bsl_byte a)
  have e2 : (∀ e ∈ bsl b, ∃ n, e = [DV.int .u8 n]) = True := eq_true (bsl_byte b)
  (have hcondQ := Bool.and_self; refine Todo.of ?_); (repeat' (first | ((with_reducible refine Todo.to ?_); (repeat (first | (simp only [↓rP, rT, eBs, dvalX, dval, dBin, dStr, retV, DR.val, fzT, fzV, fz1, DV.immB, elemsOf, Nat.reduceEqDiff, ↓reduceIte, reduceCtorEq, d_bytes_Equal, e1, e2, b2f_bsl ]) | (simp (disch := omega) only [i64_id, u64_id, u8_id, getD_map'])))) | ((with_reducible refine And.intro ?_ ?_); · first | trivial | omega | (simp; done) | (simp; omega)) | (((with_reducible refine dwp_condA ?_ ?_ ?_); · rfl) <;> (refine Todo.of ?_)))) <;> (try (first | (with_reducible rfl) | exact Nat.le_refl _ | exact Int.le_refl _ | assumption | omega))
def sealF (b : List UInt8) : List UInt8 := b ++ tl (crcF b)
/-- What is opened. -/
def openF (b : List UInt8) : Option (List UInt8) := if 4 ≤ b.length ∧ tl (crcF (b.take (b.length - 4))) = b.drop (b.length - 4) then some (b.take (b.length - 4)) else none
def openB (b : List UInt8) : List UInt8 := (openF b).getD []
theorem tl_len (n : BitVec 32) : (tl n).length = 4 := tlk_len n 4
noncomputable def s_Seal : List DV → Prop × DV := spec1 eBs fun b => (b.length ≤ 100000000, .sl (bsl (sealF b)))
theorem s_Seal_at (b : List UInt8) : s_Seal [.sl (bsl b)] = (b.length ≤ 100000000, .sl (bsl (sealF b))) := spec1_at inj_Bs _ b
noncomputable def s_rSeal : List DV → Prop × DV := spec1 eBs fun b => (b.length ≤ 100000000, .sl (bsl (sealF b)))
theorem s_rSeal_at (b : List UInt8) : s_rSeal [.sl (bsl b)] = (b.length ≤ 100000000, .sl (bsl (sealF b))) := spec1_at inj_Bs _ b
noncomputable def s_Open : List DV → Prop × DV := spec1 eBs fun b => (b.length ≤ 100000000, .tup [.sl (bsl (openB b)), .bool (openF b).isSome])
theorem s_Open_at (b : List UInt8) : s_Open [.sl (bsl b)] = (b.length ≤ 100000000, .tup [.sl (bsl (openB b)), .bool (openF b).isSome]) := spec1_at inj_Bs _ b
theorem ok_crc_Seal : OkP Tryz.prog 22 s_Seal := by
  refine OkP.mk1 (ps := [(62, s_Of), (61, s_tail), (23, s_ConcatB)]) (hs := []) ⟨ok_crc_Of, ok_crc_tail, ok_slices_Concat_byte_byte, trivial⟩ trivial m_crc_Seal fun b h => ?_
  try dsimp only at h
  have e1 : [DV.sl (bsl b)] = cBs b := rfl
  have e2 := s_ConcatB_at [b, tl (crcF b)]
  have l1 := tl_len (crcF b)
  have ef : [b, tl (crcF b)].flatten = sealF b := by simp [sealF]
  have l2 : (sealF b).length = b.length + 4 := by simp [sealF, l1]
  rw [ef] at e2
  have h2 : (sealF b).length ≤ 1000000000 := by omega
  simp only [List.map_cons, List.map_nil] at e2
  (have hcondQ := Bool.and_self; refine Todo.of ?_); (repeat' (first | ((with_reducible refine Todo.to ?_); (repeat (first | (simp only [↓rP, rT, rU, eBs, dvalX, dval, retV, DR.val, fzT, fzVs, fzV, fz1, DV.immB, dCallP, viewVs, viewV, view1, noMemV, noMem, fzLL, fzL, bRow, bU, cellsOf, DV.isU, Nat.reduceEqDiff, Nat.reduceAdd, ↓reduceIte, reduceCtorEq, Nat.reduceLeDiff, forall_const, d_crc_Seal, s_Of_at, s_tail_at, e2, h2 , hcondQ]) | (simp (disch := omega) only [i64_id, u64_id, u8_id, getD_map'])))) | ((with_reducible refine And.intro ?_ ?_); · first | trivial | omega | (simp; done) | (simp; omega)) | (((with_reducible refine dwp_condA ?_ ?_ ?_); · rfl) <;> (refine Todo.of ?_)))) <;> (try (first | (with_reducible rfl) | exact Nat.le_refl _ | exact Int.le_refl _ | assumption | omega))
theorem ok_noriaref02_Seal : OkP Tryz.prog 32 s_rSeal := by
  refine OkP.mk1 (ps := [(73, s_rOf), (72, s_rTail)]) (hs := []) ⟨ok_noriaref02_Of, ok_noriaref02_tail, trivial⟩ trivial m_noriaref02_Seal fun b h => ?_
  try dsimp only at h
  have h : b.length ≤ 100000000 := h
  have l1 := tl_len (crcF b)
  have l3 : (bsl (b ++ tl (crcF b))).take (b.length + 4) = bsl (sealF b) := List.take_of_length_le (by rw [bsl_length, List.length_append, l1]; exact Nat.le_refl _)
  (have hcondQ := Bool.and_self; refine Todo.of ?_); (repeat' (first | ((with_reducible refine Todo.to ?_); (repeat (first | (simp only [↓rP, rT, rU, eBs, dvalX, dval, retV, DR.val, fzT, fzVs, fzV, fz1, DV.immB, dCallP, viewVs, viewV, view1, noMemV, noMem, elemsOf, dAppend, freezeAt, fzLL, lenMax, Nat.reduceEqDiff, ↓reduceIte, reduceCtorEq, Nat.reduceLeDiff, forall_const, d_noriaref02_Seal, s_rOf_at, s_rTail_at, bsl_rowsT, l1, l3, bsl_appendR ]) | (simp (disch := omega) only [i64_id, u64_id, u8_id, getD_map'])))) | ((with_reducible refine And.intro ?_ ?_); · first | trivial | omega | (simp; done) | (simp; omega)) | (((with_reducible refine dwp_condA ?_ ?_ ?_); · rfl) <;> (refine Todo.of ?_)))) <;> (try (first | (with_reducible rfl) | exact Nat.le_refl _ | exact Int.le_refl _ | assumption | omega))
theorem slice_bsH {hp : List DObj} {l : List UInt8} {b : Int} (h2 : 0 ≤ b) (h3 : b ≤ l.length) : dSlice hp 1 (.sl (bsl l)) none (some (.int .i64 b)) none = (True, .sl (bsl (l.take b.toNat))) := by
  simp only [dSlice, dBound, bsl_length, Option.isSome_none, Prod.mk.injEq]
  refine ⟨eq_true ⟨bsl_rows, trivial, trivial, trivial, by simp, Int.le_refl _, h2, Int.le_refl _, h3⟩, ?_⟩
  simp [bsl]
theorem slice_bsL {hp : List DObj} {l : List UInt8} {b : Int} (h2 : 0 ≤ b) (h3 : b ≤ l.length) : dSlice hp 1 (.sl (bsl l)) (some (.int .i64 b)) none none = (True, .sl (bsl (l.drop b.toNat))) := by
  simp only [dSlice, dBound, bsl_length, Option.isSome_none, Prod.mk.injEq]
  refine ⟨eq_true ⟨bsl_rows, trivial, trivial, trivial, by simp, h2, h3, Int.le_refl _, Int.le_refl _⟩, ?_⟩
  rw [Int.toNat_natCast, List.take_of_length_le (by rw [bsl_length]; exact Nat.le_refl _), bsl_drop]
theorem openF_no {b : List UInt8} (h : ¬ tl (crcF (b.take (b.length - 4))) = b.drop (b.length - 4)) : openF b = none := by
  unfold openF; rw [if_neg fun k => h k.2]
theorem openF_short {b : List UInt8} (h : b.length < 4) : openF b = none := by
  unfold openF; rw [if_neg fun k => by omega]
theorem openF_yes {b : List UInt8} (h4 : ¬ b.length < 4) (h : tl (crcF (b.take (b.length - 4))) = b.drop (b.length - 4)) : openF b = some (b.take (b.length - 4)) := by
  unfold openF; rw [if_pos ⟨by omega, h⟩]
theorem ok_crc_Open : OkP Tryz.prog 34 s_Open := by
  refine OkP.mk1 (ps := [(62, s_Of), (61, s_tail), (74, s_BEq), (64, (specB1 fClone))]) (hs := []) ⟨ok_crc_Of, ok_crc_tail, ok_bytes_Equal, ok_slices_Clone_byte_byte, trivial⟩ trivial m_crc_Open fun b h => ?_
  try dsimp only at h
  have h : b.length ≤ 100000000 := h
  by_cases h4 : b.length < 4
  · have eo := openF_short h4
    simp only [openB, eo, Option.getD_none, Option.isSome_none]
    (have hcondQ := Bool.and_self; refine Todo.of ?_); (repeat' (first | ((with_reducible refine Todo.to ?_); (repeat (first | (simp only [↓rP, rT, rU, eBs, dvalX, dval, dBin, dInt, retV, retL, DR.val, fzT, fzVs, fzV, fz1, DV.immB, Nat.reduceEqDiff, ↓reduceIte, reduceCtorEq, d_crc_Open, bsl , hcondQ]) | (simp (disch := omega) only [i64_id, u64_id, u8_id, getD_map'])))) | ((with_reducible refine And.intro ?_ ?_); · first | trivial | omega | (simp; done) | (simp; omega)) | ((first | ((with_reducible refine dwp_condI (t := ?_) ?_ (fun hcQ => ?_) (fun hcQ => ?_)); rotate_left; · rfl) | ((with_reducible refine dops_guardI (t := ?_) ?_ (fun hcQ => ?_) (fun hcQ => ?_)); rotate_left; · rfl)) <;> (have hn := hcQ; have hcondQ := hcQ) <;> (try simp only [decide_eq_true_eq, decide_eq_false_iff_not] at hn) <;> (try (exfalso; omega)) <;> (refine Todo.of ?_)) | (((with_reducible refine dwp_condA ?_ ?_ ?_); · rfl) <;> (refine Todo.of ?_)))) <;> (try (first | (with_reducible rfl) | exact Nat.le_refl _ | exact Int.le_refl _ | assumption | omega))
  have w : IntKind.i64.wrap ((b.length : Int) - 4) = ((b.length - 4 : Nat) : Int) := by rw [wrap_i64_id (by omega)]; omega
  have s1 := fun hp => slice_bsH (hp := hp) (l := b) (b := ((b.length - 4 : Nat) : Int)) (by omega) (by omega)
  have s2 := fun hp => slice_bsL (hp := hp) (l := b) (b := ((b.length - 4 : Nat) : Int)) (by omega) (by omega)
  rw [Int.toNat_natCast] at s1 s2
  have k1 : (b.take (b.length - 4)).length ≤ 4294967296 := by simp; omega
  by_cases c : tl (crcF (b.take (b.length - 4))) = b.drop (b.length - 4)
  · have eo := openF_yes h4 c
    simp only [openB, eo, Option.getD_some, Option.isSome_some]
    have c1 : (tl (crcF (b.take (b.length - 4))) == b.drop (b.length - 4)) = true := by simp [c]
    (have hcondQ := Bool.and_self; refine Todo.of ?_); (repeat' (first | ((with_reducible refine Todo.to ?_); (repeat (first | (simp only [↓rP, rT, rU, eBs, dvalX, dval, dBin, dInt, dUn, retV, retL, DR.val, fzT, fzVs, fzV, fz1, DV.immB, dCallP, viewVs, viewV, view1, noMemV, noMem, Nat.reduceEqDiff, ↓reduceIte, reduceCtorEq, d_crc_Open, s_Of_at, s_tail_at, s_BEq_at, w, s1, s2, k1, c1, fClone , hcondQ]) | (simp (disch := omega) only [i64_id, u64_id, u8_id, getD_map'])))) | ((with_reducible refine And.intro ?_ ?_); · first | trivial | omega | (simp; done) | (simp; omega)) | ((first | ((with_reducible refine dwp_condI (t := ?_) ?_ (fun hcQ => ?_) (fun hcQ => ?_)); rotate_left; · rfl) | ((with_reducible refine dops_guardI (t := ?_) ?_ (fun hcQ => ?_) (fun hcQ => ?_)); rotate_left; · rfl)) <;> (have hn := hcQ; have hcondQ := hcQ) <;> (try simp only [decide_eq_true_eq, decide_eq_false_iff_not] at hn) <;> (try (exfalso; omega)) <;> (refine Todo.of ?_)) | (((with_reducible refine dwp_condA ?_ ?_ ?_); · rfl) <;> (refine Todo.of ?_)))) <;> (try (first | (with_reducible rfl) | exact Nat.le_refl _ | exact Int.le_refl _ | assumption | omega))
  · have eo := openF_no c
    simp only [openB, eo, Option.getD_none, Option.isSome_none]
    have c1 : (tl (crcF (b.take (b.length - 4))) == b.drop (b.length - 4)) = false := by simp [c]
    (have hcondQ := Bool.and_self; refine Todo.of ?_); (repeat' (first | ((with_reducible refine Todo.to ?_); (repeat (first | (simp only [↓rP, rT, rU, eBs, dvalX, dval, dBin, dInt, dUn, retV, retL, DR.val, fzT, fzVs, fzV, fz1, DV.immB, dCallP, viewVs, viewV, view1, noMemV, noMem, Nat.reduceEqDiff, ↓reduceIte, reduceCtorEq, d_crc_Open, s_Of_at, s_tail_at, s_BEq_at, w, s1, s2, k1, c1, hcondQ]) | (simp (disch := omega) only [i64_id, u64_id, u8_id, getD_map'])))) | ((with_reducible refine And.intro ?_ ?_); · first | trivial | omega | (simp; done) | (simp; omega)) | ((first | ((with_reducible refine dwp_condI (t := ?_) ?_ (fun hcQ => ?_) (fun hcQ => ?_)); rotate_left; · rfl) | ((with_reducible refine dops_guardI (t := ?_) ?_ (fun hcQ => ?_) (fun hcQ => ?_)); rotate_left; · rfl)) <;> (have hn := hcQ; have hcondQ := hcQ) <;> (try simp only [decide_eq_true_eq, decide_eq_false_iff_not] at hn) <;> (try (exfalso; omega)) <;> (refine Todo.of ?_)) | (((with_reducible refine dwp_condA ?_ ?_ ?_); · rfl) <;> (refine Todo.of ?_)))) <;> (try (first | (with_reducible rfl) | exact Nat.le_refl _ | exact Int.le_refl _ | assumption | omega))
    all_goals rfl
end Go.Proofs.YtfaailjhioobhaaGreat

/- The page's example; CrcOpens. -/
set_option linter.all false
set_option maxRecDepth 20000
namespace Go.Proofs.YtfaailjhioobhaaGreat
open Go.Nk Crc0
theorem sealF_len (b : List UInt8) : (sealF b).length = b.length + 4 := by simp [sealF, tl_len]
end Go.Proofs.YtfaailjhioobhaaGreat

/- What is sealed is opened; a burst is told. -/
set_option linter.all false
set_option maxRecDepth 20000
namespace Go.Proofs.YtfaailjhioobhaaGreat
open Go.Nk Crc0

theorem open_seal (b : List UInt8) : openF (sealF b) = some b := by
  have l := sealF_len b
  have e1 : (sealF b).take ((sealF b).length - 4) = b := by rw [l]; simp [sealF]
  have e2 : (sealF b).drop ((sealF b).length - 4) = tl (crcF b) := by rw [l]; simp [sealF]
  unfold openF
  rw [e1, e2, if_pos ⟨by omega, rfl⟩]

/-! bits of bytes -/
end Go.Proofs.YtfaailjhioobhaaGreat

/- CrcTells. -/
set_option linter.all false
set_option maxRecDepth 20000
namespace Go.Proofs.YtfaailjhioobhaaGreat
open Go.Nk Crc0

end Go.Proofs.YtfaailjhioobhaaGreat

