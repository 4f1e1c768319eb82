/- An image's bytes: what they are. -/
import Derived.Test.YtfaailjhioobhaaGreatImJ
set_option linter.all false
set_option maxRecDepth 20000
namespace Go.Proofs.YtfaailjhioobhaaGreat
open Go.Nk

/-- The sections 1 to k, one behind the other. -/
def encG (x : Img) : Nat → Option (List UInt8)
  | 0 => some []
  | k + 1 => match encG x k with
    | none => none
    | some b => match secO x ((k + 1 : Nat) : Int) with
      | none => none
      | some c => some (b ++ putL (k + 1) 1 ++ putL c.length 4 ++ c)
def magicB : List UInt8 := [78, 79, 82, 49]
def encF (x : Img) : Option (List UInt8) := match encG x 6 with
  | none => none
  | some b => if (sealF (magicB ++ b)).length ≤ 131072 then some (sealF (magicB ++ b)) else none
structure okEnc (x : Img) : Prop where
  im : okIm x
  sz : szEns x.en + szPrts x.ins + szPrts x.outs + szSlts x.slots + 4 * x.loc.length ≤ 10000000
theorem encG_none {x : Img} {k : Nat} (h : encG x k = none) : ∀ n, k ≤ n → encG x n = none := by
  intro n hn
  induction hn with
  | refl => exact h
  | step _ ih => simp only [encG, ih]
theorem encF_none {x : Img} {k : Nat} (h : encG x k = none) (hk : k ≤ 6) : encF x = none := by
  unfold encF; rw [encG_none h 6 hk]
theorem encG_step {x : Img} {k : Nat} {b : List UInt8} (h : encG x k = some b) : encG x (k + 1) = match secO x ((k + 1 : Nat) : Int) with
      | none => none
      | some c => some (b ++ putL (k + 1) 1 ++ putL c.length 4 ++ c) := by
  simp only [encG, h]
theorem encF_great {x : Img} {b : List UInt8} (h : encG x 6 = some b) (hn : 131072 < ((magicB.length : Int) + b.length + 4)) : encF x = none := by
  unfold encF
  rw [h]
  simp only
  rw [if_neg (by rw [sealF_len, List.length_append]; omega)]
theorem encF_ok {x : Img} {b : List UInt8} (h : encG x 6 = some b) (hn : ¬ 131072 < ((magicB.length : Int) + b.length + 4)) : encF x = some (sealF (magicB ++ b)) := by
  unfold encF
  rw [h]
  simp only
  rw [if_pos (by rw [sealF_len, List.length_append]; omega)]
theorem encG_ne {x : Img} {k : Nat} {b : List UInt8} (h : encG x (k + 1) = some b) : b ≠ [] := by
  intro e
  subst e
  simp only [encG] at h
  split at h
  · cases h
  split at h
  · cases h
  · injection h with h
    have := congrArg List.length h
    simp only [List.length_append, putL_length, List.length_nil] at this
    omega
theorem putI_len {l : List In4} {c : List UInt8} (h : putI l = some c) : c.length ≤ 1400000 := by
  have e : (putI l).getD [] = c := by rw [h]; rfl
  rw [← e]
  unfold putI
  split
  · rename_i c
    simp only [Bool.and_eq_true, decide_eq_true_eq] at c
    have := (flat_len l).1
    simp only [Option.getD_some]
    omega
  · decide
theorem secO_len {x : Img} (h : okEnc x) {i : Int} {c : List UInt8} (e : secO x i = some c) : c.length ≤ 10000000 := by
  have l1 := stEns_len x.en
  have l2 := stPrts_len x.ins
  have l3 := stPrts_len x.outs
  have l4 := stSlts_len x.slots
  have l5 := stLocs_len x.loc
  have hs := h.sz
  have hst : ∀ {s : SW}, st2o s = some c → c = s.b := fun {s} e => by
    unfold st2o at e
    split at e
    · exact (Option.some.inj e).symm
    · cases e
  unfold secO at e
  split at e
  · rw [hst e]; omega
  split at e
  · rw [hst e]; omega
  split at e
  · rw [hst e]; omega
  split at e
  · rw [hst e]; omega
  split at e
  · rw [hst e]; unfold szEns szPrts szSlts at hs; omega
  · have := putI_len e; omega
theorem stPart_st {b c : List UInt8} {k : Nat} (hk : k < 256) (hc : c.length ≤ 4294967295) : stPart c (stNum k 1 ⟨b, true⟩) = ⟨b ++ putL k 1 ++ putL c.length 4 ++ c, true⟩ := by
  have e1 : wNum b k 1 = some (b ++ putL k 1) := by
    unfold wNum; rw [if_neg (by simp; omega)]; rfl
  have e2 : wNum (b ++ putL k 1) c.length 4 = some (b ++ putL k 1 ++ putL c.length 4) := by
    unfold wNum; rw [if_neg (by simp; omega)]; rfl
  simp only [stPart, stNum, nxW, ↓reduceIte, e1, wLen, e2]
end Go.Proofs.YtfaailjhioobhaaGreat

/- An image's bytes, by the program. -/
set_option linter.all false
set_option maxRecDepth 20000
namespace Go.Proofs.YtfaailjhioobhaaGreat
open Go.Nk

def encH (x : Img) (s : SW) : List DObj := [⟨.loc, 6, [cImg x]⟩, ⟨.loc, 2, [rowW true 2 s]⟩, ⟨.imm, 1, bsl s.b⟩]
theorem encH_hx (x : Img) (s s' : SW) : hx true (encH x s) 1 2 s' = encH x s' := rfl
theorem encH_len (x : Img) (s : SW) : (encH x s).length = 3 := rfl
theorem encH_num (x : Img) (s : SW) (k z : Int) (hb : s.b.length + 4 ≤ 4294967296) (hk : k < 9223372036854775808) : s_wNum [.ptr 1 1 0 0, .int .i64 k, .int .i64 z] (encH x s) = ⟨True, .tup [], encH x (stNum k z s)⟩ := by
  have := hx_num (hp := encH x s) (n := 1) (m := 2) (by rw [encH_len]; decide) (by rw [encH_len]; decide) (by decide) s [] k z hb hk
  simpa only [encH_hx, List.append_nil] using this
theorem encH_part (x : Img) (s : SW) (c : List UInt8) (hb : s.b.length + c.length + 20 ≤ 4294967296) : s_wPart [.ptr 1 1 0 0, .sl (bsl c)] (encH x s) = ⟨True, .tup [], encH x (stPart c s)⟩ := by
  have := hx_part (hp := encH x s) (n := 1) (m := 2) (by rw [encH_len]; decide) (by rw [encH_len]; decide) (by decide) s [] c hb
  simpa only [encH_hx, List.append_nil] using this
theorem encH_bytes {x : Img} {b : List UInt8} (t : List DObj) (hn : b ≠ []) (hb : b.length ≤ 4294967296) : s_wBytes [.ptr 1 1 0 0] (encH x ⟨b, true⟩ ++ t) = ⟨True, .own (3 + t.length) b.length 0 b.length, encH x ⟨b, true⟩ ++ (t ++ [⟨.imm, 1, bsl b⟩])⟩ := by
  refine (s_wBytes_at (hp := encH x ⟨b, true⟩ ++ t) (n := 1) (m := 2) (b := b) ⟨rfl, rfl, by decide⟩).trans ?_
  rw [eq_true (show b ≠ [] ∧ b.length ≤ 4294967296 from ⟨hn, hb⟩)]
  simp [encH_len]
noncomputable def s_Enc : List DV → Prop × DV := spec1 eImg fun x => (okEnc x, putV (encF x))
theorem s_Enc_at (x : Img) : s_Enc [.agg (cImg x)] = (okEnc x, putV (encF x)) := spec1_at inj_Img _ x
set_option maxHeartbeats 4000000 in
theorem ok_image_Encode : OkP Tryz.prog 9 s_Enc := by
  refine OkP.mk1 (ps := [(19, s_sec), (22, s_Seal), (23, s_ConcatB)]) (hs := [(18, s_wNew), (20, s_wNum), (21, s_wPart), (24, s_wBytes)]) ⟨ok_image_section, ok_crc_Seal, ok_slices_Concat_byte_byte, trivial⟩ ⟨ok_wNew, ok_wNum, ok_wPart, ok_wBytes, trivial⟩ m_image_Encode fun x h => ?_
  
  (have hcondQ := Bool.and_self; refine Todo.of ?_); (repeat' (first | ((with_reducible refine Todo.to ?_); (repeat (first | (simp only [↓rP, rT, rU, eA, dvalX, dval, DV.one, cellsOf, Nat.reduceAdd, ↓reduceIte, forall_const, d_image_Encode, eImg, s_wNew_at ]) | (simp (disch := omega) only [i64_id, u64_id, u8_id, getD_map'])))) | ((with_reducible refine And.intro ?_ ?_); · first | trivial | omega | (simp; done) | (simp; omega)) | (((with_reducible refine dwp_condA ?_ ?_ ?_); · rfl) <;> (refine Todo.of ?_)))) <;> (try (first | (with_reducible rfl) | exact Nat.le_refl _ | exact Int.le_refl _ | assumption | omega))
  refine dwp_gown_grow ?_
  (have hcondQ := Bool.and_self; refine Todo.of ?_); (repeat' (first | ((with_reducible refine Todo.to ?_); (repeat (first | (simp only [↓rP, rT, rU, dvalX, dval, Nat.reduceAdd, ↓reduceIte ]) | (simp (disch := omega) only [i64_id, u64_id, u8_id, getD_map'])))) | ((with_reducible refine And.intro ?_ ?_); · first | trivial | omega | (simp; done) | (simp; omega)) | (((with_reducible refine dwp_condA ?_ ?_ ?_); · rfl) <;> (refine Todo.of ?_)))) <;> (try (first | (with_reducible rfl) | exact Nat.le_refl _ | exact Int.le_refl _ | assumption | omega))
  refine dwp_each [1, 2, 3, 4, 5, 6] (fun k (b : List UInt8) => ⟨[(1, .ptr 0 1 0 0), (4, .ptr 1 1 0 0), (10, .int .i64 k)], encH x ⟨b, true⟩⟩) (fun k (_ : List Nat) b => b.length ≤ 10000010 * k ∧ encG x k = some b) [] trivial (by simp only [cut_none, List.map_cons, List.map_nil, get_cons, Nk.get_nil, Nat.reduceEqDiff, ↓reduceIte] <;> rfl) ⟨by simp, rfl⟩ (fun k e r b d hge hd hr => ?_) fun k b hk hr => ?_
  · obtain ⟨hr1, hr2⟩ := hr
    simp only [List.length_cons, List.length_nil, Nat.zero_add, Nat.reduceAdd] at d
    have wk := wk_of d (by omega)
    have q0 := s_sec_at x ((k + 1 : Nat) : Int)
    rw [eq_true h.im] at q0
    simp only [cImg] at q0
    have hs := encG_step hr2
    have d' : decide ((k : Int) < 6) = true := decide_eq_true (by omega)
    cases e1 : secO x ((k + 1 : Nat) : Int) with
    | none =>
      rw [e1] at hs q0
      simp only [putV, Option.getD_none, Option.isSome_none] at q0
      have he := encF_none (k := k + 1) hs (by omega)
      (have hcondQ := Bool.and_self; refine Todo.of ?_); (repeat' (first | ((with_reducible refine Todo.to ?_); (repeat (first | (simp only [↓rP, rT, rU, dvalX, dval, dBin, dInt, dUn, dLoad, cellsAt, retV, retL, DR.val, fzT, fzVs, fzV, fz1, DV.immB, dCallP, viewVs, viewV, view1, viewL, noMemV, noMem, fzL, Nat.reduceEqDiff, Nat.reduceAdd, ↓reduceIte, reduceCtorEq, Nat.reduceLeDiff, Nat.reduceLT, d', wk, encH, q0, he, putV, Option.getD_none, Option.isSome_none , hcondQ]) | (simp (disch := omega) only [i64_id, u64_id, u8_id, getD_map'])))) | ((with_reducible refine And.intro ?_ ?_); · first | trivial | omega | (simp; done) | (simp; omega)) | (((with_reducible refine dwp_condA ?_ ?_ ?_); · rfl) <;> (refine Todo.of ?_)))) <;> (try (first | (with_reducible rfl) | exact Nat.le_refl _ | exact Int.le_refl _ | assumption | omega))
      rfl
    | some c =>
      rw [e1] at hs q0
      simp only [putV, Option.getD_some, Option.isSome_some] at hs q0
      have hl := secO_len h e1
      have q1 := encH_num x ⟨b, true⟩ ((k + 1 : Nat) : Int) 1 (by simp only; omega) (by omega)
      have l1 := stNum_len ((k + 1 : Nat) : Int) 1 ⟨b, true⟩
      simp only at l1
      have q2 := encH_part x (stNum ((k + 1 : Nat) : Int) 1 ⟨b, true⟩) c (by omega)
      have e2 := stPart_st (b := b) (c := c) (k := k + 1) (by omega) (by omega)
      rw [e2] at q2
      have h0 : ∀ s, (encH x s)[0]? = some ⟨.loc, 6, [cImg x]⟩ := fun _ => rfl
      (have hcondQ := Bool.and_self; refine Todo.of ?_); (repeat' (first | ((with_reducible refine Todo.to ?_); (repeat (first | (simp only [↓rP, rT, rU, dvalX, dval, dBin, dInt, dUn, dLoad, cellsAt, fzVs, fzV, fz1, DV.immB, dCallP, viewVs, viewV, view1, viewL, noMemV, noMem, fzL, Nat.reduceEqDiff, Nat.reduceAdd, ↓reduceIte, reduceCtorEq, Nat.reduceLeDiff, Nat.reduceLT, d', wk, h0, q0, q1, q2, putV, hcondQ]) | (simp (disch := omega) only [i64_id, u64_id, u8_id, getD_map'])))) | ((with_reducible refine And.intro ?_ ?_); · first | trivial | omega | (simp; done) | (simp; omega)) | (((with_reducible refine dwp_condA ?_ ?_ ?_); · rfl) <;> (refine Todo.of ?_)))) <;> (try (first | (with_reducible rfl) | exact Nat.le_refl _ | exact Int.le_refl _ | assumption | omega))
      exact ⟨_, by simp only [cut_none, List.map_cons, List.map_nil, get_cons, Nk.get_nil, Nat.reduceEqDiff, ↓reduceIte, Int.natCast_add, Int.natCast_one] <;> rfl, by simp [putL_length]; omega, hs⟩
  · obtain ⟨hr1, hr2⟩ := hr
    simp only [List.length_cons, List.length_nil, Nat.zero_add, Nat.reduceAdd] at hk
    subst hk
    have hb := fun t => encH_bytes (x := x) (b := b) t (encG_ne hr2) (by omega)
    have h3 : ∀ s o t, (encH x s ++ (o :: t))[3]? = some o := fun _ _ _ => rfl
    have h4 : ∀ s o o' t, (encH x s ++ (o :: o' :: t))[4]? = some o' := fun _ _ _ _ => rfl
    have h3s : ∀ s o o' t, (encH x s ++ (o :: t)).set 3 o' = encH x s ++ (o' :: t) := fun _ _ _ _ => rfl
    have hf : [magicB, b].flatten = magicB ++ b := by simp
    have hl := sealF_len (magicB ++ b)
    have hs := s_Seal_at (magicB ++ b)
    rw [eq_true (show (magicB ++ b).length ≤ 100000000 by simp [magicB]; omega)] at hs
    have hc := s_ConcatB_at [magicB, b]
    rw [eq_true (show [magicB, b].length ≤ 1000000 ∧ [magicB, b].flatten.length ≤ 1000000000 by simp [magicB]; omega)] at hc
    rw [hf] at hc
    have hc' : s_ConcatB [.sl [[.sl [[DV.int .u8 78], [DV.int .u8 79], [DV.int .u8 82], [DV.int .u8 49]]], [.sl (bsl b)]]] = (True, .sl (bsl (magicB ++ b))) := hc
    (have hcondQ := Bool.and_self; refine Todo.of ?_); (repeat' (first | ((with_reducible refine Todo.to ?_); (repeat (first | (simp only [↓rP, rT, rU, dvalX, dval, dBin, dInt, retV, retL, DR.val, fzT, fzVs, fzV, fz1, DV.immB, dCallP, viewVs, viewV, view1, noMemV, noMem, elemsOf, freezeAt, fzLL, fzL, bRow, bU, cellsOf, DV.isU, Nat.reduceEqDiff, Nat.reduceAdd, ↓reduceIte, reduceCtorEq, Nat.reduceLT, forall_const, bsl_tk, encH_len, hb, h3, h3s, h4, hc', hs, hl , hcondQ]) | (simp (disch := omega) only [i64_id, u64_id, u8_id, getD_map'])))) | ((with_reducible refine And.intro ?_ ?_); · first | trivial | omega | (simp; done) | (simp; omega)) | ((first | ((with_reducible refine dwp_condI (t := ?_) ?_ (fun hcQ => ?_) (fun hcQ => ?_)); rotate_left; · rfl) | ((with_reducible refine dops_guardI (t := ?_) ?_ (fun hcQ => ?_) (fun hcQ => ?_)); rotate_left; · rfl)) <;> (have hn := hcQ; have hcondQ := hcQ) <;> (try simp only [decide_eq_true_eq, decide_eq_false_iff_not] at hn) <;> (try (exfalso; omega)) <;> (refine Todo.of ?_)) | (((with_reducible refine dwp_condA ?_ ?_ ?_); · rfl) <;> (refine Todo.of ?_)))) <;> (try (first | (with_reducible rfl) | exact Nat.le_refl _ | exact Int.le_refl _ | assumption | omega))
    · rw [encF_great hr2 (by omega)]; rfl
    · rw [encF_ok hr2 (by omega)]; rfl
end Go.Proofs.YtfaailjhioobhaaGreat

/- An image's bytes, by the reference. -/
set_option linter.all false
set_option maxRecDepth 20000
namespace Go.Proofs.YtfaailjhioobhaaGreat
open Go.Nk

section
variable (n : Nat) (i : DObj) (s1 s2 s3 s4 s5 : SW) (c : List UInt8) (s : SW)
end
end Go.Proofs.YtfaailjhioobhaaGreat

