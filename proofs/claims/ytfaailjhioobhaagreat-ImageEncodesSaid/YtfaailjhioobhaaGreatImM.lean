/- An image's bytes: what they are. -/
import Derived.Test.YtfaailjhioobhaaGreatImJ
set_option linter.all false
set_option maxRecDepth 20000
namespace Go.Proofs.YtfaailjhioobhaaGreat
open Go.Nk

/-- The sections 1 to k, one behind the other. -/
def encG (x : Img) : Nat → Option (List UInt8)
  | 0 => some []
  | k + 1 => match encG x k with
    | none => none
    | some b => match secO x ((k + 1 : Nat) : Int) with
      | none => none
      | some c => some (b ++ putL (k + 1) 1 ++ putL c.length 4 ++ c)
def magicB : List UInt8 := [78, 79, 82, 49]
def encF (x : Img) : Option (List UInt8) := match encG x 6 with
  | none => none
  | some b => if (sealF (magicB ++ b)).length ≤ 131072 then some (sealF (magicB ++ b)) else none
structure okEnc (x : Img) : Prop where
  im : okIm x
  sz : szEns x.en + szPrts x.ins + szPrts x.outs + szSlts x.slots + 4 * x.loc.length ≤ 10000000
theorem encG_none {x : Img} {k : Nat} (h : encG x k = none) : ∀ n, k ≤ n → encG x n = none := by
  intro n hn
  induction hn with
  | refl => exact h
  | step _ ih => simp only [encG, ih]
theorem encF_none {x : Img} {k : Nat} (h : encG x k = none) (hk : k ≤ 6) : encF x = none := by
  unfold encF; rw [encG_none h 6 hk]
theorem encG_step {x : Img} {k : Nat} {b : List UInt8} (h : encG x k = some b) : encG x (k + 1) = match secO x ((k + 1 : Nat) : Int) with
      | none => none
      | some c => some (b ++ putL (k + 1) 1 ++ putL c.length 4 ++ c) := by
  simp only [encG, h]
theorem encF_great {x : Img} {b : List UInt8} (h : encG x 6 = some b) (hn : 131072 < ((magicB.length : Int) + b.length + 4)) : encF x = none := by
  unfold encF
  rw [h]
  simp only
  rw [if_neg (by rw [sealF_len, List.length_append]; omega)]
theorem encF_ok {x : Img} {b : List UInt8} (h : encG x 6 = some b) (hn : ¬ 131072 < ((magicB.length : Int) + b.length + 4)) : encF x = some (sealF (magicB ++ b)) := by
  unfold encF
  rw [h]
  simp only
  rw [if_pos (by rw [sealF_len, List.length_append]; omega)]
theorem encG_ne {x : Img} {k : Nat} {b : List UInt8} (h : encG x (k + 1) = some b) : b ≠ [] := by
  intro e
  subst e
  simp only [encG] at h
  split at h
  · cases h
  split at h
  · cases h
  · injection h with h
    have := congrArg List.length h
    simp only [List.length_append, putL_length, List.length_nil] at this
    omega
theorem putI_len {l : List In4} {c : List UInt8} (h : putI l = some c) : c.length ≤ 1400000 := by
  have e : (putI l).getD [] = c := by rw [h]; rfl
  rw [← e]
  unfold putI
  split
  · rename_i c
    simp only [Bool.and_eq_true, decide_eq_true_eq] at c
    have := (flat_len l).1
    simp only [Option.getD_some]
    omega
  · decide
theorem secO_len {x : Img} (h : okEnc x) {i : Int} {c : List UInt8} (e : secO x i = some c) : c.length ≤ 10000000 := by
  have l1 := stEns_len x.en
  have l2 := stPrts_len x.ins
  have l3 := stPrts_len x.outs
  have l4 := stSlts_len x.slots
  have l5 := stLocs_len x.loc
  have hs := h.sz
  have hst : ∀ {s : SW}, st2o s = some c → c = s.b := fun {s} e => by
    unfold st2o at e
    split at e
    · exact (Option.some.inj e).symm
    · cases e
  unfold secO at e
  split at e
  · rw [hst e]; omega
  split at e
  · rw [hst e]; omega
  split at e
  · rw [hst e]; omega
  split at e
  · rw [hst e]; omega
  split at e
  · rw [hst e]; unfold szEns szPrts szSlts at hs; omega
  · have := putI_len e; omega
theorem stPart_st {b c : List UInt8} {k : Nat} (hk : k < 256) (hc : c.length ≤ 4294967295) : stPart c (stNum k 1 ⟨b, true⟩) = ⟨b ++ putL k 1 ++ putL c.length 4 ++ c, true⟩ := by
  have e1 : wNum b k 1 = some (b ++ putL k 1) := by
    unfold wNum; rw [if_neg (by simp; omega)]; rfl
  have e2 : wNum (b ++ putL k 1) c.length 4 = some (b ++ putL k 1 ++ putL c.length 4) := by
    unfold wNum; rw [if_neg (by simp; omega)]; rfl
  simp only [stPart, stNum, nxW, ↓reduceIte, e1, wLen, e2]
end Go.Proofs.YtfaailjhioobhaaGreat

/- An image's bytes, by the program. -/
set_option linter.all false
set_option maxRecDepth 20000
namespace Go.Proofs.YtfaailjhioobhaaGreat
open Go.Nk

def encH (x : Img) (s : SW) : List DObj := [⟨.loc, 6, [cImg x]⟩, ⟨.loc, 2, [rowW true 2 s]⟩, ⟨.imm, 1, bsl s.b⟩]
theorem encH_hx (x : Img) (s s' : SW) : hx true (encH x s) 1 2 s' = encH x s' := rfl
theorem encH_len (x : Img) (s : SW) : (encH x s).length = 3 := rfl
theorem encH_num (x : Img) (s : SW) (k z : Int) (hb : s.b.length + 4 ≤ 4294967296) (hk : k < 9223372036854775808) : s_wNum [.ptr 1 1 0 0, .int .i64 k, .int .i64 z] (encH x s) = ⟨True, .tup [], encH x (stNum k z s)⟩ := by
  have := hx_num (hp := encH x s) (n := 1) (m := 2) (by rw [encH_len]; decide) (by rw [encH_len]; decide) (by decide) s [] k z hb hk
  simpa only [encH_hx, List.append_nil] using this
theorem encH_part (x : Img) (s : SW) (c : List UInt8) (hb : s.b.length + c.length + 20 ≤ 4294967296) : s_wPart [.ptr 1 1 0 0, .sl (bsl c)] (encH x s) = ⟨True, .tup [], encH x (stPart c s)⟩ := by
  have := hx_part (hp := encH x s) (n := 1) (m := 2) (by rw [encH_len]; decide) (by rw [encH_len]; decide) (by decide) s [] c hb
  simpa only [encH_hx, List.append_nil] using this
theorem encH_bytes {x : Img} {b : List UInt8} (t : List DObj) (hn : b ≠ []) (hb : b.length ≤ 4294967296) : s_wBytes [.ptr 1 1 0 0] (encH x ⟨b, true⟩ ++ t) = ⟨True, .own (3 + t.length) b.length 0 b.length, encH x ⟨b, true⟩ ++ (t ++ [⟨.imm, 1, bsl b⟩])⟩ := by
  refine (s_wBytes_at (hp := encH x ⟨b, true⟩ ++ t) (n := 1) (m := 2) (b := b) ⟨rfl, rfl, by decide⟩).trans ?_
  rw [eq_true (show b ≠ [] ∧ b.length ≤ 4294967296 from ⟨hn, hb⟩)]
  simp [encH_len]
noncomputable def s_Enc : List DV → Prop × DV := spec1 eImg fun x => (okEnc x, putV (encF x))
theorem s_Enc_at (x : Img) : s_Enc [.agg (cImg x)] = (okEnc x, putV (encF x)) := spec1_at inj_Img _ x
set_option maxHeartbeats 4000000 in
theorem ok_image_Encode : OkP Tryz.prog 9 s_Enc := by
  refine OkP.mk1 (ps := [(19, s_sec), (22, s_Seal), (23, s_ConcatB)]) (hs := [(18, s_wNew), (20, s_wNum), (21, s_wPart), (24, s_wBytes)]) ⟨ok_image_section, ok_crc_Seal, ok_slices_Concat_byte_byte, trivial⟩ ⟨ok_wNew, ok_wNum, ok_wPart, ok_wBytes, trivial⟩ m_image_Encode fun x h => ?_
  
  (have hcondQ := Bool.and_self; refine Todo.of ?_); (repeat' (first | ((with_reducible refine Todo.to ?_); (repeat (first | (simp only [↓rP, rT, rU, eA, dvalX, dval, DV.one, cellsOf, Nat.reduceAdd, ↓reduceIte, forall_const, d_image_Encode, eImg, s_wNew_at ]) | (simp (disch := omega) only [i64_id, u64_id, u8_id, getD_map'])))) | ((with_reducible refine And.intro ?_ ?_); · first | trivial | omega | (simp; done) | (simp; omega)) | (((with_reducible refine dwp_condA ?_ ?_ ?_); · rfl) <;> (refine Todo.of ?_)))) <;> (try (first | (with_reducible rfl) | exact Nat.le_refl _ | exact Int.le_refl _ | assumption | omega))
  refine dwp_gown_grow ?_
  (have hcondQ := Bool.and_self; refine Todo.of ?_); (repeat' (first | ((with_reducible refine Todo.to ?_); (repeat (first | (simp only [↓rP, rT, rU, dvalX, dval, Nat.reduceAdd, ↓reduceIte ]) | (simp (disch := omega) only [i64_id, u64_id, u8_id, getD_map'])))) | ((with_reducible refine And.intro ?_ ?_); · first | trivial | omega | (simp; done) | (simp; omega)) | (((with_reducible refine dwp_condA ?_ ?_ ?_); · rfl) <;> (refine Todo.of ?_)))) <;> (try (first | (with_reducible rfl) | exact Nat.le_refl _ | exact Int.le_refl _ | assumption | omega))
  refine dwp_each [1, 2, 3, 4, 5, 6] (fun k (b : List UInt8) => ⟨[(1, .ptr 0 1 0 0), (4, .ptr 1 1 0 0), (10, .int .i64 k)], encH x ⟨b, true⟩⟩) (fun k (_ : List Nat) b => b.length ≤ 10000010 * k ∧ encG x k = some b) [] trivial (by simp only [cut_none, List.map_cons, List.map_nil, get_cons, Nk.get_nil, Nat.reduceEqDiff, ↓reduceIte] <;> rfl) ⟨by simp, rfl⟩ (fun k e r b d hge hd hr => ?_) fun k b hk hr => ?_
  · obtain ⟨hr1, hr2⟩ := hr
    simp only [List.length_cons, List.length_nil, Nat.zero_add, Nat.reduceAdd] at d
    have wk := wk_of d (by omega)
    have q0 := s_sec_at x ((k + 1 : Nat) : Int)
    rw [eq_true h.im] at q0
    simp only [cImg] at q0
    have hs := encG_step hr2
    have d' : decide ((k : Int) < 6) = true := decide_eq_true (by omega)
    cases e1 : secO x ((k + 1 : Nat) : Int) with
    | none =>
      rw [e1] at hs q0
      simp only [putV, Option.getD_none, Option.isSome_none] at q0
      have he := encF_none (k := k + 1) hs (by omega)
      (have hcondQ := Bool.and_self; refine Todo.of ?_); (repeat' (first | ((with_reducible refine Todo.to ?_); (repeat (first | (simp only [↓rP, rT, rU, dvalX, dval, dBin, dInt, dUn, dLoad, cellsAt, retV, retL, DR.val, fzT, fzVs, fzV, fz1, DV.immB, dCallP, viewVs, viewV, view1, viewL, noMemV, noMem, fzL, Nat.reduceEqDiff, Nat.reduceAdd, ↓reduceIte, reduceCtorEq, Nat.reduceLeDiff, Nat.reduceLT, d', wk, encH, q0, he, putV, Option.getD_none, Option.isSome_none , hcondQ]) | (simp (disch := omega) only [i64_id, u64_id, u8_id, getD_map'])))) | ((with_reducible refine And.intro ?_ ?_); · first | trivial | omega | (simp; done) | (simp; omega)) | (((with_reducible refine dwp_condA ?_ ?_ ?_); · rfl) <;> (refine Todo.of ?_)))) <;> (try (first | (with_reducible rfl) | exact Nat.le_refl _ | exact Int.le_refl _ | assumption | omega))
      rfl
    | some c =>
      rw [e1] at hs q0
      simp only [putV, Option.getD_some, Option.isSome_some] at hs q0
      have hl := secO_len h e1
      have q1 := encH_num x ⟨b, true⟩ ((k + 1 : Nat) : Int) 1 (by simp only; omega) (by omega)
      have l1 := stNum_len ((k + 1 : Nat) : Int) 1 ⟨b, true⟩
      simp only at l1
      have q2 := encH_part x (stNum ((k + 1 : Nat) : Int) 1 ⟨b, true⟩) c (by omega)
      have e2 := stPart_st (b := b) (c := c) (k := k + 1) (by omega) (by omega)
      rw [e2] at q2
      have h0 : ∀ s, (encH x s)[0]? = some ⟨.loc, 6, [cImg x]⟩ := fun _ => rfl
      (have hcondQ := Bool.and_self; refine Todo.of ?_); (repeat' (first | ((with_reducible refine Todo.to ?_); (repeat (first | (simp only [↓rP, rT, rU, dvalX, dval, dBin, dInt, dUn, dLoad, cellsAt, fzVs, fzV, fz1, DV.immB, dCallP, viewVs, viewV, view1, viewL, noMemV, noMem, fzL, Nat.reduceEqDiff, Nat.reduceAdd, ↓reduceIte, reduceCtorEq, Nat.reduceLeDiff, Nat.reduceLT, d', wk, h0, q0, q1, q2, putV, hcondQ]) | (simp (disch := omega) only [i64_id, u64_id, u8_id, getD_map'])))) | ((with_reducible refine And.intro ?_ ?_); · first | trivial | omega | (simp; done) | (simp; omega)) | (((with_reducible refine dwp_condA ?_ ?_ ?_); · rfl) <;> (refine Todo.of ?_)))) <;> (try (first | (with_reducible rfl) | exact Nat.le_refl _ | exact Int.le_refl _ | assumption | omega))
      exact ⟨_, by simp only [cut_none, List.map_cons, List.map_nil, get_cons, Nk.get_nil, Nat.reduceEqDiff, ↓reduceIte, Int.natCast_add, Int.natCast_one] <;> rfl, by simp [putL_length]; omega, hs⟩
  · obtain ⟨hr1, hr2⟩ := hr
    simp only [List.length_cons, List.length_nil, Nat.zero_add, Nat.reduceAdd] at hk
    subst hk
    have hb := fun t => encH_bytes (x := x) (b := b) t (encG_ne hr2) (by omega)
    have h3 : ∀ s o t, (encH x s ++ (o :: t))[3]? = some o := fun _ _ _ => rfl
    have h4 : ∀ s o o' t, (encH x s ++ (o :: o' :: t))[4]? = some o' := fun _ _ _ _ => rfl
    have h3s : ∀ s o o' t, (encH x s ++ (o :: t)).set 3 o' = encH x s ++ (o' :: t) := fun _ _ _ _ => rfl
    have hf : [magicB, b].flatten = magicB ++ b := by simp
    have hl := sealF_len (magicB ++ b)
    have hs := s_Seal_at (magicB ++ b)
    rw [eq_true (show (magicB ++ b).length ≤ 100000000 by simp [magicB]; omega)] at hs
    have hc := s_ConcatB_at [magicB, b]
    rw [eq_true (show [magicB, b].length ≤ 1000000 ∧ [magicB, b].flatten.length ≤ 1000000000 by simp [magicB]; omega)] at hc
    rw [hf] at hc
    have hc' : s_ConcatB [.sl [[.sl [[DV.int .u8 78], [DV.int .u8 79], [DV.int .u8 82], [DV.int .u8 49]]], [.sl (bsl b)]]] = (True, .sl (bsl (magicB ++ b))) := hc
    (have hcondQ := Bool.and_self; refine Todo.of ?_); (repeat' (first | ((with_reducible refine Todo.to ?_); (repeat (first | (simp only [↓rP, rT, rU, dvalX, dval, dBin, dInt, retV, retL, DR.val, fzT, fzVs, fzV, fz1, DV.immB, dCallP, viewVs, viewV, view1, noMemV, noMem, elemsOf, freezeAt, fzLL, fzL, bRow, bU, cellsOf, DV.isU, Nat.reduceEqDiff, Nat.reduceAdd, ↓reduceIte, reduceCtorEq, Nat.reduceLT, forall_const, bsl_tk, encH_len, hb, h3, h3s, h4, hc', hs, hl , hcondQ]) | (simp (disch := omega) only [i64_id, u64_id, u8_id, getD_map'])))) | ((with_reducible refine And.intro ?_ ?_); · first | trivial | omega | (simp; done) | (simp; omega)) | ((first | ((with_reducible refine dwp_condI (t := ?_) ?_ (fun hcQ => ?_) (fun hcQ => ?_)); rotate_left; · rfl) | ((with_reducible refine dops_guardI (t := ?_) ?_ (fun hcQ => ?_) (fun hcQ => ?_)); rotate_left; · rfl)) <;> (have hn := hcQ; have hcondQ := hcQ) <;> (try simp only [decide_eq_true_eq, decide_eq_false_iff_not] at hn) <;> (try (exfalso; omega)) <;> (refine Todo.of ?_)) | (((with_reducible refine dwp_condA ?_ ?_ ?_); · rfl) <;> (refine Todo.of ?_)))) <;> (try (first | (with_reducible rfl) | exact Nat.le_refl _ | exact Int.le_refl _ | assumption | omega))
    · rw [encF_great hr2 (by omega)]; rfl
    · rw [encF_ok hr2 (by omega)]; rfl
end Go.Proofs.YtfaailjhioobhaaGreat

/- An image's bytes, by the reference. -/
set_option linter.all false
set_option maxRecDepth 20000
namespace Go.Proofs.YtfaailjhioobhaaGreat
open Go.Nk

theorem nw_len (hp : List DObj) (s : SW) : (nw hp s).length = hp.length + 2 := by simp [nw]
/-- The heap of Encode: the image, five writers, where they are, what goes out. -/
def kdf (n j : Nat) : Kd := if j < n then .frz else .imm
def rHp (n : Nat) (i : DObj) (s1 s2 s3 s4 s5 : SW) (c : List UInt8) (s : SW) : List DObj := [i,
  ⟨.loc, 2, [rowW false 2 s1]⟩, ⟨kdf n 0, 1, bsl s1.b⟩, ⟨.loc, 2, [rowW false 4 s2]⟩, ⟨kdf n 1, 1, bsl s2.b⟩, ⟨.loc, 2, [rowW false 6 s3]⟩, ⟨kdf n 2, 1, bsl s3.b⟩,
  ⟨.loc, 2, [rowW false 8 s4]⟩, ⟨kdf n 3, 1, bsl s4.b⟩, ⟨.loc, 2, [rowW false 10 s5]⟩, ⟨kdf n 4, 1, bsl s5.b⟩,
  ⟨.loc, 1, [[.ptr 1 1 0 0], [.ptr 3 1 0 0], [.ptr 5 1 0 0], [.ptr 7 1 0 0], [.ptr 9 1 0 0], [.ref [.sl (bsl c), .bool false]]]⟩, ⟨.imm, 1, bsl s.b⟩, ⟨.loc, 2, [rowW false 12 s]⟩]
section
variable (n : Nat) (i : DObj) (s1 s2 s3 s4 s5 : SW) (c : List UInt8) (s : SW)
theorem rHp_len : (rHp n i s1 s2 s3 s4 s5 c s).length = 14 := rfl
theorem rHp_num (k z : Int) (hb : s.b.length + 4 ≤ 4294967296) (hk : k < 9223372036854775808) : s_uNum [.ptr 13 1 0 0, .int .i64 k, .int .i64 z] (rHp n i s1 s2 s3 s4 s5 c s) = ⟨True, .tup [], rHp n i s1 s2 s3 s4 s5 c (stNum k z s)⟩ := by
  have := hu_num' (hp := rHp n i s1 s2 s3 s4 s5 c s) (n := 13) (m := 12) (by rw [rHp_len]; decide) (by rw [rHp_len]; decide) (by decide) s [] k z hb hk
  rw [List.append_nil, List.append_nil] at this
  exact this
theorem rHp_part (d : List UInt8) (hb : s.b.length + d.length + 20 ≤ 4294967296) : s_uPart [.ptr 13 1 0 0, .sl (bsl d)] (rHp n i s1 s2 s3 s4 s5 c s) = ⟨True, .tup [], rHp n i s1 s2 s3 s4 s5 c (stPart d s)⟩ := by
  have := hu_part (hp := rHp n i s1 s2 s3 s4 s5 c s) (n := 13) (m := 12) (by rw [rHp_len]; decide) (by rw [rHp_len]; decide) (by decide) s [] d hb
  rw [List.append_nil, List.append_nil] at this
  exact this
end
set_option maxHeartbeats 4000000 in
theorem ok_noriaref33_Encode : OkP Tryz.prog 10 s_Enc := by
  refine OkP.mk1 (ps := [(25, s_IPut), (32, s_rSeal)]) (hs := [(26, s_uEns), (27, s_uPrts), (28, s_uSlts), (29, s_uLocs), (30, s_uNum), (31, s_uPart)]) ⟨ok_noriaref28_Put, ok_noriaref02_Seal, trivial⟩ ⟨ok_noriaref33_enums, ok_noriaref33_ports, ok_noriaref33_slots, ok_noriaref33_locals, ok_uNum, ok_uPart, trivial⟩ m_noriaref33_Encode fun x h => ?_
  
  have hz : ∀ l : List In4, l.map cIn4 = l.map cIn := fun _ => rfl
  have p0 := s_IPut_at x.code
  rw [eq_true h.im.code] at p0
  have u1 := fun hp => s_uEns_at hp x.en
  rw [eq_true h.im.en] at u1
  have u2 := fun hp => s_uPrts_at hp x.ins
  rw [eq_true h.im.ins] at u2
  have u3 := fun hp => s_uPrts_at hp x.outs
  rw [eq_true h.im.outs] at u3
  have u4 := fun hp => s_uSlts_at hp x.slots
  rw [eq_true h.im.slots] at u4
  have u5 := fun hp => s_uLocs_at hp x.loc
  rw [eq_true (show 4 * x.loc.length ≤ 4294967000 ∧ ∀ e ∈ x.loc, okI64 e from ⟨h.im.loc.1, h.im.loc.2.2⟩)] at u5
  have s6 : secO x ((5 + 1 : Nat) : Int) = putI x.code := rfl
  cases ec : putI x.code with
  | none =>
    rw [ec] at p0 s6
    simp only [putV, Option.getD_none, Option.isSome_none] at p0
    (have hcondQ := Bool.and_self; refine Todo.of ?_); (repeat' (first | ((with_reducible refine Todo.to ?_); (repeat (first | (simp only [↓rP, rT, rU, eA, dvalX, dval, dUn, dLoad, cellsAt, retV, retL, DR.val, fzT, fzVs, fzV, fz1, DV.immB, dCallP, viewVs, viewV, view1, noMemV, noMem, DV.one, alive, cellsOf, Nat.reduceEqDiff, Nat.reduceAdd, ↓reduceIte, reduceCtorEq, Nat.reduceLT, forall_const, d_noriaref33_Encode, eImg, hz, p0 , hcondQ]) | (simp (disch := omega) only [i64_id, u64_id, u8_id, getD_map'])))) | ((with_reducible refine And.intro ?_ ?_); · first | trivial | omega | (simp; done) | (simp; omega)) | (((with_reducible refine dwp_condA ?_ ?_ ?_); · rfl) <;> (refine Todo.of ?_)))) <;> (try (first | (with_reducible rfl) | exact Nat.le_refl _ | exact Int.le_refl _ | assumption | omega))
    have : encF x = none := by
      cases e5 : encG x 5 with
      | none => exact encF_none e5 (by decide)
      | some b => exact encF_none (k := 6) (by rw [encG_step e5, s6]) (by decide)
    rw [this]; rfl
  | some c =>
    rw [ec] at p0 s6
    simp only [putV, Option.getD_some, Option.isSome_some] at p0
    (have hcondQ := Bool.and_self; refine Todo.of ?_); (repeat' (first | ((with_reducible refine Todo.to ?_); (repeat (first | (simp only [↓rP, rT, rU, eA, buildCells, dvalX, dval, dUn, dLoad, cellsAt, fzVs, fzV, fz1, DV.immB, dCallP, viewVs, viewV, view1, noMemV, noMem, DV.one, alive, fzLL, fzL, bRow, bU, cellsOf, setFrom, DV.isU, Nat.reduceEqDiff, Nat.reduceAdd, ↓reduceIte, reduceCtorEq, Nat.reduceLeDiff, Nat.reduceLT, forall_const, d_noriaref33_Encode, eImg, hz, p0, u1, u2, u3, u4, u5, nw_len , hcondQ]) | (simp (disch := omega) only [i64_id, u64_id, u8_id, getD_map'])))) | ((with_reducible refine And.intro ?_ ?_); · first | trivial | omega | (simp; done) | (simp; omega)) | (((with_reducible refine dwp_condA ?_ ?_ ?_); · rfl) <;> (refine Todo.of ?_)))) <;> (try (first | (with_reducible rfl) | exact Nat.le_refl _ | exact Int.le_refl _ | assumption | omega))
    refine ⟨⟨_, rfl⟩, ⟨_, rfl⟩, ⟨_, rfl⟩, ⟨_, rfl⟩, ⟨_, rfl⟩, ?_⟩
    have t1 : secO x ((0 + 1 : Nat) : Int) = st2o (stEns x.en ⟨[], true⟩) := rfl
    have t2 : secO x ((1 + 1 : Nat) : Int) = st2o (stPrts x.ins ⟨[], true⟩) := rfl
    have t3 : secO x ((2 + 1 : Nat) : Int) = st2o (stPrts x.outs ⟨[], true⟩) := rfl
    have t4 : secO x ((3 + 1 : Nat) : Int) = st2o (stSlts x.slots ⟨[], true⟩) := rfl
    have t5 : secO x ((4 + 1 : Nat) : Int) = st2o (stLocs x.loc ⟨[], true⟩) := rfl
    clear u1 u2 u3 u4 u5 p0
    generalize stEns x.en ⟨[], true⟩ = S1 at *
    generalize stPrts x.ins ⟨[], true⟩ = S2 at *
    generalize stPrts x.outs ⟨[], true⟩ = S3 at *
    generalize stSlts x.slots ⟨[], true⟩ = S4 at *
    generalize stLocs x.loc ⟨[], true⟩ = S5 at *
    have hm : bsl magicB = [[DV.int .u8 78], [DV.int .u8 79], [DV.int .u8 82], [DV.int .u8 49]] := rfl
    have hl := fun {i} {c} => secO_len h (i := i) (c := c)
    refine dwp_each [1, 2, 3, 4, 5, 6] (fun k (b : List UInt8) => ⟨[(6, .own 11 6 0 6), (7, .ptr 13 1 0 0), (8, .int .i64 k)], rHp k ⟨.loc, 6, [cImg x]⟩ S1 S2 S3 S4 S5 c ⟨magicB ++ b, true⟩⟩) (fun k (_ : List Nat) b => b.length ≤ 10000010 * k ∧ encG x k = some b) [] trivial (by simp only [cut_none, List.map_cons, List.map_nil, get_cons, Nk.get_nil, Nat.reduceEqDiff, ↓reduceIte] <;> rfl) ⟨by simp, rfl⟩ (fun k e r b d hge hd hr => ?_) fun k b hk hr => ?_
    · obtain ⟨hr1, hr2⟩ := hr
      have hs := encG_step hr2
      have lm : magicB.length = 4 := rfl
      simp only [List.length_cons, List.length_nil, Nat.zero_add, Nat.reduceAdd] at d
      have hg := fun n s => show (rHp n ⟨.loc, 6, [cImg x]⟩ S1 S2 S3 S4 S5 c s)[11]? = some ⟨.loc, 1, [[.ptr 1 1 0 0], [.ptr 3 1 0 0], [.ptr 5 1 0 0], [.ptr 7 1 0 0], [.ptr 9 1 0 0], [.ref [.sl (bsl c), .bool false]]]⟩ from rfl
      have hk6 : k = 0 ∨ k = 1 ∨ k = 2 ∨ k = 3 ∨ k = 4 ∨ k = 5 := by omega
      rcases hk6 with rfl | rfl | rfl | rfl | rfl | rfl
      · have hgr := fun n s => show (rHp n ⟨.loc, 6, [cImg x]⟩ S1 S2 S3 S4 S5 c s)[1]? = some ⟨.loc, 2, [rowW false 2 S1]⟩ from rfl
        have hgb := fun s => show (rHp 0 ⟨.loc, 6, [cImg x]⟩ S1 S2 S3 S4 S5 c s)[2]? = some ⟨.imm, 1, bsl S1.b⟩ from rfl
        have hgs := fun s => show (rHp 0 ⟨.loc, 6, [cImg x]⟩ S1 S2 S3 S4 S5 c s).set 2 ⟨.frz, 1, bsl S1.b⟩ = rHp 1 ⟨.loc, 6, [cImg x]⟩ S1 S2 S3 S4 S5 c s from rfl
        rw [t1] at hs
        have hll := hl (i := ((0 + 1 : Nat) : Int)) (c := S1.b)
        rw [t1] at hll
        obtain ⟨B, ok⟩ := S1
        cases ok with
        | false =>
          have he := encF_none (k := 1) hs (by decide)
          simp only [rowW, Bool.not_false, Bool.false_eq_true, if_false] at hgr
          (have hcondQ := Bool.and_self; refine Todo.of ?_); (repeat' (first | ((with_reducible refine Todo.to ?_); (repeat (first | (simp only [↓rP, rT, rU, dvalX, dval, dBin, dInt, dLoad, cellsAt, retV, retL, DR.val, fzT, fzVs, fzV, fz1, DV.immB, alive, Nat.reduceEqDiff, Nat.reduceAdd, ↓reduceIte, reduceCtorEq, Int.reduceToNat, Int.reduceLE, Int.reduceLT, Nat.reduceLT, hg, hgr, he, putV, Option.getD_none, Option.isSome_none ]) | (simp (disch := omega) only [i64_id, u64_id, u8_id, getD_map'])))) | ((with_reducible refine And.intro ?_ ?_); · first | trivial | omega | (simp; done) | (simp; omega)) | (((with_reducible refine dwp_condA ?_ ?_ ?_); · rfl) <;> (refine Todo.of ?_)))) <;> (try (first | (with_reducible rfl) | exact Nat.le_refl _ | exact Int.le_refl _ | assumption | omega))
          rfl
        | true =>
          have hl2 := hll rfl
          simp only at hl2
          simp only [rowW, if_true] at hgr hgb hgs
          simp only [st2o, if_true] at hs
          have q1 := rHp_num 0 ⟨.loc, 6, [cImg x]⟩ ⟨B, true⟩ S2 S3 S4 S5 c ⟨magicB ++ b, true⟩ 1 1 (by simp only [List.length_append]; omega) (by omega)
          have l1 := stNum_len 1 1 ⟨magicB ++ b, true⟩
          simp only [List.length_append] at l1
          have q2 := rHp_part 1 ⟨.loc, 6, [cImg x]⟩ ⟨B, true⟩ S2 S3 S4 S5 c (stNum 1 1 ⟨magicB ++ b, true⟩) B (by omega)
          have e2 := stPart_st (b := magicB ++ b) (c := B) (k := 1) (by omega) (by omega)
          have e2' : stPart B (stNum 1 1 ⟨magicB ++ b, true⟩) = ⟨magicB ++ (b ++ putL (0 + 1) 1 ++ putL B.length 4 ++ B), true⟩ := by rw [show b ++ putL (0 + 1) 1 ++ putL B.length 4 ++ B = b ++ (putL (0 + 1) 1 ++ putL B.length 4 ++ B) by simp]; simpa using e2
          rw [e2'] at q2
          (have hcondQ := Bool.and_self; refine Todo.of ?_); (repeat' (first | ((with_reducible refine Todo.to ?_); (repeat (first | (simp only [↓rP, rT, rU, dvalX, dval, dBin, dInt, dLoad, cellsAt, fzV, fz1, elemsOf, alive, freezeAt, Nat.reduceEqDiff, Nat.reduceAdd, ↓reduceIte, reduceCtorEq, Int.reduceToNat, Int.reduceLE, Int.reduceLT, Nat.reduceLT, Int.reduceAdd, bsl_tk, hg, hgr, hgb, hgs, q1, q2, show IntKind.i64.wrap 1 = 1 by decide ]) | (simp (disch := omega) only [i64_id, u64_id, u8_id, getD_map'])))) | ((with_reducible refine And.intro ?_ ?_); · first | trivial | omega | (simp; done) | (simp; omega)) | (((with_reducible refine dwp_condA ?_ ?_ ?_); · rfl) <;> (refine Todo.of ?_)))) <;> (try (first | (with_reducible rfl) | exact Nat.le_refl _ | exact Int.le_refl _ | assumption | omega))
          exact ⟨b ++ putL (0 + 1) 1 ++ putL B.length 4 ++ B, by simp only [cut_none, List.map_cons, List.map_nil, get_cons, Nk.get_nil, Nat.reduceEqDiff, ↓reduceIte, Nat.succ_ne_self, Nat.zero_add] <;> rfl, by simp [putL_length]; omega, hs⟩
      · have hgr := fun n s => show (rHp n ⟨.loc, 6, [cImg x]⟩ S1 S2 S3 S4 S5 c s)[3]? = some ⟨.loc, 2, [rowW false 4 S2]⟩ from rfl
        have hgb := fun s => show (rHp 1 ⟨.loc, 6, [cImg x]⟩ S1 S2 S3 S4 S5 c s)[4]? = some ⟨.imm, 1, bsl S2.b⟩ from rfl
        have hgs := fun s => show (rHp 1 ⟨.loc, 6, [cImg x]⟩ S1 S2 S3 S4 S5 c s).set 4 ⟨.frz, 1, bsl S2.b⟩ = rHp 2 ⟨.loc, 6, [cImg x]⟩ S1 S2 S3 S4 S5 c s from rfl
        rw [t2] at hs
        have hll := hl (i := ((1 + 1 : Nat) : Int)) (c := S2.b)
        rw [t2] at hll
        obtain ⟨B, ok⟩ := S2
        cases ok with
        | false =>
          have he := encF_none (k := 2) hs (by decide)
          simp only [rowW, Bool.not_false, Bool.false_eq_true, if_false] at hgr
          (have hcondQ := Bool.and_self; refine Todo.of ?_); (repeat' (first | ((with_reducible refine Todo.to ?_); (repeat (first | (simp only [↓rP, rT, rU, dvalX, dval, dBin, dInt, dLoad, cellsAt, retV, retL, DR.val, fzT, fzVs, fzV, fz1, DV.immB, alive, Nat.reduceEqDiff, Nat.reduceAdd, ↓reduceIte, reduceCtorEq, Int.reduceToNat, Int.reduceLE, Int.reduceLT, Nat.reduceLT, Nat.reduceMul, hg, hgr, he, putV, Option.getD_none, Option.isSome_none ]) | (simp (disch := omega) only [i64_id, u64_id, u8_id, getD_map'])))) | ((with_reducible refine And.intro ?_ ?_); · first | trivial | omega | (simp; done) | (simp; omega)) | (((with_reducible refine dwp_condA ?_ ?_ ?_); · rfl) <;> (refine Todo.of ?_)))) <;> (try (first | (with_reducible rfl) | exact Nat.le_refl _ | exact Int.le_refl _ | assumption | omega))
          rfl
        | true =>
          have hl2 := hll rfl
          simp only at hl2
          simp only [rowW, if_true] at hgr hgb hgs
          simp only [st2o, if_true] at hs
          have q1 := rHp_num 1 ⟨.loc, 6, [cImg x]⟩ S1 ⟨B, true⟩ S3 S4 S5 c ⟨magicB ++ b, true⟩ 2 1 (by simp only [List.length_append]; omega) (by omega)
          have l1 := stNum_len 2 1 ⟨magicB ++ b, true⟩
          simp only [List.length_append] at l1
          have q2 := rHp_part 2 ⟨.loc, 6, [cImg x]⟩ S1 ⟨B, true⟩ S3 S4 S5 c (stNum 2 1 ⟨magicB ++ b, true⟩) B (by omega)
          have e2 := stPart_st (b := magicB ++ b) (c := B) (k := 2) (by omega) (by omega)
          have e2' : stPart B (stNum 2 1 ⟨magicB ++ b, true⟩) = ⟨magicB ++ (b ++ putL (1 + 1) 1 ++ putL B.length 4 ++ B), true⟩ := by rw [show b ++ putL (1 + 1) 1 ++ putL B.length 4 ++ B = b ++ (putL (1 + 1) 1 ++ putL B.length 4 ++ B) by simp]; simpa using e2
          rw [e2'] at q2
          (have hcondQ := Bool.and_self; refine Todo.of ?_); (repeat' (first | ((with_reducible refine Todo.to ?_); (repeat (first | (simp only [↓rP, rT, rU, dvalX, dval, dBin, dInt, dLoad, cellsAt, fzV, fz1, elemsOf, alive, freezeAt, Nat.reduceEqDiff, Nat.reduceAdd, ↓reduceIte, reduceCtorEq, Int.reduceToNat, Int.reduceLE, Int.reduceLT, Nat.reduceLT, Int.reduceAdd, Nat.reduceMul, bsl_tk, hg, hgr, hgb, hgs, q1, q2, show IntKind.i64.wrap 2 = 2 by decide ]) | (simp (disch := omega) only [i64_id, u64_id, u8_id, getD_map'])))) | ((with_reducible refine And.intro ?_ ?_); · first | trivial | omega | (simp; done) | (simp; omega)) | (((with_reducible refine dwp_condA ?_ ?_ ?_); · rfl) <;> (refine Todo.of ?_)))) <;> (try (first | (with_reducible rfl) | exact Nat.le_refl _ | exact Int.le_refl _ | assumption | omega))
          exact ⟨b ++ putL (1 + 1) 1 ++ putL B.length 4 ++ B, by simp only [cut_none, List.map_cons, List.map_nil, get_cons, Nk.get_nil, Nat.reduceEqDiff, ↓reduceIte, Nat.succ_ne_self] <;> rfl, by simp [putL_length]; omega, hs⟩
      · have hgr := fun n s => show (rHp n ⟨.loc, 6, [cImg x]⟩ S1 S2 S3 S4 S5 c s)[5]? = some ⟨.loc, 2, [rowW false 6 S3]⟩ from rfl
        have hgb := fun s => show (rHp 2 ⟨.loc, 6, [cImg x]⟩ S1 S2 S3 S4 S5 c s)[6]? = some ⟨.imm, 1, bsl S3.b⟩ from rfl
        have hgs := fun s => show (rHp 2 ⟨.loc, 6, [cImg x]⟩ S1 S2 S3 S4 S5 c s).set 6 ⟨.frz, 1, bsl S3.b⟩ = rHp 3 ⟨.loc, 6, [cImg x]⟩ S1 S2 S3 S4 S5 c s from rfl
        rw [t3] at hs
        have hll := hl (i := ((2 + 1 : Nat) : Int)) (c := S3.b)
        rw [t3] at hll
        obtain ⟨B, ok⟩ := S3
        cases ok with
        | false =>
          have he := encF_none (k := 3) hs (by decide)
          simp only [rowW, Bool.not_false, Bool.false_eq_true, if_false] at hgr
          (have hcondQ := Bool.and_self; refine Todo.of ?_); (repeat' (first | ((with_reducible refine Todo.to ?_); (repeat (first | (simp only [↓rP, rT, rU, dvalX, dval, dBin, dInt, dLoad, cellsAt, retV, retL, DR.val, fzT, fzVs, fzV, fz1, DV.immB, alive, Nat.reduceEqDiff, Nat.reduceAdd, ↓reduceIte, reduceCtorEq, Int.reduceToNat, Int.reduceLE, Int.reduceLT, Nat.reduceLT, Nat.reduceMul, hg, hgr, he, putV, Option.getD_none, Option.isSome_none ]) | (simp (disch := omega) only [i64_id, u64_id, u8_id, getD_map'])))) | ((with_reducible refine And.intro ?_ ?_); · first | trivial | omega | (simp; done) | (simp; omega)) | (((with_reducible refine dwp_condA ?_ ?_ ?_); · rfl) <;> (refine Todo.of ?_)))) <;> (try (first | (with_reducible rfl) | exact Nat.le_refl _ | exact Int.le_refl _ | assumption | omega))
          rfl
        | true =>
          have hl2 := hll rfl
          simp only at hl2
          simp only [rowW, if_true] at hgr hgb hgs
          simp only [st2o, if_true] at hs
          have q1 := rHp_num 2 ⟨.loc, 6, [cImg x]⟩ S1 S2 ⟨B, true⟩ S4 S5 c ⟨magicB ++ b, true⟩ 3 1 (by simp only [List.length_append]; omega) (by omega)
          have l1 := stNum_len 3 1 ⟨magicB ++ b, true⟩
          simp only [List.length_append] at l1
          have q2 := rHp_part 3 ⟨.loc, 6, [cImg x]⟩ S1 S2 ⟨B, true⟩ S4 S5 c (stNum 3 1 ⟨magicB ++ b, true⟩) B (by omega)
          have e2 := stPart_st (b := magicB ++ b) (c := B) (k := 3) (by omega) (by omega)
          have e2' : stPart B (stNum 3 1 ⟨magicB ++ b, true⟩) = ⟨magicB ++ (b ++ putL (2 + 1) 1 ++ putL B.length 4 ++ B), true⟩ := by rw [show b ++ putL (2 + 1) 1 ++ putL B.length 4 ++ B = b ++ (putL (2 + 1) 1 ++ putL B.length 4 ++ B) by simp]; simpa using e2
          rw [e2'] at q2
          (have hcondQ := Bool.and_self; refine Todo.of ?_); (repeat' (first | ((with_reducible refine Todo.to ?_); (repeat (first | (simp only [↓rP, rT, rU, dvalX, dval, dBin, dInt, dLoad, cellsAt, fzV, fz1, elemsOf, alive, freezeAt, Nat.reduceEqDiff, Nat.reduceAdd, ↓reduceIte, reduceCtorEq, Int.reduceToNat, Int.reduceLE, Int.reduceLT, Nat.reduceLT, Int.reduceAdd, Nat.reduceMul, bsl_tk, hg, hgr, hgb, hgs, q1, q2, show IntKind.i64.wrap 3 = 3 by decide ]) | (simp (disch := omega) only [i64_id, u64_id, u8_id, getD_map'])))) | ((with_reducible refine And.intro ?_ ?_); · first | trivial | omega | (simp; done) | (simp; omega)) | (((with_reducible refine dwp_condA ?_ ?_ ?_); · rfl) <;> (refine Todo.of ?_)))) <;> (try (first | (with_reducible rfl) | exact Nat.le_refl _ | exact Int.le_refl _ | assumption | omega))
          exact ⟨b ++ putL (2 + 1) 1 ++ putL B.length 4 ++ B, by simp only [cut_none, List.map_cons, List.map_nil, get_cons, Nk.get_nil, Nat.reduceEqDiff, ↓reduceIte, Nat.succ_ne_self] <;> rfl, by simp [putL_length]; omega, hs⟩
      · have hgr := fun n s => show (rHp n ⟨.loc, 6, [cImg x]⟩ S1 S2 S3 S4 S5 c s)[7]? = some ⟨.loc, 2, [rowW false 8 S4]⟩ from rfl
        have hgb := fun s => show (rHp 3 ⟨.loc, 6, [cImg x]⟩ S1 S2 S3 S4 S5 c s)[8]? = some ⟨.imm, 1, bsl S4.b⟩ from rfl
        have hgs := fun s => show (rHp 3 ⟨.loc, 6, [cImg x]⟩ S1 S2 S3 S4 S5 c s).set 8 ⟨.frz, 1, bsl S4.b⟩ = rHp 4 ⟨.loc, 6, [cImg x]⟩ S1 S2 S3 S4 S5 c s from rfl
        rw [t4] at hs
        have hll := hl (i := ((3 + 1 : Nat) : Int)) (c := S4.b)
        rw [t4] at hll
        obtain ⟨B, ok⟩ := S4
        cases ok with
        | false =>
          have he := encF_none (k := 4) hs (by decide)
          simp only [rowW, Bool.not_false, Bool.false_eq_true, if_false] at hgr
          (have hcondQ := Bool.and_self; refine Todo.of ?_); (repeat' (first | ((with_reducible refine Todo.to ?_); (repeat (first | (simp only [↓rP, rT, rU, dvalX, dval, dBin, dInt, dLoad, cellsAt, retV, retL, DR.val, fzT, fzVs, fzV, fz1, DV.immB, alive, Nat.reduceEqDiff, Nat.reduceAdd, ↓reduceIte, reduceCtorEq, Int.reduceToNat, Int.reduceLE, Int.reduceLT, Nat.reduceLT, Nat.reduceMul, hg, hgr, he, putV, Option.getD_none, Option.isSome_none ]) | (simp (disch := omega) only [i64_id, u64_id, u8_id, getD_map'])))) | ((with_reducible refine And.intro ?_ ?_); · first | trivial | omega | (simp; done) | (simp; omega)) | (((with_reducible refine dwp_condA ?_ ?_ ?_); · rfl) <;> (refine Todo.of ?_)))) <;> (try (first | (with_reducible rfl) | exact Nat.le_refl _ | exact Int.le_refl _ | assumption | omega))
          rfl
        | true =>
          have hl2 := hll rfl
          simp only at hl2
          simp only [rowW, if_true] at hgr hgb hgs
          simp only [st2o, if_true] at hs
          have q1 := rHp_num 3 ⟨.loc, 6, [cImg x]⟩ S1 S2 S3 ⟨B, true⟩ S5 c ⟨magicB ++ b, true⟩ 4 1 (by simp only [List.length_append]; omega) (by omega)
          have l1 := stNum_len 4 1 ⟨magicB ++ b, true⟩
          simp only [List.length_append] at l1
          have q2 := rHp_part 4 ⟨.loc, 6, [cImg x]⟩ S1 S2 S3 ⟨B, true⟩ S5 c (stNum 4 1 ⟨magicB ++ b, true⟩) B (by omega)
          have e2 := stPart_st (b := magicB ++ b) (c := B) (k := 4) (by omega) (by omega)
          have e2' : stPart B (stNum 4 1 ⟨magicB ++ b, true⟩) = ⟨magicB ++ (b ++ putL (3 + 1) 1 ++ putL B.length 4 ++ B), true⟩ := by rw [show b ++ putL (3 + 1) 1 ++ putL B.length 4 ++ B = b ++ (putL (3 + 1) 1 ++ putL B.length 4 ++ B) by simp]; simpa using e2
          rw [e2'] at q2
          (have hcondQ := Bool.and_self; refine Todo.of ?_); (repeat' (first | ((with_reducible refine Todo.to ?_); (repeat (first | (simp only [↓rP, rT, rU, dvalX, dval, dBin, dInt, dLoad, cellsAt, fzV, fz1, elemsOf, alive, freezeAt, Nat.reduceEqDiff, Nat.reduceAdd, ↓reduceIte, reduceCtorEq, Int.reduceToNat, Int.reduceLE, Int.reduceLT, Nat.reduceLT, Int.reduceAdd, Nat.reduceMul, bsl_tk, hg, hgr, hgb, hgs, q1, q2, show IntKind.i64.wrap 4 = 4 by decide ]) | (simp (disch := omega) only [i64_id, u64_id, u8_id, getD_map'])))) | ((with_reducible refine And.intro ?_ ?_); · first | trivial | omega | (simp; done) | (simp; omega)) | (((with_reducible refine dwp_condA ?_ ?_ ?_); · rfl) <;> (refine Todo.of ?_)))) <;> (try (first | (with_reducible rfl) | exact Nat.le_refl _ | exact Int.le_refl _ | assumption | omega))
          exact ⟨b ++ putL (3 + 1) 1 ++ putL B.length 4 ++ B, by simp only [cut_none, List.map_cons, List.map_nil, get_cons, Nk.get_nil, Nat.reduceEqDiff, ↓reduceIte, Nat.succ_ne_self] <;> rfl, by simp [putL_length]; omega, hs⟩
      · have hgr := fun n s => show (rHp n ⟨.loc, 6, [cImg x]⟩ S1 S2 S3 S4 S5 c s)[9]? = some ⟨.loc, 2, [rowW false 10 S5]⟩ from rfl
        have hgb := fun s => show (rHp 4 ⟨.loc, 6, [cImg x]⟩ S1 S2 S3 S4 S5 c s)[10]? = some ⟨.imm, 1, bsl S5.b⟩ from rfl
        have hgs := fun s => show (rHp 4 ⟨.loc, 6, [cImg x]⟩ S1 S2 S3 S4 S5 c s).set 10 ⟨.frz, 1, bsl S5.b⟩ = rHp 5 ⟨.loc, 6, [cImg x]⟩ S1 S2 S3 S4 S5 c s from rfl
        rw [t5] at hs
        have hll := hl (i := ((4 + 1 : Nat) : Int)) (c := S5.b)
        rw [t5] at hll
        obtain ⟨B, ok⟩ := S5
        cases ok with
        | false =>
          have he := encF_none (k := 5) hs (by decide)
          simp only [rowW, Bool.not_false, Bool.false_eq_true, if_false] at hgr
          (have hcondQ := Bool.and_self; refine Todo.of ?_); (repeat' (first | ((with_reducible refine Todo.to ?_); (repeat (first | (simp only [↓rP, rT, rU, dvalX, dval, dBin, dInt, dLoad, cellsAt, retV, retL, DR.val, fzT, fzVs, fzV, fz1, DV.immB, alive, Nat.reduceEqDiff, Nat.reduceAdd, ↓reduceIte, reduceCtorEq, Int.reduceToNat, Int.reduceLE, Int.reduceLT, Nat.reduceLT, Nat.reduceMul, hg, hgr, he, putV, Option.getD_none, Option.isSome_none ]) | (simp (disch := omega) only [i64_id, u64_id, u8_id, getD_map'])))) | ((with_reducible refine And.intro ?_ ?_); · first | trivial | omega | (simp; done) | (simp; omega)) | (((with_reducible refine dwp_condA ?_ ?_ ?_); · rfl) <;> (refine Todo.of ?_)))) <;> (try (first | (with_reducible rfl) | exact Nat.le_refl _ | exact Int.le_refl _ | assumption | omega))
          rfl
        | true =>
          have hl2 := hll rfl
          simp only at hl2
          simp only [rowW, if_true] at hgr hgb hgs
          simp only [st2o, if_true] at hs
          have q1 := rHp_num 4 ⟨.loc, 6, [cImg x]⟩ S1 S2 S3 S4 ⟨B, true⟩ c ⟨magicB ++ b, true⟩ 5 1 (by simp only [List.length_append]; omega) (by omega)
          have l1 := stNum_len 5 1 ⟨magicB ++ b, true⟩
          simp only [List.length_append] at l1
          have q2 := rHp_part 5 ⟨.loc, 6, [cImg x]⟩ S1 S2 S3 S4 ⟨B, true⟩ c (stNum 5 1 ⟨magicB ++ b, true⟩) B (by omega)
          have e2 := stPart_st (b := magicB ++ b) (c := B) (k := 5) (by omega) (by omega)
          have e2' : stPart B (stNum 5 1 ⟨magicB ++ b, true⟩) = ⟨magicB ++ (b ++ putL (4 + 1) 1 ++ putL B.length 4 ++ B), true⟩ := by rw [show b ++ putL (4 + 1) 1 ++ putL B.length 4 ++ B = b ++ (putL (4 + 1) 1 ++ putL B.length 4 ++ B) by simp]; simpa using e2
          rw [e2'] at q2
          (have hcondQ := Bool.and_self; refine Todo.of ?_); (repeat' (first | ((with_reducible refine Todo.to ?_); (repeat (first | (simp only [↓rP, rT, rU, dvalX, dval, dBin, dInt, dLoad, cellsAt, fzV, fz1, elemsOf, alive, freezeAt, Nat.reduceEqDiff, Nat.reduceAdd, ↓reduceIte, reduceCtorEq, Int.reduceToNat, Int.reduceLE, Int.reduceLT, Nat.reduceLT, Int.reduceAdd, Nat.reduceMul, bsl_tk, hg, hgr, hgb, hgs, q1, q2, show IntKind.i64.wrap 5 = 5 by decide ]) | (simp (disch := omega) only [i64_id, u64_id, u8_id, getD_map'])))) | ((with_reducible refine And.intro ?_ ?_); · first | trivial | omega | (simp; done) | (simp; omega)) | (((with_reducible refine dwp_condA ?_ ?_ ?_); · rfl) <;> (refine Todo.of ?_)))) <;> (try (first | (with_reducible rfl) | exact Nat.le_refl _ | exact Int.le_refl _ | assumption | omega))
          exact ⟨b ++ putL (4 + 1) 1 ++ putL B.length 4 ++ B, by simp only [cut_none, List.map_cons, List.map_nil, get_cons, Nk.get_nil, Nat.reduceEqDiff, ↓reduceIte, Nat.succ_ne_self] <;> rfl, by simp [putL_length]; omega, hs⟩
      · rw [s6] at hs
        have hl2 := hl (i := ((5 + 1 : Nat) : Int)) (c := c) s6
        simp only at hs
        have q1 := rHp_num 5 ⟨.loc, 6, [cImg x]⟩ S1 S2 S3 S4 S5 c ⟨magicB ++ b, true⟩ 6 1 (by simp only [List.length_append]; omega) (by omega)
        have l1 := stNum_len 6 1 ⟨magicB ++ b, true⟩
        simp only [List.length_append] at l1
        have q2 := rHp_part 5 ⟨.loc, 6, [cImg x]⟩ S1 S2 S3 S4 S5 c (stNum 6 1 ⟨magicB ++ b, true⟩) c (by omega)
        have e2 := stPart_st (b := magicB ++ b) (c := c) (k := 6) (by omega) (by omega)
        have e2' : stPart c (stNum 6 1 ⟨magicB ++ b, true⟩) = ⟨magicB ++ (b ++ putL (5 + 1) 1 ++ putL c.length 4 ++ c), true⟩ := by rw [show b ++ putL (5 + 1) 1 ++ putL c.length 4 ++ c = b ++ (putL (5 + 1) 1 ++ putL c.length 4 ++ c) by simp]; simpa using e2
        rw [e2', show rHp 5 ⟨.loc, 6, [cImg x]⟩ S1 S2 S3 S4 S5 c ⟨magicB ++ (b ++ putL (5 + 1) 1 ++ putL c.length 4 ++ c), true⟩ = rHp 6 ⟨.loc, 6, [cImg x]⟩ S1 S2 S3 S4 S5 c ⟨magicB ++ (b ++ putL (5 + 1) 1 ++ putL c.length 4 ++ c), true⟩ from rfl] at q2
        (have hcondQ := Bool.and_self; refine Todo.of ?_); (repeat' (first | ((with_reducible refine Todo.to ?_); (repeat (first | (simp only [↓rP, rT, rU, dvalX, dval, dBin, dInt, dLoad, cellsAt, fzV, fz1, DV.immB, alive, Nat.reduceEqDiff, Nat.reduceAdd, ↓reduceIte, reduceCtorEq, Int.reduceToNat, Int.reduceLE, Int.reduceLT, Nat.reduceLT, Int.reduceAdd, Nat.reduceMul, hg, q1, q2, show IntKind.i64.wrap 6 = 6 by decide ]) | (simp (disch := omega) only [i64_id, u64_id, u8_id, getD_map'])))) | ((with_reducible refine And.intro ?_ ?_); · first | trivial | omega | (simp; done) | (simp; omega)) | (((with_reducible refine dwp_condA ?_ ?_ ?_); · rfl) <;> (refine Todo.of ?_)))) <;> (try (first | (with_reducible rfl) | exact Nat.le_refl _ | exact Int.le_refl _ | assumption | omega))
        exact ⟨b ++ putL (5 + 1) 1 ++ putL c.length 4 ++ c, by simp only [cut_none, List.map_cons, List.map_nil, get_cons, Nk.get_nil, Nat.reduceEqDiff, ↓reduceIte, Nat.succ_ne_self] <;> rfl, by simp [putL_length]; omega, hs⟩
    · obtain ⟨hr1, hr2⟩ := hr
      simp only [List.length_cons, List.length_nil, Nat.zero_add, Nat.reduceAdd] at hk
      subst hk
      have lm : magicB.length = 4 := rfl
      have hl := sealF_len (magicB ++ b)
      have hs := s_rSeal_at (magicB ++ b)
      rw [eq_true (show (magicB ++ b).length ≤ 100000000 by simp [magicB]; omega)] at hs
      have hg := fun n s => show (rHp n ⟨.loc, 6, [cImg x]⟩ S1 S2 S3 S4 S5 c s)[13]? = some ⟨.loc, 2, [rowW false 12 s]⟩ from rfl
      have hgb := fun n s => show (rHp n ⟨.loc, 6, [cImg x]⟩ S1 S2 S3 S4 S5 c s)[12]? = some ⟨.imm, 1, bsl s.b⟩ from rfl
      have hr' : rowW false 12 ⟨magicB ++ b, true⟩ = [.own 12 (magicB ++ b).length 0 (magicB ++ b).length, .bool false] := rfl
      have hg1 := fun n s => show (rHp n ⟨.loc, 6, [cImg x]⟩ S1 S2 S3 S4 S5 c s)[11]? = some ⟨.loc, 1, [[.ptr 1 1 0 0], [.ptr 3 1 0 0], [.ptr 5 1 0 0], [.ptr 7 1 0 0], [.ptr 9 1 0 0], [.ref [.sl (bsl c), .bool false]]]⟩ from rfl
      have f1 : 131072 < ((magicB ++ b).length : Int) + 4 → encF x = none := fun q => encF_great hr2 (by rw [List.length_append] at q; omega)
      have f2 : ¬ 131072 < ((magicB ++ b).length : Int) + 4 → encF x = some (sealF (magicB ++ b)) := fun q => encF_ok hr2 (by rw [List.length_append] at q; omega)
      have hB : (magicB ++ b).length ≤ 100000000 := by rw [List.length_append]; omega
      generalize magicB ++ b = B at *
      (have hcondQ := Bool.and_self; refine Todo.of ?_); (repeat' (first | ((with_reducible refine Todo.to ?_); (repeat (first | (simp only [↓rP, rT, rU, dvalX, dval, dBin, dInt, dLoad, cellsAt, retV, retL, DR.val, fzT, fzVs, fzV, fz1, DV.immB, dCallP, viewVs, viewV, view1, noMemV, noMem, elemsOf, alive, freezeAt, Nat.reduceEqDiff, Nat.reduceAdd, ↓reduceIte, reduceCtorEq, Nat.reduceLT, bsl_tk, hg, hg1, hgb, hr', hs , hcondQ]) | (simp (disch := omega) only [i64_id])))) | ((with_reducible refine And.intro ?_ ?_); · first | trivial | omega | (simp; done) | (simp; omega)) | ((first | ((with_reducible refine dwp_condI (t := ?_) ?_ (fun hcQ => ?_) (fun hcQ => ?_)); rotate_left; · rfl) | ((with_reducible refine dops_guardI (t := ?_) ?_ (fun hcQ => ?_) (fun hcQ => ?_)); rotate_left; · rfl)) <;> (have hn := hcQ; have hcondQ := hcQ) <;> (try simp only [decide_eq_true_eq, decide_eq_false_iff_not] at hn) <;> (try (exfalso; omega)) <;> (refine Todo.of ?_)) | (((with_reducible refine dwp_condA ?_ ?_ ?_); · rfl) <;> (refine Todo.of ?_)))) <;> (try (first | (with_reducible rfl) | exact Nat.le_refl _ | exact Int.le_refl _ | assumption | omega))
      · rw [f1 (by assumption)]; rfl
      · rw [f2 (by assumption)]; rfl
end Go.Proofs.YtfaailjhioobhaaGreat

