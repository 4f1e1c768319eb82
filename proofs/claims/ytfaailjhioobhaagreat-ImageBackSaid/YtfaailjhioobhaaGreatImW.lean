/- An image's bytes: what they are. -/
import Derived.Test.YtfaailjhioobhaaGreatImJ
import Derived.Test.YtfaailjhioobhaaGreatInK
set_option linter.all false
set_option maxRecDepth 20000
namespace Go.Proofs.YtfaailjhioobhaaGreat
open Go.Nk

/-- The sections 1 to k, one behind the other. -/
def encG (x : Img) : Nat → Option (List UInt8)
  | 0 => some []
  | k + 1 => match encG x k with
    | none => none
    | some b => match secO x ((k + 1 : Nat) : Int) with
      | none => none
      | some c => some (b ++ putL (k + 1) 1 ++ putL c.length 4 ++ c)
def magicB : List UInt8 := [78, 79, 82, 49]
def encF (x : Img) : Option (List UInt8) := match encG x 6 with
  | none => none
  | some b => if (sealF (magicB ++ b)).length ≤ 131072 then some (sealF (magicB ++ b)) else none
structure okEnc (x : Img) : Prop where
  im : okIm x
  sz : szEns x.en + szPrts x.ins + szPrts x.outs + szSlts x.slots + 4 * x.loc.length ≤ 10000000
theorem encG_none {x : Img} {k : Nat} (h : encG x k = none) : ∀ n, k ≤ n → encG x n = none := by
  intro n hn
  induction hn with
  | refl => exact h
  | step _ ih => simp only [encG, ih]
theorem encF_none {x : Img} {k : Nat} (h : encG x k = none) (hk : k ≤ 6) : encF x = none := by
  unfold encF; rw [encG_none h 6 hk]
theorem encG_step {x : Img} {k : Nat} {b : List UInt8} (h : encG x k = some b) : encG x (k + 1) = match secO x ((k + 1 : Nat) : Int) with
      | none => none
      | some c => some (b ++ putL (k + 1) 1 ++ putL c.length 4 ++ c) := by
  simp only [encG, h]
theorem encF_great {x : Img} {b : List UInt8} (h : encG x 6 = some b) (hn : 131072 < ((magicB.length : Int) + b.length + 4)) : encF x = none := by
  unfold encF
  rw [h]
  simp only
  rw [if_neg (by rw [sealF_len, List.length_append]; omega)]
theorem encF_ok {x : Img} {b : List UInt8} (h : encG x 6 = some b) (hn : ¬ 131072 < ((magicB.length : Int) + b.length + 4)) : encF x = some (sealF (magicB ++ b)) := by
  unfold encF
  rw [h]
  simp only
  rw [if_pos (by rw [sealF_len, List.length_append]; omega)]
theorem encG_ne {x : Img} {k : Nat} {b : List UInt8} (h : encG x (k + 1) = some b) : b ≠ [] := by
  intro e
  subst e
  simp only [encG] at h
  split at h
  · cases h
  split at h
  · cases h
  · injection h with h
    have := congrArg List.length h
    simp only [List.length_append, putL_length, List.length_nil] at this
    omega
theorem putI_len {l : List In4} {c : List UInt8} (h : putI l = some c) : c.length ≤ 1400000 := by
  have e : (putI l).getD [] = c := by rw [h]; rfl
  rw [← e]
  unfold putI
  split
  · rename_i c
    simp only [Bool.and_eq_true, decide_eq_true_eq] at c
    have := (flat_len l).1
    simp only [Option.getD_some]
    omega
  · decide
theorem secO_len {x : Img} (h : okEnc x) {i : Int} {c : List UInt8} (e : secO x i = some c) : c.length ≤ 10000000 := by
  have l1 := stEns_len x.en
  have l2 := stPrts_len x.ins
  have l3 := stPrts_len x.outs
  have l4 := stSlts_len x.slots
  have l5 := stLocs_len x.loc
  have hs := h.sz
  have hst : ∀ {s : SW}, st2o s = some c → c = s.b := fun {s} e => by
    unfold st2o at e
    split at e
    · exact (Option.some.inj e).symm
    · cases e
  unfold secO at e
  split at e
  · rw [hst e]; omega
  split at e
  · rw [hst e]; omega
  split at e
  · rw [hst e]; omega
  split at e
  · rw [hst e]; omega
  split at e
  · rw [hst e]; unfold szEns szPrts szSlts at hs; omega
  · have := putI_len e; omega
theorem stPart_st {b c : List UInt8} {k : Nat} (hk : k < 256) (hc : c.length ≤ 4294967295) : stPart c (stNum k 1 ⟨b, true⟩) = ⟨b ++ putL k 1 ++ putL c.length 4 ++ c, true⟩ := by
  have e1 : wNum b k 1 = some (b ++ putL k 1) := by
    unfold wNum; rw [if_neg (by simp; omega)]; rfl
  have e2 : wNum (b ++ putL k 1) c.length 4 = some (b ++ putL k 1 ++ putL c.length 4) := by
    unfold wNum; rw [if_neg (by simp; omega)]; rfl
  simp only [stPart, stNum, nxW, ↓reduceIte, e1, wLen, e2]
end Go.Proofs.YtfaailjhioobhaaGreat

/- An image's bytes, by the program. -/
set_option linter.all false
set_option maxRecDepth 20000
namespace Go.Proofs.YtfaailjhioobhaaGreat
open Go.Nk

def encH (x : Img) (s : SW) : List DObj := [⟨.loc, 6, [cImg x]⟩, ⟨.loc, 2, [rowW true 2 s]⟩, ⟨.imm, 1, bsl s.b⟩]
theorem encH_hx (x : Img) (s s' : SW) : hx true (encH x s) 1 2 s' = encH x s' := rfl
theorem encH_len (x : Img) (s : SW) : (encH x s).length = 3 := rfl
theorem encH_num (x : Img) (s : SW) (k z : Int) (hb : s.b.length + 4 ≤ 4294967296) (hk : k < 9223372036854775808) : s_wNum [.ptr 1 1 0 0, .int .i64 k, .int .i64 z] (encH x s) = ⟨True, .tup [], encH x (stNum k z s)⟩ := by
  have := hx_num (hp := encH x s) (n := 1) (m := 2) (by rw [encH_len]; decide) (by rw [encH_len]; decide) (by decide) s [] k z hb hk
  simpa only [encH_hx, List.append_nil] using this
theorem encH_part (x : Img) (s : SW) (c : List UInt8) (hb : s.b.length + c.length + 20 ≤ 4294967296) : s_wPart [.ptr 1 1 0 0, .sl (bsl c)] (encH x s) = ⟨True, .tup [], encH x (stPart c s)⟩ := by
  have := hx_part (hp := encH x s) (n := 1) (m := 2) (by rw [encH_len]; decide) (by rw [encH_len]; decide) (by decide) s [] c hb
  simpa only [encH_hx, List.append_nil] using this
theorem encH_bytes {x : Img} {b : List UInt8} (t : List DObj) (hn : b ≠ []) (hb : b.length ≤ 4294967296) : s_wBytes [.ptr 1 1 0 0] (encH x ⟨b, true⟩ ++ t) = ⟨True, .own (3 + t.length) b.length 0 b.length, encH x ⟨b, true⟩ ++ (t ++ [⟨.imm, 1, bsl b⟩])⟩ := by
  refine (s_wBytes_at (hp := encH x ⟨b, true⟩ ++ t) (n := 1) (m := 2) (b := b) ⟨rfl, rfl, by decide⟩).trans ?_
  rw [eq_true (show b ≠ [] ∧ b.length ≤ 4294967296 from ⟨hn, hb⟩)]
  simp [encH_len]
noncomputable def s_Enc : List DV → Prop × DV := spec1 eImg fun x => (okEnc x, putV (encF x))
theorem s_Enc_at (x : Img) : s_Enc [.agg (cImg x)] = (okEnc x, putV (encF x)) := spec1_at inj_Img _ x
set_option maxHeartbeats 4000000 in
theorem ok_image_Encode : OkP Tryz.prog 9 s_Enc := by
  refine OkP.mk1 (ps := [(19, s_sec), (22, s_Seal), (23, s_ConcatB)]) (hs := [(18, s_wNew), (20, s_wNum), (21, s_wPart), (24, s_wBytes)]) ⟨ok_image_section, ok_crc_Seal, ok_slices_Concat_byte_byte, trivial⟩ ⟨ok_wNew, ok_wNum, ok_wPart, ok_wBytes, trivial⟩ m_image_Encode fun x h => ?_
  
  (have hcondQ := Bool.and_self; refine Todo.of ?_); (repeat' (first | ((with_reducible refine Todo.to ?_); (repeat (simp only [↓rP, rT, rU, eA, dvalX, dval, DV.one, cellsOf, Nat.reduceAdd, ↓reduceIte, forall_const, d_image_Encode, eImg, s_wNew_at ])))))
  refine dwp_gown_grow ?_
  (have hcondQ := Bool.and_self; refine Todo.of ?_); (repeat' (first | ((with_reducible refine Todo.to ?_); (repeat (simp only [↓rP, rT, rU, dvalX, dval, Nat.reduceAdd, ↓reduceIte ])))))
  refine dwp_each [1, 2, 3, 4, 5, 6] (fun k (b : List UInt8) => ⟨[(1, .ptr 0 1 0 0), (4, .ptr 1 1 0 0), (10, .int .i64 k)], encH x ⟨b, true⟩⟩) (fun k (_ : List Nat) b => b.length ≤ 10000010 * k ∧ encG x k = some b) [] trivial (by simp only [cut_none, List.map_cons, List.map_nil, get_cons, Nk.get_nil, Nat.reduceEqDiff, ↓reduceIte] <;> rfl) ⟨by simp, rfl⟩ (fun k e r b d hge hd hr => ?_) fun k b hk hr => ?_
  · obtain ⟨hr1, hr2⟩ := hr
    simp only [List.length_cons, List.length_nil, Nat.zero_add, Nat.reduceAdd] at d
    have wk := wk_of d (by omega)
    have q0 := s_sec_at x ((k + 1 : Nat) : Int)
    rw [eq_true h.im] at q0
    simp only [cImg] at q0
    have hs := encG_step hr2
    have d' : decide ((k : Int) < 6) = true := decide_eq_true (by omega)
    cases e1 : secO x ((k + 1 : Nat) : Int) with
    | none =>
      rw [e1] at hs q0
      simp only [putV, Option.getD_none, Option.isSome_none] at q0
      have he := encF_none (k := k + 1) hs (by omega)
      (have hcondQ := Bool.and_self; refine Todo.of ?_); (repeat' (first | ((with_reducible refine Todo.to ?_); (repeat (simp only [↓rP, rT, rU, dvalX, dval, dBin, dInt, dUn, dLoad, cellsAt, retV, retL, DR.val, fzT, fzVs, fzV, fz1, DV.immB, dCallP, viewVs, viewV, view1, viewL, noMemV, noMem, fzL, Nat.reduceEqDiff, Nat.reduceAdd, ↓reduceIte, reduceCtorEq, Nat.reduceLeDiff, Nat.reduceLT, d', wk, encH, q0, he, putV, Option.getD_none, Option.isSome_none , hcondQ])))))
      rfl
    | some c =>
      rw [e1] at hs q0
      simp only [putV, Option.getD_some, Option.isSome_some] at hs q0
      have hl := secO_len h e1
      have q1 := encH_num x ⟨b, true⟩ ((k + 1 : Nat) : Int) 1 (by simp only; omega) (by omega)
      have l1 := stNum_len ((k + 1 : Nat) : Int) 1 ⟨b, true⟩
      simp only at l1
      have q2 := encH_part x (stNum ((k + 1 : Nat) : Int) 1 ⟨b, true⟩) c (by omega)
      have e2 := stPart_st (b := b) (c := c) (k := k + 1) (by omega) (by omega)
      rw [e2] at q2
      have h0 : ∀ s, (encH x s)[0]? = some ⟨.loc, 6, [cImg x]⟩ := fun _ => rfl
      (have hcondQ := Bool.and_self; refine Todo.of ?_); (repeat' (first | ((with_reducible refine Todo.to ?_); (repeat (simp only [↓rP, rT, rU, dvalX, dval, dBin, dInt, dUn, dLoad, cellsAt, fzVs, fzV, fz1, DV.immB, dCallP, viewVs, viewV, view1, viewL, noMemV, noMem, fzL, Nat.reduceEqDiff, Nat.reduceAdd, ↓reduceIte, reduceCtorEq, Nat.reduceLeDiff, Nat.reduceLT, d', wk, h0, q0, q1, q2, putV, hcondQ])))))
      exact ⟨_, by simp only [cut_none, List.map_cons, List.map_nil, get_cons, Nk.get_nil, Nat.reduceEqDiff, ↓reduceIte, Int.natCast_add, Int.natCast_one] <;> rfl, by simp [putL_length]; omega, hs⟩
  · obtain ⟨hr1, hr2⟩ := hr
    simp only [List.length_cons, List.length_nil, Nat.zero_add, Nat.reduceAdd] at hk
    subst hk
    have hb := fun t => encH_bytes (x := x) (b := b) t (encG_ne hr2) (by omega)
    have h3 : ∀ s o t, (encH x s ++ (o :: t))[3]? = some o := fun _ _ _ => rfl
    have h4 : ∀ s o o' t, (encH x s ++ (o :: o' :: t))[4]? = some o' := fun _ _ _ _ => rfl
    have h3s : ∀ s o o' t, (encH x s ++ (o :: t)).set 3 o' = encH x s ++ (o' :: t) := fun _ _ _ _ => rfl
    have hf : [magicB, b].flatten = magicB ++ b := by simp
    have hl := sealF_len (magicB ++ b)
    have hs := s_Seal_at (magicB ++ b)
    rw [eq_true (show (magicB ++ b).length ≤ 100000000 by simp [magicB]; omega)] at hs
    have hc := s_ConcatB_at [magicB, b]
    rw [eq_true (show [magicB, b].length ≤ 1000000 ∧ [magicB, b].flatten.length ≤ 1000000000 by simp [magicB]; omega)] at hc
    rw [hf] at hc
    have hc' : s_ConcatB [.sl [[.sl [[DV.int .u8 78], [DV.int .u8 79], [DV.int .u8 82], [DV.int .u8 49]]], [.sl (bsl b)]]] = (True, .sl (bsl (magicB ++ b))) := hc
    (have hcondQ := Bool.and_self; refine Todo.of ?_); (repeat' (first | ((with_reducible refine Todo.to ?_); (repeat (simp only [↓rP, rT, rU, dvalX, dval, dBin, dInt, retV, retL, DR.val, fzT, fzVs, fzV, fz1, DV.immB, dCallP, viewVs, viewV, view1, noMemV, noMem, elemsOf, freezeAt, fzLL, fzL, bRow, bU, cellsOf, DV.isU, Nat.reduceEqDiff, Nat.reduceAdd, ↓reduceIte, reduceCtorEq, Nat.reduceLT, forall_const, bsl_tk, encH_len, hb, h3, h3s, h4, hc', hs, hl , hcondQ]))) | ((with_reducible refine And.intro ?_ ?_); · omega) | (((((with_reducible refine dwp_condI (t := ?_) ?_ (fun hcQ => ?_) (fun hcQ => ?_)); rotate_left; · (rfl))) <;> (have hn := hcQ; have hcondQ := hcQ) <;> (try simp only [decide_eq_true_eq, decide_eq_false_iff_not] at hn) <;> (refine Todo.of ?_))) | fail))
    · rw [encF_great hr2 (by omega)]; rfl
    · rw [encF_ok hr2 (by omega)]; rfl
end Go.Proofs.YtfaailjhioobhaaGreat

/- An image's bytes, by the reference. -/
set_option linter.all false
set_option maxRecDepth 20000
namespace Go.Proofs.YtfaailjhioobhaaGreat
open Go.Nk

section
variable (n : Nat) (i : DObj) (s1 s2 s3 s4 s5 : SW) (c : List UInt8) (s : SW)
end
end Go.Proofs.YtfaailjhioobhaaGreat

/- What reads an image's bytes: the contents of the sections; prefixes. -/
set_option linter.all false
set_option maxRecDepth 20000
namespace Go.Proofs.YtfaailjhioobhaaGreat
open Go.Nk

noncomputable def s_bPre : List DV → Prop × DV := spec2 eBs eBs fun b p => (True, .bool (decide (p.length ≤ b.length) && (b.take p.length == p)))
theorem s_bPre_at (b : List UInt8) (p : List UInt8) : s_bPre [.sl (bsl b), .sl (bsl p)] = (True, .bool (decide (p.length ≤ b.length) && (b.take p.length == p))) := spec2_at inj_Bs inj_Bs _ b p
theorem ok_bytes_HasPrefix : OkP Tryz.prog 33 s_bPre := by
  refine OkP.mk2 (ps := [(74, s_BEq)]) (hs := []) ⟨ok_bytes_Equal, trivial⟩ trivial m_bytes_HasPrefix fun b p _ => ?_
  by_cases h : p.length ≤ b.length
  · have s1 := fun hp => slice_bsH (hp := hp) (l := b) (b := ((p.length : Nat) : Int)) (by omega) (by omega)
    rw [Int.toNat_natCast] at s1
    have h' : (p.length : Int) ≤ b.length := by omega
    rw [decide_eq_true h]
    (have hcondQ := Bool.and_self; refine Todo.of ?_); (repeat' (first | ((with_reducible refine Todo.to ?_); (repeat (simp only [↓rP, rT, rU, eBs, dvalX, dval, dBin, dInt, retV, DR.val, fzT, fzV, fz1, DV.immB, dCallP, viewVs, viewV, view1, noMemV, noMem, Nat.reduceEqDiff, ↓reduceIte, reduceCtorEq, d_bytes_HasPrefix, s_BEq_at, h', s1 ])))))
  · have h' : ¬ (p.length : Int) ≤ b.length := by omega
    rw [decide_eq_false h]
    (have hcondQ := Bool.and_self; refine Todo.of ?_); (repeat' (first | ((with_reducible refine Todo.to ?_); (repeat (simp only [↓rP, rT, rU, eBs, dvalX, dval, dBin, dInt, retV, DR.val, fzT, fzV, fz1, DV.immB, Nat.reduceEqDiff, ↓reduceIte, reduceCtorEq, d_bytes_HasPrefix, h' ])))))

/-! The contents of the sections. -/
def partsG : Nat → Int → RS → List (List UInt8) → List (List UInt8) × Bool
  | 0, _, r, acc => (acc, r.isSome && !moreO r)
  | k + 1, i, r, acc => if numV r 1 = i + 1 then partsG k (i + 1) (rawS (nextS r (szN 1)) 4) (acc ++ [partV (nextS r (szN 1))]) else ([], false)
def partsF (b : List UInt8) : List (List UInt8) × Bool := partsG 6 0 (some (b, 0)) []
noncomputable def s_parts : List DV → Prop × DV := spec1 eBs fun b => (b.length ≤ 4294967296, .tup [.sl ((partsF b).1.map cBs), .bool (partsF b).2])
theorem s_parts_at (b : List UInt8) : s_parts [.sl (bsl b)] = (b.length ≤ 4294967296, .tup [.sl ((partsF b).1.map cBs), .bool (partsF b).2]) := spec1_at inj_Bs _ b
theorem parts_snoc (l : List (List UInt8)) (x : List UInt8) : l.map cBs ++ [[.sl (bsl x)]] = (l ++ [x]).map cBs := by simp [cBs]
set_option maxHeartbeats 1000000 in
theorem ok_image_parts : OkP Tryz.prog 35 s_parts := by
  refine OkP.mk1 (ps := []) (hs := [(75, s_rFrom), (76, s_Num), (77, s_rPart), (78, s_Ok), (79, s_More)]) trivial ⟨ok_reader_From, ok_reader_Num, ok_reader_Part, ok_reader_Ok, ok_reader_More, trivial⟩ m_image_parts fun b h => ?_
  have h : b.length ≤ 4294967296 := h
  generalize hG : partsF b = G
  
  have eF := s_rFrom_at b []
  rw [eq_true h] at eF
  simp only [List.nil_append, List.length_nil] at eF
  (have hcondQ := Bool.and_self; refine Todo.of ?_); (repeat' (first | ((with_reducible refine Todo.to ?_); (repeat (simp only [↓rP, rT, rU, eBs, dvalX, dval, ↓reduceIte, reduceCtorEq, d_image_parts, eF ])))))
  refine dwp_each [0, 1, 2, 3, 4, 5] (fun k (a : RS × List (List UInt8)) => ⟨[(4, .ptr 0 1 0 0), (5, .own 1 a.2.length 0 a.2.length), (9, .int .i64 k)], [oP a.1, ⟨.imm, 1, a.2.map cBs⟩]⟩) (fun k (_ : List Nat) a => okP a.1 ∧ a.2.length = k ∧ partsG (6 - k) k a.1 a.2 = G) (some (b, 0), []) (Nat.zero_le _) (by simp only [cut_some, List.map_cons, List.map_nil, get_cons, Nk.get_nil, Nat.reduceEqDiff, ↓reduceIte, DV.cut, DV.inB, DObj.cut, List.take_nil, reduceCtorEq, decide_true, Nat.reduceLT, List.take_succ_cons, List.length_nil, oP] <;> rfl) ⟨⟨Nat.zero_le _, h⟩, rfl, hG⟩ (fun k e r a d hge hd hr => ?_) fun k a hk hr => ?_
  · obtain ⟨s, acc⟩ := a
    obtain ⟨hr1, hr2, hr3⟩ := hr
    simp only [List.length_cons, List.length_nil, Nat.zero_add, Nat.reduceAdd] at d
    simp only at hr1 hr2 hr3 ⊢
    have wk := wk_of d (by omega)
    have d' : decide ((k : Int) < 6) = true := decide_eq_true (by omega)
    have e6 : 6 - k = (6 - (k + 1)) + 1 := by omega
    rw [e6] at hr3
    unfold partsG at hr3
    have q0 : ∀ t, s_Num [.ptr 0 1 0 0, .int .i64 1] (oP s :: t) = ⟨True, .int .i64 (numV s 1), oP (nextS s (szN 1)) :: t⟩ := fun t => by
      rw [s_Num_at (r := s) rfl, eq_true hr1]; rfl
    have hr1' := nextS_ok (szN 1) hr1
    generalize nextS s (szN 1) = s1 at q0 hr1' hr3
    have q1 : ∀ t, s_rPart [.ptr 0 1 0 0] (oP s1 :: t) = ⟨True, .sl (bsl (partV s1)), oP (rawS s1 4) :: t⟩ := fun t => by
      rw [s_rPart_at (r := s1) rfl, eq_true hr1']; rfl
    have hr1'' := rawS_ok 4 hr1'
    by_cases c : numV s 1 = (k : Int) + 1
    · rw [if_pos c] at hr3
      have c1 : (numV s 1 != ((k + 1 : Nat) : Int)) = false := by rw [c]; simp
      have hq : acc.length + 1 ≤ 100 := by omega
      (have hcondQ := Bool.and_self; refine Todo.of ?_); (repeat' (first | ((with_reducible refine Todo.to ?_); (repeat (simp only [↓rP, rT, rU, dvalX, dval, dBin, dInt, fz1, DV.immB, elemsOf, dAppend, fzLL, fzL, bRow, bU, cellsOf, DV.isU, lenMax, Nat.reduceEqDiff, ↓reduceIte, Nat.reduceLeDiff, forall_const, d', wk, q0, c1, q1, parts_snoc, hcondQ]))) | ((with_reducible refine And.intro ?_ ?_); · omega) | fail))
      generalize rawS s1 4 = s2 at hr1'' hr3 ⊢
      rcases s2 with _ | ⟨l2, a2⟩
      all_goals exact ⟨(_, acc ++ [partV s1]), by simp only [cut_some, List.map_cons, List.map_nil, get_cons, Nk.get_nil, Nat.reduceEqDiff, ↓reduceIte, DV.cut, DV.inB, DObj.cut, List.take_nil, reduceCtorEq, decide_true, Nat.reduceLT, List.take_succ_cons, Int.natCast_add, Int.natCast_one, List.length_append, List.length_cons, List.length_nil, Nat.zero_add, oP] <;> rfl, hr1'', by simp only [List.length_append, List.length_cons, List.length_nil]; omega, hr3⟩
    · rw [if_neg c] at hr3
      have c1 : (numV s 1 != ((k + 1 : Nat) : Int)) = true := by simpa using c
      subst hr3
      (have hcondQ := Bool.and_self; refine Todo.of ?_); (repeat' (first | ((with_reducible refine Todo.to ?_); (repeat (simp only [↓rP, rT, rU, dvalX, dval, dBin, dInt, retV, retL, DR.val, fzT, fzVs, fzV, fz1, DV.immB, Nat.reduceEqDiff, ↓reduceIte, d', wk, q0, c1 ])))))
  · obtain ⟨s, acc⟩ := a
    obtain ⟨hr1, hr2, hr3⟩ := hr
    simp only [List.length_cons, List.length_nil, Nat.zero_add, Nat.reduceAdd] at hk
    subst hk
    simp only at hr1 hr2 hr3 ⊢
    unfold partsG at hr3
    subst hr3
    have q0 : ∀ t, s_Ok [.ptr 0 1 0 0] (oP s :: t) = ⟨True, .bool s.isSome, oP s :: t⟩ := fun t => s_Ok_at (r := s) rfl
    have q1 : ∀ t, s_More [.ptr 0 1 0 0] (oP s :: t) = ⟨True, .bool (moreO s), oP s :: t⟩ := fun t => s_More_at (r := s) rfl
    have ht : List.take acc.length (acc.map cBs) = acc.map cBs := List.take_of_length_le (by simp)
    cases c : s.isSome <;> rw [c] at q0
    · (have hcondQ := Bool.and_self; refine Todo.of ?_); (repeat' (first | ((with_reducible refine Todo.to ?_); (repeat (simp only [↓rP, rT, rU, dvalX, dval, dBin, dInt, retV, retL, DR.val, fzT, fzVs, fzV, fz1, DV.immB, elemsOf, freezeAt, Nat.reduceEqDiff, ↓reduceIte, reduceCtorEq, Nat.reduceSub, q0, ht, c ]))))) <;> (try (exact Nat.le_refl _))
    · (have hcondQ := Bool.and_self; refine Todo.of ?_); (repeat' (first | ((with_reducible refine Todo.to ?_); (repeat (simp only [↓rP, rT, rU, dvalX, dval, dBin, dInt, dUn, retV, retL, DR.val, fzT, fzVs, fzV, fz1, DV.immB, elemsOf, freezeAt, Nat.reduceEqDiff, ↓reduceIte, reduceCtorEq, Nat.reduceSub, q0, q1, ht, c ]))))) <;> (try (exact Nat.le_refl _))
end Go.Proofs.YtfaailjhioobhaaGreat

/- What reads an image's sections: a type, a kind, and what as many things as a number says come to. -/
set_option linter.all false
set_option maxRecDepth 20000
namespace Go.Proofs.YtfaailjhioobhaaGreat
open Go.Nk

/-! Readers of one thing. -/
noncomputable def specRX {α : Type} (V : α → DV) (f : RS → α × RS) : List DV → List DObj → Res := specG rRX (fun x => (okP x.2, V (f x.2).1)) (fun x hp => one hp x.1 (oP (f x.2).2))
theorem specRX_at {α : Type} {V : α → DV} {f : RS → α × RS} {hp : List DObj} {n : Nat} {r : RS} (h : hp[n]? = some (oP r)) : specRX V f [.agg [.ptr n 1 0 0]] hp = ⟨okP r, V (f r).1, one hp n (oP (f r).2)⟩ := specG_at (x := (n, r)) rRX_u ⟨rfl, h⟩
theorem one_rx {α : Type} {V : α → DV} {f : RS → α × RS} {hp : List DObj} {n : Nat} (hn : n < hp.length) {r : RS} (h : okP r) (t : List DObj) : specRX V f [.agg [.ptr n 1 0 0]] (one hp n (oP r) ++ t) = ⟨True, V (f r).1, one hp n (oP (f r).2) ++ t⟩ := by
  rw [specRX_at (one_get hn), eq_true h]
  congr 1
  exact one_set hn
theorem one_text {hp : List DObj} {n : Nat} (hn : n < hp.length) {r : RS} (h : okP r) (t : List DObj) : s_rText [.ptr n 1 0 0] (one hp n (oP r) ++ t) = ⟨True, .str (textV r), one hp n (oP (rawS r 2)) ++ t⟩ := by
  rw [s_rText_at (one_get hn), eq_true h, one_set hn]
theorem one_okr {hp : List DObj} {n : Nat} (hn : n < hp.length) {r : RS} (t : List DObj) : s_Ok [.ptr n 1 0 0] (one hp n (oP r) ++ t) = ⟨True, .bool r.isSome, one hp n (oP r) ++ t⟩ := s_Ok_at (one_get hn)

def tyO (r : RS) : Ty × RS := (⟨numV r 1, numV (nextS r (szN 1)) 1, numV (nextS (nextS r (szN 1)) (szN 1)) 1⟩, nextS (nextS (nextS r (szN 1)) (szN 1)) (szN 1))
theorem tyO_ok {r : RS} (h : okP r) : okP (tyO r).2 := nextS_ok _ (nextS_ok _ (nextS_ok _ h))
noncomputable def s_tTy : List DV → List DObj → Res := specRX (fun t => .agg (cTy t)) tyO
theorem ok_image_taker_ty : OkH Tryz.prog 119 s_tTy := by
  refine OkH.mkG (ps := []) (hs := [(76, s_Num)]) trivial ⟨ok_reader_Num, trivial⟩ m_image_taker_ty (fun x a hp h => by rw [h.1]; rfl) (fun x a hp h h1 => ?_)
  obtain ⟨n, r⟩ := x
  obtain ⟨rfl, hh⟩ := h
  have h1 : okP r := h1
  simp only at hh ⊢
  have hn := (List.getElem?_eq_some_iff.1 hh).1
  have es : (⟨frameFrom 0 [.agg [.ptr n 1 0 0]], hp⟩ : DS) = ⟨frameFrom 0 [.agg [.ptr n 1 0 0]], one hp n (oP r) ++ []⟩ := by rw [List.append_nil, one_is hh]
  rw [es]
  have q0 := one_num hn h1 1
  have hk1 := nextS_ok (szN 1) h1
  generalize ho : tyO r = O
  unfold tyO at ho
  generalize nextS r (szN 1) = r1 at q0 hk1 ho
  have q1 := one_num hn hk1 1
  have hk2 := nextS_ok (szN 1) hk1
  generalize nextS r1 (szN 1) = r2 at q1 hk2 ho
  have q2 := one_num hn hk2 1
  subst ho
  
  (have hcondQ := Bool.and_self; refine Todo.of ?_); (repeat' (first | ((with_reducible refine Todo.to ?_); (repeat (simp only [↓rP, rT, rU, buildCells, dvalX, dval, frameFrom, dLoad, cellsAt, retV, DR.val, dStore, DV.one, alive, cellsOf, setFrom, DV.isU, Nat.reduceEqDiff, Nat.reduceAdd, ↓reduceIte, reduceCtorEq, Nat.reduceLeDiff, forall_const, d_image_taker_ty, q0, q1, q2, one_len, one_b, one_b1, one_setb1, List.append_assoc, Nat.add_zero ]))) | ((with_reducible refine And.intro ?_ ?_); · first | (trivial) | ((simp; done))) | fail))
  all_goals exact one_end (oP_cut _ _)
def kiO (r : RS) : Int × RS := (numV r 2, nextS r (szN 2))
noncomputable def s_tKind : List DV → List DObj → Res := specRX (fun k => .int .i64 k) kiO
theorem ok_image_taker_kind : OkH Tryz.prog 87 s_tKind := by
  refine OkH.mkG (ps := []) (hs := [(76, s_Num)]) trivial ⟨ok_reader_Num, trivial⟩ m_image_taker_kind (fun x a hp h => by rw [h.1]; rfl) (fun x a hp h h1 => ?_)
  obtain ⟨n, r⟩ := x
  obtain ⟨rfl, hh⟩ := h
  have h1 : okP r := h1
  simp only at hh ⊢
  have hn := (List.getElem?_eq_some_iff.1 hh).1
  have es : (⟨frameFrom 0 [.agg [.ptr n 1 0 0]], hp⟩ : DS) = ⟨frameFrom 0 [.agg [.ptr n 1 0 0]], one hp n (oP r) ++ []⟩ := by rw [List.append_nil, one_is hh]
  rw [es]
  have q0 := one_num hn h1 2
  generalize ho : kiO r = O
  unfold kiO at ho
  subst ho
  
  (have hcondQ := Bool.and_self; refine Todo.of ?_); (repeat' (first | ((with_reducible refine Todo.to ?_); (repeat (simp only [↓rP, rT, rU, dvalX, dval, frameFrom, dLoad, cellsAt, retV, DR.val, DV.one, alive, cellsOf, Nat.reduceEqDiff, ↓reduceIte, reduceCtorEq, forall_const, d_image_taker_kind, q0, one_len, one_b, List.append_assoc, Nat.add_zero ]))) | ((with_reducible refine And.intro ?_ ?_); · first | (trivial) | ((simp; done))) | fail))
  all_goals exact one_end (oP_cut _ _)

theorem tKind_at {hp : List DObj} {n : Nat} (hn : n < hp.length) {r : RS} (h : okP r) (t : List DObj) : s_tKind [.agg [.ptr n 1 0 0]] (one hp n (oP r) ++ t) = ⟨True, .int .i64 (numV r 2), one hp n (oP (nextS r (szN 2))) ++ t⟩ := one_rx hn h t
theorem tTy_at {hp : List DObj} {n : Nat} (hn : n < hp.length) {r : RS} (h : okP r) (t : List DObj) : s_tTy [.agg [.ptr n 1 0 0]] (one hp n (oP r) ++ t) = ⟨True, .agg (cTy (tyO r).1), one hp n (oP (tyO r).2) ++ t⟩ := one_rx hn h t

/-! As many things as a number says. -/
def goF {α : Type} (f : RS → α × RS) : Nat → RS → List α → List α × RS
  | 0, r, acc => (acc, r)
  | k + 1, r, acc => if (f r).2.isSome then goF f k (f r).2 (acc ++ [(f r).1]) else ([], none)
def someF {α : Type} (f : RS → α × RS) (r : RS) (z : Int) : List α × RS := goF f (numV r z).toNat (nextS r (szN z)) []
def rSoG (G : Nat → DV) (x : Nat × RS × Int) (a : List DV) (hp : List DObj) : Prop := a = [.agg [.ptr x.1 1 0 0], .int .i64 x.2.2, G x.1] ∧ hp[x.1]? = some (oP x.2.1)
theorem rSoG_u (G : Nat → DV) : ∀ x y a hp, rSoG G x a hp → rSoG G y a hp → x = y := by
  rintro ⟨n, r, z⟩ ⟨n', r', z'⟩ a hp ⟨h1, h2⟩ ⟨h3, h4⟩
  subst h1
  simp only [List.cons.injEq, DV.agg.injEq, DV.ptr.injEq, DV.int.injEq, and_true, true_and] at h3
  obtain ⟨rfl, rfl, -⟩ := h3
  have := h2.symm.trans h4
  simp only [Option.some.injEq] at this
  rw [oP_inj _ _ this]
noncomputable def specSo {α : Type} (G : Nat → DV) (c : α → List DV) (f : RS → α × RS) : List DV → List DObj → Res :=
  specG (rSoG G) (fun x => (okP x.2.1 ∧ (x.2.2 = 1 ∨ x.2.2 = 2), .sl ((someF f x.2.1 x.2.2).1.map c))) (fun x hp => one hp x.1 (oP (someF f x.2.1 x.2.2).2))
theorem specSo_at {α : Type} {G : Nat → DV} {c : α → List DV} {f : RS → α × RS} {hp : List DObj} {n : Nat} {r : RS} {z : Int} (h : hp[n]? = some (oP r)) : specSo G c f [.agg [.ptr n 1 0 0], .int .i64 z, G n] hp = ⟨okP r ∧ (z = 1 ∨ z = 2), .sl ((someF f r z).1.map c), one hp n (oP (someF f r z).2)⟩ := specG_at (x := (n, r, z)) (rSoG_u G) ⟨rfl, h⟩
theorem one_so {α : Type} {G : Nat → DV} {c : α → List DV} {f : RS → α × RS} {hp : List DObj} {n : Nat} (hn : n < hp.length) {r : RS} (h : okP r) {z : Int} (hz : z = 1 ∨ z = 2) (t : List DObj) : specSo G c f [.agg [.ptr n 1 0 0], .int .i64 z, G n] (one hp n (oP r) ++ t) = ⟨True, .sl ((someF f r z).1.map c), one hp n (oP (someF f r z).2) ++ t⟩ := by
  rw [specSo_at (one_get hn), eq_true (show okP r ∧ (z = 1 ∨ z = 2) from ⟨h, hz⟩)]
  congr 1
  exact one_set hn
theorem nextV_size {r : RS} {k : Int} : ((nextV r k).getD []).length ≤ k.toNat := by
  rcases r with _ | ⟨l, a⟩
  · simp [nextV]
  · unfold nextV nxt
    simp only
    split <;> simp <;> omega
theorem numV_lt (r : RS) {z : Int} (h : z = 1 ∨ z = 2) : 0 ≤ numV r z ∧ numV r z < 65536 ∧ (z = 1 → numV r z < 256) := by
  have hs : szN z = z := by rcases h with rfl | rfl <;> decide
  have h1 := nextV_size (r := r) (k := z)
  have h8 : z.toNat ≤ 2 := by rcases h with rfl | rfl <;> decide
  have hlt := getF_lt ((nextV r z).getD []) (by omega)
  have h2 : 256 ^ ((nextV r z).getD []).length ≤ 256 ^ z.toNat := Nat.pow_le_pow_right (by decide) h1
  have h3 : 256 ^ z.toNat ≤ 65536 := by rcases h with rfl | rfl <;> decide
  have hv : numV r z = (getF ((nextV r z).getD []) : Int) := by
    unfold numV
    rw [hs, wrap_i64_id]
    omega
  rw [hv]
  refine ⟨by omega, by omega, fun e => ?_⟩
  subst e
  have : (256 : Nat) ^ (1 : Int).toNat = 256 := rfl
  omega
theorem goF_step {α : Type} {f : RS → α × RS} {N k : Nat} {r : RS} {acc : List α} {G : List α × RS} (hk : k < N) (h : goF f (N - k) r acc = G) :
    if (f r).2.isSome then goF f (N - (k + 1)) (f r).2 (acc ++ [(f r).1]) = G else G = ([], none) := by
  have e : N - k = (N - (k + 1)) + 1 := by omega
  rw [e] at h
  unfold goF at h
  split
  · rename_i c; rw [if_pos c] at h; exact h
  · rename_i c; rw [if_neg c] at h; exact h.symm
theorem goF_end {α : Type} {f : RS → α × RS} {N k : Nat} {r : RS} {acc : List α} {G : List α × RS} (hk : ¬ k < N) (h : goF f (N - k) r acc = G) : G = (acc, r) := by
  have e : N - k = 0 := by omega
  rw [e] at h
  exact h.symm
theorem oP_none {r : RS} (h : r.isSome = false) : r = none := by cases r <;> simp_all
/-! What is behind. -/
section
variable {hp t : List DObj} {m : Nat} {o o' a b c : DObj}
theorem one_bt : (one hp m o ++ (a :: b :: (t ++ [c])))[hp.length + (t.length + 1 + 1)]? = some c := by
  rw [List.getElem?_append_right (by simp [one])]
  have : hp.length + (t.length + 1 + 1) - (one hp m o).length = t.length + 1 + 1 := by rw [one_len]; omega
  rw [this]
  simp
theorem one_setbt : (one hp m o ++ (a :: b :: (t ++ [c]))).set (hp.length + (t.length + 1 + 1)) o' = one hp m o ++ (a :: b :: (t ++ [o'])) := by
  rw [List.set_append_right _ _ (by simp [one])]
  have : hp.length + (t.length + 1 + 1) - (one hp m o).length = t.length + 1 + 1 := by rw [one_len]; omega
  rw [this]
  simp
end
end Go.Proofs.YtfaailjhioobhaaGreat

/- As many texts, numbers, kinds as a number says. -/
set_option linter.all false
set_option maxRecDepth 20000
namespace Go.Proofs.YtfaailjhioobhaaGreat
open Go.Nk

def txO (r : RS) : List UInt8 × RS := (textV r, rawS r 2)
def inO (r : RS) : Int × RS := (intV r, intS r)
def gTx (n : Nat) : DV := .meth 117 [.ptr n 1 0 0]
def cTx (x : List UInt8) : List DV := [.str x]
theorem snTx (l : List (List UInt8)) (x : List UInt8) : l.map cTx ++ [[.str x]] = (l ++ [x]).map cTx := by simp [cTx]
noncomputable def s_soTx : List DV → List DObj → Res := specSo gTx cTx txO
set_option maxHeartbeats 2000000 in
theorem ok_some_Tx : OkH Tryz.prog 118 s_soTx := by
  refine OkH.mkG (ps := []) (hs := [(76, s_Num), (78, s_Ok), (117, s_rText)]) trivial ⟨ok_reader_Num, ok_reader_Ok, ok_reader_Text, trivial⟩ m_image_some_string (fun x a hp h => by rw [h.1]; rfl) (fun x a hp h h1 => ?_)
  obtain ⟨n, r, z⟩ := x
  obtain ⟨rfl, hh⟩ := h
  obtain ⟨hr, hz⟩ : okP r ∧ (z = 1 ∨ z = 2) := h1
  simp only at hh ⊢
  have hn := (List.getElem?_eq_some_iff.1 hh).1
  have es : (⟨frameFrom 0 [.agg [.ptr n 1 0 0], .int .i64 z, gTx n], hp⟩ : DS) = ⟨frameFrom 0 [.agg [.ptr n 1 0 0], .int .i64 z, gTx n], one hp n (oP r) ++ []⟩ := by rw [List.append_nil, one_is hh]
  rw [es]
  have q0 := one_num hn hr z
  obtain ⟨n0, n1, -⟩ := numV_lt r hz
  generalize hG : someF txO r z = G
  unfold someF at hG
  have hr' := nextS_ok (szN z) hr
  generalize nextS r (szN z) = r1 at q0 hG hr'
  generalize numV r z = N at q0 n0 n1 hG
  clear hr hz hh
  
  unfold gTx
  (have hcondQ := Bool.and_self; refine Todo.of ?_); (repeat' (first | ((with_reducible refine Todo.to ?_); (repeat (simp only [↓rP, rT, rU, dvalX, dval, frameFrom, dLoad, cellsAt, DV.one, alive, cellsOf, Nat.reduceEqDiff, Nat.reduceAdd, ↓reduceIte, reduceCtorEq, forall_const, d_image_some_string, q0, one_len, one_b, List.append_assoc, Nat.add_zero ])))))
  refine dwp_loop (fun x : Nat × RS × List (List UInt8) => ⟨[(2, .meth 117 [.ptr n 1 0 0]), (3, .ptr hp.length 1 0 0), (7, .own (hp.length + 1) x.2.2.length 0 x.2.2.length), (12, .int .i64 N), (13, .int .i64 x.1)], one hp n (oP x.2.1) ++ [⟨.loc, 1, [[.ptr n 1 0 0]]⟩, ⟨.imm, 1, x.2.2.map cTx⟩]⟩) (fun x => x.1 ≤ N.toNat ∧ x.2.2.length = x.1 ∧ okP x.2.1 ∧ goF txO (N.toNat - x.1) x.2.1 x.2.2 = G) (fun x => N.toNat - x.1) (0, r1, []) trivial (by simp only [cut_none, List.map_cons, List.map_nil, get_cons, Nk.get_nil, Nat.reduceEqDiff, ↓reduceIte, Nat.succ_ne_self, reduceCtorEq, List.length_nil] <;> rfl) ⟨Nat.zero_le _, rfl, hr', hG⟩ fun x hx => ?_
  obtain ⟨k, s, acc⟩ := x
  obtain ⟨hk, hl, hs, hg⟩ := hx
  simp only at hk hl hs hg ⊢
  by_cases d : (k : Int) < N
  · have wk := wk_of (k := k) (n := N.toNat) (by omega) (by omega)
    have hkN : k < N.toNat := by omega
    have d' : decide ((k : Int) < N) = true := decide_eq_true d
    have st := goF_step hkN hg
    unfold txO at st
    have q1 := one_text hn hs
    have hs2 := rawS_ok 2 hs
    generalize rawS s 2 = s2 at q1 hs2 st
    generalize textV s = v at q1 st
    simp only at st
    have q2 := fun t => one_okr (r := s2) hn t
    have hq : acc.length + 1 ≤ 100000 := by omega
    cases c : s2.isSome
    · rw [c] at q2 st
      simp only [Bool.false_eq_true, ↓reduceIte] at st
      subst st
      have e2 := oP_none c
      subst e2
      (have hcondQ := Bool.and_self; refine Todo.of ?_); (repeat' (first | ((with_reducible refine Todo.to ?_); (repeat (simp only [↓rP, rT, rU, dvalX, dval, dBin, dInt, dUn, dLoad, cellsAt, retV, DR.val, fzV, fz1, alive, Nat.reduceEqDiff, ↓reduceIte, reduceCtorEq, d', q1, q2, one_len, one_b, Nat.add_zero ]))) | ((with_reducible refine And.intro ?_ ?_); · first | (trivial) | ((simp; done))) | fail))
      all_goals exact one_end (oP_cut _ _)
    · rw [c] at q2 st
      simp only [↓reduceIte] at st
      (have hcondQ := Bool.and_self; refine Todo.of ?_); (repeat' (first | ((with_reducible refine Todo.to ?_); (repeat (simp only [↓rP, rT, rU, dvalX, dval, dBin, dInt, dUn, dLoad, cellsAt, fz1, DV.immB, elemsOf, dAppend, alive, fzLL, fzL, bRow, bU, cellsOf, DV.isU, lenMax, Nat.reduceEqDiff, ↓reduceIte, reduceCtorEq, Nat.reduceLeDiff, forall_const, d', wk, q1, q2, snTx, one_b, one_b1, one_setb1, Nat.add_zero , hcondQ]))) | ((with_reducible refine And.intro ?_ ?_); · omega) | fail))
      exact ⟨(k + 1, s2, acc ++ [v]), by simp only [cut_none, List.map_cons, List.map_nil, get_cons, Nk.get_nil, Nat.reduceEqDiff, ↓reduceIte, Nat.succ_ne_self, Int.natCast_add, Int.natCast_one, List.length_append, List.length_cons, List.length_nil, Nat.zero_add] <;> rfl, ⟨by simp only; omega, by simp only [List.length_append, List.length_cons, List.length_nil]; omega, hs2, st⟩, by simp only; omega⟩
  · have d' : decide ((k : Int) < N) = false := decide_eq_false d
    have st := goF_end (by omega) hg
    subst st
    have ht : List.take acc.length (acc.map cTx) = acc.map cTx := List.take_of_length_le (by simp)
    (have hcondQ := Bool.and_self; refine Todo.of ?_); (repeat' (first | ((with_reducible refine Todo.to ?_); (repeat (simp only [↓rP, rT, rU, dvalX, dval, dBin, dInt, retV, DR.val, fzV, fz1, elemsOf, freezeAt, Nat.reduceEqDiff, ↓reduceIte, reduceCtorEq, d', ht, one_len, one_b1, one_setb1 ]))) | ((with_reducible refine And.intro ?_ ?_); · first | (trivial) | (omega) | ((simp; done))) | fail))
    all_goals exact one_end (oP_cut _ _)
def gNu (n : Nat) : DV := .meth 121 [.ptr n 1 0 0]
def cNu (x : Int) : List DV := [.int .i64 x]
theorem snNu (l : List (Int)) (x : Int) : l.map cNu ++ [[.int .i64 x]] = (l ++ [x]).map cNu := by simp [cNu]
noncomputable def s_soNu : List DV → List DObj → Res := specSo gNu cNu inO
set_option maxHeartbeats 2000000 in
theorem ok_some_Nu : OkH Tryz.prog 120 s_soNu := by
  refine OkH.mkG (ps := []) (hs := [(76, s_Num), (78, s_Ok), (121, s_rInt)]) trivial ⟨ok_reader_Num, ok_reader_Ok, ok_reader_Int, trivial⟩ m_image_some_int64 (fun x a hp h => by rw [h.1]; rfl) (fun x a hp h h1 => ?_)
  obtain ⟨n, r, z⟩ := x
  obtain ⟨rfl, hh⟩ := h
  obtain ⟨hr, hz⟩ : okP r ∧ (z = 1 ∨ z = 2) := h1
  simp only at hh ⊢
  have hn := (List.getElem?_eq_some_iff.1 hh).1
  have es : (⟨frameFrom 0 [.agg [.ptr n 1 0 0], .int .i64 z, gNu n], hp⟩ : DS) = ⟨frameFrom 0 [.agg [.ptr n 1 0 0], .int .i64 z, gNu n], one hp n (oP r) ++ []⟩ := by rw [List.append_nil, one_is hh]
  rw [es]
  have q0 := one_num hn hr z
  obtain ⟨n0, n1, -⟩ := numV_lt r hz
  generalize hG : someF inO r z = G
  unfold someF at hG
  have hr' := nextS_ok (szN z) hr
  generalize nextS r (szN z) = r1 at q0 hG hr'
  generalize numV r z = N at q0 n0 n1 hG
  clear hr hz hh
  
  unfold gNu
  (have hcondQ := Bool.and_self; refine Todo.of ?_); (repeat' (first | ((with_reducible refine Todo.to ?_); (repeat (simp only [↓rP, rT, rU, dvalX, dval, frameFrom, dLoad, cellsAt, DV.one, alive, cellsOf, Nat.reduceEqDiff, Nat.reduceAdd, ↓reduceIte, reduceCtorEq, forall_const, d_image_some_int64, q0, one_len, one_b, List.append_assoc, Nat.add_zero ])))))
  refine dwp_loop (fun x : Nat × RS × List (Int) => ⟨[(2, .meth 121 [.ptr n 1 0 0]), (3, .ptr hp.length 1 0 0), (7, .own (hp.length + 1) x.2.2.length 0 x.2.2.length), (12, .int .i64 N), (13, .int .i64 x.1)], one hp n (oP x.2.1) ++ [⟨.loc, 1, [[.ptr n 1 0 0]]⟩, ⟨.imm, 1, x.2.2.map cNu⟩]⟩) (fun x => x.1 ≤ N.toNat ∧ x.2.2.length = x.1 ∧ okP x.2.1 ∧ goF inO (N.toNat - x.1) x.2.1 x.2.2 = G) (fun x => N.toNat - x.1) (0, r1, []) trivial (by simp only [cut_none, List.map_cons, List.map_nil, get_cons, Nk.get_nil, Nat.reduceEqDiff, ↓reduceIte, Nat.succ_ne_self, reduceCtorEq, List.length_nil] <;> rfl) ⟨Nat.zero_le _, rfl, hr', hG⟩ fun x hx => ?_
  obtain ⟨k, s, acc⟩ := x
  obtain ⟨hk, hl, hs, hg⟩ := hx
  simp only at hk hl hs hg ⊢
  by_cases d : (k : Int) < N
  · have wk := wk_of (k := k) (n := N.toNat) (by omega) (by omega)
    have hkN : k < N.toNat := by omega
    have d' : decide ((k : Int) < N) = true := decide_eq_true d
    have st := goF_step hkN hg
    unfold inO at st
    have q1 := one_int hn hs
    have hs2 := intS_ok hs
    generalize intS s = s2 at q1 hs2 st
    generalize intV s = v at q1 st
    simp only at st
    have q2 := fun t => one_okr (r := s2) hn t
    have hq : acc.length + 1 ≤ 100000 := by omega
    cases c : s2.isSome
    · rw [c] at q2 st
      simp only [Bool.false_eq_true, ↓reduceIte] at st
      subst st
      have e2 := oP_none c
      subst e2
      (have hcondQ := Bool.and_self; refine Todo.of ?_); (repeat' (first | ((with_reducible refine Todo.to ?_); (repeat (simp only [↓rP, rT, rU, dvalX, dval, dBin, dInt, dUn, dLoad, cellsAt, retV, DR.val, fzV, fz1, alive, Nat.reduceEqDiff, ↓reduceIte, reduceCtorEq, d', q1, q2, one_len, one_b, Nat.add_zero ]))) | ((with_reducible refine And.intro ?_ ?_); · first | (trivial) | ((simp; done))) | fail))
      all_goals exact one_end (oP_cut _ _)
    · rw [c] at q2 st
      simp only [↓reduceIte] at st
      (have hcondQ := Bool.and_self; refine Todo.of ?_); (repeat' (first | ((with_reducible refine Todo.to ?_); (repeat (simp only [↓rP, rT, rU, dvalX, dval, dBin, dInt, dUn, dLoad, cellsAt, fz1, DV.immB, elemsOf, dAppend, alive, fzLL, fzL, bRow, bU, cellsOf, DV.isU, lenMax, Nat.reduceEqDiff, ↓reduceIte, reduceCtorEq, Nat.reduceLeDiff, forall_const, d', wk, q1, q2, snNu, one_b, one_b1, one_setb1, Nat.add_zero , hcondQ]))) | ((with_reducible refine And.intro ?_ ?_); · omega) | fail))
      exact ⟨(k + 1, s2, acc ++ [v]), by simp only [cut_none, List.map_cons, List.map_nil, get_cons, Nk.get_nil, Nat.reduceEqDiff, ↓reduceIte, Nat.succ_ne_self, Int.natCast_add, Int.natCast_one, List.length_append, List.length_cons, List.length_nil, Nat.zero_add] <;> rfl, ⟨by simp only; omega, by simp only [List.length_append, List.length_cons, List.length_nil]; omega, hs2, st⟩, by simp only; omega⟩
  · have d' : decide ((k : Int) < N) = false := decide_eq_false d
    have st := goF_end (by omega) hg
    subst st
    have ht : List.take acc.length (acc.map cNu) = acc.map cNu := List.take_of_length_le (by simp)
    (have hcondQ := Bool.and_self; refine Todo.of ?_); (repeat' (first | ((with_reducible refine Todo.to ?_); (repeat (simp only [↓rP, rT, rU, dvalX, dval, dBin, dInt, retV, DR.val, fzV, fz1, elemsOf, freezeAt, Nat.reduceEqDiff, ↓reduceIte, reduceCtorEq, d', ht, one_len, one_b1, one_setb1 ]))) | ((with_reducible refine And.intro ?_ ?_); · first | (trivial) | (omega) | ((simp; done))) | fail))
    all_goals exact one_end (oP_cut _ _)
def gKi (n : Nat) : DV := .meth 87 [.agg [.ptr n 1 0 0]]
def cKi (x : Int) : List DV := [.int .i64 x]
theorem snKi (l : List (Int)) (x : Int) : l.map cKi ++ [[.int .i64 x]] = (l ++ [x]).map cKi := by simp [cKi]
noncomputable def s_soKi : List DV → List DObj → Res := specSo gKi cKi kiO
set_option maxHeartbeats 2000000 in
theorem ok_some_Ki : OkH Tryz.prog 86 s_soKi := by
  refine OkH.mkG (ps := []) (hs := [(76, s_Num), (78, s_Ok), (87, s_tKind)]) trivial ⟨ok_reader_Num, ok_reader_Ok, ok_image_taker_kind, trivial⟩ m_image_some_int (fun x a hp h => by rw [h.1]; rfl) (fun x a hp h h1 => ?_)
  obtain ⟨n, r, z⟩ := x
  obtain ⟨rfl, hh⟩ := h
  obtain ⟨hr, hz⟩ : okP r ∧ (z = 1 ∨ z = 2) := h1
  simp only at hh ⊢
  have hn := (List.getElem?_eq_some_iff.1 hh).1
  have es : (⟨frameFrom 0 [.agg [.ptr n 1 0 0], .int .i64 z, gKi n], hp⟩ : DS) = ⟨frameFrom 0 [.agg [.ptr n 1 0 0], .int .i64 z, gKi n], one hp n (oP r) ++ []⟩ := by rw [List.append_nil, one_is hh]
  rw [es]
  have q0 := one_num hn hr z
  obtain ⟨n0, n1, -⟩ := numV_lt r hz
  generalize hG : someF kiO r z = G
  unfold someF at hG
  have hr' := nextS_ok (szN z) hr
  generalize nextS r (szN z) = r1 at q0 hG hr'
  generalize numV r z = N at q0 n0 n1 hG
  clear hr hz hh
  
  unfold gKi
  (have hcondQ := Bool.and_self; refine Todo.of ?_); (repeat' (first | ((with_reducible refine Todo.to ?_); (repeat (simp only [↓rP, rT, rU, dvalX, dval, frameFrom, dLoad, cellsAt, DV.one, alive, cellsOf, Nat.reduceEqDiff, Nat.reduceAdd, ↓reduceIte, reduceCtorEq, forall_const, d_image_some_int, q0, one_len, one_b, List.append_assoc, Nat.add_zero ])))))
  refine dwp_loop (fun x : Nat × RS × List (Int) => ⟨[(2, .meth 87 [.agg [.ptr n 1 0 0]]), (3, .ptr hp.length 1 0 0), (7, .own (hp.length + 1) x.2.2.length 0 x.2.2.length), (12, .int .i64 N), (13, .int .i64 x.1)], one hp n (oP x.2.1) ++ [⟨.loc, 1, [[.ptr n 1 0 0]]⟩, ⟨.imm, 1, x.2.2.map cKi⟩]⟩) (fun x => x.1 ≤ N.toNat ∧ x.2.2.length = x.1 ∧ okP x.2.1 ∧ goF kiO (N.toNat - x.1) x.2.1 x.2.2 = G) (fun x => N.toNat - x.1) (0, r1, []) trivial (by simp only [cut_none, List.map_cons, List.map_nil, get_cons, Nk.get_nil, Nat.reduceEqDiff, ↓reduceIte, Nat.succ_ne_self, reduceCtorEq, List.length_nil] <;> rfl) ⟨Nat.zero_le _, rfl, hr', hG⟩ fun x hx => ?_
  obtain ⟨k, s, acc⟩ := x
  obtain ⟨hk, hl, hs, hg⟩ := hx
  simp only at hk hl hs hg ⊢
  by_cases d : (k : Int) < N
  · have wk := wk_of (k := k) (n := N.toNat) (by omega) (by omega)
    have hkN : k < N.toNat := by omega
    have d' : decide ((k : Int) < N) = true := decide_eq_true d
    have st := goF_step hkN hg
    unfold kiO at st
    have q1 := tKind_at hn hs
    have hs2 := nextS_ok (szN 2) hs
    generalize nextS s (szN 2) = s2 at q1 hs2 st
    generalize numV s 2 = v at q1 st
    simp only at st
    have q2 := fun t => one_okr (r := s2) hn t
    have hq : acc.length + 1 ≤ 100000 := by omega
    cases c : s2.isSome
    · rw [c] at q2 st
      simp only [Bool.false_eq_true, ↓reduceIte] at st
      subst st
      have e2 := oP_none c
      subst e2
      (have hcondQ := Bool.and_self; refine Todo.of ?_); (repeat' (first | ((with_reducible refine Todo.to ?_); (repeat (simp only [↓rP, rT, rU, dvalX, dval, dBin, dInt, dUn, dLoad, cellsAt, retV, DR.val, fzV, fz1, alive, Nat.reduceEqDiff, ↓reduceIte, reduceCtorEq, d', q1, q2, one_len, one_b, Nat.add_zero ]))) | ((with_reducible refine And.intro ?_ ?_); · first | (trivial) | ((simp; done))) | fail))
      all_goals exact one_end (oP_cut _ _)
    · rw [c] at q2 st
      simp only [↓reduceIte] at st
      (have hcondQ := Bool.and_self; refine Todo.of ?_); (repeat' (first | ((with_reducible refine Todo.to ?_); (repeat (simp only [↓rP, rT, rU, dvalX, dval, dBin, dInt, dUn, dLoad, cellsAt, fz1, DV.immB, elemsOf, dAppend, alive, fzLL, fzL, bRow, bU, cellsOf, DV.isU, lenMax, Nat.reduceEqDiff, ↓reduceIte, reduceCtorEq, Nat.reduceLeDiff, forall_const, d', wk, q1, q2, snKi, one_b, one_b1, one_setb1, Nat.add_zero , hcondQ]))) | ((with_reducible refine And.intro ?_ ?_); · omega) | fail))
      exact ⟨(k + 1, s2, acc ++ [v]), by simp only [cut_none, List.map_cons, List.map_nil, get_cons, Nk.get_nil, Nat.reduceEqDiff, ↓reduceIte, Nat.succ_ne_self, Int.natCast_add, Int.natCast_one, List.length_append, List.length_cons, List.length_nil, Nat.zero_add] <;> rfl, ⟨by simp only; omega, by simp only [List.length_append, List.length_cons, List.length_nil]; omega, hs2, st⟩, by simp only; omega⟩
  · have d' : decide ((k : Int) < N) = false := decide_eq_false d
    have st := goF_end (by omega) hg
    subst st
    have ht : List.take acc.length (acc.map cKi) = acc.map cKi := List.take_of_length_le (by simp)
    (have hcondQ := Bool.and_self; refine Todo.of ?_); (repeat' (first | ((with_reducible refine Todo.to ?_); (repeat (simp only [↓rP, rT, rU, dvalX, dval, dBin, dInt, retV, DR.val, fzV, fz1, elemsOf, freezeAt, Nat.reduceEqDiff, ↓reduceIte, reduceCtorEq, d', ht, one_len, one_b1, one_setb1 ]))) | ((with_reducible refine And.intro ?_ ?_); · first | (trivial) | (omega) | ((simp; done))) | fail))
    all_goals exact one_end (oP_cut _ _)
end Go.Proofs.YtfaailjhioobhaaGreat

/- An enum, a port, a slot that is read. -/
set_option linter.all false
set_option maxRecDepth 20000
namespace Go.Proofs.YtfaailjhioobhaaGreat
open Go.Nk

theorem soTx_at {hp : List DObj} {n : Nat} (hn : n < hp.length) {r : RS} (h : okP r) (t : List DObj) : s_soTx [.agg [.ptr n 1 0 0], .int .i64 1, .meth 117 [.ptr n 1 0 0]] (one hp n (oP r) ++ t) = ⟨True, .sl (sls (someF txO r 1).1), one hp n (oP (someF txO r 1).2) ++ t⟩ := one_so (G := gTx) (c := cTx) hn h (.inl rfl) t
theorem soNu_at {hp : List DObj} {n : Nat} (hn : n < hp.length) {r : RS} (h : okP r) (t : List DObj) : s_soNu [.agg [.ptr n 1 0 0], .int .i64 1, .meth 121 [.ptr n 1 0 0]] (one hp n (oP r) ++ t) = ⟨True, .sl (ils (someF inO r 1).1), one hp n (oP (someF inO r 1).2) ++ t⟩ := one_so (G := gNu) (c := cNu) hn h (.inl rfl) t
theorem goF_ok {α : Type} {f : RS → α × RS} (hf : ∀ r, okP r → okP (f r).2) : ∀ (k : Nat) (r : RS) (acc : List α), okP r → okP (goF f k r acc).2
  | 0, _, _, h => h
  | k + 1, r, acc, h => by
    unfold goF
    split
    · exact goF_ok hf k _ _ (hf r h)
    · trivial
theorem someF_ok {α : Type} {f : RS → α × RS} (hf : ∀ r, okP r → okP (f r).2) {r : RS} (h : okP r) (z : Int) : okP (someF f r z).2 := goF_ok hf _ _ _ (nextS_ok _ h)
theorem only_one {hp t : List DObj} {n : Nat} {o o' : DObj} : Only (some n) (one hp n o ++ t) (one hp n o' ++ t) := fun h hl hne => by
  have e : n ≠ h := fun e => hne (by rw [e])
  unfold one
  rcases Nat.lt_or_ge h hp.length with q | q
  · rw [List.getElem?_append_left (by simpa using q), List.getElem?_append_left (by simpa using q), List.getElem?_set_ne e, List.getElem?_set_ne e]
  · rw [List.getElem?_append_right (by simpa using q), List.getElem?_append_right (by simpa using q)]
    simp
def enO (r : RS) : En × RS := (⟨textV r, (someF txO (rawS r 2) 1).1⟩, (someF txO (rawS r 2) 1).2)
theorem enO_ok {r : RS} (h : okP r) : okP (enO r).2 := someF_ok (fun _ h => rawS_ok 2 h) (rawS_ok 2 h) 1
def prO (r : RS) : Prt × RS := (⟨textV r, (tyO (rawS r 2)).1⟩, (tyO (rawS r 2)).2)
theorem prO_ok {r : RS} (h : okP r) : okP (prO r).2 := tyO_ok (rawS_ok 2 h)
def slO (r : RS) : Slt × RS := (⟨textV r, (tyO (rawS r 2)).1, 0, (someF inO (tyO (rawS r 2)).2 1).1⟩, (someF inO (tyO (rawS r 2)).2 1).2)
theorem slO_ok {r : RS} (h : okP r) : okP (slO r).2 := someF_ok (fun _ h => intS_ok h) (tyO_ok (rawS_ok 2 h)) 1
abbrev VEn (e : En) : DV := .agg (cEn e)
abbrev VPrt (e : Prt) : DV := .agg (cPrt e)
abbrev VSlt (e : Slt) : DV := .agg (cSlt e)
noncomputable def s_tEn : List DV → List DObj → Res := specRX VEn enO
noncomputable def s_tPrt : List DV → List DObj → Res := specRX VPrt prO
noncomputable def s_tSlt : List DV → List DObj → Res := specRX VSlt slO
theorem tEn_at {hp : List DObj} {n : Nat} (hn : n < hp.length) {r : RS} (h : okP r) (t : List DObj) : s_tEn [.agg [.ptr n 1 0 0]] (one hp n (oP r) ++ t) = ⟨True, .agg (cEn (enO r).1), one hp n (oP (enO r).2) ++ t⟩ := one_rx hn h t
theorem tPrt_at {hp : List DObj} {n : Nat} (hn : n < hp.length) {r : RS} (h : okP r) (t : List DObj) : s_tPrt [.agg [.ptr n 1 0 0]] (one hp n (oP r) ++ t) = ⟨True, .agg (cPrt (prO r).1), one hp n (oP (prO r).2) ++ t⟩ := one_rx hn h t
theorem tSlt_at {hp : List DObj} {n : Nat} (hn : n < hp.length) {r : RS} (h : okP r) (t : List DObj) : s_tSlt [.agg [.ptr n 1 0 0]] (one hp n (oP r) ++ t) = ⟨True, .agg (cSlt (slO r).1), one hp n (oP (slO r).2) ++ t⟩ := one_rx hn h t
theorem ok_image_taker_enum : OkH Tryz.prog 81 s_tEn := by
  refine OkH.mkG (ps := []) (hs := [(117, s_rText), (118, s_soTx)]) trivial ⟨ok_reader_Text, ok_some_Tx, trivial⟩ m_image_taker_enum (fun x a hp h => by rw [h.1]; rfl) (fun x a hp h h1 => ?_)
  obtain ⟨n, r⟩ := x
  obtain ⟨rfl, hh⟩ := h
  have h1 : okP r := h1
  simp only at hh ⊢
  have hn := (List.getElem?_eq_some_iff.1 hh).1
  have es : (⟨frameFrom 0 [.agg [.ptr n 1 0 0]], hp⟩ : DS) = ⟨frameFrom 0 [.agg [.ptr n 1 0 0]], one hp n (oP r) ++ []⟩ := by rw [List.append_nil, one_is hh]
  rw [es]
  have q0 := one_text hn h1
  have hk1 := rawS_ok 2 h1
  generalize ho : enO r = O
  unfold enO at ho
  generalize rawS r 2 = r1 at q0 hk1 ho
  have q1 := soTx_at hn hk1
  subst ho
  
  (have hcondQ := Bool.and_self; refine Todo.of ?_); (repeat' (first | ((with_reducible refine Todo.to ?_); (repeat (simp only [↓rP, rT, rU, buildCells, dvalX, dval, frameFrom, dLoad, cellsAt, retV, DR.val, dStore, DV.one, alive, cellsOf, setFrom, DV.isU, Nat.reduceEqDiff, Nat.reduceAdd, ↓reduceIte, reduceCtorEq, Nat.reduceLeDiff, forall_const, d_image_taker_enum, q0, q1, one_len, one_b, one_b1, one_setb1, List.append_assoc, Nat.add_zero ]))) | ((with_reducible refine And.intro ?_ ?_); · first | (trivial) | ((simp; done))) | fail))
  all_goals exact one_end (oP_cut _ _)
theorem ok_image_taker_port : OkH Tryz.prog 83 s_tPrt := by
  refine OkH.mkG (ps := []) (hs := [(117, s_rText), (119, s_tTy)]) trivial ⟨ok_reader_Text, ok_image_taker_ty, trivial⟩ m_image_taker_port (fun x a hp h => by rw [h.1]; rfl) (fun x a hp h h1 => ?_)
  obtain ⟨n, r⟩ := x
  obtain ⟨rfl, hh⟩ := h
  have h1 : okP r := h1
  simp only at hh ⊢
  have hn := (List.getElem?_eq_some_iff.1 hh).1
  have es : (⟨frameFrom 0 [.agg [.ptr n 1 0 0]], hp⟩ : DS) = ⟨frameFrom 0 [.agg [.ptr n 1 0 0]], one hp n (oP r) ++ []⟩ := by rw [List.append_nil, one_is hh]
  rw [es]
  have q0 := one_text hn h1
  have hk1 := rawS_ok 2 h1
  generalize ho : prO r = O
  unfold prO at ho
  generalize rawS r 2 = r1 at q0 hk1 ho
  have q1 := tTy_at hn hk1
  subst ho
  
  (have hcondQ := Bool.and_self; refine Todo.of ?_); (repeat' (first | ((with_reducible refine Todo.to ?_); (repeat (simp only [↓rP, rT, rU, buildCells, dvalX, dval, frameFrom, dLoad, cellsAt, retV, DR.val, dStore, DV.one, alive, cellsOf, setFrom, DV.isU, Nat.reduceEqDiff, Nat.reduceAdd, ↓reduceIte, reduceCtorEq, Nat.reduceLeDiff, forall_const, d_image_taker_port, q0, q1, one_len, one_b, one_b1, one_setb1, List.append_assoc, Nat.add_zero ]))) | ((with_reducible refine And.intro ?_ ?_); · first | (trivial) | ((simp; done))) | fail))
  all_goals exact one_end (oP_cut _ _)
theorem ok_image_taker_slot : OkH Tryz.prog 85 s_tSlt := by
  refine OkH.mkG (ps := []) (hs := [(117, s_rText), (119, s_tTy), (120, s_soNu)]) trivial ⟨ok_reader_Text, ok_image_taker_ty, ok_some_Nu, trivial⟩ m_image_taker_slot (fun x a hp h => by rw [h.1]; rfl) (fun x a hp h h1 => ?_)
  obtain ⟨n, r⟩ := x
  obtain ⟨rfl, hh⟩ := h
  have h1 : okP r := h1
  simp only at hh ⊢
  have hn := (List.getElem?_eq_some_iff.1 hh).1
  have es : (⟨frameFrom 0 [.agg [.ptr n 1 0 0]], hp⟩ : DS) = ⟨frameFrom 0 [.agg [.ptr n 1 0 0]], one hp n (oP r) ++ []⟩ := by rw [List.append_nil, one_is hh]
  rw [es]
  have q0 := one_text hn h1
  have hk1 := rawS_ok 2 h1
  generalize ho : slO r = O
  unfold slO at ho
  generalize rawS r 2 = r1 at q0 hk1 ho
  have q1 := tTy_at hn hk1
  have hk2 := tyO_ok hk1
  generalize tyO r1 = p at q1 hk2 ho
  obtain ⟨⟨k1, k2, k3⟩, r2⟩ := p
  simp only [cTy] at q1 hk2 ho
  have q2 := soNu_at hn hk2
  subst ho
  have eo : ∀ o o' t, Only (some n) (one hp n o ++ t) (one hp n o' ++ t) := fun _ _ _ => only_one
  have n1 : ¬ hp.length = n := by omega
  have n2 : ¬ hp.length + (1 + 1) = n := by omega
  have n3 : ¬ hp.length + 2 = n := by omega
  have n4 : ¬ n = hp.length := by omega
  
  (have hcondQ := Bool.and_self; refine Todo.of ?_); (repeat' (first | ((with_reducible refine Todo.to ?_); (repeat (simp only [↓rP, rT, rU, buildCells, sepsD, sepB, hdl, dvalX, dval, frameFrom, dLoad, cellsAt, retV, DR.val, dStore, DV.one, alive, cellsOf, setFrom, DV.isU, Nat.reduceEqDiff, Nat.reduceAdd, ↓reduceIte, reduceCtorEq, Nat.reduceLeDiff, forall_const, d_image_taker_slot, q0, q1, q2, eo, n1, n2, one_len, one_b, one_b1, one_b2, one_setb1, one_setb2, List.append_assoc, Nat.add_zero ]))) | ((with_reducible refine And.intro ?_ ?_); · first | (trivial) | ((simp; done))) | fail))
  all_goals exact one_end (oP_cut _ _)
end Go.Proofs.YtfaailjhioobhaaGreat

/- As many enums, ports, slots as a number says. -/
set_option linter.all false
set_option maxRecDepth 20000
namespace Go.Proofs.YtfaailjhioobhaaGreat
open Go.Nk

def gEn (n : Nat) : DV := .meth 81 [.agg [.ptr n 1 0 0]]
theorem snEn (l : List En) (nm : List UInt8) (ct : List (List UInt8)) : l.map cEn ++ [[.str nm, .sl (sls ct)]] = (l ++ [(⟨nm, ct⟩ : En)]).map cEn := by simp [cEn]
noncomputable def s_soEn : List DV → List DObj → Res := specSo gEn cEn enO
set_option maxHeartbeats 4000000 in
theorem ok_some_En : OkH Tryz.prog 80 s_soEn := by
  refine OkH.mkG (ps := []) (hs := [(76, s_Num), (78, s_Ok), (81, s_tEn)]) trivial ⟨ok_reader_Num, ok_reader_Ok, ok_image_taker_enum, trivial⟩ m_image_some_api_Enum (fun x a hp h => by rw [h.1]; rfl) (fun x a hp h h1 => ?_)
  obtain ⟨n, r, z⟩ := x
  obtain ⟨rfl, hh⟩ := h
  obtain ⟨hr, hz⟩ : okP r ∧ (z = 1 ∨ z = 2) := h1
  simp only at hh ⊢
  have hn := (List.getElem?_eq_some_iff.1 hh).1
  have es : (⟨frameFrom 0 [.agg [.ptr n 1 0 0], .int .i64 z, gEn n], hp⟩ : DS) = ⟨frameFrom 0 [.agg [.ptr n 1 0 0], .int .i64 z, gEn n], one hp n (oP r) ++ []⟩ := by rw [List.append_nil, one_is hh]
  rw [es]
  have q0 := one_num hn hr z
  obtain ⟨n0, n1, -⟩ := numV_lt r hz
  generalize hG : someF enO r z = G
  unfold someF at hG
  have hr' := nextS_ok (szN z) hr
  generalize nextS r (szN z) = r1 at q0 hG hr'
  generalize numV r z = N at q0 n0 n1 hG
  clear hr hz hh
  
  unfold gEn
  (have hcondQ := Bool.and_self; refine Todo.of ?_); (repeat' (first | ((with_reducible refine Todo.to ?_); (repeat (simp only [↓rP, rT, rU, dvalX, dval, frameFrom, dLoad, cellsAt, DV.one, alive, cellsOf, Nat.reduceEqDiff, Nat.reduceAdd, ↓reduceIte, reduceCtorEq, forall_const, d_image_some_api_Enum, q0, one_len, one_b, List.append_assoc, Nat.add_zero ])))))
  refine dwp_loop (fun x : Nat × RS × List En × List DObj => ⟨[(2, .meth 81 [.agg [.ptr n 1 0 0]]), (3, .ptr hp.length 1 0 0), (7, .own (hp.length + 1) x.2.2.1.length 0 x.2.2.1.length), (12, .int .i64 N), (13, .int .i64 x.1)], one hp n (oP x.2.1) ++ (⟨.loc, 1, [[.ptr n 1 0 0]]⟩ :: ⟨.imm, 2, x.2.2.1.map cEn⟩ :: x.2.2.2)⟩) (fun x => x.1 ≤ N.toNat ∧ x.2.2.1.length = x.1 ∧ okP x.2.1 ∧ goF enO (N.toNat - x.1) x.2.1 x.2.2.1 = G) (fun x => N.toNat - x.1) (0, r1, [], []) trivial (by simp only [cut_none, List.map_cons, List.map_nil, get_cons, Nk.get_nil, Nat.reduceEqDiff, ↓reduceIte, Nat.succ_ne_self, reduceCtorEq, List.length_nil] <;> rfl) ⟨Nat.zero_le _, rfl, hr', hG⟩ fun x hx => ?_
  obtain ⟨k, s, acc, t⟩ := x
  obtain ⟨hk, hl, hs, hg⟩ := hx
  simp only at hk hl hs hg ⊢
  by_cases d : (k : Int) < N
  · have wk := wk_of (k := k) (n := N.toNat) (by omega) (by omega)
    have hkN : k < N.toNat := by omega
    have d' : decide ((k : Int) < N) = true := decide_eq_true d
    have st := goF_step hkN hg
    have q1 := tEn_at hn hs
    have hs2 := enO_ok hs
    generalize enO s = p at q1 hs2 st
    obtain ⟨v, s2⟩ := p
    simp only at q1 hs2 st
    obtain ⟨nm, ct⟩ := v
    simp only [cEn] at q1
    have q2 := fun t => one_okr (r := s2) hn t
    have hq : acc.length + 1 ≤ 100000 := by omega
    cases c : s2.isSome
    · rw [c] at q2 st
      simp only [Bool.false_eq_true, ↓reduceIte] at st
      subst st
      have e2 := oP_none c
      subst e2
      (have hcondQ := Bool.and_self; refine Todo.of ?_); (repeat' (first | ((with_reducible refine Todo.to ?_); (repeat (simp only [↓rP, rT, rU, dvalX, dval, dBin, dInt, dUn, dLoad, cellsAt, retV, DR.val, fzV, fz1, dStore, DV.one, alive, cellsOf, setFrom, Nat.reduceEqDiff, Nat.reduceAdd, ↓reduceIte, reduceCtorEq, Nat.reduceLeDiff, forall_const, d', q1, q2, one_len, one_b, one_bt, one_setbt, List.append_assoc, Nat.add_zero ]))) | ((with_reducible refine And.intro ?_ ?_); · first | (trivial) | ((simp; done))) | fail))
      all_goals exact one_end (oP_cut _ _)
    · rw [c] at q2 st
      simp only [↓reduceIte] at st
      (have hcondQ := Bool.and_self; refine Todo.of ?_); (repeat' (first | ((with_reducible refine Todo.to ?_); (repeat (simp only [↓rP, rT, rU, dvalX, dval, dBin, dInt, dUn, dLoad, cellsAt, fz1, DV.immB, elemsOf, dAppend, dStore, DV.one, alive, fzLL, fzL, bRow, bU, cellsOf, setFrom, DV.isU, lenMax, Nat.reduceEqDiff, Nat.reduceAdd, ↓reduceIte, reduceCtorEq, Nat.reduceLeDiff, forall_const, d', wk, q1, q2, snEn, one_len, one_b, one_b1, one_bt, one_setb1, one_setbt, List.append_assoc, Nat.add_zero , hcondQ]))) | ((with_reducible refine And.intro ?_ ?_); · omega) | fail))
      exact ⟨(k + 1, s2, acc ++ [⟨nm, ct⟩], t ++ [⟨.loc, 2, [cEn ⟨nm, ct⟩]⟩]), by simp only [cut_none, List.map_cons, List.map_nil, get_cons, Nk.get_nil, Nat.reduceEqDiff, ↓reduceIte, Nat.succ_ne_self, Int.natCast_add, Int.natCast_one, List.length_append, List.length_cons, List.length_nil, Nat.zero_add] <;> rfl, ⟨by simp only; omega, by simp only [List.length_append, List.length_cons, List.length_nil]; omega, hs2, st⟩, by simp only; omega⟩
  · have d' : decide ((k : Int) < N) = false := decide_eq_false d
    have st := goF_end (by omega) hg
    subst st
    have ht : List.take acc.length (acc.map cEn) = acc.map cEn := List.take_of_length_le (by simp)
    (have hcondQ := Bool.and_self; refine Todo.of ?_); (repeat' (first | ((with_reducible refine Todo.to ?_); (repeat (simp only [↓rP, rT, rU, dvalX, dval, dBin, dInt, retV, DR.val, fzV, fz1, elemsOf, freezeAt, Nat.reduceEqDiff, ↓reduceIte, reduceCtorEq, d', ht, one_len, one_b1, one_setb1 ]))) | ((with_reducible refine And.intro ?_ ?_); · first | (trivial) | (omega) | ((simp; done))) | fail))
    all_goals exact one_end (oP_cut _ _)
def gPrt (n : Nat) : DV := .meth 83 [.agg [.ptr n 1 0 0]]
theorem snPrt (l : List Prt) (nm : List UInt8) (k1 k2 k3 : Int) : l.map cPrt ++ [[.str nm, .int .i64 k1, .int .i64 k2, .int .i64 k3]] = (l ++ [(⟨nm, ⟨k1, k2, k3⟩⟩ : Prt)]).map cPrt := by simp [cPrt]
noncomputable def s_soPrt : List DV → List DObj → Res := specSo gPrt cPrt prO
set_option maxHeartbeats 4000000 in
theorem ok_some_Prt : OkH Tryz.prog 82 s_soPrt := by
  refine OkH.mkG (ps := []) (hs := [(76, s_Num), (78, s_Ok), (83, s_tPrt)]) trivial ⟨ok_reader_Num, ok_reader_Ok, ok_image_taker_port, trivial⟩ m_image_some_api_Port (fun x a hp h => by rw [h.1]; rfl) (fun x a hp h h1 => ?_)
  obtain ⟨n, r, z⟩ := x
  obtain ⟨rfl, hh⟩ := h
  obtain ⟨hr, hz⟩ : okP r ∧ (z = 1 ∨ z = 2) := h1
  simp only at hh ⊢
  have hn := (List.getElem?_eq_some_iff.1 hh).1
  have es : (⟨frameFrom 0 [.agg [.ptr n 1 0 0], .int .i64 z, gPrt n], hp⟩ : DS) = ⟨frameFrom 0 [.agg [.ptr n 1 0 0], .int .i64 z, gPrt n], one hp n (oP r) ++ []⟩ := by rw [List.append_nil, one_is hh]
  rw [es]
  have q0 := one_num hn hr z
  obtain ⟨n0, n1, -⟩ := numV_lt r hz
  generalize hG : someF prO r z = G
  unfold someF at hG
  have hr' := nextS_ok (szN z) hr
  generalize nextS r (szN z) = r1 at q0 hG hr'
  generalize numV r z = N at q0 n0 n1 hG
  clear hr hz hh
  
  unfold gPrt
  (have hcondQ := Bool.and_self; refine Todo.of ?_); (repeat' (first | ((with_reducible refine Todo.to ?_); (repeat (simp only [↓rP, rT, rU, dvalX, dval, frameFrom, dLoad, cellsAt, DV.one, alive, cellsOf, Nat.reduceEqDiff, Nat.reduceAdd, ↓reduceIte, reduceCtorEq, forall_const, d_image_some_api_Port, q0, one_len, one_b, List.append_assoc, Nat.add_zero ])))))
  refine dwp_loop (fun x : Nat × RS × List Prt × List DObj => ⟨[(2, .meth 83 [.agg [.ptr n 1 0 0]]), (3, .ptr hp.length 1 0 0), (7, .own (hp.length + 1) x.2.2.1.length 0 x.2.2.1.length), (12, .int .i64 N), (13, .int .i64 x.1)], one hp n (oP x.2.1) ++ (⟨.loc, 1, [[.ptr n 1 0 0]]⟩ :: ⟨.imm, 4, x.2.2.1.map cPrt⟩ :: x.2.2.2)⟩) (fun x => x.1 ≤ N.toNat ∧ x.2.2.1.length = x.1 ∧ okP x.2.1 ∧ goF prO (N.toNat - x.1) x.2.1 x.2.2.1 = G) (fun x => N.toNat - x.1) (0, r1, [], []) trivial (by simp only [cut_none, List.map_cons, List.map_nil, get_cons, Nk.get_nil, Nat.reduceEqDiff, ↓reduceIte, Nat.succ_ne_self, reduceCtorEq, List.length_nil] <;> rfl) ⟨Nat.zero_le _, rfl, hr', hG⟩ fun x hx => ?_
  obtain ⟨k, s, acc, t⟩ := x
  obtain ⟨hk, hl, hs, hg⟩ := hx
  simp only at hk hl hs hg ⊢
  by_cases d : (k : Int) < N
  · have wk := wk_of (k := k) (n := N.toNat) (by omega) (by omega)
    have hkN : k < N.toNat := by omega
    have d' : decide ((k : Int) < N) = true := decide_eq_true d
    have st := goF_step hkN hg
    have q1 := tPrt_at hn hs
    have hs2 := prO_ok hs
    generalize prO s = p at q1 hs2 st
    obtain ⟨v, s2⟩ := p
    simp only at q1 hs2 st
    obtain ⟨nm, ⟨k1, k2, k3⟩⟩ := v
    simp only [cPrt] at q1
    have q2 := fun t => one_okr (r := s2) hn t
    have hq : acc.length + 1 ≤ 100000 := by omega
    cases c : s2.isSome
    · rw [c] at q2 st
      simp only [Bool.false_eq_true, ↓reduceIte] at st
      subst st
      have e2 := oP_none c
      subst e2
      (have hcondQ := Bool.and_self; refine Todo.of ?_); (repeat' (first | ((with_reducible refine Todo.to ?_); (repeat (simp only [↓rP, rT, rU, dvalX, dval, dBin, dInt, dUn, dLoad, cellsAt, retV, DR.val, fzV, fz1, dStore, DV.one, alive, cellsOf, setFrom, Nat.reduceEqDiff, Nat.reduceAdd, ↓reduceIte, reduceCtorEq, Nat.reduceLeDiff, forall_const, d', q1, q2, one_len, one_b, one_bt, one_setbt, List.append_assoc, Nat.add_zero ]))) | ((with_reducible refine And.intro ?_ ?_); · first | (trivial) | ((simp; done))) | fail))
      all_goals exact one_end (oP_cut _ _)
    · rw [c] at q2 st
      simp only [↓reduceIte] at st
      (have hcondQ := Bool.and_self; refine Todo.of ?_); (repeat' (first | ((with_reducible refine Todo.to ?_); (repeat (simp only [↓rP, rT, rU, dvalX, dval, dBin, dInt, dUn, dLoad, cellsAt, fz1, DV.immB, elemsOf, dAppend, dStore, DV.one, alive, fzLL, fzL, bRow, bU, cellsOf, setFrom, DV.isU, lenMax, Nat.reduceEqDiff, Nat.reduceAdd, ↓reduceIte, reduceCtorEq, Nat.reduceLeDiff, forall_const, d', wk, q1, q2, snPrt, one_len, one_b, one_b1, one_bt, one_setb1, one_setbt, List.append_assoc, Nat.add_zero , hcondQ]))) | ((with_reducible refine And.intro ?_ ?_); · omega) | fail))
      exact ⟨(k + 1, s2, acc ++ [⟨nm, ⟨k1, k2, k3⟩⟩], t ++ [⟨.loc, 4, [cPrt ⟨nm, ⟨k1, k2, k3⟩⟩]⟩]), by simp only [cut_none, List.map_cons, List.map_nil, get_cons, Nk.get_nil, Nat.reduceEqDiff, ↓reduceIte, Nat.succ_ne_self, Int.natCast_add, Int.natCast_one, List.length_append, List.length_cons, List.length_nil, Nat.zero_add] <;> rfl, ⟨by simp only; omega, by simp only [List.length_append, List.length_cons, List.length_nil]; omega, hs2, st⟩, by simp only; omega⟩
  · have d' : decide ((k : Int) < N) = false := decide_eq_false d
    have st := goF_end (by omega) hg
    subst st
    have ht : List.take acc.length (acc.map cPrt) = acc.map cPrt := List.take_of_length_le (by simp)
    (have hcondQ := Bool.and_self; refine Todo.of ?_); (repeat' (first | ((with_reducible refine Todo.to ?_); (repeat (simp only [↓rP, rT, rU, dvalX, dval, dBin, dInt, retV, DR.val, fzV, fz1, elemsOf, freezeAt, Nat.reduceEqDiff, ↓reduceIte, reduceCtorEq, d', ht, one_len, one_b1, one_setb1 ]))) | ((with_reducible refine And.intro ?_ ?_); · first | (trivial) | (omega) | ((simp; done))) | fail))
    all_goals exact one_end (oP_cut _ _)
def gSlt (n : Nat) : DV := .meth 85 [.agg [.ptr n 1 0 0]]
theorem snSlt (l : List Slt) (nm : List UInt8) (k1 k2 k3 at_ : Int) (ini : List Int) : l.map cSlt ++ [[.str nm, .int .i64 k1, .int .i64 k2, .int .i64 k3, .int .i64 at_, .sl (ils ini)]] = (l ++ [(⟨nm, ⟨k1, k2, k3⟩, at_, ini⟩ : Slt)]).map cSlt := by simp [cSlt]
/-- What is behind, and where the slots lie. -/
structure SlR where
  l : List Slt
  s : RS
  j : List DObj
  p : Nat
def celS (x : Slt) : DObj := ⟨.loc, 6, [cSlt x]⟩
def goS (f : RS → Slt × RS) : Nat → RS → List Slt → SlR
  | 0, r, acc => ⟨acc, r, ⟨.imm, 6, acc.map cSlt⟩ :: acc.map celS, 0⟩
  | k + 1, r, acc => if (f r).2.isSome then goS f k (f r).2 (acc ++ [(f r).1]) else ⟨[], none, ⟨.imm, 6, acc.map cSlt⟩ :: ((acc ++ [(f r).1]).map celS ++ [⟨.imm, 6, []⟩]), acc.length + 1 + 1⟩
theorem goS_fst (f : RS → Slt × RS) : ∀ (k : Nat) (r : RS) (acc : List Slt), ((goS f k r acc).l, (goS f k r acc).s) = goF f k r acc
  | 0, _, _ => rfl
  | k + 1, r, acc => by
    unfold goS goF
    split
    · exact goS_fst f k _ _
    · rfl
theorem goS_at (f : RS → Slt × RS) : ∀ (k : Nat) (r : RS) (acc : List Slt), (goS f k r acc).j[(goS f k r acc).p]? = some ⟨.imm, 6, (goS f k r acc).l.map cSlt⟩
  | 0, _, _ => rfl
  | k + 1, r, acc => by
    unfold goS
    split
    · exact goS_at f k _ _
    · show (⟨.imm, 6, acc.map cSlt⟩ :: ((acc ++ [(f r).1]).map celS ++ [(⟨.imm, 6, []⟩ : DObj)]))[acc.length + 1 + 1]? = _
      rw [List.getElem?_cons_succ, List.getElem?_append_right (by simp)]
      simp
def slotsR (r : RS) (z : Int) : SlR := goS slO (numV r z).toNat (nextS r (szN z)) []
theorem slotsR_fst (r : RS) (z : Int) : ((slotsR r z).l, (slotsR r z).s) = someF slO r z := goS_fst _ _ _ _
theorem goS_step {N k : Nat} {r : RS} {acc : List Slt} {G : SlR} (hk : k < N) (h : goS slO (N - k) r acc = G) :
    if (slO r).2.isSome then goS slO (N - (k + 1)) (slO r).2 (acc ++ [(slO r).1]) = G else G = ⟨[], none, ⟨.imm, 6, acc.map cSlt⟩ :: ((acc ++ [(slO r).1]).map celS ++ [⟨.imm, 6, []⟩]), acc.length + 1 + 1⟩ := by
  have e : N - k = (N - (k + 1)) + 1 := by omega
  rw [e] at h
  unfold goS at h
  split
  · rename_i c; rw [if_pos c] at h; exact h
  · rename_i c; rw [if_neg c] at h; exact h.symm
theorem goS_end {N k : Nat} {r : RS} {acc : List Slt} {G : SlR} (hk : ¬ k < N) (h : goS slO (N - k) r acc = G) : G = ⟨acc, r, ⟨.imm, 6, acc.map cSlt⟩ :: acc.map celS, 0⟩ := by
  have e : N - k = 0 := by omega
  rw [e] at h
  exact h.symm
def rSoL (x : Nat × RS × Int × Nat) (a : List DV) (hp : List DObj) : Prop := rSoG gSlt (x.1, x.2.1, x.2.2.1) a hp ∧ hp.length = x.2.2.2
theorem rSoL_u : ∀ x y a hp, rSoL x a hp → rSoL y a hp → x = y := by
  rintro ⟨n, r, z, m⟩ ⟨n', r', z', m'⟩ a hp ⟨h1, h2⟩ ⟨h3, h4⟩
  have e := rSoG_u _ _ _ _ _ h1 h3
  simp only [Prod.mk.injEq] at e h2 h4 ⊢
  exact ⟨e.1, e.2.1, e.2.2, h2.symm.trans h4⟩
noncomputable def s_soSlt : List DV → List DObj → Res :=
  specG rSoL (fun x => (okP x.2.1 ∧ (x.2.2.1 = 1 ∨ x.2.2.1 = 2), .own (x.2.2.2 + ((slotsR x.2.1 x.2.2.1).p + 1)) (slotsR x.2.1 x.2.2.1).l.length 0 (slotsR x.2.1 x.2.2.1).l.length)) (fun x hp => one hp x.1 (oP (slotsR x.2.1 x.2.2.1).s) ++ (⟨.loc, 1, [[.ptr x.1 1 0 0]]⟩ :: (slotsR x.2.1 x.2.2.1).j))
theorem soSlt_at {hp : List DObj} {n : Nat} {r : RS} {z : Int} (h : hp[n]? = some (oP r)) : s_soSlt [.agg [.ptr n 1 0 0], .int .i64 z, gSlt n] hp = ⟨okP r ∧ (z = 1 ∨ z = 2), .own (hp.length + ((slotsR r z).p + 1)) (slotsR r z).l.length 0 (slotsR r z).l.length, one hp n (oP (slotsR r z).s) ++ (⟨.loc, 1, [[.ptr n 1 0 0]]⟩ :: (slotsR r z).j)⟩ := specG_at (x := (n, r, z, hp.length)) rSoL_u ⟨⟨rfl, h⟩, rfl⟩
set_option maxHeartbeats 4000000 in
theorem ok_some_Slt : OkH Tryz.prog 84 s_soSlt := by
  refine OkH.mkGH (ps := []) (hs := [(76, s_Num), (78, s_Ok), (85, s_tSlt)]) trivial ⟨ok_reader_Num, ok_reader_Ok, ok_image_taker_slot, trivial⟩ m_image_some_api_Slot (fun x a hp h => by rw [h.1.1]; rfl) (fun x a hp h h1 => ?_)
  obtain ⟨n, r, z, hl0⟩ := x
  obtain ⟨⟨rfl, hh⟩, hl1⟩ := h
  obtain ⟨hr, hz⟩ : okP r ∧ (z = 1 ∨ z = 2) := h1
  simp only at hh hl1 ⊢
  subst hl1
  have hn := (List.getElem?_eq_some_iff.1 hh).1
  have es : (⟨frameFrom 0 [.agg [.ptr n 1 0 0], .int .i64 z, gSlt n], hp⟩ : DS) = ⟨frameFrom 0 [.agg [.ptr n 1 0 0], .int .i64 z, gSlt n], one hp n (oP r) ++ []⟩ := by rw [List.append_nil, one_is hh]
  rw [es]
  have q0 := one_num hn hr z
  obtain ⟨n0, n1, -⟩ := numV_lt r hz
  generalize hG : slotsR r z = G
  unfold slotsR at hG
  have hr' := nextS_ok (szN z) hr
  generalize nextS r (szN z) = r1 at q0 hG hr'
  generalize numV r z = N at q0 n0 n1 hG
  clear hr hz hh
  
  unfold gSlt
  (have hcondQ := Bool.and_self; refine Todo.of ?_); (repeat' (first | ((with_reducible refine Todo.to ?_); (repeat (simp only [↓rP, rT, rU, dvalX, dval, frameFrom, dLoad, cellsAt, DV.one, alive, cellsOf, Nat.reduceEqDiff, Nat.reduceAdd, ↓reduceIte, reduceCtorEq, forall_const, d_image_some_api_Slot, q0, one_len, one_b, List.append_assoc, Nat.add_zero ])))))
  refine dwp_loop (fun x : Nat × RS × List Slt × List DObj => ⟨[(2, .meth 85 [.agg [.ptr n 1 0 0]]), (3, .ptr hp.length 1 0 0), (7, .own (hp.length + 1) x.2.2.1.length 0 x.2.2.1.length), (12, .int .i64 N), (13, .int .i64 x.1)], one hp n (oP x.2.1) ++ (⟨.loc, 1, [[.ptr n 1 0 0]]⟩ :: ⟨.imm, 6, x.2.2.1.map cSlt⟩ :: x.2.2.2)⟩) (fun x => x.1 ≤ N.toNat ∧ x.2.2.1.length = x.1 ∧ okP x.2.1 ∧ goS slO (N.toNat - x.1) x.2.1 x.2.2.1 = G ∧ x.2.2.2 = x.2.2.1.map celS) (fun x => N.toNat - x.1) (0, r1, [], []) trivial (by simp only [cut_none, List.map_cons, List.map_nil, get_cons, Nk.get_nil, Nat.reduceEqDiff, ↓reduceIte, Nat.succ_ne_self, reduceCtorEq, List.length_nil] <;> rfl) ⟨Nat.zero_le _, rfl, hr', hG, rfl⟩ fun x hx => ?_
  obtain ⟨k, s, acc, t⟩ := x
  obtain ⟨hk, hl, hs, hg, ht⟩ := hx
  simp only at hk hl hs hg ht ⊢
  by_cases d : (k : Int) < N
  · have wk := wk_of (k := k) (n := N.toNat) (by omega) (by omega)
    have hkN : k < N.toNat := by omega
    have d' : decide ((k : Int) < N) = true := decide_eq_true d
    have st := goS_step hkN hg
    have q1 := tSlt_at hn hs
    have hs2 := slO_ok hs
    generalize slO s = p at q1 hs2 st
    obtain ⟨v, s2⟩ := p
    simp only at q1 hs2 st
    obtain ⟨nm, ⟨k1, k2, k3⟩, at_, ini⟩ := v
    simp only [cSlt] at q1
    have q2 := fun t => one_okr (r := s2) hn t
    have hq : acc.length + 1 ≤ 100000 := by omega
    cases c : s2.isSome
    · rw [c] at q2 st
      simp only [Bool.false_eq_true, ↓reduceIte] at st
      subst st
      have e2 := oP_none c
      subst e2
      (have hcondQ := Bool.and_self; refine Todo.of ?_); (repeat' (first | ((with_reducible refine Todo.to ?_); (repeat (simp only [↓rP, rT, rU, dvalX, dval, dBin, dInt, dUn, dLoad, cellsAt, retV, DR.val, dStore, DV.one, alive, cellsOf, setFrom, Nat.reduceEqDiff, Nat.reduceAdd, ↓reduceIte, reduceCtorEq, Nat.reduceLeDiff, forall_const, d', q1, q2, one_len, one_b, one_bt, one_setbt, List.append_assoc, Nat.add_zero ])))))
      all_goals (subst ht; simp [celS, cSlt])
    · rw [c] at q2 st
      simp only [↓reduceIte] at st
      (have hcondQ := Bool.and_self; refine Todo.of ?_); (repeat' (first | ((with_reducible refine Todo.to ?_); (repeat (simp only [↓rP, rT, rU, dvalX, dval, dBin, dInt, dUn, dLoad, cellsAt, fz1, DV.immB, elemsOf, dAppend, dStore, DV.one, alive, fzLL, fzL, bRow, bU, cellsOf, setFrom, DV.isU, lenMax, Nat.reduceEqDiff, Nat.reduceAdd, ↓reduceIte, reduceCtorEq, Nat.reduceLeDiff, forall_const, d', wk, q1, q2, snSlt, one_len, one_b, one_b1, one_bt, one_setb1, one_setbt, List.append_assoc, Nat.add_zero , hcondQ]))) | ((with_reducible refine And.intro ?_ ?_); · omega) | fail))
      exact ⟨(k + 1, s2, acc ++ [⟨nm, ⟨k1, k2, k3⟩, at_, ini⟩], t ++ [⟨.loc, 6, [cSlt ⟨nm, ⟨k1, k2, k3⟩, at_, ini⟩]⟩]), by simp only [cut_none, List.map_cons, List.map_nil, get_cons, Nk.get_nil, Nat.reduceEqDiff, ↓reduceIte, Nat.succ_ne_self, Int.natCast_add, Int.natCast_one, List.length_append, List.length_cons, List.length_nil, Nat.zero_add] <;> rfl, ⟨by simp only; omega, by simp only [List.length_append, List.length_cons, List.length_nil]; omega, hs2, st, by rw [ht]; simp [celS]⟩, by simp only; omega⟩
  · have d' : decide ((k : Int) < N) = false := decide_eq_false d
    have st := goS_end (by omega) hg
    subst st
    subst ht
    (have hcondQ := Bool.and_self; refine Todo.of ?_); (repeat' (first | ((with_reducible refine Todo.to ?_); (repeat (simp only [↓rP, rT, dvalX, dval, dBin, dInt, retV, DR.val, Nat.reduceEqDiff, ↓reduceIte, d' ])))))
end Go.Proofs.YtfaailjhioobhaaGreat

