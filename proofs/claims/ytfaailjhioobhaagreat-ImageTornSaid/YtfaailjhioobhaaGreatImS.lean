/- What reads an image's bytes: as many things as none; the contents of the sections; prefixes. -/
import Derived.Test.YtfaailjhioobhaaGreatImM
import Derived.Test.YtfaailjhioobhaaGreatInK
import Derived.Test.YtfaailjhioobhaaGreatCrI
import Derived.Test.YtfaailjhioobhaaGreatSlA
set_option linter.all false
set_option maxRecDepth 20000
namespace Go.Proofs.YtfaailjhioobhaaGreat
open Go.Nk

/-! As many things as a number says: none. -/
structure SoX where
  n : Nat
  r : RS
  z : Int
  g : DV
def rSo (x : SoX) (a : List DV) (hp : List DObj) : Prop := a = [.agg [.ptr x.n 1 0 0], .int .i64 x.z, x.g] ∧ hp[x.n]? = some (oP x.r)
theorem rSo_u : ∀ x y a hp, rSo x a hp → rSo y a hp → x = y := by
  rintro ⟨n, r, z, g⟩ ⟨n', r', z', g'⟩ a hp ⟨h1, h2⟩ ⟨h3, h4⟩
  subst h1
  simp only [List.cons.injEq, DV.agg.injEq, DV.ptr.injEq, DV.int.injEq, and_true, true_and] at h3
  obtain ⟨rfl, rfl, rfl⟩ := h3
  have := h2.symm.trans h4
  simp only [Option.some.injEq] at this
  rw [oP_inj _ _ this]
noncomputable def s_some0 : List DV → List DObj → Res := specG rSo (fun x => (okP x.r ∧ numV x.r x.z ≤ 0, .sl [])) (fun x hp => one hp x.n (oP (nextS x.r (szN x.z))))
theorem s_some0_at {hp : List DObj} {n : Nat} {r : RS} {z : Int} {g : DV} (h : hp[n]? = some (oP r)) : s_some0 [.agg [.ptr n 1 0 0], .int .i64 z, g] hp = ⟨okP r ∧ numV r z ≤ 0, .sl [], one hp n (oP (nextS r (szN z)))⟩ := specG_at (x := ⟨n, r, z, g⟩) rSo_u ⟨rfl, h⟩
theorem ok_some0_api_Enum : OkH Tryz.prog 80 s_some0 := by
  refine OkH.mkG (ps := []) (hs := [(76, s_Num)]) trivial ⟨ok_reader_Num, trivial⟩ m_image_some_api_Enum (fun x a hp h => by rw [h.1]; rfl) (fun x a hp h h1 => ?_)
  obtain ⟨n, r, z, g⟩ := x
  obtain ⟨rfl, hh⟩ := h
  obtain ⟨hr, hz⟩ : okP r ∧ numV r z ≤ 0 := h1
  simp only at hh ⊢
  have hn := (List.getElem?_eq_some_iff.1 hh).1
  have es : (⟨frameFrom 0 [.agg [.ptr n 1 0 0], .int .i64 z, g], hp⟩ : DS) = ⟨frameFrom 0 [.agg [.ptr n 1 0 0], .int .i64 z, g], one hp n (oP r) ++ []⟩ := by rw [List.append_nil, one_is hh]
  rw [es]
  have q0 := one_num hn hr z
  have d : ¬ 0 < numV r z := by omega
  
  (have hcondQ := Bool.and_self; refine Todo.of ?_); (repeat' (first | ((with_reducible refine Todo.to ?_); (repeat (first | (simp only [↓rP, rT, rU, dvalX, dval, frameFrom, dLoad, cellsAt, DV.one, alive, cellsOf, Nat.reduceEqDiff, Nat.reduceAdd, ↓reduceIte, reduceCtorEq, forall_const, d_image_some_api_Enum, q0, one_len, one_b, List.append_assoc, Nat.add_zero ]) | (simp (disch := omega) only [i64_id, u64_id, u8_id, getD_map'])))) | ((with_reducible refine And.intro ?_ ?_); · first | trivial | omega | (simp; done) | (simp; omega)) | (((with_reducible refine dwp_condA ?_ ?_ ?_); · rfl) <;> (refine Todo.of ?_)))) <;> (try (first | (with_reducible rfl) | exact Nat.le_refl _ | exact Int.le_refl _ | assumption | omega))
  refine dwp_loop (fun _ : Unit => ⟨[(2, g), (3, .ptr hp.length 1 0 0), (7, .own (hp.length + 1) 0 0 0), (12, .int .i64 (numV r z)), (13, .int .i64 0)], one hp n (oP (nextS r (szN z))) ++ [⟨.loc, 1, [[.ptr n 1 0 0]]⟩, ⟨.imm, 2, []⟩]⟩) (fun _ => True) (fun _ => 0) () trivial (by simp only [cut_none, List.map_cons, List.map_nil, get_cons, Nk.get_nil, Nat.reduceEqDiff, ↓reduceIte, Nat.succ_ne_self, reduceCtorEq] <;> rfl) trivial fun _ _ => ?_
  (have hcondQ := Bool.and_self; refine Todo.of ?_); (repeat' (first | ((with_reducible refine Todo.to ?_); (repeat (first | (simp only [↓rP, rT, rU, dvalX, dval, dBin, dInt, retV, DR.val, fzV, fz1, elemsOf, freezeAt, Nat.reduceEqDiff, ↓reduceIte, reduceCtorEq, Nat.reduceLeDiff, d, one_len, one_b1, one_setb1, Nat.add_zero ]) | (simp (disch := omega) only [i64_id, u64_id, u8_id, getD_map'])))) | ((with_reducible refine And.intro ?_ ?_); · first | trivial | omega | (simp; done) | (simp; omega)) | (((with_reducible refine dwp_condA ?_ ?_ ?_); · rfl) <;> (refine Todo.of ?_)))) <;> (try (first | (with_reducible rfl) | exact Nat.le_refl _ | exact Int.le_refl _ | assumption | omega))
  all_goals exact one_end (oP_cut _ _)
theorem ok_some0_api_Port : OkH Tryz.prog 82 s_some0 := by
  refine OkH.mkG (ps := []) (hs := [(76, s_Num)]) trivial ⟨ok_reader_Num, trivial⟩ m_image_some_api_Port (fun x a hp h => by rw [h.1]; rfl) (fun x a hp h h1 => ?_)
  obtain ⟨n, r, z, g⟩ := x
  obtain ⟨rfl, hh⟩ := h
  obtain ⟨hr, hz⟩ : okP r ∧ numV r z ≤ 0 := h1
  simp only at hh ⊢
  have hn := (List.getElem?_eq_some_iff.1 hh).1
  have es : (⟨frameFrom 0 [.agg [.ptr n 1 0 0], .int .i64 z, g], hp⟩ : DS) = ⟨frameFrom 0 [.agg [.ptr n 1 0 0], .int .i64 z, g], one hp n (oP r) ++ []⟩ := by rw [List.append_nil, one_is hh]
  rw [es]
  have q0 := one_num hn hr z
  have d : ¬ 0 < numV r z := by omega
  
  (have hcondQ := Bool.and_self; refine Todo.of ?_); (repeat' (first | ((with_reducible refine Todo.to ?_); (repeat (first | (simp only [↓rP, rT, rU, dvalX, dval, frameFrom, dLoad, cellsAt, DV.one, alive, cellsOf, Nat.reduceEqDiff, Nat.reduceAdd, ↓reduceIte, reduceCtorEq, forall_const, d_image_some_api_Port, q0, one_len, one_b, List.append_assoc, Nat.add_zero ]) | (simp (disch := omega) only [i64_id, u64_id, u8_id, getD_map'])))) | ((with_reducible refine And.intro ?_ ?_); · first | trivial | omega | (simp; done) | (simp; omega)) | (((with_reducible refine dwp_condA ?_ ?_ ?_); · rfl) <;> (refine Todo.of ?_)))) <;> (try (first | (with_reducible rfl) | exact Nat.le_refl _ | exact Int.le_refl _ | assumption | omega))
  refine dwp_loop (fun _ : Unit => ⟨[(2, g), (3, .ptr hp.length 1 0 0), (7, .own (hp.length + 1) 0 0 0), (12, .int .i64 (numV r z)), (13, .int .i64 0)], one hp n (oP (nextS r (szN z))) ++ [⟨.loc, 1, [[.ptr n 1 0 0]]⟩, ⟨.imm, 4, []⟩]⟩) (fun _ => True) (fun _ => 0) () trivial (by simp only [cut_none, List.map_cons, List.map_nil, get_cons, Nk.get_nil, Nat.reduceEqDiff, ↓reduceIte, Nat.succ_ne_self, reduceCtorEq] <;> rfl) trivial fun _ _ => ?_
  (have hcondQ := Bool.and_self; refine Todo.of ?_); (repeat' (first | ((with_reducible refine Todo.to ?_); (repeat (first | (simp only [↓rP, rT, rU, dvalX, dval, dBin, dInt, retV, DR.val, fzV, fz1, elemsOf, freezeAt, Nat.reduceEqDiff, ↓reduceIte, reduceCtorEq, Nat.reduceLeDiff, d, one_len, one_b1, one_setb1, Nat.add_zero ]) | (simp (disch := omega) only [i64_id, u64_id, u8_id, getD_map'])))) | ((with_reducible refine And.intro ?_ ?_); · first | trivial | omega | (simp; done) | (simp; omega)) | (((with_reducible refine dwp_condA ?_ ?_ ?_); · rfl) <;> (refine Todo.of ?_)))) <;> (try (first | (with_reducible rfl) | exact Nat.le_refl _ | exact Int.le_refl _ | assumption | omega))
  all_goals exact one_end (oP_cut _ _)
theorem ok_some0_api_Slot : OkH Tryz.prog 84 s_some0 := by
  refine OkH.mkG (ps := []) (hs := [(76, s_Num)]) trivial ⟨ok_reader_Num, trivial⟩ m_image_some_api_Slot (fun x a hp h => by rw [h.1]; rfl) (fun x a hp h h1 => ?_)
  obtain ⟨n, r, z, g⟩ := x
  obtain ⟨rfl, hh⟩ := h
  obtain ⟨hr, hz⟩ : okP r ∧ numV r z ≤ 0 := h1
  simp only at hh ⊢
  have hn := (List.getElem?_eq_some_iff.1 hh).1
  have es : (⟨frameFrom 0 [.agg [.ptr n 1 0 0], .int .i64 z, g], hp⟩ : DS) = ⟨frameFrom 0 [.agg [.ptr n 1 0 0], .int .i64 z, g], one hp n (oP r) ++ []⟩ := by rw [List.append_nil, one_is hh]
  rw [es]
  have q0 := one_num hn hr z
  have d : ¬ 0 < numV r z := by omega
  
  (have hcondQ := Bool.and_self; refine Todo.of ?_); (repeat' (first | ((with_reducible refine Todo.to ?_); (repeat (first | (simp only [↓rP, rT, rU, dvalX, dval, frameFrom, dLoad, cellsAt, DV.one, alive, cellsOf, Nat.reduceEqDiff, Nat.reduceAdd, ↓reduceIte, reduceCtorEq, forall_const, d_image_some_api_Slot, q0, one_len, one_b, List.append_assoc, Nat.add_zero ]) | (simp (disch := omega) only [i64_id, u64_id, u8_id, getD_map'])))) | ((with_reducible refine And.intro ?_ ?_); · first | trivial | omega | (simp; done) | (simp; omega)) | (((with_reducible refine dwp_condA ?_ ?_ ?_); · rfl) <;> (refine Todo.of ?_)))) <;> (try (first | (with_reducible rfl) | exact Nat.le_refl _ | exact Int.le_refl _ | assumption | omega))
  refine dwp_loop (fun _ : Unit => ⟨[(2, g), (3, .ptr hp.length 1 0 0), (7, .own (hp.length + 1) 0 0 0), (12, .int .i64 (numV r z)), (13, .int .i64 0)], one hp n (oP (nextS r (szN z))) ++ [⟨.loc, 1, [[.ptr n 1 0 0]]⟩, ⟨.imm, 6, []⟩]⟩) (fun _ => True) (fun _ => 0) () trivial (by simp only [cut_none, List.map_cons, List.map_nil, get_cons, Nk.get_nil, Nat.reduceEqDiff, ↓reduceIte, Nat.succ_ne_self, reduceCtorEq] <;> rfl) trivial fun _ _ => ?_
  (have hcondQ := Bool.and_self; refine Todo.of ?_); (repeat' (first | ((with_reducible refine Todo.to ?_); (repeat (first | (simp only [↓rP, rT, rU, dvalX, dval, dBin, dInt, retV, DR.val, fzV, fz1, elemsOf, freezeAt, Nat.reduceEqDiff, ↓reduceIte, reduceCtorEq, Nat.reduceLeDiff, d, one_len, one_b1, one_setb1, Nat.add_zero ]) | (simp (disch := omega) only [i64_id, u64_id, u8_id, getD_map'])))) | ((with_reducible refine And.intro ?_ ?_); · first | trivial | omega | (simp; done) | (simp; omega)) | (((with_reducible refine dwp_condA ?_ ?_ ?_); · rfl) <;> (refine Todo.of ?_)))) <;> (try (first | (with_reducible rfl) | exact Nat.le_refl _ | exact Int.le_refl _ | assumption | omega))
  all_goals exact one_end (oP_cut _ _)
theorem ok_some0_int : OkH Tryz.prog 86 s_some0 := by
  refine OkH.mkG (ps := []) (hs := [(76, s_Num)]) trivial ⟨ok_reader_Num, trivial⟩ m_image_some_int (fun x a hp h => by rw [h.1]; rfl) (fun x a hp h h1 => ?_)
  obtain ⟨n, r, z, g⟩ := x
  obtain ⟨rfl, hh⟩ := h
  obtain ⟨hr, hz⟩ : okP r ∧ numV r z ≤ 0 := h1
  simp only at hh ⊢
  have hn := (List.getElem?_eq_some_iff.1 hh).1
  have es : (⟨frameFrom 0 [.agg [.ptr n 1 0 0], .int .i64 z, g], hp⟩ : DS) = ⟨frameFrom 0 [.agg [.ptr n 1 0 0], .int .i64 z, g], one hp n (oP r) ++ []⟩ := by rw [List.append_nil, one_is hh]
  rw [es]
  have q0 := one_num hn hr z
  have d : ¬ 0 < numV r z := by omega
  
  (have hcondQ := Bool.and_self; refine Todo.of ?_); (repeat' (first | ((with_reducible refine Todo.to ?_); (repeat (first | (simp only [↓rP, rT, rU, dvalX, dval, frameFrom, dLoad, cellsAt, DV.one, alive, cellsOf, Nat.reduceEqDiff, Nat.reduceAdd, ↓reduceIte, reduceCtorEq, forall_const, d_image_some_int, q0, one_len, one_b, List.append_assoc, Nat.add_zero ]) | (simp (disch := omega) only [i64_id, u64_id, u8_id, getD_map'])))) | ((with_reducible refine And.intro ?_ ?_); · first | trivial | omega | (simp; done) | (simp; omega)) | (((with_reducible refine dwp_condA ?_ ?_ ?_); · rfl) <;> (refine Todo.of ?_)))) <;> (try (first | (with_reducible rfl) | exact Nat.le_refl _ | exact Int.le_refl _ | assumption | omega))
  refine dwp_loop (fun _ : Unit => ⟨[(2, g), (3, .ptr hp.length 1 0 0), (7, .own (hp.length + 1) 0 0 0), (12, .int .i64 (numV r z)), (13, .int .i64 0)], one hp n (oP (nextS r (szN z))) ++ [⟨.loc, 1, [[.ptr n 1 0 0]]⟩, ⟨.imm, 1, []⟩]⟩) (fun _ => True) (fun _ => 0) () trivial (by simp only [cut_none, List.map_cons, List.map_nil, get_cons, Nk.get_nil, Nat.reduceEqDiff, ↓reduceIte, Nat.succ_ne_self, reduceCtorEq] <;> rfl) trivial fun _ _ => ?_
  (have hcondQ := Bool.and_self; refine Todo.of ?_); (repeat' (first | ((with_reducible refine Todo.to ?_); (repeat (first | (simp only [↓rP, rT, rU, dvalX, dval, dBin, dInt, retV, DR.val, fzV, fz1, elemsOf, freezeAt, Nat.reduceEqDiff, ↓reduceIte, reduceCtorEq, Nat.reduceLeDiff, d, one_len, one_b1, one_setb1, Nat.add_zero ]) | (simp (disch := omega) only [i64_id, u64_id, u8_id, getD_map'])))) | ((with_reducible refine And.intro ?_ ?_); · first | trivial | omega | (simp; done) | (simp; omega)) | (((with_reducible refine dwp_condA ?_ ?_ ?_); · rfl) <;> (refine Todo.of ?_)))) <;> (try (first | (with_reducible rfl) | exact Nat.le_refl _ | exact Int.le_refl _ | assumption | omega))
  all_goals exact one_end (oP_cut _ _)
noncomputable def s_bPre : List DV → Prop × DV := spec2 eBs eBs fun b p => (True, .bool (decide (p.length ≤ b.length) && (b.take p.length == p)))
theorem s_bPre_at (b : List UInt8) (p : List UInt8) : s_bPre [.sl (bsl b), .sl (bsl p)] = (True, .bool (decide (p.length ≤ b.length) && (b.take p.length == p))) := spec2_at inj_Bs inj_Bs _ b p
theorem ok_bytes_HasPrefix : OkP Tryz.prog 33 s_bPre := by
  refine OkP.mk2 (ps := [(74, s_BEq)]) (hs := []) ⟨ok_bytes_Equal, trivial⟩ trivial m_bytes_HasPrefix fun b p _ => ?_
  by_cases h : p.length ≤ b.length
  · have s1 := fun hp => slice_bsH (hp := hp) (l := b) (b := ((p.length : Nat) : Int)) (by omega) (by omega)
    rw [Int.toNat_natCast] at s1
    have h' : (p.length : Int) ≤ b.length := by omega
    rw [decide_eq_true h]
    (have hcondQ := Bool.and_self; refine Todo.of ?_); (repeat' (first | ((with_reducible refine Todo.to ?_); (repeat (first | (simp only [↓rP, rT, rU, eBs, dvalX, dval, dBin, dInt, retV, DR.val, fzT, fzV, fz1, DV.immB, dCallP, viewVs, viewV, view1, noMemV, noMem, Nat.reduceEqDiff, ↓reduceIte, reduceCtorEq, d_bytes_HasPrefix, s_BEq_at, h', s1 ]) | (simp (disch := omega) only [i64_id, u64_id, u8_id, getD_map'])))) | ((with_reducible refine And.intro ?_ ?_); · first | trivial | omega | (simp; done) | (simp; omega)) | (((with_reducible refine dwp_condA ?_ ?_ ?_); · rfl) <;> (refine Todo.of ?_)))) <;> (try (first | (with_reducible rfl) | exact Nat.le_refl _ | exact Int.le_refl _ | assumption | omega))
  · have h' : ¬ (p.length : Int) ≤ b.length := by omega
    rw [decide_eq_false h]
    (have hcondQ := Bool.and_self; refine Todo.of ?_); (repeat' (first | ((with_reducible refine Todo.to ?_); (repeat (first | (simp only [↓rP, rT, rU, eBs, dvalX, dval, dBin, dInt, retV, DR.val, fzT, fzV, fz1, DV.immB, Nat.reduceEqDiff, ↓reduceIte, reduceCtorEq, d_bytes_HasPrefix, h' ]) | (simp (disch := omega) only [i64_id, u64_id, u8_id, getD_map'])))) | ((with_reducible refine And.intro ?_ ?_); · first | trivial | omega | (simp; done) | (simp; omega)) | (((with_reducible refine dwp_condA ?_ ?_ ?_); · rfl) <;> (refine Todo.of ?_)))) <;> (try (first | (with_reducible rfl) | exact Nat.le_refl _ | exact Int.le_refl _ | assumption | omega))

/-! The contents of the sections. -/
def partsG : Nat → Int → RS → List (List UInt8) → List (List UInt8) × Bool
  | 0, _, r, acc => (acc, r.isSome && !moreO r)
  | k + 1, i, r, acc => if numV r 1 = i + 1 then partsG k (i + 1) (rawS (nextS r (szN 1)) 4) (acc ++ [partV (nextS r (szN 1))]) else ([], false)
def partsF (b : List UInt8) : List (List UInt8) × Bool := partsG 6 0 (some (b, 0)) []
noncomputable def s_parts : List DV → Prop × DV := spec1 eBs fun b => (b.length ≤ 4294967296, .tup [.sl ((partsF b).1.map cBs), .bool (partsF b).2])
theorem s_parts_at (b : List UInt8) : s_parts [.sl (bsl b)] = (b.length ≤ 4294967296, .tup [.sl ((partsF b).1.map cBs), .bool (partsF b).2]) := spec1_at inj_Bs _ b
theorem parts_snoc (l : List (List UInt8)) (x : List UInt8) : l.map cBs ++ [[.sl (bsl x)]] = (l ++ [x]).map cBs := by simp [cBs]
set_option maxHeartbeats 1000000 in
theorem ok_image_parts : OkP Tryz.prog 35 s_parts := by
  refine OkP.mk1 (ps := []) (hs := [(75, s_rFrom), (76, s_Num), (77, s_rPart), (78, s_Ok), (79, s_More)]) trivial ⟨ok_reader_From, ok_reader_Num, ok_reader_Part, ok_reader_Ok, ok_reader_More, trivial⟩ m_image_parts fun b h => ?_
  have h : b.length ≤ 4294967296 := h
  generalize hG : partsF b = G
  
  have eF := s_rFrom_at b []
  rw [eq_true h] at eF
  simp only [List.nil_append, List.length_nil] at eF
  (have hcondQ := Bool.and_self; refine Todo.of ?_); (repeat' (first | ((with_reducible refine Todo.to ?_); (repeat (first | (simp only [↓rP, rT, rU, eBs, dvalX, dval, ↓reduceIte, reduceCtorEq, d_image_parts, eF ]) | (simp (disch := omega) only [i64_id, u64_id, u8_id, getD_map'])))) | ((with_reducible refine And.intro ?_ ?_); · first | trivial | omega | (simp; done) | (simp; omega)) | (((with_reducible refine dwp_condA ?_ ?_ ?_); · rfl) <;> (refine Todo.of ?_)))) <;> (try (first | (with_reducible rfl) | exact Nat.le_refl _ | exact Int.le_refl _ | assumption | omega))
  refine dwp_each [0, 1, 2, 3, 4, 5] (fun k (a : RS × List (List UInt8)) => ⟨[(4, .ptr 0 1 0 0), (5, .own 1 a.2.length 0 a.2.length), (9, .int .i64 k)], [oP a.1, ⟨.imm, 1, a.2.map cBs⟩]⟩) (fun k (_ : List Nat) a => okP a.1 ∧ a.2.length = k ∧ partsG (6 - k) k a.1 a.2 = G) (some (b, 0), []) (Nat.zero_le _) (by simp only [cut_some, List.map_cons, List.map_nil, get_cons, Nk.get_nil, Nat.reduceEqDiff, ↓reduceIte, DV.cut, DV.inB, DObj.cut, List.take_nil, reduceCtorEq, decide_true, Nat.reduceLT, List.take_succ_cons, List.length_nil, oP] <;> rfl) ⟨⟨Nat.zero_le _, h⟩, rfl, hG⟩ (fun k e r a d hge hd hr => ?_) fun k a hk hr => ?_
  · obtain ⟨s, acc⟩ := a
    obtain ⟨hr1, hr2, hr3⟩ := hr
    simp only [List.length_cons, List.length_nil, Nat.zero_add, Nat.reduceAdd] at d
    simp only at hr1 hr2 hr3 ⊢
    have wk := wk_of d (by omega)
    have d' : decide ((k : Int) < 6) = true := decide_eq_true (by omega)
    have e6 : 6 - k = (6 - (k + 1)) + 1 := by omega
    rw [e6] at hr3
    unfold partsG at hr3
    have q0 : ∀ t, s_Num [.ptr 0 1 0 0, .int .i64 1] (oP s :: t) = ⟨True, .int .i64 (numV s 1), oP (nextS s (szN 1)) :: t⟩ := fun t => by
      rw [s_Num_at (r := s) rfl, eq_true hr1]; rfl
    have hr1' := nextS_ok (szN 1) hr1
    generalize nextS s (szN 1) = s1 at q0 hr1' hr3
    have q1 : ∀ t, s_rPart [.ptr 0 1 0 0] (oP s1 :: t) = ⟨True, .sl (bsl (partV s1)), oP (rawS s1 4) :: t⟩ := fun t => by
      rw [s_rPart_at (r := s1) rfl, eq_true hr1']; rfl
    have hr1'' := rawS_ok 4 hr1'
    by_cases c : numV s 1 = (k : Int) + 1
    · rw [if_pos c] at hr3
      have c1 : (numV s 1 != ((k + 1 : Nat) : Int)) = false := by rw [c]; simp
      have hq : acc.length + 1 ≤ 100 := by omega
      (have hcondQ := Bool.and_self; refine Todo.of ?_); (repeat' (first | ((with_reducible refine Todo.to ?_); (repeat (first | (simp only [↓rP, rT, rU, dvalX, dval, dBin, dInt, fz1, DV.immB, elemsOf, dAppend, fzLL, fzL, bRow, bU, cellsOf, DV.isU, lenMax, Nat.reduceEqDiff, ↓reduceIte, Nat.reduceLeDiff, forall_const, d', wk, q0, c1, q1, parts_snoc, hcondQ]) | (simp (disch := omega) only [i64_id, u64_id, u8_id, getD_map'])))) | ((with_reducible refine And.intro ?_ ?_); · first | trivial | omega | (simp; done) | (simp; omega)) | (((with_reducible refine dwp_condA ?_ ?_ ?_); · rfl) <;> (refine Todo.of ?_)))) <;> (try (first | (with_reducible rfl) | exact Nat.le_refl _ | exact Int.le_refl _ | assumption | omega))
      generalize rawS s1 4 = s2 at hr1'' hr3 ⊢
      rcases s2 with _ | ⟨l2, a2⟩
      all_goals exact ⟨(_, acc ++ [partV s1]), by simp only [cut_some, List.map_cons, List.map_nil, get_cons, Nk.get_nil, Nat.reduceEqDiff, ↓reduceIte, DV.cut, DV.inB, DObj.cut, List.take_nil, reduceCtorEq, decide_true, Nat.reduceLT, List.take_succ_cons, Int.natCast_add, Int.natCast_one, List.length_append, List.length_cons, List.length_nil, Nat.zero_add, oP] <;> rfl, hr1'', by simp only [List.length_append, List.length_cons, List.length_nil]; omega, hr3⟩
    · rw [if_neg c] at hr3
      have c1 : (numV s 1 != ((k + 1 : Nat) : Int)) = true := by simpa using c
      subst hr3
      (have hcondQ := Bool.and_self; refine Todo.of ?_); (repeat' (first | ((with_reducible refine Todo.to ?_); (repeat (first | (simp only [↓rP, rT, rU, dvalX, dval, dBin, dInt, retV, retL, DR.val, fzT, fzVs, fzV, fz1, DV.immB, Nat.reduceEqDiff, ↓reduceIte, d', wk, q0, c1 ]) | (simp (disch := omega) only [i64_id, u64_id, u8_id, getD_map'])))) | ((with_reducible refine And.intro ?_ ?_); · first | trivial | omega | (simp; done) | (simp; omega)) | (((with_reducible refine dwp_condA ?_ ?_ ?_); · rfl) <;> (refine Todo.of ?_)))) <;> (try (first | (with_reducible rfl) | exact Nat.le_refl _ | exact Int.le_refl _ | assumption | omega))
  · obtain ⟨s, acc⟩ := a
    obtain ⟨hr1, hr2, hr3⟩ := hr
    simp only [List.length_cons, List.length_nil, Nat.zero_add, Nat.reduceAdd] at hk
    subst hk
    simp only at hr1 hr2 hr3 ⊢
    unfold partsG at hr3
    subst hr3
    have q0 : ∀ t, s_Ok [.ptr 0 1 0 0] (oP s :: t) = ⟨True, .bool s.isSome, oP s :: t⟩ := fun t => s_Ok_at (r := s) rfl
    have q1 : ∀ t, s_More [.ptr 0 1 0 0] (oP s :: t) = ⟨True, .bool (moreO s), oP s :: t⟩ := fun t => s_More_at (r := s) rfl
    have ht : List.take acc.length (acc.map cBs) = acc.map cBs := List.take_of_length_le (by simp)
    cases c : s.isSome <;> rw [c] at q0
    · (have hcondQ := Bool.and_self; refine Todo.of ?_); (repeat' (first | ((with_reducible refine Todo.to ?_); (repeat (first | (simp only [↓rP, rT, rU, dvalX, dval, dBin, dInt, retV, retL, DR.val, fzT, fzVs, fzV, fz1, DV.immB, elemsOf, freezeAt, Nat.reduceEqDiff, ↓reduceIte, reduceCtorEq, Nat.reduceSub, q0, ht, c ]) | (simp (disch := omega) only [i64_id, u64_id, u8_id, getD_map'])))) | ((with_reducible refine And.intro ?_ ?_); · first | trivial | omega | (simp; done) | (simp; omega)) | (((with_reducible refine dwp_condA ?_ ?_ ?_); · rfl) <;> (refine Todo.of ?_)))) <;> (try (first | (with_reducible rfl) | exact Nat.le_refl _ | exact Int.le_refl _ | assumption | omega))
    · (have hcondQ := Bool.and_self; refine Todo.of ?_); (repeat' (first | ((with_reducible refine Todo.to ?_); (repeat (first | (simp only [↓rP, rT, rU, dvalX, dval, dBin, dInt, dUn, retV, retL, DR.val, fzT, fzVs, fzV, fz1, DV.immB, elemsOf, freezeAt, Nat.reduceEqDiff, ↓reduceIte, reduceCtorEq, Nat.reduceSub, q0, q1, ht, c ]) | (simp (disch := omega) only [i64_id, u64_id, u8_id, getD_map'])))) | ((with_reducible refine And.intro ?_ ?_); · first | trivial | omega | (simp; done) | (simp; omega)) | (((with_reducible refine dwp_condA ?_ ?_ ?_); · rfl) <;> (refine Todo.of ?_)))) <;> (try (first | (with_reducible rfl) | exact Nat.le_refl _ | exact Int.le_refl _ | assumption | omega))
end Go.Proofs.YtfaailjhioobhaaGreat

/- An image of nothing is taken. -/
set_option linter.all false
set_option maxRecDepth 20000
namespace Go.Proofs.YtfaailjhioobhaaGreat
open Go.Nk

def sec0 : List (List UInt8) := [[0], [0], [0], [0], [0, 0], []]
def img0 : Img := ⟨[], [], [], [], [], []⟩
/-- The readers so far, and where they are. -/
def tkC : Nat → List DV
  | 0 => [.nilp, .nilp, .nilp, .nilp, .nilp, .nilp]
  | k + 1 => (tkC k).set k (.ptr (k + 2) 1 0 0)
def tkR (l : List (List UInt8)) (k : Nat) : List DObj := (l.take k).map fun c => oP (some (c, 0))
theorem tkC_len : ∀ k, (tkC k).length = 6
  | 0 => rfl
  | k + 1 => by simp [tkC, tkC_len k]
theorem tkR_len {l : List (List UInt8)} {k : Nat} (h : k ≤ l.length) : (tkR l k).length = k := by simp [tkR]; omega
theorem tkR_step {l : List (List UInt8)} {k : Nat} {c : List UInt8} (h : l[k]? = some c) : tkR l k ++ [oP (some (c, 0))] = tkR l (k + 1) := by
  simp [tkR, List.take_add_one, h]
abbrev nil6 : List DV := [.nil, .nil, .nil, .nil, .nil, .nil]
/-- The heap while the readers are made. -/
def tkH (l : List (List UInt8)) (k : Nat) : List DObj := ⟨.loc, 6, [nil6]⟩ :: ⟨.loc, 6, [tkC k]⟩ :: tkR l k
/-- A reader in the bytes c, at a. -/
abbrev rdO (c : List UInt8) (a : Int) : DObj := ⟨.loc, 3, [[.sl (bsl c), .bool true, .int .i64 a]]⟩
/-- The heap when all is read. -/
abbrev tkE (i : List DV) : List DObj := [⟨.loc, 6, [nil6]⟩, ⟨.loc, 1, [[.ptr 2 1 0 0], [.ptr 3 1 0 0], [.ptr 4 1 0 0], [.ptr 5 1 0 0], [.ptr 6 1 0 0], [.ptr 7 1 0 0]]⟩, rdO [0] 1, rdO [0] 1, rdO [0] 1, rdO [0] 1, rdO [0, 0] 2, rdO [] 0, ⟨.loc, 6, [i]⟩]
noncomputable def s_take0 : List DV → Prop × DV := spec1 eBss fun l => (l = sec0, .tup [.agg (cImg img0), .bool true])
theorem s_take0_at (l : List (List UInt8)) : s_take0 [.sl (l.map cBs)] = (l = sec0, .tup [.agg (cImg img0), .bool true]) := spec1_at inj_Bss _ l
theorem some0_x (hp : List DObj) (n : Nat) (z : Int) (g : DV) (hz : z = 1) (h : hp[n]? = some (rdO [0] 0)) : s_some0 [.agg [.ptr n 1 0 0], .int .i64 z, g] hp = ⟨True, .sl [], hp.set n (rdO [0] 1)⟩ := by
  subst hz
  rw [s_some0_at (r := some ([0], 0)) h, eq_true (show okP (some ([0], 0)) ∧ numV (some ([0], 0)) 1 ≤ 0 from ⟨⟨by decide, by unfold ok62; decide⟩, by decide⟩)]
  rfl
theorem some0_y (hp : List DObj) (n : Nat) (g : DV) (h : hp[n]? = some (rdO [0, 0] 0)) : s_some0 [.agg [.ptr n 1 0 0], .int .i64 2, g] hp = ⟨True, .sl [], hp.set n (rdO [0, 0] 2)⟩ := by
  rw [s_some0_at (r := some ([0, 0], 0)) h, eq_true (show okP (some ([0, 0], 0)) ∧ numV (some ([0, 0], 0)) 2 ≤ 0 from ⟨⟨by decide, by unfold ok62; decide⟩, by decide⟩)]
  rfl
set_option maxHeartbeats 4000000 in
theorem ok_take0 : OkP Tryz.prog 36 s_take0 := by
  refine OkP.mk1 (ps := [(88, s_CellsTy), (89, specB1 fGetI)]) (hs := [(75, s_rFrom), (80, s_some0), (82, s_some0), (84, s_some0), (86, s_some0), (78, s_Ok), (79, s_More)]) ⟨ok_CellsTy, ok_instr_Get, trivial⟩ ⟨ok_reader_From, ok_some0_api_Enum, ok_some0_api_Port, ok_some0_api_Slot, ok_some0_int, ok_reader_Ok, ok_reader_More, trivial⟩ m_image_take fun l h => ?_
  have h : l = sec0 := h
  have hl : l.length = 6 := by rw [h]; rfl
  have hl2 : ∀ c ∈ l, c.length ≤ 4294967296 := by rw [h]; decide
  
  (have hcondQ := Bool.and_self; refine Todo.of ?_); (repeat' (first | ((with_reducible refine Todo.to ?_); (repeat (first | (simp only [↓rP, rT, rU, eL, dvalX, dval, Nat.reduceAdd, ↓reduceIte, reduceCtorEq, d_image_take, eBss ]) | (simp (disch := omega) only [i64_id, u64_id, u8_id, getD_map'])))) | ((with_reducible refine And.intro ?_ ?_); · first | trivial | omega | (simp; done) | (simp; omega)) | (((with_reducible refine dwp_condA ?_ ?_ ?_); · rfl) <;> (refine Todo.of ?_)))) <;> (try (first | (with_reducible rfl) | exact Nat.le_refl _ | exact Int.le_refl _ | assumption | omega))
  refine dwp_each l (fun k (_ : Unit) => ⟨[(0, .sl (l.map cBs)), (2, .ptr 0 1 0 0), (4, .ptr 1 1 0 0), (14, .sl (l.map cBs)), (15, .int .i64 l.length), (16, .int .i64 k)], tkH l k⟩) (fun _ _ _ => True) () trivial (by simp only [cut_none, List.map_cons, List.map_nil, get_cons, Nk.get_nil, Nat.reduceEqDiff, ↓reduceIte, reduceCtorEq] <;> rfl) trivial (fun k c r _ d hx hd _ => ?_) fun k _ e _ => ?_
  · have wk := wk_of d (by omega)
    have r1 := map_getD cBs hx
    have eF := fun hp => s_rFrom_at c hp
    rw [eq_true (hl2 c (List.mem_of_getElem? hx))] at eF
    have l1 := tkR_len (l := l) (k := k) (by omega)
    have l2 := tkC_len k
    have e1 := tkR_step hx
    have kl : k < 6 := by omega
    unfold tkH
    (have hcondQ := Bool.and_self; refine Todo.of ?_); (repeat' (first | ((with_reducible refine Todo.to ?_); (repeat (first | (simp only [↓rP, rT, rU, buildCells, dvalX, dval, dBin, dInt, dLoad, cellsAt, dStore, DV.one, alive, cellsOf, setFrom, DV.isU, Nat.reduceEqDiff, ↓reduceIte, reduceCtorEq, Nat.reduceLeDiff, forall_const, d, wk, r1, eF, l1, l2, e1 ]) | (simp (disch := omega) only [i64_id, u64_id, u8_id, getD_map'])))) | ((with_reducible refine And.intro ?_ ?_); · first | trivial | omega | (simp; done) | (simp; omega)) | (((with_reducible refine dwp_condA ?_ ?_ ?_); · rfl) <;> (refine Todo.of ?_)))) <;> (try (first | (with_reducible rfl) | exact Nat.le_refl _ | exact Int.le_refl _ | assumption | omega))
    exact ⟨(), by simp only [cut_none, List.map_cons, List.map_nil, get_cons, Nk.get_nil, Nat.reduceEqDiff, ↓reduceIte, Nat.succ_ne_self, reduceCtorEq, Int.natCast_add, Int.natCast_one] <;> rfl⟩
  · subst e
    rw [hl]
    subst h
    have e6 : tkH sec0 6 = [⟨.loc, 6, [nil6]⟩, ⟨.loc, 6, [[.ptr 2 1 0 0, .ptr 3 1 0 0, .ptr 4 1 0 0, .ptr 5 1 0 0, .ptr 6 1 0 0, .ptr 7 1 0 0]]⟩, rdO [0] 0, rdO [0] 0, rdO [0] 0, rdO [0] 0, rdO [0, 0] 0, rdO [] 0] := rfl
    rw [e6]
    have gR : ∀ k (o : DObj), (List.replicate k (⟨.dead, 0, []⟩ : DObj) ++ [o])[k]? = some o := fun k o => by rw [List.getElem?_append_right (by simp)]; simp
    have gS : ∀ k (o o' : DObj), (List.replicate k (⟨.dead, 0, []⟩ : DObj) ++ [o]).set k o' = List.replicate k (⟨.dead, 0, []⟩ : DObj) ++ [o'] := fun k o o' => by rw [List.set_append_right _ _ (by simp)]; simp
    have f1 : ∀ (k : Nat) (g : DV), s_some0 [.agg [.ptr k 1 0 0], .int .i64 1, g] (List.replicate k ⟨.dead, 0, []⟩ ++ [rdO [0] 0]) = ⟨True, .sl [], List.replicate k ⟨.dead, 0, []⟩ ++ [rdO [0] 1]⟩ := fun k g => by rw [some0_x _ k 1 g rfl (gR k _), gS]
    have f2 : ∀ (k : Nat) (g : DV), s_some0 [.agg [.ptr k 1 0 0], .int .i64 2, g] (List.replicate k ⟨.dead, 0, []⟩ ++ [rdO [0, 0] 0]) = ⟨True, .sl [], List.replicate k ⟨.dead, 0, []⟩ ++ [rdO [0, 0] 2]⟩ := fun k g => by rw [some0_y _ k g (gR k _), gS]
    have im : ∀ (c : List UInt8) (a : Int), (∀ r ∈ [[DV.sl (bsl c), .bool true, .int .i64 a]], ∀ d ∈ r, d.immB = true) = True := fun c a => eq_true (by simp [DV.immB])
    have oH : ∀ (k f : Nat) (z : Int), ([DV.agg [.ptr k 1 0 0], .int .i64 z, .meth f [.agg [.ptr k 1 0 0]]].all (onlyH k)) = true := fun k f z => by simp [onlyH, onlyH1, onlyH2, DV.immB]
    have iR : immR (.sl []) = true := rfl
    (have hcondQ := Bool.and_self; refine Todo.of ?_); (repeat' (first | ((with_reducible refine Todo.to ?_); (repeat (first | (simp only [↓rP, rT, rU, buildCells, sepsD, hdl, dvalX, dval, dBin, dInt, dLoad, cellsAt, DV.immB, dStore, DV.one, alive, cellsOf, setFrom, DV.isU, Nat.reduceEqDiff, Nat.reduceAdd, ↓reduceIte, reduceCtorEq, Int.reduceToNat, Int.reduceLE, Int.reduceLT, Nat.reduceLeDiff, Nat.reduceLT, forall_const, viaZ, notZ, hdl, gR, f1, f2, oH, iR ]) | (simp (disch := omega) only [i64_id, u64_id, u8_id, getD_map'])))) | ((with_reducible refine And.intro ?_ ?_); · first | trivial | omega | (simp; done) | (simp; omega)) | (((with_reducible refine dwp_condA ?_ ?_ ?_); · rfl) <;> (refine Todo.of ?_)))) <;> (try (first | (with_reducible rfl) | exact Nat.le_refl _ | exact Int.le_refl _ | assumption | omega))
    refine ⟨Only_set (n := 2) (o := rdO [0] 1), Only_set (n := 3) (o := rdO [0] 1), Only_set (n := 4) (o := rdO [0] 1), Only_set (n := 5) (o := rdO [0] 1), Only_set (n := 6) (o := rdO [0, 0] 2), ?_⟩
    have okA : ∀ (n : Nat) (o : DObj) (i : List DV), 2 ≤ n → n ≤ 6 → s_Ok [.ptr n 1 0 0] (tkE i ++ [o]) = ⟨True, .bool true, tkE i ++ [o]⟩ := fun n o i h1 h2 => by
      rcases (show n = 2 ∨ n = 3 ∨ n = 4 ∨ n = 5 ∨ n = 6 by omega) with rfl | rfl | rfl | rfl | rfl
      · exact s_Ok_at (r := some ([0], 1)) rfl
      · exact s_Ok_at (r := some ([0], 1)) rfl
      · exact s_Ok_at (r := some ([0], 1)) rfl
      · exact s_Ok_at (r := some ([0], 1)) rfl
      · exact s_Ok_at (r := some ([0, 0], 2)) rfl
    have moA : ∀ (n : Nat) (o : DObj) (i : List DV), 2 ≤ n → n ≤ 6 → s_More [.ptr n 1 0 0] (tkE i ++ [o]) = ⟨True, .bool false, tkE i ++ [o]⟩ := fun n o i h1 h2 => by
      rcases (show n = 2 ∨ n = 3 ∨ n = 4 ∨ n = 5 ∨ n = 6 by omega) with rfl | rfl | rfl | rfl | rfl
      · exact s_More_at (r := some ([0], 1)) rfl
      · exact s_More_at (r := some ([0], 1)) rfl
      · exact s_More_at (r := some ([0], 1)) rfl
      · exact s_More_at (r := some ([0], 1)) rfl
      · exact s_More_at (r := some ([0, 0], 2)) rfl
    simp only [tkE, List.cons_append, List.nil_append] at okA moA
    refine dwp_each [0, 1, 2, 3, 4] (fun k (_ : Unit) => ⟨[(0, .sl (sec0.map cBs)), (2, .ptr 0 1 0 0), (7, .ptr 8 1 0 0), (58, .own 1 6 0 5), (59, .int .i64 5), (60, .int .i64 k)], tkE [.sl [], .sl [], .sl [], .sl [], .sl [], .nil]⟩) (fun _ (_ : List Nat) _ => True) () (Nat.zero_le _) (by simp only [cut_some, List.map_cons, List.map_nil, get_cons, Nk.get_nil, Nat.reduceEqDiff, ↓reduceIte, DV.cut, DV.inB, DObj.cut, List.take_nil, reduceCtorEq, decide_true, Nat.reduceLT, List.take_succ_cons] <;> rfl) trivial (fun k c r _ d hx hd _ => ?_) fun k _ e _ => ?_
    · simp only [List.length_cons, List.length_nil, Nat.zero_add, Nat.reduceAdd] at d
      clear hx hd
      rcases k with _ | _ | _ | _ | _ | k
      · have q1 := fun o => okA 2 o [.sl [], .sl [], .sl [], .sl [], .sl [], .nil] (by decide) (by decide)
        have q2 := fun o => moA 2 o [.sl [], .sl [], .sl [], .sl [], .sl [], .nil] (by decide) (by decide)
        (have hcondQ := Bool.and_self; refine Todo.of ?_); (repeat' (first | ((with_reducible refine Todo.to ?_); (repeat (first | (simp only [↓rP, rT, rU, dvalX, dval, dBin, dInt, dUn, dLoad, cellsAt, dStore, DV.one, alive, cellsOf, setFrom, Nat.reduceEqDiff, Nat.reduceAdd, ↓reduceIte, reduceCtorEq, Int.reduceToNat, Int.reduceLE, Int.reduceLT, Nat.reduceLeDiff, Nat.reduceLT, Int.reduceAdd, forall_const, q1, q2 ]) | (simp (disch := omega) only [i64_id])))) | ((with_reducible refine And.intro ?_ ?_); · first | trivial | omega | (simp; done) | (simp; omega)) | (((with_reducible refine dwp_condA ?_ ?_ ?_); · rfl) <;> (refine Todo.of ?_)))) <;> (try (first | (with_reducible rfl) | exact Nat.le_refl _ | exact Int.le_refl _ | assumption | omega))
        exact ⟨(), by simp only [cut_some, List.map_cons, List.map_nil, get_cons, Nk.get_nil, Nat.reduceEqDiff, ↓reduceIte, Nat.succ_ne_self, DV.cut, DV.inB, DObj.cut, List.take_zero, reduceCtorEq, decide_true, Nat.reduceLT, List.take_succ_cons] <;> rfl⟩
      · have q1 := fun o => okA 3 o [.sl [], .sl [], .sl [], .sl [], .sl [], .nil] (by decide) (by decide)
        have q2 := fun o => moA 3 o [.sl [], .sl [], .sl [], .sl [], .sl [], .nil] (by decide) (by decide)
        (have hcondQ := Bool.and_self; refine Todo.of ?_); (repeat' (first | ((with_reducible refine Todo.to ?_); (repeat (first | (simp only [↓rP, rT, rU, dvalX, dval, dBin, dInt, dUn, dLoad, cellsAt, dStore, DV.one, alive, cellsOf, setFrom, Nat.reduceEqDiff, Nat.reduceAdd, ↓reduceIte, reduceCtorEq, Int.reduceToNat, Int.reduceLE, Int.reduceLT, Nat.reduceLeDiff, Nat.reduceLT, Int.reduceAdd, forall_const, q1, q2 ]) | (simp (disch := omega) only [i64_id])))) | ((with_reducible refine And.intro ?_ ?_); · first | trivial | omega | (simp; done) | (simp; omega)) | (((with_reducible refine dwp_condA ?_ ?_ ?_); · rfl) <;> (refine Todo.of ?_)))) <;> (try (first | (with_reducible rfl) | exact Nat.le_refl _ | exact Int.le_refl _ | assumption | omega))
        exact ⟨(), by simp only [cut_some, List.map_cons, List.map_nil, get_cons, Nk.get_nil, Nat.reduceEqDiff, ↓reduceIte, Nat.succ_ne_self, DV.cut, DV.inB, DObj.cut, List.take_zero, reduceCtorEq, decide_true, Nat.reduceLT, List.take_succ_cons] <;> rfl⟩
      · have q1 := fun o => okA 4 o [.sl [], .sl [], .sl [], .sl [], .sl [], .nil] (by decide) (by decide)
        have q2 := fun o => moA 4 o [.sl [], .sl [], .sl [], .sl [], .sl [], .nil] (by decide) (by decide)
        (have hcondQ := Bool.and_self; refine Todo.of ?_); (repeat' (first | ((with_reducible refine Todo.to ?_); (repeat (first | (simp only [↓rP, rT, rU, dvalX, dval, dBin, dInt, dUn, dLoad, cellsAt, dStore, DV.one, alive, cellsOf, setFrom, Nat.reduceEqDiff, Nat.reduceAdd, ↓reduceIte, reduceCtorEq, Int.reduceToNat, Int.reduceLE, Int.reduceLT, Nat.reduceLeDiff, Nat.reduceLT, Int.reduceAdd, forall_const, q1, q2 ]) | (simp (disch := omega) only [i64_id])))) | ((with_reducible refine And.intro ?_ ?_); · first | trivial | omega | (simp; done) | (simp; omega)) | (((with_reducible refine dwp_condA ?_ ?_ ?_); · rfl) <;> (refine Todo.of ?_)))) <;> (try (first | (with_reducible rfl) | exact Nat.le_refl _ | exact Int.le_refl _ | assumption | omega))
        exact ⟨(), by simp only [cut_some, List.map_cons, List.map_nil, get_cons, Nk.get_nil, Nat.reduceEqDiff, ↓reduceIte, Nat.succ_ne_self, DV.cut, DV.inB, DObj.cut, List.take_zero, reduceCtorEq, decide_true, Nat.reduceLT, List.take_succ_cons] <;> rfl⟩
      · have q1 := fun o => okA 5 o [.sl [], .sl [], .sl [], .sl [], .sl [], .nil] (by decide) (by decide)
        have q2 := fun o => moA 5 o [.sl [], .sl [], .sl [], .sl [], .sl [], .nil] (by decide) (by decide)
        (have hcondQ := Bool.and_self; refine Todo.of ?_); (repeat' (first | ((with_reducible refine Todo.to ?_); (repeat (first | (simp only [↓rP, rT, rU, dvalX, dval, dBin, dInt, dUn, dLoad, cellsAt, dStore, DV.one, alive, cellsOf, setFrom, Nat.reduceEqDiff, Nat.reduceAdd, ↓reduceIte, reduceCtorEq, Int.reduceToNat, Int.reduceLE, Int.reduceLT, Nat.reduceLeDiff, Nat.reduceLT, Int.reduceAdd, forall_const, q1, q2 ]) | (simp (disch := omega) only [i64_id])))) | ((with_reducible refine And.intro ?_ ?_); · first | trivial | omega | (simp; done) | (simp; omega)) | (((with_reducible refine dwp_condA ?_ ?_ ?_); · rfl) <;> (refine Todo.of ?_)))) <;> (try (first | (with_reducible rfl) | exact Nat.le_refl _ | exact Int.le_refl _ | assumption | omega))
        exact ⟨(), by simp only [cut_some, List.map_cons, List.map_nil, get_cons, Nk.get_nil, Nat.reduceEqDiff, ↓reduceIte, Nat.succ_ne_self, DV.cut, DV.inB, DObj.cut, List.take_zero, reduceCtorEq, decide_true, Nat.reduceLT, List.take_succ_cons] <;> rfl⟩
      · have q1 := fun o => okA 6 o [.sl [], .sl [], .sl [], .sl [], .sl [], .nil] (by decide) (by decide)
        have q2 := fun o => moA 6 o [.sl [], .sl [], .sl [], .sl [], .sl [], .nil] (by decide) (by decide)
        (have hcondQ := Bool.and_self; refine Todo.of ?_); (repeat' (first | ((with_reducible refine Todo.to ?_); (repeat (first | (simp only [↓rP, rT, rU, dvalX, dval, dBin, dInt, dUn, dLoad, cellsAt, dStore, DV.one, alive, cellsOf, setFrom, Nat.reduceEqDiff, Nat.reduceAdd, ↓reduceIte, reduceCtorEq, Int.reduceToNat, Int.reduceLE, Int.reduceLT, Nat.reduceLeDiff, Nat.reduceLT, Int.reduceAdd, forall_const, q1, q2 ]) | (simp (disch := omega) only [i64_id])))) | ((with_reducible refine And.intro ?_ ?_); · first | trivial | omega | (simp; done) | (simp; omega)) | (((with_reducible refine dwp_condA ?_ ?_ ?_); · rfl) <;> (refine Todo.of ?_)))) <;> (try (first | (with_reducible rfl) | exact Nat.le_refl _ | exact Int.le_refl _ | assumption | omega))
        exact ⟨(), by simp only [cut_some, List.map_cons, List.map_nil, get_cons, Nk.get_nil, Nat.reduceEqDiff, ↓reduceIte, Nat.succ_ne_self, DV.cut, DV.inB, DObj.cut, List.take_zero, reduceCtorEq, decide_true, Nat.reduceLT, List.take_succ_cons] <;> rfl⟩
      · omega
    · simp only [List.length_cons, List.length_nil, Nat.zero_add, Nat.reduceAdd] at e
      subst e
      (have hcondQ := Bool.and_self; refine Todo.of ?_); (repeat' (first | ((with_reducible refine Todo.to ?_); (repeat (first | (simp only [↓rP, rT, rU, dvalX, dval, dBin, dInt, dLoad, cellsAt, alive, Nat.reduceEqDiff, Nat.reduceAdd, ↓reduceIte, reduceCtorEq, Nat.reduceLT ]) | (simp (disch := omega) only [i64_id, u64_id, u8_id, getD_map'])))) | ((with_reducible refine And.intro ?_ ?_); · first | trivial | omega | (simp; done) | (simp; omega)) | (((with_reducible refine dwp_condA ?_ ?_ ?_); · rfl) <;> (refine Todo.of ?_)))) <;> (try (first | (with_reducible rfl) | exact Nat.le_refl _ | exact Int.le_refl _ | assumption | omega))
      refine dwp_loop (fun _ : Unit => ⟨[(0, .sl (sec0.map cBs)), (2, .ptr 0 1 0 0), (7, .ptr 8 1 0 0), (10, .int .i64 0), (77, .int .i64 0), (78, .int .i64 0)], tkE [.sl [], .sl [], .sl [], .sl [], .sl [], .nil]⟩) (fun _ => True) (fun _ => 0) () (Nat.zero_le _) (by simp only [cut_some, List.map_cons, List.map_nil, get_cons, Nk.get_nil, Nat.reduceEqDiff, ↓reduceIte, DV.cut, DV.inB, DObj.cut, List.take_nil, reduceCtorEq, decide_true, Nat.reduceLT, List.take_succ_cons] <;> rfl) trivial fun _ _ => ?_
      have r5 : (sec0.map cBs).getD 5 [] = [.sl []] := rfl
      have eg : specB1 fGetI [.sl []] = (True, .tup [.sl [], .bool true]) := by
        have := specB1_at fGetI []
        refine this.trans ?_
        rw [fGetI, eq_true (show ([] : List UInt8).length ≤ 100000 by decide)]
        rfl
      (have hcondQ := Bool.and_self; refine Todo.of ?_); (repeat' (first | ((with_reducible refine Todo.to ?_); (repeat (first | (simp only [↓rP, rT, rU, dvalX, dval, dBin, dInt, dLoad, cellsAt, retV, retL, DR.val, fzT, fzVs, fzV, fz1, DV.immB, dCallP, viewVs, viewV, view1, noMemV, noMem, dStore, DV.one, alive, fzL, cellsOf, setFrom, Nat.reduceEqDiff, Nat.reduceAdd, ↓reduceIte, reduceCtorEq, Int.reduceToNat, Int.reduceLE, Nat.reduceLeDiff, Nat.reduceLT, forall_const, r5, eg , hcondQ]) | (simp (disch := omega) only [i64_id, u64_id, u8_id, getD_map'])))) | ((with_reducible refine And.intro ?_ ?_); · first | trivial | omega | (simp; done) | (simp; omega)) | (((with_reducible refine dwp_condA ?_ ?_ ?_); · rfl) <;> (refine Todo.of ?_)))) <;> (try (first | (with_reducible rfl) | exact Nat.le_refl _ | exact Int.le_refl _ | assumption | omega))
      all_goals rfl

/-! Decode, of what is no image's bytes by its sum or its front, and of an image of nothing. -/
def dec0 (b : List UInt8) : Int := if 131072 < b.length then 3 else if b.length < 8 ∨ ¬ b.take 4 = magicB then 11 else if (openF b).isSome then 0 else 12
def body0 : List UInt8 := magicB ++ [1, 0, 0, 0, 1, 0, 2, 0, 0, 0, 1, 0, 3, 0, 0, 0, 1, 0, 4, 0, 0, 0, 1, 0, 5, 0, 0, 0, 2, 0, 0, 6, 0, 0, 0, 0]
theorem parts0 : partsF (body0.drop 4) = (sec0, true) := by decide
noncomputable def s_Dec0 : List DV → Prop × DV := spec1 eBs fun b => (dec0 b ≠ 0 ∨ b = sealF body0, .tup [.agg (cImg img0), .int .i64 (dec0 b)])
theorem s_Dec0_at (b : List UInt8) : s_Dec0 [.sl (bsl b)] = (dec0 b ≠ 0 ∨ b = sealF body0, .tup [.agg (cImg img0), .int .i64 (dec0 b)]) := spec1_at inj_Bs _ b
set_option maxHeartbeats 1000000 in
theorem ok_image_Decode : OkP Tryz.prog 12 s_Dec0 := by
  refine OkP.mk1 (ps := [(33, s_bPre), (34, s_Open), (35, s_parts), (36, s_take0)]) (hs := []) ⟨ok_bytes_HasPrefix, ok_crc_Open, ok_image_parts, ok_take0, trivial⟩ trivial m_image_Decode fun b h => ?_
  try dsimp only at h
  have h : dec0 b ≠ 0 ∨ b = sealF body0 := h
  have p0 : s_bPre [.sl (bsl b), .sl [[.int .u8 78], [.int .u8 79], [.int .u8 82], [.int .u8 49]]] = (True, .bool (decide (4 ≤ b.length) && (b.take 4 == magicB))) := s_bPre_at b magicB
  by_cases c1 : 131072 < b.length
  · have e : dec0 b = 3 := if_pos c1
    rw [e]
    (have hcondQ := Bool.and_self; refine Todo.of ?_); (repeat' (first | ((with_reducible refine Todo.to ?_); (repeat (first | (simp only [↓rP, rT, rU, eBs, buildCells, dvalX, dval, dBin, dInt, dLoad, cellsAt, retV, retL, DR.val, fzT, fzVs, fzV, fz1, DV.immB, dStore, DV.one, fzL, cellsOf, setFrom, Nat.reduceEqDiff, Nat.reduceAdd, ↓reduceIte, reduceCtorEq, Nat.reduceLeDiff, forall_const, d_image_Decode, hcondQ]) | (simp (disch := omega) only [i64_id, u64_id, u8_id, getD_map'])))) | ((with_reducible refine And.intro ?_ ?_); · first | trivial | omega | (simp; done) | (simp; omega)) | ((first | ((with_reducible refine dwp_condI (t := ?_) ?_ (fun hcQ => ?_) (fun hcQ => ?_)); rotate_left; · rfl) | ((with_reducible refine dops_guardI (t := ?_) ?_ (fun hcQ => ?_) (fun hcQ => ?_)); rotate_left; · rfl)) <;> (have hn := hcQ; have hcondQ := hcQ) <;> (try simp only [decide_eq_true_eq, decide_eq_false_iff_not] at hn) <;> (try (exfalso; omega)) <;> (refine Todo.of ?_)) | (((with_reducible refine dwp_condA ?_ ?_ ?_); · rfl) <;> (refine Todo.of ?_)))) <;> (try (first | (with_reducible rfl) | exact Nat.le_refl _ | exact Int.le_refl _ | assumption | omega))
    all_goals rfl
  by_cases c2 : b.length < 8
  · have e : dec0 b = 11 := (if_neg c1).trans (if_pos (.inl c2))
    rw [e]
    (have hcondQ := Bool.and_self; refine Todo.of ?_); (repeat' (first | ((with_reducible refine Todo.to ?_); (repeat (first | (simp only [↓rP, rT, rU, eBs, buildCells, dvalX, dval, dBin, dInt, dLoad, cellsAt, retV, retL, DR.val, fzT, fzVs, fzV, fz1, DV.immB, dStore, DV.one, fzL, cellsOf, setFrom, Nat.reduceEqDiff, Nat.reduceAdd, ↓reduceIte, reduceCtorEq, Nat.reduceLeDiff, forall_const, d_image_Decode, hcondQ]) | (simp (disch := omega) only [i64_id, u64_id, u8_id, getD_map'])))) | ((with_reducible refine And.intro ?_ ?_); · first | trivial | omega | (simp; done) | (simp; omega)) | ((first | ((with_reducible refine dwp_condI (t := ?_) ?_ (fun hcQ => ?_) (fun hcQ => ?_)); rotate_left; · rfl) | ((with_reducible refine dops_guardI (t := ?_) ?_ (fun hcQ => ?_) (fun hcQ => ?_)); rotate_left; · rfl)) <;> (have hn := hcQ; have hcondQ := hcQ) <;> (try simp only [decide_eq_true_eq, decide_eq_false_iff_not] at hn) <;> (try (exfalso; omega)) <;> (refine Todo.of ?_)) | (((with_reducible refine dwp_condA ?_ ?_ ?_); · rfl) <;> (refine Todo.of ?_)))) <;> (try (first | (with_reducible rfl) | exact Nat.le_refl _ | exact Int.le_refl _ | assumption | omega))
    rfl
  rw [decide_eq_true (show 4 ≤ b.length by omega), Bool.true_and] at p0
  by_cases c3 : b.take 4 = magicB
  rotate_left
  · have e : dec0 b = 11 := (if_neg c1).trans (if_pos (.inr c3))
    rw [e]
    rw [beq_eq_false_iff_ne.2 c3] at p0
    (have hcondQ := Bool.and_self; refine Todo.of ?_); (repeat' (first | ((with_reducible refine Todo.to ?_); (repeat (first | (simp only [↓rP, rT, rU, eBs, buildCells, dvalX, dval, dBin, dInt, dUn, dLoad, cellsAt, retV, retL, DR.val, fzT, fzVs, fzV, fz1, DV.immB, dCallP, viewVs, viewV, view1, noMemV, noMem, dStore, DV.one, fzLL, fzL, bRow, bU, cellsOf, setFrom, DV.isU, Nat.reduceEqDiff, Nat.reduceAdd, ↓reduceIte, reduceCtorEq, Nat.reduceLeDiff, Nat.reduceLT, forall_const, d_image_Decode, p0 , hcondQ]) | (simp (disch := omega) only [i64_id, u64_id, u8_id, getD_map'])))) | ((with_reducible refine And.intro ?_ ?_); · first | trivial | omega | (simp; done) | (simp; omega)) | ((first | ((with_reducible refine dwp_condI (t := ?_) ?_ (fun hcQ => ?_) (fun hcQ => ?_)); rotate_left; · rfl) | ((with_reducible refine dops_guardI (t := ?_) ?_ (fun hcQ => ?_) (fun hcQ => ?_)); rotate_left; · rfl)) <;> (have hn := hcQ; have hcondQ := hcQ) <;> (try simp only [decide_eq_true_eq, decide_eq_false_iff_not] at hn) <;> (try (exfalso; omega)) <;> (refine Todo.of ?_)) | (((with_reducible refine dwp_condA ?_ ?_ ?_); · rfl) <;> (refine Todo.of ?_)))) <;> (try (first | (with_reducible rfl) | exact Nat.le_refl _ | exact Int.le_refl _ | assumption | omega))
    rfl
  rw [beq_iff_eq.2 c3] at p0
  have h4 : dec0 b = if (openF b).isSome then 0 else 12 := (if_neg c1).trans (if_neg (by simp [c2, c3]))
  have o1 := s_Open_at b
  rw [eq_true (show b.length ≤ 100000000 by omega)] at o1
  cases c4 : (openF b).isSome
  · rw [c4] at h4 o1
    rw [h4]
    (have hcondQ := Bool.and_self; refine Todo.of ?_); (repeat' (first | ((with_reducible refine Todo.to ?_); (repeat (first | (simp only [↓rP, rT, rU, eBs, buildCells, dvalX, dval, dBin, dInt, dUn, dLoad, cellsAt, retV, retL, DR.val, fzT, fzVs, fzV, fz1, DV.immB, dCallP, viewVs, viewV, view1, noMemV, noMem, dStore, DV.one, fzLL, fzL, bRow, bU, cellsOf, setFrom, DV.isU, Nat.reduceEqDiff, Nat.reduceAdd, ↓reduceIte, reduceCtorEq, Nat.reduceLeDiff, Nat.reduceLT, forall_const, d_image_Decode, p0, o1 , hcondQ]) | (simp (disch := omega) only [i64_id, u64_id, u8_id, getD_map'])))) | ((with_reducible refine And.intro ?_ ?_); · first | trivial | omega | (simp; done) | (simp; omega)) | ((first | ((with_reducible refine dwp_condI (t := ?_) ?_ (fun hcQ => ?_) (fun hcQ => ?_)); rotate_left; · rfl) | ((with_reducible refine dops_guardI (t := ?_) ?_ (fun hcQ => ?_) (fun hcQ => ?_)); rotate_left; · rfl)) <;> (have hn := hcQ; have hcondQ := hcQ) <;> (try simp only [decide_eq_true_eq, decide_eq_false_iff_not] at hn) <;> (try (exfalso; omega)) <;> (refine Todo.of ?_)) | (((with_reducible refine dwp_condA ?_ ?_ ?_); · rfl) <;> (refine Todo.of ?_)))) <;> (try (first | (with_reducible rfl) | exact Nat.le_refl _ | exact Int.le_refl _ | assumption | omega))
    rfl
  · rw [c4] at h4 o1
    have hb : b = sealF body0 := h.resolve_left (by rw [h4]; decide)
    rw [h4]
    have eo : openB b = body0 := by rw [hb, openB, open_seal]; rfl
    rw [eo] at o1
    have s1 := fun hp => slice_bsL (hp := hp) (l := body0) (b := 4) (by decide) (by decide)
    have s2 := s_parts_at (body0.drop 4)
    rw [parts0, eq_true (show (body0.drop 4).length ≤ 4294967296 by decide)] at s2
    have s3 := s_take0_at sec0
    rw [eq_true (rfl : sec0 = sec0)] at s3
    have e4 : (4 : Int).toNat = 4 := rfl
    (have hcondQ := Bool.and_self; refine Todo.of ?_); (repeat' (first | ((with_reducible refine Todo.to ?_); (repeat (first | (simp only [↓rP, rT, rU, eBs, dvalX, dval, dBin, dInt, dUn, dLoad, cellsAt, retV, retL, DR.val, fzT, fzVs, fzV, fz1, DV.immB, dCallP, viewVs, viewV, view1, noMemV, noMem, dStore, DV.one, fzLL, fzL, bRow, bU, cellsOf, setFrom, DV.isU, Nat.reduceEqDiff, Nat.reduceAdd, ↓reduceIte, reduceCtorEq, Nat.reduceLeDiff, Nat.reduceLT, forall_const, d_image_Decode, p0, o1, s1, e4, s2, s3 , hcondQ]) | (simp (disch := omega) only [i64_id, u64_id, u8_id, getD_map'])))) | ((with_reducible refine And.intro ?_ ?_); · first | trivial | omega | (simp; done) | (simp; omega)) | ((first | ((with_reducible refine dwp_condI (t := ?_) ?_ (fun hcQ => ?_) (fun hcQ => ?_)); rotate_left; · rfl) | ((with_reducible refine dops_guardI (t := ?_) ?_ (fun hcQ => ?_) (fun hcQ => ?_)); rotate_left; · rfl)) <;> (have hn := hcQ; have hcondQ := hcQ) <;> (try simp only [decide_eq_true_eq, decide_eq_false_iff_not] at hn) <;> (try (exfalso; omega)) <;> (refine Todo.of ?_)) | (((with_reducible refine dwp_condA ?_ ?_ ?_); · rfl) <;> (refine Todo.of ?_)))) <;> (try (first | (with_reducible rfl) | exact Nat.le_refl _ | exact Int.le_refl _ | assumption | omega))
    all_goals rfl
end Go.Proofs.YtfaailjhioobhaaGreat

/- Comparisons of images that are the same, by the program. -/
set_option linter.all false
set_option maxRecDepth 20000
namespace Go.Proofs.YtfaailjhioobhaaGreat
open Go.Nk

noncomputable def s_pPrts : List DV → Prop × DV := specE ePrts (fun l => l.length ≤ 1000000000)
theorem s_pPrts_same {l : List Prt} (h : l.length ≤ 1000000000) : s_pPrts [.sl (l.map cPrt), .sl (l.map cPrt)] = (True, .bool true) := specE_at ePrts h
theorem ok_slices_Equal_api_Port_api_Port : OkP Tryz.prog 45 s_pPrts := by
  refine OkP.mkE (ps := []) (hs := []) trivial trivial m_slices_Equal_api_Port_api_Port fun l h => ?_
  have h : l.length ≤ 1000000000 := h
  
  (have hcondQ := Bool.and_self; refine Todo.of ?_); (repeat' (first | ((with_reducible refine Todo.to ?_); (repeat (first | (simp only [↓rP, rT, rU, eL, dvalX, dval, dBin, dInt, Nat.reduceEqDiff, ↓reduceIte, reduceCtorEq, d_slices_Equal_api_Port_api_Port, ePrts ]) | (simp (disch := omega) only [i64_id, u64_id, u8_id, getD_map'])))) | ((with_reducible refine And.intro ?_ ?_); · first | trivial | omega | (simp; done) | (simp; omega)) | (((with_reducible refine dwp_condA ?_ ?_ ?_); · rfl) <;> (refine Todo.of ?_)))) <;> (try (first | (with_reducible rfl) | exact Nat.le_refl _ | exact Int.le_refl _ | assumption | omega))
  refine dwp_each l (fun k (_ : Unit) => ⟨[(0, .sl (l.map cPrt)), (1, .sl (l.map cPrt)), (12, .int .i64 l.length), (13, .int .i64 k)], []⟩) (fun _ _ _ => True) () (Nat.zero_le _) (by simp only [cut_some, List.map_cons, List.map_nil, get_cons, Nk.get_nil, Nat.reduceEqDiff, ↓reduceIte, Nat.succ_ne_self, DV.cut, DV.inB, List.take_nil, reduceCtorEq] <;> rfl) trivial (fun k x r _ d hx _ _ => ?_) (fun k _ e _ => ?_)
  · have wk := wk_of d (by omega)
    have r1 := map_getD cPrt hx
    have e1 : ∀ neg, dAeq neg [2, 0, 0, 0] (.agg (cPrt x)) (.agg (cPrt x)) = (True, .bool (!neg)) := fun neg => by cases neg <;> simp [dAeq, eqCells]
    (have hcondQ := Bool.and_self; refine Todo.of ?_); (repeat' (first | ((with_reducible refine Todo.to ?_); (repeat (first | (simp only [↓rP, rT, rU, dvalX, dval, dBin, dInt, dLoad, cellsAt, Nat.reduceEqDiff, Nat.reduceAdd, ↓reduceIte, reduceCtorEq, Nat.reduceLeDiff, d, wk, r1, e1 ]) | (simp (disch := omega) only [i64_id, u64_id, u8_id, getD_map'])))) | ((with_reducible refine And.intro ?_ ?_); · first | trivial | omega | (simp; done) | (simp; omega)) | (((with_reducible refine dwp_condA ?_ ?_ ?_); · rfl) <;> (refine Todo.of ?_)))) <;> (try (first | (with_reducible rfl) | exact Nat.le_refl _ | exact Int.le_refl _ | assumption | omega))
    exact ⟨(), by simp only [cut_some, List.map_cons, List.map_nil, get_cons, Nk.get_nil, Nat.reduceEqDiff, ↓reduceIte, Nat.succ_ne_self, DV.cut, DV.inB, List.take_nil, reduceCtorEq, Int.natCast_add, Int.natCast_one] <;> rfl⟩
  · (have hcondQ := Bool.and_self; refine Todo.of ?_); (repeat' (first | ((with_reducible refine Todo.to ?_); (repeat (first | (simp only [↓rP, rT, rU, dvalX, dval, dBin, dInt, retV, DR.val, fzT, fzV, fz1, DV.immB, Nat.reduceEqDiff, ↓reduceIte, reduceCtorEq, e ]) | (simp (disch := omega) only [i64_id, u64_id, u8_id, getD_map'])))) | ((with_reducible refine And.intro ?_ ?_); · first | trivial | omega | (simp; done) | (simp; omega)) | (((with_reducible refine dwp_condA ?_ ?_ ?_); · rfl) <;> (refine Todo.of ?_)))) <;> (try (first | (with_reducible rfl) | exact Nat.le_refl _ | exact Int.le_refl _ | assumption | omega))
noncomputable def s_pIns : List DV → Prop × DV := specE eIns4 (fun l => l.length ≤ 1000000000)
theorem s_pIns_same {l : List In4} (h : l.length ≤ 1000000000) : s_pIns [.sl (l.map cIn4), .sl (l.map cIn4)] = (True, .bool true) := specE_at eIns4 h
theorem ok_slices_Equal_api_Instr_api_Instr : OkP Tryz.prog 51 s_pIns := by
  refine OkP.mkE (ps := []) (hs := []) trivial trivial m_slices_Equal_api_Instr_api_Instr fun l h => ?_
  have h : l.length ≤ 1000000000 := h
  
  (have hcondQ := Bool.and_self; refine Todo.of ?_); (repeat' (first | ((with_reducible refine Todo.to ?_); (repeat (first | (simp only [↓rP, rT, rU, dvalX, dval, dBin, dInt, Nat.reduceEqDiff, ↓reduceIte, reduceCtorEq, d_slices_Equal_api_Instr_api_Instr ]) | (simp (disch := omega) only [i64_id, u64_id, u8_id, getD_map'])))) | ((with_reducible refine And.intro ?_ ?_); · first | trivial | omega | (simp; done) | (simp; omega)) | (((with_reducible refine dwp_condA ?_ ?_ ?_); · rfl) <;> (refine Todo.of ?_)))) <;> (try (first | (with_reducible rfl) | exact Nat.le_refl _ | exact Int.le_refl _ | assumption | omega))
  refine dwp_each l (fun k (_ : Unit) => ⟨[(0, .sl (l.map cIn4)), (1, .sl (l.map cIn4)), (12, .int .i64 l.length), (13, .int .i64 k)], []⟩) (fun _ _ _ => True) () (Nat.zero_le _) (by simp only [cut_some, List.map_cons, List.map_nil, get_cons, Nk.get_nil, Nat.reduceEqDiff, ↓reduceIte, Nat.succ_ne_self, DV.cut, DV.inB, List.take_nil, reduceCtorEq] <;> rfl) trivial (fun k x r _ d hx _ _ => ?_) (fun k _ e _ => ?_)
  · have wk := wk_of d (by omega)
    have r1 := map_getD cIn4 hx
    have e1 : ∀ neg, dAeq neg [0, 0, 0, 0] (.agg (cIn4 x)) (.agg (cIn4 x)) = (True, .bool (!neg)) := fun neg => by cases neg <;> simp [dAeq, eqCells]
    (have hcondQ := Bool.and_self; refine Todo.of ?_); (repeat' (first | ((with_reducible refine Todo.to ?_); (repeat (first | (simp only [↓rP, rT, rU, dvalX, dval, dBin, dInt, dLoad, cellsAt, Nat.reduceEqDiff, Nat.reduceAdd, ↓reduceIte, reduceCtorEq, Nat.reduceLeDiff, d, wk, r1, e1 ]) | (simp (disch := omega) only [i64_id, u64_id, u8_id, getD_map'])))) | ((with_reducible refine And.intro ?_ ?_); · first | trivial | omega | (simp; done) | (simp; omega)) | (((with_reducible refine dwp_condA ?_ ?_ ?_); · rfl) <;> (refine Todo.of ?_)))) <;> (try (first | (with_reducible rfl) | exact Nat.le_refl _ | exact Int.le_refl _ | assumption | omega))
    exact ⟨(), by simp only [cut_some, List.map_cons, List.map_nil, get_cons, Nk.get_nil, Nat.reduceEqDiff, ↓reduceIte, Nat.succ_ne_self, DV.cut, DV.inB, List.take_nil, reduceCtorEq, Int.natCast_add, Int.natCast_one] <;> rfl⟩
  · (have hcondQ := Bool.and_self; refine Todo.of ?_); (repeat' (first | ((with_reducible refine Todo.to ?_); (repeat (first | (simp only [↓rP, rT, rU, dvalX, dval, dBin, dInt, retV, DR.val, fzT, fzV, fz1, DV.immB, Nat.reduceEqDiff, ↓reduceIte, reduceCtorEq, e ]) | (simp (disch := omega) only [i64_id, u64_id, u8_id, getD_map'])))) | ((with_reducible refine And.intro ?_ ?_); · first | trivial | omega | (simp; done) | (simp; omega)) | (((with_reducible refine dwp_condA ?_ ?_ ?_); · rfl) <;> (refine Todo.of ?_)))) <;> (try (first | (with_reducible rfl) | exact Nat.le_refl _ | exact Int.le_refl _ | assumption | omega))
noncomputable def s_pInt : List DV → Prop × DV := specE eIls (fun l => l.length ≤ 1000000000)
theorem s_pInt_same {l : List Int} (h : l.length ≤ 1000000000) : s_pInt [.sl (ils l), .sl (ils l)] = (True, .bool true) := specE_at eIls h
theorem ok_slices_Equal_int_int : OkP Tryz.prog 50 s_pInt := by
  refine OkP.mkE (ps := []) (hs := []) trivial trivial m_slices_Equal_int_int fun l h => ?_
  have h : l.length ≤ 1000000000 := h
  
  (have hcondQ := Bool.and_self; refine Todo.of ?_); (repeat' (first | ((with_reducible refine Todo.to ?_); (repeat (first | (simp only [↓rP, rT, dvalX, dval, dBin, dInt, Nat.reduceEqDiff, ↓reduceIte, reduceCtorEq, d_slices_Equal_int_int, eIls, ils_len ]) | (simp (disch := omega) only [i64_id, u64_id, u8_id, getD_map'])))) | ((with_reducible refine And.intro ?_ ?_); · first | trivial | omega | (simp; done) | (simp; omega)) | (((with_reducible refine dwp_condA ?_ ?_ ?_); · rfl) <;> (refine Todo.of ?_)))) <;> (try (first | (with_reducible rfl) | exact Nat.le_refl _ | exact Int.le_refl _ | assumption | omega))
  refine dwp_each l (fun k (_ : Unit) => ⟨[(0, .sl (ils l)), (1, .sl (ils l)), (12, .int .i64 l.length), (13, .int .i64 k)], []⟩) (fun _ _ _ => True) () (Nat.zero_le _) (by simp only [cut_some, List.map_cons, List.map_nil, get_cons, Nk.get_nil, Nat.reduceEqDiff, ↓reduceIte, Nat.succ_ne_self, DV.cut, DV.inB, List.take_nil, reduceCtorEq] <;> rfl) trivial (fun k x r _ d hx _ _ => ?_) (fun k _ e _ => ?_)
  · have wk := wk_of d (by omega)
    have r1 := ils_at hx
    (have hcondQ := Bool.and_self; refine Todo.of ?_); (repeat' (first | ((with_reducible refine Todo.to ?_); (repeat (first | (simp only [↓rP, rT, rU, dvalX, dval, dBin, dInt, dLoad, cellsAt, Nat.reduceEqDiff, ↓reduceIte, reduceCtorEq, ils_len, d, wk, r1 ]) | (simp (disch := omega) only [i64_id, u64_id, u8_id, getD_map'])))) | ((with_reducible refine And.intro ?_ ?_); · first | trivial | omega | (simp; done) | (simp; omega)) | (((with_reducible refine dwp_condA ?_ ?_ ?_); · rfl) <;> (refine Todo.of ?_)))) <;> (try (first | (with_reducible rfl) | exact Nat.le_refl _ | exact Int.le_refl _ | assumption | omega))
    exact ⟨(), by simp only [cut_some, List.map_cons, List.map_nil, get_cons, Nk.get_nil, Nat.reduceEqDiff, ↓reduceIte, Nat.succ_ne_self, DV.cut, DV.inB, List.take_nil, reduceCtorEq, Int.natCast_add, Int.natCast_one] <;> rfl⟩
  · (have hcondQ := Bool.and_self; refine Todo.of ?_); (repeat' (first | ((with_reducible refine Todo.to ?_); (repeat (first | (simp only [↓rP, rT, rU, dvalX, dval, dBin, dInt, retV, DR.val, fzT, fzV, fz1, DV.immB, Nat.reduceEqDiff, ↓reduceIte, reduceCtorEq, e ]) | (simp (disch := omega) only [i64_id, u64_id, u8_id, getD_map'])))) | ((with_reducible refine And.intro ?_ ?_); · first | trivial | omega | (simp; done) | (simp; omega)) | (((with_reducible refine dwp_condA ?_ ?_ ?_); · rfl) <;> (refine Todo.of ?_)))) <;> (try (first | (with_reducible rfl) | exact Nat.le_refl _ | exact Int.le_refl _ | assumption | omega))
noncomputable def s_pI64 : List DV → Prop × DV := specE eIls (fun l => l.length ≤ 1000000000)
theorem s_pI64_same {l : List Int} (h : l.length ≤ 1000000000) : s_pI64 [.sl (ils l), .sl (ils l)] = (True, .bool true) := specE_at eIls h
theorem ok_slices_Equal_int64_int64 : OkP Tryz.prog 104 s_pI64 := by
  refine OkP.mkE (ps := []) (hs := []) trivial trivial m_slices_Equal_int64_int64 fun l h => ?_
  have h : l.length ≤ 1000000000 := h
  
  (have hcondQ := Bool.and_self; refine Todo.of ?_); (repeat' (first | ((with_reducible refine Todo.to ?_); (repeat (first | (simp only [↓rP, rT, dvalX, dval, dBin, dInt, Nat.reduceEqDiff, ↓reduceIte, reduceCtorEq, d_slices_Equal_int64_int64, eIls, ils_len ]) | (simp (disch := omega) only [i64_id, u64_id, u8_id, getD_map'])))) | ((with_reducible refine And.intro ?_ ?_); · first | trivial | omega | (simp; done) | (simp; omega)) | (((with_reducible refine dwp_condA ?_ ?_ ?_); · rfl) <;> (refine Todo.of ?_)))) <;> (try (first | (with_reducible rfl) | exact Nat.le_refl _ | exact Int.le_refl _ | assumption | omega))
  refine dwp_each l (fun k (_ : Unit) => ⟨[(0, .sl (ils l)), (1, .sl (ils l)), (12, .int .i64 l.length), (13, .int .i64 k)], []⟩) (fun _ _ _ => True) () (Nat.zero_le _) (by simp only [cut_some, List.map_cons, List.map_nil, get_cons, Nk.get_nil, Nat.reduceEqDiff, ↓reduceIte, Nat.succ_ne_self, DV.cut, DV.inB, List.take_nil, reduceCtorEq] <;> rfl) trivial (fun k x r _ d hx _ _ => ?_) (fun k _ e _ => ?_)
  · have wk := wk_of d (by omega)
    have r1 := ils_at hx
    (have hcondQ := Bool.and_self; refine Todo.of ?_); (repeat' (first | ((with_reducible refine Todo.to ?_); (repeat (first | (simp only [↓rP, rT, rU, dvalX, dval, dBin, dInt, dLoad, cellsAt, Nat.reduceEqDiff, ↓reduceIte, reduceCtorEq, ils_len, d, wk, r1 ]) | (simp (disch := omega) only [i64_id, u64_id, u8_id, getD_map'])))) | ((with_reducible refine And.intro ?_ ?_); · first | trivial | omega | (simp; done) | (simp; omega)) | (((with_reducible refine dwp_condA ?_ ?_ ?_); · rfl) <;> (refine Todo.of ?_)))) <;> (try (first | (with_reducible rfl) | exact Nat.le_refl _ | exact Int.le_refl _ | assumption | omega))
    exact ⟨(), by simp only [cut_some, List.map_cons, List.map_nil, get_cons, Nk.get_nil, Nat.reduceEqDiff, ↓reduceIte, Nat.succ_ne_self, DV.cut, DV.inB, List.take_nil, reduceCtorEq, Int.natCast_add, Int.natCast_one] <;> rfl⟩
  · (have hcondQ := Bool.and_self; refine Todo.of ?_); (repeat' (first | ((with_reducible refine Todo.to ?_); (repeat (first | (simp only [↓rP, rT, rU, dvalX, dval, dBin, dInt, retV, DR.val, fzT, fzV, fz1, DV.immB, Nat.reduceEqDiff, ↓reduceIte, reduceCtorEq, e ]) | (simp (disch := omega) only [i64_id, u64_id, u8_id, getD_map'])))) | ((with_reducible refine And.intro ?_ ?_); · first | trivial | omega | (simp; done) | (simp; omega)) | (((with_reducible refine dwp_condA ?_ ?_ ?_); · rfl) <;> (refine Todo.of ?_)))) <;> (try (first | (with_reducible rfl) | exact Nat.le_refl _ | exact Int.le_refl _ | assumption | omega))
/-! Enums and slots. -/
noncomputable def s_sEn : List DV → Prop × DV := specE (eA cEn) (fun x => x.ct.length ≤ 1000000000)
theorem s_sEn_same {x : En} (h : x.ct.length ≤ 1000000000) : s_sEn [.agg (cEn x), .agg (cEn x)] = (True, .bool true) := specE_at (eA cEn) h
theorem ok_image_sameEnum : OkP Tryz.prog 47 s_sEn := by
  refine OkP.mkE (ps := [(103, s_Names)]) (hs := []) ⟨ok_Equal, trivial⟩ trivial m_image_sameEnum fun x h => ?_
  have h : x.ct.length ≤ 1000000000 := h
  have e1 := s_Names_at x.ct x.ct
  rw [eq_true h, decide_eq_true rfl] at e1
  
  (have hcondQ := Bool.and_self; refine Todo.of ?_); (repeat' (first | ((with_reducible refine Todo.to ?_); (repeat (first | (simp only [↓rP, rT, rU, eA, dvalX, dval, dBin, dStr, dLoad, cellsAt, retV, DR.val, fzT, fzV, fz1, DV.immB, dCallP, viewVs, viewV, view1, noMemV, noMem, DV.one, alive, cellsOf, Nat.reduceEqDiff, Nat.reduceAdd, ↓reduceIte, reduceCtorEq, Nat.reduceLT, forall_const, d_image_sameEnum, e1 ]) | (simp (disch := omega) only [i64_id, u64_id, u8_id, getD_map'])))) | ((with_reducible refine And.intro ?_ ?_); · first | trivial | omega | (simp; done) | (simp; omega)) | (((with_reducible refine dwp_condA ?_ ?_ ?_); · rfl) <;> (refine Todo.of ?_)))) <;> (try (first | (with_reducible rfl) | exact Nat.le_refl _ | exact Int.le_refl _ | assumption | omega))
noncomputable def s_sSl : List DV → Prop × DV := specE (eA cSlt) (fun x => x.ini.length ≤ 1000000000)
theorem s_sSl_same {x : Slt} (h : x.ini.length ≤ 1000000000) : s_sSl [.agg (cSlt x), .agg (cSlt x)] = (True, .bool true) := specE_at (eA cSlt) h
theorem ok_image_sameSlot : OkP Tryz.prog 49 s_sSl := by
  refine OkP.mkE (ps := [(104, s_pI64)]) (hs := []) ⟨ok_slices_Equal_int64_int64, trivial⟩ trivial m_image_sameSlot fun x h => ?_
  have h : x.ini.length ≤ 1000000000 := h
  have e1 := s_pI64_same h
  have e2 : ∀ neg, dAeq neg [0, 0, 0] (.agg [.int .i64 x.ty.k, .int .i64 x.ty.e, .int .i64 x.ty.n]) (.agg [.int .i64 x.ty.k, .int .i64 x.ty.e, .int .i64 x.ty.n]) = (True, .bool (!neg)) := fun neg => by cases neg <;> simp [dAeq, eqCells]
  
  (have hcondQ := Bool.and_self; refine Todo.of ?_); (repeat' (first | ((with_reducible refine Todo.to ?_); (repeat (first | (simp only [↓rP, rT, rU, eA, dvalX, dval, dBin, dInt, dStr, dLoad, cellsAt, retV, DR.val, fzT, fzV, fz1, DV.immB, dCallP, viewVs, viewV, view1, noMemV, noMem, DV.one, alive, cellsOf, Nat.reduceEqDiff, Nat.reduceAdd, ↓reduceIte, reduceCtorEq, Nat.reduceLeDiff, Nat.reduceLT, forall_const, d_image_sameSlot, e1, e2 ]) | (simp (disch := omega) only [i64_id, u64_id, u8_id, getD_map'])))) | ((with_reducible refine And.intro ?_ ?_); · first | trivial | omega | (simp; done) | (simp; omega)) | (((with_reducible refine dwp_condA ?_ ?_ ?_); · rfl) <;> (refine Todo.of ?_)))) <;> (try (first | (with_reducible rfl) | exact Nat.le_refl _ | exact Int.le_refl _ | assumption | omega))
def ks_fEns (l : List En) : Prop := l.length ≤ 1000000000 ∧ ∀ x ∈ l, x.ct.length ≤ 1000000000
noncomputable def s_fEns : List DV → Prop × DV := fun args => (∃ l : List En, args = [.sl (l.map cEn), .sl (l.map cEn), .clo 47 []] ∧ ks_fEns l, .bool true)
theorem s_fEns_same {l : List En} (h : ks_fEns l) : s_fEns [.sl (l.map cEn), .sl (l.map cEn), .clo 47 []] = (True, .bool true) := by
  unfold s_fEns
  exact congrArg (·, DV.bool true) (eq_true ⟨l, rfl, h⟩)
theorem ok_slices_EqualFunc_api_Enum_api_Enum_api_Enum_api_Enum : OkP Tryz.prog 46 s_fEns := by
  refine OkP.mk (ps := [(47, s_sEn)]) (hs := []) (n := 3) ⟨ok_image_sameEnum, trivial⟩ trivial m_slices_EqualFunc_api_Enum_api_Enum_api_Enum_api_Enum fun args hp => ?_
  obtain ⟨l, rfl, h1, h2⟩ := hp
  refine ⟨rfl, ?_⟩
  show dwp _ 0 _ (EndP _ (.bool true)) _
  
  (have hcondQ := Bool.and_self; refine Todo.of ?_); (repeat' (first | ((with_reducible refine Todo.to ?_); (repeat (first | (simp only [↓rP, rT, rU, dvalX, dval, frameFrom, dBin, dInt, Nat.reduceEqDiff, Nat.reduceAdd, ↓reduceIte, reduceCtorEq, d_slices_EqualFunc_api_Enum_api_Enum_api_Enum_api_Enum ]) | (simp (disch := omega) only [i64_id, u64_id, u8_id, getD_map'])))) | ((with_reducible refine And.intro ?_ ?_); · first | trivial | omega | (simp; done) | (simp; omega)) | (((with_reducible refine dwp_condA ?_ ?_ ?_); · rfl) <;> (refine Todo.of ?_)))) <;> (try (first | (with_reducible rfl) | exact Nat.le_refl _ | exact Int.le_refl _ | assumption | omega))
  refine dwp_each l (fun k (_ : Unit) => ⟨[(1, .sl (l.map cEn)), (2, .clo 47 []), (15, .sl (l.map cEn)), (16, .int .i64 l.length), (17, .int .i64 k)], []⟩) (fun _ _ _ => True) () (Nat.zero_le _) (by simp only [cut_some, List.map_cons, List.map_nil, get_cons, Nk.get_nil, Nat.reduceEqDiff, ↓reduceIte, Nat.succ_ne_self, DV.cut, DV.inB, List.take_nil, DV.inBL, reduceCtorEq] <;> rfl) trivial (fun k x r _ d hx _ _ => ?_) (fun k _ e _ => ?_)
  · have wk := wk_of d (by omega)
    have r1 := map_getD cEn hx
    have e1 := s_sEn_same (h2 x (List.mem_of_getElem? hx))
    (have hcondQ := Bool.and_self; refine Todo.of ?_); (repeat' (first | ((with_reducible refine Todo.to ?_); (repeat (first | (simp only [↓rP, rT, rU, dvalX, dval, dBin, dInt, dUn, dLoad, cellsAt, DV.immB, dCallP, viewVs, viewV, view1, viewL, noMemV, noMem, dStore, DV.one, cellsOf, setFrom, Nat.reduceEqDiff, Nat.reduceAdd, ↓reduceIte, reduceCtorEq, Nat.reduceLeDiff, forall_const, d, wk, r1, e1 ]) | (simp (disch := omega) only [i64_id, u64_id, u8_id, getD_map'])))) | ((with_reducible refine And.intro ?_ ?_); · first | trivial | omega | (simp; done) | (simp; omega)) | (((with_reducible refine dwp_condA ?_ ?_ ?_); · rfl) <;> (refine Todo.of ?_)))) <;> (try (first | (with_reducible rfl) | exact Nat.le_refl _ | exact Int.le_refl _ | assumption | omega))
    exact ⟨(), by simp only [cut_some, List.map_cons, List.map_nil, get_cons, Nk.get_nil, Nat.reduceEqDiff, ↓reduceIte, Nat.succ_ne_self, DV.cut, DV.inB, List.take_zero, DV.inBL, Int.natCast_add, Int.natCast_one] <;> rfl⟩
  · (have hcondQ := Bool.and_self; refine Todo.of ?_); (repeat' (first | ((with_reducible refine Todo.to ?_); (repeat (first | (simp only [↓rP, rT, rU, dvalX, dval, dBin, dInt, retV, DR.val, fzT, fzV, fz1, DV.immB, Nat.reduceEqDiff, ↓reduceIte, e ]) | (simp (disch := omega) only [i64_id, u64_id, u8_id, getD_map'])))) | ((with_reducible refine And.intro ?_ ?_); · first | trivial | omega | (simp; done) | (simp; omega)) | (((with_reducible refine dwp_condA ?_ ?_ ?_); · rfl) <;> (refine Todo.of ?_)))) <;> (try (first | (with_reducible rfl) | exact Nat.le_refl _ | exact Int.le_refl _ | assumption | omega))
def ks_fSls (l : List Slt) : Prop := l.length ≤ 1000000000 ∧ ∀ x ∈ l, x.ini.length ≤ 1000000000
noncomputable def s_fSls : List DV → Prop × DV := fun args => (∃ l : List Slt, args = [.sl (l.map cSlt), .sl (l.map cSlt), .clo 49 []] ∧ ks_fSls l, .bool true)
theorem s_fSls_same {l : List Slt} (h : ks_fSls l) : s_fSls [.sl (l.map cSlt), .sl (l.map cSlt), .clo 49 []] = (True, .bool true) := by
  unfold s_fSls
  exact congrArg (·, DV.bool true) (eq_true ⟨l, rfl, h⟩)
theorem ok_slices_EqualFunc_api_Slot_api_Slot_api_Slot_api_Slot : OkP Tryz.prog 48 s_fSls := by
  refine OkP.mk (ps := [(49, s_sSl)]) (hs := []) (n := 3) ⟨ok_image_sameSlot, trivial⟩ trivial m_slices_EqualFunc_api_Slot_api_Slot_api_Slot_api_Slot fun args hp => ?_
  obtain ⟨l, rfl, h1, h2⟩ := hp
  refine ⟨rfl, ?_⟩
  show dwp _ 0 _ (EndP _ (.bool true)) _
  
  (have hcondQ := Bool.and_self; refine Todo.of ?_); (repeat' (first | ((with_reducible refine Todo.to ?_); (repeat (first | (simp only [↓rP, rT, rU, dvalX, dval, frameFrom, dBin, dInt, Nat.reduceEqDiff, Nat.reduceAdd, ↓reduceIte, reduceCtorEq, d_slices_EqualFunc_api_Slot_api_Slot_api_Slot_api_Slot ]) | (simp (disch := omega) only [i64_id, u64_id, u8_id, getD_map'])))) | ((with_reducible refine And.intro ?_ ?_); · first | trivial | omega | (simp; done) | (simp; omega)) | (((with_reducible refine dwp_condA ?_ ?_ ?_); · rfl) <;> (refine Todo.of ?_)))) <;> (try (first | (with_reducible rfl) | exact Nat.le_refl _ | exact Int.le_refl _ | assumption | omega))
  refine dwp_each l (fun k (_ : Unit) => ⟨[(1, .sl (l.map cSlt)), (2, .clo 49 []), (15, .sl (l.map cSlt)), (16, .int .i64 l.length), (17, .int .i64 k)], []⟩) (fun _ _ _ => True) () (Nat.zero_le _) (by simp only [cut_some, List.map_cons, List.map_nil, get_cons, Nk.get_nil, Nat.reduceEqDiff, ↓reduceIte, Nat.succ_ne_self, DV.cut, DV.inB, List.take_nil, DV.inBL, reduceCtorEq] <;> rfl) trivial (fun k x r _ d hx _ _ => ?_) (fun k _ e _ => ?_)
  · have wk := wk_of d (by omega)
    have r1 := map_getD cSlt hx
    have e1 := s_sSl_same (h2 x (List.mem_of_getElem? hx))
    (have hcondQ := Bool.and_self; refine Todo.of ?_); (repeat' (first | ((with_reducible refine Todo.to ?_); (repeat (first | (simp only [↓rP, rT, rU, dvalX, dval, dBin, dInt, dUn, dLoad, cellsAt, DV.immB, dCallP, viewVs, viewV, view1, viewL, noMemV, noMem, dStore, DV.one, cellsOf, setFrom, Nat.reduceEqDiff, Nat.reduceAdd, ↓reduceIte, reduceCtorEq, Nat.reduceLeDiff, forall_const, d, wk, r1, e1 ]) | (simp (disch := omega) only [i64_id, u64_id, u8_id, getD_map'])))) | ((with_reducible refine And.intro ?_ ?_); · first | trivial | omega | (simp; done) | (simp; omega)) | (((with_reducible refine dwp_condA ?_ ?_ ?_); · rfl) <;> (refine Todo.of ?_)))) <;> (try (first | (with_reducible rfl) | exact Nat.le_refl _ | exact Int.le_refl _ | assumption | omega))
    exact ⟨(), by simp only [cut_some, List.map_cons, List.map_nil, get_cons, Nk.get_nil, Nat.reduceEqDiff, ↓reduceIte, Nat.succ_ne_self, DV.cut, DV.inB, List.take_zero, DV.inBL, Int.natCast_add, Int.natCast_one] <;> rfl⟩
  · (have hcondQ := Bool.and_self; refine Todo.of ?_); (repeat' (first | ((with_reducible refine Todo.to ?_); (repeat (first | (simp only [↓rP, rT, rU, dvalX, dval, dBin, dInt, retV, DR.val, fzT, fzV, fz1, DV.immB, Nat.reduceEqDiff, ↓reduceIte, e ]) | (simp (disch := omega) only [i64_id, u64_id, u8_id, getD_map'])))) | ((with_reducible refine And.intro ?_ ?_); · first | trivial | omega | (simp; done) | (simp; omega)) | (((with_reducible refine dwp_condA ?_ ?_ ?_); · rfl) <;> (refine Todo.of ?_)))) <;> (try (first | (with_reducible rfl) | exact Nat.le_refl _ | exact Int.le_refl _ | assumption | omega))
/-- Images that are not great. -/
structure okSm (x : Img) : Prop where
  en : ks_fEns x.en
  ins : x.ins.length ≤ 1000000000
  outs : x.outs.length ≤ 1000000000
  sl : ks_fSls x.slots
  loc : x.loc.length ≤ 1000000000
  code : x.code.length ≤ 1000000000
noncomputable def s_iSame : List DV → Prop × DV := specE eImg okSm
theorem s_iSame_same {x : Img} (h : okSm x) : s_iSame [.agg (cImg x), .agg (cImg x)] = (True, .bool true) := specE_at eImg h
theorem ok_image_Same : OkP Tryz.prog 16 s_iSame := by
  refine OkP.mkE (ps := [(45, s_pPrts), (46, s_fEns), (48, s_fSls), (50, s_pInt), (51, s_pIns)]) (hs := [])
    ⟨ok_slices_Equal_api_Port_api_Port, ok_slices_EqualFunc_api_Enum_api_Enum_api_Enum_api_Enum, ok_slices_EqualFunc_api_Slot_api_Slot_api_Slot_api_Slot, ok_slices_Equal_int_int, ok_slices_Equal_api_Instr_api_Instr, trivial⟩ trivial m_image_Same fun x h => ?_
  have e1 := s_fEns_same h.en
  have e2 := s_pPrts_same h.ins
  have e3 := s_pPrts_same h.outs
  have e4 := s_fSls_same h.sl
  have e5 := s_pInt_same h.loc
  have e6 := s_pIns_same h.code
  
  (have hcondQ := Bool.and_self; refine Todo.of ?_); (repeat' (first | ((with_reducible refine Todo.to ?_); (repeat (first | (simp only [↓rP, rT, rU, eA, dvalX, dval, dLoad, cellsAt, retV, DR.val, fzT, fzV, fz1, DV.immB, dCallP, viewVs, viewV, view1, capVL, noMemV, noMem, DV.one, alive, cellsOf, Nat.reduceEqDiff, Nat.reduceAdd, ↓reduceIte, reduceCtorEq, Nat.reduceLT, forall_const, d_image_Same, eImg, e1, e2, e3, e4, e5, e6 ]) | (simp (disch := omega) only [i64_id, u64_id, u8_id, getD_map'])))) | ((with_reducible refine And.intro ?_ ?_); · first | trivial | omega | (simp; done) | (simp; omega)) | (((with_reducible refine dwp_condA ?_ ?_ ?_); · rfl) <;> (refine Todo.of ?_)))) <;> (try (first | (with_reducible rfl) | exact Nat.le_refl _ | exact Int.le_refl _ | assumption | omega))
end Go.Proofs.YtfaailjhioobhaaGreat

/- The laws' example; images that are few; what is encoded. -/
set_option linter.all false
set_option maxRecDepth 20000
namespace Go.Proofs.YtfaailjhioobhaaGreat
open Go.Nk

noncomputable def s_num33 : List DV → Prop × DV := spec1 eI fun n => (True, .int .i64 n)
theorem s_num33_at (n : Int) : s_num33 [.int .i64 n] = (True, .int .i64 n) := spec1_at inj_I _ n
theorem ok_norialaw33_num : OkP Tryz.prog 15 s_num33 := by
  refine OkP.mk1 (ps := []) (hs := []) trivial trivial m_norialaw33_num fun n _ => ?_
  (have hcondQ := Bool.and_self; refine Todo.of ?_); (repeat' (first | ((with_reducible refine Todo.to ?_); (repeat (first | (simp only [↓rP, rT, eI, dvalX, dval, retV, DR.val, fzT, fzV, fz1, DV.immB, ↓reduceIte, reduceCtorEq, d_norialaw33_num ]) | (simp (disch := omega) only [i64_id, u64_id, u8_id, getD_map'])))) | ((with_reducible refine And.intro ?_ ?_); · first | trivial | omega | (simp; done) | (simp; omega)) | (((with_reducible refine dwp_condA ?_ ?_ ?_); · rfl) <;> (refine Todo.of ?_)))) <;> (try (first | (with_reducible rfl) | exact Nat.le_refl _ | exact Int.le_refl _ | assumption | omega))
theorem secs0 : encG img0 6 = some (body0.drop 4) := by decide
theorem enc_img0 : encF img0 = some (sealF body0) := by
  refine (encF_ok secs0 (by decide)).trans ?_
  rfl
theorem okEnc0 : okEnc img0 := by
  refine ⟨⟨?_, ?_, ?_, ?_, ?_, ?_⟩, by decide⟩
  all_goals first | (refine ⟨by decide, by decide, ?_⟩; intro p hp; cases hp; done) | (refine ⟨by decide, ?_⟩; intro p hp; cases hp; done)
theorem okSm0 : okSm img0 := by
  refine ⟨⟨by decide, ?_⟩, by decide, by decide, ⟨by decide, ?_⟩, by decide, by decide⟩
  all_goals (intro p hp; cases hp)
theorem dec0_img0 : dec0 (sealF body0) = 0 := by
  have l := sealF_len body0
  have lb : body0.length = 40 := rfl
  have e : (sealF body0).take 4 = magicB := by
    unfold sealF
    rw [List.take_append_of_le_length (by decide)]
    rfl
  unfold dec0
  rw [if_neg (by omega), if_neg (by simp only [not_or, Decidable.not_not]; exact ⟨by omega, e⟩), open_seal]
  rfl
noncomputable def s_live33 : List DV → Prop × DV := spec0 (True, .bool true)
theorem s_live33_at : s_live33 [] = (True, .bool true) := spec0_at _
theorem ok_norialaw33_live : OkP Tryz.prog 8 s_live33 := by
  refine OkP.mk0 (ps := [(9, s_Enc), (12, s_Dec0), (15, s_num33), (16, s_iSame)]) (hs := []) ⟨ok_image_Encode, ok_image_Decode, ok_norialaw33_num, ok_image_Same, trivial⟩ trivial m_norialaw33_live fun _ => ?_
  
  have l : (sealF body0).length = 44 := sealF_len body0
  have e1 := s_Enc_at img0
  rw [eq_true okEnc0, enc_img0] at e1
  have e2 := s_Dec0_at (sealF body0)
  rw [eq_true (show dec0 (sealF body0) ≠ 0 ∨ sealF body0 = sealF body0 from .inr rfl), dec0_img0] at e2
  have e3 := s_iSame_same okSm0
  have e4 := s_num33_at 0
  simp only [putV, Option.getD_some, Option.isSome_some] at e1
  have x1 : cImg img0 = [.sl [], .sl [], .sl [], .sl [], .sl [], .sl []] := rfl
  rw [x1] at e1 e2 e3
  have l2 : (bsl (sealF body0)).length = 44 := by rw [bsl_length, l]
  (have hcondQ := Bool.and_self; refine Todo.of ?_); (repeat' (first | ((with_reducible refine Todo.to ?_); (repeat (first | (simp only [↓rP, rT, rU, buildCells, dvalX, dval, dBin, dInt, dLoad, cellsAt, retV, DR.val, fzT, fzVs, fzV, fz1, DV.immB, dCallP, viewVs, viewV, view1, viewL, noMemV, noMem, dStore, DV.one, fzL, cellsOf, setFrom, Nat.reduceEqDiff, Nat.reduceAdd, ↓reduceIte, reduceCtorEq, Nat.reduceLeDiff, Nat.reduceLT, forall_const, d_norialaw33_live, e1, e2, e3, e4, l2 , hcondQ]) | (simp (disch := omega) only [i64_id, u64_id, u8_id, getD_map'])))) | ((with_reducible refine And.intro ?_ ?_); · first | trivial | omega | (simp; done) | (simp; omega)) | (((with_reducible refine dwp_condA ?_ ?_ ?_); · rfl) <;> (refine Todo.of ?_)))) <;> (try (first | (with_reducible rfl) | exact Nat.le_refl _ | exact Int.le_refl _ | assumption | omega))
end Go.Proofs.YtfaailjhioobhaaGreat

/- ImageEncodes. -/
set_option linter.all false
set_option maxRecDepth 20000
namespace Go.Proofs.YtfaailjhioobhaaGreat
open Go.Nk

/-- What an image's numbers are. -/
structure okRd (x : Img) : Prop where
  len : okLen x
  ins : ∀ p ∈ x.ins, ok3 p.ty
  outs : ∀ p ∈ x.outs, ok3 p.ty
  slots : ∀ s ∈ x.slots, ok3 s.ty ∧ ∀ n ∈ s.ini, okI64 n
  loc : ∀ k ∈ x.loc, okI64 k
  code : ∀ i ∈ x.code, ok64 i
theorem sum_le {α : Type} (f : α → Nat) (c : Nat) : ∀ (l : List α), (∀ x ∈ l, f x ≤ c) → (l.map f).sum ≤ c * l.length
  | [], _ => by simp
  | x :: l, h => by
    have h1 := sum_le f c l fun y hy => h y (List.mem_cons_of_mem _ hy)
    have h2 := h x List.mem_cons_self
    simp only [List.map_cons, List.sum_cons, List.length_cons, Nat.mul_succ]
    omega
theorem few_enc {x : Img} (h : fewF x = true) (hr : okRd x) : okEnc x ∧ okSm x := by
  simp only [fewF, Bool.and_eq_true, decide_eq_true_eq, List.all_eq_true, smallF, smallE, smallC, fewP, fewS, List.mem_append] at h
  obtain ⟨⟨⟨⟨⟨⟨⟨hen, hen2⟩, h2⟩, h3⟩, h4⟩, h5⟩, h6⟩, h7⟩ := h
  have e1 : szEns x.en ≤ 1000000 := by
    have : (x.en.map szEn).sum ≤ 10000 * x.en.length := sum_le _ _ _ fun e he => by
      have h := hen2 e he
      have h8 : szCt e.ct ≤ 500 * e.ct.length := sum_le _ _ _ fun c hc => by
        have := h.2 c hc
        omega
      unfold szEn
      omega
    unfold szEns
    omega
  have e2 : ∀ l : List Prt, (∀ p ∈ l, p.name.length ≤ 200) → szPrts l ≤ 300 * l.length + 4 := fun l hl => by
    have : (l.map szPrt).sum ≤ 300 * l.length := sum_le _ _ _ fun e he => by
      have h := hl e he
      unfold szPrt
      omega
    unfold szPrts
    omega
  have e3 := e2 x.ins fun p hp => h6 p (.inl hp)
  have e4 := e2 x.outs fun p hp => h6 p (.inr hp)
  have e5 : szSlts x.slots ≤ 1000000 := by
    have : (x.slots.map szSlt).sum ≤ 4500 * x.slots.length := sum_le _ _ _ fun e he => by
      have h := h7 e he
      unfold szSlt
      omega
    unfold szSlts
    omega
  refine ⟨⟨⟨⟨by omega, by omega, fun e he => ?_⟩, ⟨by omega, by omega, hr.ins⟩, ⟨by omega, by omega, hr.outs⟩, ⟨by omega, by omega, fun s hs => ⟨(hr.slots s hs).1, ?_, (hr.slots s hs).2⟩⟩, ⟨by omega, by omega, hr.loc⟩, ⟨by omega, hr.code⟩⟩, by omega⟩, ⟨⟨by omega, fun e he => ?_⟩, by omega, by omega, ⟨by omega, fun s hs => ?_⟩, by omega, by omega⟩⟩
  · have := hen2 e he; omega
  · have := h7 s hs; omega
  · have := hen2 e he; omega
  · have := h7 s hs; omega
end Go.Proofs.YtfaailjhioobhaaGreat

/- ImageTorn; every argument. -/
set_option linter.all false
set_option maxRecDepth 20000
namespace Go.Proofs.YtfaailjhioobhaaGreat
open Go.Nk

noncomputable def s_law33T : List DV → Prop × DV := spec3 eImg eI eW32 fun x a turn => (okRd x ∧ -9223372036854775808 ≤ a ∧ a < 9223372036854775808, .bool true)
theorem s_law33T_at (x : Img) (a : Int) (turn : BitVec 32) : s_law33T [.agg (cImg x), .int .i64 a, .int .u32 (turn.toNat : Int)] = (okRd x ∧ -9223372036854775808 ≤ a ∧ a < 9223372036854775808, .bool true) := spec3_at inj_Img inj_I inj_W32 _ x a turn
theorem s_Dec0_no {c : List UInt8} (h : openF c = none) (hl : c.length ≤ 131072) : ∃ e : Int, (e = 11 ∨ e = 12) ∧ s_Dec0 [.sl (bsl c)] = (True, .tup [.agg (cImg img0), .int .i64 e]) := by
  have h1 : dec0 c = 11 ∨ dec0 c = 12 := by
    unfold dec0
    rw [if_neg (by omega), h]
    split
    · exact .inl rfl
    · exact .inr rfl
  refine ⟨dec0 c, h1, ?_⟩
  rw [s_Dec0_at, eq_true (show dec0 c ≠ 0 ∨ c = sealF body0 from .inl (by omega))]
theorem enc_seal {x : Img} {b : List UInt8} (h : encF x = some b) : ∃ p, b = sealF p ∧ b.length ≤ 131072 := by
  unfold encF at h
  split at h
  · cases h
  split at h
  · cases h; exact ⟨_, rfl, by omega⟩
  · cases h
set_option maxRecDepth 20000 in
set_option maxHeartbeats 2000000 in
theorem ok_norialaw33_ImageTorn : OkP Tryz.prog 6 s_law33T := by
  refine OkP.mk3 (ps := [(7, s_Few), (8, s_live33), (9, s_Enc), (12, s_Dec0), (15, s_num33)]) (hs := []) ⟨ok_noriaref33_Few, ok_norialaw33_live, ok_image_Encode, ok_image_Decode, ok_norialaw33_num, trivial⟩ trivial m_norialaw33_ImageTorn fun x a turn h => ?_
  try dsimp only at h
  obtain ⟨h, ha1, ha2⟩ := h
  have f1 := s_Few_at x
  rw [eq_true h.len] at f1
  have l1 := s_live33_at
  cases c : fewF x
  · rw [c] at f1
    obtain ⟨en, ins, outs, slots, loc, code⟩ := x
    simp only [cImg] at f1
    (have hcondQ := Bool.and_self; refine Todo.of ?_); (repeat' (first | ((with_reducible refine Todo.to ?_); (repeat (first | (simp only [↓rP, rT, rU, eI, eA, dvalX, dval, dUn, dLoad, cellsAt, retV, DR.val, fzT, fzV, fz1, DV.immB, dCallP, viewVs, viewV, view1, viewL, noMemV, noMem, DV.one, cellsOf, Nat.reduceEqDiff, Nat.reduceAdd, ↓reduceIte, reduceCtorEq, Nat.reduceLeDiff, forall_const, d_norialaw33_ImageTorn, eImg, eW32, f1, l1 ]) | (simp (disch := omega) only [i64_id, u64_id, u8_id, getD_map'])))) | ((with_reducible refine And.intro ?_ ?_); · first | trivial | omega | (simp; done) | (simp; omega)) | (((with_reducible refine dwp_condA ?_ ?_ ?_); · rfl) <;> (refine Todo.of ?_)))) <;> (try (first | (with_reducible rfl) | exact Nat.le_refl _ | exact Int.le_refl _ | assumption | omega))
  rw [c] at f1
  have e1 := s_Enc_at x
  rw [eq_true (few_enc c h).1] at e1
  cases e : encF x with
  | none =>
    rw [e] at e1
    simp only [putV, Option.getD_none, Option.isSome_none] at e1
    obtain ⟨en, ins, outs, slots, loc, code⟩ := x
    simp only [cImg] at f1 e1
    (have hcondQ := Bool.and_self; refine Todo.of ?_); (repeat' (first | ((with_reducible refine Todo.to ?_); (repeat (first | (simp only [↓rP, rT, rU, eI, eA, dvalX, dval, dUn, dLoad, cellsAt, retV, DR.val, fzT, fzVs, fzV, fz1, DV.immB, dCallP, viewVs, viewV, view1, viewL, noMemV, noMem, DV.one, fzL, cellsOf, Nat.reduceEqDiff, Nat.reduceAdd, ↓reduceIte, reduceCtorEq, Nat.reduceLeDiff, Nat.reduceLT, forall_const, d_norialaw33_ImageTorn, eImg, eW32, f1, e1, l1 , hcondQ]) | (simp (disch := omega) only [i64_id, u64_id, u8_id, getD_map'])))) | ((with_reducible refine And.intro ?_ ?_); · first | trivial | omega | (simp; done) | (simp; omega)) | (((with_reducible refine dwp_condA ?_ ?_ ?_); · rfl) <;> (refine Todo.of ?_)))) <;> (try (first | (with_reducible rfl) | exact Nat.le_refl _ | exact Int.le_refl _ | assumption | omega))
  | some b =>
    rw [e] at e1
    simp only [putV, Option.getD_some, Option.isSome_some] at e1
    obtain ⟨p, hp, hb⟩ := enc_seal e
    have l2 := sealF_len p
    rw [← hp] at l2
    have os := open_seal p
    rw [← hp] at os
    clear hp
    obtain ⟨en, ins, outs, slots, loc, code⟩ := x
    simp only [cImg] at f1 e1
    obtain ⟨N, hN⟩ : ∃ N : Int, N = 8 * (b.length : Int) := ⟨_, rfl⟩
    obtain ⟨M, hM⟩ : ∃ M : Int, M = N - 32 := ⟨_, rfl⟩
    have w8 : IntKind.i64.wrap (8 * (b.length : Int)) = N := by rw [wrap_i64_id (by omega)]; omega
    have w9 : IntKind.i64.wrap (N - 32) = M := by rw [wrap_i64_id (by omega)]; omega
    by_cases d3 : turn = 0#32
    · have d3' : ((turn.toNat : Int) == 0) = true := by rw [d3]; rfl
      (have hcondQ := Bool.and_self; refine Todo.of ?_); (repeat' (first | ((with_reducible refine Todo.to ?_); (repeat (first | (simp only [↓rP, rT, rU, eI, eA, dvalX, dval, dBin, dInt, dUn, dLoad, cellsAt, retV, DR.val, fzT, fzVs, fzV, fz1, DV.immB, dCallP, viewVs, viewV, view1, viewL, noMemV, noMem, DV.one, fzL, cellsOf, Nat.reduceEqDiff, Nat.reduceAdd, ↓reduceIte, reduceCtorEq, Nat.reduceLeDiff, Nat.reduceLT, forall_const, d_norialaw33_ImageTorn, eImg, eW32, f1, e1, l1, d3' , hcondQ]) | (simp (disch := omega) only [i64_id, u64_id, u8_id, getD_map'])))) | ((with_reducible refine And.intro ?_ ?_); · first | trivial | omega | (simp; done) | (simp; omega)) | (((with_reducible refine dwp_condA ?_ ?_ ?_); · rfl) <;> (refine Todo.of ?_)))) <;> (try (first | (with_reducible rfl) | exact Nat.le_refl _ | exact Int.le_refl _ | assumption | omega))
    have d3' : ((turn.toNat : Int) == 0) = false := by
      simp only [beq_eq_false_iff_ne]
      intro h0
      exact d3 (BitVec.eq_of_toNat_eq (by simp; omega))
    by_cases d1 : a < 0
    · (have hcondQ := Bool.and_self; refine Todo.of ?_); (repeat' (first | ((with_reducible refine Todo.to ?_); (repeat (first | (simp only [↓rP, rT, rU, eI, eA, dvalX, dval, dBin, dInt, dUn, dLoad, cellsAt, retV, DR.val, fzT, fzVs, fzV, fz1, DV.immB, dCallP, viewVs, viewV, view1, viewL, noMemV, noMem, DV.one, fzL, cellsOf, Nat.reduceEqDiff, Nat.reduceAdd, ↓reduceIte, reduceCtorEq, Nat.reduceLeDiff, Nat.reduceLT, forall_const, d_norialaw33_ImageTorn, eImg, eW32, f1, e1, l1, d3', d1 , hcondQ]) | (simp (disch := omega) only [i64_id, u64_id, u8_id, getD_map'])))) | ((with_reducible refine And.intro ?_ ?_); · first | trivial | omega | (simp; done) | (simp; omega)) | (((with_reducible refine dwp_condA ?_ ?_ ?_); · rfl) <;> (refine Todo.of ?_)))) <;> (try (first | (with_reducible rfl) | exact Nat.le_refl _ | exact Int.le_refl _ | assumption | omega))
    by_cases d2 : M < a
    · (have hcondQ := Bool.and_self; refine Todo.of ?_); (repeat' (first | ((with_reducible refine Todo.to ?_); (repeat (first | (simp only [↓rP, rT, rU, eI, eA, dvalX, dval, dBin, dInt, dUn, dLoad, cellsAt, retV, DR.val, fzT, fzVs, fzV, fz1, DV.immB, dCallP, viewVs, viewV, view1, viewL, noMemV, noMem, DV.one, fzL, cellsOf, Nat.reduceEqDiff, Nat.reduceAdd, ↓reduceIte, reduceCtorEq, Nat.reduceLeDiff, Nat.reduceLT, forall_const, d_norialaw33_ImageTorn, eImg, eW32, f1, e1, l1, d3', d1, w8, w9, d2 , hcondQ]) | (simp (disch := omega) only [i64_id, u64_id, u8_id, getD_map'])))) | ((with_reducible refine And.intro ?_ ?_); · first | trivial | omega | (simp; done) | (simp; omega)) | (((with_reducible refine dwp_condA ?_ ?_ ?_); · rfl) <;> (refine Todo.of ?_)))) <;> (try (first | (with_reducible rfl) | exact Nat.le_refl _ | exact Int.le_refl _ | assumption | omega))
    obtain ⟨A, rfl⟩ : ∃ A : Nat, a = (A : Int) := ⟨a.toNat, by omega⟩
    have k5 : b.length ≤ 4294967296 := by omega
    (have hcondQ := Bool.and_self; refine Todo.of ?_); (repeat' (first | ((with_reducible refine Todo.to ?_); (repeat (first | (simp only [↓rP, rT, rU, eI, eA, dvalX, dval, dBin, dInt, dUn, dLoad, cellsAt, fzVs, fzV, fz1, DV.immB, dCallP, viewVs, viewV, view1, viewL, noMemV, noMem, elemsOf, dAppend, DV.one, fzLL, fzL, cellsOf, lenMax, Nat.reduceEqDiff, Nat.reduceAdd, ↓reduceIte, reduceCtorEq, Nat.reduceLeDiff, Nat.reduceLT, forall_const, d_norialaw33_ImageTorn, eImg, eW32, bsl_rowsT, f1, e1, d3', d1, w8, w9, d2, k5, hcondQ]) | (simp (disch := omega) only [i64_id, u64_id, u8_id, getD_map'])))) | ((with_reducible refine And.intro ?_ ?_); · first | trivial | omega | (simp; done) | (simp; omega)) | (((with_reducible refine dwp_condA ?_ ?_ ?_); · rfl) <;> (refine Todo.of ?_)))) <;> (try (first | (with_reducible rfl) | exact Nat.le_refl _ | exact Int.le_refl _ | assumption | omega))
    refine dwp_loop (fun i : Nat => ⟨[(1, .int .i64 A), (2, .int .u32 (turn.toNat : Int)), (9, .own 1 b.length 0 b.length), (10, .int .i64 i)], [⟨.loc, 6, [[.sl (en.map cEn), .sl (ins.map cPrt), .sl (outs.map cPrt), .sl (slots.map cSlt), .sl (ils loc), .sl (code.map cIn4)]]⟩, ⟨.imm, 1, bsl (flips b A turn i)⟩]⟩) (fun i => i ≤ 32) (fun i => 32 - i) 0 (Nat.zero_le _) (by simp only [cut_some, List.map_cons, List.map_nil, get_cons, Nk.get_nil, Nat.reduceEqDiff, ↓reduceIte, Nat.succ_ne_self, DV.cut, DV.inB, DObj.cut, List.take_nil, reduceCtorEq, decide_true, Nat.reduceLT, List.take_succ_cons]; rfl) (Nat.zero_le _) fun i hi => ?_
    have lf := flips_len b A turn i
    by_cases di : i < 32
    · have w1 : IntKind.i64.wrap ((i : Int) + 1) = ((i + 1 : Nat) : Int) := by rw [wrap_i64_id (by omega)]; omega
      have i0 : (0 : Int) ≤ i := Int.natCast_nonneg i
      have wu : IntKind.u64.wrap (i : Int) = i := wrap_u64_id (by omega)
      have sh := n_shrI turn i di
      have ab := and_bit turn i
      cases hb : turn.getLsbD i
      · have fe : flips b A turn (i + 1) = flips b A turn i := by simp [flips, hb]
        rw [hb] at ab
        (have hcondQ := Bool.and_self; refine Todo.of ?_); (repeat' (first | ((with_reducible refine Todo.to ?_); (repeat (first | (simp only [↓rP, rT, rU, dvalX, dval, dBin, dInt, IntKind.bits, Nat.reduceEqDiff, ↓reduceIte, Int.reduceEq, i0, w1, wu, sh, n_rem2, ab , hcondQ]) | (simp (disch := omega) only [i64_id, u64_id, u8_id, getD_map'])))) | ((with_reducible refine And.intro ?_ ?_); · first | trivial | omega | (simp; done) | (simp; omega)) | ((first | ((with_reducible refine dwp_condI (t := ?_) ?_ (fun hcQ => ?_) (fun hcQ => ?_)); rotate_left; · rfl) | ((with_reducible refine dops_guardI (t := ?_) ?_ (fun hcQ => ?_) (fun hcQ => ?_)); rotate_left; · rfl)) <;> (have hn := hcQ; have hcondQ := hcQ) <;> (try simp only [decide_eq_true_eq, decide_eq_false_iff_not] at hn) <;> (try (exfalso; omega)) <;> (refine Todo.of ?_)) | (((with_reducible refine dwp_condA ?_ ?_ ?_); · rfl) <;> (refine Todo.of ?_)))) <;> (try (first | (with_reducible rfl) | exact Nat.le_refl _ | exact Int.le_refl _ | assumption | omega))
        refine ⟨i + 1, ?_, by omega, by omega⟩
        simp only [cut_some, List.map_cons, List.map_nil, get_cons, Nk.get_nil, Nat.reduceEqDiff, ↓reduceIte, Nat.succ_ne_self, DV.cut, DV.inB, DObj.cut, List.take_nil, reduceCtorEq, decide_true, Nat.reduceLT, List.take_succ_cons, fe]
      · have fe : flips b A turn (i + 1) = flipAt (flips b A turn i) (A + i) := by simp [flips, hb]
        rw [hb] at ab
        generalize flips b A turn i = f at *
        have wa : IntKind.i64.wrap ((A : Int) + (i : Int)) = ((A + i : Nat) : Int) := by rw [wrap_i64_id (by omega)]; omega
        have wq : IntKind.i64.wrap (Int.tdiv ((A + i : Nat) : Int) 8) = (((A + i) / 8 : Nat) : Int) := by rw [Int.tdiv_eq_ediv_of_nonneg (by omega), wrap_i64_id (by omega)]; omega
        have wr : Int.tmod ((A + i : Nat) : Int) 8 = (((A + i) % 8 : Nat) : Int) := by rw [Int.tmod_eq_emod_of_nonneg (by omega)]; omega
        have wu2 : IntKind.u64.wrap (((A + i) % 8 : Nat) : Int) = (((A + i) % 8 : Nat) : Int) := wrap_u64_id (by omega)
        have r0 : (0 : Int) ≤ (((A + i) % 8 : Nat) : Int) := by omega
        have hp : (A + i) / 8 < f.length := by omega
        have q0 : (0 : Int) ≤ (((A + i) / 8 : Nat) : Int) := by omega
        have q1 : (((A + i) / 8 : Nat) : Int) < (b.length : Int) := by omega
        have bg : (bsl f).getD ((A + i) / 8) [] = [.int .u8 ((f.getD ((A + i) / 8) 0).toNat : Int)] := bsl_getD hp
        have nf := n_flip (f.getD ((A + i) / 8) 0) ((A + i) % 8) (by omega)
        have bs := bsl_set f ((A + i) / 8) (flipB (f.getD ((A + i) / 8) 0) ((A + i) % 8))
        have hl2 : (bsl f).length = b.length := by rw [bsl_length, lf]
        have hp2 : (A + i) / 8 < b.length := by omega
        (have hcondQ := Bool.and_self; refine Todo.of ?_); (repeat' (first | ((with_reducible refine Todo.to ?_); (repeat (first | (simp only [↓rP, rT, rU, dvalX, dval, dBin, dInt, dLoad, cellsAt, fz1, DV.immB, IntKind.bits, dStore, fzL, cellsOf, setFrom, Nat.reduceEqDiff, ↓reduceIte, reduceCtorEq, Nat.reduceLeDiff, Int.reduceEq, i0, w1, wu, sh, n_rem2, ab, wa, wq, wr, wu2, r0, q0, q1, bg, nf, bs, lf, hp2 , hcondQ]) | (simp (disch := omega) only [i64_id, u64_id, u8_id, getD_map'])))) | ((with_reducible refine And.intro ?_ ?_); · first | trivial | omega | (simp; done) | (simp; omega)) | ((first | ((with_reducible refine dwp_condI (t := ?_) ?_ (fun hcQ => ?_) (fun hcQ => ?_)); rotate_left; · rfl) | ((with_reducible refine dops_guardI (t := ?_) ?_ (fun hcQ => ?_) (fun hcQ => ?_)); rotate_left; · rfl)) <;> (have hn := hcQ; have hcondQ := hcQ) <;> (try simp only [decide_eq_true_eq, decide_eq_false_iff_not] at hn) <;> (try (exfalso; omega)) <;> (refine Todo.of ?_)) | (((with_reducible refine dwp_condA ?_ ?_ ?_); · rfl) <;> (refine Todo.of ?_)))) <;> (try (first | (with_reducible rfl) | exact Nat.le_refl _ | exact Int.le_refl _ | assumption | omega))
        refine ⟨i + 1, ?_, by omega, by omega⟩
        simp only [cut_some, List.map_cons, List.map_nil, get_cons, Nk.get_nil, Nat.reduceEqDiff, ↓reduceIte, Nat.succ_ne_self, DV.cut, DV.inB, DObj.cut, List.take_nil, reduceCtorEq, decide_true, Nat.reduceLT, List.take_succ_cons, fe, flipAt]
    · have : i = 32 := by omega
      subst this
      have bt := burst_told os A turn (by omega) d3
      have lt : (bsl (flips b A turn 32)).take b.length = bsl (flips b A turn 32) := List.take_of_length_le (by rw [bsl_length, lf]; exact Nat.le_refl _)
      obtain ⟨E, hE, e2⟩ := s_Dec0_no bt (by omega)
      have n1 := s_num33_at E
      rcases hE with rfl | rfl
      · simp only [cImg] at e2
        (have hcondQ := Bool.and_self; refine Todo.of ?_); (repeat' (first | ((with_reducible refine Todo.to ?_); (repeat (first | (simp only [↓rP, rT, rU, dvalX, dval, dBin, dInt, retV, DR.val, fzT, fzVs, fzV, fz1, DV.immB, dCallP, viewVs, viewV, view1, noMemV, noMem, elemsOf, dStore, DV.one, freezeAt, cellsOf, setFrom, Nat.reduceEqDiff, Nat.reduceAdd, ↓reduceIte, reduceCtorEq, Nat.reduceSub, Nat.reduceLeDiff, Nat.reduceLT, forall_const, lf, lt, e2, n1, l1 , hcondQ]) | (simp (disch := omega) only [i64_id, u64_id, u8_id, getD_map'])))) | ((with_reducible refine And.intro ?_ ?_); · first | trivial | omega | (simp; done) | (simp; omega)) | (((with_reducible refine dwp_condA ?_ ?_ ?_); · rfl) <;> (refine Todo.of ?_)))) <;> (try (first | (with_reducible rfl) | exact Nat.le_refl _ | exact Int.le_refl _ | assumption | omega))
      · simp only [cImg] at e2
        (have hcondQ := Bool.and_self; refine Todo.of ?_); (repeat' (first | ((with_reducible refine Todo.to ?_); (repeat (first | (simp only [↓rP, rT, rU, dvalX, dval, dBin, dInt, retV, DR.val, fzT, fzVs, fzV, fz1, DV.immB, dCallP, viewVs, viewV, view1, noMemV, noMem, elemsOf, dStore, DV.one, freezeAt, cellsOf, setFrom, Nat.reduceEqDiff, Nat.reduceAdd, ↓reduceIte, reduceCtorEq, Nat.reduceSub, Nat.reduceLeDiff, Nat.reduceLT, Int.reduceBEq, forall_const, lf, lt, e2, n1, l1 , hcondQ]) | (simp (disch := omega) only [i64_id, u64_id, u8_id, getD_map'])))) | ((with_reducible refine And.intro ?_ ?_); · first | trivial | omega | (simp; done) | (simp; omega)) | (((with_reducible refine dwp_condA ?_ ?_ ?_); · rfl) <;> (refine Todo.of ?_)))) <;> (try (first | (with_reducible rfl) | exact Nat.le_refl _ | exact Int.le_refl _ | assumption | omega))
theorem reads_Ss : Reads (.slice .str) (fun l : List (List UInt8) => [.sl (sls l)]) (fun _ => True) :=
  Reads.as (Reads.slice Reads.str) (fun l => l) (fun _ => rfl) (fun _ _ => trivial)
theorem reads_Is3 : Reads (.slice (.int .i64)) (fun l : List Int => [.sl (ils l)]) (fun l => ∀ n ∈ l, okI64 n) :=
  Reads.as (Reads.slice Reads.int) (fun l => l) (fun _ => rfl) (fun _ h => h.2)
theorem reads_En : Reads (.struct [.str, .slice .str]) cEn (fun _ => True) :=
  Reads.as (Reads.struct (Reads.cons Reads.str (Reads.cons reads_Ss Reads.nil))) (fun x => ⟨x.1, x.2.1⟩) (fun _ => rfl) (fun _ _ => trivial)
@[reducible] def shTy : Sh := .struct [.int .i64, .int .i64, .int .i64]
theorem reads_Ty3 : Reads shTy cTy ok3 :=
  Reads.as (Reads.struct (Reads.cons Reads.int (Reads.cons Reads.int (Reads.cons Reads.int Reads.nil)))) (fun x => ⟨x.1, x.2.1, x.2.2.1⟩) (fun _ => rfl) (fun _ h => ⟨h.1, h.2.1, h.2.2.1⟩)
theorem reads_Prt3 : Reads (.struct [.str, shTy]) cPrt (fun p => ok3 p.ty) :=
  Reads.as (Reads.struct (Reads.cons Reads.str (Reads.cons reads_Ty3 Reads.nil))) (fun x => ⟨x.1, x.2.1⟩) (fun _ => rfl) (fun _ h => h.2.1)
theorem reads_Slt3 : Reads (.struct [.str, shTy, .int .i64, .slice (.int .i64)]) cSlt (fun s => ok3 s.ty ∧ ∀ n ∈ s.ini, okI64 n) :=
  Reads.as (Reads.struct (Reads.cons Reads.str (Reads.cons reads_Ty3 (Reads.cons Reads.int (Reads.cons reads_Is3 Reads.nil))))) (fun x => ⟨x.1, x.2.1, x.2.2.1, x.2.2.2.1⟩) (fun _ => rfl) (fun _ h => ⟨h.2.1, h.2.2.2.1⟩)
theorem reads_In43 : Reads (.struct [.int .i64, .int .i64, .int .i64, .int .i64]) cIn4 ok64 :=
  Reads.as (Reads.struct (Reads.cons Reads.int (Reads.cons Reads.int (Reads.cons Reads.int (Reads.cons Reads.int Reads.nil))))) (fun x => ⟨x.1, x.2.1, x.2.2.1, x.2.2.2.1⟩) (fun _ => rfl) (fun _ h => ⟨h.2.1, h.2.2.1, h.2.2.2.1⟩)
@[reducible] def shImg : Sh := .struct [.slice (.struct [.str, .slice .str]), .slice (.struct [.str, shTy]), .slice (.struct [.str, shTy]), .slice (.struct [.str, shTy, .int .i64, .slice (.int .i64)]), .slice (.int .i64), .slice (.struct [.int .i64, .int .i64, .int .i64, .int .i64])]
theorem reads_Img3 : Reads shImg cImg okRd :=
  Reads.as (Reads.struct (Reads.cons (Reads.slice reads_En) (Reads.cons (Reads.slice reads_Prt3) (Reads.cons (Reads.slice reads_Prt3) (Reads.cons (Reads.slice reads_Slt3) (Reads.cons reads_Is3 (Reads.cons (Reads.slice reads_In43) Reads.nil)))))))
    (fun x => ⟨x.1, x.2.1, x.2.2.1, x.2.2.2.1, x.2.2.2.2.1, x.2.2.2.2.2.1⟩) (fun _ => rfl) (fun x h => by
      have h1 := h.2.1.1
      have h2 := h.2.2.1.1
      simp only [capLen] at h1 h2
      exact ⟨⟨by simp only; omega, by simp only; omega⟩, h.2.1.2, h.2.2.1.2, h.2.2.2.1.2, h.2.2.2.2.1, h.2.2.2.2.2.1.2⟩)
theorem imageTorn_tells (dvs : List DV) (h : HasAll Tryz.prog [28, 3, 44] dvs) : TellsP Tryz.prog 6 dvs (.bool true) := by
  obtain ⟨d1, r, rfl, h1, d2, r2, rfl, h2, d3, r3, rfl, h3, rfl⟩ := h
  obtain ⟨x, rfl, hx⟩ := HasV_agg (by kernel_rfl) reads_Img3 h1
  obtain ⟨a, ha, hla⟩ := HasV_one (by kernel_rfl) rfl Reads.int h2
  obtain ⟨t, ht, _⟩ := HasV_one (by kernel_rfl) rfl reads_u32 h3
  injection ha with ha
  injection ht with ht
  subst ha ht
  have e := s_law33T_at x a t
  have := (ok_norialaw33_ImageTorn _ (by rw [e]; exact ⟨hx, hla⟩)).2
  rw [e] at this
  exact this
end Go.Proofs.YtfaailjhioobhaaGreat

