/- Sections that the reference writes. -/
import Derived.Test.YtfaailjhioobhaaGreatImE
import Derived.Test.YtfaailjhioobhaaGreatInK
set_option linter.all false
set_option maxRecDepth 20000
namespace Go.Proofs.YtfaailjhioobhaaGreat
open Go.Nk

end Go.Proofs.YtfaailjhioobhaaGreat

/- Ports, slots, locals that the reference writes. -/
set_option linter.all false
set_option maxRecDepth 20000
namespace Go.Proofs.YtfaailjhioobhaaGreat
open Go.Nk

end Go.Proofs.YtfaailjhioobhaaGreat

/- Slots that the reference writes. -/
set_option linter.all false
set_option maxRecDepth 20000
namespace Go.Proofs.YtfaailjhioobhaaGreat
open Go.Nk

end Go.Proofs.YtfaailjhioobhaaGreat

/- A section's bytes, by the program. -/
set_option linter.all false
set_option maxRecDepth 20000
namespace Go.Proofs.YtfaailjhioobhaaGreat
open Go.Nk

def st2o (s : SW) : Option (List UInt8) := if s.ok then some s.b else none
def secO (x : Img) (i : Int) : Option (List UInt8) :=
  if i = 1 then st2o (stEns x.en ⟨[], true⟩) else if i = 2 then st2o (stPrts x.ins ⟨[], true⟩) else if i = 3 then st2o (stPrts x.outs ⟨[], true⟩)
  else if i = 4 then st2o (stSlts x.slots ⟨[], true⟩) else if i = 5 then st2o (stLocs x.loc ⟨[], true⟩) else putI x.code
structure okIm (x : Img) : Prop where
  en : szEns x.en ≤ 4294967000 ∧ x.en.length ≤ 1000000000 ∧ ∀ e ∈ x.en, e.ct.length ≤ 1000000000
  ins : szPrts x.ins ≤ 4294967000 ∧ x.ins.length ≤ 1000000000 ∧ ∀ p ∈ x.ins, ok3 p.ty
  outs : szPrts x.outs ≤ 4294967000 ∧ x.outs.length ≤ 1000000000 ∧ ∀ p ∈ x.outs, ok3 p.ty
  slots : szSlts x.slots ≤ 4294967000 ∧ x.slots.length ≤ 1000000000 ∧ ∀ p ∈ x.slots, ok3 p.ty ∧ p.ini.length ≤ 1000000000 ∧ ∀ n ∈ p.ini, okI64 n
  loc : 4 * x.loc.length ≤ 4294967000 ∧ x.loc.length ≤ 1000000000 ∧ ∀ k ∈ x.loc, okI64 k
  code : okIns x.code
/-- A writer that went well has written. -/
def NE (s : SW) : Prop := s.ok = true → s.b ≠ []
theorem nxW_NE {s : SW} {f : List UInt8 → WS} (hf : ∀ b b', f b = some b' → b' ≠ []) : NE (nxW s f) := by
  intro q
  unfold nxW at q ⊢
  split at q
  · rename_i e
    rw [if_pos e]
    split at q
    · rename_i b' e'
      exact hf _ _ e'
    · cases q
  · rename_i e; exact absurd q e
theorem wNum_ne {b b' : List UInt8} {k z : Int} (h : wNum b k z = some b') : b' ≠ [] := by
  unfold wNum at h
  split at h
  · cases h
  · rename_i c
    simp only [not_or] at c
    injection h with h
    subst h
    intro e
    have := congrArg List.length e
    simp only [List.length_append, putL_length, List.length_nil] at this
    omega
theorem wLen_ne {b c b' : List UInt8} {z : Int} (h : wLen b c z = some b') : b' ≠ [] := by
  unfold wLen at h
  cases e : wNum b c.length z with
  | none => rw [e] at h; cases h
  | some b1 =>
    rw [e] at h
    injection h with h
    subst h
    have := wNum_ne e
    simp [this]
theorem stNum_NE (k z : Int) (s : SW) : NE (stNum k z s) := nxW_NE fun _ _ h => wNum_ne h
theorem stInt_NE (x : Int) (s : SW) : NE (stInt x s) := nxW_NE fun _ _ h => wLen_ne h
theorem stText_NE (c : List UInt8) (s : SW) : NE (stText c s) := nxW_NE fun _ _ h => wLen_ne h
theorem foldl_NE {α β : Type} {g : β → SW} {f : β → α → β} (hf : ∀ s x, NE (g (f s x)) ∨ g (f s x) = g s) : ∀ (l : List α) (s : β), NE (g s) → NE (g (l.foldl f s))
  | [], _, h => h
  | x :: l, s, h => foldl_NE hf l (f s x) ((hf s x).elim id fun e => e ▸ h)
theorem stCt_NE (l : List (List UInt8)) (s : SW) (h : NE s) : NE (stCt l s) := foldl_NE (g := id) (fun s c => .inl (stText_NE c s)) l s h
theorem stInts_NE (l : List Int) (s : SW) (h : NE s) : NE (stInts l s) := foldl_NE (g := id) (fun s c => .inl (stInt_NE c s)) l s h
theorem stEns_NE (l : List En) (s : SW) : NE (stEns l s) := foldl_NE (g := id) (fun _ _ => .inl (stCt_NE _ _ (stNum_NE _ _ _))) l _ (stNum_NE _ _ _)
theorem stPrts_NE (l : List Prt) (s : SW) : NE (stPrts l s) := foldl_NE (g := id) (fun _ _ => .inl (stNum_NE _ _ _)) l _ (stNum_NE _ _ _)
theorem stLocs_NE (l : List Int) (s : SW) : NE (stLocs l s) := foldl_NE (g := id) (fun _ _ => .inl (stNum_NE _ _ _)) l _ (stNum_NE _ _ _)
theorem stSlts_NE (l : List Slt) (s : SW) : NE (stSlts l s) := foldl_NE (g := Prod.fst) (fun s x => .inl (by
  unfold stSlt
  simp only
  split
  · exact stInts_NE _ _ (stNum_NE _ _ _)
  · exact stNum_NE _ _ _)) l _ (stNum_NE _ _ _)
theorem foldl_len {α β : Type} {g : β → SW} {f : β → α → β} {z : α → Nat} (hf : ∀ s x, (g (f s x)).b.length ≤ (g s).b.length + z x) : ∀ (l : List α) (s : β), (g (l.foldl f s)).b.length ≤ (g s).b.length + (l.map z).sum
  | [], s => by simp
  | x :: l, s => by
    have h1 := foldl_len hf l (f s x)
    have h2 := hf s x
    simp only [List.foldl_cons, List.map_cons, List.sum_cons]
    omega
theorem stEns_len (l : List En) : (stEns l ⟨[], true⟩).b.length ≤ szEns l := by
  have h1 := foldl_len (g := id) (f := stEn) (z := szEn) (fun s x => stEn_len s x) l (stNum l.length 1 ⟨[], true⟩)
  have h2 := stNum_len l.length 1 ⟨[], true⟩
  simp only [id, List.length_nil] at h1 h2
  unfold stEns szEns
  omega
theorem stPrts_len (l : List Prt) : (stPrts l ⟨[], true⟩).b.length ≤ szPrts l := by
  have h1 := foldl_len (g := id) (f := stPrt) (z := szPrt) (fun s x => stPrt_len s x) l (stNum l.length 1 ⟨[], true⟩)
  have h2 := stNum_len l.length 1 ⟨[], true⟩
  simp only [id, List.length_nil] at h1 h2
  unfold stPrts szPrts
  omega
theorem stSlts_len (l : List Slt) : (stSlts l ⟨[], true⟩).b.length ≤ szSlts l := by
  have h1 := foldl_len (g := Prod.fst) (f := stSlt) (z := szSlt) (fun s x => stSlt_len s x) l (stNum l.length 1 ⟨[], true⟩, 0)
  have h2 := stNum_len l.length 1 ⟨[], true⟩
  simp only [List.length_nil] at h1 h2
  unfold stSlts szSlts
  omega
theorem sum_const (c : Nat) {α : Type} (l : List α) : (l.map fun _ => c).sum = c * l.length := by
  induction l with
  | nil => rfl
  | cons x l ih => simp only [List.map_cons, List.sum_cons, List.length_cons, ih, Nat.mul_succ]; omega
theorem stLocs_len (l : List Int) : (stLocs l ⟨[], true⟩).b.length ≤ 4 * l.length + 4 := by
  have h1 := foldl_len (g := id) (f := fun s n => stNum n 2 s) (z := fun _ => 4) (fun s x => stNum_len x 2 s) l (stNum l.length 2 ⟨[], true⟩)
  have h2 := stNum_len l.length 2 ⟨[], true⟩
  rw [sum_const] at h1
  simp only [id, List.length_nil] at h1 h2
  unfold stLocs
  omega
end Go.Proofs.YtfaailjhioobhaaGreat

/- A section's bytes, by the program: the walk. -/
set_option linter.all false
set_option maxRecDepth 20000
namespace Go.Proofs.YtfaailjhioobhaaGreat
open Go.Nk

/-- The heap of section: the image, the writer, who holds it, its bytes. -/
def secH (x : Img) (s : SW) : List DObj := [⟨.loc, 6, [cImg x]⟩, ⟨.loc, 2, [rowW true 3 s]⟩, ⟨.loc, 1, [[.ptr 1 1 0 0]]⟩, ⟨.imm, 1, bsl s.b⟩]
theorem secH_hx (x : Img) (s s' : SW) : hx true (secH x s) 1 3 s' = secH x s' := rfl
theorem secH_is (x : Img) (b : List UInt8) : isW true (secH x ⟨b, true⟩) 1 3 (some b) := ⟨rfl, rfl, by decide⟩
theorem secH_2' (x : Img) (s : SW) : (secH x s)[2]? = some ⟨.loc, 1, [[.ptr 1 1 0 0]]⟩ := rfl
theorem secH_4 (x : Img) (s : SW) (o : DObj) (t : List DObj) : (secH x s ++ (o :: t))[4]? = some o := rfl
/-- The heap ahead of what is written. -/
abbrev secI (en : List En) (ins outs : List Prt) (slots : List Slt) (loc : List Int) (code : List In4) : List DObj := [⟨.loc, 6, [[.sl (en.map cEn), .sl (ins.map cPrt), .sl (outs.map cPrt), .sl (slots.map cSlt), .sl (ils loc), .sl (code.map cIn4)]]⟩, ⟨.loc, 2, [[.own 3 0 0 0, .bool true]]⟩, ⟨.loc, 1, [[.ptr 1 1 0 0]]⟩, ⟨.imm, 1, []⟩]
theorem secH_bytes {x : Img} {s : SW} (h : s.ok = true) (hn : s.b ≠ []) (hb : s.b.length ≤ 4294967296) : s_wBytes [.ptr 1 1 0 0] (secH x s) = ⟨True, .own 4 s.b.length 0 s.b.length, secH x s ++ [⟨.imm, 1, bsl s.b⟩]⟩ := by
  obtain ⟨b, ok⟩ := s
  simp only at h; subst h
  refine (s_wBytes_at (secH_is x b)).trans ?_
  rw [eq_true (show b ≠ [] ∧ b.length ≤ 4294967296 from ⟨hn, hb⟩)]; rfl
theorem secH_bytesN {x : Img} {s : SW} (h : s.ok = false) : s_wBytes [.ptr 1 1 0 0] (secH x s) = ⟨True, .nil, secH x s⟩ := by
  obtain ⟨b, ok⟩ := s
  simp only at h; subst h
  exact s_wBytes_bad rfl
theorem secH_ok {x : Img} {s : SW} (t : List DObj) : s_wOk [.ptr 1 1 0 0] (secH x s ++ t) = ⟨True, .bool s.ok, secH x s ++ t⟩ := by
  obtain ⟨b, ok⟩ := s
  cases ok
  · exact s_wOk_bad rfl
  · exact s_wOk_at (m := 3) (b := b) ⟨rfl, rfl, by decide⟩
noncomputable def s_sec : List DV → Prop × DV := spec2 eImg eI fun x i => (okIm x, putV (secO x i))
theorem s_sec_at (x : Img) (i : Int) : s_sec [.agg (cImg x), .int .i64 i] = (okIm x, putV (secO x i)) := spec2_at inj_Img inj_I _ x i
set_option maxHeartbeats 4000000 in
theorem ok_image_section : OkP Tryz.prog 19 s_sec := by
  refine OkP.mk2 (ps := [(56, s_IPut)]) (hs := [(18, s_wNew), (52, s_wEns), (53, s_wPrts), (54, s_wSlts), (55, s_wLocs), (24, s_wBytes), (57, s_wOk)]) ⟨ok_instr_Put, trivial⟩ ⟨ok_wNew, ok_image_writer_enums, ok_image_writer_ports, ok_image_writer_slots, ok_image_writer_locals, ok_wBytes, ok_wOk, trivial⟩ m_image_section fun x i h => ?_
  
  have hz : ∀ l : List In4, l.map cIn4 = l.map cIn := fun _ => rfl
  have fin : ∀ s : SW, NE s → s.b.length ≤ 4294967200 → (∀ K : DV, True) := fun _ _ _ _ => trivial
  have i1 := s_wEns_at x (secH_is x [])
  rw [eq_true (show [].length + szEns x.en ≤ 4294967000 ∧ x.en.length ≤ 1000000000 ∧ ∀ e ∈ x.en, e.ct.length ≤ 1000000000 by simpa using h.en), secH_hx] at i1
  have i2 := s_wPrts_at x.ins (secH_is x [])
  rw [eq_true (show [].length + szPrts x.ins ≤ 4294967000 ∧ x.ins.length ≤ 1000000000 ∧ ∀ p ∈ x.ins, ok3 p.ty by simpa using h.ins), secH_hx] at i2
  have i3 := s_wPrts_at x.outs (secH_is x [])
  rw [eq_true (show [].length + szPrts x.outs ≤ 4294967000 ∧ x.outs.length ≤ 1000000000 ∧ ∀ p ∈ x.outs, ok3 p.ty by simpa using h.outs), secH_hx] at i3
  have i4 := s_wSlts_at x (secH_is x [])
  rw [eq_true (show [].length + szSlts x.slots ≤ 4294967000 ∧ x.slots.length ≤ 1000000000 ∧ ∀ p ∈ x.slots, ok3 p.ty ∧ p.ini.length ≤ 1000000000 ∧ ∀ n ∈ p.ini, okI64 n by simpa using h.slots), secH_hx] at i4
  have i5 := s_wLocs_at x (secH_is x [])
  rw [eq_true (show [].length + 4 * x.loc.length ≤ 4294967000 ∧ x.loc.length ≤ 1000000000 ∧ ∀ k ∈ x.loc, okI64 k by simpa using h.loc), secH_hx] at i5
  have i6 := s_IPut_at x.code
  rw [eq_true h.code] at i6
  have ok' : ∀ (s : SW), s_wOk [.ptr 1 1 0 0] (secH x s) = ⟨True, .bool s.ok, secH x s⟩ := fun s => by have := secH_ok (x := x) (s := s) []; simpa using this
  have hkey : ∀ s : SW, NE s → s.b.length ≤ 4294967296 → putV (st2o s) = .tup [.sl (bsl (if s.ok then s.b else [])), .bool s.ok] := fun s _ _ => by
    obtain ⟨b, ok⟩ := s
    cases ok <;> rfl
  obtain ⟨en, ins, outs, slots, loc, code⟩ := x
  simp only [cImg] at i1 i2 i3 i4 i5 i6 ⊢
  have j1 : s_wEns [.agg [.ptr 1 1 0 0], .agg [.sl (en.map cEn), .sl (ins.map cPrt), .sl (outs.map cPrt), .sl (slots.map cSlt), .sl (ils loc), .sl (code.map cIn4)]] (secI en ins outs slots loc code) = ⟨True, .tup [], secH ⟨en, ins, outs, slots, loc, code⟩ (stEns en ⟨[], true⟩)⟩ := i1
  have j2 : s_wPrts [.agg [.ptr 1 1 0 0], .sl (ins.map cPrt)] (secI en ins outs slots loc code) = ⟨True, .tup [], secH ⟨en, ins, outs, slots, loc, code⟩ (stPrts ins ⟨[], true⟩)⟩ := i2
  have j3 : s_wPrts [.agg [.ptr 1 1 0 0], .sl (outs.map cPrt)] (secI en ins outs slots loc code) = ⟨True, .tup [], secH ⟨en, ins, outs, slots, loc, code⟩ (stPrts outs ⟨[], true⟩)⟩ := i3
  have j4 : s_wSlts [.agg [.ptr 1 1 0 0], .agg [.sl (en.map cEn), .sl (ins.map cPrt), .sl (outs.map cPrt), .sl (slots.map cSlt), .sl (ils loc), .sl (code.map cIn4)]] (secI en ins outs slots loc code) = ⟨True, .tup [], secH ⟨en, ins, outs, slots, loc, code⟩ (stSlts slots ⟨[], true⟩)⟩ := i4
  have j5 : s_wLocs [.agg [.ptr 1 1 0 0], .agg [.sl (en.map cEn), .sl (ins.map cPrt), .sl (outs.map cPrt), .sl (slots.map cSlt), .sl (ils loc), .sl (code.map cIn4)]] (secI en ins outs slots loc code) = ⟨True, .tup [], secH ⟨en, ins, outs, slots, loc, code⟩ (stLocs loc ⟨[], true⟩)⟩ := i5
  clear i1 i2 i3 i4 i5
  (have hcondQ := Bool.and_self; refine Todo.of ?_); (repeat' (first | ((with_reducible refine Todo.to ?_); (repeat (first | (simp only [↓rP, rT, rU, eI, eA, buildCells, dvalX, dval, dStore, DV.one, cellsOf, setFrom, DV.isU, Nat.reduceEqDiff, Nat.reduceAdd, ↓reduceIte, Nat.reduceLeDiff, forall_const, d_image_section, eImg, s_wNew_at ]) | (simp (disch := omega) only [i64_id, u64_id, u8_id, getD_map'])))) | ((with_reducible refine And.intro ?_ ?_); · first | trivial | omega | (simp; done) | (simp; omega)) | (((with_reducible refine dwp_condA ?_ ?_ ?_); · rfl) <;> (refine Todo.of ?_)))) <;> (try (first | (with_reducible rfl) | exact Nat.le_refl _ | exact Int.le_refl _ | assumption | omega))
  refine dwp_gown_grow ?_
  by_cases c1 : i = 1
  · subst c1
    simp only [secO, ↓reduceIte]
    have hN := stEns_NE en ⟨[], true⟩
    have hL : (stEns en ⟨[], true⟩).b.length ≤ 4294967296 := by have := stEns_len en; have := h.en.1; simp only at this; omega
    rw [hkey _ hN hL]
    generalize stEns en ⟨[], true⟩ = S at *
    cases e : S.ok
    · have eb := secH_bytesN (x := ⟨en, ins, outs, slots, loc, code⟩) e
      have eo := ok' S
      rw [e] at eo
      (have hcondQ := Bool.and_self; refine Todo.of ?_); (repeat' (first | ((with_reducible refine Todo.to ?_); (repeat (first | (simp only [↓rP, rT, rU, dvalX, dval, dBin, dInt, dLoad, cellsAt, retV, retL, DR.val, fzT, fzVs, fzV, fz1, DV.immB, alive, Nat.reduceEqDiff, Nat.reduceAdd, ↓reduceIte, reduceCtorEq, Nat.reduceLeDiff, j1, secH_2', eb, eo ]) | (simp (disch := omega) only [i64_id, u64_id, u8_id, getD_map'])))) | ((with_reducible refine And.intro ?_ ?_); · first | trivial | omega | (simp; done) | (simp; omega)) | (((with_reducible refine dwp_condA ?_ ?_ ?_); · rfl) <;> (refine Todo.of ?_)))) <;> (try (first | (with_reducible rfl) | exact Nat.le_refl _ | exact Int.le_refl _ | assumption | omega))
      all_goals first | rfl | skip
    · have eb := secH_bytes (x := ⟨en, ins, outs, slots, loc, code⟩) e (hN e) hL
      have eo := fun t => secH_ok (x := ⟨en, ins, outs, slots, loc, code⟩) (s := S) t
      rw [e] at eo
      (have hcondQ := Bool.and_self; refine Todo.of ?_); (repeat' (first | ((with_reducible refine Todo.to ?_); (repeat (first | (simp only [↓rP, rT, rU, dvalX, dval, dBin, dInt, dLoad, cellsAt, retV, retL, DR.val, fzT, fzVs, fzV, fz1, DV.immB, elemsOf, alive, freezeAt, Nat.reduceEqDiff, Nat.reduceAdd, ↓reduceIte, reduceCtorEq, Nat.reduceLeDiff, bsl_tk, j1, secH_2', secH_4, eb, eo ]) | (simp (disch := omega) only [i64_id, u64_id, u8_id, getD_map'])))) | ((with_reducible refine And.intro ?_ ?_); · first | trivial | omega | (simp; done) | (simp; omega)) | (((with_reducible refine dwp_condA ?_ ?_ ?_); · rfl) <;> (refine Todo.of ?_)))) <;> (try (first | (with_reducible rfl) | exact Nat.le_refl _ | exact Int.le_refl _ | assumption | omega))
      all_goals first | rfl | (rw [List.take_of_length_le (by rw [bsl_length]; exact Nat.le_refl _)]; done) | skip
  by_cases c2 : i = 2
  · subst c2
    simp only [secO, ↓reduceIte, Int.reduceEq]
    have hN := stPrts_NE ins ⟨[], true⟩
    have hL : (stPrts ins ⟨[], true⟩).b.length ≤ 4294967296 := by have := stPrts_len ins; have := h.ins.1; simp only at this; omega
    rw [hkey _ hN hL]
    generalize stPrts ins ⟨[], true⟩ = S at *
    cases e : S.ok
    · have eb := secH_bytesN (x := ⟨en, ins, outs, slots, loc, code⟩) e
      have eo := ok' S
      rw [e] at eo
      (have hcondQ := Bool.and_self; refine Todo.of ?_); (repeat' (first | ((with_reducible refine Todo.to ?_); (repeat (first | (simp only [↓rP, rT, rU, dvalX, dval, dBin, dInt, dLoad, cellsAt, retV, retL, DR.val, fzT, fzVs, fzV, fz1, DV.immB, alive, Nat.reduceEqDiff, Nat.reduceAdd, ↓reduceIte, reduceCtorEq, Nat.reduceLeDiff, Nat.reduceLT, Int.reduceBEq, j2, secH_2', eb, eo ]) | (simp (disch := omega) only [i64_id, u64_id, u8_id, getD_map'])))) | ((with_reducible refine And.intro ?_ ?_); · first | trivial | omega | (simp; done) | (simp; omega)) | (((with_reducible refine dwp_condA ?_ ?_ ?_); · rfl) <;> (refine Todo.of ?_)))) <;> (try (first | (with_reducible rfl) | exact Nat.le_refl _ | exact Int.le_refl _ | assumption | omega))
      all_goals first | rfl | skip
    · have eb := secH_bytes (x := ⟨en, ins, outs, slots, loc, code⟩) e (hN e) hL
      have eo := fun t => secH_ok (x := ⟨en, ins, outs, slots, loc, code⟩) (s := S) t
      rw [e] at eo
      (have hcondQ := Bool.and_self; refine Todo.of ?_); (repeat' (first | ((with_reducible refine Todo.to ?_); (repeat (first | (simp only [↓rP, rT, rU, dvalX, dval, dBin, dInt, dLoad, cellsAt, retV, retL, DR.val, fzT, fzVs, fzV, fz1, DV.immB, elemsOf, alive, freezeAt, Nat.reduceEqDiff, Nat.reduceAdd, ↓reduceIte, reduceCtorEq, Nat.reduceLeDiff, Nat.reduceLT, Int.reduceBEq, bsl_tk, j2, secH_2', secH_4, eb, eo ]) | (simp (disch := omega) only [i64_id, u64_id, u8_id, getD_map'])))) | ((with_reducible refine And.intro ?_ ?_); · first | trivial | omega | (simp; done) | (simp; omega)) | (((with_reducible refine dwp_condA ?_ ?_ ?_); · rfl) <;> (refine Todo.of ?_)))) <;> (try (first | (with_reducible rfl) | exact Nat.le_refl _ | exact Int.le_refl _ | assumption | omega))
      all_goals first | rfl | (rw [List.take_of_length_le (by rw [bsl_length]; exact Nat.le_refl _)]; done) | skip
  by_cases c3 : i = 3
  · subst c3
    simp only [secO, ↓reduceIte, Int.reduceEq]
    have hN := stPrts_NE outs ⟨[], true⟩
    have hL : (stPrts outs ⟨[], true⟩).b.length ≤ 4294967296 := by have := stPrts_len outs; have := h.outs.1; simp only at this; omega
    rw [hkey _ hN hL]
    generalize stPrts outs ⟨[], true⟩ = S at *
    cases e : S.ok
    · have eb := secH_bytesN (x := ⟨en, ins, outs, slots, loc, code⟩) e
      have eo := ok' S
      rw [e] at eo
      (have hcondQ := Bool.and_self; refine Todo.of ?_); (repeat' (first | ((with_reducible refine Todo.to ?_); (repeat (first | (simp only [↓rP, rT, rU, dvalX, dval, dBin, dInt, dLoad, cellsAt, retV, retL, DR.val, fzT, fzVs, fzV, fz1, DV.immB, alive, Nat.reduceEqDiff, Nat.reduceAdd, ↓reduceIte, reduceCtorEq, Nat.reduceLeDiff, Nat.reduceLT, Int.reduceBEq, j3, secH_2', eb, eo ]) | (simp (disch := omega) only [i64_id, u64_id, u8_id, getD_map'])))) | ((with_reducible refine And.intro ?_ ?_); · first | trivial | omega | (simp; done) | (simp; omega)) | (((with_reducible refine dwp_condA ?_ ?_ ?_); · rfl) <;> (refine Todo.of ?_)))) <;> (try (first | (with_reducible rfl) | exact Nat.le_refl _ | exact Int.le_refl _ | assumption | omega))
      all_goals first | rfl | skip
    · have eb := secH_bytes (x := ⟨en, ins, outs, slots, loc, code⟩) e (hN e) hL
      have eo := fun t => secH_ok (x := ⟨en, ins, outs, slots, loc, code⟩) (s := S) t
      rw [e] at eo
      (have hcondQ := Bool.and_self; refine Todo.of ?_); (repeat' (first | ((with_reducible refine Todo.to ?_); (repeat (first | (simp only [↓rP, rT, rU, dvalX, dval, dBin, dInt, dLoad, cellsAt, retV, retL, DR.val, fzT, fzVs, fzV, fz1, DV.immB, elemsOf, alive, freezeAt, Nat.reduceEqDiff, Nat.reduceAdd, ↓reduceIte, reduceCtorEq, Nat.reduceLeDiff, Nat.reduceLT, Int.reduceBEq, bsl_tk, j3, secH_2', secH_4, eb, eo ]) | (simp (disch := omega) only [i64_id, u64_id, u8_id, getD_map'])))) | ((with_reducible refine And.intro ?_ ?_); · first | trivial | omega | (simp; done) | (simp; omega)) | (((with_reducible refine dwp_condA ?_ ?_ ?_); · rfl) <;> (refine Todo.of ?_)))) <;> (try (first | (with_reducible rfl) | exact Nat.le_refl _ | exact Int.le_refl _ | assumption | omega))
      all_goals first | rfl | (rw [List.take_of_length_le (by rw [bsl_length]; exact Nat.le_refl _)]; done) | skip
  by_cases c4 : i = 4
  · subst c4
    simp only [secO, ↓reduceIte, Int.reduceEq]
    have hN := stSlts_NE slots ⟨[], true⟩
    have hL : (stSlts slots ⟨[], true⟩).b.length ≤ 4294967296 := by have := stSlts_len slots; have := h.slots.1; simp only at this; omega
    rw [hkey _ hN hL]
    generalize stSlts slots ⟨[], true⟩ = S at *
    cases e : S.ok
    · have eb := secH_bytesN (x := ⟨en, ins, outs, slots, loc, code⟩) e
      have eo := ok' S
      rw [e] at eo
      (have hcondQ := Bool.and_self; refine Todo.of ?_); (repeat' (first | ((with_reducible refine Todo.to ?_); (repeat (first | (simp only [↓rP, rT, rU, dvalX, dval, dBin, dInt, dLoad, cellsAt, retV, retL, DR.val, fzT, fzVs, fzV, fz1, DV.immB, alive, Nat.reduceEqDiff, Nat.reduceAdd, ↓reduceIte, reduceCtorEq, Nat.reduceLeDiff, Int.reduceBEq, j4, secH_2', eb, eo ]) | (simp (disch := omega) only [i64_id, u64_id, u8_id, getD_map'])))) | ((with_reducible refine And.intro ?_ ?_); · first | trivial | omega | (simp; done) | (simp; omega)) | (((with_reducible refine dwp_condA ?_ ?_ ?_); · rfl) <;> (refine Todo.of ?_)))) <;> (try (first | (with_reducible rfl) | exact Nat.le_refl _ | exact Int.le_refl _ | assumption | omega))
      all_goals first | rfl | skip
    · have eb := secH_bytes (x := ⟨en, ins, outs, slots, loc, code⟩) e (hN e) hL
      have eo := fun t => secH_ok (x := ⟨en, ins, outs, slots, loc, code⟩) (s := S) t
      rw [e] at eo
      (have hcondQ := Bool.and_self; refine Todo.of ?_); (repeat' (first | ((with_reducible refine Todo.to ?_); (repeat (first | (simp only [↓rP, rT, rU, dvalX, dval, dBin, dInt, dLoad, cellsAt, retV, retL, DR.val, fzT, fzVs, fzV, fz1, DV.immB, elemsOf, alive, freezeAt, Nat.reduceEqDiff, Nat.reduceAdd, ↓reduceIte, reduceCtorEq, Nat.reduceLeDiff, Int.reduceBEq, bsl_tk, j4, secH_2', secH_4, eb, eo ]) | (simp (disch := omega) only [i64_id, u64_id, u8_id, getD_map'])))) | ((with_reducible refine And.intro ?_ ?_); · first | trivial | omega | (simp; done) | (simp; omega)) | (((with_reducible refine dwp_condA ?_ ?_ ?_); · rfl) <;> (refine Todo.of ?_)))) <;> (try (first | (with_reducible rfl) | exact Nat.le_refl _ | exact Int.le_refl _ | assumption | omega))
      all_goals first | rfl | (rw [List.take_of_length_le (by rw [bsl_length]; exact Nat.le_refl _)]; done) | skip
  by_cases c5 : i = 5
  · subst c5
    simp only [secO, ↓reduceIte, Int.reduceEq]
    have hN := stLocs_NE loc ⟨[], true⟩
    have hL : (stLocs loc ⟨[], true⟩).b.length ≤ 4294967296 := by have := stLocs_len loc; have := h.loc.1; simp only at this; omega
    rw [hkey _ hN hL]
    generalize stLocs loc ⟨[], true⟩ = S at *
    cases e : S.ok
    · have eb := secH_bytesN (x := ⟨en, ins, outs, slots, loc, code⟩) e
      have eo := ok' S
      rw [e] at eo
      (have hcondQ := Bool.and_self; refine Todo.of ?_); (repeat' (first | ((with_reducible refine Todo.to ?_); (repeat (first | (simp only [↓rP, rT, rU, dvalX, dval, dBin, dInt, dLoad, cellsAt, retV, retL, DR.val, fzT, fzVs, fzV, fz1, DV.immB, alive, Nat.reduceEqDiff, Nat.reduceAdd, ↓reduceIte, reduceCtorEq, Nat.reduceLeDiff, Int.reduceBEq, j5, secH_2', eb, eo ]) | (simp (disch := omega) only [i64_id, u64_id, u8_id, getD_map'])))) | ((with_reducible refine And.intro ?_ ?_); · first | trivial | omega | (simp; done) | (simp; omega)) | (((with_reducible refine dwp_condA ?_ ?_ ?_); · rfl) <;> (refine Todo.of ?_)))) <;> (try (first | (with_reducible rfl) | exact Nat.le_refl _ | exact Int.le_refl _ | assumption | omega))
      all_goals first | rfl | skip
    · have eb := secH_bytes (x := ⟨en, ins, outs, slots, loc, code⟩) e (hN e) hL
      have eo := fun t => secH_ok (x := ⟨en, ins, outs, slots, loc, code⟩) (s := S) t
      rw [e] at eo
      (have hcondQ := Bool.and_self; refine Todo.of ?_); (repeat' (first | ((with_reducible refine Todo.to ?_); (repeat (first | (simp only [↓rP, rT, rU, dvalX, dval, dBin, dInt, dLoad, cellsAt, retV, retL, DR.val, fzT, fzVs, fzV, fz1, DV.immB, elemsOf, alive, freezeAt, Nat.reduceEqDiff, Nat.reduceAdd, ↓reduceIte, reduceCtorEq, Nat.reduceLeDiff, Int.reduceBEq, bsl_tk, j5, secH_2', secH_4, eb, eo ]) | (simp (disch := omega) only [i64_id, u64_id, u8_id, getD_map'])))) | ((with_reducible refine And.intro ?_ ?_); · first | trivial | omega | (simp; done) | (simp; omega)) | (((with_reducible refine dwp_condA ?_ ?_ ?_); · rfl) <;> (refine Todo.of ?_)))) <;> (try (first | (with_reducible rfl) | exact Nat.le_refl _ | exact Int.le_refl _ | assumption | omega))
      all_goals first | rfl | (rw [List.take_of_length_le (by rw [bsl_length]; exact Nat.le_refl _)]; done) | skip
  have e : secO ⟨en, ins, outs, slots, loc, code⟩ i = putI code := by simp [secO, c1, c2, c3, c4, c5]
  rw [e]
  (have hcondQ := Bool.and_self; refine Todo.of ?_); (repeat' (first | ((with_reducible refine Todo.to ?_); (repeat (first | (simp only [↓rP, rT, rU, dvalX, dval, dBin, dInt, dLoad, cellsAt, retV, retL, DR.val, fzT, fzVs, fzV, fz1, DV.immB, dCallP, viewVs, viewV, view1, noMemV, noMem, alive, Nat.reduceEqDiff, Nat.reduceAdd, ↓reduceIte, reduceCtorEq, Nat.reduceLT, i6, hz, putV , hcondQ]) | (simp (disch := omega) only [i64_id, u64_id, u8_id, getD_map'])))) | ((with_reducible refine And.intro ?_ ?_); · first | trivial | omega | (simp; done) | (simp; omega)) | ((first | ((with_reducible refine dwp_condI (t := ?_) ?_ (fun hcQ => ?_) (fun hcQ => ?_)); rotate_left; · rfl) | ((with_reducible refine dops_guardI (t := ?_) ?_ (fun hcQ => ?_) (fun hcQ => ?_)); rotate_left; · rfl)) <;> (have hn := hcQ; have hcondQ := hcQ) <;> (try simp only [beq_iff_eq, ne_eq, beq_eq_false_iff_ne] at hn) <;> (try (exfalso; omega)) <;> (refine Todo.of ?_)) | (((with_reducible refine dwp_condA ?_ ?_ ?_); · rfl) <;> (refine Todo.of ?_)))) <;> (try (first | (with_reducible rfl) | exact Nat.le_refl _ | exact Int.le_refl _ | assumption | omega))
end Go.Proofs.YtfaailjhioobhaaGreat

