/- Slices of slices and of texts; bytes to a text. -/
import Derived.Test.YtjgefhgkinocmaaGreatNkE
set_option linter.all false
namespace Go.Nk
open Go.RowKit

section
variable {P : Program} {K F : Nat → Prop} {σ : Nat → Option Nat} {hp : List DObj} {w : World} {fr : List (Nat × DV)} {a : Act} {o : Oper}

theorem r_bound {k : IntKind} {n : Int} {y : Nat} {code : BoundsCode} (h0 : 0 ≤ n) (h1 : n ≤ y) : (Instr.sliceBound (.int k n) y code).run P w = .ok n.toNat w := by
  simp [Instr.sliceBound, asIntOf, h0, h1]

theorem mOpt_rep (hf : FRep F σ hp w fr a.tmps) {x : Option Operand} {d : Option DA} (h : mOpt x d = true) :
    (x = none ∧ d = none) ∨ ∃ y e, x = some y ∧ d = some e ∧ VRep F σ hp w (e.ev fr) (a.eval y) := by
  unfold mOpt at h
  split at h
  · exact .inl ⟨rfl, rfl⟩
  · rename_i y e; exact .inr ⟨y, e, rfl, rfl, mArg_rep hf h⟩
  · cases h

/-- A bound, as the data level has it and as the operation gets it. -/
def BoundAs (x : Option Value) (d : Option DV) (dflt n : Int) : Prop := (x = none ∧ d = none ∧ n = dflt) ∨ ∃ k e, x = some (.int k n) ∧ d = some e

theorem bound_as (hf : FRep F σ hp w fr a.tmps) {x : Option Operand} {d : Option DA} (h : mOpt x d = true) {dflt : Int} (hb : (dBound (d.map (·.ev fr)) dflt).1) :
    BoundAs (x.map a.eval) (d.map (·.ev fr)) dflt (dBound (d.map (·.ev fr)) dflt).2 := by
  rcases mOpt_rep hf h with ⟨rfl, rfl⟩ | ⟨y, e, rfl, rfl, hv⟩
  · exact .inl ⟨rfl, rfl, rfl⟩
  · simp only [Option.map_some] at hb ⊢
    generalize e.ev fr = de at *
    cases de <;> simp only [dBound] at hb ⊢
    case int k n => exact .inr ⟨k, _, by rw [hv.int_inv], rfl⟩
    all_goals exact hb.elim

theorem r_bounds {isS : Bool} {len cap : Nat} {lo hi mx : Option Value} {dl dh dm : Option DV} {l h m : Int} (hlo : BoundAs lo dl 0 l) (hhi : BoundAs hi dh len h) (hmx : BoundAs mx dm h m)
    (hsome : dm.isSome = true → dh.isSome = true) (h0 : 0 ≤ l) (h1 : l ≤ h) (h2 : h ≤ m) (h3 : m ≤ cap) :
    ∃ M : Nat, (Instr.sliceBounds isS len cap lo hi mx).run P w = .ok (l.toNat, h.toNat, M) w ∧ h.toNat ≤ M ∧ M ≤ cap := by
  rcases hmx with ⟨rfl, rfl, rfl⟩ | ⟨km, em, rfl, rfl⟩
  · refine ⟨cap, ?_, by omega, Nat.le_refl _⟩
    rcases hhi with ⟨rfl, rfl, rfl⟩ | ⟨kh, eh, rfl, rfl⟩
    · rcases hlo with ⟨rfl, rfl, rfl⟩ | ⟨kl, el, rfl, rfl⟩
      · simp [Instr.sliceBounds]
      · simp [Instr.sliceBounds, r_bound h0 h1]
    · rcases hlo with ⟨rfl, rfl, rfl⟩ | ⟨kl, el, rfl, rfl⟩
      · simp [Instr.sliceBounds, r_bound (show 0 ≤ m by omega) h3]
      · have e : l ≤ (m.toNat : Int) := by omega
        simp [Instr.sliceBounds, r_bound (show 0 ≤ m by omega) h3, r_bound h0 e]
  · refine ⟨m.toNat, ?_, by omega, by omega⟩
    rcases hhi with ⟨rfl, rfl, rfl⟩ | ⟨kh, eh, rfl, rfl⟩
    · simp at hsome
    · have e1 : h ≤ (m.toNat : Int) := by omega
      rcases hlo with ⟨rfl, rfl, rfl⟩ | ⟨kl, el, rfl, rfl⟩
      · simp [Instr.sliceBounds, r_bound (show 0 ≤ m by omega) h3, r_bound (show 0 ≤ h by omega) e1]
      · have e : l ≤ (h.toNat : Int) := by omega
        simp [Instr.sliceBounds, r_bound (show 0 ≤ m by omega) h3, r_bound (show 0 ≤ h by omega) e1, r_bound h0 e]

theorem extract_mk (s : List UInt8) (l h : Nat) : (⟨s.toArray⟩ : ByteArray).extract l h = ⟨((s.take h).drop l).toArray⟩ := by
  apply ByteArray.ext
  rw [ByteArray.data_extract]
  apply Array.ext'
  simp [List.drop_take]

theorem q_sliceS {t : TypeId} {x : Operand} {x' : DA} {lo hi mx : Option Operand} {lo' hi' : Option DA} (ho : o.op = .slice t x lo hi mx) (ht : P.underlying t = some .string) (hmx : mx = none) (hf : FRep F σ hp w fr a.tmps) (hx : mArg x x' = true)
    (hlo : mOpt lo lo' = true) (hhi : mOpt hi hi' = true) (h : (dSliceS (x'.ev fr) (lo'.map (·.ev fr)) (hi'.map (·.ev fr))).1) :
    Quick P F σ hp w o a (dSliceS (x'.ev fr) (lo'.map (·.ev fr)) (hi'.map (·.ev fr))).2 := by
  subst hmx
  have hv := mArg_rep hf hx
  generalize x'.ev fr = dx at *
  unfold dSliceS at h ⊢
  split at h
  · rename_i s
    obtain ⟨hl, hh, h0, h1, h2⟩ := h
    have e1 := hv.str_inv
    obtain ⟨M, hM, _, _⟩ := r_bounds (P := P) (w := w) (isS := false) (cap := s.length) (bound_as hf hlo hl) (bound_as hf hhi hh) (.inl ⟨rfl, (rfl : (none : Option DV) = none), rfl⟩) (by simp) h0 h1 (Int.le_refl _) h2
    have hsz : (⟨s.toArray⟩ : ByteArray).size = s.length := rfl
    refine ⟨_, ?_, .imm (.str _)⟩
    simp only [execOp, ho, Instr.sliceAt, Sem.run_bind, run_under ht, Result.andThen_ok, Instr.slice, e1, Option.map_none, Option.isSome_none, Bool.false_eq_true, if_false, hsz]
    rw [hM]
    simp [extract_mk]
  · exact h.elim

theorem q_slice {t e : TypeId} {i : TypeInfo} {x : Operand} {x' : DA} {lo hi mx : Option Operand} {lo' hi' mx' : Option DA} (ho : o.op = .slice t x lo hi mx) (ht : P.underlying t = some (.slice e)) (hinf : P.info? e = some i)
    (hf : FRep F σ hp w fr a.tmps) (hx : mArg x x' = true) (hlo : mOpt lo lo' = true) (hhi : mOpt hi hi' = true) (hmx : mOpt mx mx' = true)
    (h : (dSlice hp i.size (x'.ev fr) (lo'.map (·.ev fr)) (hi'.map (·.ev fr)) (mx'.map (·.ev fr))).1) :
    Quick P F σ hp w o a (dSlice hp i.size (x'.ev fr) (lo'.map (·.ev fr)) (hi'.map (·.ev fr)) (mx'.map (·.ev fr))).2 := by
  have hv := mArg_rep hf hx
  have run : ∀ {A : Option Addr} {len cap l h m M : Nat}, a.eval x = .slice A len cap → (Instr.sliceBounds true len cap (lo.map a.eval) (hi.map a.eval) (mx.map a.eval)).run P w = .ok (l, h, M) w →
      (execOp a.eval o).run P w = .ok (.value (.slice (if M = l then A else A.map (·.add (l * i.size))) (h - l) (M - l))) w := by
    intro A len cap l h m M e1 hb
    simp only [execOp, ho, Instr.sliceAt, Sem.run_bind, run_under ht, Result.andThen_ok, Instr.slice, e1]
    rw [hb]
    simp [sizeOf, typeInfo, hinf]
  generalize x'.ev fr = dx at *
  unfold dSlice at h ⊢
  split at h
  · rename_i es
    dsimp only at h ⊢
    obtain ⟨hz, hl, hh, hm, hsome, h0, h1, h2, h3⟩ := h
    obtain ⟨A, c, z, e1, hlc, hA, hzz⟩ := hv.sl_inv.sl_inv
    obtain ⟨M, hM, hM1, hM2⟩ := r_bounds (P := P) (w := w) (isS := true) (cap := c) (bound_as hf hlo hl) (bound_as hf hhi hh) (bound_as hf hmx hm) hsome h0 h1 h2 (by omega)
    generalize (dBound (lo'.map (·.ev fr)) 0).2 = l at *
    generalize (dBound (hi'.map (·.ev fr)) (es.length : Int)).2 = hh' at *
    refine ⟨_, run (m := 0) e1 hM, .imm ?_⟩
    have hlen : ((es.take hh'.toNat).drop l.toNat).length = hh'.toNat - l.toNat := by simp; omega
    have hc1 : ((es.take hh'.toNat).drop l.toNat).length ≤ M - l.toNat := by rw [hlen]; omega
    rw [← hlen]
    refine IRep.sl_mk (z := z) hc1 (fun i e he => ?_) (fun hne => ?_)
    · rw [List.getElem?_drop, List.getElem?_take] at he
      split at he
      · exact hzz _ _ he
      · cases he
    · have hpos : 0 < hh'.toNat - l.toNat := by rw [← hlen]; exact List.length_pos_iff.2 hne
      have hes : es ≠ [] := by
        intro e'
        subst e'
        simp at hne
      obtain ⟨b, rfl, hb1, hb2, hb3⟩ := hA hes
      have hzi : z = i.size := by
        obtain ⟨e0, he0⟩ := List.exists_mem_of_ne_nil es hes
        obtain ⟨k0, hk0, rfl⟩ := List.getElem_of_mem he0
        rw [← hzz k0 _ (List.getElem?_eq_getElem hk0)]; exact hz _ he0
      rw [if_neg (by omega)]
      have hadd := add_none hb1 (l.toNat * i.size)
      refine ⟨_, rfl, by dsimp only; rw [hadd], by dsimp only; rw [hadd]; exact hb2, fun j k d hd => ?_⟩
      have hd' : cellAt es (l.toNat + j) k = some d := by
        unfold cellAt at hd ⊢
        rw [List.getElem?_drop, List.getElem?_take] at hd
        split at hd
        · exact hd
        · simp at hd
      obtain ⟨u, hu, h1'⟩ := hb3 _ _ _ hd'
      refine ⟨u, ?_, h1'⟩
      dsimp only
      rw [hadd, ← hzi, ← hu]
      congr 2
      dsimp only
      rw [Nat.add_mul]; omega
  · rename_i h' L off len
    dsimp only at h ⊢
    obtain ⟨hl, hh, hm, hsome, h0, h1, h2, h3, hob⟩ := h
    obtain ⟨hlt, hov⟩ := hv.own_inv
    cases hhp : hp[h']? with
    | none => simp [hhp] at hob
    | some ob =>
      simp only [hhp] at hob
      obtain ⟨hk, hz, hL⟩ := hob
      obtain ⟨A, cap, e1, hle, hA⟩ := (hov ob hhp).2 hk hL
      obtain ⟨M, hM, hM1, hM2⟩ := r_bounds (P := P) (w := w) (isS := true) (cap := cap) (bound_as hf hlo hl) (bound_as hf hhi hh) (bound_as hf hmx hm) hsome h0 h1 h2 (by omega)
      refine ⟨_, run (m := 0) e1 hM, .own _ _ _ _ _ rfl hlt fun o' ho' => ?_⟩
      rw [hhp] at ho'; injection ho' with ho'; subst ho'
      refine ⟨by omega, fun _ _ => ⟨_, _, rfl, by omega, ?_⟩⟩
      rcases hA with hA | ⟨g, hg, rfl, hcap⟩
      · left; omega
      · by_cases hMl : M = (dBound (lo'.map (·.ev fr)) 0).2.toNat
        · left; omega
        · right
          refine ⟨g, hg, ?_, ?_⟩
          · rw [if_neg hMl, ← hz]
            simp [add_none, Nat.add_mul]
          · refine Nat.le_trans (Nat.mul_le_mul_right _ ?_) hcap
            omega
  · obtain ⟨hl, hh, hm, hsome, h0, h1, h2⟩ := h
    have e1 := hv.nil_inv
    obtain ⟨M, hM, hM1, hM2⟩ := r_bounds (P := P) (w := w) (isS := true) (len := 0) (cap := 0) (bound_as hf hlo hl) (bound_as hf hhi hh) (h := (dBound (hi'.map (·.ev fr)) 0).2) (m := (dBound (mx'.map (·.ev fr)) 0).2)
      (by rw [h1]; exact bound_as hf hmx hm) hsome (by omega) (by omega) (by omega) (by omega)
    refine ⟨_, run (m := 0) e1 hM, ?_⟩
    rw [h0, h1]
    have : M = 0 := by omega
    subst this
    simp
    exact .imm .nil
  · exact h.elim

theorem q_b2s {s t e : TypeId} {x : Operand} {A : Option Addr} {c : Nat} {es : List (List DV)} (ho : o.op = .convert s t x) (hs : P.underlying s = some (.slice e)) (he : P.underlying e = some (.int .u8)) (ht : P.underlying t = some .string)
    (hx : a.eval x = .slice A es.length c) (hb : ∀ e ∈ es, ∃ n, e = [.int .u8 n]) (hA : es ≠ [] → ∃ b, A = some b ∧ b.spot = none ∧ ∀ i j d, cellAt es i j = some d → ∃ u, w.cell? ⟨b.block, b.off + (i * 1 + j), none⟩ = some u ∧ IRep F w d u) (hsp : ∀ b, A = some b → es = [] → True) :
    Quick P F σ hp w o a (.str (es.map fun e => match e with | [.int _ n] => UInt8.ofNat n.toNat | _ => 0)) := by
  refine ⟨_, ?_, .imm (.str _)⟩
  have key : (convert s t (.slice A es.length c)).run P w = .ok (.string ⟨(es.map fun e => match e with | [.int _ n] => UInt8.ofNat n.toNat | _ => 0).toArray⟩) w := by
    by_cases hne : es = []
    · subst hne
      cases A with
      | none => rw [run_convert_bytes_nil w s e hs he _ _ t ht]; rfl
      | some b =>
        rw [run_convert_bytes_string w s t e _ _ _ hs he ht]
        exact run_bytesToString w b 0 c [] (by simp [loadCells, loadCellsFrom])
    · obtain ⟨b, rfl, hb1, hc⟩ := hA hne
      let f : List DV → Int := fun e => match e with | [.int _ n] => n | _ => 0
      have hcell := run_convert_bytes_arg (P := P) w s e hs he b.block b.off es.length c (es.map f) (by simp) (fun i hi => by
        obtain ⟨n, hn⟩ := hb es[i] (by simp)
        obtain ⟨u, hu, hr⟩ := hc i 0 (.int .u8 n) (by simp [cellAt, hi, hn])
        cases hr
        simp only [Nat.mul_one, Nat.add_zero] at hu
        rw [hu]
        simp [List.getD, hi, hn, f]) t ht
      have hbb : (⟨b.block, b.off, none⟩ : Addr) = b := by cases b; simp at hb1; subst hb1; rfl
      rw [hbb] at hcell
      rw [hcell]
      congr 2
      apply ByteArray.ext
      apply Array.ext'
      rw [strOfNums_data]
      simp only [List.map_map]
      refine List.map_congr_left fun e he => ?_
      obtain ⟨n, rfl⟩ := hb e he
      rfl
  simp only [execOp, ho, hx, Sem.run_bind, key, Result.andThen_ok]
  rfl
end
end Go.Nk
