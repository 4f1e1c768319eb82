/- sync.Once's Do with the maker of the table, as a function on the heap. -/
import Derived.Test.YtmdgjgnmbdmdgaaCrB
import Derived.Test.YtmdgjgnmbdmdgaaRaw
set_option linter.all false
set_option maxRecDepth 20000
namespace Go.Proofs.Ytmdgjgnmbdmdgaa
open Go.Nk Go.RowKit

theorem simH_drew [Inhabited Env] {K F : Nat → Prop} {σ : Nat → Option Nat} {hp : List DObj} {w : World} (hs : SimH K F σ hp w) : Gives K F σ hp w (.tup []) hp (.tuple #[]) w.drew := by
  obtain ⟨h1, h2⟩ := hs.turn (K' := K) (F' := F) (w' := w.drew) (Nat.le_refl _) (fun _ _ => rfl) (fun _ _ _ => rfl) (fun _ h => h) (fun _ h => .inl h) (fun _ h => .inl h) hs.fb hs.kb
  exact ⟨F, σ, h1, ⟨rfl, rfl, rfl, Nat.le_refl _, fun _ _ => rfl, fun _ _ => rfl, fun _ h => h, fun _ h => .inl h⟩, h2, .tup [] #[] rfl (fun _ => undef) (fun j d hd => by simp at hd) (fun j d hd => by simp at hd)⟩
theorem tup0 [Inhabited Env] {F : Nat → Prop} {σ : Nat → Option Nat} {hp : List DObj} {w : World} : VRep F σ hp w (.tup []) (.tuple #[]) := .tup [] #[] rfl (fun _ => undef) (fun j d hd => by simp at hd) (fun j d hd => by simp at hd)

def relD (x : Nat × Sm) (a : List DV) (hp : List DObj) : Prop := a = [.ptr x.1 1 0 0, .meth 18 [.ptr x.1 1 0 0]] ∧ hp[x.1]? = some (oS x.2)
theorem relD_u : ∀ x y a hp, relD x a hp → relD y a hp → x = y := by
  rintro ⟨n, s⟩ ⟨n', s'⟩ a hp ⟨rfl, h⟩ ⟨e, h'⟩
  simp only [List.cons.injEq, DV.ptr.injEq, and_true] at e
  obtain ⟨e, _⟩ := e
  subst e
  have := oS_inj (Option.some.inj (h.symm.trans h'))
  simp only at this
  rw [this]
def doneS (s : Sm) : Sm := if s.d = 0 then { s with d := 1, t := tab } else s
noncomputable def s_Do : List DV → List DObj → Res := specG relD (fun x => (x.2.t.length = 256 ∧ x.2.st = 0, .tup [])) (fun x hp => hp.set x.1 (oS (doneS x.2)))
theorem s_Do_at {hp : List DObj} {n : Nat} {s : Sm} (h : hp[n]? = some (oS s)) : s_Do [.ptr n 1 0 0, .meth 18 [.ptr n 1 0 0]] hp = ⟨s.t.length = 256 ∧ s.st = 0, .tup [], hp.set n (oS (doneS s))⟩ :=
  specG_at relD_u (x := (n, s)) ⟨rfl, h⟩

/-- A pointer at a cell of a Sum. -/
theorem sum_cell [Inhabited Env] {K F : Nat → Prop} {σ : Nat → Option Nat} {hp : List DObj} {w : World} (hs : SimH K F σ hp w) {n : Nat} {s : Sm} (h : hp[n]? = some (oS s)) :
    ∃ g, σ n = some g ∧ w.cell? ⟨g, 0, none⟩ = some (.int .u32 s.d) ∧ w.cell? ⟨g, 0 + 1, none⟩ = some (.int .i32 s.st) := by
  have old := hs.obj n _ h
  unfold ORep oS at old
  dsimp only at old
  obtain ⟨g, hg, nF, nK, c, ty, e1, e2, e3, e4⟩ := old
  have k : ∀ j d, (sumRow s.d s.st s.t s.r s.m)[j]? = some d → ∃ v, w.cell? ⟨g, j, none⟩ = some v ∧ VRep F σ hp w d v := fun j d hd => by
    obtain ⟨v, hv, hr⟩ := e4 0 j d (by simp [cellAt, hd])
    exact ⟨v, by simp only [Nat.zero_mul, Nat.zero_add] at hv; simp [World.cell?, e1, hv], hr⟩
  obtain ⟨v0, c0, r0⟩ := k 0 (.int .u32 s.d) rfl
  obtain ⟨v1, c1, r1⟩ := k 1 (.int .i32 s.st) rfl
  rw [r0.int_inv] at c0
  rw [r1.int_inv] at c1
  exact ⟨g, hg, c0, c1⟩

theorem s_fill_at {hp : List DObj} {n : Nat} {s : Sm} (h : hp[n]? = some (oS s)) : s_fill [.ptr n 1 0 0] hp = ⟨s.t.length = 256, .tup [], hp.set n (oS { s with t := tab })⟩ :=
  specG_at relS_u (x := (n, s)) ⟨rfl, h⟩
theorem ptr_of [Inhabited Env] {F : Nat → Prop} {σ : Nat → Option Nat} {hp : List DObj} {w : World} {n : Nat} {s : Sm} {v : Value} {g : Nat} (h : hp[n]? = some (oS s)) (hg : σ n = some g) (hv : VRep F σ hp w (.ptr n 1 0 0) v) : v = .pointer (some ⟨g, 0, none⟩) := by
  obtain ⟨_, hx⟩ := hv.ptr_inv
  obtain ⟨_, hx⟩ := hx _ h
  obtain ⟨g', hg', e⟩ := hx (by simp [oS]) rfl
  rw [hg] at hg'; injection hg' with hg'; subst hg'
  simpa using e
/-- A cell at the head of a Sum is stored to. -/
theorem sum_put [Inhabited Env] {K F : Nat → Prop} {σ : Nat → Option Nat} {hp : List DObj} {w : World} (hs : SimH K F σ hp w) {n : Nat} {s : Sm} (h : hp[n]? = some (oS s)) {g : Nat} (hg : σ n = some g) {j : Nat} {d : DV} {v : Value} (hj : j < 3) (s' : Sm)
    (he : (sumRow s.d s.st s.t s.r s.m).set j d = sumRow s'.d s'.st s'.t s'.r s'.m) (hd : ∀ (F : Nat → Prop) (σ : Nat → Option Nat) (hp : List DObj) (w : World), VRep F σ hp w d v) :
    w.frozen? ⟨g, 0 + j, none⟩ = false ∧ Gives K F σ hp w (.tup []) (hp.set n (oS s')) (.tuple #[]) (w.setCell ⟨g, 0 + j, none⟩ v) := by
  obtain ⟨_, h2, h3⟩ := g_put (K := K) (i := 0) (j := j) hs h rfl hg (by simp [oS]) (by simp [oS, sumRow]; omega) hd (fun _ _ _ _ => tup0)
  have e : 0 * (oS s).z + j = 0 + j := by omega
  rw [e] at h2 h3
  refine ⟨h2, ?_⟩
  have e2 : ({ oS s with es := (oS s).es.set 0 (((oS s).es.getD 0 []).set j d) } : DObj) = oS s' := by
    simp only [oS, List.getD_cons_zero, List.set_cons_zero, he]
  rwa [e2] at h3

set_option maxHeartbeats 1000000 in
theorem ok_Do : OkH Try.prog 17 s_Do := by
  intro a hp hpre
  unfold s_Do specG at hpre ⊢
  split at hpre
  rotate_left
  · exact hpre.elim
  rename_i hx
  rw [dif_pos hx]
  have hy := hx.choose_spec
  generalize hx.choose = y at *
  obtain ⟨n, s⟩ := y
  obtain ⟨rfl, hh⟩ := hy
  obtain ⟨hl, hst⟩ := hpre
  have hl : s.t.length = 256 := hl
  have hst : s.st = 0 := hst
  have hh : hp[n]? = some (oS s) := hh
  refine ⟨by kernel_rfl, ?_⟩
  intro K F σ w args hs ha
  obtain ⟨v0, v1, rfl, r0, r1⟩ := args2 ha
  have r0 : VRep F σ hp w (.ptr n 1 0 0) v0 := r0
  have r1 : VRep F σ hp w (.meth 18 [.ptr n 1 0 0]) v1 := r1
  obtain ⟨g, hg, c0, c1⟩ := sum_cell hs hh
  have e0 := ptr_of hh hg r0
  subst e0
  obtain ⟨vs, e1, hvl, hvr⟩ := r1.meth_inv
  obtain ⟨u, hu, hru⟩ := hvr 0 _ rfl
  have eu := ptr_of hh hg hru
  subst eu
  have e2 : vs = #[.pointer (some ⟨g, 0, none⟩)] := by
    apply Array.ext
    · simpa using hvl.symm
    · intro i h1 h2
      have : i = 0 := by simp at h2; omega
      subst this
      simpa [h1] using hu
  subst e2 e1
  by_cases hd : s.d = 0
  rotate_left
  · have e : hp.set n (oS (doneS s)) = hp := by unfold doneS; rw [if_neg hd]; exact set_same hh
    refine (do_done ⟨g, 0, none⟩ s.d hd _ w c0).mono ?_
    rintro e' w' ⟨rfl, rfl⟩
    refine ⟨_, rfl, ?_⟩
    show Gives K F σ hp _ (.tup []) (hp.set n (oS (doneS s))) _ _
    rw [e]
    exact Gives.same hs tup0
  rw [hd] at c0
  rw [hst] at c1
  obtain ⟨fz1, gv1⟩ := sum_put hs hh hg (j := 1) (d := .int .i32 1) (v := .int .i32 1) (by omega) { s with st := 1 } rfl (fun _ _ _ _ => .imm (.int _ _))
  obtain ⟨F1, σ1, hs1, mv1, hm1, _⟩ := gv1
  have hnl : n < hp.length := (List.getElem?_eq_some_iff.1 hh).1
  have hh1 : (hp.set n (oS { s with st := 1 }))[n]? = some (oS { s with st := 1 }) := List.getElem?_set_self hnl
  have p1 := r0.mono hm1
  have hF := ok_fill [.ptr n 1 0 0] (hp.set n (oS { s with st := 1 })) (by rw [s_fill_at hh1]; exact hl)
  rw [s_fill_at hh1, List.set_set] at hF
  have hf := hF.2 K F1 σ1 _ #[.pointer (some ⟨g, 0, none⟩)] hs1 (.mk_cons p1 (All2.mk_nil))
  have hnl2 : n < (hp.set n (oS { s with st := 1 })).length := by simpa using hnl
  have hh2 : (hp.set n (oS { s with st := 1, t := tab }))[n]? = some (oS { s with st := 1, t := tab }) := List.getElem?_set_self hnl
  refine (do_first g 0 (fun w2 => Gives K F1 σ1 (hp.set n (oS { s with st := 1 })) (w.setCell ⟨g, 0 + 1, none⟩ (.int .i32 1)) (.tup []) (hp.set n (oS { s with st := 1, t := tab })) (.tuple #[]) w2) w c0 c1 fz1 (hf.mono ?_) ?_).mono ?_
  · rintro e w2 ⟨v, rfl, hg2⟩
    obtain ⟨F2, σ2, q1, q2, q3, q4⟩ := hg2
    obtain ⟨us, rfl, hul, _⟩ := q4.tup_inv
    have : us = #[] := Array.eq_empty_of_size_eq_zero (by simpa using hul.symm)
    subst this
    exact ⟨rfl, F2, σ2, q1, q2, q3, q4⟩
  · rintro w2 ⟨F2, σ2, q1, q2, q3, q4⟩
    obtain ⟨g2, hg2, b0, b1⟩ := sum_cell q1 hh2
    have := ptr_of hh2 hg2 (p1.mono q3)
    injection this with this; injection this with this; injection this with this
    subst this
    refine ⟨by rw [b0]; simp only [hd], b1, ?_, ?_⟩
    · exact (sum_put q1 hh2 hg2 (j := 0) (d := .int .u32 1) (v := .int .u32 1) (by omega) { s with st := 1, t := tab, d := 1 } rfl (fun _ _ _ _ => .imm (.int _ _))).1
    · exact (sum_put q1 hh2 hg2 (j := 1) (d := .int .i32 0) (v := .int .i32 0) (by omega) { s with st := 0, t := tab } rfl (fun _ _ _ _ => .imm (.int _ _))).1
  · rintro e w' ⟨rfl, w2, ⟨F2, σ2, q1, q2, q3, q4⟩, rfl⟩
    refine ⟨_, rfl, ?_⟩
    obtain ⟨g2, hg2, b0, b1⟩ := sum_cell q1 hh2
    have := ptr_of hh2 hg2 (p1.mono q3)
    injection this with this; injection this with this; injection this with this
    subst this
    obtain ⟨F3, σ3, d1, d2, d3, _⟩ := simH_drew q1
    obtain ⟨g3, hg3, _, _⟩ := sum_cell d1 hh2
    have := ptr_of hh2 hg3 ((p1.mono q3).mono d3)
    injection this with this; injection this with this; injection this with this
    subst this
    obtain ⟨_, F4, σ4, x1, x2, x3, _⟩ := sum_put d1 hh2 hg3 (j := 0) (d := .int .u32 1) (v := .int .u32 1) (by omega) { s with st := 1, t := tab, d := 1 } rfl (fun _ _ _ _ => .imm (.int _ _))
    rw [List.set_set] at x1 x3
    have hh4 : (hp.set n (oS { s with st := 1, t := tab, d := 1 }))[n]? = some (oS { s with st := 1, t := tab, d := 1 }) := List.getElem?_set_self hnl
    obtain ⟨g4, hg4, _, _⟩ := sum_cell x1 hh4
    have := ptr_of hh4 hg4 (((p1.mono q3).mono d3).mono x3)
    injection this with this; injection this with this; injection this with this
    subst this
    obtain ⟨_, F5, σ5, y1, y2, y3, y4⟩ := sum_put x1 hh4 hg4 (j := 1) (d := .int .i32 0) (v := .int .i32 0) (by omega) { s with st := 0, t := tab, d := 1 } rfl (fun _ _ _ _ => .imm (.int _ _))
    rw [List.set_set] at y1 y3 y4
    have e : doneS s = { s with st := 0, t := tab, d := 1 } := by unfold doneS; rw [if_pos hd]; cases s; simp only at hst; subst hst; rfl
    show Gives K F σ hp w (.tup []) (hp.set n (oS (doneS s))) _ _
    rw [e]
    exact ⟨F5, σ5, y1, (((mv1.trans q2).trans d2).trans x2).trans y2, (((hm1.trans q3).trans d3).trans x3).trans y3, y4⟩
end Go.Proofs.Ytmdgjgnmbdmdgaa
