/- Regions, codes, functions: what the data level shows of a code holds of the code. -/
import Derived.Test.YtjgefhgkinocmaaGreatNkO
set_option linter.all false
namespace Go.Nk
open Go.RowKit

/-- What ranges over functions leave among the calls put off: blocks that hold none. -/
def Marks (K0 K F : Nat → Prop) (w : World) : List Deferred → Prop
  | [] => True
  | d :: ds => (∃ D, d = { target := .collected D, args := #[] } ∧ K D ∧ ¬ F D ∧ w.heap[D]? = some (.deferred (some [])) ∧ ¬ K0 D ∧ d ∉ ds) ∧ Marks K0 K F w ds

/-- The state of a code, as the data level has it; what has become of the world since it began. -/
def CurX [Inhabited Env] (K : Nat → Prop) (N : Nat) (F0 : Nat → Prop) (σ0 : Nat → Option Nat) (hp0 : List DObj) (w0 : World) (K' F : Nat → Prop) (σ : Nat → Option Nat) (s : DS) (a : Act) (w : World) : Prop :=
  (∀ b, K b → K' b) ∧ SimH K' F σ s.hp w ∧ FRep F σ s.hp w s.fr a.tmps ∧ a.tmps.size = N ∧ Marks K K' F w a.defers ∧ Moves K F0 w0 F w ∧ HM F0 σ0 hp0 w0 F σ s.hp w
def Cur [Inhabited Env] (K : Nat → Prop) (N : Nat) (F0 : Nat → Prop) (σ0 : Nat → Option Nat) (hp0 : List DObj) (w0 : World) (s : DS) (a : Act) (w : World) : Prop :=
  ∃ K' F σ, CurX K N F0 σ0 hp0 w0 K' F σ s a w

theorem Marks.move {K0 K F F' : Nat → Prop} {w w' : World} (hm : Moves K F w F' w') : ∀ {ds : List Deferred}, Marks K0 K F w ds → Marks K0 K F' w' ds
  | [], _ => trivial
  | d :: ds, h => by
    obtain ⟨⟨D, h1, h2, h3, h4, h5⟩, h6⟩ := h
    exact ⟨⟨D, h1, h2, fun hF => (hm.new D hF).elim h3 (fun h => h h2), (hm.keepK D h2).trans h4, h5⟩, h6.move hm⟩
theorem Moves.weak {K K' F F' : Nat → Prop} {w w' : World} (hK : ∀ b, K b → K' b) (h : Moves K' F w F' w') : Moves K F w F' w' :=
  ⟨h.os, h.tape, h.output, h.size, fun b hb => h.keepK b (hK b hb), h.keepF, h.mono, fun b hb => (h.new b hb).imp id fun h hk => h (hK b hk)⟩
theorem SimH.weak [Inhabited Env] {K K' F : Nat → Prop} {σ : Nat → Option Nat} {hp : List DObj} {w : World} (hK : ∀ b, K b → K' b) (h : SimH K' F σ hp w) : SimH K F σ hp w := by
  refine ⟨fun i o ho => ?_, h.inj, h.fb, fun b hb => h.kb b (hK b hb), h.tab⟩
  have old := h.obj i o ho
  unfold ORep at old ⊢
  split
  · trivial
  · rename_i hkk
    rw [hkk] at old; dsimp only at old
    exact old.imp id fun ⟨g, h1, h2, h3, h4⟩ => ⟨g, h1, h2, fun hk => h3 (hK g hk), h4⟩
  · rename_i hkk
    rw [hkk] at old; dsimp only at old
    exact old
  · rename_i hkk
    rw [hkk] at old; dsimp only at old
    obtain ⟨g, h1, h2, h3, h4⟩ := old
    exact ⟨g, h1, h2, fun hk => h3 (hK g hk), h4⟩

theorem cellAt_rowP {es : List (List DV)} {i j : Nat} {d : DV} (h : cellAt es i j = some d) : ∃ e, es[i]? = some e ∧ e[j]? = some d := by
  unfold cellAt at h
  cases he : es[i]? with
  | none => simp [he] at h
  | some e => exact ⟨e, rfl, by simpa [he] using h⟩

section
variable {P : Program} {K F0 : Nat → Prop} {σ0 : Nat → Option Nat} {hp0 : List DObj} {N : Nat} {w0 : World} {C : Orc}

theorem FRep.put {F F' : Nat → Prop} {σ σ' : Nat → Option Nat} {hp hp' : List DObj} {w w' : World} {fr : List (Nat × DV)} {a : Act} (hf : FRep F σ hp w fr a.tmps) (hm : HM F σ hp w F' σ' hp' w')
    {dst : Option Nat} {d : DV} {v : Value} (hd : ∀ t, dst = some t → t < a.tmps.size) (hv : VRep F' σ' hp' w' d v) : FRep F' σ' hp' w' (DS.put ⟨fr, hp⟩ dst ⟨True, d, hp'⟩).fr (a.put dst v).tmps := by
  intro n
  cases dst with
  | none => exact (hf n).mono hm
  | some t =>
    simp only [DS.put, get_cons, Act.put]
    by_cases hn : n = t
    · subst hn
      rw [if_pos rfl]
      have := hd n rfl
      simp [Array.getD, this]
      exact hv
    · rw [if_neg hn]
      have e : (a.tmps.setIfInBounds t v).getD n undef = a.tmps.getD n undef := by
        simp [Array.getElem?_setIfInBounds_ne (Ne.symm hn)]
      rw [e]
      exact (hf n).mono hm

theorem Cur.put [Inhabited Env] {s : DS} {a : Act} {w w' : World} {K' F F' : Nat → Prop} {σ σ' : Nat → Option Nat} {hp' : List DObj} {dst : Option Nat} {d : DV} {v : Value} (hK : ∀ b, K b → K' b) (hf : FRep F σ s.hp w s.fr a.tmps) (hN : a.tmps.size = N) (hdef : Marks K K' F w a.defers) (hmv : Moves K F0 w0 F w) (hhm : HM F0 σ0 hp0 w0 F σ s.hp w)
    (hd : ∀ t, dst = some t → t < N) (h1 : SimH K' F' σ' hp' w') (h2 : Moves K' F w F' w') (h3 : HM F σ s.hp w F' σ' hp' w') (h4 : VRep F' σ' hp' w' d v) : Cur K N F0 σ0 hp0 w0 (s.put dst ⟨True, d, hp'⟩) (a.put dst v) w' := by
  refine ⟨K', F', σ', hK, ?_, ?_, ?_, ?_, hmv.trans (h2.weak hK), ?_⟩
  · cases dst <;> exact h1
  · have := hf.put h3 (dst := dst) (fun t ht => by rw [hN]; exact hd t ht) h4
    cases dst <;> exact this
  · cases dst <;> simp [Act.put, hN]
  · cases dst <;> exact hdef.move h2
  · cases dst <;> exact hhm.trans h3

theorem put_pre (s : DS) (dst : Option Nat) (r : Res) : s.put dst r = s.put dst ⟨True, r.val, r.hp⟩ := by cases dst <;> rfl

theorem yielded_of {F : Nat → Prop} {σ : Nat → Option Nat} {hp : List DObj} {w : World} {fr : List (Nat × DV)} {a : Act} {ops : Array Oper} {j t : Nat} (hf : FRep F σ hp w fr a.tmps) (ht : (ops[j]?).bind (·.dst) = some t) :
    (∀ b, get t fr = .bool b → yielded ops a.tmps j = some b) ∧ (get t fr = .tup [] → yielded ops a.tmps j = none) := by
  have hv := hf t
  have hget : a.tmps.getD t undef = (a.tmps[t]?).getD undef := by simp
  refine ⟨fun b hb => ?_, fun hb => ?_⟩
  · rw [hb] at hv
    have := hv.bool_inv
    unfold yielded
    rw [ht]
    rw [hget] at this
    cases hh : a.tmps[t]? with
    | none => rw [hh] at this; simp [undef] at this
    | some v => rw [hh] at this; simp at this; subst this; simp [hh]
  · rw [hb] at hv
    obtain ⟨vs, e, _⟩ := hv.tup_inv
    unfold yielded
    rw [ht]
    rw [hget] at e
    cases hh : a.tmps[t]? with
    | none => simp [hh]
    | some v => rw [hh] at e; simp at e; subst e; simp [hh]

/-- One operation of a region. -/
theorem step_sound [Inhabited Env] (hC : C.ok P) {ops : Array Oper} {o : Oper} {d : DOper} (hm : mOper P N ops o d = true) {s : DS} {a : Act} {w : World} (hcur : Cur K N F0 σ0 hp0 w0 s a w) {Kd : DS → Prop} (h : dstep C d s Kd)
    {Kn : Act → World → Prop} {Q : Exit → Act → World → Prop} (hK : ∀ s' a' w', Cur K N F0 σ0 hp0 w0 s' a' w' → Kd s' → Kn a' w') :
    if Region.wanted o (yielded ops a.tmps) = true then o.wp P a w Kn Q else Kn (a.put o.dst undef) w := by
  simp only [mOper, Bool.and_eq_true, decide_eq_true_eq] at hm
  obtain ⟨⟨⟨hop, hdst⟩, hlt⟩, hg⟩ := hm
  have hlt' : ∀ t, d.dst = some t → t < N := fun t ht => by rw [ht] at hlt; simpa using hlt
  obtain ⟨K', F, σ, hKK, hs, hf, hN, hdef, hmv, hhm⟩ := hcur
  have run : (dvalX C d.op s).pre → (Kd (s.put d.dst (dvalX C d.op s))) → o.wp P a w Kn Q := by
    intro hp hk
    have := op_soundX (P := P) (K := K') hC hs hf (o := o) rfl hop hp
    refine this Kn Q fun v w' hgv => ?_
    obtain ⟨F', σ', h1, h2, h3, h4⟩ := hgv
    rw [hdst]
    refine hK _ _ _ ?_ hk
    rw [put_pre]
    exact Cur.put hKK hf hN hdef hmv hhm hlt' h1 h2 h3 h4
  have skip : Kd (s.put d.dst ⟨True, .tup [], s.hp⟩) → Kn (a.put o.dst undef) w := by
    intro hk
    rw [hdst]
    exact hK _ _ _ (Cur.put hKK hf hN hdef hmv hhm hlt' hs (.refl _ _ _) (.refl _ _ _ _) (.tup [] #[] rfl (fun _ => undef) (fun j d hd => by simp at hd) (fun j d hd => by simp at hd))) hk
  unfold dstep at h
  cases hgd : d.guard with
  | none =>
    rw [hgd] at h hg
    have ho : o.guard = none := by
      cases hh : o.guard with
      | none => rfl
      | some x => rw [hh] at hg; simp [mGuard] at hg
    rw [if_pos (by simp [Region.wanted, ho])]
    exact run h.1 h.2
  | some gb =>
    obtain ⟨t, b⟩ := gb
    rw [hgd] at h hg
    cases hh : o.guard with
    | none => rw [hh] at hg; simp [mGuard] at hg
    | some x =>
      obtain ⟨j, b'⟩ := x
      rw [hh] at hg
      simp only [mGuard, Bool.and_eq_true, decide_eq_true_eq, beq_iff_eq] at hg
      obtain ⟨ht, rfl⟩ := hg
      obtain ⟨y1, y2⟩ := yielded_of hf ht
      dsimp only at h
      cases hgt : get t s.fr with
      | bool c =>
        simp only [hgt] at h
        have hy := y1 c hgt
        simp only [Region.wanted, hh, hy]
        by_cases hcb : c = b'
        · subst hcb
          simp only [if_true] at h
          rw [if_pos (by simp)]
          exact run h.1 h.2
        · rw [if_neg hcb] at h
          rw [if_neg (by simpa using hcb)]
          exact skip h
      | tup vs =>
        cases vs with
        | nil =>
          simp only [hgt] at h
          have hy := y2 hgt
          simp only [Region.wanted, hh, hy]
          rw [if_neg (by simp)]
          exact skip h
        | cons => simp only [hgt] at h
      | _ => simp only [hgt] at h

/-! The cut at a loop's head. -/

theorem inBL_mem {m : Nat} : ∀ {cs : List DV}, DV.inBL m cs = true → ∀ (j : Nat) (d : DV), cs[j]? = some d → d.inB m = true
  | [], _, j, d, h => by simp at h
  | c :: cs, h, j, d, hd => by
    simp only [DV.inBL, Bool.and_eq_true] at h
    cases j with
    | zero => simp at hd; subst hd; exact h.1
    | succ j => exact inBL_mem h.2 j d (by simpa using hd)

theorem cut_get {hp : List DObj} {m h : Nat} {o : DObj} (ho : ((hp.take m).map (DObj.cut m))[h]? = some o) : h < m ∧ ∃ o0, hp[h]? = some o0 ∧ o = o0.cut m := by
  rw [List.getElem?_map, List.getElem?_take] at ho
  split at ho
  · rename_i hl
    cases hh : hp[h]? with
    | none => simp [hh] at ho
    | some o0 => simp [hh] at ho; exact ⟨hl, o0, rfl, ho.symm⟩
  · simp at ho

theorem cut_fields (m : Nat) (o : DObj) : (o.cut m).k = o.k ∧ (o.cut m).z = o.z ∧ (o.cut m).es.length = o.es.length := by
  unfold DObj.cut; split <;> simp

theorem VRep.cut {F : Nat → Prop} {σ : Nat → Option Nat} {hp : List DObj} {w : World} {m : Nat} {d : DV} {v : Value} (h : VRep F σ hp w d v) : d.inB m = true → VRep F σ ((hp.take m).map (DObj.cut m)) w d v := by
  induction h with
  | undef v => intro _; exact .undef v
  | imm h => intro _; exact .imm h
  | own h L off len v h1 hh ho =>
    intro hi
    simp only [DV.inB, decide_eq_true_eq] at hi
    refine .own h L off len v h1 (by simp; omega) fun o hob => ?_
    obtain ⟨_, o0, e1, rfl⟩ := cut_get hob
    obtain ⟨c1, c2, c3⟩ := cut_fields m o0
    rw [c1, c2, c3]
    exact ho o0 e1
  | ptr h L i j v h1 hh ho =>
    intro hi
    simp only [DV.inB, decide_eq_true_eq] at hi
    refine .ptr h L i j v h1 (by simp; omega) fun o hob => ?_
    obtain ⟨_, o0, e1, rfl⟩ := cut_get hob
    obtain ⟨c1, c2, c3⟩ := cut_fields m o0
    rw [c1, c2, c3]
    exact ho o0 e1
  | agg cs vs hl vv hv hr ih => intro hi; exact .agg cs vs hl vv hv fun j d hd => ih j d hd (inBL_mem hi j d hd)
  | tup cs vs hl vv hv hr ih => intro hi; exact .tup cs vs hl vv hv fun j d hd => ih j d hd (inBL_mem hi j d hd)
  | clo f cs vs hl vv hv hr ih => intro hi; exact .clo f cs vs hl vv hv fun j d hd => ih j d hd (inBL_mem hi j d hd)
  | meth f cs vs hl vv hv hr ih => intro hi; exact .meth f cs vs hl vv hv fun j d hd => ih j d hd (inBL_mem hi j d hd)

theorem VRep.cutV {F : Nat → Prop} {σ : Nat → Option Nat} {hp : List DObj} {w : World} {d : DV} {v : Value} (h : VRep F σ hp w d v) (m : Nat) : VRep F σ ((hp.take m).map (DObj.cut m)) w (d.cut m) v := by
  unfold DV.cut
  split
  · rename_i hi; exact h.cut hi
  · exact .undef v

theorem SimH.cut [Inhabited Env] {F : Nat → Prop} {σ : Nat → Option Nat} {hp : List DObj} {w : World} (hs : SimH K F σ hp w) (m : Nat) : SimH K F σ ((hp.take m).map (DObj.cut m)) w := by
  refine ⟨fun h o ho => ?_, fun h h' o o' g e1 m1 e2 m2 s1 s2 => ?_, hs.fb, hs.kb, hs.tab⟩
  · obtain ⟨hl, o0, e1, rfl⟩ := cut_get ho
    have old := hs.obj h o0 e1
    obtain ⟨c1, c2, c3⟩ := cut_fields m o0
    unfold ORep at old ⊢
    rw [c1, c2]
    by_cases hk : o0.k = .loc
    · rw [hk] at old ⊢; dsimp only at old ⊢
      obtain ⟨g, hg, nF, nK, c, ty, hh, hcz, hzz, hcc⟩ := old
      have hes : (o0.cut m).es = o0.es.map fun r => r.map (DV.cut m) := by simp [DObj.cut, hk]
      refine ⟨g, hg, nF, nK, c, ty, hh, by rw [c3]; exact hcz, fun i e he => ?_, fun i j d hd => ?_⟩
      · rw [hes, List.getElem?_map] at he
        cases hi : o0.es[i]? with
        | none => simp [hi] at he
        | some r => simp [hi] at he; subst he; simpa using hzz i r hi
      · rw [hes] at hd
        unfold cellAt at hd
        rw [List.getElem?_map] at hd
        cases hi : o0.es[i]? with
        | none => simp [hi] at hd
        | some r =>
          simp [hi] at hd
          obtain ⟨d0, h0, rfl⟩ := hd
          obtain ⟨u, hu, hr⟩ := hcc i j d0 (by simp [cellAt, hi, h0])
          exact ⟨u, hu, hr.cutV m⟩
    · have hes : (o0.cut m).es = o0.es := by simp [DObj.cut, hk]
      rw [hes]
      split at old <;> first | trivial | exact old | (rename_i hkk; exact absurd hkk hk)
  · obtain ⟨_, o0, f1, rfl⟩ := cut_get e1
    obtain ⟨_, o0', f2, rfl⟩ := cut_get e2
    rw [(cut_fields m o0).1] at m1
    rw [(cut_fields m o0').1] at m2
    exact hs.inj _ _ _ _ _ f1 m1 f2 m2 s1 s2

theorem get_map (f : Nat → DV) : ∀ (l : List Nat) (n : Nat), get n (l.map fun t => (t, f t)) = if n ∈ l then f n else .undef
  | [], n => by simp
  | t :: l, n => by
    simp only [List.map_cons, get_cons, get_map f l n, List.mem_cons]
    by_cases h : n = t
    · subst h; simp
    · simp [h]

theorem HM.cut {F : Nat → Prop} {σ : Nat → Option Nat} {hp : List DObj} {w : World} (hhm : HM F0 σ0 hp0 w0 F σ hp w) {m : Nat} (hm : hp0.length ≤ m) : HM F0 σ0 hp0 w0 F σ ((hp.take m).map (DObj.cut m)) w := by
  have hl := hhm.len
  refine ⟨hhm.mono, hhm.keepF, by simp; omega, fun h o ho => ?_⟩
  obtain ⟨o', h1, h2, h3⟩ := hhm.ob h o ho
  have hlt := lt_of_some ho
  refine ⟨o'.cut m, ?_, ?_, ?_⟩
  · rw [List.getElem?_map, List.getElem?_take, if_pos (by omega), h1]; rfl
  · rw [(cut_fields m o').2.2]; exact h2
  · rw [(cut_fields m o').2.2, (cut_fields m o').1, (cut_fields m o').2.1]; exact h3

theorem CurX.cut [Inhabited Env] {K' F : Nat → Prop} {σ : Nat → Option Nat} {s : DS} {a : Act} {w : World} (h : CurX K N F0 σ0 hp0 w0 K' F σ s a w) (live : List Nat) (m : Option Nat) (hm : match m with | some k => hp0.length ≤ k | none => True) : CurX K N F0 σ0 hp0 w0 K' F σ (s.cut live m) a w := by
  obtain ⟨hKK, hs, hf, hN, hdef, hmv, hhm⟩ := h
  cases m with
  | none =>
    refine ⟨hKK, hs, fun n => ?_, hN, hdef, hmv, hhm⟩
    simp only [DS.cut]
    rw [get_map]
    split
    · exact hf n
    · exact .undef _
  | some m =>
    refine ⟨hKK, hs.cut m, fun n => ?_, hN, hdef, hmv, hhm.cut hm⟩
    simp only [DS.cut]
    rw [get_map]
    split
    · exact (hf n).cutV m
    · exact .undef _

theorem Cur.cut [Inhabited Env] {s : DS} {a : Act} {w : World} (h : Cur K N F0 σ0 hp0 w0 s a w) (live : List Nat) (m : Option Nat) (hm : match m with | some k => hp0.length ≤ k | none => True) : Cur K N F0 σ0 hp0 w0 (s.cut live m) a w :=
  let ⟨K', F, σ, hx⟩ := h; ⟨K', F, σ, hx.cut live m hm⟩

/-- A place is kept. -/
theorem Cur.rsv [Inhabited Env] {s : DS} {a : Act} {w : World} (hcur : Cur K N F0 σ0 hp0 w0 s a w) : Cur K N F0 σ0 hp0 w0 ⟨s.fr, s.hp ++ [⟨.dead, 0, []⟩]⟩ a w := by
  obtain ⟨K', F, σ, hKK, hs, hf, hN, hdef, hmv, hhm⟩ := hcur
  have c1 : Chg K' F σ s.hp w s.hp.length (⟨.dead, 0, []⟩ : DObj) F (fun x => if x = s.hp.length then none else σ x) (s.hp ++ [(⟨.dead, 0, []⟩ : DObj)]) w :=
    { os := rfl, tape := rfl, output := rfl, size := Nat.le_refl _, hF := fun _ h => h, newF := fun _ h => .inl h, ltF := hs.fb, heap := fun b h _ => rfl, hps := .inr ⟨rfl, rfl⟩
      sig := fun h' hne => by simp [hne], newg := fun g hg => by simp at hg, grow := fun oh hoh => by simp at hoh }
  have hs1 := c1.sim hs trivial
  have hm1 := c1.hm hs
  exact ⟨K', F, _, hKK, hs1, fun n => (hf n).mono hm1, hN, hdef, hmv.trans ((c1.moves hs).weak hKK), hhm.trans hm1⟩
/-- A nil slice in a field of an own struct, seen as one that is to grow. -/
theorem Cur.gown [Inhabited Env] {s : DS} {a : Act} {w : World} (hcur : Cur K N F0 σ0 hp0 w0 s a w) {h i j : Nat} {o : DObj} (z : Nat) (hob : s.hp[h]? = some o) (hk : o.k = .loc) (hi : i < o.es.length) (hcell : (o.es.getD i [])[j]? = some .nil) :
    Cur K N F0 σ0 hp0 w0 ⟨s.fr, s.hp.set h { o with es := o.es.set i ((o.es.getD i []).set j (.own s.hp.length 0 0 0)) } ++ [⟨.imm, z, []⟩]⟩ a w := by
  obtain ⟨K', F, σ, hKK, hs, hf, hN, hdef, hmv, hhm⟩ := hcur
  obtain ⟨ok, oz, oes⟩ := o
  dsimp only at hk hi hcell
  subst hk
  have hl := lt_of_some hob
  have c1 : Chg K' F σ s.hp w s.hp.length (⟨.imm, z, []⟩ : DObj) F (fun x => if x = s.hp.length then none else σ x) (s.hp ++ [(⟨.imm, z, []⟩ : DObj)]) w :=
    { os := rfl, tape := rfl, output := rfl, size := Nat.le_refl _, hF := fun _ h => h, newF := fun _ h => .inl h, ltF := hs.fb, heap := fun b h _ => rfl, hps := .inr ⟨rfl, rfl⟩
      sig := fun h' hne => by simp [hne], newg := fun g hg => by simp at hg, grow := fun oh hoh => by simp at hoh }
  have hs1 := c1.sim hs (.inl ⟨rfl, by simp⟩)
  have hm1 := c1.hm hs
  generalize (fun x => if x = s.hp.length then none else σ x) = σ1 at hs1 hm1 c1
  have hob1 : (s.hp ++ [(⟨.imm, z, []⟩ : DObj)])[h]? = some ⟨.loc, oz, oes⟩ := by rw [List.getElem?_append_left hl]; exact hob
  have hget : oes[i]? = some (oes.getD i []) := by simp [List.getD, hi]
  generalize hrow : oes.getD i [] = row at *
  have hold := hs1.obj h _ hob1
  unfold ORep at hold
  dsimp only at hold
  obtain ⟨g, hg, nF, nK, c, ty, hh, hcz, hzz, hcc⟩ := hold
  have c2 : Chg K' F σ1 (s.hp ++ [(⟨.imm, z, []⟩ : DObj)]) w h ⟨.loc, oz, oes.set i (row.set j (.own s.hp.length 0 0 0))⟩ F σ1 ((s.hp ++ [(⟨.imm, z, []⟩ : DObj)]).set h ⟨.loc, oz, oes.set i (row.set j (.own s.hp.length 0 0 0))⟩) w :=
    { os := rfl, tape := rfl, output := rfl, size := Nat.le_refl _, hF := fun _ h => h, newF := fun _ h => .inl h, ltF := hs1.fb, heap := fun b h _ => rfl, hps := .inl ⟨by simp; omega, rfl⟩
      sig := fun h' hne => rfl, newg := fun g hg => .inl ⟨hg, _, hob1, .inr rfl⟩
      grow := fun oh hoh => by
        rw [hob1] at hoh; injection hoh with e; subst e
        exact ⟨.inl (.inr rfl), by simp, fun _ _ => ⟨rfl, rfl, fun _ _ => rfl⟩⟩ }
  have hm2 := c2.hm hs1
  have hne : h ≠ s.hp.length := by omega
  have hs2 := c2.sim hs1 (by
    unfold ORep
    refine ⟨g, hg, nF, nK, c, ty, hh, by simpa using hcz, fun r e he => ?_, fun r k d hd => ?_⟩
    · rw [List.getElem?_set] at he
      split at he
      · rename_i e1
        subst e1
        injection he with he
        rw [← he, List.length_set]
        exact hzz i row hget
      · exact hzz r e he
    · obtain ⟨e, he, hed⟩ := cellAt_rowP hd
      rw [List.getElem?_set] at he
      split at he
      · rename_i e1
        subst e1
        injection he with he
        subst he
        rw [List.getElem?_set] at hed
        split at hed
        · rename_i e2
          subst e2
          have hjl : j < row.length := (List.getElem?_eq_some_iff.1 hcell).1
          rw [if_pos hjl] at hed
          injection hed with hed
          subst hed
          obtain ⟨v, hv, hr⟩ := hcc i j .nil (by unfold cellAt; rw [hget]; exact hcell)
          refine ⟨v, hv, ?_⟩
          rw [hr.nil_inv]
          refine .own _ _ _ _ _ rfl (by simp) fun ob hb => ?_
          rw [List.getElem?_set_ne hne] at hb
          have : ob = (⟨.imm, z, []⟩ : DObj) := by simpa using hb.symm
          subst this
          exact ⟨by simp, fun _ _ => ⟨none, 0, rfl, Nat.le_refl _, .inl rfl⟩⟩
        · obtain ⟨v, hv, hr⟩ := hcc i k d (by unfold cellAt; rw [hget]; exact hed)
          exact ⟨v, hv, hr.mono hm2⟩
      · obtain ⟨v, hv, hr⟩ := hcc r k d (by unfold cellAt; rw [he]; exact hed)
        exact ⟨v, hv, hr.mono hm2⟩)
  have e : (s.hp ++ [(⟨.imm, z, []⟩ : DObj)]).set h ⟨.loc, oz, oes.set i (row.set j (.own s.hp.length 0 0 0))⟩ = s.hp.set h ⟨.loc, oz, oes.set i (row.set j (.own s.hp.length 0 0 0))⟩ ++ [⟨.imm, z, []⟩] := by
    rw [List.set_append_left _ _ hl]
  rw [e] at hs2 hm2
  exact ⟨K', F, σ1, hKK, hs2, fun n => ((hf n).mono hm1).mono hm2, hN, hdef, hmv, (hhm.trans hm1).trans hm2⟩
end
end Go.Nk
