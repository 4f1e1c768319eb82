/- Freezing values; new blocks. -/
import Derived.Test.YtjgefhgkinocmaaGreatNkG
set_option linter.all false
namespace Go.Nk
open Go.RowKit

section
variable {P : Program} {K F F' : Nat → Prop} {σ σ' : Nat → Option Nat} {hp hp' : List DObj} {w w' : World} {fr : List (Nat × DV)} {a : Act} {o : Oper}

theorem VRep.imm_of {d : DV} {v : Value} (h : VRep F σ hp w d v) (hd : d.immB = true) : IRep F w d v := by
  cases h <;> first | assumption | simp [DV.immB] at hd

theorem immB_one {d : DV} (hd : d.immB = true) : d.one = true := by cases d <;> first | rfl | simp [DV.immB] at hd

theorem cellAt_mem {es : List (List DV)} {i j : Nat} {d : DV} (h : cellAt es i j = some d) : ∃ e ∈ es, d ∈ e := by
  unfold cellAt at h
  cases he : es[i]? with
  | none => simp [he] at h
  | some e => rw [he] at h; exact ⟨e, List.mem_of_getElem? he, List.mem_of_getElem? h⟩
/-- Nothing of the world has changed but what is frozen. -/
def Frzd [Inhabited Env] (K F : Nat → Prop) (σ : Nat → Option Nat) (hp : List DObj) (w : World) (F' : Nat → Prop) (hp' : List DObj) : Prop :=
  SimH K F' σ hp' w ∧ Moves K F w F' w ∧ HM F σ hp w F' σ hp' w

theorem Frzd.refl [Inhabited Env] (hs : SimH K F σ hp w) : Frzd K F σ hp w F hp := ⟨hs, .refl _ _ _, .refl _ _ _ _⟩
theorem Frzd.trans [Inhabited Env] {F'' : Nat → Prop} {hp'' : List DObj} (h : Frzd K F σ hp w F' hp') (k : Frzd K F' σ hp' w F'' hp'') : Frzd K F σ hp w F'' hp'' :=
  ⟨k.1, h.2.1.trans k.2.1, h.2.2.trans k.2.2⟩

theorem frz_at [Inhabited Env] (hs : SimH K F σ hp w) {h : Nat} {ob : DObj} (hob : hp[h]? = some ob) (hk : ob.k = .imm ∨ ob.k = .frz) :
    ∃ F', Frzd K F σ hp w F' (freezeAt hp h) ∧ ∀ g, σ h = some g → F' g := by
  unfold freezeAt
  simp only [hob]
  rcases hk with hk | hk
  · obtain ⟨h1, h2, h3⟩ := hs.freeze hob hk
    exact ⟨_, ⟨h1, h2, h3⟩, fun g hg => .inr hg⟩
  · have hl : h < hp.length := by
      rcases Nat.lt_or_ge h hp.length with h' | h'
      · exact h'
      · rw [List.getElem?_eq_none h'] at hob; cases hob
    have e : hp.set h { ob with k := .frz } = hp := by
      have : ({ ob with k := .frz } : DObj) = ob := by cases ob; simp at hk; subst hk; rfl
      rw [this]
      apply List.ext_getElem?
      intro n
      by_cases hn : n = h
      · subst hn; rw [List.getElem?_set_self hl, hob]
      · rw [List.getElem?_set_ne (Ne.symm hn)]
    rw [e]
    exact ⟨F, .refl hs, fun g hg => hs.frz_F hob hk hg⟩

/-- Values, one for one. -/
def All2 (R : DV → Value → Prop) (ds : List DV) (vs : List Value) : Prop :=
  ds.length = vs.length ∧ ∀ (j : Nat) (d : DV), ds[j]? = some d → ∃ u, vs[j]? = some u ∧ R d u
theorem fz1_rep [Inhabited Env] (hs : SimH K F σ hp w) {d : DV} {v : Value} (hv : VRep F σ hp w d v) (h : (fz1 hp d).pre) :
    ∃ F', Frzd K F σ hp w F' (fz1 hp d).hp ∧ IRep F' w (fz1 hp d).val v ∧ (fz1 hp d).val.one = true := by
  unfold fz1 at h ⊢
  split at h
  · rename_i h' L off len
    have hob : ∃ ob, hp[h']? = some ob ∧ (ob.k = .imm ∨ ob.k = .frz) := by
      simp only [elemsOf] at h
      cases hob : hp[h']? with
      | none => simp [hob] at h
      | some ob =>
        simp only [hob] at h
        split at h
        · rename_i hk; exact ⟨ob, rfl, hk⟩
        · exact h.elim
    obtain ⟨ob, hob, hk⟩ := hob
    obtain ⟨F', hfr, hF'⟩ := frz_at hs hob hk
    obtain ⟨A, c, z, rfl, hlc, hz, hA, _⟩ := elemsOf_rep hs hv h (by simp)
    refine ⟨F', hfr, IRep.sl_mk hlc hz fun hne => ?_, rfl⟩
    obtain ⟨b, hb, hsp, hF, hc⟩ := hA hne
    refine ⟨b, hb, hsp, ?_, fun i j e he => ?_⟩
    · rcases hF with hF | ⟨h1, L1, o1, l1, e1, e2⟩
      · exact hfr.2.1.mono _ hF
      · injection e1 with e1; subst e1; exact hF' _ e2
    · obtain ⟨u, hu, h1, hr⟩ := hc i j e he
      exact ⟨u, hu, h1, hr.mono hfr.2.1.mono hfr.2.1.keepF⟩
  · have := hv.nil_inv; subst this
    exact ⟨F, .refl hs, IRep.sl_mk (es := []) (z := 0) (Nat.le_refl _) (fun i e he => by simp at he) (fun h => absurd rfl h), rfl⟩
  · obtain ⟨vs, rfl, hl, hr⟩ := hv.clo_inv
    refine ⟨F, .refl hs, ?_, rfl⟩
    obtain ⟨vv, v1, v2⟩ := mk_vv (vs := vs) (R := IRep F w) fun j d hd => let ⟨u, hu, hr'⟩ := hr j d hd; ⟨u, hu, hr'.imm_of (List.all_eq_true.1 h d (List.mem_of_getElem? hd))⟩
    exact .clo _ _ vs hl vv v1 v2
  · split at h
    · rename_i hi
      rw [if_pos hi]
      exact ⟨F, .refl hs, hv.imm_of hi, immB_one hi⟩
    · exact h.elim

theorem All2.cons {R : DV → Value → Prop} {d : DV} {ds : List DV} {vs : List Value} (h : All2 R (d :: ds) vs) : ∃ v us, vs = v :: us ∧ R d v ∧ All2 R ds us := by
  obtain ⟨hl, hr⟩ := h
  cases vs with
  | nil => simp at hl
  | cons v us =>
    obtain ⟨u, hu, h0⟩ := hr 0 d rfl
    simp at hu; subst hu
    exact ⟨_, _, rfl, h0, by simpa using hl, fun j e he => by simpa using hr (j + 1) e (by simpa using he)⟩
theorem All2.nil_ {R : DV → Value → Prop} {vs : List Value} (h : All2 R [] vs) : vs = [] := List.eq_nil_of_length_eq_zero h.1.symm
theorem All2.mk_cons {R : DV → Value → Prop} {d : DV} {ds : List DV} {v : Value} {vs : List Value} (h : R d v) (k : All2 R ds vs) : All2 R (d :: ds) (v :: vs) :=
  ⟨by simp [k.1], fun j e he => by
    cases j with
    | zero => simp at he; subst he; exact ⟨v, rfl, h⟩
    | succ j => simpa using k.2 j e (by simpa using he)⟩
theorem All2.mk_nil {R : DV → Value → Prop} : All2 R [] [] := ⟨rfl, fun j e he => by simp at he⟩
theorem All2.imp {R R' : DV → Value → Prop} {ds : List DV} {vs : List Value} (h : All2 R ds vs) (hR : ∀ d v, R d v → R' d v) : All2 R' ds vs :=
  ⟨h.1, fun j d hd => let ⟨u, hu, hr⟩ := h.2 j d hd; ⟨u, hu, hR _ _ hr⟩⟩

def IOne (F : Nat → Prop) (w : World) (d : DV) (v : Value) : Prop := IRep F w d v ∧ d.one = true

theorem fzL_rep [Inhabited Env] : ∀ {ds : List DV} {vs : List Value} {hp : List DObj} {F : Nat → Prop}, SimH K F σ hp w → All2 (VRep F σ hp w) ds vs → (fzL hp ds).pre →
    ∃ F', Frzd K F σ hp w F' (fzL hp ds).hp ∧ All2 (IOne F' w) (fzL hp ds).vals vs
  | [], vs, hp, F, hs, hv, _ => ⟨F, .refl hs, by rw [hv.nil_]; exact .mk_nil⟩
  | d :: ds, vs, hp, F, hs, hv, h => by
    obtain ⟨v, us, rfl, h0, hr⟩ := hv.cons
    obtain ⟨hp1, hp2⟩ := h
    obtain ⟨F1, f1, r1, o1⟩ := fz1_rep hs h0 hp1
    obtain ⟨F2, f2, r2⟩ := fzL_rep f1.1 (hr.imp fun d v h => h.mono f1.2.2) hp2
    exact ⟨F2, f1.trans f2, .mk_cons ⟨r1.mono f2.2.1.mono f2.2.1.keepF, o1⟩ r2⟩

/-- Rows of values, one for one. -/
def AllR (R : DV → Value → Prop) : List (List DV) → List (List Value) → Prop
  | [], [] => True
  | e :: es, v :: vs => All2 R e v ∧ AllR R es vs
  | _, _ => False

theorem AllR.imp {R R' : DV → Value → Prop} (hR : ∀ d v, R d v → R' d v) : ∀ {es : List (List DV)} {vs : List (List Value)}, AllR R es vs → AllR R' es vs
  | [], [], _ => trivial
  | _ :: _, _ :: _, h => ⟨h.1.imp hR, h.2.imp hR⟩
  | [], _ :: _, h => h.elim
  | _ :: _, [], h => h.elim

theorem fzLL_rep [Inhabited Env] : ∀ {es : List (List DV)} {vs : List (List Value)} {hp : List DObj} {F : Nat → Prop}, SimH K F σ hp w → AllR (VRep F σ hp w) es vs → (fzLL hp es).pre →
    ∃ F', Frzd K F σ hp w F' (fzLL hp es).hp ∧ AllR (IOne F' w) (fzLL hp es).vals vs
  | [], [], hp, F, hs, _, _ => ⟨F, .refl hs, trivial⟩
  | e :: es, v :: vs, hp, F, hs, hv, h => by
    obtain ⟨hp1, hp2⟩ := h
    obtain ⟨F1, f1, r1⟩ := fzL_rep hs hv.1 hp1
    obtain ⟨F2, f2, r2⟩ := fzLL_rep f1.1 (hv.2.imp fun d v h => h.mono f1.2.2) hp2
    exact ⟨F2, f1.trans f2, r1.imp fun d v h => ⟨h.1.mono f2.2.1.mono f2.2.1.keepF, h.2⟩, r2⟩
  | [], _ :: _, _, _, _, h, _ => h.elim
  | _ :: _, [], _, _, _, h, _ => h.elim

/-- The cells of a value. -/
theorem cells_rep {d : DV} {v : Value} (hv : VRep F σ hp w d v) (h1 : ∀ e ∈ cellsOf d, e.one = true) : All2 (VRep F σ hp w) (cellsOf d) v.cells.toList := by
  unfold cellsOf at h1 ⊢
  split
  · obtain ⟨vs, rfl, hl, hr⟩ := hv.agg_inv
    exact ⟨by simpa [Value.cells] using hl, fun j e he => by
      obtain ⟨u, hu, hr⟩ := hr j e he
      exact ⟨u, by simpa [Value.cells] using hu, hr⟩⟩
  · rename_i hne
    have ho : d.one = true := by
      split at h1
      · rename_i cs; exact absurd rfl (hne cs)
      · exact h1 d (by simp)
    have hc : v.cells = #[v] := by
      have := hv.oneCell ho
      cases v <;> first | rfl | simp [Value.oneCell'] at this
    rw [hc]
    exact .mk_cons hv .mk_nil

/-- Cells whose 'one' is not asked: the value's cells all the same. -/
theorem cells_rep' {d : DV} {v : Value} (hv : VRep F σ hp w d v) (hd : d ≠ .undef) : All2 (VRep F σ hp w) (cellsOf d) v.cells.toList := by
  by_cases ho : d.one = true
  · have hc : cellsOf d = [d] := by cases d <;> first | rfl | simp [DV.one] at ho
    exact cells_rep hv (by rw [hc]; simpa using ho)
  · cases d <;> first | exact absurd rfl ho | skip
    · exact absurd rfl hd
    · rename_i cs
      obtain ⟨vs, rfl, hl, hr⟩ := hv.agg_inv
      exact ⟨by simpa [Value.cells, cellsOf] using hl, fun j e he => by
        obtain ⟨u, hu, hr⟩ := hr j e he
        exact ⟨u, by simpa [Value.cells] using hu, hr⟩⟩
    · rename_i cs
      obtain ⟨vs, rfl, hl, hr⟩ := hv.tup_inv
      simp only [cellsOf, Value.cells]
      exact .mk_cons hv .mk_nil

theorem getElem?_flat {z : Nat} : ∀ {es : List (List DV)} {vs : List (List Value)} {R : DV → Value → Prop}, AllR R es vs → (∀ e ∈ es, e.length = z) →
    vs.flatten.length = es.length * z ∧ ∀ i j d, cellAt es i j = some d → ∃ u, vs.flatten[i * z + j]? = some u ∧ R d u
  | [], [], R, _, _ => ⟨by simp, fun i j d h => by simp [cellAt] at h⟩
  | e :: es, v :: vs, R, h, hz => by
    obtain ⟨hl, hr⟩ := getElem?_flat h.2 (fun x hx => hz x (by simp [hx]))
    have he := hz e (by simp)
    have hv : v.length = z := by rw [← h.1.1, he]
    refine ⟨by simp [hl, hv, Nat.add_mul]; omega, fun i j d hd => ?_⟩
    cases i with
    | zero =>
      simp [cellAt] at hd
      obtain ⟨u, hu, hR⟩ := h.1.2 j d hd
      refine ⟨u, ?_, hR⟩
      have hj : j < v.length := (List.getElem?_eq_some_iff.1 hu).1
      simp [List.getElem?_append_left hj, hu]
    | succ i =>
      obtain ⟨u, hu, hR⟩ := hr i j d (by simpa [cellAt] using hd)
      refine ⟨u, ?_, hR⟩
      rw [List.flatten_cons, List.getElem?_append_right (by rw [hv, Nat.add_mul]; omega), ← hu]
      congr 1
      rw [hv, Nat.add_mul]; omega
  | [], _ :: _, _, h, _ => h.elim
  | _ :: _, [], _, h, _ => h.elim

/-- A new object of the call's own, over a new block. -/
theorem new_obj [Inhabited Env] (hs : SimH K F σ hp w) {w' : World} (os : w'.os = w.os) (tape : w'.tape = w.tape) (output : w'.output = w.output) (size : w'.heap.size = w.heap.size + 1) (heap : ∀ b, b < w.heap.size → w'.heap[b]? = w.heap[b]?)
    (ob : DObj) (hk : ob.k.mut)
    (hb : HM F σ hp w F (fun x => if x = hp.length then some w.heap.size else σ x) (hp ++ [ob]) w' → Blk w' w.heap.size ob.z ob.es (fun d v => if ob.k = .loc then VRep F (fun x => if x = hp.length then some w.heap.size else σ x) (hp ++ [ob]) w' d v else IRep F w' d v ∧ d.one = true)) :
    SimH K F (fun x => if x = hp.length then some w.heap.size else σ x) (hp ++ [ob]) w' ∧ Moves K F w F w' ∧ HM F σ hp w F (fun x => if x = hp.length then some w.heap.size else σ x) (hp ++ [ob]) w' := by
  have c : Chg K F σ hp w hp.length ob F (fun x => if x = hp.length then some w.heap.size else σ x) (hp ++ [ob]) w' :=
    { os := os, tape := tape, output := output, size := by omega, hF := fun _ h => h, newF := fun _ h => .inl h, ltF := fun b h => by have := hs.fb b h; omega
      heap := fun b h _ => heap b h, hps := .inr ⟨rfl, rfl⟩, sig := fun h' hne => by simp [hne], newg := fun g hg => .inr (by simp at hg; omega), grow := fun oh hoh => by simp at hoh }
  have hm := c.hm hs
  refine ⟨c.sim hs ?_, c.moves hs, hm⟩
  have hb' := hb hm
  have nF : ¬ F w.heap.size := fun h => by have := hs.fb _ h; omega
  have nK : ¬ K w.heap.size := fun h => by have := hs.kb _ h; omega
  unfold ORep
  rcases hk with hk | hk
  · rw [hk]; dsimp only
    simp only [hk, reduceCtorEq, if_false] at hb'
    exact .inr ⟨w.heap.size, by simp, nF, nK, hb'⟩
  · rw [hk]; dsimp only
    simp only [hk, if_true] at hb'
    exact ⟨w.heap.size, by simp, nF, nK, hb'⟩

theorem ptr_new {z : Nat} {es : List (List DV)} {k : Kd} {L : Nat} (hL : es.length = L) :
    VRep F (fun x => if x = hp.length then some w.heap.size else σ x) (hp ++ [⟨k, z, es⟩]) w' (.ptr hp.length L 0 0) (.pointer (some ⟨w.heap.size, 0, none⟩)) := by
  refine .ptr _ _ _ _ _ rfl (by simp) fun o ho => ?_
  have : o = ⟨k, z, es⟩ := by simpa using ho.symm
  subst this
  exact ⟨by simp [hL], fun _ _ => ⟨w.heap.size, by simp, by simp⟩⟩

theorem own_new {z : Nat} {es : List (List DV)} {k : Kd} {len cap : Nat} (hlen : len = es.length) (hc : len ≤ cap) (hb : cap * z ≤ bsz w' w.heap.size) :
    VRep F (fun x => if x = hp.length then some w.heap.size else σ x) (hp ++ [⟨k, z, es⟩]) w' (.own hp.length len 0 len) (.slice (some ⟨w.heap.size, 0, none⟩) len cap) := by
  refine .own _ _ _ _ _ rfl (by simp) fun o ho => ?_
  have : o = ⟨k, z, es⟩ := by simpa using ho.symm
  subst this
  exact ⟨by simp [hlen], fun _ _ => ⟨_, cap, rfl, hc, .inr ⟨w.heap.size, by simp, by simp, by simpa using hb⟩⟩⟩

theorem bsz_alloc (c : Array Value) (t : TypeId) : bsz (w.alloc (.cells c t)) w.heap.size = c.size := by
  unfold bsz; rw [heap_alloc_new]

theorem heap_alloc_lt (ob : Obj) : ∀ b, b < w.heap.size → (w.alloc ob).heap[b]? = w.heap[b]? := fun b hb => Below.heap_alloc w ob b hb

/-- A block of one row is laid: what is boxed. -/
theorem g_new_loc [Inhabited Env] (hs : SimH K F σ hp w) (t : TypeId) {cs : List DV} {c : Array Value} (h : All2 (VRep F σ hp w) cs c.toList) :
    Gives K F σ hp w (.ptr hp.length 1 0 0) (hp ++ [⟨.loc, cs.length, [cs]⟩]) (.pointer (some ⟨w.heap.size, 0, none⟩)) (w.alloc (.cells c t)) := by
  obtain ⟨h1, h2, h3⟩ := new_obj (w' := w.alloc (.cells c t)) hs rfl rfl rfl (by simp) (heap_alloc_lt _) ⟨.loc, cs.length, [cs]⟩ (.inr rfl) (fun hm => by
    simp only [if_true]
    refine ⟨c, t, heap_alloc_new w _, ?_, fun i e he => ?_, fun i j d hd => ?_⟩
    · have := h.1; simp at this; simp [this]
    · cases i <;> simp at he; subst he; rfl
    · cases i with
      | zero =>
        simp [cellAt] at hd
        obtain ⟨u, hu, hr⟩ := h.2 j d hd
        exact ⟨u, by simpa using hu, hr.mono hm⟩
      | succ i => simp [cellAt] at hd)
  exact ⟨F, _, h1, h2, h3, ptr_new rfl⟩

/-- The same, at a place that is kept for it. -/
theorem g_at [Inhabited Env] (hs : SimH K F σ hp w) {h : Nat} {o0 : DObj} (h0 : hp[h]? = some o0) (hd : o0.k = .dead) (he : o0.es = []) (t : TypeId) {cs : List DV} {c : Array Value} (hv : All2 (VRep F σ hp w) cs c.toList) :
    Gives K F σ hp w (.ptr h 1 0 0) (hp.set h ⟨.loc, cs.length, [cs]⟩) (.pointer (some ⟨w.heap.size, 0, none⟩)) (w.alloc (.cells c t)) := by
  have hl : h < hp.length := (List.getElem?_eq_some_iff.1 h0).1
  have cg : Chg K F σ hp w h ⟨.loc, cs.length, [cs]⟩ F (fun x => if x = h then some w.heap.size else σ x) (hp.set h ⟨.loc, cs.length, [cs]⟩) (w.alloc (.cells c t)) :=
    { os := rfl, tape := rfl, output := rfl, size := by simp, hF := fun _ h => h, newF := fun _ h => .inl h, ltF := fun b h => by have := hs.fb b h; simp; omega
      heap := fun b hb _ => heap_alloc_lt _ b hb, hps := .inl ⟨hl, rfl⟩, sig := fun h' hne => by simp [hne], newg := fun g hg => .inr (by simp at hg; omega)
      grow := fun oh hoh => by
        rw [h0] at hoh; injection hoh with e; subst e
        exact ⟨.inr ⟨he, by simp⟩, by simp [he], fun hx => by simp [he] at hx⟩ }
  have hm := cg.hm hs
  have nF : ¬ F w.heap.size := fun h => by have := hs.fb _ h; omega
  have nK : ¬ K w.heap.size := fun h => by have := hs.kb _ h; omega
  refine ⟨F, _, cg.sim hs ?_, cg.moves hs, hm, .ptr _ _ _ _ _ rfl (by simpa using hl) fun o' ho' => ?_⟩
  · unfold ORep
    dsimp only
    refine ⟨w.heap.size, by simp, nF, nK, c, t, heap_alloc_new w _, ?_, fun i e he => ?_, fun i j d hd => ?_⟩
    · have := hv.1; simp at this; simp [this]
    · cases i <;> simp at he; subst he; rfl
    · cases i with
      | zero =>
        simp [cellAt] at hd
        obtain ⟨u, hu, hr⟩ := hv.2 j d hd
        exact ⟨u, by simpa using hu, hr.mono hm⟩
      | succ i => simp [cellAt] at hd
  · rw [cg.get] at ho'; injection ho' with ho'; subst ho'
    exact ⟨by simp, fun _ _ => ⟨w.heap.size, by simp, by simp⟩⟩

theorem x_box [Inhabited Env] {t : TypeId} {x : Operand} {x' : DA} (hs : SimH K F σ hp w) (ho : o.op = .box t x) (hf : FRep F σ hp w fr a.tmps) (hx : mArg x x' = true) (h1 : ∀ d ∈ cellsOf (x'.ev fr), d.one = true) :
    ∃ v w', (execOp a.eval o).run P w = .ok (.value v) w' ∧ Gives K F σ hp w (.ptr hp.length 1 0 0) (hp ++ [⟨.loc, (cellsOf (x'.ev fr)).length, [cellsOf (x'.ev fr)]⟩]) v w' :=
  ⟨_, _, by simp [execOp, ho, Instr.box, newVar, newRow], g_new_loc hs t (cells_rep (mArg_rep hf hx) h1)⟩

theorem cMatchL_all {vs : List Value} {ds : List DV} (h : cMatchL vs ds = true) : All2 (IOne F w) ds vs := cMatchL_imm h

theorem x_aa [Inhabited Env] {t : TypeId} {i : TypeInfo} {z : Value} {zero : List DV} (hs : SimH K F σ hp w) (ho : o.op = .alloc t) (hi : P.info? t = some i) (hz : i.zero = some z) (hm : cMatchL z.cells.toList zero = true) {h : Nat} {o0 : DObj} (h0 : hp[h]? = some o0) (hd : o0.k = .dead) (he : o0.es = []) :
    ∃ v w', (execOp a.eval o).run P w = .ok (.value v) w' ∧ Gives K F σ hp w (.ptr h 1 0 0) (hp.set h ⟨.loc, zero.length, [zero]⟩) v w' :=
  ⟨_, _, by simp [execOp, ho, Instr.alloc, newVar, newRow, zeroValue, typeInfo, hi, hz], g_at hs h0 hd he t ((cMatchL_all hm).imp fun d v h => .imm h.1)⟩

theorem x_alloc [Inhabited Env] {t : TypeId} {i : TypeInfo} {z : Value} {zero : List DV} (hs : SimH K F σ hp w) (ho : o.op = .alloc t) (hi : P.info? t = some i) (hz : i.zero = some z) (hm : cMatchL z.cells.toList zero = true) :
    ∃ v w', (execOp a.eval o).run P w = .ok (.value v) w' ∧ Gives K F σ hp w (.ptr hp.length 1 0 0) (hp ++ [⟨.loc, zero.length, [zero]⟩]) v w' :=
  ⟨_, _, by simp [execOp, ho, Instr.alloc, newVar, newRow, zeroValue, typeInfo, hi, hz], g_new_loc hs t ((cMatchL_all hm).imp fun d v h => .imm h.1)⟩
end
end Go.Nk
