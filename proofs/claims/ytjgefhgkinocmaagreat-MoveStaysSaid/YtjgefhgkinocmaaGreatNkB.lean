/- What it is for a value, a frame, a heap of the data level to stand for what a world holds; how that lasts. -/
import Derived.Test.YtjgefhgkinocmaaGreatNkA
set_option linter.all false
namespace Go.Nk
open Go.RowKit

/-- What is asked of the world all along: of blocks that are frozen. -/
structure Env where
  X : (Nat → Prop) → World → Prop
  mono : ∀ (F F' : Nat → Prop) (w w' : World), X F w → (∀ b, F b → w'.heap[b]? = w.heap[b]?) → (∀ b, F b → F' b) → X F' w'
def Env.none : Env := ⟨fun _ _ => True, fun _ _ _ _ _ _ _ => trivial⟩
/-- A table of the program's that lies in a frozen block. -/
def Env.tab (P : Program) (name : String) (k : IntKind) (zs : List Int) : Env where
  X F w := ∃ g c, P.globalNamed name = some g ∧ F g ∧ w.heap[g]? = some c ∧ match c with | .cells cs _ _ => cs = (zs.map fun z => Value.int k z).toArray | _ => False
  mono := fun _ _ _ _ ⟨g, c, h1, h2, h3, h4⟩ hk hm => ⟨g, c, h1, hm g h2, (hk g h2).trans h3, h4⟩
def XF [Inhabited Env] (F : Nat → Prop) (w : World) : Prop := (default : Env).X F w
theorem XF.mono [Inhabited Env] {F F' : Nat → Prop} {w w' : World} (h : XF F w) (h1 : ∀ b, F b → w'.heap[b]? = w.heap[b]?) (h2 : ∀ b, F b → F' b) : XF F' w' := (default : Env).mono _ _ _ _ h h1 h2

def bsz (w : World) (g : Nat) : Nat := match w.heap[g]? with | some (.cells c _ _) => c.size | _ => 0

inductive IRep (F : Nat → Prop) (w : World) : DV → Value → Prop
  | int (k n) : IRep F w (.int k n) (.int k n)
  | bool (b) : IRep F w (.bool b) (.bool b)
  | str (s) : IRep F w (.str s) (.string ⟨s.toArray⟩)
  | nil : IRep F w .nil (.slice none 0 0)
  | nilp : IRep F w .nilp (.pointer none)
  | sl (es : List (List DV)) (A : Option Addr) (n c : Nat) (a : Addr) (z : Nat) (cv : Nat → Nat → Value)
      (hn : n = es.length) (hnc : n ≤ c) (hA : es ≠ [] → A = some a ∧ a.spot = none ∧ F a.block) (hz : ∀ (i : Nat) (e : List DV), es[i]? = some e → e.length = z)
      (hc : ∀ i j d, cellAt es i j = some d → w.cell? ⟨a.block, a.off + (i * z + j), none⟩ = some (cv i j) ∧ d.one = true)
      (hr : ∀ i j d, cellAt es i j = some d → IRep F w d (cv i j)) : IRep F w (.sl es) (.slice A n c)
  | ref (cs : List DV) (a : Addr) (cv : Nat → Value) (hs : a.spot = none) (hF : F a.block)
      (hc : ∀ j d, cs[j]? = some d → w.cell? ⟨a.block, a.off + j, none⟩ = some (cv j) ∧ d.one = true)
      (hr : ∀ (j : Nat) (d : DV), cs[j]? = some d → IRep F w d (cv j)) : IRep F w (.ref cs) (.pointer (some a))
  | clo (f) (cs : List DV) (vs : Array Value) (hl : cs.length = vs.size) (vv : Nat → Value) (hv : ∀ (j : Nat) (d : DV), cs[j]? = some d → vs[j]? = some (vv j)) (hr : ∀ (j : Nat) (d : DV), cs[j]? = some d → IRep F w d (vv j)) : IRep F w (.clo f cs) (.func (.func f) #[] vs)
  | anyb (b) : IRep F w .anyb (.bool b)
  | yld (l) : IRep F w (.yld l) (.func (.yield l) #[] #[])

def OwnV (σ : Nat → Option Nat) (w : World) (z h off len : Nat) (v : Value) : Prop :=
  ∃ A cap, v = .slice A len cap ∧ len ≤ cap ∧ (cap = 0 ∨ ∃ g, σ h = some g ∧ A = some ⟨g, off * z, none⟩ ∧ (off + cap) * z ≤ bsz w g)

inductive VRep (F : Nat → Prop) (σ : Nat → Option Nat) (hp : List DObj) (w : World) : DV → Value → Prop
  | undef (v) : VRep F σ hp w .undef v
  | imm {d v} (h : IRep F w d v) : VRep F σ hp w d v
  | own (h L off len v) (h1 : v.oneCell' = true) (hh : h < hp.length)
      (ho : ∀ o, hp[h]? = some o → L ≤ o.es.length ∧ (o.k ≠ .dead → o.es.length = L → OwnV σ w o.z h off len v)) : VRep F σ hp w (.own h L off len) v
  | ptr (h L i j v) (h1 : v.oneCell' = true) (hh : h < hp.length)
      (ho : ∀ o, hp[h]? = some o → L ≤ o.es.length ∧ (o.k ≠ .dead → o.es.length = L → ∃ g, σ h = some g ∧ v = .pointer (some ⟨g, i * o.z + j, none⟩))) : VRep F σ hp w (.ptr h L i j) v
  | agg (cs : List DV) (vs : Array Value) (hl : cs.length = vs.size) (vv : Nat → Value) (hv : ∀ (j : Nat) (d : DV), cs[j]? = some d → vs[j]? = some (vv j)) (hr : ∀ (j : Nat) (d : DV), cs[j]? = some d → VRep F σ hp w d (vv j)) : VRep F σ hp w (.agg cs) (.agg vs)
  | tup (cs : List DV) (vs : Array Value) (hl : cs.length = vs.size) (vv : Nat → Value) (hv : ∀ (j : Nat) (d : DV), cs[j]? = some d → vs[j]? = some (vv j)) (hr : ∀ (j : Nat) (d : DV), cs[j]? = some d → VRep F σ hp w d (vv j)) : VRep F σ hp w (.tup cs) (.tuple vs)
  | clo (f) (cs : List DV) (vs : Array Value) (hl : cs.length = vs.size) (vv : Nat → Value) (hv : ∀ (j : Nat) (d : DV), cs[j]? = some d → vs[j]? = some (vv j)) (hr : ∀ (j : Nat) (d : DV), cs[j]? = some d → VRep F σ hp w d (vv j)) : VRep F σ hp w (.clo f cs) (.func (.func f) #[] vs)
  | meth (f) (cs : List DV) (vs : Array Value) (hl : cs.length = vs.size) (vv : Nat → Value) (hv : ∀ (j : Nat) (d : DV), cs[j]? = some d → vs[j]? = some (vv j)) (hr : ∀ (j : Nat) (d : DV), cs[j]? = some d → VRep F σ hp w d (vv j)) : VRep F σ hp w (.meth f cs) (.func (.func f) vs #[])

/-- Block g holds the rows es, z cells each, R of each. -/
def Blk (w : World) (g z : Nat) (es : List (List DV)) (R : DV → Value → Prop) : Prop :=
  ∃ c ty, w.heap[g]? = some (.cells c ty (0, 0)) ∧ es.length * z ≤ c.size ∧ (∀ (i : Nat) (e : List DV), es[i]? = some e → e.length = z) ∧
    ∀ i j d, cellAt es i j = some d → ∃ v, c[i * z + j]? = some v ∧ R d v

def ORep (K F : Nat → Prop) (σ : Nat → Option Nat) (hp : List DObj) (w : World) (h : Nat) (o : DObj) : Prop :=
  match o.k with
  | .dead => True
  | .imm => (o.es = [] ∧ σ h = none) ∨ ∃ g, σ h = some g ∧ ¬ F g ∧ ¬ K g ∧ Blk w g o.z o.es (fun d v => IRep F w d v ∧ d.one = true)
  | .frz => (o.es = [] ∧ σ h = none) ∨ ∃ g, σ h = some g ∧ F g ∧ Blk w g o.z o.es (fun d v => IRep F w d v ∧ d.one = true)
  | .loc => ∃ g, σ h = some g ∧ ¬ F g ∧ ¬ K g ∧ Blk w g o.z o.es (fun d v => VRep F σ hp w d v)

def Kd.mut (k : Kd) : Prop := k = .imm ∨ k = .loc

structure SimH [Inhabited Env] (K F : Nat → Prop) (σ : Nat → Option Nat) (hp : List DObj) (w : World) : Prop where
  obj : ∀ h o, hp[h]? = some o → ORep K F σ hp w h o
  inj : ∀ h h' o o' g, hp[h]? = some o → o.k.mut → hp[h']? = some o' → o'.k.mut → σ h = some g → σ h' = some g → h = h'
  fb : ∀ b, F b → b < w.heap.size
  kb : ∀ b, K b → b < w.heap.size
  tab : XF F w

structure Moves (K F : Nat → Prop) (w : World) (F' : Nat → Prop) (w' : World) : Prop where
  os : w'.os = w.os
  tape : w'.tape = w.tape
  output : w'.output = w.output
  size : w.heap.size ≤ w'.heap.size
  keepK : ∀ b, K b → w'.heap[b]? = w.heap[b]?
  keepF : ∀ b, F b → w'.heap[b]? = w.heap[b]?
  mono : ∀ b, F b → F' b
  new : ∀ b, F' b → F b ∨ ¬ K b

theorem Moves.refl (K F : Nat → Prop) (w : World) : Moves K F w F w :=
  ⟨rfl, rfl, rfl, Nat.le_refl _, fun _ _ => rfl, fun _ _ => rfl, fun _ h => h, fun _ h => .inl h⟩

theorem Moves.trans {K F F' F'' : Nat → Prop} {w w' w'' : World} (h : Moves K F w F' w') (k : Moves K F' w' F'' w'') : Moves K F w F'' w'' :=
  ⟨k.os.trans h.os, k.tape.trans h.tape, k.output.trans h.output, Nat.le_trans h.size k.size, fun b hb => (k.keepK b hb).trans (h.keepK b hb),
    fun b hb => (k.keepF b (h.mono b hb)).trans (h.keepF b hb), fun b hb => k.mono b (h.mono b hb), fun b hb => (k.new b hb).elim (h.new b) .inr⟩

/-- How values of the old heap stay good in the new one. -/
structure HM (F : Nat → Prop) (σ : Nat → Option Nat) (hp : List DObj) (w : World) (F' : Nat → Prop) (σ' : Nat → Option Nat) (hp' : List DObj) (w' : World) : Prop where
  mono : ∀ b, F b → F' b
  keepF : ∀ b, F b → w'.heap[b]? = w.heap[b]?
  len : hp.length ≤ hp'.length
  ob : ∀ h o, hp[h]? = some o → ∃ o', hp'[h]? = some o' ∧ o.es.length ≤ o'.es.length ∧
    (o'.k ≠ .dead → o'.es.length = o.es.length → o.k ≠ .dead ∧ o'.z = o.z ∧ σ' h = σ h ∧ ∀ g, σ h = some g → bsz w' g = bsz w g)

theorem HM.refl (F : Nat → Prop) (σ : Nat → Option Nat) (hp : List DObj) (w : World) : HM F σ hp w F σ hp w :=
  ⟨fun _ h => h, fun _ _ => rfl, Nat.le_refl _, fun _ o ho => ⟨o, ho, Nat.le_refl _, fun h _ => ⟨h, rfl, rfl, fun _ _ => rfl⟩⟩⟩

theorem HM.trans {F F' F'' : Nat → Prop} {σ σ' σ'' : Nat → Option Nat} {hp hp' hp'' : List DObj} {w w' w'' : World}
    (h : HM F σ hp w F' σ' hp' w') (k : HM F' σ' hp' w' F'' σ'' hp'' w'') : HM F σ hp w F'' σ'' hp'' w'' := by
  refine ⟨fun b hb => k.mono b (h.mono b hb), fun b hb => (k.keepF b (h.mono b hb)).trans (h.keepF b hb), Nat.le_trans h.len k.len, fun i o ho => ?_⟩
  obtain ⟨o', ho', hl, hk⟩ := h.ob i o ho
  obtain ⟨o'', ho'', hl', hk'⟩ := k.ob i o' ho'
  refine ⟨o'', ho'', Nat.le_trans hl hl', fun hd he => ?_⟩
  obtain ⟨a1, a2, a3, a4⟩ := hk' hd (by omega)
  obtain ⟨b1, b2, b3, b4⟩ := hk a1 (by omega)
  exact ⟨b1, a2.trans b2, a3.trans b3, fun g hg => (a4 g (b3.trans hg)).trans (b4 g hg)⟩

theorem cell_of_heap {w w' : World} {a : Addr} (h : w'.heap[a.block]? = w.heap[a.block]?) : w'.cell? a = w.cell? a := World.cell?_of_block h

theorem IRep.mono {F F' : Nat → Prop} {w w' : World} (hF : ∀ b, F b → F' b) (hw : ∀ b, F b → w'.heap[b]? = w.heap[b]?) {d : DV} {v : Value} (h : IRep F w d v) : IRep F' w' d v := by
  induction h with
  | int k n => exact .int k n
  | bool b => exact .bool b
  | str s => exact .str s
  | nil => exact .nil
  | nilp => exact .nilp
  | clo f cs vs hl vv hv hr ih => exact .clo f cs vs hl vv hv ih
  | anyb b => exact .anyb b
  | yld l => exact .yld l
  | sl es A n c a z cv hn hnc hA hz hc hr ih =>
    refine .sl es A n c a z cv hn hnc (fun h => ⟨(hA h).1, (hA h).2.1, hF _ (hA h).2.2⟩) hz (fun i j d hd => ?_) ih
    refine ⟨?_, (hc i j d hd).2⟩
    rw [cell_of_heap (w := w) (hw _ ?_)]
    · exact (hc i j d hd).1
    · refine (hA ?_).2.2
      intro he
      subst he
      simp [cellAt] at hd
  | ref cs a cv hs hFa hc hr ih =>
    exact .ref cs a cv hs (hF _ hFa) (fun j d hd => ⟨(cell_of_heap (w := w) (a := ⟨a.block, a.off + j, none⟩) (hw _ hFa)).trans (hc j d hd).1, (hc j d hd).2⟩) ih

theorem VRep.mono {F F' : Nat → Prop} {σ σ' : Nat → Option Nat} {hp hp' : List DObj} {w w' : World} (hm : HM F σ hp w F' σ' hp' w') {d : DV} {v : Value}
    (h : VRep F σ hp w d v) : VRep F' σ' hp' w' d v := by
  induction h with
  | undef v => exact .undef v
  | imm h => exact .imm (h.mono hm.mono hm.keepF)
  | own h L off len v hv1 hh ho =>
    refine .own h L off len v hv1 (Nat.lt_of_lt_of_le hh hm.len) (fun o' ho' => ?_)
    obtain ⟨o, hoo⟩ : ∃ o, hp[h]? = some o := ⟨hp[h], by simp [hh]⟩
    obtain ⟨o'', h1, hl, hk⟩ := hm.ob h o hoo
    rw [ho'] at h1
    injection h1 with h1
    subst h1
    obtain ⟨hL, hv⟩ := ho o hoo
    refine ⟨by omega, fun hd he => ?_⟩
    obtain ⟨a1, a2, a3, a4⟩ := hk hd (by omega)
    obtain ⟨A, cap, e1, e2, e3⟩ := hv a1 (by omega)
    refine ⟨A, cap, e1, e2, e3.imp id fun ⟨g, g1, g2, g3⟩ => ⟨g, a3.trans g1, by rw [a2]; exact g2, by rw [a2, a4 g g1]; exact g3⟩⟩
  | ptr h L i j v hv1 hh ho =>
    refine .ptr h L i j v hv1 (Nat.lt_of_lt_of_le hh hm.len) (fun o' ho' => ?_)
    obtain ⟨o, hoo⟩ : ∃ o, hp[h]? = some o := ⟨hp[h], by simp [hh]⟩
    obtain ⟨o'', h1, hl, hk⟩ := hm.ob h o hoo
    rw [ho'] at h1
    injection h1 with h1
    subst h1
    obtain ⟨hL, hv⟩ := ho o hoo
    refine ⟨by omega, fun hd he => ?_⟩
    obtain ⟨a1, a2, a3, a4⟩ := hk hd (by omega)
    obtain ⟨g, e1, e2⟩ := hv a1 (by omega)
    exact ⟨g, a3.trans e1, by rw [a2]; exact e2⟩
  | agg cs vs hl vv hv hr ih => exact .agg cs vs hl vv hv ih
  | tup cs vs hl vv hv hr ih => exact .tup cs vs hl vv hv ih
  | clo f cs vs hl vv hv hr ih => exact .clo f cs vs hl vv hv ih
  | meth f cs vs hl vv hv hr ih => exact .meth f cs vs hl vv hv ih

/-! Inversions -/
section
variable {F : Nat → Prop} {σ : Nat → Option Nat} {hp : List DObj} {w : World} {v : Value}
theorem VRep.int_inv {k : IntKind} {n : Int} (h : VRep F σ hp w (.int k n) v) : v = .int k n := by cases h with | imm h => cases h; rfl
theorem VRep.bool_inv {b : Bool} (h : VRep F σ hp w (.bool b) v) : v = .bool b := by cases h with | imm h => cases h; rfl
theorem VRep.anyb_inv (h : VRep F σ hp w .anyb v) : ∃ b, v = .bool b := by cases h with | imm h => cases h; exact ⟨_, rfl⟩
theorem VRep.yld_inv {l : Nat} (h : VRep F σ hp w (.yld l) v) : v = .func (.yield l) #[] #[] := by cases h with | imm h => cases h; rfl
theorem VRep.str_inv {s : List UInt8} (h : VRep F σ hp w (.str s) v) : v = .string ⟨s.toArray⟩ := by cases h with | imm h => cases h; rfl
theorem VRep.nil_inv (h : VRep F σ hp w .nil v) : v = .slice none 0 0 := by cases h with | imm h => cases h; rfl
theorem VRep.nilp_inv (h : VRep F σ hp w .nilp v) : v = .pointer none := by cases h with | imm h => cases h; rfl
theorem VRep.sl_inv {es : List (List DV)} (h : VRep F σ hp w (.sl es) v) : IRep F w (.sl es) v := by cases h with | imm h => exact h
theorem VRep.ref_inv {cs : List DV} (h : VRep F σ hp w (.ref cs) v) : IRep F w (.ref cs) v := by cases h with | imm h => exact h
theorem VRep.own_inv {h' L off len : Nat} (h : VRep F σ hp w (.own h' L off len) v) :
    h' < hp.length ∧ ∀ o, hp[h']? = some o → L ≤ o.es.length ∧ (o.k ≠ .dead → o.es.length = L → OwnV σ w o.z h' off len v) := by
  cases h with
  | imm h => cases h
  | own _ _ _ _ _ _ hh ho => exact ⟨hh, ho⟩
theorem VRep.ptr_inv {h' L i j : Nat} (h : VRep F σ hp w (.ptr h' L i j) v) :
    h' < hp.length ∧ ∀ o, hp[h']? = some o → L ≤ o.es.length ∧ (o.k ≠ .dead → o.es.length = L → ∃ g, σ h' = some g ∧ v = .pointer (some ⟨g, i * o.z + j, none⟩)) := by
  cases h with
  | imm h => cases h
  | ptr _ _ _ _ _ _ hh ho => exact ⟨hh, ho⟩
theorem VRep.agg_inv {cs : List DV} (h : VRep F σ hp w (.agg cs) v) : ∃ vs : Array Value, v = .agg vs ∧ cs.length = vs.size ∧ ∀ (j : Nat) (d : DV), cs[j]? = some d → ∃ u, vs[j]? = some u ∧ VRep F σ hp w d u := by
  cases h with
  | imm h => cases h
  | agg _ vs hl vv hv hr => exact ⟨vs, rfl, hl, fun j d hd => ⟨vv j, hv j d hd, hr j d hd⟩⟩
theorem VRep.tup_inv {cs : List DV} (h : VRep F σ hp w (.tup cs) v) : ∃ vs : Array Value, v = .tuple vs ∧ cs.length = vs.size ∧ ∀ (j : Nat) (d : DV), cs[j]? = some d → ∃ u, vs[j]? = some u ∧ VRep F σ hp w d u := by
  cases h with
  | imm h => cases h
  | tup _ vs hl vv hv hr => exact ⟨vs, rfl, hl, fun j d hd => ⟨vv j, hv j d hd, hr j d hd⟩⟩
theorem VRep.clo_inv {f : FuncId} {cs : List DV} (h : VRep F σ hp w (.clo f cs) v) : ∃ vs : Array Value, v = .func (.func f) #[] vs ∧ cs.length = vs.size ∧ ∀ (j : Nat) (d : DV), cs[j]? = some d → ∃ u, vs[j]? = some u ∧ VRep F σ hp w d u := by
  cases h with
  | imm h =>
    cases h with
    | clo _ _ vs hl vv hv hr => exact ⟨vs, rfl, hl, fun j d hd => ⟨vv j, hv j d hd, .imm (hr j d hd)⟩⟩
  | clo _ _ vs hl vv hv hr => exact ⟨vs, rfl, hl, fun j d hd => ⟨vv j, hv j d hd, hr j d hd⟩⟩

theorem VRep.meth_inv {f : FuncId} {cs : List DV} (h : VRep F σ hp w (.meth f cs) v) : ∃ vs : Array Value, v = .func (.func f) vs #[] ∧ cs.length = vs.size ∧ ∀ (j : Nat) (d : DV), cs[j]? = some d → ∃ u, vs[j]? = some u ∧ VRep F σ hp w d u := by
  cases h with
  | imm h => cases h
  | meth _ _ vs hl vv hv hr => exact ⟨vs, rfl, hl, fun j d hd => ⟨vv j, hv j d hd, hr j d hd⟩⟩

theorem mk_vv {R : DV → Value → Prop} {cs : List DV} {vs : Array Value} (h : ∀ (j : Nat) (d : DV), cs[j]? = some d → ∃ u, vs[j]? = some u ∧ R d u) :
    ∃ vv : Nat → Value, (∀ (j : Nat) (d : DV), cs[j]? = some d → vs[j]? = some (vv j)) ∧ ∀ (j : Nat) (d : DV), cs[j]? = some d → R d (vv j) := by
  refine ⟨fun j => (vs[j]?).getD (.tuple #[]), fun j d hd => ?_, fun j d hd => ?_⟩
  · obtain ⟨u, hu, _⟩ := h j d hd
    simp [hu]
  · obtain ⟨u, hu, hr⟩ := h j d hd
    simpa [hu] using hr
theorem VRep.agg_mk {cs : List DV} {vs : Array Value} (hl : cs.length = vs.size) (h : ∀ (j : Nat) (d : DV), cs[j]? = some d → ∃ u, vs[j]? = some u ∧ VRep F σ hp w d u) : VRep F σ hp w (.agg cs) (.agg vs) := by
  obtain ⟨vv, h1, h2⟩ := mk_vv h
  exact .agg cs vs hl vv h1 h2
theorem VRep.tup_mk {cs : List DV} {vs : Array Value} (hl : cs.length = vs.size) (h : ∀ (j : Nat) (d : DV), cs[j]? = some d → ∃ u, vs[j]? = some u ∧ VRep F σ hp w d u) : VRep F σ hp w (.tup cs) (.tuple vs) := by
  obtain ⟨vv, h1, h2⟩ := mk_vv h
  exact .tup cs vs hl vv h1 h2
theorem VRep.clo_mk {f : FuncId} {cs : List DV} {vs : Array Value} (hl : cs.length = vs.size) (h : ∀ (j : Nat) (d : DV), cs[j]? = some d → ∃ u, vs[j]? = some u ∧ VRep F σ hp w d u) : VRep F σ hp w (.clo f cs) (.func (.func f) #[] vs) := by
  obtain ⟨vv, h1, h2⟩ := mk_vv h
  exact .clo f cs vs hl vv h1 h2
theorem VRep.meth_mk {f : FuncId} {cs : List DV} {vs : Array Value} (hl : cs.length = vs.size) (h : ∀ (j : Nat) (d : DV), cs[j]? = some d → ∃ u, vs[j]? = some u ∧ VRep F σ hp w d u) : VRep F σ hp w (.meth f cs) (.func (.func f) vs #[]) := by
  obtain ⟨vv, h1, h2⟩ := mk_vv h
  exact .meth f cs vs hl vv h1 h2
theorem IRep.clo0 (f : FuncId) : IRep F w (.clo f []) (.func (.func f) #[] #[]) := .clo f [] #[] rfl (fun _ => .nilFunc) (fun j d hd => by simp at hd) (fun j d hd => by simp at hd)
theorem IRep.oneCell {d : DV} (h : IRep F w d v) : v.oneCell' = true := by cases h <;> rfl
theorem VRep.oneCell {d : DV} (h : VRep F σ hp w d v) (hd : d.one = true) : v.oneCell' = true := by
  cases h with
  | undef => simp [DV.one] at hd
  | imm h => exact h.oneCell
  | own h' L off len _ h1 => exact h1
  | ptr h' L i j _ h1 => exact h1
  | agg => simp [DV.one] at hd
  | tup => simp [DV.one] at hd
  | clo => rfl
  | meth => rfl
end
end Go.Nk
