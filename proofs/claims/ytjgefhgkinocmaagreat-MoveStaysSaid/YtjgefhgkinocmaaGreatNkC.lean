/- The pure operations: what the data level says they make, they make. -/
import Derived.Test.YtjgefhgkinocmaaGreatNkM
set_option linter.all false
namespace Go.Nk
open Go.RowKit

section
variable {P : Program} {F : Nat → Prop} {σ : Nat → Option Nat} {hp : List DObj} {w : World}

theorem cMatch1_imm {v : Value} {d : DV} (h : cMatch1 v d = true) : IRep F w d v := by
  unfold cMatch1 at h
  split at h
  · simp at h; obtain ⟨rfl, rfl⟩ := h; exact .int _ _
  · simp at h; subst h; exact .bool _
  · rename_i s l
    simp at h
    have : s = ⟨l.toArray⟩ := by rw [← h]
    rw [this]; exact .str _
  · exact .nil
  · exact .sl [] none 0 0 ⟨0, 0, none⟩ 0 (fun _ _ => .int .i64 0) rfl (Nat.le_refl _) (fun h => absurd rfl h) (fun i e h => by simp at h) (fun i j d h => by simp [cellAt] at h) (fun i j d h => by simp [cellAt] at h)
  · exact .nilp
  · cases h

theorem cMatchL_imm : ∀ {vs : List Value} {ds : List DV}, cMatchL vs ds = true →
    ds.length = vs.length ∧ ∀ (j : Nat) (d : DV), ds[j]? = some d → ∃ u, vs[j]? = some u ∧ IRep F w d u ∧ d.one = true
  | [], [], _ => ⟨rfl, fun j d h => by simp at h⟩
  | v :: vs, d :: ds, h => by
    simp only [cMatchL, Bool.and_eq_true] at h
    obtain ⟨hl, hr⟩ := cMatchL_imm h.2
    refine ⟨by simp [hl], fun j e he => ?_⟩
    cases j with
    | zero =>
      simp at he; subst he
      have hi := cMatch1_imm (F := F) (w := w) h.1
      exact ⟨v, rfl, hi, by cases hi <;> rfl⟩
    | succ j => exact hr j e (by simpa using he)
  | [], _ :: _, h => by simp [cMatchL] at h
  | _ :: _, [], h => by simp [cMatchL] at h

theorem cMatch_rep {v : Value} {d : DV} (h : cMatch v d = true) : VRep F σ hp w d v := by
  unfold cMatch at h
  split at h
  · rename_i vs ds
    obtain ⟨hl, hr⟩ := cMatchL_imm (F := F) (w := w) h
    exact VRep.agg_mk (by simpa using hl) fun j d hd => by
      obtain ⟨u, hu, hi, _⟩ := hr j d hd
      exact ⟨u, by simpa using hu, .imm hi⟩
  · rename_i vs ds
    obtain ⟨hl, hr⟩ := cMatchL_imm (F := F) (w := w) h
    exact VRep.tup_mk (by simpa using hl) fun j d hd => by
      obtain ⟨u, hu, hi, _⟩ := hr j d hd
      exact ⟨u, by simpa using hu, .imm hi⟩
  · exact .undef _
  · exact .imm (cMatch1_imm h)

def FRep (F : Nat → Prop) (σ : Nat → Option Nat) (hp : List DObj) (w : World) (fr : List (Nat × DV)) (tmps : Array Value) : Prop :=
  ∀ n, VRep F σ hp w (get n fr) (tmps.getD n undef)

theorem mArg_rep {a : Act} {fr : List (Nat × DV)} (hf : FRep F σ hp w fr a.tmps) {x : Operand} {d : DA} (h : mArg x d = true) : VRep F σ hp w (d.ev fr) (a.eval x) := by
  unfold mArg at h
  split at h
  · simp at h; subst h; exact hf _
  · exact cMatch_rep h
  · simp at h; subst h; exact .imm (.clo0 _)
  · exact .undef _
  · cases h

theorem mArgs_rep {a : Act} {fr : List (Nat × DV)} (hf : FRep F σ hp w fr a.tmps) : ∀ {xs : List Operand} {ds : List DA}, mArgs xs ds = true →
    ds.length = xs.length ∧ ∀ (j : Nat) (d : DV), (ds.map (·.ev fr))[j]? = some d → ∃ u, (xs.map a.eval)[j]? = some u ∧ VRep F σ hp w d u
  | [], [], _ => ⟨rfl, fun j d h => by simp at h⟩
  | x :: xs, d :: ds, h => by
    simp only [mArgs, Bool.and_eq_true] at h
    obtain ⟨hl, hr⟩ := mArgs_rep hf h.2
    refine ⟨by simp [hl], fun j e he => ?_⟩
    cases j with
    | zero => simp at he; subst he; exact ⟨_, rfl, mArg_rep hf h.1⟩
    | succ j => exact hr j e (by simpa using he)
  | [], _ :: _, h => by simp [mArgs] at h
  | _ :: _, [], h => by simp [mArgs] at h

/-! Numbers and texts -/

theorem r_int (op : BinOp) (t : TypeId) (k : IntKind) (x y : Int) (h : (dInt op k x y).1) :
    ∃ v, (binOp op t (.int k x) (.int k y)).run P w = .ok v w ∧ IRep F w (dInt op k x y).2 v := by
  cases op <;> simp only [dInt] at h ⊢ <;>
    first
    | exact h.elim
    | (refine ⟨_, ?_, IRep.int _ _⟩; simp [binOp, Op.intArith, Op.intDiv, Op.intBits, bitsOf, h]; done)
    | (refine ⟨_, ?_, IRep.bool _⟩; simp [binOp, Op.intCmp]; done)

theorem r_str (op : BinOp) (t : TypeId) (x y : List UInt8) (h : (dStr op x y).1) :
    ∃ v, (binOp op t (.string ⟨x.toArray⟩) (.string ⟨y.toArray⟩)).run P w = .ok v w ∧ IRep F w (dStr op x y).2 v := by
  have hs : ∀ l : List UInt8, (⟨l.toArray⟩ : ByteArray).size = l.length := fun l => by simp [ByteArray.size]
  have happ : (⟨x.toArray⟩ : ByteArray) ++ ⟨y.toArray⟩ = ⟨(x ++ y).toArray⟩ := by
    apply ByteArray.ext; simp [ByteArray.data_append]
  cases op <;> simp only [dStr] at h ⊢ <;>
    first
    | exact h.elim
    | (refine ⟨_, ?_, IRep.bool _⟩; simp [binOp, Op.stringOp]; done)
    | (refine ⟨_, ?_, IRep.str _⟩
       have h' : ¬ (((x.length : Int) + (y.length : Int)) > IntKind.i64.max) := by
         simp only [strMax] at h
         have : IntKind.i64.max = 9223372036854775807 := by decide
         omega
       simp only [binOp, Op.stringOp, hs, Int.natCast_add, if_neg h', happ, Sem.run_pure])

theorem r_un (op : UnOp) (d : DV) (v : Value) (hv : VRep F σ hp w d v) (h : (dUn op d).1) : ∃ u, (Op.unary op v).run P w = .ok u w ∧ IRep F w (dUn op d).2 u := by
  unfold dUn at h ⊢
  split at h
  · rename_i k n
    have := hv.int_inv; subst this
    cases op <;> first | exact h.elim | (refine ⟨_, ?_, IRep.int _ _⟩; simp [Op.unary, Op.intArith, Op.intBits, bitsOf]; done)
  · rename_i b
    have := hv.bool_inv; subst this
    cases op <;> first | exact h.elim | (refine ⟨_, ?_, IRep.bool _⟩; simp [Op.unary]; done)
  · exact h.elim

theorem run_under {t : TypeId} {d : TypeDesc} (h : P.underlying t = some d) : (underlying t).run P w = .ok d w := run_underlying h w

theorem r_beq {t : TypeId} (ht : P.underlying t = some .bool) (a b : Bool) : (Op.equal t (.bool a) (.bool b)).run P w = .ok (a == b) w := by
  have h : ∀ n : Nat, (Op.equalIn (n + 1) t (.bool a) (.bool b)).run P w = .ok (a == b) w := fun n => by
    simp [Op.equalIn, run_under ht]
  exact h 9999

theorem r_peq {t e : TypeId} (ht : P.underlying t = some (.pointer e)) (a b : Option Addr) (h : a = none ∨ b = none) :
    (Op.equal t (.pointer a) (.pointer b)).run P w = .ok (a.isNone && b.isNone) w := by
  have h : ∀ n : Nat, (Op.equalIn (n + 1) t (.pointer a) (.pointer b)).run P w = .ok (a.isNone && b.isNone) w := fun n => by
    rcases h with rfl | rfl
    · cases b <;> simp [Op.equalIn, run_under ht]
    · cases a <;> simp [Op.equalIn, run_under ht]
  exact h 9999

theorem r_seq {t e : TypeId} (ht : P.underlying t = some (.slice e)) (A : Option Addr) (n c : Nat) :
    (Op.equal t (.slice A n c) (.slice none 0 0)).run P w = .ok A.isNone w := by
  have h : ∀ k : Nat, (Op.equalIn (k + 1) t (.slice A n c) (.slice none 0 0)).run P w = .ok A.isNone w := fun k => by
    cases A <;> simp [Op.equalIn, run_under ht]
  exact h 9999

/-- What 'part' of an aggregate is. -/
theorem r_part {t : TypeId} {sz : Option Nat} (hsz : szOf P t = some sz) {cs : List DV} {vs : Array Value} (hl : cs.length = vs.size)
    (hv : ∀ (j : Nat) (d : DV), cs[j]? = some d → ∃ u, vs[j]? = some u ∧ VRep F σ hp w d u) (off : Nat) (h : (dLoad sz (True, cs.drop off)).1) :
    ∃ u, (part t vs off).run P w = .ok u w ∧ VRep F σ hp w (dLoad sz (True, cs.drop off)).2 u := by
  unfold szOf at hsz
  split at hsz
  · rename_i fs i hu hi
    simp at hsz; subst hsz
    simp only [dLoad, true_and, List.length_drop] at h ⊢
    refine ⟨_, by simp [part, isAgg, run_under hu, sizeOf, typeInfo, hi]; rfl, VRep.agg_mk ?_ fun j d hd => ?_⟩
    · simp; omega
    · rw [List.getElem?_take] at hd
      split at hd
      · rename_i hj
        rw [List.getElem?_drop] at hd
        obtain ⟨u, hu', hr⟩ := hv _ _ hd
        refine ⟨u, ?_, hr⟩
        rw [Array.getElem?_extract]
        simp [hu']
        omega
      · cases hd
  · rename_i fs e i hu hi
    simp at hsz; subst hsz
    simp only [dLoad, true_and, List.length_drop] at h ⊢
    refine ⟨_, by simp [part, isAgg, run_under hu, sizeOf, typeInfo, hi]; rfl, VRep.agg_mk ?_ fun j d hd => ?_⟩
    · simp; omega
    · rw [List.getElem?_take] at hd
      split at hd
      · rename_i hj
        rw [List.getElem?_drop] at hd
        obtain ⟨u, hu', hr⟩ := hv _ _ hd
        refine ⟨u, ?_, hr⟩
        rw [Array.getElem?_extract]
        simp [hu']
        omega
      · cases hd
  · rename_i d i h1 h2 hu hi
    simp at hsz; subst hsz
    simp only [dLoad, true_and, List.length_drop] at h ⊢
    have hlt : off < cs.length := by omega
    obtain ⟨u, hu', hr⟩ := hv off cs[off] (by simp [hlt])
    have hag : (isAgg t).run P w = .ok false w := by
      simp only [isAgg, Sem.run_bind, run_under hu, Result.andThen_ok]
      rfl
    refine ⟨u, by simp [part, hag, hu'], ?_⟩
    have : (cs.drop off).getD 0 .undef = cs[off] := by simp [hlt]
    rw [this]; exact hr
  · cases hsz

theorem IRep.sl_inv {es : List (List DV)} {v : Value} (h : IRep F w (.sl es) v) :
    ∃ A c z, v = .slice A es.length c ∧ es.length ≤ c ∧ (es ≠ [] → ∃ a, A = some a ∧ a.spot = none ∧ F a.block ∧
      ∀ i j d, cellAt es i j = some d → ∃ u, w.cell? ⟨a.block, a.off + (i * z + j), none⟩ = some u ∧ d.one = true ∧ IRep F w d u) ∧
      (∀ (i : Nat) (e : List DV), es[i]? = some e → e.length = z) := by
  cases h with
  | sl es A n c a z cv hn hnc hA hz hc hr =>
    subst hn
    exact ⟨A, c, z, rfl, hnc, fun h => ⟨a, (hA h).1, (hA h).2.1, (hA h).2.2, fun i j d hd => ⟨_, (hc i j d hd).1, (hc i j d hd).2, hr i j d hd⟩⟩, hz⟩

theorem IRep.ref_inv {cs : List DV} {v : Value} (h : IRep F w (.ref cs) v) :
    ∃ a, v = .pointer (some a) ∧ a.spot = none ∧ F a.block ∧ ∀ (j : Nat) (d : DV), cs[j]? = some d → ∃ u, w.cell? ⟨a.block, a.off + j, none⟩ = some u ∧ d.one = true ∧ IRep F w d u := by
  cases h with
  | ref cs a cv hs hF hc hr => exact ⟨a, rfl, hs, hF, fun j d hd => ⟨_, (hc j d hd).1, (hc j d hd).2, hr j d hd⟩⟩

theorem IRep.sl_mk {z : Nat} {es : List (List DV)} {A : Option Addr} {c : Nat} (hlc : es.length ≤ c) (hz : ∀ (i : Nat) (e : List DV), es[i]? = some e → e.length = z)
    (h : es ≠ [] → ∃ a, A = some a ∧ a.spot = none ∧ F a.block ∧ ∀ i j d, cellAt es i j = some d → ∃ u, w.cell? ⟨a.block, a.off + (i * z + j), none⟩ = some u ∧ d.one = true ∧ IRep F w d u) :
    IRep F w (.sl es) (.slice A es.length c) := by
  by_cases he : es = []
  · subst he
    exact .sl [] A 0 c ⟨0, 0, none⟩ z (fun _ _ => undef) rfl (Nat.zero_le _) (fun h => absurd rfl h) hz (fun i j d hd => by simp [cellAt] at hd) (fun i j d hd => by simp [cellAt] at hd)
  · obtain ⟨a, rfl, hs, hF, hc⟩ := h he
    refine .sl es (some a) _ c a z (fun i j => (w.cell? ⟨a.block, a.off + (i * z + j), none⟩).getD undef) rfl hlc (fun _ => ⟨rfl, hs, hF⟩) hz (fun i j d hd => ?_) (fun i j d hd => ?_)
    · obtain ⟨u, hu, h1, _⟩ := hc i j d hd
      simp [hu, h1]
    · obtain ⟨u, hu, _, h1⟩ := hc i j d hd
      simpa [hu] using h1

theorem IRep.ref_mk {cs : List DV} {a : Addr} (hs : a.spot = none) (hF : F a.block)
    (hc : ∀ (j : Nat) (d : DV), cs[j]? = some d → ∃ u, w.cell? ⟨a.block, a.off + j, none⟩ = some u ∧ d.one = true ∧ IRep F w d u) : IRep F w (.ref cs) (.pointer (some a)) := by
  refine .ref cs a (fun j => (w.cell? ⟨a.block, a.off + j, none⟩).getD undef) hs hF (fun j d hd => ?_) (fun j d hd => ?_)
  · obtain ⟨u, hu, h1, _⟩ := hc j d hd
    simp [hu, h1]
  · obtain ⟨u, hu, _, h1⟩ := hc j d hd
    simpa [hu] using h1

theorem add_none {a : Addr} (h : a.spot = none) (n : Nat) : a.add n = ⟨a.block, a.off + n, none⟩ := by
  unfold Addr.add
  split
  · subst_vars; cases a; simp at h; subst h; rfl
  · rfl

/-- Loading through an address at which the cells lie. -/
theorem r_load {t : TypeId} {sz : Option Nat} (hsz : szOf P t = some sz) {R : DV → Value → Prop} {cs : List DV} {a : Addr} (hs : a.spot = none)
    (hc : ∀ (j : Nat) (d : DV), cs[j]? = some d → ∃ u, w.cell? ⟨a.block, a.off + j, none⟩ = some u ∧ R d u) (h : (dLoad sz (True, cs)).1) :
    ∃ u, (loadVar t a).run P w = .ok u w ∧ (match sz with | none => ∃ d, cs[0]? = some d ∧ R d u | some n => ∃ vs : Array Value, u = .agg vs ∧ vs.size = n ∧ ∀ (j : Nat) (d : DV), (cs.take n)[j]? = some d → ∃ x, vs[j]? = some x ∧ R d x) := by
  have big : ∀ n : Nat, n ≤ cs.length → ∃ vs : Array Value, (loadCells a n).run P w = .ok vs w ∧ vs.size = n ∧ ∀ (j : Nat) (d : DV), (cs.take n)[j]? = some d → ∃ x, vs[j]? = some x ∧ R d x := by
    intro n hn
    have hcell : ∀ j, j < n → w.cell? (a.add j) = some ((w.cell? (a.add j)).getD undef) := by
      intro j hj
      obtain ⟨u, hu, _⟩ := hc j cs[j] (by simp)
      rw [add_none hs, hu]; rfl
    have hl := run_loadCells (P := P) (w := w) a n (fun j => (w.cell? (a.add j)).getD undef) hcell
    refine ⟨_, hl, by simp, fun j d hd => ?_⟩
    rw [List.getElem?_take] at hd
    split at hd
    · rename_i hj
      obtain ⟨u, hu, hr⟩ := hc j d hd
      refine ⟨u, ?_, hr⟩
      simp [hj, add_none hs, hu]
    · cases hd
  unfold szOf at hsz
  split at hsz
  · rename_i fs i hu hi
    simp at hsz; subst hsz
    simp only [dLoad, true_and] at h
    obtain ⟨vs, h1, h2, h3⟩ := big i.size h
    exact ⟨.agg vs, by simp [loadVar, isAgg, run_under hu, sizeOf, typeInfo, hi, h1], vs, rfl, h2, h3⟩
  · rename_i n e i hu hi
    simp at hsz; subst hsz
    simp only [dLoad, true_and] at h
    obtain ⟨vs, h1, h2, h3⟩ := big i.size h
    exact ⟨.agg vs, by simp [loadVar, isAgg, run_under hu, sizeOf, typeInfo, hi, h1], vs, rfl, h2, h3⟩
  · rename_i d i h1 h2 hu hi
    simp at hsz; subst hsz
    simp only [dLoad, true_and] at h
    obtain ⟨u, hu', hr⟩ := hc 0 cs[0] (by simp)
    have hag : (isAgg t).run P w = .ok false w := by
      simp only [isAgg, Sem.run_bind, run_under hu, Result.andThen_ok]
      rfl
    refine ⟨u, ?_, cs[0], by simp, hr⟩
    have : w.cell? a = some u := by cases a; simp at hs; subst hs; simpa using hu'
    simp [loadVar, hag, this]
  · cases hsz
end
end Go.Nk
