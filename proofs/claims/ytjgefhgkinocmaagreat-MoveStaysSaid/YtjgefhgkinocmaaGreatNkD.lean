/- Reading memory; what an operation gives. -/
import Derived.Test.YtjgefhgkinocmaaGreatNkC
set_option linter.all false
namespace Go.Nk
open Go.RowKit

section
variable {P : Program} {K F : Nat → Prop} {σ : Nat → Option Nat} {hp : List DObj} {w : World}

theorem cell_blk {w : World} {g : Nat} {c : Array Value} {ty : TypeId} {m : Nat × Nat} (h : w.heap[g]? = some (.cells c ty m)) (n : Nat) : w.cell? ⟨g, n, none⟩ = c[n]? := by
  simp [World.cell?, h]

theorem Blk.at_ {g z : Nat} {es : List (List DV)} {R : DV → Value → Prop} (h : Blk w g z es R) {i j : Nat} {d : DV} (hd : cellAt es i j = some d) :
    ∃ u, w.cell? ⟨g, i * z + j, none⟩ = some u ∧ R d u := by
  obtain ⟨c, ty, hh, _, _, hc⟩ := h
  obtain ⟨u, hu, hr⟩ := hc i j d hd
  exact ⟨u, by rw [cell_blk hh]; exact hu, hr⟩

theorem Blk.mono {g z : Nat} {es : List (List DV)} {R R' : DV → Value → Prop} {w' : World} (h : Blk w g z es R) (hw : w'.heap[g]? = w.heap[g]?) (hR : ∀ d v, R d v → R' d v) : Blk w' g z es R' := by
  obtain ⟨c, ty, hh, h1, h2, hc⟩ := h
  exact ⟨c, ty, hw.trans hh, h1, h2, fun i j d hd => let ⟨v, hv, hr⟩ := hc i j d hd; ⟨v, hv, hR _ _ hr⟩⟩

/-- The cells of a live object. -/
theorem ORep.cells {h : Nat} {o : DObj} (ho : ORep K F σ hp w h o) (hd : o.k ≠ .dead) (hne : o.es ≠ []) :
    ∃ g, σ h = some g ∧ Blk w g o.z o.es (fun d v => VRep F σ hp w d v) := by
  unfold ORep at ho
  split at ho
  · exact absurd (by assumption) hd
  · rcases ho with ⟨h0, _⟩ | ⟨g, hg, _, _, hb⟩
    · exact absurd h0 hne
    · exact ⟨g, hg, hb.mono rfl fun d v h => .imm h.1⟩
  · rcases ho with ⟨h0, _⟩ | ⟨g, hg, _, hb⟩
    · exact absurd h0 hne
    · exact ⟨g, hg, hb.mono rfl fun d v h => .imm h.1⟩
  · obtain ⟨g, hg, _, _, hb⟩ := ho
    exact ⟨g, hg, hb⟩

theorem ORep.icells {h : Nat} {o : DObj} (ho : ORep K F σ hp w h o) (hd : o.k = .imm ∨ o.k = .frz) (hne : o.es ≠ []) :
    ∃ g, σ h = some g ∧ Blk w g o.z o.es (fun d v => IRep F w d v ∧ d.one = true) := by
  unfold ORep at ho
  rcases hd with hd | hd <;> rw [hd] at ho <;> dsimp only at ho
  · rcases ho with ⟨h0, _⟩ | ⟨g, hg, _, _, hb⟩
    · exact absurd h0 hne
    · exact ⟨g, hg, hb⟩
  · rcases ho with ⟨h0, _⟩ | ⟨g, hg, _, hb⟩
    · exact absurd h0 hne
    · exact ⟨g, hg, hb⟩

theorem cellAt_drop {es : List (List DV)} {i j k : Nat} {d : DV} (h : ((es.getD i []).drop j)[k]? = some d) : cellAt es i (j + k) = some d := by
  rw [List.getElem?_drop] at h
  unfold cellAt
  cases he : es[i]? with
  | none => simp [List.getD, he] at h
  | some e => simpa [List.getD, he] using h

theorem cellsAt_rep [Inhabited Env] (hs : SimH K F σ hp w) {d : DV} {v : Value} (hv : VRep F σ hp w d v) (h : (cellsAt hp d).1) :
    ∃ a, v = .pointer (some a) ∧ a.spot = none ∧ ∀ (j : Nat) (e : DV), (cellsAt hp d).2[j]? = some e → ∃ u, w.cell? ⟨a.block, a.off + j, none⟩ = some u ∧ VRep F σ hp w e u := by
  unfold cellsAt at h ⊢
  split at h
  · rename_i cs
    obtain ⟨a, rfl, h1, h2, h3⟩ := hv.ref_inv.ref_inv
    exact ⟨a, rfl, h1, fun j e he => let ⟨u, hu, _, hr⟩ := h3 j e he; ⟨u, hu, .imm hr⟩⟩
  · rename_i h' L i j
    obtain ⟨hh, ho⟩ := hv.ptr_inv
    cases hob : hp[h']? with
    | none => simp [hob] at h
    | some o =>
      simp only [hob] at h ⊢
      split at h
      · exact h.elim
      · rename_i hk
        simp only [if_neg hk]
        obtain ⟨hL, hi⟩ := h
        obtain ⟨g, hg, hv'⟩ := (ho o hob).2 hk hL
        obtain ⟨g', hg', hb⟩ := (hs.obj _ _ hob).cells hk (fun e => by rw [e] at hL; simp at hL; omega)
        rw [hg] at hg'; injection hg' with hg'; subst hg'
        refine ⟨_, hv', rfl, fun k e he => ?_⟩
        obtain ⟨u, hu, hr⟩ := hb.at_ (cellAt_drop he)
        exact ⟨u, by simpa [Nat.add_assoc] using hu, hr⟩
  · exact h.elim

theorem r_dload [Inhabited Env] (hs : SimH K F σ hp w) {t : TypeId} {sz : Option Nat} (hsz : szOf P t = some sz) {d : DV} {v : Value} (hv : VRep F σ hp w d v)
    (h : (dLoad sz (cellsAt hp d)).1) : ∃ u, (Instr.loadAt t v).run P w = .ok u w ∧ VRep F σ hp w (dLoad sz (cellsAt hp d)).2 u := by
  have h1 : (cellsAt hp d).1 := by cases sz <;> exact h.1
  obtain ⟨a, rfl, hs', hc⟩ := cellsAt_rep hs hv h1
  obtain ⟨u, hu, hr⟩ := r_load (P := P) hsz hs' hc (by cases sz <;> exact ⟨trivial, h.2⟩)
  refine ⟨u, by simp [Instr.loadAt, Instr.sureAddr, hu], ?_⟩
  cases sz with
  | none =>
    obtain ⟨d0, h0, hr⟩ := hr
    have : (cellsAt hp d).2.getD 0 .undef = d0 := by simp [List.getD, h0]
    simp only [dLoad, this]; exact hr
  | some n =>
    obtain ⟨vs, rfl, hn, hr⟩ := hr
    exact VRep.agg_mk (by simp [hn]; exact Nat.min_eq_left h.2) hr

theorem length_drop_take {α : Type} (l : List α) (off len : Nat) (h : off + len ≤ l.length) : ((l.drop off).take len).length = len := by simp; omega

theorem cellAt_take_drop {es : List (List DV)} {off len i j : Nat} {d : DV} (h : cellAt ((es.drop off).take len) i j = some d) : cellAt es (off + i) j = some d := by
  unfold cellAt at h ⊢
  rw [List.getElem?_take] at h
  split at h
  · rwa [List.getElem?_drop] at h
  · simp at h

/-- What the elements of a slice value are: where they lie. -/
theorem elemsOf_rep [Inhabited Env] (hs : SimH K F σ hp w) {d : DV} {v : Value} (hv : VRep F σ hp w d v) (h : (elemsOf hp d).pre) (hstr : ∀ s, d ≠ .str s) :
    ∃ A c z, v = .slice A (elemsOf hp d).es.length c ∧ (elemsOf hp d).es.length ≤ c ∧ (∀ (i : Nat) (e : List DV), (elemsOf hp d).es[i]? = some e → e.length = z) ∧
      ((elemsOf hp d).es ≠ [] → ∃ a, A = some a ∧ a.spot = none ∧ (F a.block ∨ ∃ h L off len, d = .own h L off len ∧ σ h = some a.block) ∧
        ∀ i j e, cellAt (elemsOf hp d).es i j = some e → ∃ u, w.cell? ⟨a.block, a.off + (i * z + j), none⟩ = some u ∧ e.one = true ∧ IRep F w e u) ∧ (A = none → (elemsOf hp d).es = []) := by
  unfold elemsOf at h ⊢
  split at h
  · have := hv.nil_inv; subst this
    exact ⟨none, 0, 0, rfl, Nat.le_refl _, fun i e he => by simp at he, fun h => absurd rfl h, fun _ => rfl⟩
  · rename_i es
    obtain ⟨A, c, z, rfl, hlc, h1, h2⟩ := hv.sl_inv.sl_inv
    refine ⟨A, c, z, rfl, hlc, h2, fun hne => ?_, fun hA => ?_⟩
    · obtain ⟨a, e1, e2, e3, e4⟩ := h1 hne
      exact ⟨a, e1, e2, .inl e3, e4⟩
    · by_cases hne : es = []
      · exact hne
      · obtain ⟨a, e1, _⟩ := h1 hne
        rw [hA] at e1; cases e1
  · rename_i h' L off len
    obtain ⟨hh, ho⟩ := hv.own_inv
    cases hob : hp[h']? with
    | none => simp [hob] at h
    | some o =>
      simp only [hob] at h ⊢
      split at h
      · rename_i hk
        simp only [if_pos hk]
        obtain ⟨hL, hlen⟩ := h
        have hkd : o.k ≠ .dead := by rcases hk with e | e <;> rw [e] <;> simp
        obtain ⟨A, cap, hv', hle, hA⟩ := (ho o hob).2 hkd hL
        have hl : ((o.es.drop off).take len).length = len := length_drop_take _ _ _ (by omega)
        have hzz : o.es ≠ [] → ∀ (i : Nat) (e : List DV), o.es[i]? = some e → e.length = o.z := fun hne => by
          obtain ⟨g', hg', c', ty, _, _, hz, _⟩ := (hs.obj _ _ hob).icells hk hne
          exact hz
        refine ⟨A, cap, o.z, by rw [hv', hl], by rw [hl]; exact hle, fun i e he => ?_, fun hne => ?_, fun hA' => ?_⟩
        · have hne : o.es ≠ [] := fun e' => by rw [e'] at he; simp at he
          rw [List.getElem?_take] at he
          split at he
          · rw [List.getElem?_drop] at he
            exact hzz hne _ _ he
          · cases he
        · have hlen0 : 0 < len := by
            rw [← hl]
            exact List.length_pos_iff.2 hne
          have hne' : o.es ≠ [] := fun e' => by rw [e'] at hne; simp at hne
          rcases hA with h0 | ⟨g, hg, rfl, hcap⟩
          · omega
          · obtain ⟨g', hg', hb⟩ := (hs.obj _ _ hob).icells hk hne'
            rw [hg] at hg'; injection hg' with hg'; subst hg'
            refine ⟨_, rfl, rfl, .inr ⟨h', L, off, len, rfl, hg⟩, fun i j e he => ?_⟩
            obtain ⟨u, hu, hr, h1⟩ := hb.at_ (cellAt_take_drop he)
            refine ⟨u, ?_, h1, hr⟩
            rw [← hu]
            congr 2
            rw [Nat.add_mul, Nat.add_assoc]
        · rcases hA with h0 | ⟨g, hg, rfl, hcap⟩
          · have : len = 0 := by omega
            subst this; simp
          · cases hA'
      · exact h.elim
  · rename_i s; exact absurd rfl (hstr s)
  · exact h.elim

/-- What an operation gives. -/
def Gives [Inhabited Env] (K F : Nat → Prop) (σ : Nat → Option Nat) (hp : List DObj) (w : World) (val : DV) (hp' : List DObj) (v : Value) (w' : World) : Prop :=
  ∃ F' σ', SimH K F' σ' hp' w' ∧ Moves K F w F' w' ∧ HM F σ hp w F' σ' hp' w' ∧ VRep F' σ' hp' w' val v

theorem Gives.same [Inhabited Env] (hs : SimH K F σ hp w) {d : DV} {v : Value} (h : VRep F σ hp w d v) : Gives K F σ hp w d hp v w :=
  ⟨F, σ, hs, .refl _ _ _, .refl _ _ _ _, h⟩
end
end Go.Nk
