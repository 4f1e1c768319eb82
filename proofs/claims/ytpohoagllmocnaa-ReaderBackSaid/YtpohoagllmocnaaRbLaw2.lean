/- What is written of many pieces; each is read back. -/
import Derived.Test.YtpohoagllmocnaaRb
import Derived.Test.YtpohoagllmocnaaWrWr2
set_option linter.unusedSimpArgs false
set_option linter.unusedVariables false
set_option maxRecDepth 20000
namespace Go.Proofs.Ytpohoagllmocnaa
open Go.Nk

def chunkOf (p : Piece) : WS := if p.d = 0 then wNum [] p.n p.z else if p.d = 1 then wLen [] (intF p.i) 1 else if p.d = 2 then wLen [] p.s 2 else wLen [] p.s 4
theorem wNum_nil (b : List UInt8) (k z : Int) : wNum b k z = (wNum [] k z).map (b ++ ·) := by
  unfold wNum
  split <;> simp
theorem wLen_nil (b c : List UInt8) (z : Int) : wLen b c z = (wLen [] c z).map (b ++ ·) := by
  unfold wLen
  rw [wNum_nil b]
  cases wNum [] c.length z <;> simp
def stepW (s : WS) (p : Piece) : WS := s.bind fun b => (chunkOf p).map (b ++ ·)
def wr (l : List Piece) : WS := l.foldl stepW (some [])
theorem wr_take {pl : List Piece} {k : Nat} {p : Piece} (h : pl[k]? = some p) : wr (pl.take (k + 1)) = stepW (wr (pl.take k)) p := by
  unfold wr
  rw [List.take_add_one, h, List.foldl_append]
  rfl
theorem step_none (l : List Piece) : l.foldl stepW none = none := by
  induction l with
  | nil => rfl
  | cons p r ih => exact ih
theorem step_pre : ∀ (l : List Piece) (b1 b : List UInt8), l.foldl stepW (some b1) = some b → ∃ post, b = b1 ++ post
  | [], b1, b, h => ⟨[], by rw [List.append_nil]; exact (Option.some.inj h).symm⟩
  | p :: r, b1, b, h => by
    rw [List.foldl_cons] at h
    cases hc : chunkOf p with
    | none =>
      have : stepW (some b1) p = none := by unfold stepW; rw [hc]; rfl
      rw [this, step_none] at h
      cases h
    | some c =>
      have : stepW (some b1) p = some (b1 ++ c) := by unfold stepW; rw [hc]; rfl
      rw [this] at h
      obtain ⟨post, e⟩ := step_pre r _ _ h
      exact ⟨c ++ post, by rw [e, List.append_assoc]⟩
/-- All that was written is, before each piece, what was; then the piece; then the rest. -/
theorem wr_at {pl : List Piece} {b : List UInt8} (hw : wr pl = some b) {k : Nat} {p : Piece} (h : pl[k]? = some p) :
    ∃ b1 c post, wr (pl.take k) = some b1 ∧ chunkOf p = some c ∧ wr (pl.take (k + 1)) = some (b1 ++ c) ∧ b = b1 ++ (c ++ post) := by
  have e : wr pl = (pl.drop (k + 1)).foldl stepW (wr (pl.take (k + 1))) := by
    unfold wr
    rw [← List.foldl_append, List.take_append_drop]
  rw [e] at hw
  cases h1 : wr (pl.take (k + 1)) with
  | none => rw [h1, step_none] at hw; cases hw
  | some b2 =>
    rw [h1] at hw
    obtain ⟨post, hb⟩ := step_pre _ _ _ hw
    rw [wr_take h] at h1
    cases h2 : wr (pl.take k) with
    | none => rw [h2] at h1; cases h1
    | some b1 =>
      rw [h2] at h1
      cases h3 : chunkOf p with
      | none => unfold stepW at h1; rw [h3] at h1; cases h1
      | some c =>
        have : stepW (some b1) p = some (b1 ++ c) := by unfold stepW; rw [h3]; rfl
        rw [this] at h1
        have h1' := Option.some.inj h1
        refine ⟨b1, c, post, rfl, rfl, by rw [h1'], ?_⟩
        rw [hb, ← h1', List.append_assoc]

/-- One piece back: the value, and the place. -/
theorem wNum_some {k z : Int} {c : List UInt8} (h : wNum [] k z = some c) : ¬ z < 1 ∧ ¬ 4 < z ∧ ¬ k < 0 ∧ ¬ ((256 ^ z.toNat : Nat) : Int) ≤ k ∧ c = putL k.toNat z.toNat := by
  unfold wNum at h
  split at h
  · cases h
  · rename_i hn
    refine ⟨fun x => hn (.inl x), fun x => hn (.inr (.inl x)), fun x => hn (.inr (.inr (.inl x))), fun x => hn (.inr (.inr (.inr x))), ?_⟩
    exact (Option.some.inj h).symm
theorem wLen_some {c e : List UInt8} {z : Int} (h : wLen [] c z = some e) : ¬ z < 1 ∧ ¬ 4 < z ∧ ¬ ((256 ^ z.toNat : Nat) : Int) ≤ (c.length : Int) ∧ e = putL c.length z.toNat ++ c := by
  unfold wLen at h
  split at h
  · rename_i b' hb
    obtain ⟨h1, h2, _, h4, h5⟩ := wNum_some hb
    refine ⟨h1, h2, h4, ?_⟩
    rw [h5] at h
    exact (Option.some.inj h).symm
  · cases h
theorem back_num {b1 c post : List UInt8} {k z : Int} (h : wNum [] k z = some c) :
    numV (some (b1 ++ (c ++ post), b1.length)) z = k ∧ nextS (some (b1 ++ (c ++ post), b1.length)) (szN z) = some (b1 ++ (c ++ post), (b1 ++ c).length) := by
  obtain ⟨h1, h2, h3, h4, rfl⟩ := wNum_some h
  have := num_back b1 post h1 h2 h3 h4
  rw [List.length_append, putL_length]
  exact this
theorem back_raw {b1 c e post : List UInt8} {z : Int} (h : wLen [] c z = some e) :
    rawV (some (b1 ++ (e ++ post), b1.length)) z = some c ∧ rawS (some (b1 ++ (e ++ post), b1.length)) z = some (b1 ++ (e ++ post), (b1 ++ e).length) := by
  obtain ⟨h1, h2, h4, rfl⟩ := wLen_some h
  have := raw_back b1 c post h1 h2 h4
  rw [List.length_append, List.length_append, putL_length, List.append_assoc, ← Nat.add_assoc]
  exact this
theorem back_int {b1 e post : List UInt8} {x : Int} (hx : -9223372036854775808 ≤ x ∧ x < 9223372036854775808) (h : wLen [] (intF x) 1 = some e) :
    intV (some (b1 ++ (e ++ post), b1.length)) = x ∧ intS (some (b1 ++ (e ++ post), b1.length)) = some (b1 ++ (e ++ post), (b1 ++ e).length) := by
  obtain ⟨h1, h2, h4, rfl⟩ := wLen_some h
  have := int_back b1 post hx
  rw [List.length_append, List.length_append, putL_length, List.append_assoc, ← Nat.add_assoc]
  exact this
end Go.Proofs.Ytpohoagllmocnaa
