/- What the document reads of an image's sections: types, kinds, ports. -/
import Derived.Test.YtfaailjhioobhaaGreatJmA
set_option linter.all false
set_option maxRecDepth 20000
namespace Go.Proofs.YtfaailjhioobhaaGreat
open Go.Nk

theorem qNumV_lt (r : QS) {z : Int} (h : z = 1 ∨ z = 2) : 0 ≤ qNumV r z ∧ qNumV r z < 65536 ∧ (z = 1 → qNumV r z < 256) := by
  obtain ⟨l, s⟩ := r
  rw [← numV_to]
  exact numV_lt _ h
def goQ {α : Type} (f : QS → α × QS) : Nat → QS → List α → List α × QS
  | 0, r, acc => (acc, r)
  | k + 1, r, acc => if r.2.isSome then goQ f k (f r).2 (acc ++ [(f r).1]) else (acc, r)
def someQ {α : Type} (f : QS → α × QS) (r : QS) (z : Int) : List α × QS := goQ f (qNumV r z).toNat (qS r (szN z)) []
theorem goQ_ok {α : Type} {f : QS → α × QS} (hf : ∀ r, okQ r → okQ (f r).2) : ∀ (k : Nat) (r : QS) (acc : List α), okQ r → okQ (goQ f k r acc).2
  | 0, _, _, h => h
  | k + 1, r, acc, h => by
    unfold goQ
    split
    · exact goQ_ok hf k _ _ (hf r h)
    · exact h
theorem someQ_ok {α : Type} {f : QS → α × QS} (hf : ∀ r, okQ r → okQ (f r).2) {r : QS} (h : okQ r) (z : Int) : okQ (someQ f r z).2 := goQ_ok hf _ _ _ (qS_ok _ h)
/-! What is behind. -/
section
variable {hp t u : List DObj} {m : Nat} {o o' a b c : DObj}
end

def tyQ (r : QS) : Ty × QS := (⟨qNumV r 1, qNumV (qS r (szN 1)) 1, qNumV (qS (qS r (szN 1)) (szN 1)) 1⟩, qS (qS (qS r (szN 1)) (szN 1)) (szN 1))
theorem tyQ_ok {r : QS} (h : okQ r) : okQ (tyQ r).2 := qS_ok _ (qS_ok _ (qS_ok _ h))
def kiQ (r : QS) : Int × QS := (qNumV r 2, qS r (szN 2))
def prQ (r : QS) : Prt × QS := (⟨(rqV r 2).getD [], (tyQ (rqS r 2)).1⟩, (tyQ (rqS r 2)).2)
theorem prQ_ok {r : QS} (h : okQ r) : okQ (prQ r).2 := tyQ_ok (rqS_ok 2 h)
end Go.Proofs.YtfaailjhioobhaaGreat

/- What the document reads of an image's sections: enums. -/
set_option linter.all false
set_option maxRecDepth 20000
namespace Go.Proofs.YtfaailjhioobhaaGreat
open Go.Nk

def txQ (r : QS) : List UInt8 × QS := ((rqV r 2).getD [], rqS r 2)
def enQ (r : QS) : En × QS := (⟨(rqV r 2).getD [], (someQ txQ (rqS r 2) 1).1⟩, (someQ txQ (rqS r 2) 1).2)
theorem enQ_ok {r : QS} (h : okQ r) : okQ (enQ r).2 := someQ_ok (fun _ h => rqS_ok 2 h) (rqS_ok 2 h) 1
end Go.Proofs.YtfaailjhioobhaaGreat

/- What the document reads of an image's sections: slots. -/
set_option linter.all false
set_option maxRecDepth 20000
namespace Go.Proofs.YtfaailjhioobhaaGreat
open Go.Nk

def inQ (r : QS) : Int × QS := (qIntV r, qIntS r)
def slQ (r : QS) : Slt × QS := (⟨(rqV r 2).getD [], (tyQ (rqS r 2)).1, 0, (someQ inQ (tyQ (rqS r 2)).2 1).1⟩, (someQ inQ (tyQ (rqS r 2)).2 1).2)
theorem slQ_ok {r : QS} (h : okQ r) : okQ (slQ r).2 := someQ_ok (fun _ h => qIntS_ok h) (tyQ_ok (rqS_ok 2 h)) 1
end Go.Proofs.YtfaailjhioobhaaGreat

/- The sections' contents, by the document. -/
set_option linter.all false
set_option maxRecDepth 20000
namespace Go.Proofs.YtfaailjhioobhaaGreat
open Go.Nk

structure SecR where
  f : Bool
  r : QS
  J : List DObj
  P : List (List DV)
  cs : List (List UInt8)
section
variable {hp J u : List DObj} {a b c d o' : DObj}
end
end Go.Proofs.YtfaailjhioobhaaGreat

/- What the document reads is not too great to be written. -/
set_option linter.all false
set_option maxRecDepth 20000
namespace Go.Proofs.YtfaailjhioobhaaGreat
open Go.Nk

def pos (r : QS) : Nat := r.2.getD r.1.length
theorem pos_le {r : QS} (h : okQ r) : pos r ≤ r.1.length := by
  obtain ⟨l, _ | a⟩ := r
  · exact Nat.le_refl _
  · exact h.1
theorem qV_pos {r : QS} (h : okQ r) (k : Int) : ((qV r k).getD []).length + pos r ≤ pos (qS r k) ∧ (qS r k).1 = r.1 := by
  have hp := pos_le h
  obtain ⟨l, _ | a⟩ := r
  · exact ⟨by simp [qV, qS, nxt, pos], rfl⟩
  · refine ⟨?_, rfl⟩
    unfold pos qV qS nxt at *
    simp only [Option.getD_some] at *
    split
    · simp only [Option.getD_some, List.length_drop, List.length_take]; omega
    · simp only [Option.getD_none, List.length_nil]; omega
theorem rqV_pos {r : QS} (h : okQ r) (k : Int) : ((rqV r k).getD []).length + pos r ≤ pos (rqS r k) ∧ (rqS r k).1 = r.1 := by
  have h1 := qV_pos h (szN k)
  have h2 := qV_pos (qS_ok (szN k) h) (qNumV r k)
  unfold rqV rqS
  exact ⟨by omega, h2.2.trans h1.2⟩
theorem qS_pos {r : QS} (h : okQ r) (k : Int) : pos r ≤ pos (qS r k) := by have := (qV_pos h k).1; omega
theorem int_pos {r : QS} (h : okQ r) : pos r ≤ pos (qIntS r) ∧ (qIntS r).1 = r.1 := by
  have hp := pos_le h
  have h1 := rqV_pos h 1
  have hn : pos r ≤ pos ((r.1, none) : QS) := hp
  unfold qIntS
  split
  · split
    · exact ⟨hn, rfl⟩
    · exact ⟨by omega, h1.2⟩
  · exact ⟨hn, rfl⟩
/-- A reader of one thing, that takes as many bytes as the thing is great, but for C. -/
structure Szd {α : Type} (f : QS → α × QS) (sz : α → Nat) (C : Nat) : Prop where
  ok : ∀ r, okQ r → okQ (f r).2
  le : ∀ r, okQ r → sz (f r).1 + pos r ≤ pos (f r).2 + C ∧ (f r).2.1 = r.1
theorem goQ_sz {α : Type} {f : QS → α × QS} {sz : α → Nat} {C : Nat} (hf : Szd f sz C) : ∀ (k : Nat) (r : QS) (acc : List α), okQ r → ((goQ f k r acc).1.map sz).sum + pos r ≤ (acc.map sz).sum + pos (goQ f k r acc).2 + k * C ∧ (goQ f k r acc).2.1 = r.1 ∧ (goQ f k r acc).1.length ≤ acc.length + k
  | 0, r, acc, _ => ⟨by simp [goQ], rfl, Nat.le_refl _⟩
  | k + 1, r, acc, h => by
    unfold goQ
    split
    · have ih := goQ_sz hf k (f r).2 (acc ++ [(f r).1]) (hf.ok r h)
      obtain ⟨l1, l2⟩ := hf.le r h
      simp only [List.map_append, List.map_cons, List.map_nil, List.sum_append, List.sum_cons, List.sum_nil, List.length_append, List.length_cons, List.length_nil] at ih
      rw [Nat.succ_mul]
      exact ⟨by omega, ih.2.1.trans l2, by omega⟩
    · exact ⟨Nat.le_add_right _ _, rfl, Nat.le_add_right _ _⟩
theorem someQ_sz {α : Type} {f : QS → α × QS} {sz : α → Nat} {C : Nat} (hf : Szd f sz C) {r : QS} (h : okQ r) {z : Int} (hz : z = 1 ∨ z = 2) :
    ((someQ f r z).1.map sz).sum + pos r ≤ pos (someQ f r z).2 + (qNumV r z).toNat * C ∧ (someQ f r z).2.1 = r.1 ∧ (someQ f r z).1.length ≤ (qNumV r z).toNat ∧ okQ (someQ f r z).2 := by
  have h1 := goQ_sz hf (qNumV r z).toNat (qS r (szN z)) [] (qS_ok _ h)
  have h2 := qV_pos h (szN z)
  have h3 := someQ_ok hf.ok h z
  simp only [List.map_nil, List.sum_nil, List.length_nil, Nat.zero_add] at h1
  unfold someQ at *
  exact ⟨by omega, h1.2.1.trans h2.2, h1.2.2, h3⟩
theorem goQ_all {α : Type} {f : QS → α × QS} {P : α → Prop} (hok : ∀ r, okQ r → okQ (f r).2) (hf : ∀ r, okQ r → P (f r).1) : ∀ (k : Nat) (r : QS) (acc : List α), okQ r → (∀ x ∈ acc, P x) → ∀ x ∈ (goQ f k r acc).1, P x
  | 0, _, _, _, h => h
  | k + 1, r, acc, hr, h => by
    unfold goQ
    split
    · refine goQ_all hok hf k _ _ (hok r hr) fun x hx => ?_
      rcases List.mem_append.1 hx with hx | hx
      · exact h x hx
      · rw [List.mem_singleton.1 hx]; exact hf r hr
    · exact h
theorem someQ_all {α : Type} {f : QS → α × QS} {P : α → Prop} (hok : ∀ r, okQ r → okQ (f r).2) (hf : ∀ r, okQ r → P (f r).1) {r : QS} (h : okQ r) (z : Int) : ∀ x ∈ (someQ f r z).1, P x := goQ_all hok hf _ _ _ (qS_ok _ h) (fun x hx => by cases hx)

theorem okI64_num (r : QS) {z : Int} (hz : z = 1 ∨ z = 2) : okI64 (qNumV r z) := by have := qNumV_lt r hz; unfold okI64; omega
theorem okI64_int (r : QS) : okI64 (qIntV r) := by
  unfold qIntV
  split
  · rename_i b _
    split
    · unfold okI64; omega
    · rename_i hb
      have := (oct_back b (by simpa using hb)).2
      exact this
  · unfold okI64; omega
theorem ok3_ty (r : QS) : ok3 (tyQ r).1 := ⟨okI64_num _ (.inl rfl), okI64_num _ (.inl rfl), okI64_num _ (.inl rfl)⟩
theorem ty_pos {r : QS} (h : okQ r) : pos r ≤ pos (tyQ r).2 ∧ (tyQ r).2.1 = r.1 := by
  have h1 := qS_pos h (szN 1)
  have k1 := qS_ok (szN 1) h
  have h2 := qS_pos k1 (szN 1)
  have h3 := qS_pos (qS_ok (szN 1) k1) (szN 1)
  exact ⟨by unfold tyQ; simp only; omega, rfl⟩
theorem sz_tx : Szd txQ (fun c => c.length + 4) 4 := ⟨fun _ h => rqS_ok 2 h, fun r h => by have := rqV_pos h 2; exact ⟨by unfold txQ; simp only; omega, this.2⟩⟩
theorem num255 (r : QS) : (qNumV r 1).toNat ≤ 255 := by have := (qNumV_lt r (z := 1) (.inl rfl)).2.2 rfl; omega
theorem sz_en : Szd enQ szEn 1028 := ⟨fun _ h => enQ_ok h, fun r h => by
  have h1 := rqV_pos h 2
  have h2 := someQ_sz sz_tx (rqS_ok 2 h) (z := 1) (.inl rfl)
  have h3 := num255 (rqS r 2)
  unfold enQ szEn szCt
  simp only
  exact ⟨by omega, h2.2.1.trans h1.2⟩⟩
theorem sz_pr : Szd prQ szPrt 16 := ⟨fun _ h => prQ_ok h, fun r h => by
  have h1 := rqV_pos h 2
  have h2 := ty_pos (rqS_ok 2 h)
  unfold prQ szPrt
  simp only
  exact ⟨by omega, h2.2.trans h1.2⟩⟩
theorem sz_in : Szd inQ (fun _ => 0) 0 := ⟨fun _ h => qIntS_ok h, fun r h => by have := int_pos h; exact ⟨by unfold inQ; simp only; omega, this.2⟩⟩
theorem sz_ki : Szd kiQ (fun _ => 0) 0 := ⟨fun _ h => qS_ok _ h, fun r h => by have := qS_pos h (szN 2); exact ⟨by unfold kiQ; simp only; omega, rfl⟩⟩
theorem sum_zero {α : Type} (l : List α) : (l.map fun _ => 0).sum = 0 := by induction l with
  | nil => rfl
  | cons x l ih => simpa using ih
theorem sz_sl : Szd slQ szSlt 3100 := ⟨fun _ h => slQ_ok h, fun r h => by
  have h1 := rqV_pos h 2
  have k1 := rqS_ok 2 h
  have h2 := ty_pos k1
  have h3 := someQ_sz sz_in (tyQ_ok k1) (z := 1) (.inl rfl)
  have h4 := num255 (tyQ (rqS r 2)).2
  rw [sum_zero] at h3
  unfold slQ szSlt
  simp only
  exact ⟨by omega, h3.2.1.trans (h2.2.trans h1.2)⟩⟩

def imgQ (cs : List (List UInt8)) : Img := ⟨(someQ enQ (cs.getD 0 [], some 0) 1).1, (someQ prQ (cs.getD 1 [], some 0) 1).1, (someQ prQ (cs.getD 2 [], some 0) 1).1, atF 0 (someQ slQ (cs.getD 3 [], some 0) 1).1, (someQ kiQ (cs.getD 4 [], some 0) 2).1, (getI (cs.getD 5 [])).getD []⟩
theorem okQ_0 {c : List UInt8} (h : c.length ≤ 131072) : okQ (c, some 0) := ⟨Nat.zero_le _, by unfold ok62; simp only; omega⟩
theorem szSlt_at : ∀ (a : Int) (l : List Slt), ((atF a l).map szSlt).sum = (l.map szSlt).sum
  | _, [] => rfl
  | a, s :: r => by simp only [atF, List.map_cons, List.sum_cons, szSlt_at _ r]; rfl
theorem atF_all {P : Slt → Prop} (hP : ∀ s a, P s → P ⟨s.path, s.ty, a, s.ini⟩) : ∀ (a : Int) (l : List Slt), (∀ s ∈ l, P s) → ∀ s ∈ atF a l, P s
  | _, [], _ => fun s hs => by cases hs
  | a, s :: r, h => fun x hx => by
    simp only [atF, List.mem_cons] at hx
    rcases hx with rfl | hx
    · exact hP s a (h s (by simp))
    · exact atF_all hP _ r (fun y hy => h y (by simp [hy])) x hx
theorem okIns_get (c : List UInt8) : okIns ((getI c).getD []) := by
  cases h : getI c with
  | none => exact ⟨by simp, fun x hx => by simp at hx⟩
  | some m =>
    obtain ⟨_, h2, h3⟩ := get_put h
    exact ⟨by simp only [Option.getD_some]; omega, h2⟩
theorem imgQ_enc {cs : List (List UInt8)} (h : ∀ i, (cs.getD i []).length ≤ 131072) : okEnc (imgQ cs) := by
  have h0 := okQ_0 (h 0)
  have h1 := okQ_0 (h 1)
  have h2 := okQ_0 (h 2)
  have h3 := okQ_0 (h 3)
  have h4 := okQ_0 (h 4)
  have b0 := h 0
  have b1 := h 1
  have b2 := h 2
  have b3 := h 3
  have e0 := someQ_sz sz_en h0 (z := 1) (.inl rfl)
  have e1 := someQ_sz sz_pr h1 (z := 1) (.inl rfl)
  have e2 := someQ_sz sz_pr h2 (z := 1) (.inl rfl)
  have e3 := someQ_sz sz_sl h3 (z := 1) (.inl rfl)
  have e4 := someQ_sz sz_ki h4 (z := 2) (.inr rfl)
  have p0 := pos_le e0.2.2.2
  have p1 := pos_le e1.2.2.2
  have p2 := pos_le e2.2.2.2
  have p3 := pos_le e3.2.2.2
  rw [e0.2.1] at p0
  rw [e1.2.1] at p1
  rw [e2.2.1] at p2
  rw [e3.2.1] at p3
  have n0 := num255 (cs.getD 0 [], some 0)
  have n1 := num255 (cs.getD 1 [], some 0)
  have n2 := num255 (cs.getD 2 [], some 0)
  have n3 := num255 (cs.getD 3 [], some 0)
  have n4 := (qNumV_lt (cs.getD 4 [], some 0) (z := 2) (.inr rfl)).2.1
  have s0 : szEns (imgQ cs).en ≤ 500000 := by unfold szEns imgQ; simp only at *; omega
  have s1 : szPrts (imgQ cs).ins ≤ 200000 := by unfold szPrts imgQ; simp only at *; omega
  have s2 : szPrts (imgQ cs).outs ≤ 200000 := by unfold szPrts imgQ; simp only at *; omega
  have s3 : szSlts (imgQ cs).slots ≤ 1000000 := by unfold szSlts imgQ; simp only [szSlt_at] at *; omega
  have l0 : (imgQ cs).en.length ≤ 255 := by unfold imgQ; simp only; omega
  have l1 : (imgQ cs).ins.length ≤ 255 := by unfold imgQ; simp only; omega
  have l2 : (imgQ cs).outs.length ≤ 255 := by unfold imgQ; simp only; omega
  have l3 : (imgQ cs).slots.length ≤ 255 := by unfold imgQ; simp only [atF_len]; omega
  have l4 : (imgQ cs).loc.length ≤ 65535 := by unfold imgQ; simp only; omega
  refine ⟨⟨⟨by omega, by omega, ?_⟩, ⟨by omega, by omega, ?_⟩, ⟨by omega, by omega, ?_⟩, ⟨by omega, by omega, ?_⟩, ⟨by omega, by omega, ?_⟩, okIns_get _⟩, by omega⟩
  · refine someQ_all (fun r h => enQ_ok h) (fun r h => ?_) h0 1
    have := (someQ_sz sz_tx (rqS_ok 2 h) (z := 1) (.inl rfl)).2.2.1
    have h3 := num255 (rqS r 2)
    unfold enQ; simp only; omega
  · exact someQ_all (fun r h => prQ_ok h) (fun r h => ok3_ty _) h1 1
  · exact someQ_all (fun r h => prQ_ok h) (fun r h => ok3_ty _) h2 1
  · refine atF_all (P := fun s => ok3 s.ty ∧ s.ini.length ≤ 1000000000 ∧ ∀ n ∈ s.ini, okI64 n) (fun s a h => h) _ _ (someQ_all (fun r h => slQ_ok h) (fun r h => ⟨ok3_ty _, ?_, ?_⟩) h3 1)
    · have := (someQ_sz sz_in (tyQ_ok (rqS_ok 2 h)) (z := 1) (.inl rfl)).2.2.1
      have h3 := num255 (tyQ (rqS r 2)).2
      unfold slQ; simp only; omega
    · exact someQ_all (fun r h => qIntS_ok h) (fun r h => okI64_int r) (tyQ_ok (rqS_ok 2 h)) 1
  · exact someQ_all (fun r h => qS_ok _ h) (fun r h => okI64_num r (.inr rfl)) h4 2
end Go.Proofs.YtfaailjhioobhaaGreat

/- Decode, by the document. -/
set_option linter.all false
set_option maxRecDepth 20000
namespace Go.Proofs.YtfaailjhioobhaaGreat
open Go.Nk

theorem partsG_none : ∀ (k : Nat) (i : Int) (acc : List (List UInt8)), (partsG k i none acc).2 = false
  | 0, _, _ => rfl
  | k + 1, i, acc => by
    unfold partsG
    split
    · exact partsG_none k _ _
    · rfl
def decBR (body b : List UInt8) : Img × Int := if (partsF (body.drop 4)).2 then (if (getI ((partsF (body.drop 4)).1.getD 5 [])).isSome && encF (imgQ (partsF (body.drop 4)).1) == some b then (imgQ (partsF (body.drop 4)).1, 0) else (img0, 11)) else (img0, 11)
def decR (b : List UInt8) : Img × Int := if 131072 < b.length then (img0, 3) else if b.length < 8 ∨ ¬ b.take 4 = magicB then (img0, 11) else if (openF b).isSome then decBR (openB b) b else (img0, 12)
end Go.Proofs.YtfaailjhioobhaaGreat

