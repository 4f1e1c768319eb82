/- What is read, and the bytes it stands for: the one gives the other back. -/
import Derived.Test.YtfaailjhioobhaaGreatJmG
import Derived.Test.YtfaailjhioobhaaGreatSlA
set_option linter.all false
set_option maxRecDepth 20000
namespace Go.Proofs.YtfaailjhioobhaaGreat
open Go.Nk

/-- A reader of things whose bytes are b, if V. -/
structure Cod {α : Type} (f : RS → α × RS) (b : α → List UInt8) (V : α → Prop) : Prop where
  src : ∀ r l a', (f r).2 = some (l, a') → ∃ a, r = some (l, a)
  back : ∀ l a x, AtB l a (b x) → V x → f (some (l, a)) = (x, some (l, a + (b x).length))
  inv : ∀ l a x a', f (some (l, a)) = (x, some (l, a')) → a' = a + (b x).length ∧ a' ≤ l.length ∧ AtB l a (b x) ∧ V x
theorem nextS_src {r : RS} {k : Int} {l : List UInt8} {a' : Nat} (h : nextS r k = some (l, a')) : ∃ a, r = some (l, a) := by
  rcases r with _ | ⟨l0, a0⟩
  · cases h
  · obtain ⟨b, hb⟩ := nextS_fst h
    simp only [Prod.mk.injEq] at hb
    obtain ⟨rfl, _⟩ := hb
    exact ⟨a0, rfl⟩
theorem rawS_src {r : RS} {k : Int} {l : List UInt8} {a' : Nat} (h : rawS r k = some (l, a')) : ∃ a, r = some (l, a) := by
  obtain ⟨b, hb⟩ := nextS_src h
  exact nextS_src hb
theorem intS_src {r : RS} {l : List UInt8} {a' : Nat} (h : intS r = some (l, a')) : ∃ a, r = some (l, a) := by
  unfold intS at h
  split at h
  · split at h
    · cases h
    · exact rawS_src h
  · cases h
def numO (z : Int) (r : RS) : Int × RS := (numV r z, nextS r (szN z))
theorem cod_num {z : Int} (hz : z = 1 ∨ z = 2) : Cod (numO z) (fun n => putL n.toNat z.toNat) (fun n => 0 ≤ n ∧ n < 256 ^ z.toNat) where
  src r l a' h := nextS_src h
  back l a x h hx := by
    obtain ⟨h1, h2⟩ := at_num h hz hx
    simp only [numO, h1, h2, putL_length]
  inv l a x a' h := by
    simp only [numO, Prod.mk.injEq] at h
    obtain ⟨rfl, h⟩ := h
    obtain ⟨h1, h2, h3, h4⟩ := num_inv hz h
    refine ⟨by simp only [putL_length]; exact h1, h2, h3, h4, ?_⟩
    have := numV_lt (some (l, a)) hz
    rcases hz with rfl | rfl
    · have e := this.2.2 rfl
      have : (256 : Int) ^ (1 : Int).toNat = 256 := rfl
      omega
    · have e := this.2.1
      have : (256 : Int) ^ (2 : Int).toNat = 65536 := rfl
      omega
theorem cod_int : Cod inO intL okI64 where
  src r l a' h := intS_src h
  back l a x h hx := by
    obtain ⟨h1, h2⟩ := at_int h hx
    simp only [inO, h1, h2]
  inv l a x a' h := by
    simp only [inO, Prod.mk.injEq] at h
    obtain ⟨rfl, h⟩ := h
    exact int_inv h
theorem nxt_at {l c : List UInt8} {a : Nat} (h : AtB l a c) : nxt l (some a) (c.length : Int) = (some c, some (a + c.length)) := by
  obtain ⟨pre, post, rfl, rfl⟩ := h
  unfold nxt
  simp only [List.length_append, Int.toNat_natCast]
  rw [if_pos (by omega)]
  simp [List.take_append]
theorem cod_text : Cod txO (fun c => putL c.length 2 ++ c) (fun c => c.length < 65536) where
  src r l a' h := rawS_src h
  back l a x h hx := by
    obtain ⟨h1, h2⟩ := h.app
    rw [putL_length] at h2
    have h1' : AtB l a (putL ((x.length : Int)).toNat (2 : Int).toNat) := h1
    have e2 : (256 : Int) ^ (2 : Int).toNat = 65536 := rfl
    obtain ⟨n1, n2⟩ := at_num h1' (.inr rfl) (by rw [e2]; omega)
    have n2 : nextS (some (l, a)) (szN 2) = some (l, a + 2) := n2
    have q := nxt_at h2
    have t1 : textV (some (l, a)) = x := by
      unfold textV rawV
      rw [n2, n1]
      unfold nextV
      simp only [q, Option.getD_some]
    have t2 : rawS (some (l, a)) 2 = some (l, a + 2 + x.length) := by
      unfold rawS
      rw [n2, n1]
      unfold nextS
      simp only [q, toP, Option.map_some]
    simp only [txO, t1, t2, List.length_append, putL_length, Nat.add_assoc]
  inv l a x a' h := by
    simp only [txO, Prod.mk.injEq] at h
    obtain ⟨hx, h⟩ := h
    unfold rawS at h
    cases h1 : nextS (some (l, a)) (szN 2) with
    | none => rw [h1] at h; cases h
    | some q =>
      obtain ⟨b, rfl⟩ := nextS_fst h1
      obtain ⟨n1, n2, n3, n4⟩ := num_inv (.inr rfl) h1
      have hlt := (numV_lt (some (l, a)) (z := 2) (.inr rfl)).2.1
      unfold textV rawV at hx
      rw [h1] at h hx
      generalize numV (some (l, a)) 2 = k at h hx n3 n4 hlt
      have h2 : (nxt l (some b) k).2 = some a' := by
        unfold nextS toP at h
        cases w : (nxt l (some b) k).2 with
        | none => simp [w] at h
        | some d => simp [w] at h; rw [h]
      obtain ⟨m1, m2, m3, m4⟩ := nxt_inv h2
      have hc : x = (l.take a').drop b := by
        unfold nextV at hx
        simp only [m4, Option.getD_some] at hx
        exact hx.symm
      have hlen : x.length = k.toNat := by rw [hc, List.length_drop, List.length_take]; omega
      have g : AtB l b x := by rw [hc]; exact at_part (by omega) m3
      have h2n : (2 : Int).toNat = 2 := rfl
      rw [h2n] at n1 n3
      rw [← hlen] at n3
      refine ⟨by rw [List.length_append, putL_length]; omega, m3, n3.join ?_, by omega⟩
      rw [putL_length, ← n1]
      exact g
theorem cod_seq {α β : Type} {f : RS → α × RS} {g : RS → β × RS} {b : α → List UInt8} {c : β → List UInt8} {V : α → Prop} {W : β → Prop} (hf : Cod f b V) (hg : Cod g c W) :
    Cod (fun r => (((f r).1, (g (f r).2).1), (g (f r).2).2)) (fun x => b x.1 ++ c x.2) (fun x => V x.1 ∧ W x.2) where
  src r l a' h := by
    obtain ⟨a1, h1⟩ := hg.src _ l a' h
    exact hf.src r l a1 h1
  back l a x h hx := by
    obtain ⟨h1, h2⟩ := h.app
    have e1 := hf.back l a x.1 h1 hx.1
    have e2 := hg.back l _ x.2 h2 hx.2
    simp only [e1, e2, List.length_append, Nat.add_assoc]
  inv l a x a' h := by
    simp only [Prod.mk.injEq] at h
    obtain ⟨hx, h⟩ := h
    obtain ⟨a1, h1⟩ := hg.src _ l a' h
    have e1 := hf.inv l a (f (some (l, a))).1 a1 (by rw [← h1])
    rw [h1] at h hx
    have e2 := hg.inv l a1 (g (some (l, a1))).1 a' (by rw [← h])
    subst hx
    simp only
    refine ⟨by rw [List.length_append]; omega, e2.2.1, e1.2.2.1.join ?_, e1.2.2.2, e2.2.2.2⟩
    rw [← e1.1]
    exact e2.2.2.1
theorem cod_map {α β : Type} {f : RS → α × RS} {b : α → List UInt8} {V : α → Prop} (hf : Cod f b V) (m : α → β) (m' : β → α) (hm : ∀ x, m' (m x) = x) :
    Cod (fun r => (m (f r).1, (f r).2)) (fun y => b (m' y)) (fun y => V (m' y) ∧ m (m' y) = y) where
  src r l a' h := hf.src r l a' h
  back l a x h hx := by
    have e1 := hf.back l a (m' x) h hx.1
    simp only [e1, hx.2]
  inv l a x a' h := by
    simp only [Prod.mk.injEq] at h
    obtain ⟨rfl, h⟩ := h
    have e1 := hf.inv l a (f (some (l, a))).1 a' (by rw [← h])
    rw [hm]
    exact ⟨e1.1, e1.2.1, e1.2.2.1, e1.2.2.2, rfl⟩
theorem goF_src {α : Type} {f : RS → α × RS} (hf : ∀ r l a', (f r).2 = some (l, a') → ∃ a, r = some (l, a)) : ∀ (k : Nat) (r : RS) (acc : List α) (l : List UInt8) (a' : Nat), (goF f k r acc).2 = some (l, a') → ∃ a, r = some (l, a)
  | 0, r, _, l, a', h => ⟨a', h⟩
  | k + 1, r, acc, l, a', h => by
    unfold goF at h
    split at h
    · obtain ⟨a1, h1⟩ := goF_src hf k _ _ l a' h
      exact hf r l a1 h1
    · cases h
theorem goF_back {α : Type} {f : RS → α × RS} {b : α → List UInt8} {V : α → Prop} (hf : Cod f b V) (l : List UInt8) : ∀ (xs : List α) (a : Nat) (acc : List α), AtB l a (xs.flatMap b) → (∀ x ∈ xs, V x) → goF f xs.length (some (l, a)) acc = (acc ++ xs, some (l, a + (xs.flatMap b).length))
  | [], a, acc, _, _ => by simp [goF]
  | x :: xs, a, acc, h, hV => by
    rw [List.flatMap_cons] at h
    obtain ⟨h1, h2⟩ := h.app
    have e1 := hf.back l a x h1 (hV x (by simp))
    have ih := goF_back hf l xs _ (acc ++ [x]) h2 fun y hy => hV y (by simp [hy])
    rw [List.length_cons]
    unfold goF
    rw [e1]
    simp only [Option.isSome_some, ↓reduceIte]
    rw [ih]
    simp [Nat.add_assoc]
theorem goF_inv {α : Type} {f : RS → α × RS} {b : α → List UInt8} {V : α → Prop} (hf : Cod f b V) (l : List UInt8) : ∀ (k : Nat) (a : Nat) (acc ys : List α) (a' : Nat), a ≤ l.length → goF f k (some (l, a)) acc = (ys, some (l, a')) → ∃ xs, ys = acc ++ xs ∧ xs.length = k ∧ a' = a + (xs.flatMap b).length ∧ a' ≤ l.length ∧ AtB l a (xs.flatMap b) ∧ ∀ x ∈ xs, V x
  | 0, a, acc, ys, a', ha, h => by
    simp only [goF, Prod.mk.injEq, Option.some.injEq, true_and] at h
    obtain ⟨rfl, rfl⟩ := h
    exact ⟨[], by simp, rfl, by simp, ha, ⟨l.take a, l.drop a, by simp, by simp; omega⟩, fun x hx => by cases hx⟩
  | k + 1, a, acc, ys, a', ha, h => by
    unfold goF at h
    split at h
    · have h2 : (goF f k (f (some (l, a))).2 (acc ++ [(f (some (l, a))).1])).2 = some (l, a') := by rw [h]
      obtain ⟨a1, h1⟩ := goF_src hf.src _ _ _ _ _ h2
      have e1 := hf.inv l a (f (some (l, a))).1 a1 (by rw [← h1])
      rw [h1] at h
      obtain ⟨xs, e2, e3, e4, e5, e6, e7⟩ := goF_inv hf l k a1 _ ys a' e1.2.1 h
      refine ⟨(f (some (l, a))).1 :: xs, by rw [e2]; simp, by simp [e3], ?_, e5, ?_, fun y hy => ?_⟩
      · rw [List.flatMap_cons, List.length_append]; omega
      · rw [List.flatMap_cons]
        refine e1.2.2.1.join ?_
        rw [← e1.1]
        exact e6
      · rcases List.mem_cons.1 hy with rfl | hy
        · exact e1.2.2.2
        · exact e7 y hy
    · simp only [Prod.mk.injEq, reduceCtorEq, and_false] at h
theorem cod_list {α : Type} {f : RS → α × RS} {b : α → List UInt8} {V : α → Prop} (hf : Cod f b V) {z : Int} (hz : z = 1 ∨ z = 2) :
    Cod (fun r => someF f r z) (fun xs => putL xs.length z.toNat ++ xs.flatMap b) (fun xs => (xs.length : Int) < 256 ^ z.toNat ∧ ∀ x ∈ xs, V x) where
  src r l a' h := by
    obtain ⟨a1, h1⟩ := goF_src hf.src _ _ _ _ _ h
    exact nextS_src h1
  back l a x h hx := by
    obtain ⟨h1, h2⟩ := h.app
    have h1' : AtB l a (putL ((x.length : Int)).toNat z.toNat) := h1
    obtain ⟨n1, n2⟩ := at_num h1' hz ⟨by omega, hx.1⟩
    rw [putL_length] at h2
    have ih := goF_back hf l x _ [] h2 hx.2
    simp only [someF, n1, n2, Int.toNat_natCast, ih, List.nil_append, List.length_append, putL_length, Nat.add_assoc]
  inv l a x a' h := by
    have h2 : (someF f (some (l, a)) z).2 = some (l, a') := by rw [h]
    obtain ⟨a1, h1⟩ := goF_src hf.src _ _ _ _ _ h2
    have e1 := (cod_num hz).inv l a (numV (some (l, a)) z) a1 (by unfold numO; rw [h1])
    unfold someF at h
    rw [h1] at h
    obtain ⟨xs, e2, e3, e4, e5, e6, e7⟩ := goF_inv hf l _ a1 _ x a' e1.2.1 h
    rw [List.nil_append] at e2
    subst e2
    have hn : (numV (some (l, a)) z).toNat = x.length := e3.symm
    have e1b := e1.1
    have e1c := e1.2.2.1
    simp only [hn, putL_length] at e1b e1c
    refine ⟨by rw [List.length_append, putL_length]; omega, e5, e1c.join ?_, ?_, e7⟩
    · rw [putL_length, ← e1b]
      exact e6
    · have := e1.2.2.2
      omega

def bTx (c : List UInt8) : List UInt8 := putL c.length 2 ++ c
def bTy (t : Ty) : List UInt8 := putL t.k.toNat 1 ++ (putL t.e.toNat 1 ++ putL t.n.toNat 1)
def vN (k : Int) : Prop := 0 ≤ k ∧ k < 256
def vTy (t : Ty) : Prop := vN t.k ∧ vN t.e ∧ vN t.n
theorem cod_n1 : Cod (numO 1) (fun n => putL n.toNat 1) vN := cod_num (.inl rfl)
theorem cod_ty : Cod tyO bTy vTy := by
  have h := cod_map (cod_seq cod_n1 (cod_seq cod_n1 cod_n1)) (fun x => (⟨x.1, x.2.1, x.2.2⟩ : Ty)) (fun t => (t.k, t.e, t.n)) (fun _ => rfl)
  exact ⟨h.src, fun l a x h1 h2 => h.back l a x h1 ⟨h2, rfl⟩, fun l a x a' h1 => let ⟨e1, e2, e3, e4, _⟩ := h.inv l a x a' h1; ⟨e1, e2, e3, e4⟩⟩
def bEn (e : En) : List UInt8 := bTx e.name ++ (putL e.ct.length 1 ++ e.ct.flatMap bTx)
def vTx (c : List UInt8) : Prop := c.length < 65536
def vEn (e : En) : Prop := vTx e.name ∧ ((e.ct.length : Int) < 256 ∧ ∀ c ∈ e.ct, vTx c)
theorem cod_en : Cod enO bEn vEn := by
  have h := cod_map (cod_seq cod_text (cod_list cod_text (z := 1) (.inl rfl))) (fun x => (⟨x.1, x.2⟩ : En)) (fun t => (t.name, t.ct)) (fun _ => rfl)
  exact ⟨h.src, fun l a x h1 h2 => h.back l a x h1 ⟨h2, rfl⟩, fun l a x a' h1 => let ⟨e1, e2, e3, e4, _⟩ := h.inv l a x a' h1; ⟨e1, e2, e3, e4⟩⟩
def bPrt (p : Prt) : List UInt8 := bTx p.name ++ bTy p.ty
def vPrt (p : Prt) : Prop := vTx p.name ∧ vTy p.ty
theorem cod_pr : Cod prO bPrt vPrt := by
  have h := cod_map (cod_seq cod_text cod_ty) (fun x => (⟨x.1, x.2⟩ : Prt)) (fun t => (t.name, t.ty)) (fun _ => rfl)
  exact ⟨h.src, fun l a x h1 h2 => h.back l a x h1 ⟨h2, rfl⟩, fun l a x a' h1 => let ⟨e1, e2, e3, e4, _⟩ := h.inv l a x a' h1; ⟨e1, e2, e3, e4⟩⟩
def bSlt (s : Slt) : List UInt8 := bTx s.path ++ (bTy s.ty ++ (putL s.ini.length 1 ++ s.ini.flatMap intL))
def wSlt (s : Slt) : Prop := vTx s.path ∧ (vTy s.ty ∧ (s.ini.length : Int) < 256)
def vSlt (s : Slt) : Prop := wSlt s ∧ (∀ n ∈ s.ini, okI64 n) ∧ s.at_ = 0
theorem cod_sl : Cod slO bSlt vSlt := by
  have h := cod_map (cod_seq cod_text (cod_seq cod_ty (cod_list cod_int (z := 1) (.inl rfl)))) (fun x => (⟨x.1, x.2.1, 0, x.2.2⟩ : Slt)) (fun t => (t.path, t.ty, t.ini)) (fun _ => rfl)
  refine ⟨h.src, fun l a x h1 h2 => h.back l a x h1 ⟨⟨h2.1.1, h2.1.2.1, h2.1.2.2, h2.2.1⟩, ?_⟩, fun l a x a' h1 => let ⟨e1, e2, e3, e4, e5⟩ := h.inv l a x a' h1; ⟨e1, e2, e3, ⟨e4.1, e4.2.1, e4.2.2.1⟩, e4.2.2.2, ?_⟩⟩
  · obtain ⟨_, _, h3⟩ := h2
    obtain ⟨p, t, a0, i⟩ := x
    simp only at h3 ⊢
    rw [h3]
  · rw [← e5]
end Go.Proofs.YtfaailjhioobhaaGreat

/- What writers of sections write, and if; the sections one behind the other. -/
set_option linter.all false
set_option maxRecDepth 20000
namespace Go.Proofs.YtfaailjhioobhaaGreat
open Go.Nk

/-- A writer of things: it writes b, if V, and else goes wrong. -/
structure Wri {α : Type} (st : SW → α → SW) (b : α → List UInt8) (V : α → Prop) : Prop where
  ok : ∀ (s : List UInt8) x, V x → st ⟨s, true⟩ x = ⟨s ++ b x, true⟩
  no : ∀ (s : List UInt8) x, ¬ V x → (st ⟨s, true⟩ x).ok = false
  bad : ∀ (s : SW) x, s.ok = false → (st s x).ok = false
theorem nxW_bad {s : SW} {f : List UInt8 → WS} (h : s.ok = false) : (nxW s f).ok = false := by
  unfold nxW
  rw [if_neg (by rw [h]; decide)]
  exact h
theorem nxW_ok {s : List UInt8} {f : List UInt8 → WS} {b : List UInt8} (h : f s = some b) : nxW ⟨s, true⟩ f = ⟨b, true⟩ := by
  unfold nxW
  simp only [↓reduceIte, h]
theorem nxW_no {s : List UInt8} {f : List UInt8 → WS} (h : f s = none) : (nxW ⟨s, true⟩ f).ok = false := by
  unfold nxW
  simp only [↓reduceIte, h]
theorem wri_num {z : Int} (hz : z = 1 ∨ z = 2) : Wri (fun s k => stNum k z s) (fun k => putL k.toNat z.toNat) (fun n => 0 ≤ n ∧ n < 256 ^ z.toNat) where
  ok s x h := by
    refine nxW_ok ?_
    unfold wNum
    rw [if_neg]
    have := h.2
    push_cast
    omega
  no s x h := by
    refine nxW_no ?_
    unfold wNum
    rw [if_pos]
    push_cast
    omega
  bad s x h := nxW_bad h
theorem wri_text : Wri (fun s c => stText c s) bTx vTx where
  ok s x h := by
    refine nxW_ok ?_
    unfold wLen wNum
    unfold vTx at h
    have e : (256 : Nat) ^ (2 : Int).toNat = 65536 := rfl
    rw [if_neg (by rw [e]; omega)]
    simp only [bTx, Int.toNat_natCast, List.append_assoc]
    rfl
  no s x h := by
    refine nxW_no ?_
    unfold wLen wNum
    unfold vTx at h
    have e : (256 : Nat) ^ (2 : Int).toNat = 65536 := rfl
    rw [if_pos (by rw [e]; omega)]
  bad s x h := nxW_bad h
theorem wri_int : Wri (fun s n => stInt n s) intL (fun _ => True) where
  ok s x _ := nxW_ok (wLen_int s x)
  no s x h := absurd trivial h
  bad s x h := nxW_bad h
theorem wri_seq {α β : Type} {f : SW → α → SW} {g : SW → β → SW} {b : α → List UInt8} {c : β → List UInt8} {V : α → Prop} {W : β → Prop} (hf : Wri f b V) (hg : Wri g c W) :
    Wri (fun s (x : α × β) => g (f s x.1) x.2) (fun x => b x.1 ++ c x.2) (fun x => V x.1 ∧ W x.2) where
  ok s x h := by
    rw [hf.ok s x.1 h.1, hg.ok _ x.2 h.2, List.append_assoc]
  no s x h := by
    by_cases hv : V x.1
    · rw [hf.ok s x.1 hv]
      exact hg.no _ _ fun hw => h ⟨hv, hw⟩
    · exact hg.bad _ _ (hf.no s x.1 hv)
  bad s x h := hg.bad _ _ (hf.bad s x.1 h)
theorem wri_map {α β : Type} {f : SW → α → SW} {b : α → List UInt8} {V : α → Prop} (hf : Wri f b V) (m : β → α) : Wri (fun s y => f s (m y)) (fun y => b (m y)) (fun y => V (m y)) :=
  ⟨fun s y h => hf.ok s _ h, fun s y h => hf.no s _ h, fun s y h => hf.bad s _ h⟩
theorem wri_fold {α : Type} {f : SW → α → SW} {b : α → List UInt8} {V : α → Prop} (hf : Wri f b V) : Wri (fun s (l : List α) => l.foldl f s) (fun l => l.flatMap b) (fun l => ∀ x ∈ l, V x) := by
  have hbad : ∀ (l : List α) (s : SW), s.ok = false → (l.foldl f s).ok = false := by
    intro l
    induction l with
    | nil => exact fun s h => h
    | cons x l ih => exact fun s h => ih _ (hf.bad s x h)
  refine ⟨fun s l => ?_, fun s l => ?_, fun s l h => hbad l s h⟩
  · induction l generalizing s with
    | nil => intro _; simp
    | cons x l ih =>
      intro h
      simp only [List.foldl_cons, List.flatMap_cons]
      rw [hf.ok s x (h x (by simp)), ih _ fun y hy => h y (by simp [hy]), List.append_assoc]
  · induction l generalizing s with
    | nil => intro h; exact absurd (fun x hx => by cases hx) h
    | cons x l ih =>
      intro h
      simp only [List.foldl_cons]
      by_cases hv : V x
      · rw [hf.ok s x hv]
        refine ih _ fun h2 => h fun y hy => ?_
        rcases List.mem_cons.1 hy with rfl | hy
        · exact hv
        · exact h2 y hy
      · exact hbad l _ (hf.no s x hv)
theorem wri_list {α : Type} {f : SW → α → SW} {b : α → List UInt8} {V : α → Prop} (hf : Wri f b V) {z : Int} (hz : z = 1 ∨ z = 2) :
    Wri (fun s (l : List α) => l.foldl f (stNum l.length z s)) (fun l => putL l.length z.toNat ++ l.flatMap b) (fun l => (l.length : Int) < 256 ^ z.toNat ∧ ∀ x ∈ l, V x) := by
  have h := wri_map (wri_seq (wri_num hz) (wri_fold hf)) (fun l : List α => ((l.length : Int), l))
  exact ⟨fun s l hl => h.ok s l ⟨⟨by simp only; omega, hl.1⟩, hl.2⟩, fun s l hl => h.no s l fun h2 => hl ⟨h2.1.2, h2.2⟩, h.bad⟩
theorem wri_n1 : Wri (fun s k => stNum k 1 s) (fun k => putL k.toNat 1) vN := wri_num (.inl rfl)
theorem wri_ty : Wri (fun s t => stTy t s) bTy vTy := wri_map (wri_seq wri_n1 (wri_seq wri_n1 wri_n1)) (fun t : Ty => (t.k, t.e, t.n))
theorem wri_en : Wri stEn bEn vEn := wri_map (wri_seq wri_text (wri_list wri_text (z := 1) (.inl rfl))) (fun e : En => (e.name, e.ct))
theorem wri_pr : Wri stPrt bPrt vPrt := wri_map (wri_seq wri_text wri_ty) (fun p : Prt => (p.name, p.ty))
theorem wri_sl : Wri stSl0 bSlt wSlt := by
  have h := wri_map (wri_seq wri_text (wri_seq wri_ty (wri_list wri_int (z := 1) (.inl rfl)))) (fun s : Slt => (s.path, s.ty, s.ini))
  exact ⟨fun s l hl => h.ok s l ⟨hl.1, hl.2.1, hl.2.2, fun _ _ => trivial⟩, fun s l hl => h.no s l fun h2 => hl ⟨h2.1, h2.2.1, h2.2.2.1⟩, h.bad⟩
theorem wri_sls : ∀ (l : List Slt) (a : Int) (s : SW), (atF a l = l → (l.foldl stSlt (s, a)).1 = l.foldl stSl0 s) ∧ (¬ atF a l = l → (l.foldl stSlt (s, a)).1.ok = false) ∧ (s.ok = false → (l.foldl stSlt (s, a)).1.ok = false)
  | [], a, s => ⟨fun _ => rfl, fun h => absurd rfl h, fun h => h⟩
  | x :: l, a, s => by
    have hn : ∀ s : SW, (stNum (-1) 1 s).ok = false := fun s => by
      obtain ⟨b, o⟩ := s
      cases o with
      | true => exact (wri_num (z := 1) (.inl rfl)).no b (-1) (by omega)
      | false => exact nxW_bad rfl
    simp only [List.foldl_cons, atF, List.cons.injEq]
    have hst : stSlt (s, a) x = (if x.at_ = a then stSl0 s x else stNum (-1) 1 (stSl0 s x), a + cellsTy x.ty) := rfl
    rw [hst]
    have ih := fun s => wri_sls l (a + cellsTy x.ty) s
    refine ⟨fun ⟨h1, h2⟩ => ?_, fun h => ?_, fun h => ?_⟩
    · have h3 : x.at_ = a := by rw [← h1]
      rw [if_pos h3]
      exact (ih _).1 h2
    · by_cases h3 : x.at_ = a
      · rw [if_pos h3]
        refine (ih _).2.1 fun h4 => h ⟨?_, h4⟩
        rw [← h3]
      · rw [if_neg h3]
        exact (ih _).2.2 (hn _)
    · refine (ih _).2.2 ?_
      split
      · exact wri_sl.bad s x h
      · exact hn _

def bList {α : Type} (b : α → List UInt8) (z : Nat) (l : List α) : List UInt8 := putL l.length z ++ l.flatMap b
/-- An image that has bytes, but for its code. -/
structure vImg (x : Img) : Prop where
  en : (x.en.length : Int) < 256 ∧ ∀ e ∈ x.en, vEn e
  ins : (x.ins.length : Int) < 256 ∧ ∀ e ∈ x.ins, vPrt e
  outs : (x.outs.length : Int) < 256 ∧ ∀ e ∈ x.outs, vPrt e
  slots : (x.slots.length : Int) < 256 ∧ ∀ e ∈ x.slots, wSlt e
  at_ : atF 0 x.slots = x.slots
  loc : (x.loc.length : Int) < 65536 ∧ ∀ k ∈ x.loc, 0 ≤ k ∧ k < 65536
def bLoc (k : Int) : List UInt8 := putL k.toNat 2
theorem wri_o {α : Type} {f : SW → α → SW} {b : α → List UInt8} {V : α → Prop} (hf : Wri f b V) {x : α} {c : List UInt8} : st2o (f ⟨[], true⟩ x) = some c ↔ V x ∧ c = b x := by
  by_cases h : V x
  · rw [hf.ok [] x h]
    simp only [st2o, ↓reduceIte, List.nil_append, Option.some.injEq]
    exact ⟨fun e => ⟨h, e.symm⟩, fun e => e.2.symm⟩
  · have := hf.no [] x h
    unfold st2o
    rw [if_neg (by rw [this]; decide)]
    exact ⟨fun e => (by cases e), fun e => absurd e.1 h⟩
theorem sec1 {x : Img} {c : List UInt8} : secO x 1 = some c ↔ ((x.en.length : Int) < 256 ∧ ∀ e ∈ x.en, vEn e) ∧ c = bList bEn 1 x.en := wri_o (wri_list wri_en (z := 1) (.inl rfl))
theorem sec2 {x : Img} {c : List UInt8} : secO x 2 = some c ↔ ((x.ins.length : Int) < 256 ∧ ∀ e ∈ x.ins, vPrt e) ∧ c = bList bPrt 1 x.ins := wri_o (wri_list wri_pr (z := 1) (.inl rfl))
theorem sec3 {x : Img} {c : List UInt8} : secO x 3 = some c ↔ ((x.outs.length : Int) < 256 ∧ ∀ e ∈ x.outs, vPrt e) ∧ c = bList bPrt 1 x.outs := wri_o (wri_list wri_pr (z := 1) (.inl rfl))
theorem sec5 {x : Img} {c : List UInt8} : secO x 5 = some c ↔ ((x.loc.length : Int) < 65536 ∧ ∀ e ∈ x.loc, 0 ≤ e ∧ e < 65536) ∧ c = bList bLoc 2 x.loc := wri_o (wri_list (wri_num (z := 2) (.inr rfl)) (z := 2) (.inr rfl))
theorem sec4 {x : Img} {c : List UInt8} : secO x 4 = some c ↔ (((x.slots.length : Int) < 256 ∧ ∀ e ∈ x.slots, wSlt e) ∧ atF 0 x.slots = x.slots) ∧ c = bList bSlt 1 x.slots := by
  have e : secO x 4 = st2o (stSlts x.slots ⟨[], true⟩) := rfl
  have h := wri_o (wri_list wri_sl (z := 1) (.inl rfl)) (x := x.slots) (c := c)
  have w := wri_sls x.slots 0 (stNum x.slots.length 1 ⟨[], true⟩)
  rw [e]
  unfold stSlts
  by_cases hp : atF 0 x.slots = x.slots
  · rw [w.1 hp]
    exact ⟨fun q => ⟨⟨(h.1 q).1, hp⟩, (h.1 q).2⟩, fun q => h.2 ⟨q.1.1, q.2⟩⟩
  · have := w.2.1 hp
    unfold st2o
    rw [if_neg (by rw [this]; decide)]
    exact ⟨fun q => (by cases q), fun q => absurd q.1.2 hp⟩
theorem sec6 {x : Img} : secO x 6 = putI x.code := rfl

/-! The sections one behind the other. -/
def secsB : Nat → List (List UInt8) → List UInt8
  | _, [] => []
  | i, c :: cs => putL (i + 1) 1 ++ (putL c.length 4 ++ (c ++ secsB (i + 1) cs))
theorem encG_secs {x : Img} {B : List UInt8} : encG x 6 = some B ↔ ∃ c1 c2 c3 c4 c5 c6, secO x 1 = some c1 ∧ secO x 2 = some c2 ∧ secO x 3 = some c3 ∧ secO x 4 = some c4 ∧ secO x 5 = some c5 ∧ secO x 6 = some c6 ∧ B = secsB 0 [c1, c2, c3, c4, c5, c6] := by
  constructor
  · intro h
    have step : ∀ {k : Nat} {B : List UInt8}, encG x (k + 1) = some B → ∃ b c, encG x k = some b ∧ secO x ((k + 1 : Nat) : Int) = some c ∧ B = b ++ putL (k + 1) 1 ++ putL c.length 4 ++ c := by
      intro k B h
      cases h1 : encG x k with
      | none => rw [encG_none h1 (k + 1) (by omega)] at h; cases h
      | some b =>
        rw [encG_step h1] at h
        split at h
        · cases h
        · rename_i c hc
          injection h with h
          exact ⟨b, c, rfl, hc, h.symm⟩
    obtain ⟨b5, c6, h5, s6, e6⟩ := step h
    obtain ⟨b4, c5, h4, s5, e5⟩ := step h5
    obtain ⟨b3, c4, h3, s4, e4⟩ := step h4
    obtain ⟨b2, c3, h2, s3, e3⟩ := step h3
    obtain ⟨b1, c2, h1, s2, e2⟩ := step h2
    obtain ⟨b0, c1, h0, s1, e1⟩ := step h1
    have hb0 : b0 = [] := by injection h0 with h0; exact h0.symm
    refine ⟨c1, c2, c3, c4, c5, c6, s1, s2, s3, s4, s5, s6, ?_⟩
    rw [e6, e5, e4, e3, e2, e1, hb0]
    simp [secsB, List.append_assoc]
  · rintro ⟨c1, c2, c3, c4, c5, c6, s1, s2, s3, s4, s5, s6, rfl⟩
    have g1 : encG x 1 = some ([] ++ putL 1 1 ++ putL c1.length 4 ++ c1) := by
      rw [encG_step (show encG x 0 = some [] from rfl), show ((0 + 1 : Nat) : Int) = 1 from rfl, s1]
    have g2 := encG_step g1
    rw [show ((1 + 1 : Nat) : Int) = 2 from rfl, s2] at g2
    have g3 := encG_step g2
    rw [show ((1 + 1 + 1 : Nat) : Int) = 3 from rfl, s3] at g3
    have g4 := encG_step g3
    rw [show ((1 + 1 + 1 + 1 : Nat) : Int) = 4 from rfl, s4] at g4
    have g5 := encG_step g4
    rw [show ((1 + 1 + 1 + 1 + 1 : Nat) : Int) = 5 from rfl, s5] at g5
    have g6 := encG_step g5
    rw [show ((1 + 1 + 1 + 1 + 1 + 1 : Nat) : Int) = 6 from rfl, s6] at g6
    refine Eq.trans g6 ?_
    simp [secsB, List.append_assoc]
end Go.Proofs.YtfaailjhioobhaaGreat

/- Sections, images and their bytes: the one gives the other back; the program's and the document's Decode are one. -/
set_option linter.all false
set_option maxRecDepth 20000
namespace Go.Proofs.YtfaailjhioobhaaGreat
open Go.Nk

/-! Parts. -/
theorem at_numG {l : List UInt8} {a : Nat} {k z : Int} (h : AtB l a (putL k.toNat z.toNat)) (h1 : 1 ≤ z) (h4 : z ≤ 4) (hk : 0 ≤ k ∧ k < ((256 ^ z.toNat : Nat) : Int)) : numV (some (l, a)) z = k ∧ nextS (some (l, a)) (szN z) = some (l, a + z.toNat) := by
  obtain ⟨pre, post, rfl, rfl⟩ := h
  exact num_back pre post (by omega) (by omega) (by omega) (by omega)
theorem num_invG {l : List UInt8} {a a' : Nat} {z : Int} (h1 : 1 ≤ z) (h4 : z ≤ 4) (h : nextS (some (l, a)) (szN z) = some (l, a')) :
    a' = a + z.toNat ∧ a' ≤ l.length ∧ AtB l a (putL (numV (some (l, a)) z).toNat z.toNat) ∧ 0 ≤ numV (some (l, a)) z ∧ numV (some (l, a)) z < ((256 ^ z.toNat : Nat) : Int) := by
  have hs : szN z = z := by unfold szN; rw [if_neg (by omega)]
  rw [hs] at h
  have h2 : (nxt l (some a) z).2 = some a' := by
    unfold nextS toP at h
    cases q : (nxt l (some a) z).2 with
    | none => simp [q] at h
    | some b => simp [q] at h; rw [h]
  obtain ⟨h3, h4', h5, h6⟩ := nxt_inv h2
  have hc : ((l.take a').drop a).length = z.toNat := by rw [List.length_drop, List.length_take]; omega
  have h8 : z.toNat ≤ 4 := by omega
  have hlt := getF_lt ((l.take a').drop a) (by omega)
  rw [hc] at hlt
  have hp : 256 ^ z.toNat ≤ 4294967296 := Nat.le_trans (Nat.pow_le_pow_right (by decide) h8) (by decide)
  have hv : numV (some (l, a)) z = (getF ((l.take a').drop a) : Int) := by
    unfold numV nextV
    rw [hs]
    simp only [h6, Option.getD_some]
    rw [wrap_i64_id]
    omega
  refine ⟨h4', h5, ?_, by rw [hv]; omega, by rw [hv]; omega⟩
  rw [hv, Int.toNat_natCast]
  have := putL_getF ((l.take a').drop a) (by omega)
  rw [hc] at this
  rw [this]
  exact at_part (by omega) h5
def pO (r : RS) : List UInt8 × RS := (partV r, rawS r 4)
theorem cod_part : Cod pO (fun c => putL c.length 4 ++ c) (fun c => c.length < 4294967296) where
  src r l a' h := rawS_src h
  back l a x h hx := by
    obtain ⟨h1, h2⟩ := h.app
    rw [putL_length] at h2
    have h1' : AtB l a (putL ((x.length : Int)).toNat (4 : Int).toNat) := h1
    have e2 : ((256 ^ (4 : Int).toNat : Nat) : Int) = 4294967296 := rfl
    obtain ⟨n1, n2⟩ := at_numG h1' (by decide) (by decide) (by rw [e2]; omega)
    have n2 : nextS (some (l, a)) (szN 4) = some (l, a + 4) := n2
    have q := nxt_at h2
    have t1 : partV (some (l, a)) = x := by
      unfold partV rawV
      rw [n2, n1]
      unfold nextV
      simp only [q, Option.getD_some]
    have t2 : rawS (some (l, a)) 4 = some (l, a + 4 + x.length) := by
      unfold rawS
      rw [n2, n1]
      unfold nextS
      simp only [q, toP, Option.map_some]
    simp only [pO, t1, t2, List.length_append, putL_length, Nat.add_assoc]
  inv l a x a' h := by
    simp only [pO, Prod.mk.injEq] at h
    obtain ⟨hx, h⟩ := h
    unfold rawS at h
    cases h1 : nextS (some (l, a)) (szN 4) with
    | none => rw [h1] at h; cases h
    | some q =>
      obtain ⟨b, rfl⟩ := nextS_fst h1
      obtain ⟨n1, n2, n3, n4, hlt⟩ := num_invG (by decide) (by decide) h1
      have e2 : ((256 ^ (4 : Int).toNat : Nat) : Int) = 4294967296 := rfl
      rw [e2] at hlt
      unfold partV rawV at hx
      rw [h1] at h hx
      generalize numV (some (l, a)) 4 = k at h hx n3 n4 hlt
      have h2 : (nxt l (some b) k).2 = some a' := by
        unfold nextS toP at h
        cases w : (nxt l (some b) k).2 with
        | none => simp [w] at h
        | some d => simp [w] at h; rw [h]
      obtain ⟨m1, m2, m3, m4⟩ := nxt_inv h2
      have hc : x = (l.take a').drop b := by
        unfold nextV at hx
        simp only [m4, Option.getD_some] at hx
        exact hx.symm
      have hlen : x.length = k.toNat := by rw [hc, List.length_drop, List.length_take]; omega
      have g : AtB l b x := by rw [hc]; exact at_part (by omega) m3
      have h2n : (4 : Int).toNat = 4 := rfl
      rw [h2n] at n1 n3
      rw [← hlen] at n3
      refine ⟨by rw [List.length_append, putL_length]; omega, m3, n3.join ?_, by omega⟩
      rw [putL_length, ← n1]
      exact g
theorem partsG_back {l : List UInt8} : ∀ (cs : List (List UInt8)) (i a : Nat) (acc : List (List UInt8)), AtB l a (secsB i cs) → i + cs.length < 256 → (∀ c ∈ cs, c.length < 4294967296) →
    partsG cs.length i (some (l, a)) acc = (acc ++ cs, !moreO (some (l, a + (secsB i cs).length)))
  | [], i, a, acc, _, _, _ => by simp [partsG, secsB]
  | c :: cs, i, a, acc, h, hi, hc => by
    unfold secsB at h
    obtain ⟨h1, h2⟩ := h.app
    rw [putL_length] at h2
    rw [← List.append_assoc] at h2
    obtain ⟨h3, h4⟩ := h2.app
    simp only [List.length_cons] at hi
    have e1 : ((256 ^ (1 : Int).toNat : Nat) : Int) = 256 := rfl
    obtain ⟨n1, n2⟩ := at_numG (k := ((i + 1 : Nat) : Int)) (z := 1) h1 (by decide) (by decide) (by rw [e1]; omega)
    have n2 : nextS (some (l, a)) (szN 1) = some (l, a + 1) := n2
    have p := cod_part.back l (a + 1) c h3 (hc c (by simp))
    simp only [pO, Prod.mk.injEq] at p
    rw [List.length_cons]
    unfold partsG
    rw [n1, n2, p.1, p.2, if_pos (by push_cast; rfl)]
    have ih := partsG_back cs (i + 1) _ (acc ++ [c]) h4 (by omega) fun d hd => hc d (by simp [hd])
    have e2 : ((i : Int) + 1) = ((i + 1 : Nat) : Int) := by push_cast; rfl
    rw [e2, ih, show secsB i (c :: cs) = putL (i + 1) 1 ++ (putL c.length 4 ++ (c ++ secsB (i + 1) cs)) from rfl]
    simp only [List.append_assoc, List.singleton_append, List.length_append, putL_length, Nat.add_assoc]
theorem partsF_back {cs : List (List UInt8)} (h : cs.length = 6) (hc : ∀ c ∈ cs, c.length < 4294967296) : partsF (secsB 0 cs) = (cs, true) := by
  have := partsG_back (l := secsB 0 cs) cs 0 0 [] ⟨[], [], by simp, rfl⟩ (by omega) hc
  rw [h] at this
  unfold partsF
  refine this.trans ?_
  simp [moreO]
theorem partsG_inv {l : List UInt8} : ∀ (k i a : Nat) (acc L : List (List UInt8)), a ≤ l.length → partsG k i (some (l, a)) acc = (L, true) → ∃ cs, L = acc ++ cs ∧ cs.length = k ∧ AtB l a (secsB i cs) ∧ a + (secsB i cs).length = l.length ∧ ∀ c ∈ cs, c.length < 4294967296
  | 0, i, a, acc, L, ha, h => by
    simp only [partsG, Prod.mk.injEq, Option.isSome_some, Bool.true_and] at h
    obtain ⟨rfl, h⟩ := h
    simp only [moreO, Bool.not_eq_true', decide_eq_false_iff_not] at h
    exact ⟨[], by simp, rfl, ⟨l.take a, l.drop a, by simp [secsB], by simp; omega⟩, by simp [secsB]; omega, fun c hc => by cases hc⟩
  | k + 1, i, a, acc, L, ha, h => by
    unfold partsG at h
    split at h
    · rename_i hn
      cases hr : rawS (nextS (some (l, a)) (szN 1)) 4 with
      | none =>
        have h2 : (partsG k ((i : Int) + 1) (rawS (nextS (some (l, a)) (szN 1)) 4) (acc ++ [partV (nextS (some (l, a)) (szN 1))])).2 = true := by rw [h]
        rw [hr, partsG_none] at h2
        cases h2
      | some q =>
        obtain ⟨lq, a2⟩ := q
        obtain ⟨a1, h1⟩ := rawS_src hr
        obtain ⟨a0, h0⟩ := nextS_src h1
        simp only [Option.some.injEq, Prod.mk.injEq] at h0
        obtain ⟨rfl, rfl⟩ := h0
        obtain ⟨n1, n2, n3, n4, n5⟩ := num_invG (by decide) (by decide) h1
        rw [h1] at h hr
        have p := cod_part.inv l a1 (partV (some (l, a1))) a2 (by unfold pO; rw [hr])
        rw [hr] at h
        have e2 : ((i : Int) + 1) = ((i + 1 : Nat) : Int) := by push_cast; rfl
        rw [e2] at h hn
        rw [hn] at n3
        obtain ⟨cs, e3, e4, e5, e6, e7⟩ := partsG_inv k (i + 1) a2 _ L p.2.1 h
        have n1' : a1 = a + 1 := n1
        have n3' : AtB l a (putL (i + 1) 1) := n3
        refine ⟨partV (some (l, a1)) :: cs, by rw [e3]; simp, by simp [e4], ?_, ?_, fun c hc => ?_⟩
        · unfold secsB
          refine n3'.join ?_
          rw [putL_length, ← n1', ← List.append_assoc]
          refine p.2.2.1.join ?_
          rw [← p.1]
          exact e5
        · unfold secsB
          have := p.1
          simp only [List.length_append, putL_length] at this ⊢
          omega
        · rcases List.mem_cons.1 hc with rfl | hc
          · exact p.2.2.2
          · exact e7 c hc
    · simp only [Prod.mk.injEq, Bool.false_eq_true, and_false] at h
theorem partsF_inv {B : List UInt8} (h : (partsF B).2 = true) : B = secsB 0 (partsF B).1 ∧ (partsF B).1.length = 6 ∧ ∀ c ∈ (partsF B).1, c.length < 4294967296 := by
  obtain ⟨cs, e3, e4, e5, e6, e7⟩ := partsG_inv 6 0 0 [] (partsF B).1 (Nat.zero_le _) (Prod.ext rfl h : partsF B = ((partsF B).1, true))
  rw [List.nil_append] at e3
  rw [e3]
  obtain ⟨pre, post, h1, h2⟩ := e5
  have hpre : pre = [] := List.length_eq_zero_iff.1 h2.symm
  subst hpre
  have hpost : post = [] := by
    have := congrArg List.length h1
    simp only [List.nil_append, List.length_append] at this
    exact List.length_eq_zero_iff.1 (by omega)
  subst hpost
  refine ⟨?_, e4, e7⟩
  simpa using h1

/-! Images. -/
theorem whole {α : Type} {f : RS → α × RS} {b : α → List UInt8} {V : α → Prop} (hf : Cod f b V) {c : List UInt8} (h : good (f (some (c, 0))).2 = true) : c = b (f (some (c, 0))).1 ∧ V (f (some (c, 0))).1 ∧ (f (some (c, 0))).2 = some (c, c.length) := by
  unfold good at h
  simp only [Bool.and_eq_true, Bool.not_eq_true'] at h
  obtain ⟨h1, h2⟩ := h
  obtain ⟨q, hq⟩ := Option.isSome_iff_exists.1 h1
  obtain ⟨l, a⟩ := q
  obtain ⟨a0, h0⟩ := hf.src _ _ _ hq
  simp only [Option.some.injEq, Prod.mk.injEq] at h0
  obtain ⟨rfl, rfl⟩ := h0
  obtain ⟨e1, e2, e3, e4⟩ := hf.inv c 0 (f (some (c, 0))).1 a (by rw [← hq])
  rw [hq] at h2
  simp only [moreO, decide_eq_false_iff_not] at h2
  obtain ⟨pre, post, k1, k2⟩ := e3
  have hpre : pre = [] := List.length_eq_zero_iff.1 k2.symm
  subst hpre
  have hpost : post = [] := by
    have := congrArg List.length k1
    simp only [List.nil_append, List.length_append] at this
    exact List.length_eq_zero_iff.1 (by omega)
  subst hpost
  refine ⟨by simpa using k1, e4, ?_⟩
  rw [hq]
  congr 2
  omega
theorem whole_back {α : Type} {f : RS → α × RS} {b : α → List UInt8} {V : α → Prop} (hf : Cod f b V) {x : α} (h : V x) : f (some (b x, 0)) = (x, some (b x, (b x).length)) := by
  have := hf.back (b x) 0 x ⟨[], [], by simp, rfl⟩ h
  rw [Nat.zero_add] at this
  exact this
theorem good_end (c : List UInt8) : good (some (c, c.length)) = true := by simp [good, moreO]
theorem atF_flat : ∀ (a : Int) (l : List Slt), (atF a l).flatMap bSlt = l.flatMap bSlt
  | _, [] => rfl
  | a, s :: r => by
    simp only [atF, List.flatMap_cons, atF_flat _ r]
    rfl
def zer (l : List Slt) : List Slt := l.map fun s => ⟨s.path, s.ty, 0, s.ini⟩
theorem zer_flat : ∀ l : List Slt, (zer l).flatMap bSlt = l.flatMap bSlt
  | [] => rfl
  | s :: r => by
    have := zer_flat r
    unfold zer at this ⊢
    simp only [List.map_cons, List.flatMap_cons, this]
    rfl
theorem atF_zer : ∀ (a : Int) (l : List Slt), atF a (zer l) = atF a l
  | _, [] => rfl
  | a, s :: r => by
    have := atF_zer (a + cellsTy s.ty) r
    unfold zer at this ⊢
    simp only [List.map_cons, atF, this]
theorem atF_atF : ∀ (a : Int) (l : List Slt), atF a (atF a l) = atF a l
  | _, [] => rfl
  | a, s :: r => by simp only [atF, atF_atF _ r]
def cEns := cod_list cod_en (z := 1) (.inl rfl)
def cPrts := cod_list cod_pr (z := 1) (.inl rfl)
def cSlts := cod_list cod_sl (z := 1) (.inl rfl)
def cLocs := cod_list (cod_num (z := 2) (.inr rfl)) (z := 2) (.inr rfl)
def nums (x : Img) : Prop := (∀ s ∈ x.slots, ∀ n ∈ s.ini, okI64 n) ∧ ∀ i ∈ x.code, ok64 i
theorem take_back {x : Img} (hv : vImg x) (hn : nums x) {c6 : List UInt8} (hc : putI x.code = some c6) :
    takeF [bList bEn 1 x.en, bList bPrt 1 x.ins, bList bPrt 1 x.outs, bList bSlt 1 x.slots, bList bLoc 2 x.loc, c6] = (x, true) := by
  have e0 : someF enO (some (bList bEn 1 x.en, 0)) 1 = (x.en, some (bList bEn 1 x.en, (bList bEn 1 x.en).length)) := whole_back cEns hv.en
  have e1 : someF prO (some (bList bPrt 1 x.ins, 0)) 1 = (x.ins, some (bList bPrt 1 x.ins, (bList bPrt 1 x.ins).length)) := whole_back cPrts hv.ins
  have e2 : someF prO (some (bList bPrt 1 x.outs, 0)) 1 = (x.outs, some (bList bPrt 1 x.outs, (bList bPrt 1 x.outs).length)) := whole_back cPrts hv.outs
  have hz : bList bSlt 1 x.slots = bList bSlt 1 (zer x.slots) := by unfold bList; rw [zer_flat]; simp [zer]
  have e3 : someF slO (some (bList bSlt 1 (zer x.slots), 0)) 1 = (zer x.slots, some (bList bSlt 1 (zer x.slots), (bList bSlt 1 (zer x.slots)).length)) := whole_back cSlts (by
    refine ⟨by have := hv.slots.1; simpa [zer] using this, fun s hs => ?_⟩
    simp only [zer, List.mem_map] at hs
    obtain ⟨t, ht, rfl⟩ := hs
    exact ⟨hv.slots.2 t ht, hn.1 t ht, rfl⟩)
  have e4 : someF kiO (some (bList bLoc 2 x.loc, 0)) 2 = (x.loc, some (bList bLoc 2 x.loc, (bList bLoc 2 x.loc).length)) := whole_back cLocs hv.loc
  have e5 := put_get hc hn.2
  unfold takeF secS
  simp only [List.getD_cons_zero, List.getD_cons_succ]
  rw [hz, e0, e1, e2, e3, e4, e5]
  have hg : (TkS.gs ⟨some (bList bEn 1 x.en, (bList bEn 1 x.en).length), some (bList bPrt 1 x.ins, (bList bPrt 1 x.ins).length), some (bList bPrt 1 x.outs, (bList bPrt 1 x.outs).length), some (bList bSlt 1 (zer x.slots), (bList bSlt 1 (zer x.slots)).length), some (bList bLoc 2 x.loc, (bList bLoc 2 x.loc).length), some (c6, 0)⟩).all id = true := by
    simp [TkS.gs, good_end]
  rw [if_pos hg]
  simp only [Option.getD_some, Option.isSome_some]
  rw [atF_zer, hv.at_]
theorem take_inv {c0 c1 c2 c3 c4 c5 : List UInt8} {x : Img} (h : takeF [c0, c1, c2, c3, c4, c5] = (x, true)) :
    vImg x ∧ nums x ∧ putI x.code = some c5 ∧ c0 = bList bEn 1 x.en ∧ c1 = bList bPrt 1 x.ins ∧ c2 = bList bPrt 1 x.outs ∧ c3 = bList bSlt 1 x.slots ∧ c4 = bList bLoc 2 x.loc ∧
    (secS [c0, c1, c2, c3, c4, c5]).gs.all id = true := by
  unfold takeF at h
  split at h
  rotate_left
  · cases h
  rename_i hg
  have hg' := hg
  unfold TkS.gs secS at hg
  simp only [List.getD_cons_zero, List.getD_cons_succ, List.all_cons, List.all_nil, id_eq, Bool.and_true, Bool.and_eq_true] at hg h
  obtain ⟨g0, g1, g2, g3, g4⟩ := hg
  simp only [Prod.mk.injEq] at h
  obtain ⟨rfl, h5⟩ := h
  have w0 := whole cEns g0
  have w1 := whole cPrts g1
  have w2 := whole cPrts g2
  have w3 := whole cSlts g3
  have w4 := whole cLocs g4
  obtain ⟨m, hm⟩ := Option.isSome_iff_exists.1 h5
  obtain ⟨p1, p2, p3⟩ := get_put hm
  rw [hm]
  simp only [Option.getD_some]
  refine ⟨⟨w0.2.1, w1.2.1, w2.2.1, ⟨?_, ?_⟩, atF_atF _ _, w4.2.1⟩, ⟨?_, p2⟩, p1, w0.1, w1.1, w2.1, ?_, w4.1, hg'⟩
  · simp only [atF_len]; exact w3.2.1.1
  · exact atF_all (P := wSlt) (fun s a h => h) _ _ fun s hs => (w3.2.1.2 s hs).1
  · exact atF_all (P := fun s => ∀ n ∈ s.ini, okI64 n) (fun s a h => h) _ _ fun s hs => (w3.2.1.2 s hs).2.1
  · refine w3.1.trans ?_
    unfold bList
    simp only [atF_len, atF_flat]
    rfl
end Go.Proofs.YtfaailjhioobhaaGreat

/- The program's and the document's Decode are one. -/
set_option linter.all false
set_option maxRecDepth 20000
namespace Go.Proofs.YtfaailjhioobhaaGreat
open Go.Nk

structure FQ {α : Type} (f : RS → α × RS) (g : QS → α × QS) : Prop where
  st : ∀ l s, (f (toP l s)).2 = toP l (g (l, s)).2.2
  fst : ∀ l s, (g (l, s)).2.1 = l
  val : ∀ l s, (g (l, s)).2.2.isSome = true → (f (toP l s)).1 = (g (l, s)).1
  bad : ∀ l, (g (l, none)).2.2 = none
theorem goQ_none {α : Type} {g : QS → α × QS} (l : List UInt8) : ∀ (k : Nat) (acc : List α), goQ g k (l, none) acc = (acc, (l, none))
  | 0, _ => rfl
  | k + 1, acc => rfl
theorem toP_some (l : List UInt8) (s : Option Nat) : (toP l s).isSome = s.isSome := by cases s <;> rfl
theorem goFQ {α : Type} {f : RS → α × RS} {g : QS → α × QS} (h : FQ f g) (l : List UInt8) : ∀ (k : Nat) (s : Option Nat) (acc : List α),
    (goF f k (toP l s) acc).2 = toP l (goQ g k (l, s) acc).2.2 ∧ (goQ g k (l, s) acc).2.1 = l ∧ ((goQ g k (l, s) acc).2.2.isSome = true → (goF f k (toP l s) acc).1 = (goQ g k (l, s) acc).1)
  | 0, s, acc => ⟨rfl, rfl, fun _ => rfl⟩
  | k + 1, s, acc => by
    cases s with
    | none =>
      rw [goQ_none]
      unfold goF
      have : (f (toP l none)).2.isSome = false := by rw [h.st, toP_some, h.bad]; rfl
      rw [if_neg (by rw [this]; decide)]
      exact ⟨rfl, rfl, fun e => by cases e⟩
    | some a =>
      have hv := h.val l (some a)
      have hs := h.st l (some a)
      have hf := h.fst l (some a)
      unfold goF goQ
      simp only [Option.isSome_some, ↓reduceIte]
      rw [hs, toP_some]
      generalize f (toP l (some a)) = F at hv hs
      generalize g (l, some a) = G at hv hs hf
      obtain ⟨y, l', s'⟩ := G
      simp only at hv hs hf ⊢
      subst hf
      cases s' with
      | none =>
        simp only [Option.isSome_none, Bool.false_eq_true, ↓reduceIte]
        rw [goQ_none]
        exact ⟨rfl, rfl, fun e => by cases e⟩
      | some a' =>
        simp only [Option.isSome_some, ↓reduceIte]
        rw [hv rfl]
        exact goFQ h l' k (some a') (acc ++ [y])
theorem someFQ {α : Type} {f : RS → α × RS} {g : QS → α × QS} (h : FQ f g) (z : Int) : FQ (fun r => someF f r z) (fun r => someQ g r z) := by
  have e : ∀ l s, someF f (toP l s) z = goF f (qNumV (l, s) z).toNat (toP l (qS (l, s) (szN z)).2) [] := fun l s => by unfold someF; rw [numV_to, nextS_to]
  have e2 : ∀ l s, someQ g (l, s) z = goQ g (qNumV (l, s) z).toNat (l, (qS (l, s) (szN z)).2) [] := fun l s => rfl
  refine ⟨fun l s => ?_, fun l s => ?_, fun l s hs => ?_, fun l => ?_⟩
  · simp only [e, e2]; exact (goFQ h l _ _ _).1
  · simp only [e2]; exact (goFQ h l _ _ _).2.1
  · simp only [e, e2] at hs ⊢; exact (goFQ h l _ _ _).2.2 hs
  · simp only [e2]
    have : (qS (l, none) (szN z)).2 = none := rfl
    rw [this, goQ_none]
theorem fq_tx : FQ txO txQ := ⟨fun l s => rawS_to l s 2, fun l s => rfl, fun l s _ => by simp only [txO, txQ, textV]; rw [rawV_to], fun l => rfl⟩
theorem fq_in : FQ inO inQ := ⟨fun l s => intS_to l s, fun l s => by have := qIntS_1 l s; simp only [inQ]; rw [this], fun l s _ => intV_to l s, fun l => rfl⟩
theorem fq_ki : FQ kiO kiQ := ⟨fun l s => nextS_to l s _, fun l s => rfl, fun l s _ => numV_to l s 2, fun l => rfl⟩
theorem fq_ty : FQ tyO tyQ := by
  have e : ∀ l s, tyO (toP l s) = ((tyQ (l, s)).1, toP l (tyQ (l, s)).2.2) := fun l s => by
    unfold tyO tyQ
    rw [numV_to, nextS_to]
    have q1 : qS (l, s) (szN 1) = (l, (qS (l, s) (szN 1)).2) := rfl
    rw [q1]
    generalize (qS (l, s) (szN 1)).2 = s1
    rw [numV_to, nextS_to]
    have q2 : qS (l, s1) (szN 1) = (l, (qS (l, s1) (szN 1)).2) := rfl
    rw [q2]
    generalize (qS (l, s1) (szN 1)).2 = s2
    rw [numV_to, nextS_to]
  exact ⟨fun l s => by rw [e], fun l s => rfl, fun l s _ => by rw [e], fun l => rfl⟩
theorem fq_seq {α β γ : Type} {f : RS → α × RS} {g : QS → α × QS} {f' : RS → β × RS} {g' : QS → β × QS} (h : FQ f g) (h' : FQ f' g') (m : α → β → γ) :
    FQ (fun r => (m (f r).1 (f' (f r).2).1, (f' (f r).2).2)) (fun r => (m (g r).1 (g' (g r).2).1, (g' (g r).2).2)) := by
  have e : ∀ l s, (g (l, s)).2 = (l, (g (l, s)).2.2) := fun l s => Prod.ext (h.fst l s) rfl
  refine ⟨fun l s => ?_, fun l s => ?_, fun l s hs => ?_, fun l => ?_⟩
  · simp only
    rw [h.st, e, h'.st]
  · simp only
    rw [e, h'.fst]
  · simp only at hs ⊢
    rw [e] at hs ⊢
    rw [h.st, h'.val l _ hs, h.val l s ?_]
    cases hq : (g (l, s)).2.2 with
    | none => rw [hq, h'.bad] at hs; cases hs
    | some a => rfl
  · simp only
    rw [e, h.bad, h'.bad]
theorem fq_en : FQ enO enQ := fq_seq fq_tx (someFQ fq_tx 1) (fun a b => (⟨a, b⟩ : En))
theorem fq_pr : FQ prO prQ := fq_seq fq_tx fq_ty (fun a b => (⟨a, b⟩ : Prt))
theorem fq_sl : FQ slO slQ := fq_seq fq_tx (fq_seq fq_ty (someFQ fq_in 1) (fun a b => (a, b))) (fun a b => (⟨a, b.1, 0, b.2⟩ : Slt))
theorem good_val {α : Type} {f : RS → α × RS} {g : QS → α × QS} (h : FQ f g) {c : List UInt8} (hg : good (f (some (c, 0))).2 = true) : (f (some (c, 0))).1 = (g (c, some 0)).1 := by
  refine h.val c (some 0) ?_
  have e : (f (some (c, 0))).2 = toP c (g (c, some 0)).2.2 := h.st c (some 0)
  rw [e] at hg
  unfold good at hg
  simp only [Bool.and_eq_true] at hg
  rw [← toP_some c]
  exact hg.1
theorem take_img {c0 c1 c2 c3 c4 c5 : List UInt8} {x : Img} (h : takeF [c0, c1, c2, c3, c4, c5] = (x, true)) : imgQ [c0, c1, c2, c3, c4, c5] = x ∧ (getI c5).isSome = true := by
  have hg := (take_inv h).2.2.2.2.2.2.2.2
  unfold takeF at h
  rw [if_pos hg] at h
  unfold TkS.gs secS at hg
  simp only [List.getD_cons_zero, List.getD_cons_succ, List.all_cons, List.all_nil, id_eq, Bool.and_true, Bool.and_eq_true] at hg h
  obtain ⟨g0, g1, g2, g3, g4⟩ := hg
  simp only [Prod.mk.injEq] at h
  obtain ⟨rfl, h5⟩ := h
  refine ⟨?_, h5⟩
  unfold imgQ
  simp only [List.getD_cons_zero, List.getD_cons_succ]
  rw [good_val (someFQ fq_en 1) g0, good_val (someFQ fq_pr 1) g1, good_val (someFQ fq_pr 1) g2, good_val (someFQ fq_sl 1) g3, good_val (someFQ fq_ki 2) g4]

/-- The bytes of an image's sections. -/
theorem enc_secs {x : Img} {b : List UInt8} (h : encF x = some b) : ∃ c6, vImg x ∧ putI x.code = some c6 ∧ b = sealF (magicB ++ secsB 0 [bList bEn 1 x.en, bList bPrt 1 x.ins, bList bPrt 1 x.outs, bList bSlt 1 x.slots, bList bLoc 2 x.loc, c6]) ∧ b.length ≤ 131072 := by
  unfold encF at h
  split at h
  · cases h
  · rename_i B hB
    split at h
    · rename_i hl
      injection h with h
      obtain ⟨c1, c2, c3, c4, c5, c6, s1, s2, s3, s4, s5, s6, e⟩ := encG_secs.1 hB
      obtain ⟨v1, rfl⟩ := sec1.1 s1
      obtain ⟨v2, rfl⟩ := sec2.1 s2
      obtain ⟨v3, rfl⟩ := sec3.1 s3
      obtain ⟨v4, rfl⟩ := sec4.1 s4
      obtain ⟨v5, rfl⟩ := sec5.1 s5
      rw [sec6] at s6
      refine ⟨c6, ⟨v1, v2, v3, v4.1, v4.2, v5⟩, s6, ?_, ?_⟩
      · rw [← h, e]
      · rw [← h]; exact hl
    · cases h
theorem enc_of {x : Img} {c6 : List UInt8} (hv : vImg x) (hc : putI x.code = some c6) (hl : (sealF (magicB ++ secsB 0 [bList bEn 1 x.en, bList bPrt 1 x.ins, bList bPrt 1 x.outs, bList bSlt 1 x.slots, bList bLoc 2 x.loc, c6])).length ≤ 131072) :
    encF x = some (sealF (magicB ++ secsB 0 [bList bEn 1 x.en, bList bPrt 1 x.ins, bList bPrt 1 x.outs, bList bSlt 1 x.slots, bList bLoc 2 x.loc, c6])) := by
  have e : encG x 6 = some (secsB 0 [bList bEn 1 x.en, bList bPrt 1 x.ins, bList bPrt 1 x.outs, bList bSlt 1 x.slots, bList bLoc 2 x.loc, c6]) :=
    encG_secs.2 ⟨_, _, _, _, _, c6, sec1.2 ⟨hv.en, rfl⟩, sec2.2 ⟨hv.ins, rfl⟩, sec3.2 ⟨hv.outs, rfl⟩, sec4.2 ⟨⟨hv.slots, hv.at_⟩, rfl⟩, sec5.2 ⟨hv.loc, rfl⟩, by rw [sec6]; exact hc, rfl⟩
  unfold encF
  rw [e]
  simp only
  rw [if_pos hl]
theorem secs_le : ∀ (cs : List (List UInt8)) (i : Nat), ∀ c ∈ cs, c.length ≤ (secsB i cs).length
  | [], _ => fun c hc => by cases hc
  | d :: cs, i => fun c hc => by
    unfold secsB
    simp only [List.length_append]
    rcases List.mem_cons.1 hc with rfl | hc
    · omega
    · have := secs_le cs (i + 1) c hc
      omega
theorem magic_drop (B : List UInt8) : (magicB ++ B).drop 4 = B := rfl
/-- What is encoded is decoded. -/
theorem dec_enc {x : Img} {b : List UInt8} (hn : nums x) (h : encF x = some b) : decG b = (x, 0) := by
  obtain ⟨c6, hv, hc, rfl, hl⟩ := enc_secs h
  have hm := sealF_len (magicB ++ secsB 0 [bList bEn 1 x.en, bList bPrt 1 x.ins, bList bPrt 1 x.outs, bList bSlt 1 x.slots, bList bLoc 2 x.loc, c6])
  have tk := take_back hv hn hc
  have hlen := secs_le [bList bEn 1 x.en, bList bPrt 1 x.ins, bList bPrt 1 x.outs, bList bSlt 1 x.slots, bList bLoc 2 x.loc, c6] 0
  have h6 : ([bList bEn 1 x.en, bList bPrt 1 x.ins, bList bPrt 1 x.outs, bList bSlt 1 x.slots, bList bLoc 2 x.loc, c6]).length = 6 := rfl
  generalize [bList bEn 1 x.en, bList bPrt 1 x.ins, bList bPrt 1 x.outs, bList bSlt 1 x.slots, bList bLoc 2 x.loc, c6] = cs at *
  have hp := partsF_back h6 (fun c hc => by have := hlen c hc; rw [List.length_append] at hm; omega)
  have m4 : magicB.length = 4 := rfl
  have hge : 4 ≤ (secsB 0 cs).length := by
    rcases cs with _ | ⟨c, cs⟩
    · cases h6
    · unfold secsB; simp only [List.length_append, putL_length]; omega
  generalize hB : secsB 0 cs = B at *
  rw [List.length_append, m4] at hm
  unfold decG
  rw [if_neg (by omega), if_neg, open_seal]
  rotate_left
  · simp only [not_or, Decidable.not_not]
    refine ⟨by omega, ?_⟩
    unfold sealF
    rw [List.append_assoc]
    rfl
  have ho : openB (sealF (magicB ++ B)) = magicB ++ B := by simp only [openB, open_seal, Option.getD_some]
  simp only [Option.isSome_some, ↓reduceIte]
  rw [ho]
  unfold decB
  rw [magic_drop, hp]
  simp only [↓reduceIte]
  rw [tk]
  simp only [↓reduceIte]
theorem openF_seal {b x : List UInt8} (h : openF b = some x) : b = sealF x := by
  unfold openF at h
  split at h
  · rename_i hh
    injection h with h
    subst h
    unfold sealF
    rw [hh.2, List.take_append_drop]
  · cases h
/-- What is decoded is encoded to the same; the document says the same of it. -/
theorem dec_body {b body : List UInt8} (hb : openF b = some body) (hm : b.take 4 = magicB) (h8 : ¬ b.length < 8) (hl : b.length ≤ 131072) :
    decB body = decBR body b ∧ (∀ x, decB body = (x, 0) → encF x = some b ∧ nums x ∧ vImg x) ∧ ((decB body).2 ≠ 0 → (decB body).1 = img0) := by
  have hs := openF_seal hb
  have hbl := sealF_len body
  have hbody : body = magicB ++ body.drop 4 := by
    have e : body.take 4 = magicB := by
      rw [← hm, hs]
      unfold sealF
      rw [List.take_append_of_le_length]
      rw [hs] at h8
      omega
    rw [← e, List.take_append_drop]
  unfold decB decBR
  cases hp : (partsF (body.drop 4)).2 with
  | false => exact ⟨rfl, fun x h => (by cases h), fun _ => rfl⟩
  | true =>
    simp only [↓reduceIte]
    obtain ⟨p1, p2, p3⟩ := partsF_inv hp
    generalize (partsF (body.drop 4)).1 = cs at p1 p2 p3 ⊢
    obtain ⟨c0, c1, c2, c3, c4, c5, rfl⟩ : ∃ c0 c1 c2 c3 c4 c5, cs = [c0, c1, c2, c3, c4, c5] := by
      rcases cs with _ | ⟨c0, _ | ⟨c1, _ | ⟨c2, _ | ⟨c3, _ | ⟨c4, _ | ⟨c5, _ | ⟨c6, l⟩⟩⟩⟩⟩⟩⟩ <;> simp at p2
      exact ⟨c0, c1, c2, c3, c4, c5, rfl⟩
    have hT := fun x => @take_inv c0 c1 c2 c3 c4 c5 x
    have hI := fun x => @take_img c0 c1 c2 c3 c4 c5 x
    have henc : ∀ x, takeF [c0, c1, c2, c3, c4, c5] = (x, true) → encF x = some b ∧ nums x ∧ vImg x := fun x hx => by
      obtain ⟨v, n, pc, e0, e1, e2, e3, e4, _⟩ := hT x hx
      have e : sealF (magicB ++ secsB 0 [bList bEn 1 x.en, bList bPrt 1 x.ins, bList bPrt 1 x.outs, bList bSlt 1 x.slots, bList bLoc 2 x.loc, c5]) = b := by
        rw [← e0, ← e1, ← e2, ← e3, ← e4, ← p1, ← hbody]
        exact hs.symm
      have := enc_of v pc (by rw [e]; exact hl)
      rw [e] at this
      exact ⟨this, n, v⟩
    simp only [List.getD_cons_zero, List.getD_cons_succ]
    cases ht : (takeF [c0, c1, c2, c3, c4, c5]).2 with
    | true =>
      have hx : takeF [c0, c1, c2, c3, c4, c5] = ((takeF [c0, c1, c2, c3, c4, c5]).1, true) := Prod.ext rfl ht
      obtain ⟨i1, i2⟩ := hI _ hx
      obtain ⟨n1, n2, n3⟩ := henc _ hx
      simp only [↓reduceIte]
      rw [i1, n1, i2]
      simp only [Bool.true_and, beq_self_eq_true, ↓reduceIte]
      refine ⟨trivial, fun x h => ?_, fun h => absurd rfl h⟩
      simp only [Prod.mk.injEq, and_true] at h
      subst h
      exact ⟨n1, n2, n3⟩
    | false =>
      simp only [Bool.false_eq_true, ↓reduceIte]
      refine ⟨?_, fun x h => (by simp only [Prod.mk.injEq] at h; exact absurd h.2 (by decide)), fun _ => trivial⟩
      split
      · rename_i hc
        exfalso
        simp only [Bool.and_eq_true, beq_iff_eq] at hc
        obtain ⟨hc1, hc2⟩ := hc
        obtain ⟨c6, hv, hpc, hbb, _⟩ := enc_secs hc2
        have e1 : magicB ++ secsB 0 [bList bEn 1 (imgQ [c0, c1, c2, c3, c4, c5]).en, bList bPrt 1 (imgQ [c0, c1, c2, c3, c4, c5]).ins, bList bPrt 1 (imgQ [c0, c1, c2, c3, c4, c5]).outs, bList bSlt 1 (imgQ [c0, c1, c2, c3, c4, c5]).slots, bList bLoc 2 (imgQ [c0, c1, c2, c3, c4, c5]).loc, c6] = body := by
          have h1 := open_seal (magicB ++ secsB 0 [bList bEn 1 (imgQ [c0, c1, c2, c3, c4, c5]).en, bList bPrt 1 (imgQ [c0, c1, c2, c3, c4, c5]).ins, bList bPrt 1 (imgQ [c0, c1, c2, c3, c4, c5]).outs, bList bSlt 1 (imgQ [c0, c1, c2, c3, c4, c5]).slots, bList bLoc 2 (imgQ [c0, c1, c2, c3, c4, c5]).loc, c6])
          rw [← hbb, hb] at h1
          exact (Option.some.inj h1).symm
        have hlb : ∀ c ∈ [c0, c1, c2, c3, c4, c5], c.length ≤ 131072 := fun c hc => by
          have := secs_le [c0, c1, c2, c3, c4, c5] 0 c hc
          rw [← p1, List.length_drop] at this
          rw [hs] at hl
          omega
        have hn : nums (imgQ [c0, c1, c2, c3, c4, c5]) := by
          have h := imgQ_enc (cs := [c0, c1, c2, c3, c4, c5]) (fun i => by
            rcases i with _ | _ | _ | _ | _ | _ | i
            · exact hlb c0 (by simp)
            · exact hlb c1 (by simp)
            · exact hlb c2 (by simp)
            · exact hlb c3 (by simp)
            · exact hlb c4 (by simp)
            · exact hlb c5 (by simp)
            · exact Nat.zero_le _)
          exact ⟨fun s hs => (h.im.slots.2.2 s hs).2.2, h.im.code.2⟩
        have tk := take_back hv hn hpc
        have e2 : secsB 0 [bList bEn 1 (imgQ [c0, c1, c2, c3, c4, c5]).en, bList bPrt 1 (imgQ [c0, c1, c2, c3, c4, c5]).ins, bList bPrt 1 (imgQ [c0, c1, c2, c3, c4, c5]).outs, bList bSlt 1 (imgQ [c0, c1, c2, c3, c4, c5]).slots, bList bLoc 2 (imgQ [c0, c1, c2, c3, c4, c5]).loc, c6] = secsB 0 [c0, c1, c2, c3, c4, c5] := by
          rw [← p1, ← e1, magic_drop]
        have hle2 := secs_le [bList bEn 1 (imgQ [c0, c1, c2, c3, c4, c5]).en, bList bPrt 1 (imgQ [c0, c1, c2, c3, c4, c5]).ins, bList bPrt 1 (imgQ [c0, c1, c2, c3, c4, c5]).outs, bList bSlt 1 (imgQ [c0, c1, c2, c3, c4, c5]).slots, bList bLoc 2 (imgQ [c0, c1, c2, c3, c4, c5]).loc, c6] 0
        have hsl : (secsB 0 [c0, c1, c2, c3, c4, c5]).length ≤ 131072 := by
          rw [← p1, List.length_drop]
          rw [hs] at hl
          omega
        rw [e2] at hle2
        have q1 := partsF_back (cs := [bList bEn 1 (imgQ [c0, c1, c2, c3, c4, c5]).en, bList bPrt 1 (imgQ [c0, c1, c2, c3, c4, c5]).ins, bList bPrt 1 (imgQ [c0, c1, c2, c3, c4, c5]).outs, bList bSlt 1 (imgQ [c0, c1, c2, c3, c4, c5]).slots, bList bLoc 2 (imgQ [c0, c1, c2, c3, c4, c5]).loc, c6]) rfl (fun c hc => by have := hle2 c hc; omega)
        have q2 := partsF_back (cs := [c0, c1, c2, c3, c4, c5]) rfl (fun c hc => p3 c hc)
        rw [e2, q2] at q1
        simp only [Prod.mk.injEq, and_true] at q1
        rw [← q1] at tk
        rw [tk] at ht
        cases ht
      · rfl
theorem dec_one {b : List UInt8} : decG b = decR b ∧ (∀ x, decG b = (x, 0) → encF x = some b ∧ nums x ∧ vImg x) ∧ ((decG b).2 ≠ 0 → (decG b).1 = img0) := by
  unfold decG decR
  by_cases c1 : 131072 < b.length
  · rw [if_pos c1, if_pos c1]
    exact ⟨rfl, fun x h => (by simp only [Prod.mk.injEq] at h; exact absurd h.2 (by decide)), fun _ => rfl⟩
  rw [if_neg c1, if_neg c1]
  by_cases c2 : b.length < 8 ∨ ¬ b.take 4 = magicB
  · rw [if_pos c2, if_pos c2]
    exact ⟨rfl, fun x h => (by simp only [Prod.mk.injEq] at h; exact absurd h.2 (by decide)), fun _ => rfl⟩
  rw [if_neg c2, if_neg c2]
  simp only [not_or, Decidable.not_not] at c2
  cases ho : openF b with
  | none => exact ⟨rfl, fun x h => (by simp only [Option.isSome_none, Bool.false_eq_true, ↓reduceIte, Prod.mk.injEq] at h; exact absurd h.2 (by decide)), fun _ => rfl⟩
  | some body =>
    have e : openB b = body := by simp only [openB, ho, Option.getD_some]
    simp only [Option.isSome_some, ↓reduceIte]
    rw [e]
    exact dec_body ho c2.2 c2.1 (by omega)
end Go.Proofs.YtfaailjhioobhaaGreat

/- Comparisons of images that are the same, by the program. -/
set_option linter.all false
set_option maxRecDepth 20000
namespace Go.Proofs.YtfaailjhioobhaaGreat
open Go.Nk

noncomputable def s_pPrts : List DV → Prop × DV := specE ePrts (fun l => l.length ≤ 1000000000)
theorem s_pPrts_same {l : List Prt} (h : l.length ≤ 1000000000) : s_pPrts [.sl (l.map cPrt), .sl (l.map cPrt)] = (True, .bool true) := specE_at ePrts h
theorem ok_slices_Equal_api_Port_api_Port : OkP Tryz.prog 45 s_pPrts := by
  refine OkP.mkE (ps := []) (hs := []) trivial trivial m_slices_Equal_api_Port_api_Port fun l h => ?_
  have h : l.length ≤ 1000000000 := h
  
  (have hcondQ := Bool.and_self; refine Todo.of ?_); (repeat' (first | ((with_reducible refine Todo.to ?_); (repeat (simp only [↓rP, rT, rU, eL, dvalX, dval, dBin, dInt, Nat.reduceEqDiff, ↓reduceIte, reduceCtorEq, d_slices_Equal_api_Port_api_Port, ePrts ])))))
  refine dwp_each l (fun k (_ : Unit) => ⟨[(0, .sl (l.map cPrt)), (1, .sl (l.map cPrt)), (12, .int .i64 l.length), (13, .int .i64 k)], []⟩) (fun _ _ _ => True) () (Nat.zero_le _) (by simp only [cut_some, List.map_cons, List.map_nil, get_cons, Nk.get_nil, Nat.reduceEqDiff, ↓reduceIte, Nat.succ_ne_self, DV.cut, DV.inB, List.take_nil, reduceCtorEq] <;> rfl) trivial (fun k x r _ d hx _ _ => ?_) (fun k _ e _ => ?_)
  · have wk := wk_of d (by omega)
    have r1 := map_getD cPrt hx
    have e1 : ∀ neg, dAeq neg [2, 0, 0, 0] (.agg (cPrt x)) (.agg (cPrt x)) = (True, .bool (!neg)) := fun neg => by cases neg <;> simp [dAeq, eqCells]
    (have hcondQ := Bool.and_self; refine Todo.of ?_); (repeat' (first | ((with_reducible refine Todo.to ?_); (repeat (simp only [↓rP, rT, rU, dvalX, dval, dBin, dInt, dLoad, cellsAt, Nat.reduceEqDiff, Nat.reduceAdd, ↓reduceIte, reduceCtorEq, Nat.reduceLeDiff, d, wk, r1, e1 ]))) | ((with_reducible refine And.intro ?_ ?_); · omega) | fail))
    exact ⟨(), by simp only [cut_some, List.map_cons, List.map_nil, get_cons, Nk.get_nil, Nat.reduceEqDiff, ↓reduceIte, Nat.succ_ne_self, DV.cut, DV.inB, List.take_nil, reduceCtorEq, Int.natCast_add, Int.natCast_one] <;> rfl⟩
  · (have hcondQ := Bool.and_self; refine Todo.of ?_); (repeat' (first | ((with_reducible refine Todo.to ?_); (repeat (simp only [↓rP, rT, rU, dvalX, dval, dBin, dInt, retV, DR.val, fzT, fzV, fz1, DV.immB, Nat.reduceEqDiff, ↓reduceIte, reduceCtorEq, e ])))))
noncomputable def s_pIns : List DV → Prop × DV := specE eIns4 (fun l => l.length ≤ 1000000000)
theorem s_pIns_same {l : List In4} (h : l.length ≤ 1000000000) : s_pIns [.sl (l.map cIn4), .sl (l.map cIn4)] = (True, .bool true) := specE_at eIns4 h
theorem ok_slices_Equal_api_Instr_api_Instr : OkP Tryz.prog 51 s_pIns := by
  refine OkP.mkE (ps := []) (hs := []) trivial trivial m_slices_Equal_api_Instr_api_Instr fun l h => ?_
  have h : l.length ≤ 1000000000 := h
  
  (have hcondQ := Bool.and_self; refine Todo.of ?_); (repeat' (first | ((with_reducible refine Todo.to ?_); (repeat (simp only [↓rP, rT, rU, dvalX, dval, dBin, dInt, Nat.reduceEqDiff, ↓reduceIte, reduceCtorEq, d_slices_Equal_api_Instr_api_Instr ])))))
  refine dwp_each l (fun k (_ : Unit) => ⟨[(0, .sl (l.map cIn4)), (1, .sl (l.map cIn4)), (12, .int .i64 l.length), (13, .int .i64 k)], []⟩) (fun _ _ _ => True) () (Nat.zero_le _) (by simp only [cut_some, List.map_cons, List.map_nil, get_cons, Nk.get_nil, Nat.reduceEqDiff, ↓reduceIte, Nat.succ_ne_self, DV.cut, DV.inB, List.take_nil, reduceCtorEq] <;> rfl) trivial (fun k x r _ d hx _ _ => ?_) (fun k _ e _ => ?_)
  · have wk := wk_of d (by omega)
    have r1 := map_getD cIn4 hx
    have e1 : ∀ neg, dAeq neg [0, 0, 0, 0] (.agg (cIn4 x)) (.agg (cIn4 x)) = (True, .bool (!neg)) := fun neg => by cases neg <;> simp [dAeq, eqCells]
    (have hcondQ := Bool.and_self; refine Todo.of ?_); (repeat' (first | ((with_reducible refine Todo.to ?_); (repeat (simp only [↓rP, rT, rU, dvalX, dval, dBin, dInt, dLoad, cellsAt, Nat.reduceEqDiff, Nat.reduceAdd, ↓reduceIte, reduceCtorEq, Nat.reduceLeDiff, d, wk, r1, e1 ]))) | ((with_reducible refine And.intro ?_ ?_); · omega) | fail))
    exact ⟨(), by simp only [cut_some, List.map_cons, List.map_nil, get_cons, Nk.get_nil, Nat.reduceEqDiff, ↓reduceIte, Nat.succ_ne_self, DV.cut, DV.inB, List.take_nil, reduceCtorEq, Int.natCast_add, Int.natCast_one] <;> rfl⟩
  · (have hcondQ := Bool.and_self; refine Todo.of ?_); (repeat' (first | ((with_reducible refine Todo.to ?_); (repeat (simp only [↓rP, rT, rU, dvalX, dval, dBin, dInt, retV, DR.val, fzT, fzV, fz1, DV.immB, Nat.reduceEqDiff, ↓reduceIte, reduceCtorEq, e ])))))
noncomputable def s_pInt : List DV → Prop × DV := specE eIls (fun l => l.length ≤ 1000000000)
theorem s_pInt_same {l : List Int} (h : l.length ≤ 1000000000) : s_pInt [.sl (ils l), .sl (ils l)] = (True, .bool true) := specE_at eIls h
theorem ok_slices_Equal_int_int : OkP Tryz.prog 50 s_pInt := by
  refine OkP.mkE (ps := []) (hs := []) trivial trivial m_slices_Equal_int_int fun l h => ?_
  have h : l.length ≤ 1000000000 := h
  
  (have hcondQ := Bool.and_self; refine Todo.of ?_); (repeat' (first | ((with_reducible refine Todo.to ?_); (repeat (simp only [↓rP, rT, dvalX, dval, dBin, dInt, Nat.reduceEqDiff, ↓reduceIte, reduceCtorEq, d_slices_Equal_int_int, eIls, ils_len ])))))
  refine dwp_each l (fun k (_ : Unit) => ⟨[(0, .sl (ils l)), (1, .sl (ils l)), (12, .int .i64 l.length), (13, .int .i64 k)], []⟩) (fun _ _ _ => True) () (Nat.zero_le _) (by simp only [cut_some, List.map_cons, List.map_nil, get_cons, Nk.get_nil, Nat.reduceEqDiff, ↓reduceIte, Nat.succ_ne_self, DV.cut, DV.inB, List.take_nil, reduceCtorEq] <;> rfl) trivial (fun k x r _ d hx _ _ => ?_) (fun k _ e _ => ?_)
  · have wk := wk_of d (by omega)
    have r1 := ils_at hx
    (have hcondQ := Bool.and_self; refine Todo.of ?_); (repeat' (first | ((with_reducible refine Todo.to ?_); (repeat (simp only [↓rP, rT, rU, dvalX, dval, dBin, dInt, dLoad, cellsAt, Nat.reduceEqDiff, ↓reduceIte, reduceCtorEq, ils_len, d, wk, r1 ]))) | ((with_reducible refine And.intro ?_ ?_); · omega) | fail))
    exact ⟨(), by simp only [cut_some, List.map_cons, List.map_nil, get_cons, Nk.get_nil, Nat.reduceEqDiff, ↓reduceIte, Nat.succ_ne_self, DV.cut, DV.inB, List.take_nil, reduceCtorEq, Int.natCast_add, Int.natCast_one] <;> rfl⟩
  · (have hcondQ := Bool.and_self; refine Todo.of ?_); (repeat' (first | ((with_reducible refine Todo.to ?_); (repeat (simp only [↓rP, rT, rU, dvalX, dval, dBin, dInt, retV, DR.val, fzT, fzV, fz1, DV.immB, Nat.reduceEqDiff, ↓reduceIte, reduceCtorEq, e ])))))
noncomputable def s_pI64 : List DV → Prop × DV := specE eIls (fun l => l.length ≤ 1000000000)
theorem s_pI64_same {l : List Int} (h : l.length ≤ 1000000000) : s_pI64 [.sl (ils l), .sl (ils l)] = (True, .bool true) := specE_at eIls h
theorem ok_slices_Equal_int64_int64 : OkP Tryz.prog 104 s_pI64 := by
  refine OkP.mkE (ps := []) (hs := []) trivial trivial m_slices_Equal_int64_int64 fun l h => ?_
  have h : l.length ≤ 1000000000 := h
  
  (have hcondQ := Bool.and_self; refine Todo.of ?_); (repeat' (first | ((with_reducible refine Todo.to ?_); (repeat (simp only [↓rP, rT, dvalX, dval, dBin, dInt, Nat.reduceEqDiff, ↓reduceIte, reduceCtorEq, d_slices_Equal_int64_int64, eIls, ils_len ])))))
  refine dwp_each l (fun k (_ : Unit) => ⟨[(0, .sl (ils l)), (1, .sl (ils l)), (12, .int .i64 l.length), (13, .int .i64 k)], []⟩) (fun _ _ _ => True) () (Nat.zero_le _) (by simp only [cut_some, List.map_cons, List.map_nil, get_cons, Nk.get_nil, Nat.reduceEqDiff, ↓reduceIte, Nat.succ_ne_self, DV.cut, DV.inB, List.take_nil, reduceCtorEq] <;> rfl) trivial (fun k x r _ d hx _ _ => ?_) (fun k _ e _ => ?_)
  · have wk := wk_of d (by omega)
    have r1 := ils_at hx
    (have hcondQ := Bool.and_self; refine Todo.of ?_); (repeat' (first | ((with_reducible refine Todo.to ?_); (repeat (simp only [↓rP, rT, rU, dvalX, dval, dBin, dInt, dLoad, cellsAt, Nat.reduceEqDiff, ↓reduceIte, reduceCtorEq, ils_len, d, wk, r1 ]))) | ((with_reducible refine And.intro ?_ ?_); · omega) | fail))
    exact ⟨(), by simp only [cut_some, List.map_cons, List.map_nil, get_cons, Nk.get_nil, Nat.reduceEqDiff, ↓reduceIte, Nat.succ_ne_self, DV.cut, DV.inB, List.take_nil, reduceCtorEq, Int.natCast_add, Int.natCast_one] <;> rfl⟩
  · (have hcondQ := Bool.and_self; refine Todo.of ?_); (repeat' (first | ((with_reducible refine Todo.to ?_); (repeat (simp only [↓rP, rT, rU, dvalX, dval, dBin, dInt, retV, DR.val, fzT, fzV, fz1, DV.immB, Nat.reduceEqDiff, ↓reduceIte, reduceCtorEq, e ])))))
/-! Enums and slots. -/
noncomputable def s_sEn : List DV → Prop × DV := specE (eA cEn) (fun x => x.ct.length ≤ 1000000000)
theorem s_sEn_same {x : En} (h : x.ct.length ≤ 1000000000) : s_sEn [.agg (cEn x), .agg (cEn x)] = (True, .bool true) := specE_at (eA cEn) h
theorem ok_image_sameEnum : OkP Tryz.prog 47 s_sEn := by
  refine OkP.mkE (ps := [(103, s_Names)]) (hs := []) ⟨ok_Equal, trivial⟩ trivial m_image_sameEnum fun x h => ?_
  have h : x.ct.length ≤ 1000000000 := h
  have e1 := s_Names_at x.ct x.ct
  rw [eq_true h, decide_eq_true rfl] at e1
  
  (have hcondQ := Bool.and_self; refine Todo.of ?_); (repeat' (first | ((with_reducible refine Todo.to ?_); (repeat (simp only [↓rP, rT, rU, eA, dvalX, dval, dBin, dStr, dLoad, cellsAt, retV, DR.val, fzT, fzV, fz1, DV.immB, dCallP, viewVs, viewV, view1, noMemV, noMem, DV.one, alive, cellsOf, Nat.reduceEqDiff, Nat.reduceAdd, ↓reduceIte, reduceCtorEq, Nat.reduceLT, forall_const, d_image_sameEnum, e1 ])))))
noncomputable def s_sSl : List DV → Prop × DV := specE (eA cSlt) (fun x => x.ini.length ≤ 1000000000)
theorem s_sSl_same {x : Slt} (h : x.ini.length ≤ 1000000000) : s_sSl [.agg (cSlt x), .agg (cSlt x)] = (True, .bool true) := specE_at (eA cSlt) h
theorem ok_image_sameSlot : OkP Tryz.prog 49 s_sSl := by
  refine OkP.mkE (ps := [(104, s_pI64)]) (hs := []) ⟨ok_slices_Equal_int64_int64, trivial⟩ trivial m_image_sameSlot fun x h => ?_
  have h : x.ini.length ≤ 1000000000 := h
  have e1 := s_pI64_same h
  have e2 : ∀ neg, dAeq neg [0, 0, 0] (.agg [.int .i64 x.ty.k, .int .i64 x.ty.e, .int .i64 x.ty.n]) (.agg [.int .i64 x.ty.k, .int .i64 x.ty.e, .int .i64 x.ty.n]) = (True, .bool (!neg)) := fun neg => by cases neg <;> simp [dAeq, eqCells]
  
  (have hcondQ := Bool.and_self; refine Todo.of ?_); (repeat' (first | ((with_reducible refine Todo.to ?_); (repeat (simp only [↓rP, rT, rU, eA, dvalX, dval, dBin, dInt, dStr, dLoad, cellsAt, retV, DR.val, fzT, fzV, fz1, DV.immB, dCallP, viewVs, viewV, view1, noMemV, noMem, DV.one, alive, cellsOf, Nat.reduceEqDiff, Nat.reduceAdd, ↓reduceIte, reduceCtorEq, Nat.reduceLeDiff, Nat.reduceLT, forall_const, d_image_sameSlot, e1, e2 ])))))
def ks_fEns (l : List En) : Prop := l.length ≤ 1000000000 ∧ ∀ x ∈ l, x.ct.length ≤ 1000000000
noncomputable def s_fEns : List DV → Prop × DV := fun args => (∃ l : List En, args = [.sl (l.map cEn), .sl (l.map cEn), .clo 47 []] ∧ ks_fEns l, .bool true)
theorem s_fEns_same {l : List En} (h : ks_fEns l) : s_fEns [.sl (l.map cEn), .sl (l.map cEn), .clo 47 []] = (True, .bool true) := by
  unfold s_fEns
  exact congrArg (·, DV.bool true) (eq_true ⟨l, rfl, h⟩)
theorem ok_slices_EqualFunc_api_Enum_api_Enum_api_Enum_api_Enum : OkP Tryz.prog 46 s_fEns := by
  refine OkP.mk (ps := [(47, s_sEn)]) (hs := []) (n := 3) ⟨ok_image_sameEnum, trivial⟩ trivial m_slices_EqualFunc_api_Enum_api_Enum_api_Enum_api_Enum fun args hp => ?_
  obtain ⟨l, rfl, h1, h2⟩ := hp
  refine ⟨rfl, ?_⟩
  show dwp _ 0 _ (EndP _ (.bool true)) _
  
  (have hcondQ := Bool.and_self; refine Todo.of ?_); (repeat' (first | ((with_reducible refine Todo.to ?_); (repeat (simp only [↓rP, rT, rU, dvalX, dval, frameFrom, dBin, dInt, Nat.reduceEqDiff, Nat.reduceAdd, ↓reduceIte, reduceCtorEq, d_slices_EqualFunc_api_Enum_api_Enum_api_Enum_api_Enum ])))))
  refine dwp_each l (fun k (_ : Unit) => ⟨[(1, .sl (l.map cEn)), (2, .clo 47 []), (15, .sl (l.map cEn)), (16, .int .i64 l.length), (17, .int .i64 k)], []⟩) (fun _ _ _ => True) () (Nat.zero_le _) (by simp only [cut_some, List.map_cons, List.map_nil, get_cons, Nk.get_nil, Nat.reduceEqDiff, ↓reduceIte, Nat.succ_ne_self, DV.cut, DV.inB, List.take_nil, DV.inBL, reduceCtorEq] <;> rfl) trivial (fun k x r _ d hx _ _ => ?_) (fun k _ e _ => ?_)
  · have wk := wk_of d (by omega)
    have r1 := map_getD cEn hx
    have e1 := s_sEn_same (h2 x (List.mem_of_getElem? hx))
    (have hcondQ := Bool.and_self; refine Todo.of ?_); (repeat' (first | ((with_reducible refine Todo.to ?_); (repeat (simp only [↓rP, rT, rU, dvalX, dval, dBin, dInt, dUn, dLoad, cellsAt, DV.immB, dCallP, viewVs, viewV, view1, viewL, noMemV, noMem, dStore, DV.one, cellsOf, setFrom, Nat.reduceEqDiff, Nat.reduceAdd, ↓reduceIte, reduceCtorEq, Nat.reduceLeDiff, forall_const, d, wk, r1, e1 ]))) | ((with_reducible refine And.intro ?_ ?_); · omega) | fail))
    exact ⟨(), by simp only [cut_some, List.map_cons, List.map_nil, get_cons, Nk.get_nil, Nat.reduceEqDiff, ↓reduceIte, Nat.succ_ne_self, DV.cut, DV.inB, List.take_zero, DV.inBL, Int.natCast_add, Int.natCast_one] <;> rfl⟩
  · (have hcondQ := Bool.and_self; refine Todo.of ?_); (repeat' (first | ((with_reducible refine Todo.to ?_); (repeat (simp only [↓rP, rT, rU, dvalX, dval, dBin, dInt, retV, DR.val, fzT, fzV, fz1, DV.immB, Nat.reduceEqDiff, ↓reduceIte, e ])))))
def ks_fSls (l : List Slt) : Prop := l.length ≤ 1000000000 ∧ ∀ x ∈ l, x.ini.length ≤ 1000000000
noncomputable def s_fSls : List DV → Prop × DV := fun args => (∃ l : List Slt, args = [.sl (l.map cSlt), .sl (l.map cSlt), .clo 49 []] ∧ ks_fSls l, .bool true)
theorem s_fSls_same {l : List Slt} (h : ks_fSls l) : s_fSls [.sl (l.map cSlt), .sl (l.map cSlt), .clo 49 []] = (True, .bool true) := by
  unfold s_fSls
  exact congrArg (·, DV.bool true) (eq_true ⟨l, rfl, h⟩)
theorem ok_slices_EqualFunc_api_Slot_api_Slot_api_Slot_api_Slot : OkP Tryz.prog 48 s_fSls := by
  refine OkP.mk (ps := [(49, s_sSl)]) (hs := []) (n := 3) ⟨ok_image_sameSlot, trivial⟩ trivial m_slices_EqualFunc_api_Slot_api_Slot_api_Slot_api_Slot fun args hp => ?_
  obtain ⟨l, rfl, h1, h2⟩ := hp
  refine ⟨rfl, ?_⟩
  show dwp _ 0 _ (EndP _ (.bool true)) _
  
  (have hcondQ := Bool.and_self; refine Todo.of ?_); (repeat' (first | ((with_reducible refine Todo.to ?_); (repeat (simp only [↓rP, rT, rU, dvalX, dval, frameFrom, dBin, dInt, Nat.reduceEqDiff, Nat.reduceAdd, ↓reduceIte, reduceCtorEq, d_slices_EqualFunc_api_Slot_api_Slot_api_Slot_api_Slot ])))))
  refine dwp_each l (fun k (_ : Unit) => ⟨[(1, .sl (l.map cSlt)), (2, .clo 49 []), (15, .sl (l.map cSlt)), (16, .int .i64 l.length), (17, .int .i64 k)], []⟩) (fun _ _ _ => True) () (Nat.zero_le _) (by simp only [cut_some, List.map_cons, List.map_nil, get_cons, Nk.get_nil, Nat.reduceEqDiff, ↓reduceIte, Nat.succ_ne_self, DV.cut, DV.inB, List.take_nil, DV.inBL, reduceCtorEq] <;> rfl) trivial (fun k x r _ d hx _ _ => ?_) (fun k _ e _ => ?_)
  · have wk := wk_of d (by omega)
    have r1 := map_getD cSlt hx
    have e1 := s_sSl_same (h2 x (List.mem_of_getElem? hx))
    (have hcondQ := Bool.and_self; refine Todo.of ?_); (repeat' (first | ((with_reducible refine Todo.to ?_); (repeat (simp only [↓rP, rT, rU, dvalX, dval, dBin, dInt, dUn, dLoad, cellsAt, DV.immB, dCallP, viewVs, viewV, view1, viewL, noMemV, noMem, dStore, DV.one, cellsOf, setFrom, Nat.reduceEqDiff, Nat.reduceAdd, ↓reduceIte, reduceCtorEq, Nat.reduceLeDiff, forall_const, d, wk, r1, e1 ]))) | ((with_reducible refine And.intro ?_ ?_); · omega) | fail))
    exact ⟨(), by simp only [cut_some, List.map_cons, List.map_nil, get_cons, Nk.get_nil, Nat.reduceEqDiff, ↓reduceIte, Nat.succ_ne_self, DV.cut, DV.inB, List.take_zero, DV.inBL, Int.natCast_add, Int.natCast_one] <;> rfl⟩
  · (have hcondQ := Bool.and_self; refine Todo.of ?_); (repeat' (first | ((with_reducible refine Todo.to ?_); (repeat (simp only [↓rP, rT, rU, dvalX, dval, dBin, dInt, retV, DR.val, fzT, fzV, fz1, DV.immB, Nat.reduceEqDiff, ↓reduceIte, e ])))))
/-- Images that are not great. -/
structure okSm (x : Img) : Prop where
  en : ks_fEns x.en
  ins : x.ins.length ≤ 1000000000
  outs : x.outs.length ≤ 1000000000
  sl : ks_fSls x.slots
  loc : x.loc.length ≤ 1000000000
  code : x.code.length ≤ 1000000000
noncomputable def s_iSame : List DV → Prop × DV := specE eImg okSm
theorem s_iSame_same {x : Img} (h : okSm x) : s_iSame [.agg (cImg x), .agg (cImg x)] = (True, .bool true) := specE_at eImg h
theorem ok_image_Same : OkP Tryz.prog 16 s_iSame := by
  refine OkP.mkE (ps := [(45, s_pPrts), (46, s_fEns), (48, s_fSls), (50, s_pInt), (51, s_pIns)]) (hs := [])
    ⟨ok_slices_Equal_api_Port_api_Port, ok_slices_EqualFunc_api_Enum_api_Enum_api_Enum_api_Enum, ok_slices_EqualFunc_api_Slot_api_Slot_api_Slot_api_Slot, ok_slices_Equal_int_int, ok_slices_Equal_api_Instr_api_Instr, trivial⟩ trivial m_image_Same fun x h => ?_
  have e1 := s_fEns_same h.en
  have e2 := s_pPrts_same h.ins
  have e3 := s_pPrts_same h.outs
  have e4 := s_fSls_same h.sl
  have e5 := s_pInt_same h.loc
  have e6 := s_pIns_same h.code
  
  (have hcondQ := Bool.and_self; refine Todo.of ?_); (repeat' (first | ((with_reducible refine Todo.to ?_); (repeat (simp only [↓rP, rT, rU, eA, dvalX, dval, dLoad, cellsAt, retV, DR.val, fzT, fzV, fz1, DV.immB, dCallP, viewVs, viewV, view1, capVL, noMemV, noMem, DV.one, alive, cellsOf, Nat.reduceEqDiff, Nat.reduceAdd, ↓reduceIte, reduceCtorEq, Nat.reduceLT, forall_const, d_image_Same, eImg, e1, e2, e3, e4, e5, e6 ])))))
end Go.Proofs.YtfaailjhioobhaaGreat

/- Comparisons of images that are the same, by the document, whatever is in them. -/
set_option linter.all false
set_option maxRecDepth 20000
namespace Go.Proofs.YtfaailjhioobhaaGreat
open Go.Nk

theorem s_Names_w {l : List (List UInt8)} (h : l.length ≤ 1000000000) : s_Names [.sl (sls l), .sl (sls l)] = (True, .bool true) := by
  have := s_Names_at l l
  rw [eq_true h, decide_eq_true rfl] at this
  exact this
noncomputable def s_wEn : List DV → Prop × DV := specE eEns (fun l => l.length ≤ 1000000000 ∧ ∀ e ∈ l, e.ct.length ≤ 1000000000)
theorem s_wEn_same {l : List En} (h : l.length ≤ 1000000000 ∧ ∀ e ∈ l, e.ct.length ≤ 1000000000) : s_wEn [.sl (l.map cEn), .sl (l.map cEn)] = (True, .bool true) := specE_at eEns h
theorem okw_05 : OkP Tryz.prog 98 s_wEn := by
  refine OkP.mkE (ps := [(126, s_Names)]) (hs := []) ⟨ok_Names, trivial⟩ trivial m_noriaref05_Same fun l h => ?_
  obtain ⟨h1, h2⟩ := h
  
  (have hcondQ := Bool.and_self; refine Todo.of ?_); (repeat' (first | ((with_reducible refine Todo.to ?_); (repeat (simp only [↓rP, rT, rU, eL, dvalX, dval, dBin, dInt, Nat.reduceEqDiff, ↓reduceIte, reduceCtorEq, d_noriaref05_Same, eEns ])))))
  refine dwp_each l (fun k (_ : Unit) => ⟨[(0, .sl (l.map cEn)), (1, .sl (l.map cEn)), (5, .int .i64 k)], []⟩) (fun _ _ _ => True) () (Nat.zero_le _) (by simp only [cut_some, List.map_cons, List.map_nil, get_cons, Nk.get_nil, Nat.reduceEqDiff, ↓reduceIte, Nat.succ_ne_self, DV.cut, DV.inB, List.take_nil, reduceCtorEq] <;> rfl) trivial (fun k x r _ d hx _ _ => ?_) (fun k _ e _ => ?_)
  · have wk := wk_of d (by omega)
    have r1 := map_getD cEn hx
    have e1 := s_Names_w (h2 x (List.mem_of_getElem? hx))
    (have hcondQ := Bool.and_self; refine Todo.of ?_); (repeat' (first | ((with_reducible refine Todo.to ?_); (repeat (simp only [↓rP, rT, rU, dvalX, dval, dBin, dInt, dStr, dUn, dLoad, cellsAt, DV.immB, dCallP, viewVs, viewV, view1, noMemV, noMem, Nat.reduceEqDiff, Nat.reduceAdd, ↓reduceIte, reduceCtorEq, Nat.reduceLT, d, wk, r1, e1 ]))) | ((with_reducible refine And.intro ?_ ?_); · omega) | fail))
    exact ⟨(), by simp only [cut_some, List.map_cons, List.map_nil, get_cons, Nk.get_nil, Nat.reduceEqDiff, ↓reduceIte, Nat.succ_ne_self, DV.cut, DV.inB, List.take_nil, reduceCtorEq, Int.natCast_add, Int.natCast_one] <;> rfl⟩
  · (have hcondQ := Bool.and_self; refine Todo.of ?_); (repeat' (first | ((with_reducible refine Todo.to ?_); (repeat (simp only [↓rP, rT, rU, dvalX, dval, dBin, dInt, retV, DR.val, fzT, fzV, fz1, DV.immB, Nat.reduceEqDiff, ↓reduceIte, reduceCtorEq, e ])))))
noncomputable def s_wPr : List DV → Prop × DV := specE ePrts (fun l => l.length ≤ 1000000000)
theorem s_wPr_same {l : List Prt} (h : l.length ≤ 1000000000) : s_wPr [.sl (l.map cPrt), .sl (l.map cPrt)] = (True, .bool true) := specE_at ePrts h
theorem okw_20 : OkP Tryz.prog 99 s_wPr := by
  refine OkP.mkE (ps := []) (hs := []) trivial trivial m_noriaref20_Same fun l h => ?_
  have h : l.length ≤ 1000000000 := h
  
  (have hcondQ := Bool.and_self; refine Todo.of ?_); (repeat' (first | ((with_reducible refine Todo.to ?_); (repeat (simp only [↓rP, rT, rU, eL, dvalX, dval, dBin, dInt, Nat.reduceEqDiff, ↓reduceIte, reduceCtorEq, d_noriaref20_Same, ePrts ])))))
  refine dwp_each l (fun k (_ : Unit) => ⟨[(0, .sl (l.map cPrt)), (1, .sl (l.map cPrt)), (5, .int .i64 k)], []⟩) (fun _ _ _ => True) () (Nat.zero_le _) (by simp only [cut_some, List.map_cons, List.map_nil, get_cons, Nk.get_nil, Nat.reduceEqDiff, ↓reduceIte, Nat.succ_ne_self, DV.cut, DV.inB, List.take_nil, reduceCtorEq] <;> rfl) trivial (fun k x r _ d hx _ _ => ?_) (fun k _ e _ => ?_)
  · have wk := wk_of d (by omega)
    have r1 := map_getD cPrt hx
    have e1 : ∀ neg, dAeq neg [2, 0, 0, 0] (.agg (cPrt x)) (.agg (cPrt x)) = (True, .bool (!neg)) := fun neg => by cases neg <;> simp [dAeq, eqCells]
    (have hcondQ := Bool.and_self; refine Todo.of ?_); (repeat' (first | ((with_reducible refine Todo.to ?_); (repeat (simp only [↓rP, rT, rU, dvalX, dval, dBin, dInt, dLoad, cellsAt, Nat.reduceEqDiff, Nat.reduceAdd, ↓reduceIte, reduceCtorEq, Nat.reduceLeDiff, d, wk, r1, e1 ]))) | ((with_reducible refine And.intro ?_ ?_); · omega) | fail))
    exact ⟨(), by simp only [cut_some, List.map_cons, List.map_nil, get_cons, Nk.get_nil, Nat.reduceEqDiff, ↓reduceIte, Nat.succ_ne_self, DV.cut, DV.inB, List.take_nil, reduceCtorEq, Int.natCast_add, Int.natCast_one] <;> rfl⟩
  · (have hcondQ := Bool.and_self; refine Todo.of ?_); (repeat' (first | ((with_reducible refine Todo.to ?_); (repeat (simp only [↓rP, rT, rU, dvalX, dval, dBin, dInt, retV, DR.val, fzT, fzV, fz1, DV.immB, Nat.reduceEqDiff, ↓reduceIte, reduceCtorEq, e ])))))
noncomputable def s_wSl : List DV → Prop × DV := specE eSlts (fun l => l.length ≤ 1000000000 ∧ ∀ s ∈ l, s.ini.length ≤ 1000000000)
theorem s_wSl_same {l : List Slt} (h : l.length ≤ 1000000000 ∧ ∀ s ∈ l, s.ini.length ≤ 1000000000) : s_wSl [.sl (l.map cSlt), .sl (l.map cSlt)] = (True, .bool true) := specE_at eSlts h
theorem okw_27 : OkP Tryz.prog 100 s_wSl := by
  refine OkP.mkE (ps := [(127, s_Vals)]) (hs := []) ⟨ok_noriaref01_Vals, trivial⟩ trivial m_noriaref27_Same fun l h => ?_
  obtain ⟨h1, h2⟩ := h
  
  (have hcondQ := Bool.and_self; refine Todo.of ?_); (repeat' (first | ((with_reducible refine Todo.to ?_); (repeat (simp only [↓rP, rT, rU, dvalX, dval, dBin, dInt, Nat.reduceEqDiff, ↓reduceIte, reduceCtorEq, d_noriaref27_Same ])))))
  refine dwp_each l (fun k (_ : Unit) => ⟨[(0, .sl (l.map cSlt)), (1, .sl (l.map cSlt)), (5, .int .i64 k)], []⟩) (fun _ _ _ => True) () (Nat.zero_le _) (by simp only [cut_some, List.map_cons, List.map_nil, get_cons, Nk.get_nil, Nat.reduceEqDiff, ↓reduceIte, Nat.succ_ne_self, DV.cut, DV.inB, List.take_nil, reduceCtorEq] <;> rfl) trivial (fun k x r _ d hx _ _ => ?_) (fun k _ e _ => ?_)
  · have wk := wk_of d (by omega)
    have r1 := map_getD cSlt hx
    have e1 : ∀ neg, dAeq neg [0, 0, 0] (.agg [.int .i64 x.ty.k, .int .i64 x.ty.e, .int .i64 x.ty.n]) (.agg [.int .i64 x.ty.k, .int .i64 x.ty.e, .int .i64 x.ty.n]) = (True, .bool (!neg)) := fun neg => by cases neg <;> simp [dAeq, eqCells]
    have e2 := s_Vals_same x.ini (by have := h2 x (List.mem_of_getElem? hx); omega)
    (have hcondQ := Bool.and_self; refine Todo.of ?_); (repeat' (first | ((with_reducible refine Todo.to ?_); (repeat (simp only [↓rP, rT, rU, dvalX, dval, dBin, dInt, dStr, dUn, dLoad, cellsAt, DV.immB, dCallP, viewVs, viewV, view1, noMemV, noMem, Nat.reduceEqDiff, Nat.reduceAdd, ↓reduceIte, reduceCtorEq, Nat.reduceLeDiff, Nat.reduceLT, d, wk, r1, e1, e2 ]))) | ((with_reducible refine And.intro ?_ ?_); · omega) | fail))
    exact ⟨(), by simp only [cut_some, List.map_cons, List.map_nil, get_cons, Nk.get_nil, Nat.reduceEqDiff, ↓reduceIte, Nat.succ_ne_self, DV.cut, DV.inB, List.take_nil, reduceCtorEq, Int.natCast_add, Int.natCast_one] <;> rfl⟩
  · (have hcondQ := Bool.and_self; refine Todo.of ?_); (repeat' (first | ((with_reducible refine Todo.to ?_); (repeat (simp only [↓rP, rT, rU, dvalX, dval, dBin, dInt, retV, DR.val, fzT, fzV, fz1, DV.immB, Nat.reduceEqDiff, ↓reduceIte, reduceCtorEq, e ])))))
noncomputable def s_wIn : List DV → Prop × DV := specE eIls (fun l => l.length ≤ 1000000000)
theorem s_wIn_same {l : List Int} (h : l.length ≤ 1000000000) : s_wIn [.sl (ils l), .sl (ils l)] = (True, .bool true) := specE_at eIls h
theorem okw_32i : OkP Tryz.prog 101 s_wIn := by
  refine OkP.mkE (ps := []) (hs := []) trivial trivial m_noriaref32_SameInts fun l h => ?_
  have h : l.length ≤ 1000000000 := h
  
  (have hcondQ := Bool.and_self; refine Todo.of ?_); (repeat' (first | ((with_reducible refine Todo.to ?_); (repeat (simp only [↓rP, rT, dvalX, dval, dBin, dInt, Nat.reduceEqDiff, ↓reduceIte, reduceCtorEq, d_noriaref32_SameInts, eIls, ils_len ])))))
  refine dwp_each l (fun k (_ : Unit) => ⟨[(0, .sl (ils l)), (1, .sl (ils l)), (5, .int .i64 k)], []⟩) (fun _ _ _ => True) () (Nat.zero_le _) (by simp only [cut_some, List.map_cons, List.map_nil, get_cons, Nk.get_nil, Nat.reduceEqDiff, ↓reduceIte, Nat.succ_ne_self, DV.cut, DV.inB, List.take_nil, reduceCtorEq] <;> rfl) trivial (fun k x r _ d hx _ _ => ?_) (fun k _ e _ => ?_)
  · have wk := wk_of d (by omega)
    (have hcondQ := Bool.and_self; refine Todo.of ?_); (repeat' (first | ((with_reducible refine Todo.to ?_); (repeat (simp only [↓rP, rT, rU, dvalX, dval, dBin, dInt, dLoad, cellsAt, Nat.reduceEqDiff, ↓reduceIte, reduceCtorEq, ils_len, d, wk, ils_at hx ]))) | ((with_reducible refine And.intro ?_ ?_); · omega) | fail))
    exact ⟨(), by simp only [cut_some, List.map_cons, List.map_nil, get_cons, Nk.get_nil, Nat.reduceEqDiff, ↓reduceIte, Nat.succ_ne_self, DV.cut, DV.inB, List.take_nil, reduceCtorEq, Int.natCast_add, Int.natCast_one] <;> rfl⟩
  · (have hcondQ := Bool.and_self; refine Todo.of ?_); (repeat' (first | ((with_reducible refine Todo.to ?_); (repeat (simp only [↓rP, rT, rU, dvalX, dval, dBin, dInt, retV, DR.val, fzT, fzV, fz1, DV.immB, Nat.reduceEqDiff, ↓reduceIte, reduceCtorEq, ils_len, e ])))))
noncomputable def s_wI4 : List DV → Prop × DV := specE eIns4 (fun l => l.length ≤ 1000000000)
theorem s_wI4_same {l : List In4} (h : l.length ≤ 1000000000) : s_wI4 [.sl (l.map cIn4), .sl (l.map cIn4)] = (True, .bool true) := specE_at eIns4 h
theorem okw_28 : OkP Tryz.prog 102 s_wI4 := by
  refine OkP.mkE (ps := []) (hs := []) trivial trivial m_noriaref28_Same fun l h => ?_
  have h : l.length ≤ 1000000000 := h
  
  (have hcondQ := Bool.and_self; refine Todo.of ?_); (repeat' (first | ((with_reducible refine Todo.to ?_); (repeat (simp only [↓rP, rT, rU, dvalX, dval, dBin, dInt, Nat.reduceEqDiff, ↓reduceIte, reduceCtorEq, d_noriaref28_Same ])))))
  refine dwp_each l (fun k (_ : Unit) => ⟨[(0, .sl (l.map cIn4)), (1, .sl (l.map cIn4)), (5, .int .i64 k)], []⟩) (fun _ _ _ => True) () (Nat.zero_le _) (by simp only [cut_some, List.map_cons, List.map_nil, get_cons, Nk.get_nil, Nat.reduceEqDiff, ↓reduceIte, Nat.succ_ne_self, DV.cut, DV.inB, List.take_nil, reduceCtorEq] <;> rfl) trivial (fun k x r _ d hx _ _ => ?_) (fun k _ e _ => ?_)
  · have wk := wk_of d (by omega)
    have r1 := map_getD cIn4 hx
    have e1 : ∀ neg, dAeq neg [0, 0, 0, 0] (.agg (cIn4 x)) (.agg (cIn4 x)) = (True, .bool (!neg)) := fun neg => by cases neg <;> simp [dAeq, eqCells]
    (have hcondQ := Bool.and_self; refine Todo.of ?_); (repeat' (first | ((with_reducible refine Todo.to ?_); (repeat (simp only [↓rP, rT, rU, dvalX, dval, dBin, dInt, dLoad, cellsAt, Nat.reduceEqDiff, Nat.reduceAdd, ↓reduceIte, reduceCtorEq, Nat.reduceLeDiff, d, wk, r1, e1 ]))) | ((with_reducible refine And.intro ?_ ?_); · omega) | fail))
    exact ⟨(), by simp only [cut_some, List.map_cons, List.map_nil, get_cons, Nk.get_nil, Nat.reduceEqDiff, ↓reduceIte, Nat.succ_ne_self, DV.cut, DV.inB, List.take_nil, reduceCtorEq, Int.natCast_add, Int.natCast_one] <;> rfl⟩
  · (have hcondQ := Bool.and_self; refine Todo.of ?_); (repeat' (first | ((with_reducible refine Todo.to ?_); (repeat (simp only [↓rP, rT, rU, dvalX, dval, dBin, dInt, retV, DR.val, fzT, fzV, fz1, DV.immB, Nat.reduceEqDiff, ↓reduceIte, reduceCtorEq, e ])))))
noncomputable def s_wImg : List DV → Prop × DV := specE eImg (fun x => okSm x)
theorem s_wImg_same {x : Img} (h : okSm x) : s_wImg [.agg (cImg x), .agg (cImg x)] = (True, .bool true) := specE_at eImg h
theorem okw_32 : OkP Tryz.prog 44 s_wImg := by
  refine OkP.mkE (ps := [(98, s_wEn), (99, s_wPr), (100, s_wSl), (101, s_wIn), (102, s_wI4)]) (hs := [])
    ⟨okw_05, okw_20, okw_27, okw_32i, okw_28, trivial⟩ trivial m_noriaref32_Same fun x h => ?_
  have e1 := s_wEn_same h.en
  have e2 := s_wPr_same h.ins
  have e3 := s_wPr_same h.outs
  have e4 := s_wSl_same h.sl
  have e5 := s_wIn_same (l := x.loc) h.loc
  have e6 := s_wI4_same h.code
  
  (have hcondQ := Bool.and_self; refine Todo.of ?_); (repeat' (first | ((with_reducible refine Todo.to ?_); (repeat (simp only [↓rP, rT, rU, eA, dvalX, dval, dLoad, cellsAt, retV, DR.val, fzT, fzV, fz1, DV.immB, dCallP, viewVs, viewV, view1, noMemV, noMem, DV.one, alive, cellsOf, Nat.reduceEqDiff, Nat.reduceAdd, ↓reduceIte, reduceCtorEq, Nat.reduceLT, forall_const, d_noriaref32_Same, eImg, e1, e2, e3, e4, e5, e6 ])))))
theorem okw_33 : OkP Tryz.prog 14 s_wImg := by
  refine OkP.mkE (ps := [(44, s_wImg)]) (hs := []) ⟨okw_32, trivial⟩ trivial m_noriaref33_Same fun x h => ?_
  have e1 := s_wImg_same h
  
  (have hcondQ := Bool.and_self; refine Todo.of ?_); (repeat' (first | ((with_reducible refine Todo.to ?_); (repeat (simp only [↓rP, rT, rU, eA, dvalX, dval, dLoad, cellsAt, retV, DR.val, fzT, fzV, fz1, DV.immB, dCallP, viewVs, viewV, view1, viewL, noMemV, noMem, DV.one, cellsOf, Nat.reduceEqDiff, Nat.reduceAdd, ↓reduceIte, reduceCtorEq, Nat.reduceLeDiff, forall_const, d_noriaref33_Same, eImg, e1 ])))))
end Go.Proofs.YtfaailjhioobhaaGreat

/- The laws' example; images that are few; what is encoded. -/
set_option linter.all false
set_option maxRecDepth 20000
namespace Go.Proofs.YtfaailjhioobhaaGreat
open Go.Nk

noncomputable def s_num33 : List DV → Prop × DV := spec1 eI fun n => (True, .int .i64 n)
theorem s_num33_at (n : Int) : s_num33 [.int .i64 n] = (True, .int .i64 n) := spec1_at inj_I _ n
theorem ok_norialaw33_num : OkP Tryz.prog 15 s_num33 := by
  refine OkP.mk1 (ps := []) (hs := []) trivial trivial m_norialaw33_num fun n _ => ?_
  (have hcondQ := Bool.and_self; refine Todo.of ?_); (repeat' (first | ((with_reducible refine Todo.to ?_); (repeat (simp only [↓rP, rT, eI, dvalX, dval, retV, DR.val, fzT, fzV, fz1, DV.immB, ↓reduceIte, reduceCtorEq, d_norialaw33_num ])))))
def body0 : List UInt8 := magicB ++ [1, 0, 0, 0, 1, 0, 2, 0, 0, 0, 1, 0, 3, 0, 0, 0, 1, 0, 4, 0, 0, 0, 1, 0, 5, 0, 0, 0, 2, 0, 0, 6, 0, 0, 0, 0]
theorem secs0 : encG img0 6 = some (body0.drop 4) := by decide
theorem enc_img0 : encF img0 = some (sealF body0) := by
  refine (encF_ok secs0 (by decide)).trans ?_
  rfl
theorem okEnc0 : okEnc img0 := by
  refine ⟨⟨?_, ?_, ?_, ?_, ?_, ?_⟩, by decide⟩
  all_goals first | (refine ⟨by decide, by decide, ?_⟩; intro p hp; cases hp; done) | (refine ⟨by decide, ?_⟩; intro p hp; cases hp; done)
theorem okSm0 : okSm img0 := by
  refine ⟨⟨by decide, ?_⟩, by decide, by decide, ⟨by decide, ?_⟩, by decide, by decide⟩
  all_goals (intro p hp; cases hp)
theorem dec_img0 : decG (sealF body0) = (img0, 0) := dec_enc ⟨fun s hs => (by cases hs), fun i hi => (by cases hi)⟩ enc_img0
noncomputable def s_live33 : List DV → Prop × DV := spec0 (True, .bool true)
theorem s_live33_at : s_live33 [] = (True, .bool true) := spec0_at _
theorem ok_norialaw33_live : OkP Tryz.prog 8 s_live33 := by
  refine OkP.mk0 (ps := [(9, s_Enc), (12, s_Dec), (15, s_num33), (16, s_iSame)]) (hs := []) ⟨ok_image_Encode, ok_image_Decode, ok_norialaw33_num, ok_image_Same, trivial⟩ trivial m_norialaw33_live fun _ => ?_
  
  have l : (sealF body0).length = 44 := sealF_len body0
  have e1 := s_Enc_at img0
  rw [eq_true okEnc0, enc_img0] at e1
  have e2 := s_Dec_at (sealF body0)
  rw [eq_true (show (sealF body0).length ≤ 131072 ∨ 131072 < (sealF body0).length from .inl (by omega)), dec_img0] at e2
  simp only at e2
  have e3 := s_iSame_same okSm0
  have e4 := s_num33_at 0
  simp only [putV, Option.getD_some, Option.isSome_some] at e1
  have x1 : cImg img0 = [.sl [], .sl [], .sl [], .sl [], .sl [], .sl []] := rfl
  rw [x1] at e1 e2 e3
  have l2 : (bsl (sealF body0)).length = 44 := by rw [bsl_length, l]
  (have hcondQ := Bool.and_self; refine Todo.of ?_); (repeat' (first | ((with_reducible refine Todo.to ?_); (repeat (simp only [↓rP, rT, rU, buildCells, dvalX, dval, dBin, dInt, dLoad, cellsAt, retV, DR.val, fzT, fzVs, fzV, fz1, DV.immB, dCallP, viewVs, viewV, view1, viewL, noMemV, noMem, dStore, DV.one, fzL, cellsOf, setFrom, Nat.reduceEqDiff, Nat.reduceAdd, ↓reduceIte, reduceCtorEq, Nat.reduceLeDiff, Nat.reduceLT, forall_const, d_norialaw33_live, e1, e2, e3, e4, l2 , hcondQ])))))
end Go.Proofs.YtfaailjhioobhaaGreat

/- ImageEncodes. -/
set_option linter.all false
set_option maxRecDepth 20000
namespace Go.Proofs.YtfaailjhioobhaaGreat
open Go.Nk

/-- What an image's numbers are. -/
structure okRd (x : Img) : Prop where
  len : okLen x
  ins : ∀ p ∈ x.ins, ok3 p.ty
  outs : ∀ p ∈ x.outs, ok3 p.ty
  slots : ∀ s ∈ x.slots, ok3 s.ty ∧ ∀ n ∈ s.ini, okI64 n
  loc : ∀ k ∈ x.loc, okI64 k
  code : ∀ i ∈ x.code, ok64 i
theorem sum_le {α : Type} (f : α → Nat) (c : Nat) : ∀ (l : List α), (∀ x ∈ l, f x ≤ c) → (l.map f).sum ≤ c * l.length
  | [], _ => by simp
  | x :: l, h => by
    have h1 := sum_le f c l fun y hy => h y (List.mem_cons_of_mem _ hy)
    have h2 := h x List.mem_cons_self
    simp only [List.map_cons, List.sum_cons, List.length_cons, Nat.mul_succ]
    omega
theorem few_enc {x : Img} (h : fewF x = true) (hr : okRd x) : okEnc x ∧ okSm x := by
  simp only [fewF, Bool.and_eq_true, decide_eq_true_eq, List.all_eq_true, smallF, smallE, smallC, fewP, fewS, List.mem_append] at h
  obtain ⟨⟨⟨⟨⟨⟨⟨hen, hen2⟩, h2⟩, h3⟩, h4⟩, h5⟩, h6⟩, h7⟩ := h
  have e1 : szEns x.en ≤ 1000000 := by
    have : (x.en.map szEn).sum ≤ 10000 * x.en.length := sum_le _ _ _ fun e he => by
      have h := hen2 e he
      have h8 : szCt e.ct ≤ 500 * e.ct.length := sum_le _ _ _ fun c hc => by
        have := h.2 c hc
        omega
      unfold szEn
      omega
    unfold szEns
    omega
  have e2 : ∀ l : List Prt, (∀ p ∈ l, p.name.length ≤ 200) → szPrts l ≤ 300 * l.length + 4 := fun l hl => by
    have : (l.map szPrt).sum ≤ 300 * l.length := sum_le _ _ _ fun e he => by
      have h := hl e he
      unfold szPrt
      omega
    unfold szPrts
    omega
  have e3 := e2 x.ins fun p hp => h6 p (.inl hp)
  have e4 := e2 x.outs fun p hp => h6 p (.inr hp)
  have e5 : szSlts x.slots ≤ 1000000 := by
    have : (x.slots.map szSlt).sum ≤ 4500 * x.slots.length := sum_le _ _ _ fun e he => by
      have h := h7 e he
      unfold szSlt
      omega
    unfold szSlts
    omega
  refine ⟨⟨⟨⟨by omega, by omega, fun e he => ?_⟩, ⟨by omega, by omega, hr.ins⟩, ⟨by omega, by omega, hr.outs⟩, ⟨by omega, by omega, fun s hs => ⟨(hr.slots s hs).1, ?_, (hr.slots s hs).2⟩⟩, ⟨by omega, by omega, hr.loc⟩, ⟨by omega, hr.code⟩⟩, by omega⟩, ⟨⟨by omega, fun e he => ?_⟩, by omega, by omega, ⟨by omega, fun s hs => ?_⟩, by omega, by omega⟩⟩
  · have := hen2 e he; omega
  · have := h7 s hs; omega
  · have := hen2 e he; omega
  · have := h7 s hs; omega
end Go.Proofs.YtfaailjhioobhaaGreat

/- ImageDecodes, ImageBack; every argument. -/
set_option linter.all false
set_option maxRecDepth 20000
namespace Go.Proofs.YtfaailjhioobhaaGreat
open Go.Nk

theorem dec_okEnc {b : List UInt8} {x : Img} (h : decG b = (x, 0)) : okEnc x := by
  unfold decG at h
  split at h
  · simp only [Prod.mk.injEq] at h; exact absurd h.2 (by decide)
  rename_i hl
  split at h
  · simp only [Prod.mk.injEq] at h; exact absurd h.2 (by decide)
  split at h
  rotate_left
  · simp only [Prod.mk.injEq] at h; exact absurd h.2 (by decide)
  rename_i ho
  obtain ⟨body, hb⟩ := Option.isSome_iff_exists.1 ho
  have hlen := openF_len hb
  have e : openB b = body := by simp only [openB, hb, Option.getD_some]
  rw [e] at h
  unfold decB at h
  split at h
  rotate_left
  · simp only [Prod.mk.injEq] at h; exact absurd h.2 (by decide)
  rename_i hp
  split at h
  rotate_left
  · simp only [Prod.mk.injEq] at h; exact absurd h.2 (by decide)
  rename_i ht
  simp only [Prod.mk.injEq, and_true] at h
  obtain ⟨pl1, pl2⟩ := partsF_le (body.drop 4)
  have p2 := pl2 hp
  generalize (partsF (body.drop 4)).1 = cs at *
  obtain ⟨c0, c1, c2, c3, c4, c5, rfl⟩ : ∃ c0 c1 c2 c3 c4 c5, cs = [c0, c1, c2, c3, c4, c5] := by
    rcases cs with _ | ⟨c0, _ | ⟨c1, _ | ⟨c2, _ | ⟨c3, _ | ⟨c4, _ | ⟨c5, _ | ⟨c6, l⟩⟩⟩⟩⟩⟩⟩ <;> simp at p2
    exact ⟨c0, c1, c2, c3, c4, c5, rfl⟩
  have hx : takeF [c0, c1, c2, c3, c4, c5] = (x, true) := Prod.ext h ht
  rw [← (take_img hx).1]
  have hlb : ∀ c ∈ [c0, c1, c2, c3, c4, c5], c.length ≤ 131072 := fun c hc => by
    have := pl1 c hc
    rw [List.length_drop] at this
    omega
  exact imgQ_enc (fun i => by
    rcases i with _ | _ | _ | _ | _ | _ | i
    · exact hlb c0 (by simp)
    · exact hlb c1 (by simp)
    · exact hlb c2 (by simp)
    · exact hlb c3 (by simp)
    · exact hlb c4 (by simp)
    · exact hlb c5 (by simp)
    · exact Nat.zero_le _)
noncomputable def s_law33B : List DV → Prop × DV := spec2 eImg eBs fun x b => (okRd x ∧ b.length ≤ 4611686018427387904, .bool true)
theorem s_law33B_at (x : Img) (b : List UInt8) : s_law33B [.agg (cImg x), .sl (bsl b)] = (okRd x ∧ b.length ≤ 4611686018427387904, .bool true) := spec2_at inj_Img inj_Bs _ x b
set_option maxHeartbeats 4000000 in
theorem ok_norialaw33_ImageBack : OkP Tryz.prog 5 s_law33B := by
  refine OkP.mk2 (ps := [(7, s_Few), (8, s_live33), (9, s_Enc), (12, s_Dec), (14, s_wImg), (15, s_num33), (16, s_iSame), (11, specB2 fSame)]) (hs := []) ⟨ok_noriaref33_Few, ok_norialaw33_live, ok_image_Encode, ok_image_Decode, okw_33, ok_norialaw33_num, ok_image_Same, ok_noriaref01_Same, trivial⟩ trivial m_norialaw33_ImageBack fun x b h => ?_
  obtain ⟨h, hb⟩ : okRd x ∧ b.length ≤ 4611686018427387904 := h
  
  have f1 := s_Few_at x
  rw [eq_true h.len] at f1
  have l1 := s_live33_at
  unfold eBs eImg eA
  cases c : fewF x
  · rw [c] at f1
    obtain ⟨en, ins, outs, slots, loc, code⟩ := x
    simp only [cImg] at f1
    (have hcondQ := Bool.and_self; refine Todo.of ?_); (repeat' (first | ((with_reducible refine Todo.to ?_); (repeat (simp only [↓rP, rT, rU, dvalX, dval, dUn, dLoad, cellsAt, retV, DR.val, fzT, fzV, fz1, DV.immB, dCallP, viewVs, viewV, view1, viewL, noMemV, noMem, DV.one, cellsOf, Nat.reduceEqDiff, Nat.reduceAdd, ↓reduceIte, reduceCtorEq, Nat.reduceLeDiff, forall_const, d_norialaw33_ImageBack, f1, l1 ])))))
  rw [c] at f1
  by_cases c1 : 6000 < b.length
  · obtain ⟨en, ins, outs, slots, loc, code⟩ := x
    simp only [cImg] at f1
    (have hcondQ := Bool.and_self; refine Todo.of ?_); (repeat' (first | ((with_reducible refine Todo.to ?_); (repeat (simp only [↓rP, rT, rU, dvalX, dval, dBin, dInt, dUn, dLoad, cellsAt, retV, DR.val, fzT, fzV, fz1, DV.immB, dCallP, viewVs, viewV, view1, viewL, noMemV, noMem, DV.one, cellsOf, Nat.reduceEqDiff, Nat.reduceAdd, ↓reduceIte, reduceCtorEq, Nat.reduceLeDiff, forall_const, d_norialaw33_ImageBack, f1, l1 , hcondQ]))) | (((((with_reducible refine dwp_condI (t := ?_) ?_ (fun hcQ => ?_) (fun hcQ => ?_)); rotate_left; · (rfl))) <;> (have hn := hcQ; have hcondQ := hcQ) <;> (try simp only [decide_eq_true_eq, decide_eq_false_iff_not] at hn) <;> (try (exfalso; omega)) <;> (refine Todo.of ?_))) | fail))
  have g1 : s_Dec [.sl (bsl b)] = _ := s_Dec_at b
  rw [eq_true (show b.length ≤ 131072 ∨ 131072 < b.length by omega)] at g1
  obtain ⟨_, d2, d3⟩ := dec_one (b := b)
  have q := fun x => @dec_okEnc b x
  generalize decG b = D at g1 d2 d3 q
  obtain ⟨z, E⟩ := D
  simp only at g1 d2 d3 q
  have n1 := s_num33_at E
  have n0 := s_num33_at 0
  have e1 := s_Enc_at x
  rw [eq_true (few_enc c h).1] at e1
  have sm := (few_enc c h).2
  have w1 := s_wImg_same sm
  have w2 := s_iSame_same sm
  have z0 := s_wImg_same okSm0
  have x0 : cImg img0 = [.sl [], .sl [], .sl [], .sl [], .sl [], .sl []] := rfl
  rw [x0] at z0
  have hn : nums x := ⟨fun s hs => (h.slots s hs).2, h.code⟩
  have hr := fun c => @dec_enc x c hn
  generalize encF x = o at e1 hr
  have sB : specB2 fSame [.sl (bsl b), .sl (bsl b)] = (True, .bool true) := by
    refine (specB2_at fSame b b).trans ?_
    exact fSame_self (by unfold small; omega)
  obtain ⟨en, ins, outs, slots, loc, code⟩ := x
  simp only [cImg] at f1 e1 w1 w2
  by_cases hE : E = 0
  · subst hE
    obtain ⟨z1, _, _⟩ := d2 z rfl
    have g2 := s_Enc_at z
    rw [eq_true (q z rfl), z1] at g2
    simp only [putV, Option.getD_some, Option.isSome_some] at g2
    have E0 : ((0 : Int) != 0) = false := rfl
    obtain ⟨en', ins', outs', slots', loc', code'⟩ := z
    simp only [cImg] at g1 g2
    cases o with
    | none =>
      simp only [putV, Option.getD_none, Option.isSome_none] at e1
      (have hcondQ := Bool.and_self; refine Todo.of ?_); (repeat' (first | ((with_reducible refine Todo.to ?_); (repeat (simp only [↓rP, rT, rU, dvalX, dval, dBin, dInt, dUn, dLoad, cellsAt, retV, DR.val, fzT, fzVs, fzV, fz1, DV.immB, dCallP, viewVs, viewV, view1, viewL, noMemV, noMem, dStore, DV.one, fzL, cellsOf, setFrom, Nat.reduceEqDiff, Nat.reduceAdd, ↓reduceIte, reduceCtorEq, Nat.reduceLeDiff, Nat.reduceLT, forall_const, d_norialaw33_ImageBack, f1, e1, g1, n0, g2, sB, l1 , hcondQ]))) | (((((with_reducible refine dwp_condI (t := ?_) ?_ (fun hcQ => ?_) (fun hcQ => ?_)); rotate_left; · (rfl))) <;> (have hn := hcQ; have hcondQ := hcQ) <;> (try simp only [decide_eq_true_eq, decide_eq_false_iff_not] at hn) <;> (try (exfalso; omega)) <;> (refine Todo.of ?_))) | fail))
    | some c' =>
      have r := hr c' rfl
      have r1 : s_Dec [.sl (bsl c')] = _ := s_Dec_at c'
      rw [eq_true (show c'.length ≤ 131072 ∨ 131072 < c'.length by omega), r] at r1
      simp only [cImg] at r1
      simp only [putV, Option.getD_some, Option.isSome_some] at e1
      (have hcondQ := Bool.and_self; refine Todo.of ?_); (repeat' (first | ((with_reducible refine Todo.to ?_); (repeat (simp only [↓rP, rT, rU, dvalX, dval, dBin, dInt, dUn, dLoad, cellsAt, retV, DR.val, fzT, fzVs, fzV, fz1, DV.immB, dCallP, viewVs, viewV, view1, viewL, noMemV, noMem, dStore, DV.one, fzL, cellsOf, setFrom, Nat.reduceEqDiff, Nat.reduceAdd, ↓reduceIte, reduceCtorEq, Nat.reduceLeDiff, Nat.reduceLT, forall_const, d_norialaw33_ImageBack, f1, e1, r1, w1, w2, g1, n0, g2, sB, l1 , hcondQ]))) | (((((with_reducible refine dwp_condI (t := ?_) ?_ (fun hcQ => ?_) (fun hcQ => ?_)); rotate_left; · (rfl))) <;> (have hn := hcQ; have hcondQ := hcQ) <;> (try simp only [decide_eq_true_eq, decide_eq_false_iff_not] at hn) <;> (try (exfalso; omega)) <;> (refine Todo.of ?_))) | fail))
  · obtain rfl := d3 hE
    have E1 : (E != 0) = true := bne_iff_ne.2 hE
    have E0 : ((0 : Int) != 0) = false := rfl
    rw [x0] at g1
    cases o with
    | none =>
      simp only [putV, Option.getD_none, Option.isSome_none] at e1
      (have hcondQ := Bool.and_self; refine Todo.of ?_); (repeat' (first | ((with_reducible refine Todo.to ?_); (repeat (simp only [↓rP, rT, rU, buildCells, dvalX, dval, dBin, dInt, dUn, dLoad, cellsAt, retV, DR.val, fzT, fzVs, fzV, fz1, DV.immB, dCallP, viewVs, viewV, view1, viewL, noMemV, noMem, dStore, DV.one, fzL, cellsOf, setFrom, Nat.reduceEqDiff, Nat.reduceAdd, ↓reduceIte, reduceCtorEq, Nat.reduceLeDiff, Nat.reduceLT, forall_const, d_norialaw33_ImageBack, f1, e1, g1, n1, E1, z0, l1 , hcondQ]))) | (((((with_reducible refine dwp_condI (t := ?_) ?_ (fun hcQ => ?_) (fun hcQ => ?_)); rotate_left; · (rfl))) <;> (have hn := hcQ; have hcondQ := hcQ) <;> (try simp only [decide_eq_true_eq, decide_eq_false_iff_not] at hn) <;> (try (exfalso; omega)) <;> (refine Todo.of ?_))) | fail))
    | some c' =>
      have r := hr c' rfl
      have r1 : s_Dec [.sl (bsl c')] = _ := s_Dec_at c'
      rw [eq_true (show c'.length ≤ 131072 ∨ 131072 < c'.length by omega), r] at r1
      simp only [cImg] at r1
      simp only [putV, Option.getD_some, Option.isSome_some] at e1
      (have hcondQ := Bool.and_self; refine Todo.of ?_); (repeat' (first | ((with_reducible refine Todo.to ?_); (repeat (simp only [↓rP, rT, rU, buildCells, dvalX, dval, dBin, dInt, dUn, dLoad, cellsAt, retV, DR.val, fzT, fzVs, fzV, fz1, DV.immB, dCallP, viewVs, viewV, view1, viewL, noMemV, noMem, dStore, DV.one, fzL, cellsOf, setFrom, Nat.reduceEqDiff, Nat.reduceAdd, ↓reduceIte, reduceCtorEq, Nat.reduceLeDiff, Nat.reduceLT, forall_const, d_norialaw33_ImageBack, f1, e1, r1, w1, w2, g1, n0, n1, E1, z0, l1 , hcondQ]))) | (((((with_reducible refine dwp_condI (t := ?_) ?_ (fun hcQ => ?_) (fun hcQ => ?_)); rotate_left; · (rfl))) <;> (have hn := hcQ; have hcondQ := hcQ) <;> (try simp only [decide_eq_true_eq, decide_eq_false_iff_not] at hn) <;> (try (exfalso; omega)) <;> (refine Todo.of ?_))) | fail))
theorem reads_Ss : Reads (.slice .str) (fun l : List (List UInt8) => [.sl (sls l)]) (fun _ => True) :=
  Reads.as (Reads.slice Reads.str) (fun l => l) (fun _ => rfl) (fun _ _ => trivial)
theorem reads_Is3 : Reads (.slice (.int .i64)) (fun l : List Int => [.sl (ils l)]) (fun l => ∀ n ∈ l, okI64 n) :=
  Reads.as (Reads.slice Reads.int) (fun l => l) (fun _ => rfl) (fun _ h => h.2)
theorem reads_En : Reads (.struct [.str, .slice .str]) cEn (fun _ => True) :=
  Reads.as (Reads.struct (Reads.cons Reads.str (Reads.cons reads_Ss Reads.nil))) (fun x => ⟨x.1, x.2.1⟩) (fun _ => rfl) (fun _ _ => trivial)
@[reducible] def shTy : Sh := .struct [.int .i64, .int .i64, .int .i64]
theorem reads_Ty3 : Reads shTy cTy ok3 :=
  Reads.as (Reads.struct (Reads.cons Reads.int (Reads.cons Reads.int (Reads.cons Reads.int Reads.nil)))) (fun x => ⟨x.1, x.2.1, x.2.2.1⟩) (fun _ => rfl) (fun _ h => ⟨h.1, h.2.1, h.2.2.1⟩)
theorem reads_Prt3 : Reads (.struct [.str, shTy]) cPrt (fun p => ok3 p.ty) :=
  Reads.as (Reads.struct (Reads.cons Reads.str (Reads.cons reads_Ty3 Reads.nil))) (fun x => ⟨x.1, x.2.1⟩) (fun _ => rfl) (fun _ h => h.2.1)
theorem reads_Slt3 : Reads (.struct [.str, shTy, .int .i64, .slice (.int .i64)]) cSlt (fun s => ok3 s.ty ∧ ∀ n ∈ s.ini, okI64 n) :=
  Reads.as (Reads.struct (Reads.cons Reads.str (Reads.cons reads_Ty3 (Reads.cons Reads.int (Reads.cons reads_Is3 Reads.nil))))) (fun x => ⟨x.1, x.2.1, x.2.2.1, x.2.2.2.1⟩) (fun _ => rfl) (fun _ h => ⟨h.2.1, h.2.2.2.1⟩)
theorem reads_In43 : Reads (.struct [.int .i64, .int .i64, .int .i64, .int .i64]) cIn4 ok64 :=
  Reads.as (Reads.struct (Reads.cons Reads.int (Reads.cons Reads.int (Reads.cons Reads.int (Reads.cons Reads.int Reads.nil))))) (fun x => ⟨x.1, x.2.1, x.2.2.1, x.2.2.2.1⟩) (fun _ => rfl) (fun _ h => ⟨h.2.1, h.2.2.1, h.2.2.2.1⟩)
@[reducible] def shImg : Sh := .struct [.slice (.struct [.str, .slice .str]), .slice (.struct [.str, shTy]), .slice (.struct [.str, shTy]), .slice (.struct [.str, shTy, .int .i64, .slice (.int .i64)]), .slice (.int .i64), .slice (.struct [.int .i64, .int .i64, .int .i64, .int .i64])]
theorem reads_Img3 : Reads shImg cImg okRd :=
  Reads.as (Reads.struct (Reads.cons (Reads.slice reads_En) (Reads.cons (Reads.slice reads_Prt3) (Reads.cons (Reads.slice reads_Prt3) (Reads.cons (Reads.slice reads_Slt3) (Reads.cons reads_Is3 (Reads.cons (Reads.slice reads_In43) Reads.nil)))))))
    (fun x => ⟨x.1, x.2.1, x.2.2.1, x.2.2.2.1, x.2.2.2.2.1, x.2.2.2.2.2.1⟩) (fun _ => rfl) (fun x h => by
      have h1 := h.2.1.1
      have h2 := h.2.2.1.1
      simp only [capLen] at h1 h2
      exact ⟨⟨by simp only; omega, by simp only; omega⟩, h.2.1.2, h.2.2.1.2, h.2.2.2.1.2, h.2.2.2.2.1, h.2.2.2.2.2.1.2⟩)
theorem imageBack_tells (dvs : List DV) (h : HasAll Tryz.prog [28, 31] dvs) : TellsP Tryz.prog 5 dvs (.bool true) := by
  obtain ⟨d1, r, rfl, h1, d2, r2, rfl, h2, rfl⟩ := h
  obtain ⟨x, rfl, hx⟩ := HasV_agg (by kernel_rfl) reads_Img3 h1
  obtain ⟨b, hb, hl⟩ := HasV_one (by kernel_rfl) rfl Reads.bytes h2
  injection hb with hb
  subst hb
  have e := s_law33B_at x b
  have := (ok_norialaw33_ImageBack _ (by rw [e]; exact ⟨hx, by unfold capLen at hl; omega⟩)).2
  rw [e] at this
  exact this
end Go.Proofs.YtfaailjhioobhaaGreat

