/- Shapes of arguments: what a type's values are at the data level, by a table that the kernel reckons; how they come of data of Lean's own. -/
import Derived.Test.YtjgefhgkinocmaaGreatNkY
set_option linter.all false
namespace Go.Nk

inductive Sh where
  | int (k : IntKind)
  | bool
  | str
  | slice (s : Sh)
  | ptr (s : Sh)
  | struct (ss : List Sh)
  | self (t : TypeId)                                  -- a type by its number (one that is made of itself)

def allTwo {α β : Type} (f : α → β → Bool) : List α → List β → Bool
  | [], [] => true
  | a :: as, b :: bs => f a b && allTwo f as bs
  | _, _ => false

def shMatch (P : Program) : Nat → TypeId → Sh → Bool
  | 0, _, _ => false
  | n + 1, t, s =>
    match P.underlying t, s with
    | _, .self u => decide (t = u)
    | some (.int k), .int k' => decide (k = k')
    | some .bool, .bool => true
    | some .string, .str => true
    | some (.slice e), .slice s => shMatch P n e s
    | some (.pointer e), .ptr s => shMatch P n e s
    | some (.struct fs), .struct ss => allTwo (fun f s => shMatch P n f.type s) fs.toList ss
    | some (.array k e), .struct ss => ss.length == k && ss.all fun s => shMatch P n e s
    | _, _ => false

mutual
def HasS (R : TypeId → List DV → Prop) : Sh → List DV → Prop
  | .self u, ds => R u ds
  | .int k, ds => ∃ i, ds = [.int k i] ∧ (Lit.int k i).wf = true
  | .bool, ds => ∃ b, ds = [.bool b]
  | .str, ds => ∃ s, ds = [.str s] ∧ s.length ≤ capLen
  | .slice s, ds => ∃ es, ds = [.sl es] ∧ lenW es ≤ capLen ∧ ∀ x ∈ es, HasS R s x
  | .ptr s, ds => ds = [.nilp] ∨ ∃ r, ds = [.ref r] ∧ HasS R s r
  | .struct ss, ds => HasSL R ss ds
def HasSL (R : TypeId → List DV → Prop) : List Sh → List DV → Prop
  | [], ds => ds = []
  | s :: ss, ds => ∃ a b, ds = a ++ b ∧ HasS R s a ∧ HasSL R ss b
end

/-- Is it no type by its number? -/
def noSelf : Sh → Bool
  | .self _ => false
  | _ => true
theorem le_noSelf {a N : Nat} {s : Sh} (h : a ≤ N) : a ≤ N + (if noSelf s = true then 1 else 0) := by split <;> omega
/-- What a type's cells are, if they are read with at most so much fuel. -/
def SelfR (P : Program) (N : Nat) (u : TypeId) (ds : List DV) : Prop := (∃ m, m ≤ N ∧ Has P m u ds) ∧ ∀ L ∈ lensL ds, L ≤ capLen
theorem hasS_of {P : Program} {N : Nat} : ∀ (n : Nat) (t : TypeId) (s : Sh), shMatch P n t s = true → ∀ m ds, m ≤ N + (if noSelf s = true then 1 else 0) → Has P m t ds → (∀ L ∈ lensL ds, L ≤ capLen) → HasS (SelfR P N) s ds
  | 0, _, _, h, _, _, _, _, _ => by simp [shMatch] at h
  | n + 1, t, s, h, 0, _, _, hd, _ => hd.elim
  | n + 1, t, s, h, m + 1, ds, hN, hd, hsm => by
    have hd0 := hd
    unfold shMatch at h
    unfold Has at hd
    split at h
    · simp only [decide_eq_true_eq] at h
      subst h
      unfold HasS
      exact ⟨⟨m + 1, by simpa [noSelf] using hN, hd0⟩, hsm⟩
    all_goals replace hN : m ≤ N := by split at hN <;> omega
    · rename_i k k' e
      simp only [e] at hd
      simp only [decide_eq_true_eq] at h
      subst h
      unfold HasS
      exact hd
    · rename_i e
      simp only [e] at hd
      unfold HasS
      exact hd
    · rename_i e
      simp only [e] at hd
      unfold HasS
      obtain ⟨s, rfl, _⟩ := hd
      exact ⟨s, rfl, hsm _ (by simp [lensL, DV.lens])⟩
    · rename_i el s' e
      simp only [e] at hd
      obtain ⟨es, h1, h2, h3⟩ := hd
      unfold HasS
      subst h1
      have hrow : ∀ (es : List (List DV)), (∀ L ∈ lensLL es, L ≤ capLen) → ∀ x ∈ es, ∀ L ∈ lensL x, L ≤ capLen := by
        intro es
        induction es with
        | nil => intro _ x hx; simp at hx
        | cons e es ih =>
          intro hs x hx L hL
          simp only [lensLL, List.mem_append] at hs
          rcases List.mem_cons.1 hx with rfl | hx
          · exact hs L (.inl hL)
          · exact ih (fun L hL => hs L (.inr hL)) x hx L hL
      exact ⟨es, rfl, hsm _ (by simp [lensL, DV.lens]), fun x hx => hasS_of n el s' h m x (le_noSelf hN) (h3 x hx) (hrow es (fun L hL => hsm L (by simp [lensL, DV.lens, hL])) x hx)⟩
    · rename_i el s' e
      simp only [e] at hd
      unfold HasS
      rcases hd with hd | ⟨r, rfl, h2⟩
      · exact .inl hd
      · exact .inr ⟨r, rfl, hasS_of n el s' h m r (le_noSelf hN) h2 fun L hL => hsm L (by simpa [lensL, DV.lens] using hL)⟩
    · rename_i fs ss e
      simp only [e] at hd
      unfold HasS
      have key : ∀ (fs : List Field) (ss : List Sh) (ds : List DV), allTwo (fun f s => shMatch P n f.type s) fs ss = true → HasL (Has P m) fs ds → (∀ L ∈ lensL ds, L ≤ capLen) → HasSL (SelfR P N) ss ds := by
        intro fs
        induction fs with
        | nil => intro ss ds h hd _; cases ss with
          | nil => unfold HasSL; exact hd
          | cons => simp [allTwo] at h
        | cons f fs ih => intro ss ds h hd hs; cases ss with
          | nil => simp [allTwo] at h
          | cons s ss =>
            simp only [allTwo, Bool.and_eq_true] at h
            obtain ⟨a, b, rfl, ha, hb⟩ := hd
            unfold HasSL
            rw [lensL_append] at hs
            exact ⟨a, b, rfl, hasS_of n _ s h.1 m a (le_noSelf hN) ha (fun L hL => hs L (List.mem_append.2 (.inl hL))), ih ss b h.2 hb fun L hL => hs L (List.mem_append.2 (.inr hL))⟩
      exact key _ _ _ h hd hsm
    · rename_i k e' ss e
      simp only [e] at hd
      simp only [Bool.and_eq_true, beq_iff_eq, List.all_eq_true] at h
      unfold HasS
      have key : ∀ (k : Nat) (ss : List Sh) (ds : List DV), ss.length = k → (∀ s ∈ ss, shMatch P n e' s = true) → HasN (Has P m e') k ds → (∀ L ∈ lensL ds, L ≤ capLen) → HasSL (SelfR P N) ss ds := by
        intro k
        induction k with
        | zero => intro ss ds hl h hd _; cases ss with
          | nil => unfold HasSL; exact hd
          | cons => cases hl
        | succ k ih => intro ss ds hl h hd hs; cases ss with
          | nil => cases hl
          | cons s ss =>
            obtain ⟨a, b, rfl, ha, hb⟩ := hd
            unfold HasSL
            rw [lensL_append] at hs
            exact ⟨a, b, rfl, hasS_of n _ s (h s (by simp)) m a (le_noSelf hN) ha (fun L hL => hs L (List.mem_append.2 (.inl hL))), ih ss b (by simpa using hl) (fun s hs => h s (by simp [hs])) hb fun L hL => hs L (List.mem_append.2 (.inr hL))⟩
      exact key _ _ _ h.1 h.2 hd hsm
    · cases h

/-- Every value of a shape comes of data of Lean's own. -/
def ReadsR {α : Type} (R : TypeId → List DV → Prop) (s : Sh) (c : α → List DV) (W : α → Prop) : Prop := ∀ ds, HasS R s ds → ∃ a, ds = c a ∧ W a
def Reads {α : Type} (s : Sh) (c : α → List DV) (W : α → Prop) : Prop := ∀ R, ReadsR R s c W

theorem Reads.int : Reads (.int .i64) (fun n => [.int .i64 n]) (fun n : Int => -9223372036854775808 ≤ n ∧ n < 9223372036854775808) := by
  intro R ds h
  unfold HasS at h
  obtain ⟨i, rfl, hw⟩ := h
  have : -9223372036854775808 ≤ i ∧ i ≤ 9223372036854775807 := by simpa [Lit.wf, IntKind.min, IntKind.max, IntKind.signed, IntKind.bits] using hw
  exact ⟨i, rfl, this.1, by omega⟩
theorem Reads.bool : Reads .bool (fun b => [.bool b]) (fun _ : Bool => True) := by
  intro R ds h
  unfold HasS at h
  obtain ⟨i, rfl⟩ := h
  exact ⟨i, rfl, trivial⟩
theorem Reads.str : Reads .str (fun s => [.str s]) (fun s : List UInt8 => s.length ≤ capLen) := by
  intro R ds h
  unfold HasS at h
  obtain ⟨i, rfl, h⟩ := h
  exact ⟨i, rfl, h⟩

theorem rowsW_of {α : Type} {c : α → List DV} {W : α → Prop} : ∀ es : List (List DV), (∀ x ∈ es, ∃ a, x = c a ∧ W a) → ∃ l : List α, es = l.map c ∧ ∀ a ∈ l, W a
  | [], _ => ⟨[], rfl, by simp⟩
  | x :: es, h => by
    obtain ⟨l, rfl, hl⟩ := rowsW_of es fun y hy => h y (by simp [hy])
    obtain ⟨a, rfl, ha⟩ := h x (by simp)
    exact ⟨a :: l, rfl, by intro b hb; rcases List.mem_cons.1 hb with rfl | hb; exact ha; exact hl b hb⟩

theorem Reads.slice {α : Type} {s : Sh} {c : α → List DV} {W : α → Prop} (h : Reads s c W) : Reads (.slice s) (fun l : List α => [.sl (l.map c)]) (fun l => l.length ≤ capLen ∧ ∀ a ∈ l, W a) := by
  intro R ds hd
  unfold HasS at hd
  obtain ⟨es, rfl, hl, hx⟩ := hd
  obtain ⟨l, rfl, hw⟩ := rowsW_of es fun x hx' => h R x (hx x hx')
  exact ⟨l, rfl, by simpa using Nat.le_trans (lenW_ge _) hl, hw⟩

theorem Reads.bytes : Reads (.slice (.int .u8)) (fun l : List UInt8 => [.sl (bsl l)]) (fun l => l.length ≤ capLen) := by
  intro R ds hd
  unfold HasS at hd
  obtain ⟨es, rfl, hl, hx⟩ := hd
  obtain ⟨l, rfl⟩ := bytes_rows es fun x hx' => by have := hx x hx'; unfold HasS at this; exact this
  exact ⟨l, rfl, by simpa [bsl_length] using Nat.le_trans (lenW_ge _) hl⟩

/-- The fields of a struct, one behind the other. -/
theorem Reads.cons {α β : Type} {s : Sh} {ss : List Sh} {c : α → List DV} {W : α → Prop} {c' : β → List DV} {W' : β → Prop} (h : Reads s c W) (h' : ∀ R ds, HasSL R ss ds → ∃ b, ds = c' b ∧ W' b) :
    ∀ R ds, HasSL R (s :: ss) ds → ∃ x : α × β, ds = c x.1 ++ c' x.2 ∧ W x.1 ∧ W' x.2 := by
  intro R ds hd
  unfold HasSL at hd
  obtain ⟨a, b, rfl, ha, hb⟩ := hd
  obtain ⟨x, rfl, hx⟩ := h R a ha
  obtain ⟨y, rfl, hy⟩ := h' R b hb
  exact ⟨(x, y), rfl, hx, hy⟩
theorem Reads.nil : ∀ R ds, HasSL R [] ds → ∃ b : Unit, ds = (fun _ => []) b ∧ True := by
  intro R ds hd
  unfold HasSL at hd
  exact ⟨(), hd, trivial⟩
theorem Reads.struct {α : Type} {ss : List Sh} {c : α → List DV} {W : α → Prop} (h : ∀ R ds, HasSL R ss ds → ∃ b, ds = c b ∧ W b) : Reads (.struct ss) c W := by
  intro R ds hd
  unfold HasS at hd
  exact h R ds hd
/-- The same by another name. -/
theorem Reads.as {α β : Type} {s : Sh} {c : α → List DV} {W : α → Prop} {c' : β → List DV} {W' : β → Prop} (h : Reads s c W) (f : α → β) (e : ∀ a, c a = c' (f a)) (w : ∀ a, W a → W' (f a)) : Reads s c' W' := by
  intro R ds hd
  obtain ⟨a, rfl, ha⟩ := h R ds hd
  exact ⟨f a, e a, w a ha⟩


/-! The same for one R. -/
theorem Reads.r {α : Type} {s : Sh} {c : α → List DV} {W : α → Prop} (h : Reads s c W) {R : TypeId → List DV → Prop} : ReadsR R s c W := h R
section
variable {R : TypeId → List DV → Prop}
theorem ReadsR.slice {α : Type} {s : Sh} {c : α → List DV} {W : α → Prop} (h : ReadsR R s c W) : ReadsR R (.slice s) (fun l : List α => [.sl (l.map c)]) (fun l => l.length ≤ capLen ∧ ∀ a ∈ l, W a) := by
  intro ds hd
  unfold HasS at hd
  obtain ⟨es, rfl, hl, hx⟩ := hd
  obtain ⟨l, rfl, hw⟩ := rowsW_of es fun x hx' => h x (hx x hx')
  exact ⟨l, rfl, by simpa using Nat.le_trans (lenW_ge _) hl, hw⟩
theorem ReadsR.cons {α β : Type} {s : Sh} {ss : List Sh} {c : α → List DV} {W : α → Prop} {c' : β → List DV} {W' : β → Prop} (h : ReadsR R s c W) (h' : ∀ ds, HasSL R ss ds → ∃ b, ds = c' b ∧ W' b) :
    ∀ ds, HasSL R (s :: ss) ds → ∃ x : α × β, ds = c x.1 ++ c' x.2 ∧ W x.1 ∧ W' x.2 := by
  intro ds hd
  unfold HasSL at hd
  obtain ⟨a, b, rfl, ha, hb⟩ := hd
  obtain ⟨x, rfl, hx⟩ := h a ha
  obtain ⟨y, rfl, hy⟩ := h' b hb
  exact ⟨(x, y), rfl, hx, hy⟩
theorem ReadsR.nil : ∀ ds, HasSL R [] ds → ∃ b : Unit, ds = (fun _ => []) b ∧ True := Reads.nil R
theorem ReadsR.struct {α : Type} {ss : List Sh} {c : α → List DV} {W : α → Prop} (h : ∀ ds, HasSL R ss ds → ∃ b, ds = c b ∧ W b) : ReadsR R (.struct ss) c W := by
  intro ds hd
  unfold HasS at hd
  exact h ds hd
theorem ReadsR.as {α β : Type} {s : Sh} {c : α → List DV} {W : α → Prop} {c' : β → List DV} {W' : β → Prop} (h : ReadsR R s c W) (f : α → β) (e : ∀ a, c a = c' (f a)) (w : ∀ a, W a → W' (f a)) : ReadsR R s c' W' := by
  intro ds hd
  obtain ⟨a, rfl, ha⟩ := h ds hd
  exact ⟨f a, e a, w a ha⟩
end

def isStruct : Sh → Bool
  | .struct _ => true
  | _ => false

/-- An argument of a type. -/
theorem HasV_readsR {P : Program} {t : TypeId} {d : DV} {s : Sh} {n : Nat} (hm : shMatch P n t s = true) (hns : noSelf s = true) {α : Type} {c : α → List DV} {W : α → Prop} (h : ∀ N, ReadsR (SelfR P N) s c W) (hd : HasV P t d) :
    ∃ a, d = (if isStruct s then .agg (c a) else (c a).headD .undef) ∧ W a ∧ (isStruct s = false → c a = [d]) := by
  have hsm := hd.2
  replace hd := hd.1
  unfold HasV0 at hd
  have hs : isStruct s = (match P.underlying t with | some (.struct _) => true | some (.array _ _) => true | _ => false) := by
    cases n with
    | zero => simp [shMatch] at hm
    | succ n =>
      unfold shMatch at hm
      split at hm <;> first | (rename_i e; simp [isStruct, e]; done) | (exfalso; simp [noSelf] at hns; done) | cases hm
  split at hd
  · rename_i fs e
    rw [e] at hs
    obtain ⟨ds, rfl, N, hd⟩ := hd
    obtain ⟨a, rfl, ha⟩ := h N ds (hasS_of n t s hm N ds (le_noSelf (Nat.le_refl _)) hd (by simpa [Small, DV.lens] using hsm))
    exact ⟨a, by simp [hs], ha, by simp [hs]⟩
  · rename_i k e' e
    rw [e] at hs
    obtain ⟨ds, rfl, N, hd⟩ := hd
    obtain ⟨a, rfl, ha⟩ := h N ds (hasS_of n t s hm N ds (le_noSelf (Nat.le_refl _)) hd (by simpa [Small, DV.lens] using hsm))
    exact ⟨a, by simp [hs], ha, by simp [hs]⟩
  · rename_i hne hne2
    have hs' : isStruct s = false := by
      rw [hs]
      split
      · rename_i e; exact absurd e (hne _)
      · rename_i e; exact absurd e (hne2 _ _)
      · rfl
    obtain ⟨N, hd⟩ := hd
    obtain ⟨a, e, ha⟩ := h N [d] (hasS_of n t s hm N [d] (le_noSelf (Nat.le_refl _)) hd (by simpa [Small, lensL] using hsm))
    exact ⟨a, by simp [hs', ← e], ha, fun _ => e.symm⟩
theorem HasV_one {P : Program} {t : TypeId} {d : DV} {s : Sh} (hm : shMatch P 9 t s = true) (hs : isStruct s = false) {α : Type} {c : α → List DV} {W : α → Prop} (h : Reads s c W) (hd : HasV P t d) (hns : noSelf s = true := by rfl) : ∃ a, c a = [d] ∧ W a := by
  obtain ⟨a, _, h1, h2⟩ := HasV_readsR hm hns (fun N => h _) hd
  exact ⟨a, h2 hs, h1⟩
theorem HasV_agg {P : Program} {t : TypeId} {d : DV} {ss : List Sh} (hm : shMatch P 9 t (.struct ss) = true) {α : Type} {c : α → List DV} {W : α → Prop} (h : Reads (.struct ss) c W) (hd : HasV P t d) : ∃ a, d = .agg (c a) ∧ W a := by
  obtain ⟨a, e, h1, _⟩ := HasV_readsR hm rfl (fun N => h _) hd
  exact ⟨a, e, h1⟩
end Go.Nk
