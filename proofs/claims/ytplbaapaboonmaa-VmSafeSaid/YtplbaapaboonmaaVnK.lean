/- What a code that may be run is: a row for every instruction. -/
import Derived.Test.YtplbaapaboonmaaVnG
set_option linter.all false
set_option maxRecDepth 20000
namespace Go.Proofs.Ytplbaapaboonmaa
open Go.Nk

/-- An instruction's row, and the rows behind it. -/
structure StepT (s : Shp) (code : List Ins) (Rf : Nat → List Int) (i : Nat) : Prop where
  right : rightF (code.getD i default) = true
  good : good s (Rf i)
  ok : (nextF s (code.getD i default) (Rf i)).2 = true
  next : (code.getD i default).o ≠ 6 → (code.getD i default).o ≠ 10 → i + 1 < code.length ∧ Rf (i + 1) = (nextF s (code.getD i default) (Rf i)).1
  jump : (code.getD i default).o = 6 ∨ (code.getD i default).o = 7 → (i : Int) < (code.getD i default).a ∧ (code.getD i default).a < code.length ∧ Rf (code.getD i default).a.toNat = (nextF s (code.getD i default) (Rf i)).1
  last : (code.getD i default).o = 10 → i + 1 = code.length

theorem getD_set {α : Type} (l : List α) (t u : Nat) (v d : α) : (l.set t v).getD u d = if t = u ∧ t < l.length then v else l.getD u d := by
  rw [List.getD_eq_getElem?_getD, List.getElem?_set, List.getD_eq_getElem?_getD]
  by_cases h : t = u
  · subst h
    by_cases h2 : t < l.length
    · simp [h2]
    · simp [h2]
  · simp [h]
theorem putTo_keeps {n : Nat} {row : List Int} : ∀ (to : List Int) (S S' : Ks), putTo n row to S = some S' → S.1.length = n → S.2.length = n → (∀ t ∈ to, 0 ≤ t) →
    (∀ u, S.1.getD u false = true → S'.1.getD u false = true ∧ rv (S'.2.getD u none) = rv (S.2.getD u none)) ∧
    (∀ t ∈ to, t < n ∧ S'.1.getD t.toNat false = true ∧ rv (S'.2.getD t.toNat none) = row)
  | [], S, S', h, _, _, _ => by simp only [putTo, Option.some.injEq] at h; subst h; exact ⟨fun u hu => ⟨hu, rfl⟩, fun t ht => by simp at ht⟩
  | t :: ts, S, S', h, h1, h2, h3 => by
    simp only [putTo] at h
    split at h
    · cases h
    · rename_i c
      have c1 : t < n := by
        have := fun e => c (.inl e); omega
      have c2 : S.1.getD t.toNat false = true → rv (S.2.getD t.toNat none) = row := fun e => Classical.not_not.1 fun q => c (.inr ⟨e, q⟩)
      have t0 := h3 t List.mem_cons_self
      have tl : t.toNat < n := by omega
      obtain ⟨k1, k2⟩ := putTo_keeps ts _ S' h (by simpa using h1) (by simpa using h2) fun x hx => h3 x (List.mem_cons_of_mem _ hx)
      have kt := k1 t.toNat (by rw [getD_set, if_pos ⟨rfl, by omega⟩])
      rw [getD_set, if_pos ⟨rfl, by omega⟩] at kt
      refine ⟨fun u hu => ?_, fun x hx => ?_⟩
      · have := k1 u (by rw [getD_set]; split <;> first | rfl | exact hu)
        refine ⟨this.1, this.2.trans ?_⟩
        rw [getD_set]
        split
        · rename_i e
          obtain ⟨e, _⟩ := e
          subst e
          exact (c2 hu).symm
        · rfl
      · rcases List.mem_cons.1 hx with rfl | hx
        · exact ⟨c1, kt.1, kt.2⟩
        · exact k2 x hx

theorem typed {s : Shp} {code : List Ins} (hs : shapeF s = true) : ∀ (f i : Nat) (S : Ks), i + f = code.length → S.1.length = code.length → S.2.length = code.length → (∀ t, good s (rv (S.2.getD t none))) → (loopF s code f i S).2 = true →
    ∃ Rf : Nat → List Int, (∀ t, S.1.getD t false = true → Rf t = rv (S.2.getD t none)) ∧ ∀ j, i ≤ j → j < code.length → StepT s code Rf j
  | 0, i, S, hi, _, _, _, _ => ⟨fun t => rv (S.2.getD t none), fun _ _ => rfl, fun j h1 h2 => by omega⟩
  | f + 1, i, S, hi, h1, h2, h3, h => by
    simp only [loopF] at h
    split at h
    · cases h
    · rename_i c
      have c1 : S.1.getD i false = true := by simpa using fun e => c (.inl e)
      have c2 : rightF (code.getD i default) = true := by simpa using fun e => c (.inr (.inl e))
      have c3 : (nextF s (code.getD i default) (rv (S.2.getD i none))).2 = true := by simpa using fun e => c (.inr (.inr (.inl e)))
      have c4 : (code.getD i default).o = 6 ∨ (code.getD i default).o = 7 → (i : Int) < (code.getD i default).a := fun e => by
        have := fun q => c (.inr (.inr (.inr (.inl ⟨e, q⟩)))); omega
      have c5 : (code.getD i default).o = 10 → i + 1 = code.length := fun e => Classical.not_not.1 fun q => c (.inr (.inr (.inr (.inr ⟨e, q⟩))))
      have hg := next_good hs (h3 i) c3
      have ha := right_a c2
      generalize hX : code.getD i default = X at *
      generalize hW : nextF s X (rv (S.2.getD i none)) = W at *
      cases hp : putTo code.length W.1 (toL X i) S with
      | none => rw [hp] at h; cases h
      | some S' =>
        rw [hp] at h
        have h0 : ∀ t ∈ toL X i, 0 ≤ t := fun t ht => by
          unfold toL at ht
          rcases List.mem_append.1 ht with ht | ht <;> split at ht <;> simp at ht <;> omega
        obtain ⟨k1, k2⟩ := putTo_keeps _ S S' hp h1 h2 h0
        obtain ⟨l1, l2, l3⟩ := putTo_ok hg _ S S' hp h1 h2 h3
        obtain ⟨Rf, r1, r2⟩ := typed hs f (i + 1) S' (by omega) l1 l2 l3 h
        have e : ∀ t, S.1.getD t false = true → Rf t = rv (S.2.getD t none) := fun t ht => (r1 t (k1 t ht).1).trans (k1 t ht).2
        refine ⟨Rf, e, fun j g1 g2 => ?_⟩
        by_cases hj : i = j
        · subst hj
          have hi0 := e i c1
          refine ⟨by rw [hX]; exact c2, by rw [hi0]; exact h3 i, by rw [hX, hi0, hW]; exact c3, ?_, ?_, by rw [hX]; exact c5⟩
          · rw [hX, hi0, hW]
            intro q1 q2
            have hm : ((i : Int) + 1) ∈ toL X i := by
              unfold toL; rw [if_pos ⟨q1, q2⟩]; simp
            obtain ⟨m1, m2, m3⟩ := k2 _ hm
            have ht : ((i : Int) + 1).toNat = i + 1 := by omega
            rw [ht] at m2 m3
            exact ⟨by omega, (r1 _ m2).trans m3⟩
          · rw [hX, hi0, hW]
            intro q
            have hm : X.a ∈ toL X i := by
              unfold toL; rw [if_pos q]; simp
            obtain ⟨m1, m2, m3⟩ := k2 _ hm
            exact ⟨c4 q, m1, (r1 _ m2).trans m3⟩
        · exact r2 j (by omega) g2
end Go.Proofs.Ytplbaapaboonmaa

/- What a step does to a machine whose row is right. -/
set_option linter.all false
set_option maxRecDepth 20000
namespace Go.Proofs.Ytplbaapaboonmaa
open Go.Nk

structure StackT (s : Shp) (row : List Int) (v : MS) : Prop where
  hi : v.hi = row.length
  v : ∀ j, j < row.length → valueF s (row.getD j 0) (v.raw.getD j 0) = true
structure CellT (s : Shp) (c0 c : List Int) : Prop where
  l : c.length = s.kd.length
  v : ∀ j, j < s.kd.length → valueF s (s.kd.getD j 0) (c.getD j 0) = true
  z : ∀ j : Nat, s.lo ≤ j → (j : Int) < s.hi → c.getD j 0 = c0.getD j 0

theorem st_pop {s : Shp} {row : List Int} {v : MS} (h : StackT s row v) (hl : 1 ≤ row.length) : StackT s (row.take (row.length - 1)) (popS v) ∧ valueF s (topF row 0) (popV v) = true := by
  refine ⟨⟨by have := h.hi; simp only [popS, List.length_take]; omega, fun j hj => ?_⟩, ?_⟩
  · rw [List.length_take] at hj
    have hj2 : j < row.length := by omega
    have := h.v j hj2
    have e : (row.take (row.length - 1)).getD j 0 = row.getD j 0 := by
      rw [List.getD_eq_getElem?_getD, List.getD_eq_getElem?_getD, List.getElem?_take, if_pos (by omega)]
    rw [e]
    exact this
  · have e1 : topF row 0 = row.getD (row.length - 1) 0 := by unfold topF; rw [if_pos (by omega)]; rfl
    have e2 : (v.hi - 1).toNat = row.length - 1 := by have := h.hi; omega
    rw [e1]
    unfold popV
    rw [e2]
    exact h.v _ (by omega)
theorem st_push {s : Shp} {row : List Int} {v : MS} {n k : Int} (h : StackT s row v) (hr : v.raw.length = 16) (hl : row.length < 16) (hv : valueF s k n = true) : StackT s (row ++ [k]) (pushS v n) ∧ pushE v = 0 := by
  have hh := h.hi
  have h16 : ¬ v.hi = 16 := by omega
  have e : v.hi.toNat = row.length := by omega
  refine ⟨?_, by unfold pushE; rw [if_neg h16]⟩
  unfold pushS
  rw [if_neg h16, e]
  refine ⟨by simp only [List.length_append, List.length_cons, List.length_nil]; omega, fun j hj => ?_⟩
  simp only [List.length_append, List.length_cons, List.length_nil] at hj
  rw [getD_set]
  by_cases c : row.length = j
  · subst c
    rw [if_pos ⟨rfl, by omega⟩]
    have : (row ++ [k]).getD row.length 0 = k := by simp
    rw [this]; exact hv
  · rw [if_neg (fun q => c q.1)]
    have : (row ++ [k]).getD j 0 = row.getD j 0 := by
      rw [List.getD_eq_getElem?_getD, List.getElem?_append_left (by omega), ← List.getD_eq_getElem?_getD]
    rw [this]
    exact h.v j (by omega)
theorem with_k {row : List Int} {n : Nat} {k : Int} (h : k ≠ 0) : withF row n k = row.take (row.length - n) ++ [k] := by unfold withF; rw [if_neg h]
theorem with_0 {row : List Int} {n : Nat} : withF row n 0 = row.take (row.length - n) := by unfold withF; rw [if_pos rfl, List.append_nil]
theorem take_take' (row : List Int) : (row.take (row.length - 1)).take ((row.take (row.length - 1)).length - 1) = row.take (row.length - 2) := by
  rw [List.take_take, List.length_take]; congr 1; omega
theorem top_take {row : List Int} (h : 2 ≤ row.length) : topF (row.take (row.length - 1)) 0 = topF row 1 := by
  unfold topF
  rw [List.length_take, if_pos (by omega), if_pos (by omega), List.getD_eq_getElem?_getD, List.getElem?_take, if_pos (by omega), ← List.getD_eq_getElem?_getD]
  congr 1; omega
theorem isF_ne {s : Shp} {k : Int} (h : isF s k = true) : k ≠ 0 := by
  simp only [isF, Bool.and_eq_true, decide_eq_true_eq] at h; omega
theorem StackT.cells {s : Shp} {row : List Int} {v : MS} (h : StackT s row v) (c : List Int) : StackT s row { v with cells := c } := ⟨h.hi, h.v⟩
theorem StackT.pc {s : Shp} {row : List Int} {v : MS} (h : StackT s row v) (p : Int) : StackT s row { v with pc := p } := ⟨h.hi, h.v⟩
theorem val_1 (s : Shp) (n : Int) : valueF s 1 n = true := rfl
theorem val_tr (s : Shp) (b : Bool) : valueF s 2 (tr b) = true := by cases b <;> rfl
theorem cells_at {s : Shp} {a n : Nat} (hn : 1 ≤ n) (h : cellsK s a n ≠ 0) : a + n ≤ s.kd.length ∧ ∀ j, j < n → s.kd.getD (a + j) 0 = cellsK s a n := by
  unfold cellsK at h ⊢
  split at h
  · exact absurd rfl h
  · rename_i c
    split at h
    · rename_i c2
      rw [if_neg c, if_pos c2]
      refine ⟨by omega, fun j hj => ?_⟩
      rw [List.all_eq_true] at c2
      simpa using c2 j (List.mem_range.2 hj)
    · exact absurd rfl h
theorem CellT.put {s : Shp} {c0 c : List Int} (h : CellT s c0 c) {i : Nat} {x : Int} (hi : i < s.kd.length) (hx : valueF s (s.kd.getD i 0) x = true) (hf : ¬ (s.lo ≤ i ∧ (i : Int) < s.hi)) : CellT s c0 (c.set i x) := by
  refine ⟨by simpa using h.l, fun j hj => ?_, fun j h1 h2 => ?_⟩
  · rw [getD_set]
    split
    · rename_i e; rw [← e.1]; exact hx
    · exact h.v j hj
  · rw [getD_set]
    split
    · rename_i e; exact absurd ⟨h1, h2⟩ (e.1 ▸ hf)
    · exact h.z j h1 h2
theorem free_at {s : Shp} {a n j : Nat} (h : freeF s a n = true) (hj : j < n) : ¬ (s.lo ≤ (a + j : Nat) ∧ ((a + j : Nat) : Int) < s.hi) := by
  unfold freeF at h
  rw [List.all_eq_true] at h
  have := h j (List.mem_range.2 hj)
  intro q
  simp [q.1, q.2] at this
  omega

/-- The two rows of an operator: what it takes, what it tells. -/
theorem un_val {s : Shp} {op a k : Int} (h : (unTyF op (tyF k)).2 = true) : valueF s (kindF (unTyF op (tyF k)).1) (unF op a).1 = true ∧ (unF op a).2 = 0 := by
  unfold unTyF at h ⊢
  unfold unF
  split
  · rename_i c; rw [if_pos c.1]; exact ⟨rfl, rfl⟩
  · rename_i c
    rw [if_neg c] at h
    split
    · rename_i c2
      rw [if_neg (by rw [c2.1]; decide), if_pos c2.1]
      exact ⟨val_tr s _, rfl⟩
    · rename_i c2
      rw [if_neg c2] at h; cases h
theorem bin_val {s : Shp} {op a b : Int} {t u : Ty} (h : (binTyF op t u).2 = true) : valueF s (kindF (binTyF op t u).1) (binF op a b).1 = true ∧ ((binF op a b).2 = 0 ∨ (binF op a b).2 = 15) := by
  unfold binTyF at h ⊢
  have hg := grp_of op (grpF op) rfl
  by_cases g1 : grpF op = 1
  · rw [if_pos g1] at h ⊢
    split at h
    · rename_i c
      rw [if_pos c]
      have := hg.2.1 g1
      unfold binF
      rw [if_pos this]
      refine ⟨rfl, ?_⟩
      unfold numF
      repeat' split
      all_goals first | exact .inl rfl | exact .inr rfl
    · cases h
  rw [if_neg g1] at h ⊢
  have key : ∀ b1 : Bool, (if b1 = true then (tBool, true) else (tNone, false) : Ty × Bool).2 = true → 8 ≤ op ∧ op ≤ 16 →
      valueF s (kindF (if b1 = true then (tBool, true) else (tNone, false) : Ty × Bool).1) (binF op a b).1 = true ∧ ((binF op a b).2 = 0 ∨ (binF op a b).2 = 15) := fun b1 hb ho => by
    cases b1
    · cases hb
    · have e : binF op a b = (tr (holdsF op a b), 0) := by unfold binF; rw [if_neg (by omega), if_pos ho]
      rw [e]
      exact ⟨val_tr s _, .inl rfl⟩
  by_cases g2 : grpF op = 2
  · rw [if_pos g2] at h ⊢
    exact key _ h (by have := hg.2.2.1 g2; omega)
  rw [if_neg g2] at h ⊢
  by_cases g3 : grpF op = 3
  · rw [if_pos g3] at h ⊢
    exact key _ h (by have := hg.2.2.2.1 g3; omega)
  rw [if_neg g3] at h ⊢
  by_cases g4 : grpF op = 4
  · rw [if_pos g4] at h ⊢
    exact key _ h (by have := hg.2.2.2.2 g4; omega)
  rw [if_neg g4] at h
  cases h
end Go.Proofs.Ytplbaapaboonmaa

/- A step keeps what is right. -/
set_option linter.all false
set_option maxRecDepth 20000
namespace Go.Proofs.Ytplbaapaboonmaa
open Go.Nk

/-- What an instruction leaves: an error of two; or the row behind it, and right cells. -/
structure Left (s : Shp) (c0 : List Int) (row : List Int) (r : Int × MS) : Prop where
  e : r.1 = 0 ∨ r.1 = 15 ∨ r.1 = 16
  st : r.1 = 0 → StackT s row r.2
  ce : r.1 = 0 → CellT s c0 r.2.cells
theorem push_cells (v : MS) (n : Int) : (pushS v n).cells = v.cells := pushS_cells v n

theorem left_push {s : Shp} {c0 row : List Int} {u : MS} {k n : Int} (ht : StackT s row u) (hc : CellT s c0 u.cells) (hr : u.raw.length = 16) (hl : row.length < 16) (hv : valueF s k n = true) : Left s c0 (row ++ [k]) (pushE u, pushS u n) := by
  obtain ⟨p1, p2⟩ := st_push ht hr hl hv
  exact ⟨.inl p2, fun _ => p1, fun _ => by rw [pushS_cells]; exact hc⟩
theorem left_move {s : Shp} {c0 row : List Int} {u : MS} {x : Ins} (ho : x.o = 2 ∨ x.o = 3) (hb : x.b = 0) (ha : 0 ≤ x.a) (hs : shapeF s = true) (hg : good s row) (ht : StackT s row u) (hc : CellT s c0 u.cells) (hr : u.raw.length = 16) (h : (memF s x row).2 = true) : Left s c0 (memF s x row).1 (moveR u x) := by
  unfold memF at h ⊢
  have e1 : (max 1 x.b).toNat = 1 := by rw [hb]; rfl
  rw [e1] at h ⊢
  by_cases k0 : cellsK s x.a.toNat 1 = 0
  · rw [if_pos k0] at h; cases h
  rw [if_neg k0] at h ⊢
  obtain ⟨q1, q2⟩ := cells_at (Nat.le_refl 1) k0
  have q3 := q2 0 (by decide)
  rw [Nat.add_zero] at q3
  have hL := hc.l
  have th : thereF u x.a 1 = true := by simp only [thereF, decide_eq_true_eq]; omega
  rcases ho with ho | ho
  · rw [if_pos ho] at h ⊢
    have em : moveR u x = (pushE u, pushS u (u.cells.getD x.a.toNat 0)) := by
      unfold moveR
      rw [if_neg (by rw [th]; decide), if_pos ho]
    rw [em]
    have hl : row.length < 16 := by simpa using h
    rw [with_k k0, Nat.sub_zero, List.take_length]
    refine left_push ht hc hr hl ?_
    rw [← q3]
    exact hc.v _ (by omega)
  · have n2 : ¬ x.o = 2 := by omega
    rw [if_neg n2, if_pos ho] at h ⊢
    split at h
    · cases h
    · rename_i c
      rw [if_neg c, with_0]
      have c1 : topF row 0 = cellsK s x.a.toNat 1 := Classical.not_not.1 fun e => c (.inl e)
      have c2 : freeF s x.a.toNat 1 = true := by
        have := fun e => c (.inr e); simpa using this
      have hl := top_len (r := row) (b := 0) (by rw [c1]; exact k0)
      obtain ⟨p1, p2⟩ := st_pop ht hl
      have hh := ht.hi
      have em : moveR u x = (0, { popS u with cells := u.cells.set x.a.toNat (popV u) }) := by
        unfold moveR
        rw [if_neg (by rw [th]; decide), if_neg n2, if_neg (by omega)]
      rw [em]
      exact ⟨.inl rfl, fun _ => p1.cells _, fun _ => hc.put (by omega) (by rw [q3, ← c1]; exact p2) (free_at c2 (j := 0) (by decide))⟩
theorem left_oper {s : Shp} {c0 row : List Int} {u : MS} {x : Ins} (ho : x.o = 4 ∨ x.o = 5) (hg : good s row) (ht : StackT s row u) (hc : CellT s c0 u.cells) (hr : u.raw.length = 16) (h : (nextF s x row).2 = true) : Left s c0 (nextF s x row).1 (operR u x) := by
  have hh := ht.hi
  have hg1 := hg.1
  unfold nextF at h ⊢
  rw [if_neg (by omega)] at h ⊢
  rcases ho with ho | ho
  · rw [if_pos ho] at h ⊢
    dsimp only at h ⊢
    split at h
    · rename_i c
      rw [if_pos c]
      have hl : 1 ≤ row.length := top_len (r := row) (b := 0) (by rcases tyF_k (unTy_0 c) with e | e <;> omega)
      obtain ⟨p1, p2⟩ := st_pop ht hl
      obtain ⟨v1, v2⟩ := un_val (s := s) (a := popV u) c
      have hk := isF_ne (unTy_k c s)
      rw [with_k hk]
      have e1 : operV u x = unF x.a (popV u) := by unfold operV; rw [if_pos ho]
      have e2 : operS u x = popS u := by unfold operS; rw [if_pos ho]
      unfold operR
      rw [if_pos ho, e1, e2, if_neg (by omega), if_neg (by rw [v2]; decide)]
      exact left_push p1 hc hr (by rw [List.length_take]; omega) v1
    · cases h
  · have n4 : ¬ x.o = 4 := by omega
    rw [if_neg n4, if_pos ho] at h ⊢
    dsimp only at h ⊢
    split at h
    · cases h
    · rename_i hl
      rw [if_neg hl]
      split at h
      · rename_i c
        rw [if_pos c]
        obtain ⟨p1, p2⟩ := st_pop ht (by omega)
        obtain ⟨p3, p4⟩ := st_pop p1 (by rw [List.length_take]; omega)
        rw [take_take'] at p3
        obtain ⟨v1, v2⟩ := bin_val (s := s) (a := popV (popS u)) (b := popV u) c
        have hk := isF_ne (binTy_k c s)
        rw [with_k hk]
        have e1 : operV u x = binF x.a (popV (popS u)) (popV u) := by unfold operV; rw [if_neg n4]
        have e2 : operS u x = popS (popS u) := by unfold operS; rw [if_neg n4]
        unfold operR
        rw [if_neg n4, e1, e2, if_neg (by omega)]
        by_cases q : (binF x.a (popV (popS u)) (popV u)).2 = 0
        · rw [if_neg (by rw [q]; decide)]
          exact left_push p3 hc hr (by rw [List.length_take]; omega) v1
        · rw [if_pos q]
          have q2 := v2.resolve_left q
          exact ⟨.inr (.inl q2), fun e => absurd e q, fun e => absurd e q⟩
      · cases h
theorem left_get {s : Shp} {c0 row : List Int} {u : MS} {x : Ins} (ho : x.o = 8) (hb : 1 ≤ x.b) (ha : 0 ≤ x.a) (hg : good s row) (ht : StackT s row u) (hc : CellT s c0 u.cells) (hr : u.raw.length = 16) (h : (memF s x row).2 = true) : Left s c0 (memF s x row).1 (getR u x) := by
  have hh := ht.hi
  have hg1 := hg.1
  unfold memF at h ⊢
  have e1 : (max 1 x.b).toNat = x.b.toNat := by omega
  rw [e1] at h ⊢
  by_cases k0 : cellsK s x.a.toNat x.b.toNat = 0
  · rw [if_pos k0] at h; cases h
  rw [if_neg k0, if_neg (by omega), if_neg (by omega), if_pos ho] at h ⊢
  obtain ⟨q1, q2⟩ := cells_at (by omega) k0
  have hL := hc.l
  have th : thereF u x.a x.b = true := by simp only [thereF, decide_eq_true_eq]; omega
  split at h
  · cases h
  rename_i c
  rw [if_neg c]
  have c1 : topF row 0 = 1 := Classical.not_not.1 c
  have hl : 1 ≤ row.length := top_len (r := row) (b := 0) (by omega)
  obtain ⟨p1, p2⟩ := st_pop ht hl
  unfold getR
  rw [if_neg (by rw [th]; simp; omega)]
  by_cases q : popV u < 0 ∨ x.b ≤ popV u
  · rw [if_pos q]
    exact ⟨.inr (.inr rfl), fun e => absurd (show (16 : Int) = 0 from e) (by decide), fun e => absurd (show (16 : Int) = 0 from e) (by decide)⟩
  · rw [if_neg q, with_k k0]
    refine left_push p1 hc hr (by rw [List.length_take]; omega) ?_
    have := q2 (popV u).toNat (by omega)
    rw [← this]
    exact hc.v _ (by omega)
theorem left_put {s : Shp} {c0 row : List Int} {u : MS} {x : Ins} (ho : x.o = 9) (hb : 1 ≤ x.b) (ha : 0 ≤ x.a) (hg : good s row) (ht : StackT s row u) (hc : CellT s c0 u.cells) (hr : u.raw.length = 16) (h : (memF s x row).2 = true) : Left s c0 (memF s x row).1 (putR u x) := by
  have hh := ht.hi
  unfold memF at h ⊢
  have e1 : (max 1 x.b).toNat = x.b.toNat := by omega
  rw [e1] at h ⊢
  by_cases k0 : cellsK s x.a.toNat x.b.toNat = 0
  · rw [if_pos k0] at h; cases h
  rw [if_neg k0, if_neg (by omega), if_neg (by omega), if_neg (by omega)] at h ⊢
  obtain ⟨q1, q2⟩ := cells_at (by omega) k0
  have hL := hc.l
  have th : thereF u x.a x.b = true := by simp only [thereF, decide_eq_true_eq]; omega
  split at h
  · cases h
  rename_i c
  rw [if_neg c, with_0]
  have c1 : topF row 0 = 1 := Classical.not_not.1 fun e => c (.inl e)
  have c2 : topF row 1 = cellsK s x.a.toNat x.b.toNat := Classical.not_not.1 fun e => c (.inr (.inl e))
  have c3 : freeF s x.a.toNat x.b.toNat = true := by
    have := fun e => c (.inr (.inr e)); simpa using this
  have hl : 2 ≤ row.length := top_len (r := row) (b := 1) (by rw [c2]; exact k0)
  obtain ⟨p1, p2⟩ := st_pop ht (by omega)
  obtain ⟨p3, p4⟩ := st_pop p1 (by rw [List.length_take]; omega)
  rw [take_take'] at p3
  rw [top_take hl, c2] at p4
  unfold putR
  rw [if_neg (by rw [th]; simp; omega)]
  by_cases q : popV u < 0 ∨ x.b ≤ popV u
  · rw [if_pos q]
    exact ⟨.inr (.inr rfl), fun e => absurd (show (16 : Int) = 0 from e) (by decide), fun e => absurd (show (16 : Int) = 0 from e) (by decide)⟩
  · rw [if_neg q]
    have hj := q2 (popV u).toNat (by omega)
    exact ⟨.inl rfl, fun _ => p3.cells _, fun _ => hc.put (by omega) (by rw [hj]; exact p4) (free_at c3 (by omega))⟩
end Go.Proofs.Ytplbaapaboonmaa

/- A code that may be run keeps what is right, to its end. -/
set_option linter.all false
set_option maxRecDepth 20000
namespace Go.Proofs.Ytplbaapaboonmaa
open Go.Nk

theorem moveR_pc (u : MS) (x : Ins) : (moveR u x).2.pc = u.pc := by
  unfold moveR; repeat' split
  all_goals first | rfl | exact pushS_pc _ _
theorem operR_pc (u : MS) (x : Ins) : (operR u x).2.pc = u.pc := by
  have h : (operS u x).pc = u.pc := by unfold operS; split <;> rfl
  unfold operR
  by_cases c : u.hi < (if x.o = 4 then 1 else 2)
  · rw [if_pos c]
  · rw [if_neg c]
    by_cases d : (operV u x).2 ≠ 0
    · rw [if_pos d]; exact h
    · rw [if_neg d]; exact (pushS_pc _ _).trans h
theorem getR_pc (u : MS) (x : Ins) : (getR u x).2.pc = u.pc := by
  unfold getR; repeat' split
  all_goals first | rfl | exact pushS_pc _ _
theorem putR_pc (u : MS) (x : Ins) : (putR u x).2.pc = u.pc := by
  unfold putR; repeat' split
  all_goals rfl

/-- What a step leaves. -/
def LeftT (s : Shp) (code : List Ins) (Rf : Nat → List Int) (c0 : List Int) (i : Nat) (r : Int × MS) : Prop :=
  (r.1 = 0 ∨ r.1 = 15 ∨ r.1 = 16) ∧ (r.1 = 0 → CellT s c0 r.2.cells) ∧
    (r.1 = 0 → (code.getD i default).o ≠ 10 → ∃ i', i < i' ∧ i' < code.length ∧ r.2.pc = (i' : Nat) ∧ StackT s (Rf i') r.2)
theorem left_next {s : Shp} {code : List Ins} {Rf : Nat → List Int} {c0 : List Int} {i : Nat} {r : Int × MS} (T : StepT s code Rf i) (h6 : (code.getD i default).o ≠ 6)
    (h : Left s c0 (nextF s (code.getD i default) (Rf i)).1 r) (hp : r.2.pc = (i : Int) + 1) : LeftT s code Rf c0 i r := by
  refine ⟨h.e, h.ce, fun e h10 => ?_⟩
  obtain ⟨n1, n2⟩ := T.next h6 h10
  refine ⟨i + 1, by omega, n1, by rw [hp]; omega, ?_⟩
  rw [n2]; exact h.st e
theorem step_sound {s : Shp} {code : List Ins} {Rf : Nat → List Int} {c0 : List Int} {i : Nat} {v : MS} (hs : shapeF s = true) (T : StepT s code Rf i) (hv : okM v) (hp : v.pc = i) (ht : StackT s (Rf i) v) (hc : CellT s c0 v.cells) :
    LeftT s code Rf c0 i (doR v (code.getD i default)) := by
  have hT := T
  obtain ⟨t1, t2, t3, t4, t5, t6⟩ := T
  have tn := @left_next s code Rf c0 i
  have ha := right_a t1
  have hbb := @right_b (code.getD i default) t1
  have ho : 1 ≤ (code.getD i default).o ∧ (code.getD i default).o ≤ 10 := by
    have := t1
    simp only [rightF, Bool.and_eq_true, decide_eq_true_eq] at this
    exact ⟨this.1.1.1.1, this.1.1.1.2⟩
  have hb0 : (code.getD i default).o ≠ 8 → (code.getD i default).o ≠ 9 → (code.getD i default).b = 0 := fun q1 q2 => by
    have := t1
    simp only [rightF, Bool.and_eq_true] at this
    have h5 := this.2
    rw [if_neg (by omega)] at h5
    simpa using h5
  unfold doR
  rw [if_neg (by rw [t1]; decide)]
  dsimp only
  generalize hX : code.getD i default = X at *
  have hu : StackT s (Rf i) { v with pc := v.pc + 1 } := ht.pc _
  have hr : ({ v with pc := v.pc + 1 } : MS).raw.length = 16 := hv.r
  have hcu : CellT s c0 ({ v with pc := v.pc + 1 } : MS).cells := hc
  have hpu : ({ v with pc := v.pc + 1 } : MS).pc = (i : Int) + 1 := by rw [← hp]
  have hg1 := t2.1
  have hh : v.hi = (Rf i).length := hu.hi
  by_cases o1 : X.o = 1
  · rw [if_pos o1]
    refine tn hT (by omega) ?_ (by rw [pushS_pc]; exact hpu)
    unfold nextF at t3 ⊢
    rw [if_pos o1] at t3 ⊢
    simp only [Bool.and_eq_true, decide_eq_true_eq] at t3
    have hk := isF_ne t3.1
    show Left s c0 (withF (Rf i) 0 X.a) _
    rw [with_k hk, Nat.sub_zero, List.take_length]
    exact left_push hu hcu hr t3.2.2 t3.2.1
  rw [if_neg o1]
  by_cases o2 : X.o = 2 ∨ X.o = 3
  · rw [if_pos o2]
    refine tn hT (by omega) ?_ (by rw [moveR_pc]; exact hpu)
    have e : nextF s X (Rf i) = memF s X (Rf i) := by
      unfold nextF
      rw [if_neg o1, if_neg (by omega), if_neg (by omega), if_neg (by omega), if_neg (by omega), if_neg (by omega)]
    rw [e] at t3 ⊢
    exact left_move o2 (hb0 (by omega) (by omega)) ha.1 hs t2 hu hcu hr t3
  rw [if_neg o2]
  by_cases o4 : X.o = 4 ∨ X.o = 5
  · rw [if_pos o4]
    refine tn hT (by omega) ?_ (by rw [operR_pc]; exact hpu)
    exact left_oper o4 t2 hu hcu hr t3
  rw [if_neg o4]
  by_cases o6 : X.o = 6
  · rw [if_pos o6]
    have e : nextF s X (Rf i) = (Rf i, true) := by
      unfold nextF
      rw [if_neg o1, if_neg (by omega), if_neg (by omega), if_neg (by omega), if_pos o6]
    obtain ⟨j1, j2, j3⟩ := t5 (.inl o6)
    rw [e] at j3
    refine ⟨.inl rfl, fun _ => hcu, fun _ _ => ⟨X.a.toNat, by omega, by omega, by show X.a = _; omega, ?_⟩⟩
    rw [j3]
    exact hu.pc _
  rw [if_neg o6]
  by_cases o7 : X.o = 7
  · rw [if_pos o7]
    obtain ⟨j1, j2, j3⟩ := t5 (.inr o7)
    obtain ⟨n1, n2⟩ := t4 (by omega) (by omega)
    have e0 : nextF s X (Rf i) = if topF (Rf i) 0 = 2 then (withF (Rf i) 1 0, true) else ([], false) := by
      unfold nextF
      rw [if_neg o1, if_neg (by omega), if_neg (by omega), if_pos o7]
    rw [e0] at t3 j3 n2
    split at t3
    · rename_i c
      rw [if_pos c] at j3 n2
      simp only at j3 n2
      rw [with_0] at j3 n2
      have hl : 1 ≤ (Rf i).length := top_len (r := Rf i) (b := 0) (by omega)
      obtain ⟨p1, p2⟩ := st_pop hu hl
      rw [if_neg (by omega)]
      split
      · refine ⟨.inl rfl, fun _ => hcu, fun _ _ => ⟨X.a.toNat, by omega, by omega, by show X.a = _; omega, ?_⟩⟩
        rw [j3]
        exact p1.pc _
      · refine ⟨.inl rfl, fun _ => hcu, fun _ _ => ⟨i + 1, by omega, n1, by show v.pc + 1 = _; omega, ?_⟩⟩
        rw [n2]
        exact p1
    · cases t3
  rw [if_neg o7]
  have em : X.o = 8 ∨ X.o = 9 → nextF s X (Rf i) = memF s X (Rf i) := fun q => by
    unfold nextF
    rw [if_neg o1, if_neg (by omega), if_neg (by omega), if_neg o7, if_neg o6, if_neg (by omega)]
  by_cases o8 : X.o = 8
  · rw [if_pos o8]
    refine tn hT (by omega) ?_ (by rw [getR_pc]; exact hpu)
    rw [em (.inl o8)] at t3 ⊢
    exact left_get o8 (hbb (.inl o8)).1 ha.1 t2 hu hcu hr t3
  rw [if_neg o8]
  by_cases o9 : X.o = 9
  · rw [if_pos o9]
    refine tn hT (by omega) ?_ (by rw [putR_pc]; exact hpu)
    rw [em (.inr o9)] at t3 ⊢
    exact left_put o9 (hbb (.inr o9)).1 ha.1 t2 hu hcu hr t3
  rw [if_neg o9]
  exact ⟨.inl rfl, fun _ => hcu, fun _ q => absurd (show X.o = 10 by omega) (by rw [hX] at q; exact q)⟩

theorem run_sound {s : Shp} {code : List Ins} {Rf : Nat → List Int} {c0 : List Int} (hs : shapeF s = true) (T : ∀ j, j < code.length → StepT s code Rf j) (hin : ∀ i ∈ code, in64 i.n) (hl : code.length ≤ 100000) :
    ∀ (f i : Nat) (v : MS), code.length - i ≤ f → i < code.length → f ≤ 100000 → okM v → v.pc = i → v.used + f ≤ 1000000 → StackT s (Rf i) v → CellT s c0 v.cells →
      ((runN code f v).1 = 0 ∨ (runN code f v).1 = 15 ∨ (runN code f v).1 = 16) ∧ ((runN code f v).1 = 0 → CellT s c0 (runN code f v).2.cells) ∧ v.used + 1 ≤ (runN code f v).2.used
  | 0, i, v, h1, h2, _, _, _, _, _, _ => by omega
  | f + 1, i, v, h1, h2, h3, h4, h5, h6, h7, h8 => by
    have u0 := h4.u0
    have hk : okM { v with used := v.used + 1 } := okM_used h4 (by omega) (by omega)
    have e : v.pc.toNat = i := by omega
    have hi : in64 (code.getD i default).n := hin _ (by rw [List.getD_eq_getElem?_getD, List.getElem?_eq_getElem h2]; exact List.getElem_mem h2)
    have hS := step_sound (v := { v with used := v.used + 1 }) hs (T i h2) hk h5 ⟨h7.hi, h7.v⟩ h8
    have ha := after_do (x := code.getD i default) hk (by simp only; omega) hi
    have hu := ha.used
    simp only at hu
    unfold runN
    rw [if_neg (by omega), e]
    dsimp only
    generalize doR { v with used := v.used + 1 } (code.getD i default) = r at *
    split
    · exact ⟨hS.1, hS.2.1, by omega⟩
    · rename_i c
      have c1 : r.1 = 0 := Classical.not_not.1 fun q => c (.inl q)
      have c2 : (code.getD i default).o ≠ 10 := fun q => c (.inr q)
      obtain ⟨i', l1, l2, l3, l4⟩ := hS.2.2 c1 c2
      obtain ⟨r1, r2, r3⟩ := run_sound hs T hin hl f i' r.2 (by omega) l2 (by omega) ha.ok l3 (by omega) l4 (hS.2.1 c1)
      exact ⟨r1, r2, by omega⟩

theorem cellT_0 {s : Shp} {c : List Int} (h : rightS s c = true) : shapeF s = true ∧ CellT s c c := by
  simp only [rightS, Bool.and_eq_true, beq_iff_eq] at h
  obtain ⟨⟨h1, h2⟩, h3⟩ := h
  refine ⟨h1, h2, fun j hj => ?_, fun _ _ _ => rfl⟩
  unfold cellsF at h3
  rw [List.all_eq_true] at h3
  have hj2 : j < c.length := by omega
  have e1 : s.kd.getD j 0 = s.kd[j] := by simp [hj]
  have e2 : c.getD j 0 = c[j] := by simp [hj2]
  rw [e1, e2]
  exact h3 (s.kd[j], c[j]) (List.mem_iff_getElem.2 ⟨j, by simp; omega, by simp⟩)
theorem rightS_of {s : Shp} {c0 c : List Int} (hs : shapeF s = true) (h : CellT s c0 c) : rightS s c = true := by
  simp only [rightS, Bool.and_eq_true, beq_iff_eq]
  refine ⟨⟨hs, h.l⟩, ?_⟩
  unfold cellsF
  rw [List.all_eq_true]
  intro p hp
  obtain ⟨j, hj, rfl⟩ := List.mem_iff_getElem.1 hp
  simp only [List.length_zip] at hj
  have h1 : j < s.kd.length := by omega
  have h2 : j < c.length := by omega
  have := h.v j h1
  have e1 : s.kd.getD j 0 = s.kd[j] := by simp [h1]
  have e2 : c.getD j 0 = c[j] := by simp [h2]
  rw [e1, e2] at this
  simpa using this
theorem safe {s : Shp} {code : List Ins} {cells : List Int} (hr : rightS s cells = true) (hc : (checkF s code).2 = true) (hin : ∀ i ∈ code, in64 i.n) (hci : ∀ x ∈ cells, in64 x) (hl : code.length ≤ 100000) (hcl : cells.length ≤ 1000000) :
    (1 ≤ (vmF code cells code.length).2.1 ∧ (vmF code cells code.length).2.1 ≤ code.length) ∧ ((vmF code cells code.length).2.2 = 0 ∨ (vmF code cells code.length).2.2 = 15 ∨ (vmF code cells code.length).2.2 = 16) ∧
      ((vmF code cells code.length).2.2 ≠ 0 → (vmF code cells code.length).1 = cells) ∧ ((vmF code cells code.length).2.2 = 0 → CellT s cells (vmF code cells code.length).1) := by
  obtain ⟨hs, hT⟩ := cellT_0 hr
  unfold checkF at hc
  split at hc
  · cases hc
  rename_i q
  have h1 : 1 ≤ code.length := by
    have := fun e => q (.inr (.inl e)); omega
  have g0 : ∀ t, rv ((ks0 code.length).2.getD t none) = [] := fun t => by
    simp only [ks0, rv, List.getD_eq_getElem?_getD, List.getElem?_replicate]
    split <;> rfl
  obtain ⟨Rf, r1, r2⟩ := typed hs code.length 0 (ks0 code.length) (by omega) (by simp [ks0]) (by simp [ks0]) (fun t => by rw [g0]; exact ⟨by decide, by simp⟩) hc
  have R0 : Rf 0 = [] := (r1 0 (by simp only [ks0]; rw [getD_set, if_pos ⟨rfl, by simp; omega⟩])).trans (g0 0)
  have hM := okM_0 hcl hci
  have u0 : (m0 cells).used = 0 := rfl
  obtain ⟨k1, k2, k3⟩ := run_sound (c0 := cells) hs (fun j hj => r2 j (Nat.zero_le _) hj) hin hl code.length 0 (m0 cells) (by omega) (by omega) hl hM rfl (by rw [u0]; omega) (by rw [R0]; exact ⟨rfl, fun j hj => by simp at hj⟩) hT
  obtain ⟨_, _, _, k4⟩ := runN_ok code hin (by omega) code.length (m0 cells) hM (by simp [m0]) (by rw [u0]; omega)
  rw [u0] at k3 k4
  have ev : vmF code cells code.length = if (runN code code.length (m0 cells)).1 ≠ 0 then (cells, (runN code code.length (m0 cells)).2.used, (runN code code.length (m0 cells)).1) else ((runN code code.length (m0 cells)).2.cells, (runN code code.length (m0 cells)).2.used, 0) := by
    unfold vmF; rw [Int.toNat_natCast]
  rw [ev]
  generalize runN code code.length (m0 cells) = r at *
  split
  · rename_i c
    exact ⟨⟨by simp only; omega, by simp only; omega⟩, k1, fun _ => rfl, fun e => absurd e c⟩
  · rename_i c
    have c' : r.1 = 0 := Classical.not_not.1 c
    exact ⟨⟨by simp only; omega, by simp only; omega⟩, .inl rfl, fun e => absurd rfl e, fun _ => k2 c'⟩
end Go.Proofs.Ytplbaapaboonmaa

