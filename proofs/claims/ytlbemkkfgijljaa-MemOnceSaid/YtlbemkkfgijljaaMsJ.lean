/- MemOnce. -/
import Derived.Test.YtlbemkkfgijljaaMsI
set_option linter.all false
set_option maxRecDepth 20000
namespace Go.Proofs.Ytlbemkkfgijljaa
open Go.Nk

/-! Names that are unlike. -/
def hasN (q : Pl) : Bool := decide (0 < q.names.length)
def badP (q p : Pl) : Bool := hasN q && (hasN p && (name0 q == name0 p))
def slashQ (q : Pl) : Bool := hasN q && (name0 q).any (· == 47)
def onceL : List Pl → List Pl → Bool
  | _, [] => true
  | pre, q :: r => !(pre.any (badP q)) && (!slashQ q && onceL (pre ++ [q]) r)
def onceF (f : Fl) : Bool := onceL [] f.eqs
theorem onceL_of : ∀ {l pre : List Pl}, onceL pre l = true → (∀ q ∈ l, slashQ q = false ∧ ∀ p ∈ pre, badP q p = false) ∧ l.Pairwise (fun p q => badP q p = false)
  | [], _, _ => ⟨by simp, .nil⟩
  | q :: r, pre, h => by
    simp only [onceL, Bool.and_eq_true, Bool.not_eq_true'] at h
    obtain ⟨h1, h2, h3⟩ := h
    obtain ⟨h4, h5⟩ := onceL_of h3
    refine ⟨fun p hp => ?_, List.pairwise_cons.2 ⟨fun p hp => (h4 p hp).2 q (by simp), h5⟩⟩
    rcases List.mem_cons.1 hp with rfl | hp
    · exact ⟨h2, fun p' hp' => by
        have := List.any_eq_false.1 h1 p' hp'
        simpa using this⟩
    · exact ⟨(h4 p hp).1, fun p' hp' => (h4 p hp).2 p' (by simp [hp'])⟩
theorem cut_eq : ∀ {a b p q : List UInt8}, (47 : UInt8) ∉ a → (47 : UInt8) ∉ b → a ++ 47 :: p = b ++ 47 :: q → a = b
  | [], [], _, _, _, _, _ => rfl
  | [], y :: b, p, q, _, hb, h => by
    simp only [List.nil_append, List.cons_append, List.cons.injEq] at h
    exact absurd (by simp [h.1]) hb
  | x :: a, [], p, q, ha, _, h => by
    simp only [List.nil_append, List.cons_append, List.cons.injEq] at h
    exact absurd (by simp [h.1]) ha
  | x :: a, y :: b, p, q, ha, hb, h => by
    simp only [List.cons_append, List.cons.injEq] at h
    rw [h.1, cut_eq (fun hx => ha (by simp [hx])) (fun hx => hb (by simp [hx])) h.2]
theorem noSlash {q : Pl} (h : slashQ q = false) (hn : hasN q = true) : (47 : UInt8) ∉ name0 q := by
  intro hm
  simp only [slashQ, hn, Bool.true_and] at h
  have := List.any_eq_false.1 h 47 hm
  simp at this
theorem fby_has {q : Pl} (h : fbyQ q = true) : hasN q = true := by
  simp only [fbyQ, Bool.and_eq_true] at h; exact h.2
theorem call_has {i : Int} {q : Pl} (h : callQ i q = true) : hasN q = true := by
  simp only [callQ, Bool.and_eq_true] at h; exact h.2.1
theorem names_ne {q p : Pl} (h : badP q p = false) (h1 : hasN q = true) (h2 : hasN p = true) : name0 p ≠ name0 q := by
  intro e
  simp [badP, h1, h2, e] at h
def Unlike (m : List Cel) : Prop := m.Pairwise fun a b => a.path ≠ b.path
theorem flowAt_once {l : Fls} (h : ∀ f ∈ l.fs, onceF f = true) (i : Int) : onceF (flowAt l i) = true := by
  unfold flowAt
  rcases Nat.lt_or_ge i.toNat l.fs.length with h1 | h1
  · rw [List.getD_eq_getElem?_getD, List.getElem?_eq_getElem h1]
    exact h _ (List.getElem_mem h1)
  · rw [List.getD_eq_getElem?_getD, List.getElem?_eq_none h1]
    rfl
theorem start_unlike {l : Fls} (h : ∀ f ∈ l.fs, onceF f = true) : ∀ (n : Nat) (i : Int), Unlike (startN l n i)
  | 0, _ => .nil
  | n + 1, i => by
    obtain ⟨h1, h2⟩ := onceL_of (flowAt_once h i)
    unfold Unlike startN
    generalize flowAt l i = f at h1 h2
    refine List.pairwise_append.2 ⟨?_, ?_, ?_⟩
    · refine List.pairwise_map.2 ((h2.filter _).imp_of_mem fun {p q} hp hq hb => ?_)
      exact names_ne hb (fby_has (List.mem_filter.1 hq).2) (fby_has (List.mem_filter.1 hp).2)
    · refine List.pairwise_flatMap.2 ⟨fun q hq => ?_, ?_⟩
      · refine List.pairwise_map.2 ((start_unlike h n q.node).imp fun {a b} hab e => hab ?_)
        simp only [preC] at e
        exact List.append_cancel_left e
      · refine (h2.filter _).imp_of_mem fun {p q} hp hq hb x hx y hy e => ?_
        obtain ⟨hp1, hp2⟩ := List.mem_filter.1 hp
        obtain ⟨hq1, hq2⟩ := List.mem_filter.1 hq
        obtain ⟨a, _, rfl⟩ := List.mem_map.1 hx
        obtain ⟨b, _, rfl⟩ := List.mem_map.1 hy
        simp only [preC, List.append_assoc, List.cons_append, List.nil_append] at e
        exact names_ne hb (call_has hq2) (call_has hp2) (cut_eq (noSlash (h1 p hp1).1 (call_has hp2)) (noSlash (h1 q hq1).1 (call_has hq2)) e)
    · intro x hx y hy e
      obtain ⟨p, hp, rfl⟩ := List.mem_map.1 hx
      obtain ⟨q, hq, hy⟩ := List.mem_flatMap.1 hy
      obtain ⟨b, _, rfl⟩ := List.mem_map.1 hy
      obtain ⟨hp1, hp2⟩ := List.mem_filter.1 hp
      simp only [preC, celQ] at e
      have := noSlash (h1 p hp1).1 (fby_has hp2)
      rw [e] at this
      exact this (by simp)

/-! Over of under is what it was. -/
theorem getO_under {n : List UInt8} {c : Cel} (hc : preF c.path (under n) = true) : ∀ {m : List Cel}, Unlike m → c ∈ m → getO (underF m n) (restT c.path n) = some c.vals
  | [], _, h => by cases h
  | d :: r, hu, h => by
    obtain ⟨h1, h2⟩ := List.pairwise_cons.1 hu
    have hr : restT c.path n = c.path.drop (n.length + 1) := by simp [restT, hc]
    have ht := preF_iff.1 hc
    simp only [underF, List.flatMap_cons]
    rcases List.mem_cons.1 h with rfl | h
    · simp [underO, hc, getO, hr]
    · have ih := getO_under hc h2 h
      simp only [underF] at ih
      by_cases hd : preF d.path (under n) = true
      · have hne : d.path.drop (n.length + 1) ≠ c.path.drop (n.length + 1) := by
          intro e
          refine h1 c h ?_
          have hdt := preF_iff.1 hd
          rw [← List.take_append_drop (under n).length d.path, ← List.take_append_drop (under n).length c.path, hdt, ht]
          have hl : (under n).length = n.length + 1 := by simp [under]
          rw [hl, e]
        simp only [underO, hd, if_true, List.cons_append, List.nil_append, getO]
        rw [hr] at ih ⊢
        rw [if_neg hne]
        exact ih
      · simp only [underO, hd]
        exact ih
theorem over_under {m : List Cel} (h : Unlike m) (n : List UInt8) : overF m n (underF m n) = m := by
  unfold overF turn
  refine (List.map_congr_left fun c hc => ?_).trans (List.map_id m)
  simp only [trnF, overV_rest]
  by_cases hp : preF c.path (under n) = true
  · have := getO_under hp h hc
    simp [getB, getV, this]
  · simp [hp]
end Go.Proofs.Ytlbemkkfgijljaa
