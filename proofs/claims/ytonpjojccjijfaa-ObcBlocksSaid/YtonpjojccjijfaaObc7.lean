/- Blocks by the document: one pass over the statements. -/
import Derived.Test.YtonpjojccjijfaaObc6
set_option linter.all false
set_option maxRecDepth 20000
namespace Go.Proofs.Ytonpjojccjijfaa
open Go.Nk

def fnB (G : List Blk) (s : Stmt) : List Blk :=
  match G.getLast? with
  | some b => if onEq b.on s.q.on then G.dropLast ++ [⟨b.on, b.body ++ [bareS [] s]⟩] else G ++ [⟨s.q.on, [bareS [] s]⟩]
  | none => G ++ [⟨s.q.on, [bareS [] s]⟩]
theorem fnB_same (G : List Blk) (b : Blk) (s : Stmt) (h : b.on = s.q.on) : fnB (G ++ [b]) s = G ++ [⟨b.on, b.body ++ [bareS [] s]⟩] := by
  unfold fnB
  rw [List.getLast?_append, List.getLast?_singleton]
  have : onEq b.on s.q.on = true := onEq_iff.2 h
  simp [this]
theorem fnB_new (G : List Blk) (s : Stmt) (h : ∀ b, G.getLast? = some b → onEq b.on s.q.on = false) : fnB G s = G ++ [⟨s.q.on, [bareS [] s]⟩] := by
  unfold fnB
  cases hg : G.getLast? with
  | none => rfl
  | some b => simp [h b hg]

theorem gFrom_fold (l : List Stmt) : ∀ r k fm G, k + r = l.length → fm ≤ k →
    (fm < k → k < l.length ∧ (l.getD fm zS).q.on = (l.getD k zS).q.on) →
    (fm = k → k < l.length → ∀ b, (G.map blkF).getLast? = some b → onEq b.on (l.getD k zS).q.on = false) →
    (gFrom l r k fm G).map blkF = (l.drop k).foldl fnB ((G ++ if fm < k then [(l.take k).drop fm] else []).map blkF)
  | 0, k, fm, G, hk, hf, h1, _ => by
    have : ¬ fm < k := fun h => by have := (h1 h).1; omega
    rw [if_neg this, List.drop_of_length_le (by omega)]
    simp [gFrom]
  | r + 1, k, fm, G, hk, hf, h1, h2 => by
    have hlt : k < l.length := by omega
    obtain ⟨x, hx⟩ : ∃ x, l[k]? = some x := ⟨l[k], by simp [hlt]⟩
    have hgx : l.getD k zS = x := by simp [List.getD, hx]
    have hd : l.drop k = x :: l.drop (k + 1) := by
      rw [List.drop_eq_getElem_cons hlt]
      congr 1
      rw [List.getElem?_eq_getElem hlt] at hx
      injection hx
    have ht : (l.take (k + 1)).drop fm = (l.take k).drop fm ++ [x] := by
      rw [take_of hx, List.drop_append_of_le_length (by simp; omega)]
    have hon : (l.getD fm zS).q.on = x.q.on := by
      rcases Nat.lt_or_ge fm k with h | h
      · rw [(h1 h).2, hgx]
      · have : fm = k := by omega
        rw [this, hgx]
    have hhead : ∀ n, ((l.take (n + 1)).drop fm).headD zS = l.getD fm zS ∨ n < fm := fun n => by
      rcases Nat.lt_or_ge n fm with h | h
      · exact .inr h
      · left
        have hfl : fm < (l.take (n + 1)).length ∨ l.length ≤ fm := by simp; omega
        rcases hfl with hfl | hfl
        · rw [List.drop_eq_getElem_cons hfl]
          simp [List.getD, List.getElem?_eq_getElem (show fm < l.length by simp at hfl; omega)]
        · omega
    have hblk : ∀ n, fm ≤ n → (blkF ((l.take (n + 1)).drop fm)).on = x.q.on := fun n hn => by
      rcases hhead n with h | h
      · simp only [blkF, h, hon]
      · omega
    have step : fnB ((G ++ if fm < k then [(l.take k).drop fm] else []).map blkF) x = (G ++ [(l.take (k + 1)).drop fm]).map blkF := by
      rcases Nat.lt_or_ge fm k with h | h
      · rw [if_pos h, List.map_append, List.map_append, List.map_singleton, List.map_singleton]
        have e : k = (k - 1) + 1 := by omega
        have o1 : (blkF ((l.take k).drop fm)).on = x.q.on := by rw [e]; exact hblk (k - 1) (by omega)
        rw [fnB_same _ _ _ o1]
        congr 2
        have o2 := hblk k (by omega)
        rw [ht] at o2 ⊢
        rw [o1]
        simp only [blkF, List.map_append, List.map_cons, List.map_nil] at o2 ⊢
        rw [o2]
      · have hfk : fm = k := by omega
        rw [if_neg (by omega), List.append_nil, fnB_new _ _ (fun b hb => by have := h2 hfk hlt b hb; rwa [hgx] at this), List.map_append]
        have o2 := hblk k (by omega)
        rw [ht] at o2 ⊢
        have : (l.take k).drop fm = [] := List.drop_of_length_le (by simp; omega)
        rw [this] at o2 ⊢
        simp only [blkF, List.nil_append, List.map_cons, List.map_nil, List.headD_cons]
    unfold gFrom
    rw [hd, List.foldl_cons, step]
    cases hb : brk l k with
    | true =>
      rw [if_pos rfl, gFrom_fold l r (k + 1) (k + 1) _ (by omega) (Nat.le_refl _) (fun h => absurd h (Nat.lt_irrefl _)) ?_, if_neg (Nat.lt_irrefl _), List.append_nil]
      intro _ hk1 b hb2
      rw [List.map_append, List.map_singleton, List.getLast?_append, List.getLast?_singleton] at hb2
      simp only [Option.or_some, Option.some.injEq, Option.some_or] at hb2
      subst hb2
      rw [hblk k (by omega)]
      simp only [brk, Bool.or_eq_true, decide_eq_true_eq, Bool.not_eq_true', hgx] at hb
      rcases hb with hb | hb
      · omega
      · exact hb
    | false =>
      rw [if_neg (by simp), gFrom_fold l r (k + 1) fm G (by omega) (by omega) ?_ (fun h => by omega), if_pos (by omega)]
      intro _
      simp only [brk, Bool.or_eq_false_iff, decide_eq_false_iff_not, Bool.not_eq_false', hgx] at hb
      exact ⟨by omega, by rw [hon]; exact onEq_iff.1 hb.2⟩
theorem blksF_fold (c : Cls) : blksF c = c.body.foldl fnB [] := by
  have := gFrom_fold c.body c.body.length 0 0 [] (by omega) (Nat.le_refl _) (fun h => absurd h (Nat.lt_irrefl _)) (fun _ _ b hb => by simp at hb)
  simpa [blksF, grpF] using this
end Go.Proofs.Ytonpjojccjijfaa
