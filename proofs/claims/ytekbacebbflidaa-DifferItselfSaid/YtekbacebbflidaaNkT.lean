/- Codes: what the data level shows of a code holds of the code. -/
import Derived.Test.YtekbacebbflidaaNkS
import Derived.Deep.LoopGhost
import Derived.Scope
set_option linter.all false
namespace Go.Nk
open Go.RowKit

section
variable {P : Program} {K F0 : Nat → Prop} {σ0 : Nat → Option Nat} {hp0 : List DObj} {N : Nat} {w0 : World} {C : Orc}

/-! Codes. -/

def mCode (P : Program) (N : Nat) : Code → DCode → Bool
  | .skip, .skip => true
  | .region _ ops draw, .ops draw' dl => draw == draw' && (if draw then drawOk P N ops [] (placesD 0 dl) else mOpers P N ops ops.toList dl)
  | .region _ ops draw, .opsP l => draw && drawOk P N ops [] l
  | .region _ ops draw, .opsS seps l => draw && drawOk P N ops seps l
  | .seq a b, .seq a' b' => mCode P N a a' && mCode P N b b'
  | .cond c a b, .cond c' a' b' => mArg c c' && mCode P N a a' && mCode P N b b'
  | .block id c, .block id' c' => id == id' && mCode P N c c'
  | .loop c, .loop _ _ c' => mCode P N c c'
  | c, .cut _ _ c' => mCode P N c c'
  | c, .gown _ _ _ c' => mCode P N c c'
  | c, .rsv c' => mCode P N c c'
  | .scope c, .scope c' => mCode P N c c'
  | .label _, .skip => true
  | _, .bad => true
  | .exit id, .exit id' => id == id'
  | .ret, .ret => true
  | _, _ => false

/-- What is to hold at an end, as the data level says it. -/
def QQ (K : Nat → Prop) (N : Nat) (F0 : Nat → Prop) (σ0 : Nat → Option Nat) (hp0 : List DObj) (w0 : World) (Q : DExit → DS → Prop) : Exit → Act → World → Prop
  | .normal, a, w => ∃ s, Cur K N F0 σ0 hp0 w0 s a w ∧ Q .normal s
  | .exit id, a, w => ∃ s, Cur K N F0 σ0 hp0 w0 s a w ∧ Q (.exit id) s
  | .ret, a, w => ∃ s, Cur K N F0 σ0 hp0 w0 s a w ∧ Q .ret s
  | _, _, _ => False

theorem code_sound (hC : C.ok P) : ∀ (c : Code) (dc : DCode) (Q : DExit → DS → Prop) (s : DS) (a : Act) (w : World), mCode P N c dc = true → dwp C hp0.length dc Q s → Cur K N F0 σ0 hp0 w0 s a w → Code.wp P c (QQ K N F0 σ0 hp0 w0 Q) a w
  | .skip, .skip, Q, s, a, w, _, h, hc => wp_skip ⟨s, hc, h⟩
  | .region _ ops draw, .ops draw' dl, Q, s, a, w, hm, h, hc => by
    simp only [mCode, Bool.and_eq_true] at hm
    obtain ⟨_, hm⟩ := hm
    cases draw with
    | false => exact wp_region_list (ops_sound hC (fun s' a' w' hc' h' => ⟨s', hc', h'⟩) (by simpa using hm) hc h)
    | true =>
      refine region_draw hC (seps := []) (by simpa using hm) (fun s' a' w' hc' h' => ⟨s', hc', h'⟩) hc (fun p hp => by simp at hp) ?_
      rw [placesD_ops]
      exact h
  | .region _ ops draw, .opsP l, Q, s, a, w, hm, h, hc => by
    simp only [mCode, Bool.and_eq_true] at hm
    obtain ⟨rfl, hm⟩ := hm
    exact region_draw hC hm (fun s' a' w' hc' h' => ⟨s', hc', h'⟩) hc (fun p hp => by simp at hp) h
  | .region _ ops draw, .opsS seps l, Q, s, a, w, hm, h, hc => by
    simp only [mCode, Bool.and_eq_true] at hm
    obtain ⟨rfl, hm⟩ := hm
    exact region_draw hC hm (fun s' a' w' hc' h' => ⟨s', hc', h'⟩) hc (sepJ_of h.1) h.2
  | .seq x y, .seq x' y', Q, s, a, w, hm, h, hc => by
    simp only [mCode, Bool.and_eq_true] at hm
    refine wp_seq (wp_mono (code_sound hC x x' _ s a w hm.1 h hc) fun e a' w' hq => ?_)
    cases e with
    | normal => obtain ⟨s', hc', h'⟩ := hq; exact code_sound hC y y' Q s' a' w' hm.2 h' hc'
    | exit id => obtain ⟨s', hc', h'⟩ := hq; exact ⟨s', hc', h'⟩
    | ret => obtain ⟨s', hc', h'⟩ := hq; exact ⟨s', hc', h'⟩
    | goto l => exact hq.elim
    | panic c => exact hq.elim
    | outgrown => exact hq.elim
  | .cond c x y, .cond c' x' y', Q, s, a, w, hm, h, hc => by
    simp only [mCode, Bool.and_eq_true] at hm
    have hcur := hc
    obtain ⟨F, σ, hs, hf, hN, hdef, hmv, hhm⟩ := hc
    have hv := mArg_rep hf hm.1.1
    simp only [dwp] at h
    cases he : c'.ev s.fr with
    | bool t =>
      rw [he] at hv
      simp only [he] at h
      refine wp_cond_split hv.bool_inv (fun ht => code_sound hC x x' Q s a w hm.1.2 (h.1 ht) hcur) (fun ht => code_sound hC y y' Q s a w hm.2 (h.2 ht) hcur)
    | anyb =>
      rw [he] at hv
      simp only [he] at h
      obtain ⟨b, hb⟩ := hv.anyb_inv
      exact wp_cond_split hb (fun _ => code_sound hC x x' Q s a w hm.1.2 h.1 hcur) (fun _ => code_sound hC y y' Q s a w hm.2 h.2 hcur)
    | _ => simp only [he] at h
  | .block id c, .block id' c', Q, s, a, w, hm, h, hc => by
    simp only [mCode, Bool.and_eq_true, beq_iff_eq] at hm
    obtain ⟨rfl, hm⟩ := hm
    refine wp_block (wp_mono (code_sound hC c c' _ s a w hm h hc) fun e a' w' hq => ?_)
    cases e with
    | normal => obtain ⟨s', hc', h'⟩ := hq; exact ⟨s', hc', h'⟩
    | exit k =>
      obtain ⟨s', hc', h'⟩ := hq
      simp only [DExit.inBlock] at h'
      simp only [Exit.inBlock]
      split at h'
      · rename_i e; rw [if_pos e]; exact ⟨s', hc', h'⟩
      · rename_i e; rw [if_neg e]; exact ⟨s', hc', h'⟩
    | ret => obtain ⟨s', hc', h'⟩ := hq; exact ⟨s', hc', h'⟩
    | goto l => exact hq.elim
    | panic c => exact hq.elim
    | outgrown => exact hq.elim
  | .loop c, .loop live m c', Q, s, a, w, hm, h, hc => by
    simp only [mCode] at hm
    simp only [dwp] at h
    obtain ⟨hmm, I, μ, h0, hr⟩ := h
    refine wp_loop_ghost (fun n a w => ∃ s', Cur K N F0 σ0 hp0 w0 s' a w ∧ I s' ∧ μ s' = n) (μ (s.cut live m)) ⟨_, hc.cut live m hmm, h0, rfl⟩ fun n a w hI => ?_
    obtain ⟨s', hc', hI', rfl⟩ := hI
    refine wp_mono (code_sound hC c c' _ s' a w hm (hr s' hI') hc') fun e a' w' hq => ?_
    cases e with
    | normal =>
      obtain ⟨s'', hc'', h''⟩ := hq
      exact ⟨_, h''.2, s''.cut live m, hc''.cut live m hmm, h''.1, rfl⟩
    | exit id => obtain ⟨s', hc', h'⟩ := hq; exact ⟨s', hc', h'⟩
    | ret => obtain ⟨s', hc', h'⟩ := hq; exact ⟨s', hc', h'⟩
    | goto l => exact hq.elim
    | panic c => exact hq.elim
    | outgrown => exact hq.elim
  | c, .gown t off z c', Q, s, a, w, hm, h, hc => by
    have hm' : mCode P N c c' = true := by cases c <;> simpa only [mCode] using hm
    simp only [dwp] at h
    split at h
    · rename_i hh L i j e1
      split at h
      · rename_i o e2
        rcases h with ⟨⟨h1, h2, h3, h4⟩, h5⟩ | h
        · exact code_sound hC c c' Q _ a w hm' h5 (hc.gown z e2 h1 (by omega) h4)
        · exact code_sound hC c c' Q _ a w hm' h hc
      · exact h.elim
    · exact h.elim
  | c, .cut live m c', Q, s, a, w, hm, h, hc => by
    have hm' : mCode P N c c' = true := by cases c <;> simpa only [mCode] using hm
    exact code_sound hC c c' Q (s.cut live m) a w hm' h.2 (hc.cut live m h.1)
  | c, .rsv c', Q, s, a, w, hm, h, hc => by
    have hm' : mCode P N c c' = true := by cases c <;> simpa only [mCode] using hm
    exact code_sound hC c c' Q _ a w hm' h hc.rsv
  | .label _, .skip, Q, s, a, w, _, h, hc => wp_label ⟨s, hc, h⟩
  | _, .bad, Q, s, a, w, _, h, hc => h.elim
  | .scope c, .scope c', Q, s, a, w, hm, h, hc => by
    refine wp_scope_straight (wp_mono (code_sound hC c c' Q s a w hm h hc) fun e a' w' hq => ?_)
    cases e with
    | normal => exact hq
    | exit id => exact hq
    | ret => exact hq
    | goto l => exact hq.elim
    | panic c => exact hq.elim
    | outgrown => exact hq.elim
  | .exit id, .exit id', Q, s, a, w, hm, h, hc => by
    simp only [mCode, beq_iff_eq] at hm
    subst hm
    exact wp_exit ⟨s, hc, h⟩
  | .ret, .ret, Q, s, a, w, _, h, hc => wp_ret ⟨s, hc, h⟩
end
end Go.Nk
