/- Codes: what the data level shows of a code holds of the code. -/
import Derived.Test.YtfaailjhioobhaaGreatNkT2
set_option linter.all false
namespace Go.Nk
open Go.RowKit
section
variable {P : Program} {K F0 : Nat → Prop} {σ0 : Nat → Option Nat} {hp0 : List DObj} {N : Nat} {w0 : World} {C : Orc}
def zep (P : Program) (N : Nat) : Code → DCode → Bool
 | .skip,.skip => true
 | .region _ ops draw,.ops draw' dl => draw == draw' && (if draw then z0o P N ops [] (zyv 0 dl) else zwj P N ops ops.toList dl)
 | .region _ ops draw,.opsP l => draw && z0o P N ops [] l
 | .region _ ops draw,.opsS seps l => draw && z0o P N ops seps l
 | .seq a b,.seq a' b' => zep P N a a' && zep P N b b'
 | .cond c a b,.cond c' a' b' => mArg c c' && zep P N a a' && zep P N b b'
 | .block id c,.block id' c' => id == id' && zep P N c c'
 | .loop c,.loop _ _ c' => zep P N c c'
 | c,.cut _ _ c' => zep P N c c'
 | c,.gown _ _ _ c' => zep P N c c'
 | c,.rsv c' => zep P N c c'
 | .scope c,.scope c' => zep P N c c'
 | .label _,.skip => true
 | _,.bad => true
 | .exit id,.exit id' => id == id'
 | .ret,.ret => true
 | _,_ => false
def QQ [Inhabited Env] (K : Nat → Prop) (N : Nat) (F0 : Nat → Prop) (σ0 : Nat → Option Nat) (hp0 : List DObj) (w0 : World) (Q : DExit → DS → Prop) : Exit → Act → World → Prop
 | .normal,a,w => ∃ s,Cur K N F0 σ0 hp0 w0 s a w ∧ Q .normal s
 | .exit id,a,w => ∃ s,Cur K N F0 σ0 hp0 w0 s a w ∧ Q (.exit id) s
 | .ret,a,w => ∃ s,Cur K N F0 σ0 hp0 w0 s a w ∧ Q .ret s
 | _,_,_ => False
theorem zah [Inhabited Env] (hC : C.ok P) : ∀ (dc : DCode) (c : Code) (ro : Option Nat) (n : Nat) (K F0 : Nat → Prop) (σ0 : Nat → Option Nat) (hp0 : List DObj) (w0 : World) (Q : DExit → DS → Prop) (s : DS) (a : Act) (w : World),(ro = none ∨ zii c = true) → zep P N c dc = true → dwp C hp0.length dc Q s → Cur K N F0 σ0 hp0 w0 s a w → Code.wpIn (Fw ro) n P c (QQ K N F0 σ0 hp0 w0 Q) a w
 | .ops draw' dl,cc,ro,n,K,F0,σ0,hp0,w0,Q,s,a,w,hp,hm,h,hc => by
   cases cc with
   | region rid ops draw =>
     simp only [zep,Bool.and_eq_true] at hm
     obtain ⟨_,hm⟩ := hm
     simp only [zii] at hp
     cases draw with
     | false => exact wpIn_region_list (zvb hC (fun s' a' w' hc' h' => ⟨s',hc',h'⟩) (hp.imp id fun h => by rwa [← Array.all_toList] at h) (by simpa using hm) hc h)
     | true =>
       refine zi6 hC hp (seps := []) (by simpa using hm) (fun s' a' w' hc' h' => ⟨s',hc',h'⟩) hc (fun p hp => by simp at hp) ?_
       rw [zuc]
       exact h
   | _ => exact (Bool.false_ne_true hm).elim
 | .opsP l,cc,ro,n,K,F0,σ0,hp0,w0,Q,s,a,w,hp,hm,h,hc => by
   cases cc with
   | region rid ops draw =>
     simp only [zep,Bool.and_eq_true] at hm
     obtain ⟨rfl,hm⟩ := hm
     exact zi6 hC hp hm (fun s' a' w' hc' h' => ⟨s',hc',h'⟩) hc (fun p hp => by simp at hp) h
   | _ => exact (Bool.false_ne_true hm).elim
 | .opsS seps l,cc,ro,n,K,F0,σ0,hp0,w0,Q,s,a,w,hp,hm,h,hc => by
   cases cc with
   | region rid ops draw =>
     simp only [zep,Bool.and_eq_true] at hm
     obtain ⟨rfl,hm⟩ := hm
     exact zi6 hC hp hm (fun s' a' w' hc' h' => ⟨s',hc',h'⟩) hc (yai h.1) h.2
   | _ => exact (Bool.false_ne_true hm).elim
 | .seq x' y',cc,ro,n,K,F0,σ0,hp0,w0,Q,s,a,w,hp,hm,h,hc => by
   cases cc with
   | seq x y =>
     simp only [zep,Bool.and_eq_true] at hm
     simp only [zii,Bool.and_eq_true] at hp
     refine wpIn_seq (wpIn_mono (zah hC x' x ro n K F0 σ0 hp0 w0 _ s a w (hp.imp id (·.1)) hm.1 h hc) fun e a' w' hq => ?_)
     cases e with
     | normal => obtain ⟨s',hc',h'⟩ := hq; exact zah hC y' y ro n K F0 σ0 hp0 w0 Q s' a' w' (hp.imp id (·.2)) hm.2 h' hc'
     | exit id => obtain ⟨s',hc',h'⟩ := hq; exact ⟨s',hc',h'⟩
     | ret => obtain ⟨s',hc',h'⟩ := hq; exact ⟨s',hc',h'⟩
     | goto l => exact hq.elim
     | panic c => exact hq.elim
     | outgrown => exact hq.elim
   | _ => exact (Bool.false_ne_true hm).elim
 | .cond c' x' y',cc,ro,n,K,F0,σ0,hp0,w0,Q,s,a,w,hp,hm,h,hc => by
   cases cc with
   | cond c x y =>
     simp only [zep,Bool.and_eq_true] at hm
     simp only [zii,Bool.and_eq_true] at hp
     have hcur := hc
     obtain ⟨K',F,σ,hKK,hs,hf,hN,hdef,hmv,hhm⟩ := hc
     have hv := zl hf hm.1.1
     simp only [dwp] at h
     cases he : c'.ev s.fr with
     | bool t =>
       rw [he] at hv
       simp only [he] at h
       refine wpIn_cond_split hv.bool_inv (fun ht => zah hC x' x ro n K F0 σ0 hp0 w0 Q s a w (hp.imp id (·.1)) hm.1.2 (h.1 ht) hcur) (fun ht => zah hC y' y ro n K F0 σ0 hp0 w0 Q s a w (hp.imp id (·.2)) hm.2 (h.2 ht) hcur)
     | anyb =>
       rw [he] at hv
       simp only [he] at h
       obtain ⟨b,hb⟩ := hv.anyb_inv
       exact wpIn_cond_split hb (fun _ => zah hC x' x ro n K F0 σ0 hp0 w0 Q s a w (hp.imp id (·.1)) hm.1.2 h.1 hcur) (fun _ => zah hC y' y ro n K F0 σ0 hp0 w0 Q s a w (hp.imp id (·.2)) hm.2 h.2 hcur)
     | _ => simp only [he] at h
   | _ => exact (Bool.false_ne_true hm).elim
 | .block id' c',cc,ro,n,K,F0,σ0,hp0,w0,Q,s,a,w,hp,hm,h,hc => by
   cases cc with
   | block id c =>
     simp only [zep,Bool.and_eq_true,beq_iff_eq] at hm
     simp only [zii] at hp
     obtain ⟨rfl,hm⟩ := hm
     refine wpIn_block (wpIn_mono (zah hC c' c ro n K F0 σ0 hp0 w0 _ s a w hp hm h hc) fun e a' w' hq => ?_)
     cases e with
     | normal => obtain ⟨s',hc',h'⟩ := hq; exact ⟨s',hc',h'⟩
     | exit k =>
       obtain ⟨s',hc',h'⟩ := hq
       simp only [DExit.inBlock] at h'
       simp only [Exit.inBlock]
       split at h'
       · rename_i e; rw [if_pos e]; exact ⟨s',hc',h'⟩
       · rename_i e; rw [if_neg e]; exact ⟨s',hc',h'⟩
     | ret => obtain ⟨s',hc',h'⟩ := hq; exact ⟨s',hc',h'⟩
     | goto l => exact hq.elim
     | panic c => exact hq.elim
     | outgrown => exact hq.elim
   | _ => exact (Bool.false_ne_true hm).elim
 | .loop live m c',cc,ro,n,K,F0,σ0,hp0,w0,Q,s,a,w,hp,hm,h,hc => by
   cases cc with
   | loop c =>
     simp only [zep] at hm
     simp only [zii] at hp
     simp only [dwp] at h
     obtain ⟨hmm,I,μ,h0,hr⟩ := h
     refine wpIn_loop_ghost (fun i a w => ∃ s',Cur K N F0 σ0 hp0 w0 s' a w ∧ I s' ∧ μ s' = i) (μ (s.cut live m)) ⟨_,hc.cut live m hmm,h0,rfl⟩ fun i a w hI => ?_
     obtain ⟨s',hc',hI',rfl⟩ := hI
     refine wpIn_mono (zah hC c' c ro n K F0 σ0 hp0 w0 _ s' a w hp hm (hr s' hI') hc') fun e a' w' hq => ?_
     cases e with
     | normal =>
       obtain ⟨s'',hc'',h''⟩ := hq
       exact ⟨_,h''.2,s''.cut live m,hc''.cut live m hmm,h''.1,rfl⟩
     | exit id => obtain ⟨s',hc',h'⟩ := hq; exact ⟨s',hc',h'⟩
     | ret => obtain ⟨s',hc',h'⟩ := hq; exact ⟨s',hc',h'⟩
     | goto l => exact hq.elim
     | panic c => exact hq.elim
     | outgrown => exact hq.elim
   | _ => exact (Bool.false_ne_true hm).elim
 | .scope c',cc,ro,n,K,F0,σ0,hp0,w0,Q,s,a,w,hp,hm,h,hc => by
   cases cc with
   | scope c =>
     refine zmy (wpIn_mono (zah hC c' c ro n K F0 σ0 hp0 w0 Q s a w hp hm h hc) fun e a' w' hq => ?_)
     cases e with
     | normal => exact hq
     | exit id => exact hq
     | ret => exact hq
     | goto l => exact hq.elim
     | panic c => exact hq.elim
     | outgrown => exact hq.elim
   | _ => exact (Bool.false_ne_true hm).elim
 | .exit id',cc,ro,n,K,F0,σ0,hp0,w0,Q,s,a,w,hp,hm,h,hc => by
   cases cc with
   | exit id =>
     simp only [zep,beq_iff_eq] at hm
     subst hm
     exact wpIn_exit ⟨s,hc,h⟩
   | _ => exact (Bool.false_ne_true hm).elim
 | .ret,cc,ro,n,K,F0,σ0,hp0,w0,Q,s,a,w,hp,hm,h,hc => by
   cases cc with
   | ret =>
     exact wpIn_ret ⟨s,hc,h⟩
   | _ => exact (Bool.false_ne_true hm).elim
 | .skip,cc,ro,n,K,F0,σ0,hp0,w0,Q,s,a,w,hp,hm,h,hc => by
   cases cc with
   | skip => exact wpIn_skip ⟨s,hc,h⟩
   | label l => exact wpIn_label ⟨s,hc,h⟩
   | _ => exact (Bool.false_ne_true hm).elim
 | .gown t off z c',c,ro,n,K,F0,σ0,hp0,w0,Q,s,a,w,hp,hm,h,hc => by
   have hm' : zep P N c c' = true := by cases c <;> simpa only [zep] using hm
   simp only [dwp] at h
   split at h
   · rename_i hh L i j e1
     split at h
     · rename_i o e2
       rcases h with ⟨⟨h1,h2,h3,h4⟩,h5⟩ | h
       · exact zah hC c' c ro n K F0 σ0 hp0 w0 Q _ a w hp hm' h5 (hc.gown z e2 h1 (by omega) h4)
       · exact zah hC c' c ro n K F0 σ0 hp0 w0 Q _ a w hp hm' h hc
     · exact h.elim
   · exact h.elim
 | .cut live m c',c,ro,n,K,F0,σ0,hp0,w0,Q,s,a,w,hp,hm,h,hc => by
   have hm' : zep P N c c' = true := by cases c <;> simpa only [zep] using hm
   exact zah hC c' c ro n K F0 σ0 hp0 w0 Q (s.cut live m) a w hp hm' h.2 (hc.cut live m h.1)
 | .rsv c',c,ro,n,K,F0,σ0,hp0,w0,Q,s,a,w,hp,hm,h,hc => by
   have hm' : zep P N c c' = true := by cases c <;> simpa only [zep] using hm
   exact zah hC c' c ro n K F0 σ0 hp0 w0 Q _ a w hp hm' h hc.rsv
 | .bad,_,ro,n,K,F0,σ0,hp0,w0,Q,s,a,w,_,_,h,hc => h.elim
 | .rangeF live m g ps asg' c',cc,ro,n,K,F0,σ0,hp0,w0,Q,s,a,w,hp,hm,h,hc => by
   cases cc <;> exact (Bool.false_ne_true hm).elim
end
end Go.Nk
