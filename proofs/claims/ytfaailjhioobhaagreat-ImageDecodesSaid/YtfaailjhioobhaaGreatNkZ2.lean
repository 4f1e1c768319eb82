/- What a function leaves behind that nobody names is forgotten at its end. Structs whose one field is a slice of their own: two objects. -/
import Derived.Test.YtfaailjhioobhaaGreatNkZ1
set_option linter.all false
namespace Go.Nk
open Go.RowKit
def EndC (res : List DR) (r : DV) (hp hp' : List DObj) : DExit → DS → Prop
 | .exit _,_ => False
 | _,s => (retV s res).1 ∧ (retV s res).2 = r ∧ r.inB hp.length = true ∧ hp'.length = hp.length ∧ (∃ t,s.hp = hp' ++ t) ∧ ∀ (i : Nat) (o : DObj),hp'[i]? = some o → hp[i]? = some o ∨ o.cut hp.length = o
section
variable {P : Program} {K F0 : Nat → Prop} {σ0 : Nat → Option Nat} {hp0 : List DObj} {N : Nat} {w0 : World} {C : Orc}
theorem VRep.inB {F : Nat → Prop} {σ : Nat → Option Nat} {hp : List DObj} {w : World} {d : DV} {v : Value} (h : VRep F σ hp w d v) : d.inB hp.length = true := by
 have key : ∀ cs : List DV,(∀ (j : Nat) (d : DV),cs[j]? = some d → d.inB hp.length = true) → DV.inBL hp.length cs = true := by
   intro cs
   induction cs with
   | nil => intro _; rfl
   | cons c r ih => intro h; simp only [DV.inBL,Bool.and_eq_true]; exact ⟨h 0 c rfl,ih fun j d hd => h (j + 1) d (by simpa using hd)⟩
 induction h with
 | undef v => rfl
 | imm h =>
   induction h with
   | clo f cs vs hl vv hv hr ih => exact key _ ih
   | _ => rfl
 | own h L off len v h1 hh ho => simpa [DV.inB] using hh
 | ptr h L i j v h1 hh ho => simpa [DV.inB] using hh
 | agg cs vs hl vv hv hr ih => exact key _ ih
 | tup cs vs hl vv hv hr ih => exact key _ ih
 | clo f cs vs hl vv hv hr ih => exact key _ ih
 | meth f cs vs hl vv hv hr ih => exact key _ ih
theorem cut_same [Inhabited Env] {hp : List DObj} {F : Nat → Prop} {σ : Nat → Option Nat} {w : World} (hs : SimH K F σ hp w) {i : Nat} {o : DObj} (h : hp[i]? = some o) : o.cut hp.length = o := by
 unfold DObj.cut
 split
 · rename_i hk
   have ho := hs.obj i o h
   unfold ORep at ho
   rw [hk] at ho
   obtain ⟨g,_,_,_,c,ty,_,_,_,hb⟩ := ho
   have : o.es.map (fun r => r.map (DV.cut hp.length)) = o.es := by
     refine List.ext_getElem? fun i => ?_
     rw [List.getElem?_map]
     cases he : o.es[i]? with
     | none => rfl
     | some e =>
       simp only [Option.map_some,Option.some.injEq]
       refine List.ext_getElem? fun j => ?_
       rw [List.getElem?_map]
       cases hd : e[j]? with
       | none => rfl
       | some d =>
         obtain ⟨v,_,hv⟩ := hb i j d (by unfold zr; rw [he]; exact hd)
         simp only [Option.map_some,DV.cut,hv.inB,if_true]
   rw [this]
 · rfl
theorem z7d [Inhabited Env] (hC : C.ok P) {f : FuncId} {d : DFun} {dargs : List DV} {hp hp' : List DObj} {r : DV} (hm : mFun P f dargs.length d = true)
   (h : dwp C hp.length d.code (EndC d.res r hp hp') ⟨za 0 dargs,hp⟩) : zeb P f = true ∧ z0u P f dargs hp r hp' := by
 obtain ⟨hok,fn,c,hf,hb,hn,hc,hr⟩ := zq8 hm
 refine ⟨hok,fun K F σ w args hs ha => ?_⟩
 refine zj9 hf hb (zah hC d.code c none 0 K F σ hp w _ _ _ w (.inl rfl) hc h (zsy hs ha hn)) (fun s a w' hcur hq => ?_) (fun id s h => h)
 have hq' : (retV s d.res).1 ∧ (retV s d.res).2 = r ∧ r.inB hp.length = true ∧ hp'.length = hp.length ∧ (∃ t,s.hp = hp' ++ t) ∧ ∀ (i : Nat) (o : DObj),hp'[i]? = some o → hp[i]? = some o ∨ o.cut hp.length = o := hq.elim id id
 obtain ⟨h1,rfl,h2,h3,⟨t,h4⟩,h5⟩ := hq'
 have hcut := hcur.cut [] (some hp.length) (Nat.le_refl _)
 obtain ⟨K',F',σ',hKK,hs',hf',hN,hdef,hmv,hhm⟩ := hcur
 obtain ⟨v,hv,hrep⟩ := z10 hs' hf' hr h1
 have e : (s.cut [] (some hp.length)).hp = hp' := by
   simp only [DS.cut,h4]
   rw [List.take_append_of_le_length (by omega),List.take_of_length_le (by omega)]
   refine List.ext_getElem? fun i => ?_
   rw [List.getElem?_map]
   cases hi : hp'[i]? with
   | none => rfl
   | some o =>
     simp only [Option.map_some,Option.some.injEq]
     rcases h5 i o hi with h | h
     · exact cut_same hs h
     · exact h
 refine ⟨v,hv,v,rfl,F',σ',?_,hmv,?_,?_⟩
 · have := (hs'.weak hKK).cut hp.length
   simp only [DS.cut] at e
   rwa [e] at this
 · have hl := hhm.len
   rw [← e]
   refine ⟨hhm.mono,hhm.keepF,by simp [DS.cut]; omega,fun h o ho => ?_⟩
   obtain ⟨o',h1,h2,h3⟩ := hhm.ob h o ho
   have hlt := zae ho
   refine ⟨o'.cut hp.length,?_,?_,?_⟩
   · simp only [DS.cut]
     rw [List.getElem?_map,List.getElem?_take,if_pos (by omega),h1]; rfl
   · rw [(zbo hp.length o').2.2]; exact h2
   · rw [(zbo hp.length o').2.2,(zbo hp.length o').1,(zbo hp.length o').2.1]; exact h3
 · rw [← e]
   exact hrep.cut h2
end
structure Duo (ρ : Type) where
 o : Nat → ρ → DObj
 c : ρ → DObj
section
variable {ρ α : Type} {T : Duo ρ} {hp t : List DObj} {n m : Nat} {v v' : ρ}
def Duo.is (T : Duo ρ) (hp : List DObj) (n m : Nat) (v : ρ) : Prop := hp[n]? = some (T.o m v) ∧ hp[m]? = some (T.c v) ∧ n ≠ m
def Duo.put (T : Duo ρ) (hp : List DObj) (n m : Nat) (v : ρ) : List DObj := (hp.set m (T.c v)).set n (T.o m v)
structure Duo.ok (T : Duo ρ) : Prop where
 inj1 : ∀ m v m' v',T.o m v = T.o m' v' → m = m'
 inj2 : ∀ m v v',T.o m v = T.o m v' → T.c v = T.c v' → v = v'
 cut1 : ∀ m v k,m < k → (T.o m v).cut k = T.o m v
 cut2 : ∀ v k,(T.c v).cut k = T.c v
theorem set_at {hp : List DObj} {n : Nat} {o : DObj} (h : hp[n]? = some o) : hp.set n o = hp := by
 refine List.ext_getElem? fun i => ?_
 rw [List.getElem?_set]
 split
 · rename_i e; subst e; rw [h]; simp [zae h]
 · rfl
end
end Go.Nk
