/- Regions, codes, functions: what the data level shows of a code holds of the code. -/
import Derived.Test.YtjgefhgkinocmaaGreatNkO
import Derived.Deep.LoopGhost
import Derived.Scope
set_option linter.all false
namespace Go.Nk
open Go.RowKit
def zfo (K0 K F : Nat -> Prop) (w : World) : List Deferred -> Prop
 | [] => True
 | d :: ds => (∃ D,d = { target := .collected D,args := #[] } /\ K D /\ ¬ F D /\ w.heap[D]? = some (.deferred (some [])) /\ ¬ K0 D /\ d ∉ ds) /\ zfo K0 K F w ds
def CurX [Inhabited Env] (K : Nat -> Prop) (N : Nat) (F0 : Nat -> Prop) (σ0 : Nat -> Option Nat) (hp0 : List DObj) (w0 : World) (K' F : Nat -> Prop) (σ : Nat -> Option Nat) (s : DS) (a : Act) (w : World) : Prop :=
 (∀ b,K b -> K' b) /\ SimH K' F σ s.hp w /\ FRep F σ s.hp w s.fr a.tmps /\ a.tmps.size = N /\ zfo K K' F w a.defers /\ Moves K F0 w0 F w /\ HM F0 σ0 hp0 w0 F σ s.hp w
def Cur [Inhabited Env] (K : Nat -> Prop) (N : Nat) (F0 : Nat -> Prop) (σ0 : Nat -> Option Nat) (hp0 : List DObj) (w0 : World) (s : DS) (a : Act) (w : World) : Prop :=
 ∃ K' F σ,CurX K N F0 σ0 hp0 w0 K' F σ s a w
theorem zfo.move {K0 K F F' : Nat -> Prop} {w w' : World} (hm : Moves K F w F' w') : ∀ {ds : List Deferred},zfo K0 K F w ds -> zfo K0 K F' w' ds
 | [],_ => trivial
 | d :: ds,h => by
   obtain ⟨⟨D,h1,h2,h3,h4,h5⟩,h6⟩ := h
   exact ⟨⟨D,h1,h2,fun hF => (hm.new D hF).elim h3 (fun h => h h2),(hm.keepK D h2).trans h4,h5⟩,h6.move hm⟩
theorem Moves.weak {K K' F F' : Nat -> Prop} {w w' : World} (hK : ∀ b,K b -> K' b) (h : Moves K' F w F' w') : Moves K F w F' w' :=
 ⟨h.os,h.tape,h.output,h.size,fun b hb => h.keepK b (hK b hb),h.keepF,h.mono,fun b hb => (h.new b hb).imp id fun h hk => h (hK b hk)⟩
theorem SimH.weak [Inhabited Env] {K K' F : Nat -> Prop} {σ : Nat -> Option Nat} {hp : List DObj} {w : World} (hK : ∀ b,K b -> K' b) (h : SimH K' F σ hp w) : SimH K F σ hp w := by
 refine ⟨fun i o ho => ?_,h.inj,h.fb,fun b hb => h.kb b (hK b hb),h.tab⟩
 have old := h.obj i o ho
 unfold ORep at old |-
 split
 . trivial
 . rename_i hkk
   rw [hkk] at old; dsimp only at old
   exact old.imp id fun ⟨g,h1,h2,h3,h4⟩ => ⟨g,h1,h2,fun hk => h3 (hK g hk),h4⟩
 . rename_i hkk
   rw [hkk] at old; dsimp only at old
   exact old
 . rename_i hkk
   rw [hkk] at old; dsimp only at old
   obtain ⟨g,h1,h2,h3,h4⟩ := old
   exact ⟨g,h1,h2,fun hk => h3 (hK g hk),h4⟩
 . rename_i hkk
   rw [hkk] at old; dsimp only at old
   obtain ⟨h0,g,h1,h2,h3,h4⟩ := old
   exact ⟨h0,g,h1,h2,fun hk => h3 (hK g hk),h4⟩
theorem z6o {es : List (List DV)} {i j : Nat} {d : DV} (h : z1 es i j = some d) : ∃ e,es[i]? = some e /\ e[j]? = some d := by
 unfold z1 at h
 cases he : es[i]? with
 | none => simp [he] at h
 | some e => exact ⟨e,rfl,by simpa [he] using h⟩
section
variable {P : Program} {K F0 : Nat -> Prop} {σ0 : Nat -> Option Nat} {hp0 : List DObj} {N : Nat} {w0 : World} {C : Orc}
theorem FRep.put {F F' : Nat -> Prop} {σ σ' : Nat -> Option Nat} {hp hp' : List DObj} {w w' : World} {fr : List (Nat × DV)} {a : Act} (hf : FRep F σ hp w fr a.tmps) (hm : HM F σ hp w F' σ' hp' w')
   {dst : Option Nat} {d : DV} {v : Value} (hd : ∀ t,dst = some t -> t < a.tmps.size) (hv : VRep F' σ' hp' w' d v) : FRep F' σ' hp' w' (DS.put ⟨fr,hp⟩ dst ⟨True,d,hp'⟩).fr (a.put dst v).tmps := by
 intro n
 cases dst with
 | none => exact (hf n).mono hm
 | some t =>
   simp only [DS.put,zc,Act.put]
   by_cases hn : n = t
   . subst hn
     rw [if_pos rfl]
     have := hd n rfl
     simp [Array.getD,this]
     exact hv
   . rw [if_neg hn]
     have e : (a.tmps.setIfInBounds t v).getD n undef = a.tmps.getD n undef := by
       simp [Array.getElem?_setIfInBounds_ne (Ne.symm hn)]
     rw [e]
     exact (hf n).mono hm
theorem Cur.put [Inhabited Env] {s : DS} {a : Act} {w w' : World} {K' F F' : Nat -> Prop} {σ σ' : Nat -> Option Nat} {hp' : List DObj} {dst : Option Nat} {d : DV} {v : Value} (hK : ∀ b,K b -> K' b) (hf : FRep F σ s.hp w s.fr a.tmps) (hN : a.tmps.size = N) (hdef : zfo K K' F w a.defers) (hmv : Moves K F0 w0 F w) (hhm : HM F0 σ0 hp0 w0 F σ s.hp w)
   (hd : ∀ t,dst = some t -> t < N) (h1 : SimH K' F' σ' hp' w') (h2 : Moves K' F w F' w') (h3 : HM F σ s.hp w F' σ' hp' w') (h4 : VRep F' σ' hp' w' d v) : Cur K N F0 σ0 hp0 w0 (s.put dst ⟨True,d,hp'⟩) (a.put dst v) w' := by
 refine ⟨K',F',σ',hK,?_,?_,?_,?_,hmv.trans (h2.weak hK),?_⟩
 . cases dst <;> exact h1
 . have := hf.put h3 (dst := dst) (fun t ht => by rw [hN]; exact hd t ht) h4
   cases dst <;> exact this
 . cases dst <;> simp [Act.put,hN]
 . cases dst <;> exact hdef.move h2
 . cases dst <;> exact hhm.trans h3
theorem yc7 (s : DS) (dst : Option Nat) (r : Res) : s.put dst r = s.put dst ⟨True,r.val,r.hp⟩ := by cases dst <;> rfl
theorem zyc {F : Nat -> Prop} {σ : Nat -> Option Nat} {hp : List DObj} {w : World} {fr : List (Nat × DV)} {a : Act} {ops : Array Oper} {j t : Nat} (hf : FRep F σ hp w fr a.tmps) (ht : (ops[j]?).bind (·.dst) = some t) :
   (∀ b,get t fr = .bool b -> yielded ops a.tmps j = some b) /\ (get t fr = .tup [] -> yielded ops a.tmps j = none) := by
 have hv := hf t
 have hget : a.tmps.getD t undef = (a.tmps[t]?).getD undef := by simp
 refine ⟨fun b hb => ?_,fun hb => ?_⟩
 . rw [hb] at hv
   have := hv.bool_inv
   unfold yielded
   rw [ht]
   rw [hget] at this
   cases hh : a.tmps[t]? with
   | none => rw [hh] at this; simp [undef] at this
   | some v => rw [hh] at this; simp at this; subst this; simp [hh]
 . rw [hb] at hv
   obtain ⟨vs,e,_⟩ := hv.tup_inv
   unfold yielded
   rw [ht]
   rw [hget] at e
   cases hh : a.tmps[t]? with
   | none => simp [hh]
   | some v => rw [hh] at e; simp at e; subst e; simp [hh]
theorem zzb [Inhabited Env] (hC : C.ok P) {ops : Array Oper} {o : Oper} {d : DOper} (hm : z05 P N ops o d = true) {s : DS} {a : Act} {w : World} (hcur : Cur K N F0 σ0 hp0 w0 s a w) {Kd : DS -> Prop} (h : zit C d s Kd)
   {Kn : Act -> World -> Prop} {Q : Exit -> Act -> World -> Prop} (hK : ∀ s' a' w',Cur K N F0 σ0 hp0 w0 s' a' w' -> Kd s' -> Kn a' w') :
   if Region.wanted o (yielded ops a.tmps) = true then o.wp P a w Kn Q else Kn (a.put o.dst undef) w := by
 simp only [z05,Bool.and_eq_true,decide_eq_true_eq] at hm
 obtain ⟨⟨⟨hop,hdst⟩,hlt⟩,hg⟩ := hm
 have hlt' : ∀ t,d.dst = some t -> t < N := fun t ht => by rw [ht] at hlt; simpa using hlt
 obtain ⟨K',F,σ,hKK,hs,hf,hN,hdef,hmv,hhm⟩ := hcur
 have run : (zb C d.op s).pre -> (Kd (s.put d.dst (zb C d.op s))) -> o.wp P a w Kn Q := by
   intro hp hk
   have := z28 (P := P) (K := K') hC hs hf (o := o) rfl hop hp
   refine this Kn Q fun v w' hgv => ?_
   obtain ⟨F',σ',h1,h2,h3,h4⟩ := hgv
   rw [hdst]
   refine hK _ _ _ ?_ hk
   rw [yc7]
   exact Cur.put hKK hf hN hdef hmv hhm hlt' h1 h2 h3 h4
 have skip : Kd (s.put d.dst ⟨True,.tup [],s.hp⟩) -> Kn (a.put o.dst undef) w := by
   intro hk
   rw [hdst]
   exact hK _ _ _ (Cur.put hKK hf hN hdef hmv hhm hlt' hs (.refl _ _ _) (.refl _ _ _ _) (.tup [] #[] rfl (fun _ => undef) (fun j d hd => by simp at hd) (fun j d hd => by simp at hd))) hk
 unfold zit at h
 cases hgd : d.guard with
 | none =>
   rw [hgd] at h hg
   have ho : o.guard = none := by
     cases hh : o.guard with
     | none => rfl
     | some x => rw [hh] at hg; simp [zu5] at hg
   rw [if_pos (by simp [Region.wanted,ho])]
   exact run h.1 h.2
 | some gb =>
   obtain ⟨t,b⟩ := gb
   rw [hgd] at h hg
   cases hh : o.guard with
   | none => rw [hh] at hg; simp [zu5] at hg
   | some x =>
     obtain ⟨j,b'⟩ := x
     rw [hh] at hg
     simp only [zu5,Bool.and_eq_true,decide_eq_true_eq,beq_iff_eq] at hg
     obtain ⟨ht,rfl⟩ := hg
     obtain ⟨y1,y2⟩ := zyc hf ht
     dsimp only at h
     cases hgt : get t s.fr with
     | bool c =>
       simp only [hgt] at h
       have hy := y1 c hgt
       simp only [Region.wanted,hh,hy]
       by_cases hcb : c = b'
       . subst hcb
         simp only [if_true] at h
         rw [if_pos (by simp)]
         exact run h.1 h.2
       . rw [if_neg hcb] at h
         rw [if_neg (by simpa using hcb)]
         exact skip h
     | tup vs =>
       cases vs with
       | nil =>
         simp only [hgt] at h
         have hy := y2 hgt
         simp only [Region.wanted,hh,hy]
         rw [if_neg (by simp)]
         exact skip h
       | cons => simp only [hgt] at h
     | _ => simp only [hgt] at h
theorem zop {m : Nat} : ∀ {cs : List DV},DV.inBL m cs = true -> ∀ (j : Nat) (d : DV),cs[j]? = some d -> d.inB m = true
 | [],_,j,d,h => by simp at h
 | c :: cs,h,j,d,hd => by
   simp only [DV.inBL,Bool.and_eq_true] at h
   cases j with
   | zero => simp at hd; subst hd; exact h.1
   | succ j => exact zop h.2 j d (by simpa using hd)
theorem zm0 {hp : List DObj} {m h : Nat} {o : DObj} (ho : ((hp.take m).map (DObj.cut m))[h]? = some o) : h < m /\ ∃ o0,hp[h]? = some o0 /\ o = o0.cut m := by
 rw [List.getElem?_map,List.getElem?_take] at ho
 split at ho
 . rename_i hl
   cases hh : hp[h]? with
   | none => simp [hh] at ho
   | some o0 => simp [hh] at ho; exact ⟨hl,o0,rfl,ho.symm⟩
 . simp at ho
theorem zbf (m : Nat) (o : DObj) : (o.cut m).k = o.k /\ (o.cut m).z = o.z /\ (o.cut m).es.length = o.es.length := by
 unfold DObj.cut; split <;> simp
theorem VRep.cut {F : Nat -> Prop} {σ : Nat -> Option Nat} {hp : List DObj} {w : World} {m : Nat} {d : DV} {v : Value} (h : VRep F σ hp w d v) : d.inB m = true -> VRep F σ ((hp.take m).map (DObj.cut m)) w d v := by
 induction h with
 | undef v => intro _; exact .undef v
 | imm h => intro _; exact .imm h
 | own h L off len v h1 hh ho =>
   intro hi
   simp only [DV.inB,decide_eq_true_eq] at hi
   refine .own h L off len v h1 (by simp; omega) fun o hob => ?_
   obtain ⟨_,o0,e1,rfl⟩ := zm0 hob
   obtain ⟨c1,c2,c3⟩ := zbf m o0
   rw [c1,c2,c3]
   exact ho o0 e1
 | ptr h L i j v h1 hh ho =>
   intro hi
   simp only [DV.inB,decide_eq_true_eq] at hi
   refine .ptr h L i j v h1 (by simp; omega) fun o hob => ?_
   obtain ⟨_,o0,e1,rfl⟩ := zm0 hob
   obtain ⟨c1,c2,c3⟩ := zbf m o0
   rw [c1,c2,c3]
   exact ho o0 e1
 | mp h v h1 hh ho =>
   intro hi
   simp only [DV.inB,decide_eq_true_eq] at hi
   refine .mp h v h1 (by simp; omega) fun o hob => ?_
   obtain ⟨_,o0,e1,rfl⟩ := zm0 hob
   obtain ⟨c1,c2,c3⟩ := zbf m o0
   rw [c1,c3]
   exact ho o0 e1
 | agg cs vs hl vv hv hr ih => intro hi; exact .agg cs vs hl vv hv fun j d hd => ih j d hd (zop hi j d hd)
 | tup cs vs hl vv hv hr ih => intro hi; exact .tup cs vs hl vv hv fun j d hd => ih j d hd (zop hi j d hd)
 | clo f cs vs hl vv hv hr ih => intro hi; exact .clo f cs vs hl vv hv fun j d hd => ih j d hd (zop hi j d hd)
 | meth f cs vs hl vv hv hr ih => intro hi; exact .meth f cs vs hl vv hv fun j d hd => ih j d hd (zop hi j d hd)
theorem VRep.cutV {F : Nat -> Prop} {σ : Nat -> Option Nat} {hp : List DObj} {w : World} {d : DV} {v : Value} (h : VRep F σ hp w d v) (m : Nat) : VRep F σ ((hp.take m).map (DObj.cut m)) w (d.cut m) v := by
 unfold DV.cut
 split
 . rename_i hi; exact h.cut hi
 . exact .undef v
theorem SimH.cut [Inhabited Env] {F : Nat -> Prop} {σ : Nat -> Option Nat} {hp : List DObj} {w : World} (hs : SimH K F σ hp w) (m : Nat) : SimH K F σ ((hp.take m).map (DObj.cut m)) w := by
 refine ⟨fun h o ho => ?_,fun h h' o o' g e1 m1 e2 m2 s1 s2 => ?_,hs.fb,hs.kb,hs.tab⟩
 . obtain ⟨hl,o0,e1,rfl⟩ := zm0 ho
   have old := hs.obj h o0 e1
   obtain ⟨c1,c2,c3⟩ := zbf m o0
   unfold ORep at old |-
   rw [c1,c2]
   by_cases hk : o0.k = .loc
   . rw [hk] at old |-; dsimp only at old |-
     obtain ⟨g,hg,nF,nK,c,ty,hh,hcz,hzz,hcc⟩ := old
     have hes : (o0.cut m).es = o0.es.map fun r => r.map (DV.cut m) := by simp [DObj.cut,hk]
     refine ⟨g,hg,nF,nK,c,ty,hh,by rw [c3]; exact hcz,fun i e he => ?_,fun i j d hd => ?_⟩
     . rw [hes,List.getElem?_map] at he
       cases hi : o0.es[i]? with
       | none => simp [hi] at he
       | some r => simp [hi] at he; subst he; simpa using hzz i r hi
     . rw [hes] at hd
       unfold z1 at hd
       rw [List.getElem?_map] at hd
       cases hi : o0.es[i]? with
       | none => simp [hi] at hd
       | some r =>
         simp [hi] at hd
         obtain ⟨d0,h0,rfl⟩ := hd
         obtain ⟨u,hu,hr⟩ := hcc i j d0 (by simp [z1,hi,h0])
         exact ⟨u,hu,hr.cutV m⟩
   . have hes : (o0.cut m).es = o0.es := by simp [DObj.cut,hk]
     rw [hes]
     split at old <;> first | trivial | exact old | (rename_i hkk; exact absurd hkk hk)
 . obtain ⟨_,o0,f1,rfl⟩ := zm0 e1
   obtain ⟨_,o0',f2,rfl⟩ := zm0 e2
   rw [(zbf m o0).1] at m1
   rw [(zbf m o0').1] at m2
   exact hs.inj _ _ _ _ _ f1 m1 f2 m2 s1 s2
theorem z6l (f : Nat -> DV) : ∀ (l : List Nat) (n : Nat),get n (l.map fun t => (t,f t)) = if n ∈ l then f n else .undef
 | [],n => by simp
 | t :: l,n => by
   simp only [List.map_cons,zc,z6l f l n,List.mem_cons]
   by_cases h : n = t
   . subst h; simp
   . simp [h]
theorem HM.cut {F : Nat -> Prop} {σ : Nat -> Option Nat} {hp : List DObj} {w : World} (hhm : HM F0 σ0 hp0 w0 F σ hp w) {m : Nat} (hm : hp0.length <= m) : HM F0 σ0 hp0 w0 F σ ((hp.take m).map (DObj.cut m)) w := by
 have hl := hhm.len
 refine ⟨hhm.mono,hhm.keepF,by simp; omega,fun h o ho => ?_⟩
 obtain ⟨o',h1,h2,h3⟩ := hhm.ob h o ho
 have hlt := zay ho
 refine ⟨o'.cut m,?_,?_,?_⟩
 . rw [List.getElem?_map,List.getElem?_take,if_pos (by omega),h1]; rfl
 . rw [(zbf m o').2.2]; exact h2
 . rw [(zbf m o').2.2,(zbf m o').1,(zbf m o').2.1]; exact h3
theorem CurX.cut [Inhabited Env] {K' F : Nat -> Prop} {σ : Nat -> Option Nat} {s : DS} {a : Act} {w : World} (h : CurX K N F0 σ0 hp0 w0 K' F σ s a w) (live : List Nat) (m : Option Nat) (hm : match m with | some k => hp0.length <= k | none => True) : CurX K N F0 σ0 hp0 w0 K' F σ (s.cut live m) a w := by
 obtain ⟨hKK,hs,hf,hN,hdef,hmv,hhm⟩ := h
 cases m with
 | none =>
   refine ⟨hKK,hs,fun n => ?_,hN,hdef,hmv,hhm⟩
   simp only [DS.cut]
   rw [z6l]
   split
   . exact hf n
   . exact .undef _
 | some m =>
   refine ⟨hKK,hs.cut m,fun n => ?_,hN,hdef,hmv,hhm.cut hm⟩
   simp only [DS.cut]
   rw [z6l]
   split
   . exact (hf n).cutV m
   . exact .undef _
theorem Cur.cut [Inhabited Env] {s : DS} {a : Act} {w : World} (h : Cur K N F0 σ0 hp0 w0 s a w) (live : List Nat) (m : Option Nat) (hm : match m with | some k => hp0.length <= k | none => True) : Cur K N F0 σ0 hp0 w0 (s.cut live m) a w :=
 let ⟨K',F,σ,hx⟩ := h; ⟨K',F,σ,hx.cut live m hm⟩
theorem Cur.rsv [Inhabited Env] {s : DS} {a : Act} {w : World} (hcur : Cur K N F0 σ0 hp0 w0 s a w) : Cur K N F0 σ0 hp0 w0 ⟨s.fr,s.hp ++ [⟨.dead,0,[]⟩]⟩ a w := by
 obtain ⟨K',F,σ,hKK,hs,hf,hN,hdef,hmv,hhm⟩ := hcur
 have c1 : Chg K' F σ s.hp w s.hp.length (⟨.dead,0,[]⟩ : DObj) F (fun x => if x = s.hp.length then none else σ x) (s.hp ++ [(⟨.dead,0,[]⟩ : DObj)]) w :=
   { os := rfl,tape := rfl,output := rfl,size := Nat.le_refl _,hF := fun _ h => h,newF := fun _ h => .inl h,ltF := hs.fb,heap := fun b h _ => rfl,hps := .inr ⟨rfl,rfl⟩
     sig := fun h' hne => by simp [hne],newg := fun g hg => by simp at hg,grow := fun oh hoh => by simp at hoh }
 have hs1 := c1.sim hs trivial
 have hm1 := c1.hm hs
 exact ⟨K',F,_,hKK,hs1,fun n => (hf n).mono hm1,hN,hdef,hmv.trans ((c1.moves hs).weak hKK),hhm.trans hm1⟩
theorem Cur.gown [Inhabited Env] {s : DS} {a : Act} {w : World} (hcur : Cur K N F0 σ0 hp0 w0 s a w) {h i j : Nat} {o : DObj} (z : Nat) (hob : s.hp[h]? = some o) (hk : o.k = .loc) (hi : i < o.es.length) (hcell : (o.es.getD i [])[j]? = some .nil) :
   Cur K N F0 σ0 hp0 w0 ⟨s.fr,s.hp.set h { o with es := o.es.set i ((o.es.getD i []).set j (.own s.hp.length 0 0 0)) } ++ [⟨.imm,z,[]⟩]⟩ a w := by
 obtain ⟨K',F,σ,hKK,hs,hf,hN,hdef,hmv,hhm⟩ := hcur
 obtain ⟨ok,oz,oes⟩ := o
 dsimp only at hk hi hcell
 subst hk
 have hl := zay hob
 have c1 : Chg K' F σ s.hp w s.hp.length (⟨.imm,z,[]⟩ : DObj) F (fun x => if x = s.hp.length then none else σ x) (s.hp ++ [(⟨.imm,z,[]⟩ : DObj)]) w :=
   { os := rfl,tape := rfl,output := rfl,size := Nat.le_refl _,hF := fun _ h => h,newF := fun _ h => .inl h,ltF := hs.fb,heap := fun b h _ => rfl,hps := .inr ⟨rfl,rfl⟩
     sig := fun h' hne => by simp [hne],newg := fun g hg => by simp at hg,grow := fun oh hoh => by simp at hoh }
 have hs1 := c1.sim hs (.inl ⟨rfl,by simp⟩)
 have hm1 := c1.hm hs
 generalize (fun x => if x = s.hp.length then none else σ x) = σ1 at hs1 hm1 c1
 have hob1 : (s.hp ++ [(⟨.imm,z,[]⟩ : DObj)])[h]? = some ⟨.loc,oz,oes⟩ := by rw [List.getElem?_append_left hl]; exact hob
 have hget : oes[i]? = some (oes.getD i []) := by simp [List.getD,hi]
 generalize hrow : oes.getD i [] = row at *
 have hold := hs1.obj h _ hob1
 unfold ORep at hold
 dsimp only at hold
 obtain ⟨g,hg,nF,nK,c,ty,hh,hcz,hzz,hcc⟩ := hold
 have c2 : Chg K' F σ1 (s.hp ++ [(⟨.imm,z,[]⟩ : DObj)]) w h ⟨.loc,oz,oes.set i (row.set j (.own s.hp.length 0 0 0))⟩ F σ1 ((s.hp ++ [(⟨.imm,z,[]⟩ : DObj)]).set h ⟨.loc,oz,oes.set i (row.set j (.own s.hp.length 0 0 0))⟩) w :=
   { os := rfl,tape := rfl,output := rfl,size := Nat.le_refl _,hF := fun _ h => h,newF := fun _ h => .inl h,ltF := hs1.fb,heap := fun b h _ => rfl,hps := .inl ⟨by simp; omega,rfl⟩
     sig := fun h' hne => rfl,newg := fun g hg => .inl ⟨hg,_,hob1,zl7 rfl⟩
     grow := fun oh hoh => by
       rw [hob1] at hoh; injection hoh with e; subst e
       exact ⟨.inl (zl7 rfl),by simp,fun _ _ => ⟨rfl,rfl,fun _ _ => rfl⟩⟩ }
 have hm2 := c2.hm hs1
 have hne : h ≠ s.hp.length := by omega
 have hs2 := c2.sim hs1 (by
   unfold ORep
   refine ⟨g,hg,nF,nK,c,ty,hh,by simpa using hcz,fun r e he => ?_,fun r k d hd => ?_⟩
   . rw [List.getElem?_set] at he
     split at he
     . rename_i e1
       subst e1
       injection he with he
       rw [<- he,List.length_set]
       exact hzz i row hget
     . exact hzz r e he
   . obtain ⟨e,he,hed⟩ := z6o hd
     rw [List.getElem?_set] at he
     split at he
     . rename_i e1
       subst e1
       injection he with he
       subst he
       rw [List.getElem?_set] at hed
       split at hed
       . rename_i e2
         subst e2
         have hjl : j < row.length := (List.getElem?_eq_some_iff.1 hcell).1
         rw [if_pos hjl] at hed
         injection hed with hed
         subst hed
         obtain ⟨v,hv,hr⟩ := hcc i j .nil (by unfold z1; rw [hget]; exact hcell)
         refine ⟨v,hv,?_⟩
         rw [hr.nil_inv]
         refine .own _ _ _ _ _ rfl (by simp) fun ob hb => ?_
         rw [List.getElem?_set_ne hne] at hb
         have : ob = (⟨.imm,z,[]⟩ : DObj) := by simpa using hb.symm
         subst this
         exact ⟨by simp,fun _ _ => ⟨none,0,rfl,Nat.le_refl _,.inl rfl⟩⟩
       . obtain ⟨v,hv,hr⟩ := hcc i k d (by unfold z1; rw [hget]; exact hed)
         exact ⟨v,hv,hr.mono hm2⟩
     . obtain ⟨v,hv,hr⟩ := hcc r k d (by unfold z1; rw [he]; exact hed)
       exact ⟨v,hv,hr.mono hm2⟩)
 have e : (s.hp ++ [(⟨.imm,z,[]⟩ : DObj)]).set h ⟨.loc,oz,oes.set i (row.set j (.own s.hp.length 0 0 0))⟩ = s.hp.set h ⟨.loc,oz,oes.set i (row.set j (.own s.hp.length 0 0 0))⟩ ++ [⟨.imm,z,[]⟩] := by
   rw [List.set_append_left _ _ hl]
 rw [e] at hs2 hm2
 exact ⟨K',F,σ1,hKK,hs2,fun n => ((hf n).mono hm1).mono hm2,hN,hdef,hmv,(hhm.trans hm1).trans hm2⟩
end
end Go.Nk
set_option linter.all false
namespace Go.Nk
open Go.RowKit
def DA.sl : DA -> List Nat
 | .t n => [n]
 | .c _ => []
def slL (l : List DA) : List Nat := l.flatMap DA.sl
def slO (l : Option DA) : List Nat := match l with | some x => x.sl | none => []
def DOp.sl : DOp -> List Nat
 | .bref x | .capn x | .home _ x | .mv x | .mvf x | .mkown _ x | .un _ x | .conv _ x | .b2s x | .snil _ x | .len x | .lenS x | .load _ x | .faddr _ x | .field _ _ x | .box x | .extract _ x | .nilck x => x.sl
 | .pick a b c => a.sl ++ (b.sl ++ c.sl)
 | .mkif _ x => x.sl
 | .bin _ x y | .beq _ x y | .aeq _ _ x y | .minmax _ x y | .store _ x y | .iaddr _ x y | .iaddrA _ _ x y | .index x y | .make _ x y | .append _ x y | .appz _ _ x y => x.sl ++ y.sl
 | .slice _ x a b c => x.sl ++ (slO a ++ (slO b ++ slO c))
 | .sliceS x a b => x.sl ++ (slO a ++ slO b)
 | .bslice _ _ ps => ps.flatMap slO
 | .build _ ps => ps.flatMap fun p => p.2.2.sl
 | .alloc _ | .bad | .aa _ _ => []
 | .mkfun _ xs | .callP _ xs | .callH _ xs | .callW _ xs => slL xs
 | .callvP f xs | .callvH f xs => f.sl ++ slL xs
 | .im d | .rd d => d.sl
 | .rk _ d => d.sl
 | .tk b _ d => b :: d.sl
 | .to b d => b :: d.sl
def DOper.looks (d : DOper) : List Nat := d.op.sl ++ (match d.guard with | some (g,_) => [g] | none => [])
def z2a (x y : DOper) : Bool :=
 (match x.dst with | some d => !(y.looks).contains d && y.dst != some d | none => true) &&
 (match y.dst with | some d => !(x.looks).contains d | none => true)
def ydd (a b : Nat) : Bool := a == 0 || b == 0 || (a == 1 && b == 1) || (a == 1 && b == 2) || (a == 2 && b == 1) || (a == 1 && (b == 4 || b == 5)) || (a == 2 && b == 4) || (a == 7 && (b == 7 || b == 1)) || (a == 1 && (b == 7 || b == 10))
theorem zcq {fr fr' : List (Nat × DV)} {x : DA} (h : ∀ n ∈ x.sl,get n fr = get n fr') : x.ev fr = x.ev fr' := by
 cases x with
 | t n => exact h n (by simp [DA.sl])
 | c d => rfl
theorem zkn {fr fr' : List (Nat × DV)} {xs : List DA} (h : ∀ n ∈ slL xs,get n fr = get n fr') : xs.map (·.ev fr) = xs.map (·.ev fr') :=
 List.map_congr_left fun x hx => zcq fun n hn => h n (List.mem_flatMap.2 ⟨x,hx,hn⟩)
theorem zik {fr fr' : List (Nat × DV)} {x : Option DA} (h : ∀ n ∈ slO x,get n fr = get n fr') : x.map (·.ev fr) = x.map (·.ev fr') := by
 cases x with
 | none => rfl
 | some x => exact congrArg some (zcq h)
theorem zwq {fr fr' : List (Nat × DV)} : ∀ (ps : List (Nat × Nat × DA)) (cells : List DV),(∀ n ∈ ps.flatMap fun p => p.2.2.sl,get n fr = get n fr') -> zr cells fr ps = zr cells fr' ps
 | [],cells,_ => rfl
 | (off,n,x) :: ps,cells,h => by
   have hx : x.ev fr = x.ev fr' := zcq fun n hn => h n (by simp [hn])
   simp only [zr,hx]
   rw [zwq ps _ fun n hn => h n (by simp only [List.flatMap_cons,List.mem_append]; exact .inr hn)]
theorem zgc (C : Orc) (d : DOp) {fr fr' : List (Nat × DV)} (hp : List DObj) (h : ∀ n ∈ d.sl,get n fr = get n fr') : dval C d ⟨fr,hp⟩ = dval C d ⟨fr',hp⟩ := by
 cases d
 case bslice imm zero ps =>
   have e : ∀ p ∈ ps,p.map (·.ev fr) = p.map (·.ev fr') := fun p hp => zik fun n hn => h n (List.mem_flatMap.2 ⟨p,hp,hn⟩)
   have e1 : ps.map (bRow fr zero) = ps.map (bRow fr' zero) := by
     refine List.map_congr_left fun p hp => ?_
     have := e p hp
     cases p with
     | none => rfl
     | some x => simp at this; simp [bRow,this]
   have e2 : ps.all (bU fr zero) = ps.all (bU fr' zero) := by
     have : ∀ p ∈ ps,bU fr zero p = bU fr' zero p := fun p hp => by
       have := e p hp
       cases p with
       | none => rfl
       | some x => simp at this; simp [bU,this]
     rw [Bool.eq_iff_iff,List.all_eq_true,List.all_eq_true]
     exact ⟨fun hh p hp => (this p hp) ▸ hh p hp,fun hh p hp => (this p hp).symm ▸ hh p hp⟩
   simp only [dval,e1,e2]
 case build zero ps => simp only [dval]; rw [zwq ps zero h]
 case mkfun f xs => simp only [dval]; rw [zkn h]
 case callP f xs => simp only [dval]; rw [zkn h]
 case callH f xs => simp only [dval]; rw [zkn h]
 case callvP f xs =>
   have h1 : f.ev fr = f.ev fr' := zcq fun n hn => h n (by simp [DOp.sl,hn])
   simp only [dval,h1]; rw [zkn fun n hn => h n (by simp [DOp.sl,hn])]
 case callvH f xs =>
   have h1 : f.ev fr = f.ev fr' := zcq fun n hn => h n (by simp [DOp.sl,hn])
   simp only [dval,h1]; rw [zkn fun n hn => h n (by simp [DOp.sl,hn])]
 case slice z x a b c =>
   have h1 : x.ev fr = x.ev fr' := zcq fun n hn => h n (by simp [DOp.sl,hn])
   simp only [dval,h1]
   rw [zik fun n hn => h n (by simp [DOp.sl,hn]),zik (x := b) fun n hn => h n (by simp [DOp.sl,hn]),zik (x := c) fun n hn => h n (by simp [DOp.sl,hn])]
 case sliceS x a b =>
   have h1 : x.ev fr = x.ev fr' := zcq fun n hn => h n (by simp [DOp.sl,hn])
   simp only [dval,h1]
   rw [zik fun n hn => h n (by simp [DOp.sl,hn]),zik (x := b) fun n hn => h n (by simp [DOp.sl,hn])]
 case pick a b c =>
   have h1 : a.ev fr = a.ev fr' := zcq fun n hn => h n (by simp [DOp.sl,hn])
   have h2 : b.ev fr = b.ev fr' := zcq fun n hn => h n (by simp [DOp.sl,hn])
   have h3 : c.ev fr = c.ev fr' := zcq fun n hn => h n (by simp [DOp.sl,hn])
   simp only [dval,h1,h2,h3]
 case alloc zero => rfl
 case im d => rfl
 case rd d => rfl
 case to b d => rfl
 case rk lo d => rfl
 case tk b lo d => rfl
 case bad => rfl
 case callW f xs => rfl
 case aa hh zero => rfl
 all_goals
   first
   | (rename_i x y; have h1 : x.ev fr = x.ev fr' := zcq fun n hn => h n (by simp [DOp.sl,hn]); have h2 : y.ev fr = y.ev fr' := zcq fun n hn => h n (by simp [DOp.sl,hn]); simp only [dval,h1,h2]; done)
   | (rename_i x; have h1 : x.ev fr = x.ev fr' := zcq fun n hn => h n (by simp [DOp.sl,hn]); simp only [dval,h1]; done)
theorem z4y (lo : Nat) (d : DOp) {fr fr' : List (Nat × DV)} (h : ∀ n ∈ d.sl,get n fr = get n fr') : zkp lo fr d = zkp lo fr' d := by
 cases d <;> try rfl
 case load s x =>
   have h1 : x.ev fr = x.ev fr' := zcq fun n hn => h n hn
   cases s <;> simp only [zkp,h1]
theorem z5t (C : Orc) (d : DOp) {fr fr' : List (Nat × DV)} (hp : List DObj) (h : ∀ n ∈ d.sl,get n fr = get n fr') : zb C d ⟨fr,hp⟩ = zb C d ⟨fr',hp⟩ := by
 cases d
 case im d => simp only [zb]; rw [zgc C d [] h]
 case rd d => simp only [zb]; rw [zgc C d hp h]
 case rk lo d => simp only [zb]; rw [zgc C d hp h,z4y lo d h]
 case tk b lo d => simp only [zb]; rw [zgc C d hp fun n hn => h n (List.mem_cons_of_mem _ hn),h b (by simp [DOp.sl])]
 case to b d => simp only [zb]; rw [zgc C d hp fun n hn => h n (List.mem_cons_of_mem _ hn),h b (by simp [DOp.sl])]
 all_goals exact zgc C _ hp h
def DOp.kindX : DOp -> Nat
 | .im _ => 0
 | .rd _ => 7
 | .to .. => 8
 | .rk .. | .tk .. => 9
 | d => d.kind
theorem zil {C : Orc} {d : DOp} {s : DS} (h : d.kindX ≠ 0 /\ d.kindX ≠ 7 /\ d.kindX ≠ 8 /\ d.kindX ≠ 9 /\ d.kindX ≠ 10) : zb C d s = dval C d s := by
 cases d <;> first | rfl | exact absurd rfl h.1 | exact absurd rfl h.2.1 | exact absurd rfl h.2.2.1 | exact absurd rfl h.2.2.2.1 | exact absurd rfl h.2.2.2.2
theorem zhd {d : DOp} (h : d.kindX ≠ 0 /\ d.kindX ≠ 7 /\ d.kindX ≠ 8 /\ d.kindX ≠ 9 /\ d.kindX ≠ 10) : d.kindX = d.kind := by
 cases d <;> first | rfl | exact absurd rfl h.1 | exact absurd rfl h.2.1 | exact absurd rfl h.2.2.1 | exact absurd rfl h.2.2.2.1 | exact absurd rfl h.2.2.2.2
def commD (x y : DOper) : Bool := z2a x y && ydd x.op.kindX y.op.kindX
def Fz (hp hp' : List DObj) : Prop :=
 hp.length = hp'.length /\ ∀ (h : Nat) (o : DObj),hp[h]? = some o -> ∃ o',hp'[h]? = some o' /\ o'.z = o.z /\ o'.es = o.es /\ (o'.k = o.k \/ (o.k = .imm /\ o'.k = .frz))
theorem Fz.refl (hp : List DObj) : Fz hp hp := ⟨rfl,fun _ o ho => ⟨o,ho,rfl,rfl,.inl rfl⟩⟩
theorem Fz.trans {a b c : List DObj} (h : Fz a b) (k : Fz b c) : Fz a c := ⟨h.1.trans k.1,fun i o ho => by
 obtain ⟨o',h1,h2,h3,h4⟩ := h.2 i o ho
 obtain ⟨o'',k1,k2,k3,k4⟩ := k.2 i o' h1
 refine ⟨o'',k1,k2.trans h2,k3.trans h3,?_⟩
 rcases h4 with h4 | ⟨h4,h5⟩
 . rcases k4 with k4 | ⟨k4,k5⟩
   . exact .inl (k4.trans h4)
   . exact .inr ⟨h4 ▸ k4,k5⟩
 . rcases k4 with k4 | ⟨k4,k5⟩
   . exact .inr ⟨h4,k4.trans h5⟩
   . rw [h5] at k4; cases k4⟩
theorem Fz.get {hp hp' : List DObj} (h : Fz hp hp') (i : Nat) : (hp[i]? = none /\ hp'[i]? = none) \/ ∃ o o',hp[i]? = some o /\ hp'[i]? = some o' /\ o'.z = o.z /\ o'.es = o.es /\ (o'.k = .dead ↔ o.k = .dead) /\ (o'.k = .imm \/ o'.k = .frz ↔ o.k = .imm \/ o.k = .frz) := by
 cases hi : hp[i]? with
 | none =>
   left
   refine ⟨rfl,?_⟩
   rw [List.getElem?_eq_none_iff] at hi |-
   have := h.1; omega
 | some o =>
   obtain ⟨o',h1,h2,h3,h4⟩ := h.2 i o hi
   refine .inr ⟨o,o',rfl,h1,h2,h3,?_,?_⟩
   . rcases h4 with h4 | ⟨h4,h5⟩
     . rw [h4]
     . rw [h4,h5]; simp
   . rcases h4 with h4 | ⟨h4,h5⟩
     . rw [h4]
     . rw [h4,h5]; simp
theorem Fz.alive {hp hp' : List DObj} (h : Fz hp hp') (i L : Nat) : alive hp' i L ↔ alive hp i L := by
 unfold Nk.alive
 rcases h.get i with ⟨h1,h2⟩ | ⟨o,o',h1,h2,hz,he,hd,hk⟩
 . rw [h1,h2]
 . rw [h1,h2]; simp only [he,ne_eq,hd]
theorem Fz.elems {hp hp' : List DObj} (h : Fz hp hp') (d : DV) : zy hp' d = zy hp d := by
 unfold zy
 split <;> try rfl
 rename_i i L off len
 rcases h.get i with ⟨h1,h2⟩ | ⟨o,o',h1,h2,hz,he,hd,hk⟩
 . rw [h1,h2]
 . rw [h1,h2]; simp only [he]
   by_cases h3 : o.k = .imm \/ o.k = .frz
   . rw [if_pos h3,if_pos (hk.2 h3)]
   . rw [if_neg h3,if_neg (fun e => h3 (hk.1 e))]
theorem Fz.cells {hp hp' : List DObj} (h : Fz hp hp') (d : DV) : za hp' d = za hp d := by
 unfold za
 split <;> try rfl
 rename_i i L r j
 rcases h.get i with ⟨h1,h2⟩ | ⟨o,o',h1,h2,hz,he,hd,hk⟩
 . rw [h1,h2]
 . rw [h1,h2]; simp only [he]
   by_cases h3 : o.k = .dead
   . rw [if_pos h3,if_pos (hd.2 h3)]
   . rw [if_neg h3,if_neg (fun e => h3 (hd.1 e))]
theorem kind0 (C : Orc) (d : DOp) (fr : List (Nat × DV)) (hp : List DObj) (hk : d.kind = 0) (h : (dval C d ⟨fr,hp⟩).pre) :
   (dval C d ⟨fr,hp⟩).hp = hp /\ ∀ hp2,(dval C d ⟨fr,hp2⟩).pre /\ (dval C d ⟨fr,hp2⟩).val = (dval C d ⟨fr,hp⟩).val /\ (dval C d ⟨fr,hp2⟩).hp = hp2 := by
 cases d <;> simp only [DOp.kind,reduceCtorEq] at hk <;> simp only [dval] at h |-
 case pick a b c => split at h <;> simp_all [no]
 case conv k x => split at h <;> simp_all [no]
 case lenS x => split at h <;> simp_all [no]
 case capn x => split at h <;> simp_all [no]
 case minmax m x y => split at h <;> simp_all [no]
 case field o s x => split at h <;> simp_all [no]
 case index x y => split at h <;> simp_all [no]
 case extract i x => split at h <;> simp_all [no]
 all_goals first | (simp; done) | (simp only [true_and,and_true,forall_const]; exact h) | exact ⟨rfl,fun _ => ⟨h,rfl,rfl⟩⟩ | exact ⟨trivial,fun _ => ⟨h,trivial,trivial⟩⟩
theorem kind0X (C : Orc) (d : DOp) (fr : List (Nat × DV)) (hp : List DObj) (hk : d.kindX = 0) (h : (zb C d ⟨fr,hp⟩).pre) :
   (zb C d ⟨fr,hp⟩).hp = hp /\ ∀ hp2,(zb C d ⟨fr,hp2⟩).pre /\ (zb C d ⟨fr,hp2⟩).val = (zb C d ⟨fr,hp⟩).val /\ (zb C d ⟨fr,hp2⟩).hp = hp2 := by
 cases d
 case im d => exact ⟨rfl,fun hp2 => ⟨h,rfl,rfl⟩⟩
 case rd d => cases hk
 case to b d => cases hk
 case rk lo d => cases hk
 case tk b lo d => cases hk
 all_goals exact kind0 C _ fr hp hk h
theorem kind1 (C : Orc) (d : DOp) (fr : List (Nat × DV)) (hp hp2 : List DObj) (hf : Fz hp hp2) (hk : d.kind = 1) :
   (dval C d ⟨fr,hp2⟩).pre = (dval C d ⟨fr,hp⟩).pre /\ (dval C d ⟨fr,hp2⟩).val = (dval C d ⟨fr,hp⟩).val /\ ((dval C d ⟨fr,hp⟩).pre -> (dval C d ⟨fr,hp⟩).hp = hp /\ (dval C d ⟨fr,hp2⟩).hp = hp2) := by
 cases d <;> simp only [DOp.kind,reduceCtorEq,Nat.reduceEqDiff] at hk <;> simp only [dval]
 case b2s x => rw [hf.elems]; simp
 case len x => split <;> simp [hf.alive,no]
 case snil x => split <;> simp [hf.alive,no]
 case load s x => rw [hf.cells]; simp
 case faddr o x => split <;> simp [hf.alive,no]
 case nilck x => split <;> simp [hf.alive,no]
 case iaddrA n z x i => split <;> simp [hf.alive,no]
 case iaddr z x i =>
   split
   . simp
   . rename_i hh L off len k n e1 e2
     rcases hf.get hh with ⟨h1,h2⟩ | ⟨o,o',h1,h2,hz,he,hd,hk⟩
     . simp [h1,h2,no]
     . simp [h1,h2,hz,he,hd]
   . simp [no]
 case slice z x a b c =>
   unfold zc2
   split
   . simp
   . rename_i hh L off len e1
     rcases hf.get hh with ⟨h1,h2⟩ | ⟨o,o',h1,h2,hz,he,hd,hk⟩
     . simp [h1,h2]
     . simp [h1,h2,hz,he,hd]
   . simp
   . simp
theorem Fz.freezeAt (hp : List DObj) (h : Nat) (hk : ∀ o,hp[h]? = some o -> o.k = .imm \/ o.k = .frz) : Fz hp (freezeAt hp h) := by
 unfold Nk.freezeAt
 cases hh : hp[h]? with
 | none => exact .refl _
 | some o =>
   refine ⟨by simp,fun i o' ho' => ?_⟩
   by_cases hi : i = h
   . subst hi
     rw [hh] at ho'; injection ho' with e; subst e
     refine ⟨{ o with k := .frz },by simp [zay hh],rfl,rfl,?_⟩
     rcases hk o hh with e | e
     . exact .inr ⟨e,rfl⟩
     . exact .inl e.symm
   . exact ⟨o',by dsimp only; rw [List.getElem?_set_ne (Ne.symm hi)]; exact ho',rfl,rfl,.inl rfl⟩
theorem yew (hp : List DObj) (d : DV) (h : (fz1 hp d).pre) : Fz hp (fz1 hp d).hp := by
 unfold fz1 at h |-
 split at h
 . rename_i h' L off len
   refine Fz.freezeAt hp h' fun o ho => ?_
   simp only [zy,ho] at h
   split at h
   . rename_i hk; exact hk
   . exact h.elim
 . exact .refl _
 . exact .refl _
 . split at h
   . rename_i hi; rw [if_pos hi]; exact .refl _
   . exact h.elim
theorem yf1 : ∀ (ds : List DV) (hp : List DObj),(fzL hp ds).pre -> Fz hp (fzL hp ds).hp
 | [],_,_ => .refl _
 | d :: ds,hp,h => (yew hp d h.1).trans (yf1 ds _ h.2)
theorem ygr (hp : List DObj) (d : DV) (h : (fzV hp d).pre) : Fz hp (fzV hp d).hp := by
 unfold fzV at h |-
 split at h
 . exact yf1 _ _ h
 . exact yew _ _ h
theorem yfw : ∀ (ds : List DV) (hp : List DObj),(fzVs hp ds).pre -> Fz hp (fzVs hp ds).hp
 | [],_,_ => .refl _
 | d :: ds,hp,h => (ygr hp d h.1).trans (yfw ds _ h.2)
theorem z0u (C : Orc) (hp : List DObj) (f : FuncId) (args : List DV) (h : (ze C hp f args).pre) : Fz hp (ze C hp f args).hp := by
 unfold ze at h |-
 dsimp only at h |-
 split at h
 . rename_i hn; rw [if_pos hn]; exact .refl _
 . rename_i hn; rw [if_neg hn]; exact yfw _ _ h.1
theorem kind2 (C : Orc) (d : DOp) (fr : List (Nat × DV)) (hp : List DObj) (hk : d.kind = 2) (h : (dval C d ⟨fr,hp⟩).pre) : Fz hp (dval C d ⟨fr,hp⟩).hp := by
 cases d <;> simp only [DOp.kind,reduceCtorEq,Nat.reduceEqDiff] at hk <;> simp only [dval] at h |-
 case callP f xs => exact z0u C hp f _ h
 case callW f xs => exact h.elim
 case mvf x => exact ygr _ _ h
 case callvP f xs =>
   split at h
   . exact z0u C hp _ _ h
   . exact z0u C hp _ _ h
   . exact h.elim
def Ex (hp hp' : List DObj) : Prop := ∃ hp1 t,Fz hp hp1 /\ hp' = hp1 ++ t
theorem z44 : ∀ (ds : List (List DV)) (hp : List DObj),(fzLL hp ds).pre -> Fz hp (fzLL hp ds).hp
 | [],_,_ => .refl _
 | d :: ds,hp,h => (yf1 d hp h.1).trans (z44 ds _ h.2)
theorem kind45 (C : Orc) (d : DOp) (fr : List (Nat × DV)) (hp : List DObj) (hk : d.kind = 4 \/ d.kind = 5) (h : (dval C d ⟨fr,hp⟩).pre) : Ex hp (dval C d ⟨fr,hp⟩).hp := by
 cases d <;> simp only [DOp.kind,reduceCtorEq,Nat.reduceEqDiff,or_self,or_false,false_or] at hk <;> simp only [dval] at h |-
 case alloc z => exact ⟨hp,_,.refl _,rfl⟩
 case box x => exact ⟨hp,_,.refl _,rfl⟩
 case make z a b =>
   split at h
   . exact ⟨hp,_,.refl _,rfl⟩
   . exact h.elim
 case mkown z x =>
   split at h
   . exact ⟨hp,_,.refl _,rfl⟩
   . exact h.elim
 case bslice imm z ps =>
   split at h
   . rename_i e; rw [if_pos e]; exact ⟨_,[],z44 _ _ h.2.1,(List.append_nil _).symm⟩
   . rename_i e; rw [if_neg e]; exact ⟨_,_,z44 _ _ h.2.1,rfl⟩
theorem ygq (t : List DObj) {hp : List DObj} {d : DV} (h : (fz1 hp d).pre) : fz1 (hp ++ t) d = ⟨(fz1 hp d).pre,(fz1 hp d).val,(fz1 hp d).hp ++ t⟩ := by
 unfold fz1 at h |-
 split at h
 . rename_i i L off len
   have he := zvm t h
   simp only [he,Res.mk.injEq,true_and]
   unfold Nk.freezeAt
   cases hi : hp[i]? with
   | none => simp [zy,hi] at h
   | some o => simp only [zlz hi]; rw [List.set_append_left _ _ (List.getElem?_eq_some_iff.1 hi).1]
 . rfl
 . rfl
 . split at h
   . rename_i e; simp only [if_pos e]
   . exact h.elim
theorem yfv (t : List DObj) : ∀ {hp : List DObj} {ds : List DV},(fzL hp ds).pre -> fzL (hp ++ t) ds = ⟨(fzL hp ds).pre,(fzL hp ds).vals,(fzL hp ds).hp ++ t⟩
 | _,[],_ => rfl
 | hp,d :: ds,h => by
   simp only [fzL] at h |-
   rw [ygq t h.1]
   simp only
   rw [yfv t h.2]
theorem yg4 (t : List DObj) {hp : List DObj} {d : DV} (h : (fzV hp d).pre) : fzV (hp ++ t) d = ⟨(fzV hp d).pre,(fzV hp d).val,(fzV hp d).hp ++ t⟩ := by
 unfold fzV at h |-
 split at h
 . simp only at h |-
   rw [yfv t h]
 . rw [ygq t h]
theorem z9j (t : List DObj) : ∀ {hp : List DObj} {ds : List DV},(fzVs hp ds).pre -> fzVs (hp ++ t) ds = ⟨(fzVs hp ds).pre,(fzVs hp ds).vals,(fzVs hp ds).hp ++ t⟩
 | _,[],_ => rfl
 | hp,d :: ds,h => by
   simp only [fzVs] at h |-
   rw [yg4 t h.1]
   simp only
   rw [z9j t h.2]
theorem capV_ext (t : List DObj) {hp : List DObj} {d : DV} (h : (capV hp d).1) : capV (hp ++ t) d = capV hp d := by
 unfold capV at h |-
 split at h
 . rename_i k L i j
   cases hk : hp[k]? with
   | none => simp [hk] at h
   | some o => simp only [zlz hk]
 . rfl
theorem z3m (t : List DObj) : ∀ {hp : List DObj} {ds : List DV},(capVL hp ds).1 -> capVL (hp ++ t) ds = capVL hp ds
 | _,[],_ => rfl
 | hp,d :: ds,h => by
   simp only [capVL] at h |-
   rw [capV_ext t h.1,z3m t h.2]
theorem z4e {hp : List DObj} : ∀ {ds : List DV},ds.all DV.immB = true -> capVL hp ds = (True,ds)
 | [],_ => rfl
 | d :: ds,h => by
   simp only [List.all_cons,Bool.and_eq_true] at h
   have e : capV hp d = (True,d) := by
     unfold capV
     cases d <;> first | (simp [DV.immB] at h; done) | simp [h.1]
   simp only [capVL,e,z4e h.2,and_self]
theorem Fz.capV {hp hp' : List DObj} (hf : Fz hp hp') (d : DV) : Nk.capV hp' d = Nk.capV hp d := by
 unfold Nk.capV
 split
 . rename_i k L i j
   rcases hf.get k with ⟨h1,h2⟩ | ⟨o,o',h1,h2,h3,h4,h5,h6⟩
   . rw [h1,h2]
   . rw [h1,h2]
     have hd : (o'.k ≠ .dead) = (o.k ≠ .dead) := propext (not_congr h5)
     simp only [hd,h4]
 . rfl
theorem Fz.capVL {hp hp' : List DObj} (hf : Fz hp hp') : ∀ ds : List DV,Nk.capVL hp' ds = Nk.capVL hp ds
 | [] => rfl
 | d :: ds => by simp only [Nk.capVL,hf.capV d,Fz.capVL hf ds]
theorem z4w (t : List DObj) {hp : List DObj} {d : DV} (h : (zo hp d).1) : zo (hp ++ t) d = zo hp d := by
 unfold zo at h |-
 split at h
 . rename_i i L off len
   simp only [zvm t h]
 . rfl
 . simp only [z3m t h]
 . rfl
theorem z4f (t : List DObj) : ∀ {hp : List DObj} {ds : List DV},(zx hp ds).1 -> zx (hp ++ t) ds = zx hp ds
 | _,[],_ => rfl
 | hp,d :: ds,h => by
   simp only [zx] at h |-
   rw [z4w t h.1,z4f t h.2]
theorem ydo (t : List DObj) {hp : List DObj} {d : DV} (h : (zp hp d).1) : zp (hp ++ t) d = zp hp d := by
 unfold zp at h |-
 split at h
 . simp only [z4f t h]
 . exact z4w t h
theorem zq3 (t : List DObj) : ∀ {hp : List DObj} {ds : List DV},(zf hp ds).1 -> zf (hp ++ t) ds = zf hp ds
 | _,[],_ => rfl
 | hp,d :: ds,h => by
   simp only [zf] at h |-
   rw [ydo t h.1,zq3 t h.2]
theorem zt3 {hp : List DObj} {d : DV} (h : (fz1 hp d).pre) : zo hp d = (True,(fz1 hp d).val) := by
 unfold fz1 zo at *
 split at h
 . exact congrArg (·,_) (eq_true h)
 . rfl
 . simp only [z4e h]
 . split at h
   . rename_i e; simp only [if_pos e]
   . exact h.elim
theorem zur : ∀ {ds : List DV} {hp : List DObj},(fzL hp ds).pre -> zx hp ds = (True,(fzL hp ds).vals)
 | [],_,_ => rfl
 | d :: ds,hp,h => by
   simp only [fzL,zx] at h |-
   rw [zt3 h.1]
   have hv : zx hp ds = zx (fz1 hp d).hp ds := by
     have hf := yew hp d h.1
     generalize (fz1 hp d).hp = hp' at hf
     clear h
     have h1 : ∀ x,zo hp' x = zo hp x := fun x => by unfold zo; rw [hf.elems]; cases x <;> simp only [hf.capVL]
     induction ds with
     | nil => rfl
     | cons x xs ih => simp only [zx,h1,ih]
   rw [hv,zur h.2]
   simp
theorem z6x {hp : List DObj} {d : DV} (h : (fzV hp d).pre) : zp hp d = (True,(fzV hp d).val) := by
 unfold fzV zp at *
 split at h
 . simp only [zur h]
 . exact zt3 h
theorem zse : ∀ {ds : List DV} {hp : List DObj},(fzVs hp ds).pre -> zf hp ds = (True,(fzVs hp ds).vals)
 | [],_,_ => rfl
 | d :: ds,hp,h => by
   simp only [fzVs,zf] at h |-
   rw [z6x h.1]
   have hv : zf hp ds = zf (fzV hp d).hp ds := by
     have hf := ygr hp d h.1
     generalize (fzV hp d).hp = hp' at hf
     clear h
     have h1 : ∀ x,zo hp' x = zo hp x := fun x => by unfold zo; rw [hf.elems]; cases x <;> simp only [hf.capVL]
     have h2 : ∀ xs,zx hp' xs = zx hp xs := fun xs => by
       induction xs with
       | nil => rfl
       | cons x xs ih => simp only [zx,h1,ih]
     have h3 : ∀ x,zp hp' x = zp hp x := fun x => by unfold zp; split <;> simp only [h1,h2]
     induction ds with
     | nil => rfl
     | cons x xs ih => simp only [zf,h3,ih]
   rw [hv,zse h.2]
   simp
theorem zwi (C : Orc) (t : List DObj) {hp : List DObj} {f : FuncId} {args : List DV} (h : (ze C hp f args).pre) :
   (ze C (hp ++ t) f args).pre /\ (ze C (hp ++ t) f args).val = (ze C hp f args).val /\ (ze C (hp ++ t) f args).hp = (ze C hp f args).hp ++ t := by
 unfold ze at h |-
 dsimp only at h |-
 split at h
 . rename_i hn
   have hv := zq3 t h.1
   rw [if_pos hn]
   simp only [hv,if_pos hn]
   exact ⟨h,trivial,trivial⟩
 . rename_i hn
   have hv : zf (hp ++ t) args = zf hp args := zq3 t (by rw [zse h.1]; trivial)
   rw [if_neg hn]
   simp only [hv,if_neg hn,z9j t h.1]
   exact ⟨h,trivial,trivial⟩
theorem kind2e (C : Orc) (d : DOp) (fr : List (Nat × DV)) (hp t : List DObj) (hk : d.kind = 2) (h : (dval C d ⟨fr,hp⟩).pre) :
   (dval C d ⟨fr,hp ++ t⟩).pre /\ (dval C d ⟨fr,hp ++ t⟩).val = (dval C d ⟨fr,hp⟩).val /\ (dval C d ⟨fr,hp ++ t⟩).hp = (dval C d ⟨fr,hp⟩).hp ++ t := by
 cases d <;> simp only [DOp.kind,reduceCtorEq,Nat.reduceEqDiff] at hk <;> simp only [dval] at h |-
 case callP f xs => exact zwi C t h
 case callW f xs => exact h.elim
 case mvf x => rw [yg4 t h]; exact ⟨h,rfl,rfl⟩
 case callvP f xs =>
   split at h
   . exact zwi C t h
   . exact zwi C t h
   . exact h.elim
theorem kind4e (C : Orc) (d : DOp) (fr : List (Nat × DV)) (hp hp2 : List DObj) (hl : hp2.length = hp.length) (hk : d.kind = 4) (h : (dval C d ⟨fr,hp⟩).pre) :
   (dval C d ⟨fr,hp2⟩).pre /\ (dval C d ⟨fr,hp2⟩).val = (dval C d ⟨fr,hp⟩).val /\ ∃ t,(dval C d ⟨fr,hp⟩).hp = hp ++ t /\ (dval C d ⟨fr,hp2⟩).hp = hp2 ++ t := by
 cases d <;> simp only [DOp.kind,reduceCtorEq,Nat.reduceEqDiff] at hk <;> simp only [dval] at h |-
 case alloc z => rw [hl]; exact ⟨trivial,rfl,_,rfl,rfl⟩
 case box x => rw [hl]; exact ⟨h,rfl,_,rfl,rfl⟩
 case make z a b =>
   split at h
   . simp only [hl]; exact ⟨h,trivial,_,rfl,rfl⟩
   . exact h.elim
 case mkown z x =>
   split at h
   . simp only [hl]; exact ⟨trivial,trivial,_,rfl,rfl⟩
   . exact h.elim
end Go.Nk
set_option linter.all false
namespace Go.Nk
open Go.RowKit
noncomputable def dact (C : Orc) (d : DOper) (s : DS) : Res :=
 match d.guard with
 | none => zb C d.op s
 | some (g,b) => match get g s.fr with
   | .bool b' => if b' = b then zb C d.op s else ⟨True,.tup [],s.hp⟩
   | .tup [] => ⟨True,.tup [],s.hp⟩
   | _ => no
theorem zce (C : Orc) (d : DOper) (s : DS) (K : DS -> Prop) : zit C d s K ↔ (dact C d s).pre /\ K (s.put d.dst (dact C d s)) := by
 unfold zit dact
 cases d.guard with
 | none => exact Iff.rfl
 | some gb =>
   obtain ⟨g,b⟩ := gb
   dsimp only
   cases get g s.fr with
   | bool b' => dsimp only; split <;> simp
   | tup vs => cases vs <;> simp [no]
   | _ => simp [no]
theorem zp0 (C : Orc) (d : DOper) {fr fr' : List (Nat × DV)} (hp : List DObj) (h : ∀ n ∈ d.looks,get n fr = get n fr') : dact C d ⟨fr,hp⟩ = dact C d ⟨fr',hp⟩ := by
 unfold dact
 have h1 : zb C d.op ⟨fr,hp⟩ = zb C d.op ⟨fr',hp⟩ := z5t C d.op hp fun n hn => h n (List.mem_append_left _ hn)
 cases hg : d.guard with
 | none => exact h1
 | some gb =>
   obtain ⟨g,b⟩ := gb
   have h2 : get g fr = get g fr' := h g (List.mem_append_right _ (by rw [hg]; simp))
   simp only [h1,h2]
theorem act0 (C : Orc) (d : DOper) (fr : List (Nat × DV)) (hp : List DObj) (hk : d.op.kindX = 0) (h : (dact C d ⟨fr,hp⟩).pre) :
   (dact C d ⟨fr,hp⟩).hp = hp /\ ∀ hp2,(dact C d ⟨fr,hp2⟩).pre /\ (dact C d ⟨fr,hp2⟩).val = (dact C d ⟨fr,hp⟩).val /\ (dact C d ⟨fr,hp2⟩).hp = hp2 := by
 unfold dact at h |-
 cases hg : d.guard with
 | none => simp only [hg] at h |-; exact kind0X C d.op fr hp hk h
 | some gb =>
   obtain ⟨g,b⟩ := gb
   simp only [hg] at h |-
   cases hgt : get g fr with
   | bool b' =>
     simp only [hgt] at h |-
     by_cases hb : b' = b
     . simp only [if_pos hb] at h |-; exact kind0X C d.op fr hp hk h
     . simp only [if_neg hb]; simp
   | tup vs => cases vs with
     | nil => simp
     | cons => simp only [hgt,no] at h
   | _ => simp only [hgt,no] at h
theorem act1 (C : Orc) (d : DOper) (fr : List (Nat × DV)) (hp hp2 : List DObj) (hf : Fz hp hp2) (hk : d.op.kindX = 1) :
   ((dact C d ⟨fr,hp2⟩).pre ↔ (dact C d ⟨fr,hp⟩).pre) /\ ((dact C d ⟨fr,hp⟩).pre -> (dact C d ⟨fr,hp2⟩).val = (dact C d ⟨fr,hp⟩).val /\ (dact C d ⟨fr,hp⟩).hp = hp /\ (dact C d ⟨fr,hp2⟩).hp = hp2) := by
 have hk0 : d.op.kindX ≠ 0 /\ d.op.kindX ≠ 7 /\ d.op.kindX ≠ 8 /\ d.op.kindX ≠ 9 /\ d.op.kindX ≠ 10 := by omega
 obtain ⟨k1,k2,k3⟩ := kind1 C d.op fr hp hp2 hf ((zhd hk0).symm.trans hk)
 unfold dact
 simp only [zil hk0]
 cases hg : d.guard with
 | none => simp only; exact ⟨iff_of_eq k1,fun h => ⟨k2,k3 h⟩⟩
 | some gb =>
   obtain ⟨g,b⟩ := gb
   simp only
   cases hgt : get g fr with
   | bool b' =>
     simp only
     by_cases hb : b' = b
     . simp only [if_pos hb]; exact ⟨iff_of_eq k1,fun h => ⟨k2,k3 h⟩⟩
     . simp only [if_neg hb]; simp
   | tup vs => cases vs with
     | nil => simp
     | cons => simp [no]
   | _ => simp [no]
theorem act2 (C : Orc) (d : DOper) (fr : List (Nat × DV)) (hp : List DObj) (hk : d.op.kindX = 2) (h : (dact C d ⟨fr,hp⟩).pre) : Fz hp (dact C d ⟨fr,hp⟩).hp := by
 have hk0 : d.op.kindX ≠ 0 /\ d.op.kindX ≠ 7 /\ d.op.kindX ≠ 8 /\ d.op.kindX ≠ 9 /\ d.op.kindX ≠ 10 := by omega
 unfold dact at h |-
 simp only [zil hk0] at h |-
 cases hg : d.guard with
 | none => simp only [hg] at h |-; exact kind2 C d.op fr hp ((zhd hk0).symm.trans hk) h
 | some gb =>
   obtain ⟨g,b⟩ := gb
   simp only [hg] at h |-
   cases hgt : get g fr with
   | bool b' =>
     simp only [hgt] at h |-
     by_cases hb : b' = b
     . simp only [if_pos hb] at h |-; exact kind2 C d.op fr hp ((zhd hk0).symm.trans hk) h
     . simp only [if_neg hb]; exact .refl _
   | tup vs => cases vs with
     | nil => exact .refl _
     | cons => simp only [hgt,no] at h
   | _ => simp only [hgt,no] at h
theorem zbs (C : Orc) (d : DOper) (fr : List (Nat × DV)) {hp : List DObj} (h : (dact C d ⟨fr,hp⟩).pre) :
   ((∀ hp2,dact C d ⟨fr,hp2⟩ = zb C d.op ⟨fr,hp2⟩)) \/ (∀ hp2,dact C d ⟨fr,hp2⟩ = ⟨True,.tup [],hp2⟩) := by
 unfold dact at h |-
 cases hg : d.guard with
 | none => exact .inl fun _ => rfl
 | some gb =>
   obtain ⟨g,b⟩ := gb
   simp only [hg] at h |-
   cases hgt : get g fr with
   | bool b' =>
     simp only
     by_cases hb : b' = b
     . simp only [if_pos hb]; exact .inl fun _ => trivial
     . simp only [if_neg hb]; exact .inr fun _ => trivial
   | tup vs => cases vs with
     | nil => exact .inr fun _ => rfl
     | cons => simp only [hgt,no] at h
   | _ => simp only [hgt,no] at h
theorem act7 (C : Orc) (d : DOper) (fr : List (Nat × DV)) (hp : List DObj) (hk : d.op.kindX = 7) (h : (dact C d ⟨fr,hp⟩).pre) : (dact C d ⟨fr,hp⟩).hp = hp := by
 rcases zbs C d fr h with e | e
 . rw [e]
   cases hd : d.op <;> rw [hd] at hk <;> first | (cases hk; done) | rfl | skip
   all_goals exact absurd hk (by simp [DOp.kindX,DOp.kind])
 . rw [e]
def viaD : DOp -> Option Nat
 | .load _ (.t n) | .faddr _ (.t n) | .nilck (.t n) | .len (.t n) => some n
 | .iaddr _ (.t n) _ | .iaddrA _ _ (.t n) _ => some n
 | _ => none
theorem z75 {d : DOp} {n : Nat} (h : viaD d = some n) : d.kindX = 1 := by
 cases d <;> first | rfl | simp [viaD] at h
theorem via_only (C : Orc) (d : DOp) {n : Nat} (hv : viaD d = some n) (fr : List (Nat × DV)) {hp hp' : List DObj} (h : ∀ h',hdl (get n fr) = some h' -> hp'[h']? = hp[h']?) :
   (dval C d ⟨fr,hp'⟩).pre = (dval C d ⟨fr,hp⟩).pre /\ (dval C d ⟨fr,hp'⟩).val = (dval C d ⟨fr,hp⟩).val := by
 have hc : za hp' (get n fr) = za hp (get n fr) := by
   unfold za
   split
   . rfl
   . rename_i e; rw [h _ (by rw [e]; rfl)]
   . rfl
 have ha : ∀ h' L,hdl (get n fr) = some h' -> alive hp' h' L = alive hp h' L := fun h' L e => by unfold alive; rw [h _ e]
 cases d <;> simp only [viaD,reduceCtorEq] at hv
 case load s x => cases x <;> simp only [Option.some.injEq,reduceCtorEq] at hv; subst hv; simp only [dval,DA.ev,hc]; exact ⟨trivial,trivial⟩
 case faddr o x =>
   cases x <;> simp only [Option.some.injEq,reduceCtorEq] at hv; subst hv
   simp only [dval,DA.ev]
   split
   . exact ⟨rfl,rfl⟩
   . rename_i e; exact ⟨ha _ _ (by rw [e]; rfl),rfl⟩
   . exact ⟨rfl,rfl⟩
 case nilck x =>
   cases x <;> simp only [Option.some.injEq,reduceCtorEq] at hv; subst hv
   simp only [dval,DA.ev]
   split
   . rename_i e; exact ⟨ha _ _ (by rw [e]; rfl),rfl⟩
   . exact ⟨rfl,rfl⟩
   . exact ⟨rfl,rfl⟩
   . exact ⟨rfl,rfl⟩
   . exact ⟨rfl,rfl⟩
 case len x =>
   cases x <;> simp only [Option.some.injEq,reduceCtorEq] at hv; subst hv
   simp only [dval,DA.ev]
   split
   . exact ⟨rfl,rfl⟩
   . exact ⟨rfl,rfl⟩
   . rename_i e; exact ⟨ha _ _ (by rw [e]; rfl),rfl⟩
   . exact ⟨rfl,rfl⟩
 case iaddrA m z x i =>
   cases x <;> simp only [Option.some.injEq,reduceCtorEq] at hv; subst hv
   simp only [dval,DA.ev]
   split
   . exact ⟨rfl,rfl⟩
   . rename_i e _; exact ⟨congrArg (· /\ _) (ha _ _ (by rw [e]; rfl)),rfl⟩
   . exact ⟨rfl,rfl⟩
 case iaddr z x i =>
   cases x <;> simp only [Option.some.injEq,reduceCtorEq] at hv; subst hv
   simp only [dval,DA.ev]
   split
   . exact ⟨rfl,rfl⟩
   . rename_i e _
     rw [h _ (by rw [e]; rfl)]
     split <;> exact ⟨rfl,rfl⟩
   . exact ⟨rfl,rfl⟩
theorem low_row {lo : Nat} {x y : DObj} (h : Low lo (some x) (some y)) (i j : Nat) (hj : j < lo) : ((y.es.getD i []).drop j).getD 0 .undef = ((x.es.getD i []).drop j).getD 0 .undef := by
 have := congrArg (fun l => l[j]?) (h.2.2.2 i).2
 simp only [List.getElem?_take,if_pos hj] at this
 simp only [List.getD_eq_getElem?_getD,List.getElem?_drop,Nat.add_zero]
 simp only [List.getD_eq_getElem?_getD] at this
 rw [this]
theorem low_rows {lo : Nat} {x y : DObj} (h : Low lo (some x) (some y)) (i j n : Nat) (hj : j + n <= lo) : ((y.es.getD i []).drop j).take n = ((x.es.getD i []).drop j).take n := by
 have := congrArg (fun l => (l.drop j).take n) (h.2.2.2 i).2
 simp only [List.drop_take,List.take_take] at this
 rwa [Nat.min_eq_left (by omega)] at this
theorem via_low (C : Orc) (d : DOp) (lo : Nat) (fr : List (Nat × DV)) {o : Option Nat} {hp hp' : List DObj} (h : OnlyK o lo hp hp') (hv : zkp lo fr d) :
   (dval C d ⟨fr,hp'⟩).pre = (dval C d ⟨fr,hp⟩).pre /\ (dval C d ⟨fr,hp'⟩).val = (dval C d ⟨fr,hp⟩).val := by
 have hl : ∀ k,hp'[k]? = hp[k]? \/ Low lo hp[k]? hp'[k]? := fun k => by
   by_cases e : o = some k
   . exact .inr ((h k).2 e)
   . exact .inl ((h k).1 e)
 have ha : ∀ k L,alive hp' k L = alive hp k L := fun k L => by
   unfold alive
   rcases hl k with e | e
   . rw [e]
   . cases e1 : hp[k]? <;> cases e2 : hp'[k]? <;> simp only [e1,e2,Low] at e |-
     rw [e.1,e.2.2.1]
 cases d <;> simp only [zkp] at hv
 case faddr off x =>
   simp only [dval]
   cases x.ev fr <;> simp only [ha] <;> exact ⟨trivial,trivial⟩
 case nilck x =>
   simp only [dval]
   cases x.ev fr <;> simp only [ha] <;> exact ⟨trivial,trivial⟩
 case len x =>
   simp only [dval]
   cases x.ev fr <;> simp only [ha] <;> exact ⟨trivial,trivial⟩
 case iaddrA n z x i =>
   simp only [dval]
   cases x.ev fr <;> cases i.ev fr <;> simp only [ha] <;> exact ⟨trivial,trivial⟩
 case iaddr z x i =>
   simp only [dval]
   cases hx : x.ev fr <;> cases i.ev fr <;> simp only <;> try exact ⟨trivial,trivial⟩
   rename_i k L off len _ _
   rcases hl k with e | e
   . rw [e]; cases hp[k]? <;> exact ⟨rfl,rfl⟩
   . cases e1 : hp[k]? <;> cases e2 : hp'[k]? <;> simp only [e1,e2,Low] at e |-
     . exact ⟨trivial,trivial⟩
     . rw [e.1,e.2.1,e.2.2.1]; exact ⟨rfl,trivial⟩
 case load sz x =>
   simp only [dval,zh]
   cases hx : x.ev fr
   case ptr k L i j =>
     rcases hl k with e | e
     . simp only [za,e]; exact ⟨trivial,trivial⟩
     . cases e1 : hp[k]? <;> cases e2 : hp'[k]? <;> simp only [e1,e2,Low] at e
       . simp only [za,e1,e2]; exact ⟨trivial,trivial⟩
       . rename_i x1 y1
         have e' : Low lo (some x1) (some y1) := e
         have hln := (e.2.2.2 i).1
         simp only [za,e1,e2,e.1]
         by_cases hd : x1.k = .dead
         . rw [if_pos hd,if_pos hd]; cases sz <;> exact ⟨rfl,rfl⟩
         . rw [if_neg hd,if_neg hd]
           cases sz with
           | none =>
             simp only [hx] at hv
             simp only [low_row e' i j hv,List.length_drop,hln,e.2.2.1]
             exact ⟨trivial,trivial⟩
           | some n =>
             simp only [hx] at hv
             simp only [low_rows e' i j n hv,List.length_drop,hln,e.2.2.1]
             exact ⟨trivial,trivial⟩
   all_goals (simp only [za]; first | exact ⟨rfl,rfl⟩ | exact ⟨trivial,trivial⟩)
theorem z90 (C : Orc) (d : DOp) (fr : List (Nat × DV)) (hp : List DObj) (hk : d.kind = 1) (h : (dval C d ⟨fr,hp⟩).pre) : (dval C d ⟨fr,hp⟩).hp = hp :=
 (kind1 C d fr hp hp (.refl _) hk).2.2 h |>.1
theorem via_in (C : Orc) (d : DOp) {n : Nat} (hv : viaD d = some n) (fr : List (Nat × DV)) {hp : List DObj} (hpre : (dval C d ⟨fr,hp⟩).pre) {h' : Nat} (e : hdl (get n fr) = some h') : h' < hp.length := by
 rcases Nat.lt_or_ge h' hp.length with c | c
 . exact c
 have hn : hp[h']? = none := List.getElem?_eq_none c
 exfalso
 cases d <;> simp only [viaD,reduceCtorEq] at hv
 case load sz x =>
   cases x <;> simp only [Option.some.injEq,reduceCtorEq] at hv; subst hv
   revert hpre
   simp only [dval,zh,DA.ev]
   revert e
   cases get _ fr <;> simp only [hdl,Option.some.injEq,reduceCtorEq,false_implies]
   all_goals first | (rintro rfl; simp only [za,hn]; cases sz <;> simp; done) | (intro _; cases sz <;> simp [za])
 case faddr o x =>
   cases x <;> simp only [Option.some.injEq,reduceCtorEq] at hv; subst hv
   revert hpre
   simp only [dval,DA.ev]
   revert e
   cases get _ fr <;> simp only [hdl,Option.some.injEq,reduceCtorEq,false_implies]
   all_goals first | (rintro rfl; simp [alive,hn,no]; done) | (intro _; simp [no])
 case nilck x =>
   cases x <;> simp only [Option.some.injEq,reduceCtorEq] at hv; subst hv
   revert hpre
   simp only [dval,DA.ev]
   revert e
   cases get _ fr <;> simp only [hdl,Option.some.injEq,reduceCtorEq,false_implies]
   all_goals first | (rintro rfl; simp [alive,hn,no]; done) | (intro _; simp [no])
 case len x =>
   cases x <;> simp only [Option.some.injEq,reduceCtorEq] at hv; subst hv
   revert hpre
   simp only [dval,DA.ev]
   revert e
   cases get _ fr <;> simp only [hdl,Option.some.injEq,reduceCtorEq,false_implies]
   all_goals first | (rintro rfl; simp [alive,hn,no]; done) | (intro _; simp [no])
 case iaddrA m z x i =>
   cases x <;> simp only [Option.some.injEq,reduceCtorEq] at hv; subst hv
   revert hpre
   simp only [dval]
   rw [show (DA.t _).ev fr = get _ fr from rfl]
   revert e
   cases get _ fr <;> simp only [hdl,Option.some.injEq,reduceCtorEq,false_implies]
   all_goals first | (rintro rfl; cases i.ev fr <;> simp [alive,hn,no]; done) | (intro _; cases i.ev fr <;> simp [no])
 case iaddr z x i =>
   cases x <;> simp only [Option.some.injEq,reduceCtorEq] at hv; subst hv
   revert hpre
   simp only [dval]
   rw [show (DA.t _).ev fr = get _ fr from rfl]
   revert e
   cases get _ fr <;> simp only [hdl,Option.some.injEq,reduceCtorEq,false_implies]
   all_goals first | (rintro rfl; cases i.ev fr <;> simp [hn,no]; done) | (intro _; cases i.ev fr <;> simp [no])
theorem actS (C : Orc) (d : DOper) {n : Nat} (hv : viaD d.op = some n) (fr : List (Nat × DV)) {hp hp' : List DObj} (h : ∀ h',hdl (get n fr) = some h' -> h' < hp.length -> hp'[h']? = hp[h']?) (hpre : (dact C d ⟨fr,hp⟩).pre) :
   (dact C d ⟨fr,hp'⟩).pre /\ (dact C d ⟨fr,hp'⟩).val = (dact C d ⟨fr,hp⟩).val /\ (dact C d ⟨fr,hp'⟩).hp = hp' := by
 have hk := z75 hv
 have hk0 : d.op.kindX ≠ 0 /\ d.op.kindX ≠ 7 /\ d.op.kindX ≠ 8 /\ d.op.kindX ≠ 9 /\ d.op.kindX ≠ 10 := by omega
 rcases zbs C d fr hpre with e | e
 . simp only [zil hk0] at e
   rw [e] at hpre
   rw [e,e]
   have e2 := via_only C d.op hv fr (fun h' e' => h h' e' (via_in C d.op hv fr hpre e'))
   have hp2 : (dval C d.op ⟨fr,hp'⟩).pre := by rw [e2.1]; exact hpre
   have hkk : d.op.kind = 1 := (zhd hk0).symm.trans hk
   exact ⟨hp2,e2.2,z90 C d.op fr hp' hkk hp2⟩
 . rw [e,e]; exact ⟨trivial,rfl,rfl⟩
theorem act8 (C : Orc) (d : DOper) {b : Nat} {e : DOp} (hd : d.op = .to b e) (fr : List (Nat × DV)) (hp : List DObj) (h : (dact C d ⟨fr,hp⟩).pre) : Only (hdl (get b fr)) hp (dact C d ⟨fr,hp⟩).hp := by
 rcases zbs C d fr h with k | k
 . rw [k,hd] at h
   rw [k,hd]
   exact h.2
 . rw [k]; exact fun _ _ _ => rfl
theorem actR (C : Orc) (d : DOper) {lo : Nat} {e : DOp} (hd : d.op = .rk lo e) (fr : List (Nat × DV)) (hp : List DObj) (h : (dact C d ⟨fr,hp⟩).pre) :
   (dact C d ⟨fr,hp⟩).hp = hp := by
 rcases zbs C d fr h with k | k
 . rw [k,hd]; rfl
 . rw [k]
theorem actRT (C : Orc) (d1 d2 : DOper) {lo lo' b : Nat} {e1 e2 : DOp} (h1 : d1.op = .rk lo e1) (h2 : d2.op = .tk b lo' e2) (hl : lo <= lo') (fr : List (Nat × DV)) (hp : List DObj) (p1 : (dact C d1 ⟨fr,hp⟩).pre) (p2 : (dact C d2 ⟨fr,hp⟩).pre) :
   (dact C d1 ⟨fr,(dact C d2 ⟨fr,hp⟩).hp⟩).pre /\ (dact C d1 ⟨fr,(dact C d2 ⟨fr,hp⟩).hp⟩).val = (dact C d1 ⟨fr,hp⟩).val /\ (dact C d1 ⟨fr,(dact C d2 ⟨fr,hp⟩).hp⟩).hp = (dact C d2 ⟨fr,hp⟩).hp := by
 rcases zbs C d1 fr p1 with k | k
 . rw [k,h1] at p1
   rw [k,k,h1]
   have hh : ∃ o,OnlyK o lo' hp (dact C d2 ⟨fr,hp⟩).hp := by
     rcases zbs C d2 fr p2 with q | q
     . rw [q,h2] at p2 |-; exact ⟨_,p2.2⟩
     . rw [q]; exact ⟨none,fun h => ⟨fun _ => rfl,fun e => (by cases e)⟩⟩
   obtain ⟨o,ho⟩ := hh
   have hlow : ∀ {d fr},zkp lo fr d -> zkp lo' fr d := fun {d fr} hv => by
     cases d <;> simp only [zkp] at hv |-
     case load s x => cases s <;> simp only [] at hv |- <;> split <;> simp_all <;> omega
   have e := via_low C e1 lo' fr ho (hlow p1.2.1)
   have hk : e1.kind = 1 := by have := p1.2.1; cases e1 <;> simp only [zkp] at this <;> rfl
   have hp2 : (dval C e1 ⟨fr,(dact C d2 ⟨fr,hp⟩).hp⟩).pre := by rw [e.1]; exact p1.1
   exact ⟨⟨hp2,p1.2.1,z90 C e1 fr _ hk hp2⟩,e.2,rfl⟩
 . rw [k,k]; exact ⟨trivial,rfl,rfl⟩
def zrv (d : DOp) : Bool := match d with
 | .rk .. => true
 | d => d.kindX == 7 || d.kindX == 1
theorem z9q (C : Orc) (d : DOper) (hd : zrv d.op = true) (fr : List (Nat × DV)) (hp : List DObj) (h : (dact C d ⟨fr,hp⟩).pre) : (dact C d ⟨fr,hp⟩).hp = hp := by
 unfold zrv at hd
 split at hd
 . rename_i e; exact actR C d e fr hp h
 . simp only [Bool.or_eq_true,beq_iff_eq] at hd
   rcases hd with hd | hd
   . exact act7 C d fr hp hd h
   . exact ((act1 C d fr hp hp (.refl _) hd).2 h).2.1
theorem sepB_hdl {a b : DV} (h : sepB a b) : ∀ k,hdl a = some k -> hdl b ≠ some k := by
 intro k e
 intro e'
 unfold hdl at e e'
 split at e <;> first | (cases e; done) | skip
 all_goals
   split at e' <;> first | (cases e'; done) | skip
 all_goals
   injection e with e; injection e' with e'; subst e
   simp only [sepB] at h
   exact h e'.symm
theorem actAA (C : Orc) (di dj : DOper) {h h' : Nat} {z z' : List DV} (h1 : di.op = .aa h z) (h2 : dj.op = .aa h' z') (hne : h ≠ h') (fr : List (Nat × DV)) (hp : List DObj) (p1 : (dact C di ⟨fr,hp⟩).pre) (p2 : (dact C dj ⟨fr,(dact C di ⟨fr,hp⟩).hp⟩).pre) :
   (dact C dj ⟨fr,hp⟩).pre /\ (dact C di ⟨fr,(dact C dj ⟨fr,hp⟩).hp⟩).pre /\ (dact C dj ⟨fr,hp⟩).val = (dact C dj ⟨fr,(dact C di ⟨fr,hp⟩).hp⟩).val /\
     (dact C di ⟨fr,(dact C dj ⟨fr,hp⟩).hp⟩).val = (dact C di ⟨fr,hp⟩).val /\ (dact C di ⟨fr,(dact C dj ⟨fr,hp⟩).hp⟩).hp = (dact C dj ⟨fr,(dact C di ⟨fr,hp⟩).hp⟩).hp := by
 have sp : ∀ (k : Nat) (z : List DV) (hp : List DObj),(zb C (.aa k z) ⟨fr,hp⟩).pre -> ∃ o,hp[k]? = some o /\ (o.k = .dead /\ o.es = []) := fun k z hp hx => by
   simp only [zb,dval] at hx
   cases hk : hp[k]? with
   | none => rw [hk] at hx; exact hx.elim
   | some o => rw [hk] at hx; exact ⟨o,rfl,hx⟩
 have ev : ∀ (k : Nat) (z : List DV) (hp : List DObj) (o : DObj),hp[k]? = some o -> zb C (.aa k z) ⟨fr,hp⟩ = ⟨o.k = .dead /\ o.es = [],.ptr k 1 0 0,hp.set k ⟨.loc,z.length,[z]⟩⟩ := fun k z hp o hk => by
   simp only [zb,dval,hk]
 rcases zbs C di fr p1 with k | k <;> rcases zbs C dj fr p2 with q | q
 . simp only [k,q,h1,h2] at p1 p2 |-
   obtain ⟨o,ho,hd⟩ := sp _ _ _ p1
   rw [ev _ _ _ _ ho] at p2 |-
   obtain ⟨o',ho',hd'⟩ := sp _ _ _ p2
   have ho2 : hp[h']? = some o' := by rw [List.getElem?_set_ne hne] at ho'; exact ho'
   rw [ev _ _ _ _ ho',ev _ _ _ _ ho2]
   have ho3 : (hp.set h' ⟨.loc,z'.length,[z']⟩)[h]? = some o := by rw [List.getElem?_set_ne (Ne.symm hne)]; exact ho
   rw [ev _ _ _ _ ho3]
   exact ⟨hd',hd,rfl,rfl,(List.set_comm _ _ hne.symm)⟩
 . simp only [k,q] at p1 p2 |-
   exact ⟨trivial,p1,trivial,trivial,trivial⟩
 . simp only [k,q] at p1 p2 |-
   exact ⟨p2,trivial,trivial,trivial,trivial⟩
 . simp only [k,q]; exact ⟨trivial,trivial,trivial,trivial,trivial⟩
def SepJ (seps : List (Nat × Nat)) (s : DS) : Prop := ∀ p ∈ seps,∀ k,hdl (get p.1 s.fr) = some k -> hdl (get p.2 s.fr) ≠ some k
theorem ydj : ∀ {seps : List (Nat × Nat)} {s : DS},zjq seps s.fr -> SepJ seps s
 | [],_,_ => fun p hp => by simp at hp
 | (a,b) :: r,s,h => fun p hp => by
   rcases List.mem_cons.1 hp with rfl | hp
   . exact sepB_hdl h.1
   . exact ydj h.2 p hp
def yaj : DOp -> Option Nat
 | .faddr _ (.t n) | .nilck (.t n) | .mv (.t n) => some n
 | .iaddr _ (.t n) _ | .iaddrA _ _ (.t n) _ => some n
 | _ => none
theorem from_hdl (C : Orc) (d : DOp) {n : Nat} (hv : yaj d = some n) (s : DS) (h : (zb C d s).pre) {k : Nat} (e : hdl (zb C d s).val = some k) : hdl (get n s.fr) = some k := by
 cases d <;> simp only [yaj,reduceCtorEq] at hv
 case mv x => cases x <;> simp only [Option.some.injEq,reduceCtorEq] at hv; subst hv; exact e
 case faddr o x =>
   cases x <;> simp only [Option.some.injEq,reduceCtorEq] at hv; subst hv
   simp only [zb,dval,DA.ev] at e h
   revert e h
   cases get _ s.fr <;> simp [hdl,no]
 case nilck x =>
   cases x <;> simp only [Option.some.injEq,reduceCtorEq] at hv; subst hv
   simp only [zb,dval,DA.ev] at e h
   revert e h
   cases get _ s.fr <;> simp [hdl,no]
 case iaddrA m z x i =>
   cases x <;> simp only [Option.some.injEq,reduceCtorEq] at hv; subst hv
   simp only [zb,dval] at e h
   rw [show (DA.t _).ev s.fr = get _ s.fr from rfl] at e h
   revert e h
   cases get _ s.fr <;> cases i.ev s.fr <;> simp [hdl,no]
 case iaddr z x i =>
   cases x <;> simp only [Option.some.injEq,reduceCtorEq] at hv; subst hv
   simp only [zb,dval] at e h
   rw [show (DA.t _).ev s.fr = get _ s.fr from rfl] at e h
   revert e h
   cases get _ s.fr <;> cases i.ev s.fr <;> simp only [hdl,no,reduceCtorEq,false_implies,implies_true,Option.some.injEq,imp_self] <;> split <;> simp
def ycg (seps : List (Nat × Nat)) (d : DOper) : Bool :=
 match d.dst with
 | none => true
 | some t => seps.all fun p => (p.1 != t && p.2 != t) || (match yaj d.op with
   | some n => (p.1 != t || (p.2 != t && seps.contains (n,p.2))) && (p.2 != t || seps.contains (p.1,n))
   | none => false)
theorem zyu {C : Orc} {seps : List (Nat × Nat)} {d : DOper} (hk : ycg seps d = true) {s : DS} (hJ : SepJ seps s) (h : (dact C d s).pre) : SepJ seps (s.put d.dst (dact C d s)) := by
 intro p hp k
 cases hd : d.dst with
 | none => exact hJ p hp k
 | some t =>
   simp only [ycg,hd,List.all_eq_true] at hk
   have h1 := hk p hp
   simp only [DS.put,zc]
   have hold : ∀ {n k},yaj d.op = some n -> hdl (dact C d s).val = some k -> hdl (get n s.fr) = some k := fun {n k} hn e => by
     obtain ⟨fr,hh⟩ := s
     rcases zbs C d fr h with a | a
     . rw [a] at e h; exact from_hdl C d.op hn _ h e
     . rw [a] at e; simp [hdl] at e
   by_cases e1 : p.1 = t
   . rw [if_pos e1]
     cases hf : yaj d.op with
     | none => simp [hf,e1] at h1
     | some n =>
       simp [hf,e1] at h1
       obtain ⟨⟨h2,h3⟩,h4⟩ := h1
       rw [if_neg h2]
       intro e
       exact hJ (n,p.2) h3 k (hold hf e)
   . rw [if_neg e1]
     by_cases e2 : p.2 = t
     . rw [if_pos e2]
       cases hf : yaj d.op with
       | none => simp [hf,e2] at h1
       | some n =>
         simp [hf,e1,e2] at h1
         intro e e'
         exact hJ (p.1,n) h1 k e (hold hf e')
     . rw [if_neg e2]
       exact hJ p hp k
def commS (seps : List (Nat × Nat)) (x y : DOper) : Bool :=
 z2a x y && (match viaD x.op,y.op with
   | some n,.to b _ => seps.contains (n,b)
   | _,_ => (match x.op,y.op with
     | .rk lo _,.tk _ lo' _ => decide (lo <= lo')
     | .aa h _,.aa h' _ => h != h'
     | .rd d,e => (zrv (.rd d) && zrv e) || (d.kind == 2 && e.kindX == 4)
     | _,_ => (zrv x.op && zrv y.op)
       ))
theorem actRd (C : Orc) (d : DOper) {e : DOp} (hd : d.op = .rd e) (hk : e.kind = 2) (fr : List (Nat × DV)) (hp t : List DObj) (h : (dact C d ⟨fr,hp⟩).pre) :
   (dact C d ⟨fr,hp ++ t⟩).pre /\ (dact C d ⟨fr,hp ++ t⟩).val = (dact C d ⟨fr,hp⟩).val /\ (dact C d ⟨fr,hp ++ t⟩).hp = hp ++ t := by
 rcases zbs C d fr h with k | k
 . rw [k,hd] at h; rw [k,k,hd]
   simp only [zb] at h |-
   obtain ⟨u1,u2,u3⟩ := kind2e C e fr hp t hk h.1
   exact ⟨⟨u1,by rw [u3,h.2]⟩,u2,trivial⟩
 . rw [k,k]; exact ⟨trivial,rfl,rfl⟩
def ye2 (seps : List (Nat × Nat)) (x y : DOper) : Bool := commD x y || commS seps x y
theorem act10 (C : Orc) (d : DOper) (fr : List (Nat × DV)) (hp : List DObj) (hk : d.op.kindX = 10) (h : (dact C d ⟨fr,hp⟩).pre) : ∃ t,(dact C d ⟨fr,hp⟩).hp = hp ++ t := by
 rcases zbs C d fr h with e | e
 . rw [e] at h; rw [e]
   cases hd : d.op <;> rw [hd] at hk h <;> first | (cases hk; done) | exact h.2 | skip
   all_goals exact absurd hk (by simp [DOp.kindX,DOp.kind])
 . rw [e]; exact ⟨[],(List.append_nil _).symm⟩
theorem act1e (C : Orc) (d : DOper) (fr : List (Nat × DV)) (hp t : List DObj) (hk : d.op.kindX = 1) (h : (dact C d ⟨fr,hp⟩).pre) :
   (dact C d ⟨fr,hp ++ t⟩).pre /\ (dact C d ⟨fr,hp ++ t⟩).val = (dact C d ⟨fr,hp⟩).val /\ (dact C d ⟨fr,hp ++ t⟩).hp = hp ++ t := by
 rcases zbs C d fr h with e | e
 . have hk0 : d.op.kindX ≠ 0 /\ d.op.kindX ≠ 7 /\ d.op.kindX ≠ 8 /\ d.op.kindX ≠ 9 /\ d.op.kindX ≠ 10 := by omega
   simp only [zil hk0] at e
   rw [e] at h; rw [e,e]; exact kind1e C d.op fr hp t ((zhd hk0).symm.trans hk) h
 . rw [e,e]; exact ⟨trivial,rfl,rfl⟩
theorem act45 (C : Orc) (d : DOper) (fr : List (Nat × DV)) (hp : List DObj) (hk : d.op.kindX = 4 \/ d.op.kindX = 5) (h : (dact C d ⟨fr,hp⟩).pre) : Ex hp (dact C d ⟨fr,hp⟩).hp := by
 rcases zbs C d fr h with e | e
 . have hk0 : d.op.kindX ≠ 0 /\ d.op.kindX ≠ 7 /\ d.op.kindX ≠ 8 /\ d.op.kindX ≠ 9 /\ d.op.kindX ≠ 10 := by omega
   simp only [zil hk0] at e
   rw [e] at h; rw [e]; exact kind45 C d.op fr hp (by rw [<- zhd hk0]; exact hk) h
 . rw [e]; exact ⟨hp,[],.refl _,(List.append_nil _).symm⟩
theorem act2e (C : Orc) (d : DOper) (fr : List (Nat × DV)) (hp t : List DObj) (hk : d.op.kindX = 2) (h : (dact C d ⟨fr,hp⟩).pre) :
   (dact C d ⟨fr,hp ++ t⟩).pre /\ (dact C d ⟨fr,hp ++ t⟩).val = (dact C d ⟨fr,hp⟩).val /\ (dact C d ⟨fr,hp ++ t⟩).hp = (dact C d ⟨fr,hp⟩).hp ++ t := by
 rcases zbs C d fr h with e | e
 . have hk0 : d.op.kindX ≠ 0 /\ d.op.kindX ≠ 7 /\ d.op.kindX ≠ 8 /\ d.op.kindX ≠ 9 /\ d.op.kindX ≠ 10 := by omega
   simp only [zil hk0] at e
   rw [e] at h; rw [e,e]; exact kind2e C d.op fr hp t ((zhd hk0).symm.trans hk) h
 . rw [e,e]; exact ⟨trivial,rfl,rfl⟩
theorem act4e (C : Orc) (d : DOper) (fr : List (Nat × DV)) (hp hp2 : List DObj) (hl : hp2.length = hp.length) (hk : d.op.kindX = 4) (h : (dact C d ⟨fr,hp⟩).pre) :
   (dact C d ⟨fr,hp2⟩).pre /\ (dact C d ⟨fr,hp2⟩).val = (dact C d ⟨fr,hp⟩).val /\ ∃ t,(dact C d ⟨fr,hp⟩).hp = hp ++ t /\ (dact C d ⟨fr,hp2⟩).hp = hp2 ++ t := by
 rcases zbs C d fr h with e | e
 . have hk0 : d.op.kindX ≠ 0 /\ d.op.kindX ≠ 7 /\ d.op.kindX ≠ 8 /\ d.op.kindX ≠ 9 /\ d.op.kindX ≠ 10 := by omega
   simp only [zil hk0] at e
   rw [e] at h; rw [e,e]; exact kind4e C d.op fr hp hp2 hl ((zhd hk0).symm.trans hk) h
 . rw [e,e]; exact ⟨trivial,rfl,[],(List.append_nil _).symm,(List.append_nil _).symm⟩
def Eqv (s s' : DS) : Prop := s.hp = s'.hp /\ ∀ n,get n s.fr = get n s'.fr
theorem Eqv.refl (s : DS) : Eqv s s := ⟨rfl,fun _ => rfl⟩
theorem Eqv.trans {a b c : DS} (h : Eqv a b) (k : Eqv b c) : Eqv a c := ⟨h.1.trans k.1,fun n => (h.2 n).trans (k.2 n)⟩
def Cl (K : DS -> Prop) (s : DS) : Prop := ∃ s0,Eqv s0 s /\ K s0
theorem Cl.of {K : DS -> Prop} {s : DS} (h : K s) : Cl K s := ⟨s,.refl s,h⟩
theorem Cl.eqv {K : DS -> Prop} {s s' : DS} (h : Cl K s) (e : Eqv s s') : Cl K s' := let ⟨s0,h0,hk⟩ := h; ⟨s0,h0.trans e,hk⟩
theorem Eqv.put {s s' : DS} (h : Eqv s s') (dst : Option Nat) (r : Res) : Eqv (s.put dst r) (s'.put dst r) := by
 cases dst with
 | none => exact ⟨rfl,h.2⟩
 | some t => exact ⟨rfl,fun n => by simp only [DS.put,zc]; split <;> first | rfl | exact h.2 n⟩
theorem dact_eqv (C : Orc) (d : DOper) {s s' : DS} (h : Eqv s s') : dact C d s = dact C d s' := by
 obtain ⟨fr,hp⟩ := s
 obtain ⟨fr',hp'⟩ := s'
 obtain ⟨h1,h2⟩ := h
 dsimp only at h1; subst h1
 exact zp0 C d _ fun n _ => h2 n
theorem yf8 {C : Orc} {d : DOper} {s s' : DS} {K : DS -> Prop} (e : Eqv s s') (hK : ∀ s s',Eqv s s' -> K s -> K s') (h : zit C d s K) : zit C d s' K := by
 rw [zce] at h |-
 rw [<- dact_eqv C d e]
 exact ⟨h.1,hK _ _ (e.put _ _) h.2⟩
theorem zyr {C : Orc} {d : DOper} {s : DS} {K K' : DS -> Prop} (hK : ∀ s,K s -> K' s) (h : zit C d s K) : zit C d s K' := by
 rw [zce] at h |-
 exact ⟨h.1,hK _ h.2⟩
theorem zl9 (s : DS) (dst : Option Nat) (r : Res) (n : Nat) (h : ∀ t,dst = some t -> n ≠ t) : get n (s.put dst r).fr = get n s.fr := by
 cases dst with
 | none => rfl
 | some t => simp only [DS.put,zc]; rw [if_neg (h t rfl)]
theorem put_hp (s : DS) (dst : Option Nat) (r : Res) : (s.put dst r).hp = r.hp := by cases dst <;> rfl
theorem ya0 {C : Orc} {seps : List (Nat × Nat)} {di dj : DOper} (hc : ye2 seps di dj = true) {s : DS} (hJ : SepJ seps s) {X : DS -> Prop} (h : zit C di s (fun s1 => zit C dj s1 X)) : zit C dj s (fun s1 => zit C di s1 (Cl X)) := by
 have hap : z2a di dj = true := by
   simp only [ye2,commD,commS,Bool.or_eq_true,Bool.and_eq_true] at hc
   exact hc.elim (·.1) (·.1)
 have hc2 : ydd di.op.kindX dj.op.kindX = true \/ (∃ n b e,viaD di.op = some n /\ dj.op = .to b e /\ (n,b) ∈ seps) \/ (∃ lo e b lo' e',di.op = .rk lo e /\ dj.op = .tk b lo' e' /\ lo <= lo') \/ (∃ h z h' z',di.op = .aa h z /\ dj.op = .aa h' z' /\ h ≠ h') \/ (zrv di.op = true /\ zrv dj.op = true) \/ (∃ d,di.op = .rd d /\ d.kind = 2 /\ dj.op.kindX = 4) \/
     False := by
   simp only [ye2,commD,commS,Bool.or_eq_true,Bool.and_eq_true] at hc
   refine hc.imp (·.2) fun h => ?_
   have h2 := h.2
   split at h2
   . rename_i n b e e1 e2
     exact .inl ⟨n,b,e,e1,e2,by simpa using h2⟩
   . split at h2
     . rename_i lo e b lo' e' e1 e2
       exact .inr (.inl ⟨lo,e,b,lo',e',e1,e2,by simpa using h2⟩)
     . rename_i h z h' z' e1 e2
       exact .inr (.inr (.inl ⟨h,z,h',z',e1,e2,by simpa using h2⟩))
     . rename_i d e1
       simp only [Bool.or_eq_true,Bool.and_eq_true,beq_iff_eq] at h2
       rcases h2 with h2 | h2
       . exact .inr (.inr (.inr (.inl ⟨e1 ▸ h2.1,h2.2⟩)))
       . exact .inr (.inr (.inr (.inr (.inl ⟨d,e1,h2.1,h2.2⟩))))
     . have h3 := h2
       exact .inr (.inr (.inr (.inl (by simpa using h3))))
 have a1 : ∀ t,di.dst = some t -> t ∉ dj.looks /\ dj.dst ≠ some t := fun t ht => by
   simp only [z2a,ht,Bool.and_eq_true,Bool.not_eq_true',List.contains_eq_mem,decide_eq_false_iff_not,bne_iff_ne] at hap
   exact hap.1
 have a2 : ∀ t,dj.dst = some t -> t ∉ di.looks := fun t ht => by
   simp only [z2a,Bool.and_eq_true] at hap
   have := hap.2
   rw [ht] at this
   simpa using this
 obtain ⟨fr,hp⟩ := s
 rw [zce,zce] at h
 obtain ⟨p1,p2,hx⟩ := h
 have e1 : dact C dj (DS.put ⟨fr,hp⟩ di.dst (dact C di ⟨fr,hp⟩)) = dact C dj ⟨fr,(dact C di ⟨fr,hp⟩).hp⟩ := by
   have := zp0 C dj (fr := (DS.put ⟨fr,hp⟩ di.dst (dact C di ⟨fr,hp⟩)).fr) (fr' := fr) (dact C di ⟨fr,hp⟩).hp (fun n hn => zl9 _ _ _ _ fun t ht e => (a1 t ht).1 (e ▸ hn))
   rw [<- this]
   cases di.dst <;> rfl
 rw [e1] at p2 hx
 have key : (dact C dj ⟨fr,hp⟩).pre /\ (dact C di ⟨fr,(dact C dj ⟨fr,hp⟩).hp⟩).pre /\ (dact C dj ⟨fr,hp⟩).val = (dact C dj ⟨fr,(dact C di ⟨fr,hp⟩).hp⟩).val /\
     (dact C di ⟨fr,(dact C dj ⟨fr,hp⟩).hp⟩).val = (dact C di ⟨fr,hp⟩).val /\ (dact C di ⟨fr,(dact C dj ⟨fr,hp⟩).hp⟩).hp = (dact C dj ⟨fr,(dact C di ⟨fr,hp⟩).hp⟩).hp := by
   rcases hc2 with hk | ⟨n,b,e,hv,hd,hm⟩ | ⟨lo,e,b,lo',e',h1,h2,hlo⟩ | ⟨h,z,h',z',h1,h2,hne⟩ | ⟨h1,h2⟩ | ⟨e,h1,h2,h3⟩ |
     h1
   rotate_left
   rotate_left
   . have hp1 : (dact C di ⟨fr,hp⟩).hp = hp := actR C di h1 fr hp p1
     rw [hp1] at p2 |-
     obtain ⟨u1,u2,u3⟩ := actRT C di dj h1 h2 hlo fr hp p1 p2
     exact ⟨p2,u1,rfl,u2,u3⟩
   . exact actAA C di dj h1 h2 hne fr hp p1 p2
   . have hp1 := z9q C di h1 fr hp p1
     rw [hp1] at p2 |-
     have hp2 := z9q C dj h2 fr hp p2
     rw [hp2]
     exact ⟨p2,p1,rfl,rfl,hp1⟩
   . have hp1 : (dact C di ⟨fr,hp⟩).hp = hp := act7 C di fr hp (by rw [h1]; rfl) p1
     rw [hp1] at p2 |-
     obtain ⟨_,_,t,_,r4⟩ := act4e C dj fr hp hp rfl h3 p2
     obtain ⟨u1,u2,u3⟩ := actRd C di h1 h2 fr hp t p1
     rw [r4]
     exact ⟨p2,u1,rfl,u2,u3⟩
   . exact h1.elim
   rotate_left
   . have hp1 : (dact C di ⟨fr,hp⟩).hp = hp := ((act1 C di fr hp hp (.refl _) (z75 hv)).2 p1).2.1
     rw [hp1] at p2 |-
     have ho := act8 C dj hd fr hp p2
     obtain ⟨u1,u2,u3⟩ := actS C di hv fr (hp := hp) (hp' := (dact C dj ⟨fr,hp⟩).hp) (fun h' e' hl => ho h' hl (hJ _ hm h' e')) p1
     exact ⟨p2,u1,rfl,u2,u3⟩
   simp only [ydd,Bool.or_eq_true,Bool.and_eq_true,beq_iff_eq] at hk
   rcases hk with (((((((hk | hk) | ⟨hi,hj⟩) | ⟨hi,hj⟩) | ⟨hi,hj⟩) | ⟨hi,hj⟩) | ⟨hi,hj⟩) | ⟨hi,hj⟩) | ⟨hi,hj⟩
   . obtain ⟨q1,q2⟩ := act0 C di fr hp hk p1
     rw [q1] at p2 |-
     obtain ⟨r1,r2,r3⟩ := q2 (dact C dj ⟨fr,hp⟩).hp
     exact ⟨p2,r1,rfl,r2,r3⟩
   . obtain ⟨q1,q2⟩ := act0 C dj fr _ hk p2
     obtain ⟨r1,r2,r3⟩ := q2 hp
     rw [r3]
     exact ⟨r1,p1,r2,rfl,q1.symm⟩
   . obtain ⟨q1,q2⟩ := act1 C di fr hp hp (.refl _) hi
     obtain ⟨_,q3,_⟩ := q2 p1
     rw [q3] at p2 |-
     obtain ⟨s1,s2⟩ := act1 C dj fr hp hp (.refl _) hj
     obtain ⟨_,s3,_⟩ := s2 p2
     rw [s3]
     exact ⟨p2,p1,rfl,rfl,q3⟩
   . obtain ⟨_,q3,_⟩ := (act1 C di fr hp hp (.refl _) hi).2 p1
     rw [q3] at p2 |-
     have hfz := act2 C dj fr hp hj p2
     obtain ⟨s1,s2⟩ := act1 C di fr hp _ hfz hi
     obtain ⟨t1,_,t3⟩ := s2 p1
     exact ⟨p2,s1.2 p1,rfl,t1,t3⟩
   . have hfz := act2 C di fr hp hi p1
     obtain ⟨s1,s2⟩ := act1 C dj fr hp _ hfz hj
     have hpj := s1.1 p2
     obtain ⟨t1,t2,t3⟩ := s2 hpj
     rw [t2]
     exact ⟨hpj,p1,t1.symm,rfl,t3.symm⟩
   . obtain ⟨_,q3,_⟩ := (act1 C di fr hp hp (.refl _) hi).2 p1
     rw [q3] at p2 |-
     obtain ⟨hp1,t,hfz,het⟩ := act45 C dj fr hp hj p2
     obtain ⟨s1,s2⟩ := act1 C di fr hp _ hfz hi
     obtain ⟨t1,_,t3⟩ := s2 p1
     obtain ⟨u1,u2,u3⟩ := act1e C di fr hp1 t hi (s1.2 p1)
     rw [het]
     exact ⟨p2,u1,rfl,u2.trans t1,u3⟩
   . have hfz := act2 C di fr hp hi p1
     obtain ⟨r1,r2,t,r3,r4⟩ := act4e C dj fr _ hp hfz.1 hj p2
     obtain ⟨u1,u2,u3⟩ := act2e C di fr hp t hi p1
     rw [r4,r3]
     exact ⟨r1,u1,r2,u2,u3⟩
   . have q := act7 C di fr hp hi p1
     rw [q] at p2 |-
     have q2 : (dact C dj ⟨fr,hp⟩).hp = hp := by
       rcases hj with hj | hj
       . exact act7 C dj fr hp hj p2
       . exact ((act1 C dj fr hp hp (.refl _) hj).2 p2).2.1
     rw [q2]
     exact ⟨p2,p1,rfl,rfl,q⟩
   . have q : (dact C di ⟨fr,hp⟩).hp = hp := ((act1 C di fr hp hp (.refl _) hi).2 p1).2.1
     rw [q] at p2 |-
     rcases hj with hj | hj
     . have q2 := act7 C dj fr hp hj p2
       rw [q2]
       exact ⟨p2,p1,rfl,rfl,q⟩
     . obtain ⟨t,q2⟩ := act10 C dj fr hp hj p2
       obtain ⟨u1,u2,u3⟩ := act1e C di fr hp t hi p1
       rw [q2]
       exact ⟨p2,u1,rfl,u2,u3⟩
 obtain ⟨k1,k2,k3,k4,k5⟩ := key
 have e2 : dact C di (DS.put ⟨fr,hp⟩ dj.dst (dact C dj ⟨fr,hp⟩)) = dact C di ⟨fr,(dact C dj ⟨fr,hp⟩).hp⟩ := by
   have := zp0 C di (fr := (DS.put ⟨fr,hp⟩ dj.dst (dact C dj ⟨fr,hp⟩)).fr) (fr' := fr) (dact C dj ⟨fr,hp⟩).hp (fun n hn => zl9 _ _ _ _ fun t ht e => a2 t ht (e ▸ hn))
   rw [<- this]
   cases dj.dst <;> rfl
 rw [zce,zce,e2]
 refine ⟨k1,k2,_,⟨?_,fun n => ?_⟩,hx⟩
 . rw [put_hp,put_hp,k5]
 . by_cases h1 : ∃ t,di.dst = some t /\ n = t
   . obtain ⟨t,ht,rfl⟩ := h1
     rw [zl9 _ _ _ n (fun t' ht' e => (a1 n ht).2 (by rw [ht',<- e]))]
     simp only [ht,DS.put,zc,if_true,k4]
   . rw [zl9 (DS.put ⟨fr,hp⟩ dj.dst _) _ _ _ (fun t ht e => h1 ⟨t,ht,e⟩)]
     by_cases h2 : ∃ t,dj.dst = some t /\ n = t
     . obtain ⟨t,ht,rfl⟩ := h2
       simp only [ht,DS.put,zc,if_true,k3]
     . rw [zl9 _ _ _ _ (fun t ht e => h2 ⟨t,ht,e⟩),zl9 _ _ _ _ (fun t ht e => h2 ⟨t,ht,e⟩),zl9 _ _ _ _ (fun t ht e => h1 ⟨t,ht,e⟩)]
def dAny (C : Orc) (md : Region.Mode) (ops : Array Oper) (look : Nat -> Option DOper) (K : DS -> Prop) : Nat -> Array Bool -> DS -> Prop
 | 0,listed,s => Region.ready md ops listed = [] /\ Cl K s
 | f + 1,listed,s => (Region.ready md ops listed = [] -> Cl K s) /\ ∀ i ∈ Region.ready md ops listed,∃ d,look i = some d /\ zit C d s (fun s' => dAny C md ops look K f (listed.setIfInBounds i true) s')
section
variable {C : Orc} {md : Region.Mode} {ops : Array Oper} {look : Nat -> Option DOper} {K : DS -> Prop}
theorem z7v : ∀ {f : Nat} {listed : Array Bool} {s s' : DS},Eqv s s' -> dAny C md ops look K f listed s -> dAny C md ops look K f listed s'
 | 0,_,_,_,e,h => ⟨h.1,h.2.eqv e⟩
 | f + 1,_,_,_,e,h => ⟨fun h0 => (h.1 h0).eqv e,fun i hi => by
   obtain ⟨d,hd,hs⟩ := h.2 i hi
   exact ⟨d,hd,yf8 e (fun _ _ e' h' => z7v e' h') hs⟩⟩
theorem yau {seps : List (Nat × Nat)} (hkeep : ∀ j dj,look j = some dj -> ycg seps dj = true) {i : Nat} {di : DOper} (hi : look i = some di) {D : List Nat} (hiD : i ∈ D) (hD : ∀ j ∈ D,j ≠ i -> ∀ oj,ops[j]? = some oj -> ∃ e ∈ oj.after,Region.binds md e = true /\ e.on ∈ D) : ∀ (fuel : Nat) (listed : Array Bool) (s : DS),
   SepJ seps s -> (∀ j ∈ D,listed.getD j true = false) ->
   (∀ j dj,look j = some dj -> j ∉ D -> listed.getD j true = false -> ye2 seps di dj = true) ->
   i ∈ Region.ready md ops listed -> zit C di s (fun s1 => dAny C md ops look K fuel (listed.setIfInBounds i true) s1) -> dAny C md ops look K (fuel + 1) listed s := by
 intro fuel
 induction fuel with
 | zero =>
   intro listed s _ _ _ hr H
   refine ⟨fun h => (by rw [h] at hr; cases hr),fun j hj => ?_⟩
   by_cases hji : j = i
   . subst hji; exact ⟨di,hi,H⟩
   . have := ready_mono hj hji
     rw [zce] at H
     rw [H.2.1] at this
     cases this
 | succ fuel ih =>
   intro listed s hJ hun hfree hr H
   refine ⟨fun h => (by rw [h] at hr; cases hr),fun j hj => ?_⟩
   by_cases hji : j = i
   . subst hji; exact ⟨di,hi,H⟩
   . obtain ⟨hjun,oj,hoj,hall⟩ := mem_ready.1 hj
     have hjD : j ∉ D := fun hm => by
       obtain ⟨e,he,hb,heD⟩ := hD j hm hji oj hoj
       have h1 := hall e he hb
       have h0 := hun _ heD
       rcases Nat.lt_or_ge e.on listed.size with h' | h'
       . simp [h'] at h0 h1; rw [h0] at h1; cases h1
       . simp [Array.getElem?_eq_none h'] at h1
     have H' := H
     rw [zce] at H'
     obtain ⟨dj,hdj,_⟩ := H'.2.2 j (ready_mono hj hji)
     have hcomm := hfree j dj hdj hjD hjun
     have H2 : zit C di s (fun s1 => zit C dj s1 (fun s2 => dAny C md ops look K fuel ((listed.setIfInBounds i true).setIfInBounds j true) s2)) := by
       refine zyr (fun s1 h1 => ?_) H
       obtain ⟨d,hd,hs⟩ := h1.2 j (ready_mono hj hji)
       rw [hdj] at hd; injection hd with hd; subst hd
       exact hs
     have H3 := ya0 hcomm hJ H2
     rw [zce] at H3
     refine ⟨dj,hdj,(zce _ _ _ _).2 ⟨H3.1,?_⟩⟩
     have hJ1 := zyu (C := C) (hkeep j dj hdj) hJ H3.1
     generalize s.put dj.dst (dact C dj s) = s1 at H3 hJ1 |-
     have h1 := H3.2
     refine ih (listed.setIfInBounds j true) s1 hJ1 (fun k hk => ?_) (fun k dk hdk hkD hkun => ?_) (ready_mono hr (Ne.symm hji)) (zyr (fun s2 h2 => ?_) h1)
     . have hjk : j ≠ k := fun e => hjD (by rw [e]; exact hk)
       rw [getD_set_ne true hjk]; exact hun k hk
     . refine hfree k dk hdk hkD ?_
       by_cases hjk : j = k
       . subst hjk; exact hjun
       . rw [getD_set_ne true hjk] at hkun; exact hkun
     . rw [Array.setIfInBounds_comm _ _ hji]
       obtain ⟨s0,e0,h0⟩ := h2
       exact z7v e0 h0
def ybt (md : Region.Mode) (ops : Array Oper) (i : Nat) : List Nat -> List Nat -> List Nat
 | [],D => D
 | j :: r,D => ybt md ops i r (match ops[j]? with
   | some oj => if oj.after.any (fun e => Region.binds md e && D.contains e.on) then j :: D else D
   | none => D)
theorem zkz {i : Nat} : ∀ (l D : List Nat),i ∈ D -> (∀ j ∈ D,j ≠ i -> ∀ oj,ops[j]? = some oj -> ∃ e ∈ oj.after,Region.binds md e = true /\ e.on ∈ D) ->
   i ∈ ybt md ops i l D /\ ∀ j ∈ ybt md ops i l D,j ≠ i -> ∀ oj,ops[j]? = some oj -> ∃ e ∈ oj.after,Region.binds md e = true /\ e.on ∈ ybt md ops i l D
 | [],D,h1,h2 => ⟨h1,h2⟩
 | j :: r,D,h1,h2 => by
   unfold ybt
   cases ho : ops[j]? with
   | none => exact zkz r D h1 h2
   | some oj =>
     by_cases hc : oj.after.any (fun e => Region.binds md e && D.contains e.on) = true
     . simp only [if_pos hc]
       refine zkz r (j :: D) (List.mem_cons_of_mem _ h1) fun k hk hki ok hok => ?_
       rcases List.mem_cons.1 hk with rfl | hk
       . rw [ho] at hok; injection hok with hok; subst hok
         obtain ⟨e,he,hb⟩ := Array.any_eq_true'.1 hc
         simp only [Bool.and_eq_true,List.contains_eq_mem,decide_eq_true_eq] at hb
         exact ⟨e,he,hb.1,List.mem_cons_of_mem _ hb.2⟩
       . obtain ⟨e,he,hb,hD⟩ := h2 k hk hki ok hok
         exact ⟨e,he,hb,List.mem_cons_of_mem _ hD⟩
     . simp only [if_neg hc]
       exact zkz r D h1 h2
def z2y (l : List (Nat × DOper)) (i : Nat) : Option DOper := (l.find? (·.1 == i)).map (·.2)
def freeD (seps : List (Nat × Nat)) (md : Region.Mode) (ops : Array Oper) (all : List (Nat × DOper)) (listed : Array Bool) (i : Nat) (di : DOper) : Bool :=
 let D := ybt md ops i (List.range ops.size) [i]
 D.all (fun j => !listed.getD j true) && all.all fun x => D.contains x.1 || listed.getD x.1 true || ye2 seps di x.2
def lexD (seps : List (Nat × Nat)) (md : Region.Mode) (ops : Array Oper) (all : List (Nat × DOper)) : List (Nat × DOper) -> Array Bool -> Bool
 | [],listed => (Region.ready md ops listed).isEmpty
 | (i,d) :: r,listed => (Region.ready md ops listed).contains i && freeD seps md ops all listed i d && lexD seps md ops all r (listed.setIfInBounds i true)
theorem zut {l : List (Nat × DOper)} {i : Nat} {d : DOper} (h : z2y l i = some d) : (i,d) ∈ l := by
 unfold z2y at h
 rw [Option.map_eq_some_iff] at h
 obtain ⟨x,hx,rfl⟩ := h
 have h1 := List.find?_some hx
 have h2 := List.mem_of_find?_eq_some hx
 simp only [beq_iff_eq] at h1
 rw [<- h1]
 exact h2
theorem z91 {i : Nat} {d : DOper} : ∀ {l : List (Nat × DOper)},(l.map (·.1)).Nodup -> (i,d) ∈ l -> z2y l i = some d
 | [],_,h => by simp at h
 | x :: l,hn,h => by
   simp only [List.map_cons,List.nodup_cons] at hn
   unfold z2y
   rw [List.find?_cons]
   rcases List.mem_cons.1 h with e | h
   . subst e; simp
   . have hne : (x.1 == i) = false := by
       refine beq_eq_false_iff_ne.2 fun e => hn.1 ?_
       rw [e]
       exact List.mem_map.2 ⟨_,h,rfl⟩
     simp only [hne]
     exact z91 hn.2 h
theorem z8p {seps : List (Nat × Nat)} {all : List (Nat × DOper)} (hkp : all.all (fun x => ycg seps x.2) = true) (hn : (all.map (·.1)).Nodup) : ∀ (l : List (Nat × DOper)) (listed : Array Bool) (s : DS),(∀ x ∈ l,x ∈ all) -> lexD seps md ops all l listed = true -> SepJ seps s -> dops C (l.map (·.2)) s K -> dAny C md ops (z2y all) K l.length listed s
 | [],_,s,_,hB,_,h => ⟨by simpa [lexD] using hB,Cl.of h⟩
 | (i,d) :: l,listed,s,hl,hB,hJ,h => by
   have hkeep : ∀ j dj,z2y all j = some dj -> ycg seps dj = true := fun j dj hj => by
     have := List.all_eq_true.1 hkp _ (zut hj)
     exact this
   have h0 : z2y all i = some d := z91 hn (hl _ (by simp))
   simp only [lexD,Bool.and_eq_true] at hB
   obtain ⟨⟨hr,hf⟩,hB'⟩ := hB
   simp only [freeD,Bool.and_eq_true,List.all_eq_true,Bool.not_eq_true',Bool.or_eq_true,List.contains_eq_mem,decide_eq_true_eq] at hf
   obtain ⟨d1,d2⟩ := zkz (md := md) (ops := ops) (i := i) (List.range ops.size) [i] (by simp) (fun j hj hji => by simp at hj; exact absurd hj hji)
   have h' : zit C d s (fun s1 => dops C (l.map (·.2)) s1 K) := h
   rw [zce] at h'
   have hJ1 := zyu (C := C) (hkeep i d h0) hJ h'.1
   refine yau hkeep h0 d1 d2 l.length listed s hJ hf.1 (fun j dj hdj hjD hun => ?_) (by simpa using hr) ((zce _ _ _ _).2 ⟨h'.1,?_⟩)
   . rcases hf.2 _ (zut hdj) with (h1 | h1) | h1
     . exact absurd h1 hjD
     . rw [hun] at h1; cases h1
     . exact h1
   . exact z8p hkp hn l _ _ (fun x hx => hl x (List.mem_cons_of_mem _ hx)) hB' hJ1 h'.2
end
section
variable {P : Program} {K F0 : Nat -> Prop} {σ0 : Nat -> Option Nat} {hp0 : List DObj} {N : Nat} {w0 : World} {C : Orc}
theorem Cur.eqv [Inhabited Env] {s s' : DS} {a : Act} {w : World} (h : Cur K N F0 σ0 hp0 w0 s a w) (e : Eqv s' s) : Cur K N F0 σ0 hp0 w0 s' a w := by
 obtain ⟨K',F,σ,hKK,hs,hf,hN,hdef,hmv,hhm⟩ := h
 obtain ⟨e1,e2⟩ := e
 refine ⟨K',F,σ,hKK,by rw [e1]; exact hs,fun n => by rw [e2,e1]; exact hf n,hN,hdef,hmv,by rw [e1]; exact hhm⟩
theorem Cur.drew [Inhabited Env] {s : DS} {a : Act} {w : World} (h : Cur K N F0 σ0 hp0 w0 s a w) : Cur K N F0 σ0 hp0 w0 s a w.drew := by
 obtain ⟨K',F,σ,hKK,hs,hf,hN,hdef,hmv,hhm⟩ := h
 obtain ⟨h1,h2,h3⟩ := hs.ext (w' := w.drew) (F' := F) rfl rfl rfl (Nat.le_refl _) (fun _ _ => rfl) (fun _ h => h) (fun _ h => .inl h) hs.fb
 exact ⟨K',F,σ,hKK,h1,fun n => (hf n).mono h3,hN,hdef.move h2,hmv.trans (h2.weak hKK),hhm.trans h3⟩
def mAt (P : Program) (N : Nat) (ops : Array Oper) : List (Nat × DOper) -> Bool
 | [] => true
 | (i,d) :: r => (match ops[i]? with | some o => z05 P N ops o d | none => false) && mAt P N ops r
theorem yey {ops : Array Oper} {i : Nat} {d : DOper} : ∀ {l : List (Nat × DOper)},mAt P N ops l = true -> (i,d) ∈ l -> ∀ o,ops[i]? = some o -> z05 P N ops o d = true
 | [],_,h => by simp at h
 | x :: l,hm,h => by
   intro o ho
   simp only [mAt,Bool.and_eq_true] at hm
   rcases List.mem_cons.1 h with e | h
   . subst e
     have := hm.1
     simpa only [ho] using this
   . exact yey hm.2 h o ho
def z33 (P : Program) (N : Nat) (ops : Array Oper) (seps : List (Nat × Nat)) (l : List (Nat × DOper)) : Bool :=
 P.follows .mixedOrders && decide ((l.map (·.1)).Nodup) && (l.length == ops.size) && mAt P N ops l && l.all (fun x => ycg seps x.2) && lexD seps .any ops l l (Array.replicate ops.size false)
def z0k : Nat -> List DOper -> List (Nat × DOper)
 | _,[] => []
 | k,d :: r => (k,d) :: z0k (k + 1) r
theorem zl5 : ∀ (l : List DOper) (k : Nat),(z0k k l).map (·.2) = l
 | [],_ => rfl
 | d :: r,k => by simp [z0k,zl5 r (k + 1)]
end
end Go.Nk
set_option linter.all false
namespace Go.Nk
open Go.RowKit
def Fw (ro : Option Nat) : Fence := { Fence.wide with round := ro }
def zmw (o : Oper) : Bool := match o.op with | .defer _ => false | _ => true
def ze4 : Code -> Bool
 | .region _ ops _ => ops.all zmw
 | .seq a b => ze4 a && ze4 b
 | .cond _ a b => ze4 a && ze4 b
 | .block _ c => ze4 c
 | .loop c => ze4 c
 | .scope c => ze4 c
 | .rangeFunc .. => false
 | _ => true
theorem callsFw {ro : Option Nat} {n : Nat} {P : Program} {f : FuncId} {args : Array Value} {w : World} {R : Ending -> World -> Prop} (h : Calls P f args w R) : CallsIn (Fw ro) n P f args w R :=
 show CallsIn Fence.wide n P f args w R from callsIn_wide.2 h
theorem rowsFw {ro : Option Nat} {n : Nat} {P : Program} {row : String} {args : Array Value} {w : World} {R : Value -> World -> Prop} (h : _root_.Go.Rows P row args w R) : RowsIn (Fw ro) n P row args w R :=
 show RowsIn Fence.wide n P row args w R from fun c cs _ => let ⟨v,w',r,s⟩ := h c cs; ⟨v,w',r,stepsIn_wide.2 s⟩
theorem opIn {P : Program} {o : Oper} {a : Act} {w : World} {Kn : Act -> World -> Prop} {Q : Exit -> Act -> World -> Prop} {ro : Option Nat} {n : Nat} (hd : ro = none \/ zmw o = true) (h : o.wp P a w Kn Q) : o.wpIn (Fw ro) n P a w Kn Q := by
 unfold Oper.wp at h
 refine ⟨fun _ _ => trivial,?_⟩
 have e : o.semAt (Fw ro).round a.eval = execOp a.eval o := by
   rcases hd with rfl | hd
   . rfl
   . refine Oper.semAt_eq _ _ _ fun c hc => ?_
     simp [zmw,hc] at hd
 rw [e]
 generalize (execOp a.eval o).run P w = r at h |-
 cases r with
 | ok x w' =>
   cases x with
   | value v => exact h
   | skip => exact h
   | defer d => exact h
   | enter f args =>
     rw [Oper.upon_enter] at h
     rw [Oper.uponIn_enter]
     exact ⟨fun hh => by simp [Fw,Fence.wide] at hh,callsFw (h.mono fun e w'' hr => by cases e <;> exact hr)⟩
   | row row args =>
     rw [Oper.upon_row] at h
     rw [Oper.uponIn_row]
     exact ⟨fun hh => by simp [Fw,Fence.wide] at hh,rowsFw h⟩
   | _ => exact h.elim
 | halt x w' =>
   cases x with
   | panic v => exact h
   | _ => exact h.elim
theorem zfb {P : Program} {b : Frame} {a : Act} {k : List Item} {cs : List Frame} {w : World} {c : Code} : step P (lone (b.atR a (.code (.scope c) :: k)) cs w) = .next (lone (b.atR a (.code c :: .inScope c :: k)) cs w) :=
 step_lone_go (by simp [stepG,stepG.exec,Frame.atR])
theorem z09 {P : Program} {b : Frame} {a : Act} {k : List Item} {cs : List Frame} {w : World} {c : Code} : step P (lone (b.atR a (.inScope c :: k)) cs w) = .next (lone (b.atR a k) cs w) :=
 step_lone_go (by simp [stepG,stepG.exec,Frame.atR])
theorem zl4 {F : Fence} {n : Nat} {P : Program} {c : Code} {Q : Exit -> Act -> World -> Prop} {a : Act} {w : World} (h : c.wpIn F n P (Exit.noGoto Q) a w) : (Code.scope c).wpIn F n P Q a w := by
 intro b k cs hro hb hr
 have h0 : (lone (b.atR a (.code (.scope c) :: k)) cs w).fenced P F := fenced_calm hb hr rfl
 obtain ⟨e,a₁,w₁,hq,harr⟩ := h b (.inScope c :: k) cs hro hb hr
 have h1 : (lone (b.atR a₁ (.inScope c :: k)) cs w₁).fenced P F := fenced_calm hb hr rfl
 cases e with
 | normal => exact ⟨.normal,a₁,w₁,hq,.head h0 zfb (StepsIn.trans harr (.one h1 z09))⟩
 | exit id =>
   refine ⟨.exit id,a₁,w₁,hq,fun k' hk => .head h0 zfb (harr.1 k' (by simp [exitTo,hk])),fun hr' hk => ?_⟩
   obtain ⟨k₁,h2,h3⟩ := harr.2 hr' (by simp [exitTo,hk])
   exact ⟨k₁,h2,.head h0 zfb h3⟩
 | goto l => exact hq.elim
 | ret => exact ⟨_,a₁,w₁,hq,.of_steps (.one h0 zfb) harr⟩
 | panic ch => exact ⟨_,a₁,w₁,hq,.of_steps (.one h0 zfb) harr⟩
 | outgrown => exact ⟨_,a₁,w₁,hq,.of_steps (.one h0 zfb) harr⟩
section
variable {P : Program} {K F0 : Nat -> Prop} {σ0 : Nat -> Option Nat} {hp0 : List DObj} {N : Nat} {w0 : World} {C : Orc}
theorem zt5 [Inhabited Env] (hC : C.ok P) {ro : Option Nat} {n : Nat} {ops : Array Oper} {Q : Exit -> Act -> World -> Prop} {Kd : DS -> Prop} (hK : ∀ s' a' w',Cur K N F0 σ0 hp0 w0 s' a' w' -> Kd s' -> Q .normal a' w') : ∀ {l : List Oper} {dl : List DOper} {s : DS} {a : Act} {w : World},
   (ro = none \/ l.all zmw = true) -> zlk P N ops l dl = true -> Cur K N F0 σ0 hp0 w0 s a w -> dops C dl s Kd -> wpListIn (Fw ro) n P ops Q l a w
 | [],[],s,a,w,_,_,hc,h => hK s a w hc h
 | o :: l,d :: dl,s,a,w,hp,hm,hc,h => by
   simp only [zlk,Bool.and_eq_true] at hm
   simp only [List.all_cons,Bool.and_eq_true] at hp
   have := zzb hC hm.1 hc h (Kn := wpListIn (Fw ro) n P ops Q l) (Q := Q) (fun s' a' w' hc' h' => zt5 hC hK (hp.imp id (·.2)) hm.2 hc' h')
   unfold wpListIn
   split at this
   . rename_i hw; rw [if_pos hw]; exact opIn (hp.imp id (·.1)) this
   . rename_i hw; rw [if_neg hw]; exact ⟨fun _ _ => trivial,this⟩
 | [],_ :: _,_,_,_,_,hm,_,_ => by simp [zlk] at hm
 | _ :: _,[],_,_,_,_,hm,_,_ => by simp [zlk] at hm
theorem zvd [Inhabited Env] (hC : C.ok P) {ro : Option Nat} {n : Nat} {md : Region.Mode} {ops : Array Oper} (hp : ro = none \/ ops.all zmw = true) {all : List (Nat × DOper)} (hm : mAt P N ops all = true) {Q : Exit -> Act -> World -> Prop} {Kd : DS -> Prop} (hK : ∀ s' a' w',Cur K N F0 σ0 hp0 w0 s' a' w' -> Kd s' -> Q .normal a' w') :
   ∀ (f : Nat) (listed : Array Bool) (s : DS) (a : Act) (w : World),Cur K N F0 σ0 hp0 w0 s a w -> dAny C md ops (z2y all) Kd f listed s -> wpAnyIn (Fw ro) n P md ops Q f listed a w
 | 0,listed,s,a,w,hc,h => ⟨h.1,let ⟨s0,e,hk⟩ := h.2; hK s0 a w (hc.eqv e) hk⟩
 | f + 1,listed,s,a,w,hc,h => by
   refine ⟨fun h0 => let ⟨s0,e,hk⟩ := h.1 h0; hK s0 a w (hc.eqv e) hk,fun i hi => ?_⟩
   obtain ⟨d,hd,hs⟩ := h.2 i hi
   obtain ⟨_,o,ho,_⟩ := mem_ready.1 hi
   have hmo := yey hm (zut hd) o ho
   unfold wpOpIn
   simp only [ho]
   have hpo : ro = none \/ zmw o = true := hp.imp id fun h => by
     have := Array.all_eq_true.1 h i (Array.getElem?_eq_some_iff.1 ho).1
     rwa [(Array.getElem?_eq_some_iff.1 ho).2] at this
   have := zzb hC hmo hc hs (Kn := wpAnyIn (Fw ro) n P md ops Q f (listed.setIfInBounds i true)) (Q := Q) (fun s' a' w' hc' h' => zvd hC hp hm hK f _ s' a' w' hc' h')
   split at this
   . rename_i hw; rw [if_pos hw]; exact opIn hpo this
   . rename_i hw; rw [if_neg hw]; exact ⟨fun _ _ => trivial,this⟩
theorem zen [Inhabited Env] (hC : C.ok P) {ro : Option Nat} {n : Nat} {id : Nat} {ops : Array Oper} (hp : ro = none \/ ops.all zmw = true) {seps : List (Nat × Nat)} {l : List (Nat × DOper)} (hm : z33 P N ops seps l = true)
   {Q : Exit -> Act -> World -> Prop} {Kd : DS -> Prop} (hK : ∀ s' a' w',Cur K N F0 σ0 hp0 w0 s' a' w' -> Kd s' -> Q .normal a' w') {s : DS} {a : Act} {w : World} (hc : Cur K N F0 σ0 hp0 w0 s a w) (hJ : SepJ seps s) (h : dops C (l.map (·.2)) s Kd) :
   (Code.region id ops true).wpIn (Fw ro) n P Q a w := by
 simp only [z33,Bool.and_eq_true,decide_eq_true_eq,beq_iff_eq] at hm
 obtain ⟨⟨⟨⟨⟨hmix,hn⟩,hlen⟩,hmo⟩,hkp⟩,hlex⟩ := hm
 refine wpIn_region_any hmix ?_
 have := zvd (ro := ro) (n := n) hC hp hmo hK l.length (Array.replicate ops.size false) s a w.drew hc.drew (z8p hkp hn l _ s (fun _ h => h) hlex hJ h)
 rw [hlen] at this
 exact this
theorem SimH.turn [Inhabited Env] {K K' F F' : Nat -> Prop} {σ : Nat -> Option Nat} {hp : List DObj} {w w' : World} (hs : SimH K F σ hp w) (size : w.heap.size <= w'.heap.size) (keep : ∀ b,F b -> w'.heap[b]? = w.heap[b]?) (heap : ∀ b,b < w.heap.size -> ¬ K b -> w'.heap[b]? = w.heap[b]?)
   (hF : ∀ b,F b -> F' b) (newF : ∀ b,F' b -> F b \/ K b \/ w.heap.size <= b) (newK : ∀ b,K' b -> K b \/ w.heap.size <= b) (fb : ∀ b,F' b -> b < w'.heap.size) (kb : ∀ b,K' b -> b < w'.heap.size) :
   SimH K' F' σ hp w' /\ HM F σ hp w F' σ hp w' := by
 have same : ∀ (h : Nat) (o : DObj) (g : Nat),hp[h]? = some o -> o.k ≠ .dead -> σ h = some g -> w'.heap[g]? = w.heap[g]? := by
   intro h o g ho hd hg
   by_cases hm : o.k.mut
   . exact heap g (hs.blk_lt ho hd hg) (hs.mut_nF ho hm hg).2
   . exact keep g (hs.frz_F ho (mut_or _ hd hm) hg)
 have hm : HM F σ hp w F' σ hp w' := ⟨hF,keep,Nat.le_refl _,fun h o ho => ⟨o,ho,Nat.le_refl _,fun hd _ => ⟨hd,rfl,rfl,fun g hg => ygh (same h o g ho hd hg)⟩⟩⟩
 refine ⟨⟨fun h o ho => ?_,hs.inj,fb,kb,hs.tab.mono hm.keepF hm.mono⟩,hm⟩
 have old := hs.obj _ _ ho
 have nF : ∀ g,g < w.heap.size -> ¬ F g -> ¬ K g -> ¬ F' g := fun g hl h1 h2 hF => (newF g hF).elim h1 (fun h => h.elim h2 (fun h => by omega))
 have nK : ∀ g,g < w.heap.size -> ¬ K g -> ¬ K' g := fun g hl h1 hk => (newK g hk).elim h1 (fun h => by omega)
 unfold ORep at old |-
 split
 . trivial
 . rename_i hkk
   rw [hkk] at old; dsimp only at old
   rcases old with ⟨h0,h1⟩ | ⟨g,hg,h1,h2,hb⟩
   . exact .inl ⟨h0,h1⟩
   . exact .inr ⟨g,hg,nF g hb.lt h1 h2,nK g hb.lt h2,hb.mono (same h o g ho (by rw [hkk]; simp) hg) fun d v h => ⟨h.1.mono hm.mono hm.keepF,h.2⟩⟩
 . rename_i hkk
   rw [hkk] at old; dsimp only at old
   rcases old with ⟨h0,h1⟩ | ⟨g,hg,h1,hb⟩
   . exact .inl ⟨h0,h1⟩
   . exact .inr ⟨g,hg,hF _ h1,hb.mono (same h o g ho (by rw [hkk]; simp) hg) fun d v h => ⟨h.1.mono hm.mono hm.keepF,h.2⟩⟩
 . rename_i hkk
   rw [hkk] at old; dsimp only at old
   obtain ⟨g,hg,h1,h2,hb⟩ := old
   exact ⟨g,hg,nF g hb.lt h1 h2,nK g hb.lt h2,hb.mono (same h o g ho (by rw [hkk]; simp) hg) fun d v h => h.mono hm⟩
 . rename_i hkk
   rw [hkk] at old; dsimp only at old
   obtain ⟨h0,g,hg,h1,h2,hb⟩ := old
   exact ⟨h0,g,hg,nF g hb.lt h1 h2,nK g hb.lt h2,hb.mono (same h o g ho (by rw [hkk]; simp) hg) fun d v h => ⟨h.1.mono hm.mono hm.keepF,h.2⟩⟩
theorem Moves.put {K F : Nat -> Prop} {w : World} {L : Nat} {o : Obj} (hK : ¬ K L) (hF : ¬ F L) : Moves K F w F (w.putObj L o) :=
 ⟨rfl,rfl,rfl,by simp,fun b hb => World.putObj_heap_other (fun e => hK (e ▸ hb)),fun b hb => World.putObj_heap_other (fun e => hF (e ▸ hb)),fun _ h => h,fun _ h => .inl h⟩
theorem zfo.weak {K0 K K' F : Nat -> Prop} {w : World} (hK : ∀ b,K b -> K' b) : ∀ {ds : List Deferred},zfo K0 K F w ds -> zfo K0 K' F w ds
 | [],_ => trivial
 | d :: ds,h => by
   obtain ⟨⟨D,h1,h2,h3⟩,h4⟩ := h
   exact ⟨⟨D,h1,hK D h2,h3⟩,h4.weak hK⟩
theorem zfo.put {K0 K F : Nat -> Prop} {w : World} {D : Nat} {o : Obj} : ∀ {ds : List Deferred},zfo K0 K F w ds -> ({ target := .collected D,args := #[] } : Deferred) ∉ ds -> zfo K0 K F (w.putObj D o) ds
 | [],_,_ => trivial
 | d :: ds,h,hn => by
   obtain ⟨⟨D',h1,h2,h3,h4,h5⟩,h6⟩ := h
   refine ⟨⟨D',h1,h2,h3,(World.putObj_heap_other fun e => ?_).trans h4,h5⟩,h6.put fun h => hn (List.mem_cons_of_mem _ h)⟩
   subst e; exact hn (h1 ▸ List.mem_cons_self)
theorem zfo.mem {K0 K F : Nat -> Prop} {w : World} : ∀ {ds : List Deferred},zfo K0 K F w ds -> ∀ d ∈ ds,∃ D,d = { target := .collected D,args := #[] } /\ K D
 | [],_,d,hd => by cases hd
 | d :: ds,h,e,he => by
   rcases List.mem_cons.1 he with rfl | he
   . exact ⟨h.1.choose,h.1.choose_spec.1,h.1.choose_spec.2.1⟩
   . exact h.2.mem e he
theorem zfo.at {K0 K F : Nat -> Prop} {w : World} : ∀ {ds : List Deferred},zfo K0 K F w ds -> ∀ d ∈ ds,∃ D,d = { target := .collected D,args := #[] } /\ w.heap[D]? = some (.deferred (some []))
 | [],_,d,hd => by cases hd
 | d :: ds,h,e,he => by
   rcases List.mem_cons.1 he with rfl | he
   . exact ⟨h.1.choose,h.1.choose_spec.1,h.1.choose_spec.2.2.2.1⟩
   . exact h.2.at e he
theorem z8g (p : Nat) (d : DV) (fr : List (Nat × DV)) : ∀ (l : List (Nat × DV)),(∀ x ∈ l,x.1 ≠ p) -> ∀ n,get n (l ++ (p,d) :: fr) = get n ((p,d) :: (l ++ fr))
 | [],_,n => rfl
 | (q,e) :: l,h,n => by
   have ih := z8g p d fr l (fun x hx => h x (List.mem_cons_of_mem _ hx)) n
   have hq : q ≠ p := h (q,e) List.mem_cons_self
   simp only [List.cons_append,zc,ih]
   by_cases h1 : n = q
   . subst h1; simp [hq]
   . simp [h1]
theorem zy1 {R : DV -> Value -> Prop} : ∀ (ps : List Nat) (x : List DV) (vs : List Value) (tm : Array Value) (fr : List (Nat × DV)),ps.Nodup -> All2 R x vs -> x.length = ps.length -> (∀ p ∈ ps,p < tm.size) ->
   (∀ n,R (get n fr) (tm.getD n undef)) -> ∀ n,R (get n (ps.zip x ++ fr)) (((ps.zip vs).foldl (fun t (y : Nat × Value) => t.setIfInBounds y.1 y.2) tm).getD n undef)
 | [],x,vs,tm,fr,_,_,hl,_,h,n => by simpa using h n
 | p :: ps,[],vs,tm,fr,_,_,hl,_,_,n => by simp at hl
 | p :: ps,d :: x,vs,tm,fr,hn,hv,hl,hp,h,n => by
   obtain ⟨v,vs',rfl,h0,h1⟩ := hv.cons
   rw [List.nodup_cons] at hn
   have := zy1 ps x vs' (tm.setIfInBounds p v) ((p,d) :: fr) hn.2 h1 (by simpa using hl) (fun q hq => by simpa using hp q (List.mem_cons_of_mem _ hq)) (fun n => by
     rw [zc]
     have hpl := hp p List.mem_cons_self
     by_cases e : n = p
     . subst e; rw [if_pos rfl]; simpa [Array.getD,hpl] using h0
     . rw [if_neg e]
       have e2 : (tm.setIfInBounds p v).getD n undef = tm.getD n undef := by simp [Array.getElem?_setIfInBounds_ne (Ne.symm e)]
       rw [e2]; exact h n) n
   rw [z8g p d fr (ps.zip x) (fun y hy => by
     have := (List.of_mem_zip hy).1
     intro e; rw [e] at this; exact hn.1 this)] at this
   simpa using this
end
end Go.Nk
set_option linter.all false
namespace Go.Nk
open Go.RowKit
section
variable {P : Program} {K F : Nat -> Prop} {σ : Nat -> Option Nat} {hp : List DObj} {w : World}
theorem hm0 {F : Nat -> Prop} {σ : Nat -> Option Nat} {hp : List DObj} {w : World} : HM F ze2 [] w F σ hp w :=
 ⟨fun _ h => h,fun _ _ => rfl,Nat.zero_le _,fun h o ho => by simp at ho⟩
theorem zwx {F : Nat -> Prop} {σ : Nat -> Option Nat} {hp : List DObj} {w : World} {d : DV} {v : Value} (h : VRep F σ hp w d v) (hd : d.immB = true) : VRep F ze2 [] w d v := by
 cases h with
 | imm h => exact .imm h
 | _ => simp [DV.immB] at hd
theorem SimH.kill [Inhabited Env] (hs : SimH K F σ hp w) {h g : Nat} {o : DObj} (ho : hp[h]? = some o) (hk : o.k.mut) (hg : σ h = some g) :
   SimH (fun b => K b \/ b = g) F σ (hp.set h { o with k := .dead }) w /\ HM F σ hp w F σ (hp.set h { o with k := .dead }) w := by
 have hlt := zay ho
 have hget : ∀ k : Nat,(hp.set h { o with k := .dead })[k]? = if k = h then some { o with k := .dead } else hp[k]? := by
   intro k
   by_cases e : k = h
   . subst e; rw [if_pos rfl]; simp [hlt]
   . rw [if_neg e,List.getElem?_set_ne (Ne.symm e)]
 generalize hgen : hp.set h { o with k := .dead } = hp2 at *
 have hl2 : hp2.length = hp.length := by rw [<- hgen]; simp
 have hd : o.k ≠ .dead := z8a hk
 have hm : HM F σ hp w F σ hp2 w := by
   refine ⟨fun _ h => h,fun _ _ => rfl,by omega,fun k o' ho' => ?_⟩
   rw [hget]
   by_cases e : k = h
   . subst e
     rw [ho] at ho'; injection ho' with ho'; subst ho'
     rw [if_pos rfl]
     exact ⟨_,rfl,Nat.le_refl _,fun hd => absurd rfl hd⟩
   . rw [if_neg e]
     exact ⟨o',ho',Nat.le_refl _,fun hd _ => ⟨hd,rfl,rfl,fun _ _ => rfl⟩⟩
 refine ⟨⟨fun k o' ho' => ?_,fun k1 k2 o1 o2 g' e1 m1 e2 m2 s1 s2 => ?_,hs.fb,fun b hb => hb.elim (hs.kb b) fun e => e ▸ hs.blk_lt ho hd hg,hs.tab⟩,hm⟩
 . rw [hget] at ho'
   by_cases e : k = h
   . rw [if_pos e] at ho'; injection ho' with ho'; subst ho'
     unfold ORep; trivial
   . rw [if_neg e] at ho'
     have old := hs.obj k o' ho'
     have ne : ∀ g',o'.k.mut -> σ k = some g' -> g' ≠ g := fun g' hm hg' e2 => e (hs.inj k h o' o g ho' hm ho hk (e2 ▸ hg') hg)
     unfold ORep at old |-
     split
     . trivial
     . rename_i hkk
       rw [hkk] at old; dsimp only at old
       rcases old with h0 | ⟨g',h1,h2,h3,h4⟩
       . exact .inl h0
       . exact .inr ⟨g',h1,h2,fun hh => hh.elim h3 (ne g' (.inl hkk) h1),h4⟩
     . rename_i hkk
       rw [hkk] at old; dsimp only at old
       exact old
     . rename_i hkk
       rw [hkk] at old; dsimp only at old
       obtain ⟨g',h1,h2,h3,h4⟩ := old
       exact ⟨g',h1,h2,fun hh => hh.elim h3 (ne g' (zl7 hkk) h1),h4.mono rfl fun d v hr => hr.mono hm⟩
     . rename_i hkk
       rw [hkk] at old; dsimp only at old
       obtain ⟨h0,g',h1,h2,h3,h4⟩ := old
       exact ⟨h0,g',h1,h2,fun hh => hh.elim h3 (ne g' (.inr (.inr ⟨_,hkk⟩)) h1),h4⟩
 . rw [hget] at e1 e2
   by_cases q1 : k1 = h
   . rw [if_pos q1] at e1; injection e1 with e1; subst e1
     rcases m1 with m1 | m1 | ⟨_,m1⟩ <;> cases m1
   by_cases q2 : k2 = h
   . rw [if_pos q2] at e2; injection e2 with e2; subst e2
     rcases m2 with m2 | m2 | ⟨_,m2⟩ <;> cases m2
   rw [if_neg q1] at e1
   rw [if_neg q2] at e2
   exact hs.inj k1 k2 o1 o2 g' e1 m1 e2 m2 s1 s2
def CapR (F : Nat -> Prop) (σ : Nat -> Option Nat) (hp : List DObj) (w : World) (d : DV) (v : Value) : Prop :=
 (d.immB = true -> VRep F ze2 [] w d v) /\ ∀ h L i j,d = .ptr h L i j -> (∃ o,hp[h]? = some o) -> VRep F σ hp w d v
theorem capR_of {d : DV} {v : Value} (h : VRep F σ hp w d v) : CapR F σ hp w d v := ⟨zwx h,fun _ _ _ _ _ _ => h⟩
theorem capR_cut {d : DV} {v : Value} (h : VRep F σ hp w d v) (m : Nat) : CapR F σ ((hp.take m).map (DObj.cut m)) w d v := by
 refine ⟨zwx h,?_⟩
 rintro k L i j rfl ⟨o,ho⟩
 have := h.cutV m
 have hl := (zm0 ho).1
 have e : (DV.ptr k L i j).cut m = .ptr k L i j := by simp [DV.cut,DV.inB,hl]
 rwa [e] at this
theorem zx6 [Inhabited Env] (hs : SimH K F σ hp w) : ∀ {caps : List DV} {cv : List Value},All2 (CapR F σ hp w) caps cv -> (zbm hp caps).1 ->
   ∃ (B : Nat -> Prop) (σ' : Nat -> Option Nat),(∀ b,B b -> b < w.heap.size /\ ¬ F b /\ ¬ K b) /\ SimH (fun b => K b \/ B b) F σ (zbm hp caps).2.2 w /\ HM F σ hp w F σ (zbm hp caps).2.2 w /\
     SimH (fun b => b < w.heap.size /\ ¬ B b) F σ' (zd3 (zbm hp caps).2.1).2 w /\ All2 (VRep F σ' (zd3 (zbm hp caps).2.1).2 w) (zd3 (zbm hp caps).2.1).1 cv
 | [],cv,hv,_ => by
   refine ⟨fun _ => False,ze2,fun b hb => hb.elim,hs.weak fun b hb => hb.elim id False.elim,.refl _ _ _ _,⟨fun h o ho => by simp [zbm,zd3] at ho,fun h h' o o' g e1 => by simp [zbm,zd3] at e1,hs.fb,fun b hb => hb.1,hs.tab⟩,?_⟩
   exact ⟨hv.1,fun j d hd => by simp [zbm,zd3] at hd⟩
 | d :: r,cv,hv,hc => by
   obtain ⟨v,cv',rfl,h0,h1⟩ := hv.cons
   by_cases hd : ∃ h L i j,d = .ptr h L i j
   . obtain ⟨h,L,i,j,rfl⟩ := hd
     unfold zbm at hc |-
     cases ho : hp[h]? with
     | none => simp [ho] at hc
     | some o =>
       simp only [ho] at hc |-
       obtain ⟨hk,hl,rfl,rfl,rfl,him,hr⟩ := hc
       have hvr := h0.2 h 1 0 0 rfl ⟨o,ho⟩
       obtain ⟨_,hx⟩ := hvr.ptr_inv
       obtain ⟨_,hx⟩ := hx o ho
       obtain ⟨g,hg,hvv⟩ := hx (by rw [hk]; simp) hl
       have old := hs.obj h o ho
       unfold ORep at old
       rw [hk] at old; dsimp only at old
       obtain ⟨g',hg',nF,nK,c,ty,e1,e2,e3,e4⟩ := old
       rw [hg] at hg'; injection hg' with hg'; subst hg'
       have hglt := hs.blk_lt ho (by rw [hk]; simp) hg
       obtain ⟨k1,k2⟩ := hs.kill ho (zl7 hk) hg
       have hrow : o.es[0]? = some (o.es.getD 0 []) := by
         cases he : o.es with
         | nil => simp [he] at hl
         | cons x y => simp
       have hz : (o.es.getD 0 []).length = o.z := e3 0 _ hrow
       generalize hrw : o.es.getD 0 [] = row at *
       have hs2 : SimH (fun b => b < w.heap.size /\ ¬ b = g) F (fun k => if k = 0 then some g else none) [⟨.loc,row.length,[row]⟩] w := by
         refine ⟨fun k o' ho' => ?_,fun k1 k2 o1 o2 g' a1 m1 a2 m2 s1 s2 => ?_,hs.fb,fun b hb => hb.1,hs.tab⟩
         . have hk0 : k = 0 := by
             rcases Nat.eq_zero_or_pos k with e | e
             . exact e
             . rw [List.getElem?_eq_none (by simp; omega)] at ho'; cases ho'
           subst hk0
           simp only [List.getElem?_cons_zero,Option.some.injEq] at ho'
           subst ho'
           unfold ORep; dsimp only
           refine ⟨g,if_pos rfl,nF,fun hh => hh.2 rfl,c,ty,e1,?_,fun i e he => ?_,fun i j d hd => ?_⟩
           . rw [hl,Nat.one_mul] at e2; simpa [hz] using e2
           . have : e = row := by
               rcases Nat.eq_zero_or_pos i with q | q
               . subst q; simpa using he.symm
               . rw [List.getElem?_eq_none (by simp; omega)] at he; cases he
             rw [this]
           . have hi0 : i = 0 := by
               rcases Nat.eq_zero_or_pos i with e | e
               . exact e
               . unfold z1 at hd; rw [List.getElem?_eq_none (by simp; omega)] at hd; cases hd
             subst hi0
             have hd' : row[j]? = some d := by simpa [z1] using hd
             obtain ⟨u,hu,hru⟩ := e4 0 j d (by simp [z1,hrow,hd'])
             refine ⟨u,by rw [Nat.zero_mul] at hu |-; exact hu,(zwx hru (him d (List.mem_of_getElem? hd'))).mono hm0⟩
         . have z : ∀ {k : Nat} {o' : DObj},[(⟨.loc,row.length,[row]⟩ : DObj)][k]? = some o' -> k = 0 := fun {k o'} hh => by
             rcases Nat.eq_zero_or_pos k with e | e
             . exact e
             . rw [List.getElem?_eq_none (by simp; omega)] at hh; cases hh
           rw [z a1,z a2]
       refine ⟨fun b => b = g,_,fun b hb => hb ▸ ⟨hglt,nF,nK⟩,k1,k2,by simpa only [zd3] using hs2,?_⟩
       simp only [zd3]
       refine .mk_cons ?_ ⟨h1.1,fun j d hd => ?_⟩
       . rw [hvv]
         refine .ptr 0 1 0 0 _ rfl (by simp) fun o' ho' => ?_
         simp only [List.getElem?_cons_zero,Option.some.injEq] at ho'
         subst ho'
         exact ⟨by simp,fun _ _ => ⟨g,if_pos rfl,by simp⟩⟩
       . obtain ⟨u,hu,hru⟩ := h1.2 j d hd
         exact ⟨u,hu,(hru.1 (List.all_eq_true.1 hr d (List.mem_of_getElem? hd))).mono hm0⟩
   . have e1 : zbm hp (d :: r) = (d.immB = true /\ (zbm hp r).1,d :: (zbm hp r).2.1,(zbm hp r).2.2) := by
       cases d <;> first | rfl | exact absurd ⟨_,_,_,_,rfl⟩ hd
     rw [e1] at hc |-
     have e2 : ∀ x : List DV,zd3 (d :: x) = (d :: (zd3 x).1,(zd3 x).2) := fun x => by
       have := hc.1
       cases d <;> first | rfl | simp [DV.immB] at this
     obtain ⟨B,σ',h2,h3,h4,h5,h6⟩ := zx6 hs h1 hc.2
     dsimp only
     rw [e2]
     exact ⟨B,σ',h2,h3,h4,h5,.mk_cons ((h0.1 hc.1).mono hm0) h6⟩
end
end Go.Nk
set_option linter.all false
namespace Go.Nk
open Go.RowKit
section
variable {P : Program} {K F0 : Nat -> Prop} {σ0 : Nat -> Option Nat} {hp0 : List DObj} {N : Nat} {w0 : World} {C : Orc}
def zb6 (P : Program) (N : Nat) : Code -> DCode -> Bool
 | .skip,.skip => true
 | .region _ ops draw,.ops draw' dl => draw == draw' && (if draw then z33 P N ops [] (z0k 0 dl) else zlk P N ops ops.toList dl)
 | .region _ ops draw,.opsP l => draw && z33 P N ops [] l
 | .region _ ops draw,.opsS seps l => draw && z33 P N ops seps l
 | .seq a b,.seq a' b' => zb6 P N a a' && zb6 P N b b'
 | .cond c a b,.cond c' a' b' => mArg c c' && zb6 P N a a' && zb6 P N b b'
 | .block id c,.block id' c' => id == id' && zb6 P N c c'
 | .loop c,.loop _ _ c' => zb6 P N c c'
 | c,.cut _ _ c' => zb6 P N c c'
 | c,.gown _ _ _ c' => zb6 P N c c'
 | c,.rsv c' => zb6 P N c c'
 | .scope c,.scope c' => zb6 P N c c'
 | .rangeFunc f qs asg c,.rangeF _ _ g ps asg' c' => mArg f g && qs.toList == ps && decide ps.Nodup && ps.all (fun p => decide (p < N)) && ze4 asg && ze4 c && zb6 P N asg asg' && zb6 P N c c'
 | .label _,.skip => true
 | _,.bad => true
 | .exit id,.exit id' => id == id'
 | .ret,.ret => true
 | _,_ => false
def QQ [Inhabited Env] (K : Nat -> Prop) (N : Nat) (F0 : Nat -> Prop) (σ0 : Nat -> Option Nat) (hp0 : List DObj) (w0 : World) (Q : DExit -> DS -> Prop) : Exit -> Act -> World -> Prop
 | .normal,a,w => ∃ s,Cur K N F0 σ0 hp0 w0 s a w /\ Q .normal s
 | .exit id,a,w => ∃ s,Cur K N F0 σ0 hp0 w0 s a w /\ Q (.exit id) s
 | .ret,a,w => ∃ s,Cur K N F0 σ0 hp0 w0 s a w /\ Q .ret s
 | _,_,_ => False
def JR [Inhabited Env] (K F1 : Nat -> Prop) (σ1 : Nat -> Option Nat) (hp1 : List DObj) (w1 : World) (D L : Nat) (rec : LoopState -> Option Code -> Loop) (I : Nat -> List DObj -> Prop) (X : Code -> List DObj -> Prop) : Option Nat -> (Nat -> Prop) -> (Nat -> Prop) -> World -> Prop := fun k F B W =>
 W.heap[D]? = some (.deferred (some [])) /\ ¬ F D /\ ¬ F L /\ ¬ B D /\ ¬ B L /\ (∀ b,K b -> ¬ B b) /\
 ∃ σ hp,SimH (fun b => (K b \/ b = D \/ b = L) \/ B b) F σ hp W /\ Moves K F1 w1 F W /\ HM F1 σ1 hp1 w1 F σ hp W /\
   match k with
   | some k => W.heap[L]? = some (.loop (rec .ready none)) /\ I k hp
   | none => ∃ jc,W.heap[L]? = some (.loop (rec .done (some jc))) /\ X jc hp
theorem JR.abide [Inhabited Env] {K F1 : Nat -> Prop} {σ1 : Nat -> Option Nat} {hp1 : List DObj} {w1 : World} {D L : Nat} {rec : LoopState -> Option Code -> Loop} {I : Nat -> List DObj -> Prop} {X : Code -> List DObj -> Prop} : zlq (JR K F1 σ1 hp1 w1 D L rec I X) := by
 intro k F B W F' B' W' h st
 obtain ⟨hD,fD,fL,bD,bL,hKB,σ,hp,hs,hmv,hhm,hk⟩ := h
 have ltD : D < W.heap.size := (Array.getElem?_eq_some_iff.1 hD).1
 have ltL : L < W.heap.size := by
   cases k with
   | some k => exact (Array.getElem?_eq_some_iff.1 hk.1).1
   | none => obtain ⟨jc,h1,_⟩ := hk; exact (Array.getElem?_eq_some_iff.1 h1).1
 have hK : ∀ b,K b -> b < W.heap.size := fun b hb => hs.kb b (.inl (.inl hb))
 obtain ⟨hs',hm'⟩ := hs.turn (K' := fun b => (K b \/ b = D \/ b = L) \/ B' b) (F' := F') st.size st.keepF (fun b hb hk => st.heap b hb fun h => hk (.inr h)) st.mono
   (fun b hb => (st.new b hb).imp id (fun h => h.imp .inr id)) (fun b hb => hb.elim (fun h => .inl (.inl h)) fun h => (st.own b h).imp .inr id) st.fb
   (fun b hb => hb.elim (fun h => Nat.lt_of_lt_of_le (h.elim (hK b) (fun h => h.elim (fun h => h ▸ ltD) fun h => h ▸ ltL)) st.size) (st.bb b))
 have nb : ∀ b,b < W.heap.size -> ¬ B b -> ¬ B' b := fun b hl hb h => (st.own b h).elim hb fun h => by omega
 have nf : ∀ b,b < W.heap.size -> ¬ F b -> ¬ B b -> ¬ F' b := fun b hl hf hb h => (st.new b h).elim hf fun h => h.elim hb fun h => by omega
 refine ⟨(st.heap D ltD bD).trans hD,nf D ltD fD bD,nf L ltL fL bL,nb D ltD bD,nb L ltL bL,fun b hb => nb b (hK b hb) (hKB b hb),σ,hp,hs',hmv.trans ?_,hhm.trans hm',?_⟩
 . exact ⟨st.os,st.tape,st.output,st.size,fun b hb => st.heap b (hK b hb) (hKB b hb),st.keepF,st.mono,fun b hb => (st.new b hb).imp id fun h hk => h.elim (hKB b hk) fun h => by have := hK b hk; omega⟩
 . cases k with
   | some k => exact ⟨(st.heap L ltL bL).trans hk.1,hk.2⟩
   | none => obtain ⟨jc,h1,h2⟩ := hk; exact ⟨jc,(st.heap L ltL bL).trans h1,h2⟩
set_option maxHeartbeats 1000000 in
theorem z6d [Inhabited Env] (hC : C.ok P) {f : Operand} {qs : Array Tmp} {c : Code} {live : List Nat} {m : Option Nat} {g : DA} {ps : List Nat} {c' : DCode} {asg : Code} {asg' : DCode}
   (ihA : ∀ (L : Nat) (K F0 : Nat -> Prop) (σ0 : Nat -> Option Nat) (hp0 : List DObj) (w0 : World) (Q : DExit -> DS -> Prop) (s : DS) (a : Act) (w : World),zb6 P N asg asg' = true -> dwp C hp0.length asg' Q s -> Cur K N F0 σ0 hp0 w0 s a w -> Code.wpIn (Fw (some L)) 0 P asg (QQ K N F0 σ0 hp0 w0 Q) a w)
   (ih : ∀ (L : Nat) (K F0 : Nat -> Prop) (σ0 : Nat -> Option Nat) (hp0 : List DObj) (w0 : World) (Q : DExit -> DS -> Prop) (s : DS) (a : Act) (w : World),zb6 P N c c' = true -> dwp C hp0.length c' Q s -> Cur K N F0 σ0 hp0 w0 s a w -> Code.wpIn (Fw (some L)) 0 P c (QQ K N F0 σ0 hp0 w0 Q) a w)
   {n : Nat} {Q : DExit -> DS -> Prop} {s : DS} {a : Act} {w : World} (hm : zb6 P N (.rangeFunc f qs asg c) (.rangeF live m g ps asg' c') = true) (h : dwp C hp0.length (.rangeF live m g ps asg' c') Q s) (hc : Cur K N F0 σ0 hp0 w0 s a w) :
   Code.wpIn (Fw none) n P (.rangeFunc f qs asg c) (QQ K N F0 σ0 hp0 w0 Q) a w := by
 simp only [zb6,Bool.and_eq_true,beq_iff_eq,decide_eq_true_eq] at hm
 obtain ⟨⟨⟨⟨⟨⟨⟨hg,hps⟩,hnd⟩,hlt⟩,hplA⟩,hpl⟩,hmA⟩,hm⟩ := hm
 simp only [dwp] at h
 obtain ⟨hmm,h⟩ := h
 obtain ⟨K',F,σ,hx⟩ := hc
 have hx1 := hx.cut live m hmm
 have hv := zz hx.2.2.1 hg
 have hws := hx.2.1
 obtain ⟨hKK,hs,hf,hN,hdef,hmv,hhm⟩ := hx1
 generalize hs1 : s.cut live m = s1 at h hs hf hhm
 cases he : g.ev s.fr <;> simp only [he] at h hv
 rename_i gf caps
 obtain ⟨hpre,himm,I,hI0,hround,hdone⟩ := h
 obtain ⟨cv,hcv,hcl,hcr⟩ := hv.clo_inv
 obtain ⟨hok,hti⟩ := hC.i gf _ hpre
 have hcap0 : All2 (CapR F σ s1.hp w) caps cv.toList := ⟨by simpa using hcl,fun j d hd => by
   obtain ⟨u,hu,hr⟩ := hcr j d hd
   refine ⟨u,by simpa using hu,?_⟩
   rw [<- hs1]
   cases m with
   | none => exact capR_of hr
   | some m => exact capR_cut hr m⟩
 obtain ⟨B0,σB,hB0,hsA,hmA0,hsB,hcaps⟩ := zx6 hs hcap0 himm
 generalize hhk : (zbm s1.hp caps).2.2 = hpk at *
 generalize hcc : (zbm s1.hp caps).2.1 = capk at *
 have hKlt : ∀ b,K' b -> b < w.heap.size := hs.kb
 have hFlt : ∀ b,F b -> b < w.heap.size := hs.fb
 show Code.wpIn Fence.wide n P (.rangeFunc f qs asg c) _ a w
 refine wpIn_rangeFunc fun fn hfn => ?_
 obtain ⟨rec,hrec⟩ : ∃ rec : LoopState -> Option Code -> Loop,rec = fun st pe => { state := st,pending := pe,fn,tmps := a.tmps,params := qs,assign := asg,body := c,defers := w.heap.size } := ⟨_,rfl⟩
 obtain ⟨W1,hW1⟩ : ∃ W1,(w.alloc (.deferred (some []))).alloc (.loop (rec .ready none)) = W1 := ⟨_,rfl⟩
 have hold : ∀ b,b < w.heap.size -> W1.heap[b]? = w.heap[b]? := fun b hb => by
   rw [<- hW1]; exact (Below.heap_alloc _ _ b (by simp; omega)).trans (Below.heap_alloc _ _ b hb)
 have hsz : W1.heap.size = w.heap.size + 2 := by rw [<- hW1]; simp
 have hL1 : W1.heap[w.heap.size + 1]? = some (.loop (rec .ready none)) := by
   rw [<- hW1]; have := World.alloc_heap_new (w.alloc (.deferred (some []))) (.loop (rec .ready none)); rwa [World.size_alloc] at this
 have hD1 : W1.heap[w.heap.size]? = some (.deferred (some [])) := by
   rw [<- hW1]; exact (Below.heap_alloc _ _ _ (by simp)).trans (World.alloc_heap_new w _)
 refine ⟨w.heap.size + 1,[{ target := .collected w.heap.size,args := #[] }],W1,{ target := .fn (.func gf) cv,args := #[.func (.yield (w.heap.size + 1)) #[] #[]] },W1,gf,
   #[.func (.yield (w.heap.size + 1)) #[] #[]] ++ cv,W1,?_,?_,fun _ _ => trivial,?_,fun h => by simp [Fence.wide] at h,?_⟩
 . rw [<- hW1,hrec]; exact run_enterLoop_outer _ _ _ _ _
 . simp only [resolve,hcv]
   simp [go_sem]
 . have eg := fun args w => zkc (P := P) (w := w) hok args
   simp [invoke,go_sem,eg]
 generalize hL : w.heap.size + 1 = L at *
 generalize hD : w.heap.size = D at *
 have hfr : ∀ {F2 : Nat -> Prop} {σ2 : Nat -> Option Nat} {hp2 : List DObj} {W : World},HM F σ s1.hp w F2 σ2 hp2 W -> FRep F2 σ2 hp2 W s1.fr a.tmps := fun hm i => (hf i).mono hm
 obtain ⟨X,hX⟩ : ∃ X : Code -> List DObj -> Prop,X = fun jc hp => (jc = .ret /\ Q .ret ⟨s1.fr,hp⟩) \/ ∃ id,jc = .exit id /\ Q (.exit id) ⟨s1.fr,hp⟩ := ⟨_,rfl⟩
 obtain ⟨hs1',hm1'⟩ := hsA.turn (K' := fun b => (K' b \/ b = D \/ b = L) \/ B0 b) (F' := F) (w' := W1) (by omega) (fun b hb => hold b (hFlt b hb)) (fun b hb _ => hold b (by omega)) (fun _ h => h) (fun _ h => .inl h)
   (fun b hb => hb.elim (fun h => h.elim (fun h => .inl (.inl h)) fun h => .inr (by omega)) fun h => .inl (.inr h)) (fun b hb => by have := hFlt b hb; omega) (fun b hb => hb.elim (fun h => h.elim (fun h => by have := hKlt b h; omega) fun h => by omega) fun h => by have := (hB0 b h).1; omega)
 have hmv1 : Moves K' F w F W1 := ⟨by rw [<- hW1]; rfl,by rw [<- hW1]; rfl,by rw [<- hW1]; rfl,by omega,fun b hb => hold b (hKlt b hb),fun b hb => hold b (hFlt b hb),fun _ h => h,fun _ h => .inl h⟩
 have nKD : ∀ b,K' b -> b ≠ D /\ b ≠ L := fun b hb => by have := hKlt b hb; omega
 have nFD : ∀ b,F b -> b ≠ D /\ b ≠ L := fun b hb => by have := hFlt b hb; omega
 have hDL : D ≠ L := by omega
 have start : JR K' F σ s1.hp w D L rec I X (some 0) F B0 W1 :=
   ⟨hD1,fun h => (nFD D h).1 rfl,fun h => (nFD L h).2 rfl,fun h => by have := (hB0 D h).1; omega,fun h => by have := (hB0 L h).1; omega,fun b hb h => (hB0 b h).2.2 hb,σ,hpk,hs1',hmv1,hmA0.trans hm1',hL1,hI0⟩
 obtain ⟨hsB',hmB'⟩ := hsB.turn (K' := fun b => b < W1.heap.size /\ ¬ B0 b) (F' := F) (w' := W1) (by omega) (fun b hb => hold b (hFlt b hb)) (fun b hb _ => hold b (by omega)) (fun _ h => h) (fun _ h => .inl h)
   (fun b hb => by rcases Nat.lt_or_ge b D with h | h; exact .inl ⟨by omega,hb.2⟩; exact .inr (by omega)) (fun b hb => by have := hFlt b hb; omega) (fun b hb => hb.1)
 have key := hti L (JR K' F σ s1.hp w D L rec I X) F B0 σB W1 cv JR.abide ?_ (fun b hb => by have := (hB0 b hb).1; omega) hsB'
   (hcaps.imp fun d v hr => hr.mono hmB') start
 . refine callsIn_wide.2 ((callsIn_wide.1 key).mono ?_)
   rintro e W3 ⟨⟨v,rfl⟩,F3,B3,k,hJ,hk⟩
   obtain ⟨jD,jfD,jfL,jbD,jbL,jKB,σ3,hp3,js,jmv,jhm,jk⟩ := hJ
   have fin : ∀ W4 o,W4 = W3.putObj L o -> ∀ (e : DExit),Q e ⟨s1.fr,hp3⟩ -> ∃ s',Cur K N F0 σ0 hp0 w0 s' { a with defers := [{ target := .collected D,args := #[] }] ++ a.defers } W4 /\ Q e s' := by
     rintro W4 o rfl e hq
     have hkeep : ∀ b,b ≠ L -> (W3.putObj L o).heap[b]? = W3.heap[b]? := fun b hb => World.putObj_heap_other hb
     obtain ⟨js4,jm4⟩ := js.turn (K' := fun b => (K' b \/ b = D \/ b = L) \/ B3 b) (F' := F3) (w' := W3.putObj L o) (by simp) (fun b hb => hkeep b fun h => jfL (h ▸ hb)) (fun b _ hb => hkeep b fun h => hb (.inl (.inr (.inr h)))) (fun _ h => h) (fun _ h => .inl h) (fun _ h => .inl h)
       (fun b hb => by simpa using js.fb b hb) (fun b hb => by simpa using js.kb b hb)
     have mv4 : Moves K' F3 W3 F3 (W3.putObj L o) := Moves.put (fun h => (nKD L h).2 rfl) jfL
     refine ⟨⟨s1.fr,hp3⟩,⟨fun b => K' b \/ b = D,F3,σ3,fun b hb => .inl (hKK b hb),js4.weak fun b hb => .inl (hb.imp id .inl),hfr (jhm.trans jm4),hN,⟨⟨D,rfl,.inr rfl,jfD,(hkeep D hDL).trans jD,fun hk => (nKD D (hKK D hk)).1 rfl,fun hd => ?_⟩,?_⟩,hmv.trans ((jmv.trans mv4).weak hKK),hhm.trans (jhm.trans jm4)⟩,hq⟩
     . obtain ⟨D',h1,h2⟩ := hdef.mem _ hd
       injection h1 with h1
       injection h1 with h1
       exact (nKD D' h2).1 h1.symm
     . exact (hdef.move (jmv.trans mv4)).weak fun b hb => .inl hb
   rcases hk with rfl | rfl
   . obtain ⟨jc,j1,j2⟩ := jk
     have hend := run_endLoop (P := P) j1 (by rw [hrec]; simp)
     rw [hrec] at hend
     refine ⟨some jc,_,by rw [hrec] at j1; exact hend,?_⟩
     rw [hX] at j2
     rcases j2 with ⟨rfl,hq⟩ | ⟨id,rfl,hq⟩
     . exact wpIn_ret (fin _ _ rfl .ret hq)
     . exact wpIn_exit (fin _ _ rfl (.exit id) hq)
   . have hend := run_endLoop (P := P) jk.1 (by rw [hrec]; simp)
     rw [hrec] at hend
     exact ⟨none,_,hend,fin _ _ rfl .normal (hdone hp3 jk.2)⟩
 . -- one round
   intro k F2 B W x vs hJ hF2 hB hxk hvs
   obtain ⟨jD,jfD,jfL,jbD,jbL,jKB,σ2,hp2,js,jmv,jhm,jl,jI⟩ := hJ
   obtain ⟨hxl,hbody⟩ := hround k x hp2 jI hxk
   have hlv : vs.length = qs.size := by rw [<- hvs.1,hxl,<- hps]; simp
   have hy := run_yield (P := P) (args := vs.toArray) jl (by rw [hrec]; simpa using hlv)
   rw [hrec] at hy
   dsimp only at hy
   refine ⟨fn,_,asg,c,hy,roundIn_of_wpIn trivial ?_⟩
   have hfold : (qs.zip vs.toArray).foldl (fun t (y : Nat × Value) => t.setIfInBounds y.1 y.2) a.tmps = (ps.zip vs).foldl (fun t (y : Nat × Value) => t.setIfInBounds y.1 y.2) a.tmps := by
     rw [<- Array.foldl_toList,Array.toList_zip,hps]
   have hfsz : ∀ (l : List (Nat × Value)) (t : Array Value),(l.foldl (fun t (y : Nat × Value) => t.setIfInBounds y.1 y.2) t).size = t.size := by
     intro l
     induction l with
     | nil => intro t; rfl
     | cons y l ih => intro t; rw [List.foldl_cons,ih]; simp
   have hfr2 : FRep F2 σ2 hp2 W (ps.zip x ++ s1.fr) ((ps.zip vs).foldl (fun t (y : Nat × Value) => t.setIfInBounds y.1 y.2) a.tmps) :=
     zy1 ps x vs a.tmps s1.fr hnd (hvs.imp fun d v hr => hr.mono hm0) hxl (fun p hp => by
       rw [hN]; simpa using List.all_eq_true.1 hlt p hp) (hfr jhm)
   have hcur : Cur (fun b => (K' b \/ b = D \/ b = L) \/ B b) N F2 σ2 hp2 W ⟨ps.zip x ++ s1.fr,hp2⟩ { tmps := (ps.zip vs).foldl (fun t (y : Nat × Value) => t.setIfInBounds y.1 y.2) a.tmps,defers := [] } W :=
     ⟨_,F2,σ2,fun _ h => h,js,hfr2,by rw [hfsz]; exact hN,trivial,.refl _ _ _,.refl _ _ _ _⟩
   have hbwA := ihA L _ F2 σ2 hp2 W _ _ _ W hmA hbody hcur
   have e1 : (qs.zip vs.toArray).foldl (fun (tmps : Array Value) (x : Nat × Value) => match x with | (t,a) => tmps.setIfInBounds t a) a.tmps = (ps.zip vs).foldl (fun t (y : Nat × Value) => t.setIfInBounds y.1 y.2) a.tmps := hfold
   rw [e1]
   refine wpIn_mono (show Code.wpIn (Fence.wide.inRound L) 0 P asg _ _ W from hbwA) ?_
   rintro eA aA WA hqA
   cases eA with
   | exit id => exact hqA.choose_spec.2.elim
   | ret => exact hqA.choose_spec.2.elim
   | goto l => exact hqA.elim
   | panic c => exact hqA.elim
   | outgrown => exact hqA.elim
   | normal =>
   obtain ⟨sA,⟨KA,FA,σA,hKA,hsA,hfA,hNA,hdA,hmvA,hhmA⟩,hbody2⟩ := hqA
   simp only [DExit.only] at hbody2
   have lA : WA.heap[L]? = some (.loop (rec .ready none)) := (hmvA.keepK L (.inl (.inr (.inr rfl)))).trans jl
   have ltLA : L < WA.heap.size := (Array.getElem?_eq_some_iff.1 lA).1
   have fAL : ¬ FA L := fun h => (hmvA.new L h).elim jfL (fun h => h (.inl (.inr (.inr rfl))))
   refine ⟨_,run_beginRound lA (by rw [hrec]),?_⟩
   generalize hWb : WA.putObj L (.loop { rec .ready none with state := .busy }) = Wb
   have hkb : ∀ b,b ≠ L -> Wb.heap[b]? = WA.heap[b]? := fun b hb => by rw [<- hWb]; exact World.putObj_heap_other hb
   have hszb : Wb.heap.size = WA.heap.size := by rw [<- hWb]; simp
   have hLb : Wb.heap[L]? = some (.loop { rec .ready none with state := .busy }) := by rw [<- hWb]; exact World.putObj_heap_same ltLA
   obtain ⟨jsb,jmb⟩ := hsA.turn (K' := KA) (F' := FA) (w' := Wb) (by omega) (fun b hb => hkb b fun h => fAL (h ▸ hb)) (fun b _ hb => hkb b fun h => hb (h ▸ hKA L (.inl (.inr (.inr rfl))))) (fun _ h => h) (fun _ h => .inl h) (fun _ h => .inl h)
     (fun b hb => by rw [hszb]; exact hsA.fb b hb) (fun b hb => by rw [hszb]; exact hsA.kb b hb)
   have mvb : Moves K' FA WA FA Wb := by rw [<- hWb]; exact Moves.put (fun h => (nKD L h).2 rfl) fAL
   have hdb : zfo (fun b => (K' b \/ b = D \/ b = L) \/ B b) KA FA Wb aA.defers := by
     rw [<- hWb]
     exact hdA.put fun hd => by
       obtain ⟨D',h1,h2⟩ := hdA.at _ hd
       injection h1 with h1
       injection h1 with h1
       rw [<- h1,lA] at h2; cases h2
   have hcurb : Cur (fun b => (K' b \/ b = D \/ b = L) \/ B b) N FA σA sA.hp Wb sA aA Wb :=
     ⟨KA,FA,σA,hKA,jsb,fun n => (hfA n).mono jmb,hNA,hdb,.refl _ _ _,.refl _ _ _ _⟩
   have hbw := ih L _ FA σA sA.hp Wb _ _ _ Wb hm hbody2 hcurb
   refine wpIn_mono (show Code.wpIn (Fence.wide.inRound L) 0 P c _ _ Wb from hbw) ?_
   have fin : ∀ (jump : Option Code) (s3 : DS) (a3 : Act) (W3 : World) (hp3 : List DObj),Cur (fun b => (K' b \/ b = D \/ b = L) \/ B b) N FA σA sA.hp Wb s3 a3 W3 ->
       (hp3 = (s3.cut [] m).hp \/ hp3 = s3.hp) -> (match jump with | none => I (k + 1) hp3 | some jc => X jc hp3) ->
       ∃ v w',(Instr.endRound L jump).run P W3 = .ok v w' /\ ∃ b F',Ending.returned v = .returned (.bool b) /\ (∀ c,F2 c -> F' c) /\ (∀ c,F' c -> F2 c \/ ¬ B c) /\ (∀ c,F' c -> c < w'.heap.size) /\ W.heap.size <= w'.heap.size /\
         (∀ c,F2 c -> w'.heap[c]? = W.heap[c]?) /\ (∀ c,B c -> w'.heap[c]? = W.heap[c]?) /\ JR K' F σ s1.hp w D L rec I X (if b then some (k + 1) else none) F' B w' := by
     rintro jump s3 a3 W3 hp3 ⟨Kz,F3,σ3,hKz,hs3,_,_,_,hmv3,hhm3⟩ hhp hj
     have l3 : W3.heap[L]? = some (.loop { rec .ready none with state := .busy }) := (hmv3.keepK L (.inl (.inr (.inr rfl)))).trans hLb
     have hend := run_endRound (P := P) jump l3
     have hkeep : ∀ o b,b ≠ L -> (W3.putObj L o).heap[b]? = W3.heap[b]? := fun o b hb => World.putObj_heap_other hb
     have f3L : ¬ F3 L := fun h => (hmv3.new L h).elim fAL (fun h => h (.inl (.inr (.inr rfl))))
     have fAD : ¬ FA D := fun h => (hmvA.new D h).elim jfD (fun h => h (.inl (.inr (.inl rfl))))
     have f3D : ¬ F3 D := fun h => (hmv3.new D h).elim fAD (fun h => h (.inl (.inr (.inl rfl))))
     refine ⟨_,_,hend,jump.isNone,F3,rfl,fun c hc => hmv3.mono c (hmvA.mono c hc),fun c hc => ?_,fun c hc => by simpa using hs3.fb c hc,by have := hmv3.size; have := hmvA.size; simp; omega,fun c hc => ?_,fun c hc => ?_,?_⟩
     . rcases hmv3.new c hc with h | h
       . exact (hmvA.new c h).imp id fun h hb => h (.inr hb)
       . exact .inr fun hb => h (.inr hb)
     . have : c ≠ L := fun h => jfL (h ▸ hc)
       exact (hkeep _ c this).trans ((hmv3.keepF c (hmvA.mono c hc)).trans ((hkb c this).trans (hmvA.keepF c hc)))
     . have : c ≠ L := fun h => jbL (h ▸ hc)
       exact (hkeep _ c this).trans ((hmv3.keepK c (.inr hc)).trans ((hkb c this).trans (hmvA.keepK c (.inr hc))))
     generalize hob : Obj.loop { rec .ready none with state := if jump.isNone then .ready else .done,pending := jump } = ob
     obtain ⟨js4,jm4⟩ := (hs3.weak hKz).turn (K' := fun b => (K' b \/ b = D \/ b = L) \/ B b) (F' := F3) (w' := W3.putObj L ob) (by simp) (fun b hb => hkeep _ b fun h => f3L (h ▸ hb)) (fun b _ hb => hkeep _ b fun h => hb (.inl (.inr (.inr h)))) (fun _ h => h) (fun _ h => .inl h) (fun _ h => .inl h)
       (fun b hb => by simpa using hs3.fb b hb) (fun b hb => by simpa using hs3.kb b (hKz b hb))
     have wk : ∀ b,K' b -> (K' b \/ b = D \/ b = L) \/ B b := fun b hb => .inl (.inl hb)
     have hmv4 : Moves K' F w F3 (W3.putObj L ob) := (((jmv.trans (hmvA.weak wk)).trans mvb).trans (hmv3.weak wk)).trans (Moves.put (fun h => (nKD L h).2 rfl) f3L)
     have hhm4 : HM F σ s1.hp w F3 σ3 s3.hp (W3.putObj L ob) := (((jhm.trans hhmA).trans jmb).trans hhm3).trans jm4
     have l4 : (W3.putObj L ob).heap[L]? = some ob := World.putObj_heap_same (Array.getElem?_eq_some_iff.1 l3).1
     have d4 : (W3.putObj L ob).heap[D]? = some (.deferred (some [])) := (hkeep _ D hDL).trans ((hmv3.keepK D (.inl (.inr (.inl rfl)))).trans ((hkb D hDL).trans ((hmvA.keepK D (.inl (.inr (.inl rfl)))).trans jD)))
     have both : SimH (fun b => (K' b \/ b = D \/ b = L) \/ B b) F3 σ3 hp3 (W3.putObj L ob) /\ HM F σ s1.hp w F3 σ3 hp3 (W3.putObj L ob) := by
       rcases hhp with rfl | rfl
       . cases m with
         | none => exact ⟨js4,hhm4⟩
         | some m =>
           refine ⟨js4.cut m,hhm4.cut ?_⟩
           rw [<- hs1]; simp [DS.cut]; omega
       . exact ⟨js4,hhm4⟩
     refine ⟨d4,f3D,f3L,jbD,jbL,jKB,σ3,hp3,both.1,hmv4,both.2,?_⟩
     cases jump with
     | none => exact ⟨by rw [l4,<- hob,hrec]; rfl,hj⟩
     | some jc => exact ⟨jc,by rw [l4,<- hob,hrec]; rfl,hj⟩
   rintro e a3 W3 hq
   cases e with
   | normal => obtain ⟨s3,hc3,h3⟩ := hq; exact fin none s3 a3 W3 _ hc3 (.inl rfl) h3
   | ret => obtain ⟨s3,hc3,h3⟩ := hq; exact fin (some .ret) s3 a3 W3 _ hc3 (.inr rfl) (by rw [hX]; exact .inl ⟨rfl,h3⟩)
   | exit id => obtain ⟨s3,hc3,h3⟩ := hq; exact fin (some (.exit id)) s3 a3 W3 _ hc3 (.inr rfl) (by rw [hX]; exact .inr ⟨id,rfl,h3⟩)
   | goto l => exact hq.elim
   | panic c => exact hq.elim
   | outgrown => exact hq.elim
theorem zag [Inhabited Env] (hC : C.ok P) : ∀ (dc : DCode) (c : Code) (ro : Option Nat) (n : Nat) (K F0 : Nat -> Prop) (σ0 : Nat -> Option Nat) (hp0 : List DObj) (w0 : World) (Q : DExit -> DS -> Prop) (s : DS) (a : Act) (w : World),(ro = none \/ ze4 c = true) -> zb6 P N c dc = true -> dwp C hp0.length dc Q s -> Cur K N F0 σ0 hp0 w0 s a w -> Code.wpIn (Fw ro) n P c (QQ K N F0 σ0 hp0 w0 Q) a w
 | .ops draw' dl,cc,ro,n,K,F0,σ0,hp0,w0,Q,s,a,w,hp,hm,h,hc => by
   cases cc with
   | region rid ops draw =>
     simp only [zb6,Bool.and_eq_true] at hm
     obtain ⟨_,hm⟩ := hm
     simp only [ze4] at hp
     cases draw with
     | false => exact wpIn_region_list (zt5 hC (fun s' a' w' hc' h' => ⟨s',hc',h'⟩) (hp.imp id fun h => by rwa [<- Array.all_toList] at h) (by simpa using hm) hc h)
     | true =>
       refine zen hC hp (seps := []) (by simpa using hm) (fun s' a' w' hc' h' => ⟨s',hc',h'⟩) hc (fun p hp => by simp at hp) ?_
       rw [zl5]
       exact h
   | _ => exact (Bool.false_ne_true hm).elim
 | .opsP l,cc,ro,n,K,F0,σ0,hp0,w0,Q,s,a,w,hp,hm,h,hc => by
   cases cc with
   | region rid ops draw =>
     simp only [zb6,Bool.and_eq_true] at hm
     obtain ⟨rfl,hm⟩ := hm
     exact zen hC hp hm (fun s' a' w' hc' h' => ⟨s',hc',h'⟩) hc (fun p hp => by simp at hp) h
   | _ => exact (Bool.false_ne_true hm).elim
 | .opsS seps l,cc,ro,n,K,F0,σ0,hp0,w0,Q,s,a,w,hp,hm,h,hc => by
   cases cc with
   | region rid ops draw =>
     simp only [zb6,Bool.and_eq_true] at hm
     obtain ⟨rfl,hm⟩ := hm
     exact zen hC hp hm (fun s' a' w' hc' h' => ⟨s',hc',h'⟩) hc (ydj h.1) h.2
   | _ => exact (Bool.false_ne_true hm).elim
 | .seq x' y',cc,ro,n,K,F0,σ0,hp0,w0,Q,s,a,w,hp,hm,h,hc => by
   cases cc with
   | seq x y =>
     simp only [zb6,Bool.and_eq_true] at hm
     simp only [ze4,Bool.and_eq_true] at hp
     refine wpIn_seq (wpIn_mono (zag hC x' x ro n K F0 σ0 hp0 w0 _ s a w (hp.imp id (·.1)) hm.1 h hc) fun e a' w' hq => ?_)
     cases e with
     | normal => obtain ⟨s',hc',h'⟩ := hq; exact zag hC y' y ro n K F0 σ0 hp0 w0 Q s' a' w' (hp.imp id (·.2)) hm.2 h' hc'
     | exit id => obtain ⟨s',hc',h'⟩ := hq; exact ⟨s',hc',h'⟩
     | ret => obtain ⟨s',hc',h'⟩ := hq; exact ⟨s',hc',h'⟩
     | goto l => exact hq.elim
     | panic c => exact hq.elim
     | outgrown => exact hq.elim
   | _ => exact (Bool.false_ne_true hm).elim
 | .cond c' x' y',cc,ro,n,K,F0,σ0,hp0,w0,Q,s,a,w,hp,hm,h,hc => by
   cases cc with
   | cond c x y =>
     simp only [zb6,Bool.and_eq_true] at hm
     simp only [ze4,Bool.and_eq_true] at hp
     have hcur := hc
     obtain ⟨K',F,σ,hKK,hs,hf,hN,hdef,hmv,hhm⟩ := hc
     have hv := zz hf hm.1.1
     simp only [dwp] at h
     cases he : c'.ev s.fr with
     | bool t =>
       rw [he] at hv
       simp only [he] at h
       refine wpIn_cond_split hv.bool_inv (fun ht => zag hC x' x ro n K F0 σ0 hp0 w0 Q s a w (hp.imp id (·.1)) hm.1.2 (h.1 ht) hcur) (fun ht => zag hC y' y ro n K F0 σ0 hp0 w0 Q s a w (hp.imp id (·.2)) hm.2 (h.2 ht) hcur)
     | anyb =>
       rw [he] at hv
       simp only [he] at h
       obtain ⟨b,hb⟩ := hv.anyb_inv
       exact wpIn_cond_split hb (fun _ => zag hC x' x ro n K F0 σ0 hp0 w0 Q s a w (hp.imp id (·.1)) hm.1.2 h.1 hcur) (fun _ => zag hC y' y ro n K F0 σ0 hp0 w0 Q s a w (hp.imp id (·.2)) hm.2 h.2 hcur)
     | _ => simp only [he] at h
   | _ => exact (Bool.false_ne_true hm).elim
 | .block id' c',cc,ro,n,K,F0,σ0,hp0,w0,Q,s,a,w,hp,hm,h,hc => by
   cases cc with
   | block id c =>
     simp only [zb6,Bool.and_eq_true,beq_iff_eq] at hm
     simp only [ze4] at hp
     obtain ⟨rfl,hm⟩ := hm
     refine wpIn_block (wpIn_mono (zag hC c' c ro n K F0 σ0 hp0 w0 _ s a w hp hm h hc) fun e a' w' hq => ?_)
     cases e with
     | normal => obtain ⟨s',hc',h'⟩ := hq; exact ⟨s',hc',h'⟩
     | exit k =>
       obtain ⟨s',hc',h'⟩ := hq
       simp only [DExit.inBlock] at h'
       simp only [Exit.inBlock]
       split at h'
       . rename_i e; rw [if_pos e]; exact ⟨s',hc',h'⟩
       . rename_i e; rw [if_neg e]; exact ⟨s',hc',h'⟩
     | ret => obtain ⟨s',hc',h'⟩ := hq; exact ⟨s',hc',h'⟩
     | goto l => exact hq.elim
     | panic c => exact hq.elim
     | outgrown => exact hq.elim
   | _ => exact (Bool.false_ne_true hm).elim
 | .loop live m c',cc,ro,n,K,F0,σ0,hp0,w0,Q,s,a,w,hp,hm,h,hc => by
   cases cc with
   | loop c =>
     simp only [zb6] at hm
     simp only [ze4] at hp
     simp only [dwp] at h
     obtain ⟨hmm,I,μ,h0,hr⟩ := h
     refine wpIn_loop_ghost (fun i a w => ∃ s',Cur K N F0 σ0 hp0 w0 s' a w /\ I s' /\ μ s' = i) (μ (s.cut live m)) ⟨_,hc.cut live m hmm,h0,rfl⟩ fun i a w hI => ?_
     obtain ⟨s',hc',hI',rfl⟩ := hI
     refine wpIn_mono (zag hC c' c ro n K F0 σ0 hp0 w0 _ s' a w hp hm (hr s' hI') hc') fun e a' w' hq => ?_
     cases e with
     | normal =>
       obtain ⟨s'',hc'',h''⟩ := hq
       exact ⟨_,h''.2,s''.cut live m,hc''.cut live m hmm,h''.1,rfl⟩
     | exit id => obtain ⟨s',hc',h'⟩ := hq; exact ⟨s',hc',h'⟩
     | ret => obtain ⟨s',hc',h'⟩ := hq; exact ⟨s',hc',h'⟩
     | goto l => exact hq.elim
     | panic c => exact hq.elim
     | outgrown => exact hq.elim
   | _ => exact (Bool.false_ne_true hm).elim
 | .scope c',cc,ro,n,K,F0,σ0,hp0,w0,Q,s,a,w,hp,hm,h,hc => by
   cases cc with
   | scope c =>
     refine zl4 (wpIn_mono (zag hC c' c ro n K F0 σ0 hp0 w0 Q s a w hp hm h hc) fun e a' w' hq => ?_)
     cases e with
     | normal => exact hq
     | exit id => exact hq
     | ret => exact hq
     | goto l => exact hq.elim
     | panic c => exact hq.elim
     | outgrown => exact hq.elim
   | _ => exact (Bool.false_ne_true hm).elim
 | .exit id',cc,ro,n,K,F0,σ0,hp0,w0,Q,s,a,w,hp,hm,h,hc => by
   cases cc with
   | exit id =>
     simp only [zb6,beq_iff_eq] at hm
     subst hm
     exact wpIn_exit ⟨s,hc,h⟩
   | _ => exact (Bool.false_ne_true hm).elim
 | .ret,cc,ro,n,K,F0,σ0,hp0,w0,Q,s,a,w,hp,hm,h,hc => by
   cases cc with
   | ret =>
     exact wpIn_ret ⟨s,hc,h⟩
   | _ => exact (Bool.false_ne_true hm).elim
 | .skip,cc,ro,n,K,F0,σ0,hp0,w0,Q,s,a,w,hp,hm,h,hc => by
   cases cc with
   | skip => exact wpIn_skip ⟨s,hc,h⟩
   | label l => exact wpIn_label ⟨s,hc,h⟩
   | _ => exact (Bool.false_ne_true hm).elim
 | .gown t off z c',c,ro,n,K,F0,σ0,hp0,w0,Q,s,a,w,hp,hm,h,hc => by
   have hm' : zb6 P N c c' = true := by cases c <;> simpa only [zb6] using hm
   simp only [dwp] at h
   split at h
   . rename_i hh L i j e1
     split at h
     . rename_i o e2
       rcases h with ⟨⟨h1,h2,h3,h4⟩,h5⟩ | h
       . exact zag hC c' c ro n K F0 σ0 hp0 w0 Q _ a w hp hm' h5 (hc.gown z e2 h1 (by omega) h4)
       . exact zag hC c' c ro n K F0 σ0 hp0 w0 Q _ a w hp hm' h hc
     . exact h.elim
   . exact h.elim
 | .cut live m c',c,ro,n,K,F0,σ0,hp0,w0,Q,s,a,w,hp,hm,h,hc => by
   have hm' : zb6 P N c c' = true := by cases c <;> simpa only [zb6] using hm
   exact zag hC c' c ro n K F0 σ0 hp0 w0 Q (s.cut live m) a w hp hm' h.2 (hc.cut live m h.1)
 | .rsv c',c,ro,n,K,F0,σ0,hp0,w0,Q,s,a,w,hp,hm,h,hc => by
   have hm' : zb6 P N c c' = true := by cases c <;> simpa only [zb6] using hm
   exact zag hC c' c ro n K F0 σ0 hp0 w0 Q _ a w hp hm' h hc.rsv
 | .bad,_,ro,n,K,F0,σ0,hp0,w0,Q,s,a,w,_,_,h,hc => h.elim
 | .rangeF live m g ps asg' c',cc,ro,n,K,F0,σ0,hp0,w0,Q,s,a,w,hp,hm,h,hc => by
   cases cc with
   | rangeFunc f qs asg c =>
     obtain rfl : ro = none := hp.elim id fun h => by simp [ze4] at h
     have hpl : ze4 asg = true /\ ze4 c = true := by simp only [zb6,Bool.and_eq_true] at hm; exact ⟨hm.1.1.1.2,hm.1.1.2⟩
     exact z6d hC (fun L K F0 σ0 hp0 w0 Q s a w h1 h2 h3 => zag hC asg' asg (some L) 0 K F0 σ0 hp0 w0 Q s a w (.inr hpl.1) h1 h2 h3) (fun L K F0 σ0 hp0 w0 Q s a w h1 h2 h3 => zag hC c' c (some L) 0 K F0 σ0 hp0 w0 Q s a w (.inr hpl.2) h1 h2 h3) hm h hc
   | _ => exact (Bool.false_ne_true hm).elim
end
end Go.Nk
