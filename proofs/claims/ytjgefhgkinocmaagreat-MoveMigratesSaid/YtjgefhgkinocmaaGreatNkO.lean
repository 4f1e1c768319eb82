/- Freezing values; new blocks. -/
import Derived.Test.YtjgefhgkinocmaaGreatNkG
import Derived.MapKept
import Derived.RangeFuncOwn
import Derived.RangeFuncLeaves
import Derived.RangeFuncRecord
import Derived.OrdersIn
import Derived.TacticsIn
import Derived.Sort.LoopGhostIn
import Derived.Laws.LoneSync
set_option linter.all false
namespace Go.Nk
open Go.RowKit
section
variable {P : Program} {K F F' : Nat -> Prop} {σ σ' : Nat -> Option Nat} {hp hp' : List DObj} {w w' : World} {fr : List (Nat × DV)} {a : Act} {o : Oper}
theorem VRep.imm_of {d : DV} {v : Value} (h : VRep F σ hp w d v) (hd : d.immB = true) : IRep F w d v := by
 cases h <;> first | assumption | simp [DV.immB] at hd
theorem ztk {d : DV} (hd : d.immB = true) : d.one = true := by cases d <;> first | rfl | simp [DV.immB] at hd
theorem yai {es : List (List DV)} {i j : Nat} {d : DV} (h : z1 es i j = some d) : ∃ e ∈ es,d ∈ e := by
 unfold z1 at h
 cases he : es[i]? with
 | none => simp [he] at h
 | some e => rw [he] at h; exact ⟨e,List.mem_of_getElem? he,List.mem_of_getElem? h⟩
def Frzd [Inhabited Env] (K F : Nat -> Prop) (σ : Nat -> Option Nat) (hp : List DObj) (w : World) (F' : Nat -> Prop) (hp' : List DObj) : Prop :=
 SimH K F' σ hp' w /\ Moves K F w F' w /\ HM F σ hp w F' σ hp' w
theorem Frzd.refl [Inhabited Env] (hs : SimH K F σ hp w) : Frzd K F σ hp w F hp := ⟨hs,.refl _ _ _,.refl _ _ _ _⟩
theorem Frzd.trans [Inhabited Env] {F'' : Nat -> Prop} {hp'' : List DObj} (h : Frzd K F σ hp w F' hp') (k : Frzd K F' σ hp' w F'' hp'') : Frzd K F σ hp w F'' hp'' :=
 ⟨k.1,h.2.1.trans k.2.1,h.2.2.trans k.2.2⟩
theorem frz_at [Inhabited Env] (hs : SimH K F σ hp w) {h : Nat} {ob : DObj} (hob : hp[h]? = some ob) (hk : ob.k = .imm \/ ob.k = .frz) :
   ∃ F',Frzd K F σ hp w F' (freezeAt hp h) /\ ∀ g,σ h = some g -> F' g := by
 unfold freezeAt
 simp only [hob]
 rcases hk with hk | hk
 . obtain ⟨h1,h2,h3⟩ := hs.freeze hob hk
   exact ⟨_,⟨h1,h2,h3⟩,fun g hg => .inr hg⟩
 . have hl : h < hp.length := by
     rcases Nat.lt_or_ge h hp.length with h' | h'
     . exact h'
     . rw [List.getElem?_eq_none h'] at hob; cases hob
   have e : hp.set h { ob with k := .frz } = hp := by
     have : ({ ob with k := .frz } : DObj) = ob := by cases ob; simp at hk; subst hk; rfl
     rw [this]
     apply List.ext_getElem?
     intro n
     by_cases hn : n = h
     . subst hn; rw [List.getElem?_set_self hl,hob]
     . rw [List.getElem?_set_ne (Ne.symm hn)]
   rw [e]
   exact ⟨F,.refl hs,fun g hg => hs.frz_F hob hk hg⟩
def All2 (R : DV -> Value -> Prop) (ds : List DV) (vs : List Value) : Prop :=
 ds.length = vs.length /\ ∀ (j : Nat) (d : DV),ds[j]? = some d -> ∃ u,vs[j]? = some u /\ R d u
theorem yg3 [Inhabited Env] (hs : SimH K F σ hp w) {d : DV} {v : Value} (hv : VRep F σ hp w d v) (h : (fz1 hp d).pre) :
   ∃ F',Frzd K F σ hp w F' (fz1 hp d).hp /\ IRep F' w (fz1 hp d).val v /\ (fz1 hp d).val.one = true := by
 unfold fz1 at h |-
 split at h
 . rename_i h' L off len
   have hob : ∃ ob,hp[h']? = some ob /\ (ob.k = .imm \/ ob.k = .frz) := by
     simp only [zy] at h
     cases hob : hp[h']? with
     | none => simp [hob] at h
     | some ob =>
       simp only [hob] at h
       split at h
       . rename_i hk; exact ⟨ob,rfl,hk⟩
       . exact h.elim
   obtain ⟨ob,hob,hk⟩ := hob
   obtain ⟨F',hfr,hF'⟩ := frz_at hs hob hk
   obtain ⟨A,c,z,rfl,hlc,hz,hA,_⟩ := ziu hs hv h (by simp)
   refine ⟨F',hfr,IRep.sl_mk hlc hz fun hne => ?_,rfl⟩
   obtain ⟨b,hb,hsp,hF,hc⟩ := hA hne
   refine ⟨b,hb,hsp,?_,fun i j e he => ?_⟩
   . rcases hF with hF | ⟨h1,L1,o1,l1,e1,e2⟩
     . exact hfr.2.1.mono _ hF
     . injection e1 with e1; subst e1; exact hF' _ e2
   . obtain ⟨u,hu,h1,hr⟩ := hc i j e he
     exact ⟨u,hu,h1,hr.mono hfr.2.1.mono hfr.2.1.keepF⟩
 . have := hv.nil_inv; subst this
   exact ⟨F,.refl hs,IRep.sl_mk (es := []) (z := 0) (Nat.le_refl _) (fun i e he => by simp at he) (fun h => absurd rfl h),rfl⟩
 . obtain ⟨vs,rfl,hl,hr⟩ := hv.clo_inv
   refine ⟨F,.refl hs,?_,rfl⟩
   obtain ⟨vv,v1,v2⟩ := ydg (vs := vs) (R := IRep F w) fun j d hd => let ⟨u,hu,hr'⟩ := hr j d hd; ⟨u,hu,hr'.imm_of (List.all_eq_true.1 h d (List.mem_of_getElem? hd))⟩
   exact .clo _ _ vs hl vv v1 v2
 . split at h
   . rename_i hi
     rw [if_pos hi]
     exact ⟨F,.refl hs,hv.imm_of hi,ztk hi⟩
   . exact h.elim
theorem All2.cons {R : DV -> Value -> Prop} {d : DV} {ds : List DV} {vs : List Value} (h : All2 R (d :: ds) vs) : ∃ v us,vs = v :: us /\ R d v /\ All2 R ds us := by
 obtain ⟨hl,hr⟩ := h
 cases vs with
 | nil => simp at hl
 | cons v us =>
   obtain ⟨u,hu,h0⟩ := hr 0 d rfl
   simp at hu; subst hu
   exact ⟨_,_,rfl,h0,by simpa using hl,fun j e he => by simpa using hr (j + 1) e (by simpa using he)⟩
theorem All2.nil_ {R : DV -> Value -> Prop} {vs : List Value} (h : All2 R [] vs) : vs = [] := List.eq_nil_of_length_eq_zero h.1.symm
theorem All2.mk_cons {R : DV -> Value -> Prop} {d : DV} {ds : List DV} {v : Value} {vs : List Value} (h : R d v) (k : All2 R ds vs) : All2 R (d :: ds) (v :: vs) :=
 ⟨by simp [k.1],fun j e he => by
   cases j with
   | zero => simp at he; subst he; exact ⟨v,rfl,h⟩
   | succ j => simpa using k.2 j e (by simpa using he)⟩
theorem All2.mk_nil {R : DV -> Value -> Prop} : All2 R [] [] := ⟨rfl,fun j e he => by simp at he⟩
theorem All2.imp {R R' : DV -> Value -> Prop} {ds : List DV} {vs : List Value} (h : All2 R ds vs) (hR : ∀ d v,R d v -> R' d v) : All2 R' ds vs :=
 ⟨h.1,fun j d hd => let ⟨u,hu,hr⟩ := h.2 j d hd; ⟨u,hu,hR _ _ hr⟩⟩
def IOne (F : Nat -> Prop) (w : World) (d : DV) (v : Value) : Prop := IRep F w d v /\ d.one = true
theorem z14 [Inhabited Env] : ∀ {ds : List DV} {vs : List Value} {hp : List DObj} {F : Nat -> Prop},SimH K F σ hp w -> All2 (VRep F σ hp w) ds vs -> (fzL hp ds).pre ->
   ∃ F',Frzd K F σ hp w F' (fzL hp ds).hp /\ All2 (IOne F' w) (fzL hp ds).vals vs
 | [],vs,hp,F,hs,hv,_ => ⟨F,.refl hs,by rw [hv.nil_]; exact .mk_nil⟩
 | d :: ds,vs,hp,F,hs,hv,h => by
   obtain ⟨v,us,rfl,h0,hr⟩ := hv.cons
   obtain ⟨hp1,hp2⟩ := h
   obtain ⟨F1,f1,r1,o1⟩ := yg3 hs h0 hp1
   obtain ⟨F2,f2,r2⟩ := z14 f1.1 (hr.imp fun d v h => h.mono f1.2.2) hp2
   exact ⟨F2,f1.trans f2,.mk_cons ⟨r1.mono f2.2.1.mono f2.2.1.keepF,o1⟩ r2⟩
def AllR (R : DV -> Value -> Prop) : List (List DV) -> List (List Value) -> Prop
 | [],[] => True
 | e :: es,v :: vs => All2 R e v /\ AllR R es vs
 | _,_ => False
theorem AllR.imp {R R' : DV -> Value -> Prop} (hR : ∀ d v,R d v -> R' d v) : ∀ {es : List (List DV)} {vs : List (List Value)},AllR R es vs -> AllR R' es vs
 | [],[],_ => trivial
 | _ :: _,_ :: _,h => ⟨h.1.imp hR,h.2.imp hR⟩
 | [],_ :: _,h => h.elim
 | _ :: _,[],h => h.elim
theorem z8h [Inhabited Env] : ∀ {es : List (List DV)} {vs : List (List Value)} {hp : List DObj} {F : Nat -> Prop},SimH K F σ hp w -> AllR (VRep F σ hp w) es vs -> (fzLL hp es).pre ->
   ∃ F',Frzd K F σ hp w F' (fzLL hp es).hp /\ AllR (IOne F' w) (fzLL hp es).vals vs
 | [],[],hp,F,hs,_,_ => ⟨F,.refl hs,trivial⟩
 | e :: es,v :: vs,hp,F,hs,hv,h => by
   obtain ⟨hp1,hp2⟩ := h
   obtain ⟨F1,f1,r1⟩ := z14 hs hv.1 hp1
   obtain ⟨F2,f2,r2⟩ := z8h f1.1 (hv.2.imp fun d v h => h.mono f1.2.2) hp2
   exact ⟨F2,f1.trans f2,r1.imp fun d v h => ⟨h.1.mono f2.2.1.mono f2.2.1.keepF,h.2⟩,r2⟩
 | [],_ :: _,_,_,_,h,_ => h.elim
 | _ :: _,[],_,_,_,h,_ => h.elim
theorem zne {d : DV} {v : Value} (hv : VRep F σ hp w d v) (h1 : ∀ e ∈ cellsOf d,e.one = true) : All2 (VRep F σ hp w) (cellsOf d) v.cells.toList := by
 unfold cellsOf at h1 |-
 split
 . obtain ⟨vs,rfl,hl,hr⟩ := hv.agg_inv
   exact ⟨by simpa [Value.cells] using hl,fun j e he => by
     obtain ⟨u,hu,hr⟩ := hr j e he
     exact ⟨u,by simpa [Value.cells] using hu,hr⟩⟩
 . rename_i hne
   have ho : d.one = true := by
     split at h1
     . rename_i cs; exact absurd rfl (hne cs)
     . exact h1 d (by simp)
   have hc : v.cells = #[v] := by
     have := hv.oneCell ho
     cases v <;> first | rfl | simp [Value.oneCell'] at this
   rw [hc]
   exact .mk_cons hv .mk_nil
theorem zqf {d : DV} {v : Value} (hv : VRep F σ hp w d v) (hd : d ≠ .undef) : All2 (VRep F σ hp w) (cellsOf d) v.cells.toList := by
 by_cases ho : d.one = true
 . have hc : cellsOf d = [d] := by cases d <;> first | rfl | simp [DV.one] at ho
   exact zne hv (by rw [hc]; simpa using ho)
 . cases d <;> first | exact absurd rfl ho | skip
   . exact absurd rfl hd
   . rename_i cs
     obtain ⟨vs,rfl,hl,hr⟩ := hv.agg_inv
     exact ⟨by simpa [Value.cells,cellsOf] using hl,fun j e he => by
       obtain ⟨u,hu,hr⟩ := hr j e he
       exact ⟨u,by simpa [Value.cells] using hu,hr⟩⟩
   . rename_i cs
     obtain ⟨vs,rfl,hl,hr⟩ := hv.tup_inv
     simp only [cellsOf,Value.cells]
     exact .mk_cons hv .mk_nil
theorem getElem?_flat {z : Nat} : ∀ {es : List (List DV)} {vs : List (List Value)} {R : DV -> Value -> Prop},AllR R es vs -> (∀ e ∈ es,e.length = z) ->
   vs.flatten.length = es.length * z /\ ∀ i j d,z1 es i j = some d -> ∃ u,vs.flatten[i * z + j]? = some u /\ R d u
 | [],[],R,_,_ => ⟨by simp,fun i j d h => by simp [z1] at h⟩
 | e :: es,v :: vs,R,h,hz => by
   obtain ⟨hl,hr⟩ := getElem?_flat h.2 (fun x hx => hz x (by simp [hx]))
   have he := hz e (by simp)
   have hv : v.length = z := by rw [<- h.1.1,he]
   refine ⟨by simp [hl,hv,Nat.add_mul]; omega,fun i j d hd => ?_⟩
   cases i with
   | zero =>
     simp [z1] at hd
     obtain ⟨u,hu,hR⟩ := h.1.2 j d hd
     refine ⟨u,?_,hR⟩
     have hj : j < v.length := (List.getElem?_eq_some_iff.1 hu).1
     simp [List.getElem?_append_left hj,hu]
   | succ i =>
     obtain ⟨u,hu,hR⟩ := hr i j d (by simpa [z1] using hd)
     refine ⟨u,?_,hR⟩
     rw [List.flatten_cons,List.getElem?_append_right (by rw [hv,Nat.add_mul]; omega),<- hu]
     congr 1
     rw [hv,Nat.add_mul]; omega
 | [],_ :: _,_,h,_ => h.elim
 | _ :: _,[],_,h,_ => h.elim
theorem yec [Inhabited Env] (hs : SimH K F σ hp w) {w' : World} (os : w'.os = w.os) (tape : w'.tape = w.tape) (output : w'.output = w.output) (size : w'.heap.size = w.heap.size + 1) (heap : ∀ b,b < w.heap.size -> w'.heap[b]? = w.heap[b]?)
   (ob : DObj) (hk : ob.k = .imm \/ ob.k = .loc)
   (hb : HM F σ hp w F (fun x => if x = hp.length then some w.heap.size else σ x) (hp ++ [ob]) w' -> Blk w' w.heap.size ob.z ob.es (fun d v => if ob.k = .loc then VRep F (fun x => if x = hp.length then some w.heap.size else σ x) (hp ++ [ob]) w' d v else IRep F w' d v /\ d.one = true)) :
   SimH K F (fun x => if x = hp.length then some w.heap.size else σ x) (hp ++ [ob]) w' /\ Moves K F w F w' /\ HM F σ hp w F (fun x => if x = hp.length then some w.heap.size else σ x) (hp ++ [ob]) w' := by
 have c : Chg K F σ hp w hp.length ob F (fun x => if x = hp.length then some w.heap.size else σ x) (hp ++ [ob]) w' :=
   { os := os,tape := tape,output := output,size := by omega,hF := fun _ h => h,newF := fun _ h => .inl h,ltF := fun b h => by have := hs.fb b h; omega
     heap := fun b h _ => heap b h,hps := .inr ⟨rfl,rfl⟩,sig := fun h' hne => by simp [hne],newg := fun g hg => .inr (by simp at hg; omega),grow := fun oh hoh => by simp at hoh }
 have hm := c.hm hs
 refine ⟨c.sim hs ?_,c.moves hs,hm⟩
 have hb' := hb hm
 have nF : ¬ F w.heap.size := fun h => by have := hs.fb _ h; omega
 have nK : ¬ K w.heap.size := fun h => by have := hs.kb _ h; omega
 unfold ORep
 rcases hk with hk | hk
 . rw [hk]; dsimp only
   simp only [hk,reduceCtorEq,if_false] at hb'
   exact .inr ⟨w.heap.size,by simp,nF,nK,hb'⟩
 . rw [hk]; dsimp only
   simp only [hk,if_true] at hb'
   exact ⟨w.heap.size,by simp,nF,nK,hb'⟩
theorem ptr_new {z : Nat} {es : List (List DV)} {k : Kd} {L : Nat} (hL : es.length = L) :
   VRep F (fun x => if x = hp.length then some w.heap.size else σ x) (hp ++ [⟨k,z,es⟩]) w' (.ptr hp.length L 0 0) (.pointer (some ⟨w.heap.size,0,none⟩)) := by
 refine .ptr _ _ _ _ _ rfl (by simp) fun o ho => ?_
 have : o = ⟨k,z,es⟩ := by simpa using ho.symm
 subst this
 exact ⟨by simp [hL],fun _ _ => ⟨w.heap.size,by simp,by simp⟩⟩
theorem own_new {z : Nat} {es : List (List DV)} {k : Kd} {len cap : Nat} (hlen : len = es.length) (hc : len <= cap) (hb : cap * z <= bsz w' w.heap.size) :
   VRep F (fun x => if x = hp.length then some w.heap.size else σ x) (hp ++ [⟨k,z,es⟩]) w' (.own hp.length len 0 len) (.slice (some ⟨w.heap.size,0,none⟩) len cap) := by
 refine .own _ _ _ _ _ rfl (by simp) fun o ho => ?_
 have : o = ⟨k,z,es⟩ := by simpa using ho.symm
 subst this
 exact ⟨by simp [hlen],fun _ _ => ⟨_,cap,rfl,hc,.inr ⟨w.heap.size,by simp,by simp,by simpa using hb⟩⟩⟩
theorem zc7 (ob : Obj) : ∀ b,b < w.heap.size -> (w.alloc ob).heap[b]? = w.heap[b]? := fun b hb => Below.heap_alloc w ob b hb
theorem z34 [Inhabited Env] (hs : SimH K F σ hp w) (t : TypeId) {cs : List DV} {c : Array Value} (h : All2 (VRep F σ hp w) cs c.toList) :
   zeb K F σ hp w (.ptr hp.length 1 0 0) (hp ++ [⟨.loc,cs.length,[cs]⟩]) (.pointer (some ⟨w.heap.size,0,none⟩)) (w.alloc (.cells c t)) := by
 obtain ⟨h1,h2,h3⟩ := yec (w' := w.alloc (.cells c t)) hs rfl rfl rfl (by simp) (zc7 _) ⟨.loc,cs.length,[cs]⟩ (.inr rfl) (fun hm => by
   simp only [if_true]
   refine ⟨c,t,heap_alloc_new w _,?_,fun i e he => ?_,fun i j d hd => ?_⟩
   . have := h.1; simp at this; simp [this]
   . cases i <;> simp at he; subst he; rfl
   . cases i with
     | zero =>
       simp [z1] at hd
       obtain ⟨u,hu,hr⟩ := h.2 j d hd
       exact ⟨u,by simpa using hu,hr.mono hm⟩
     | succ i => simp [z1] at hd)
 exact ⟨F,_,h1,h2,h3,ptr_new rfl⟩
theorem g_at [Inhabited Env] (hs : SimH K F σ hp w) {h : Nat} {o0 : DObj} (h0 : hp[h]? = some o0) (hd : o0.k = .dead) (he : o0.es = []) (t : TypeId) {cs : List DV} {c : Array Value} (hv : All2 (VRep F σ hp w) cs c.toList) :
   zeb K F σ hp w (.ptr h 1 0 0) (hp.set h ⟨.loc,cs.length,[cs]⟩) (.pointer (some ⟨w.heap.size,0,none⟩)) (w.alloc (.cells c t)) := by
 have hl : h < hp.length := (List.getElem?_eq_some_iff.1 h0).1
 have cg : Chg K F σ hp w h ⟨.loc,cs.length,[cs]⟩ F (fun x => if x = h then some w.heap.size else σ x) (hp.set h ⟨.loc,cs.length,[cs]⟩) (w.alloc (.cells c t)) :=
   { os := rfl,tape := rfl,output := rfl,size := by simp,hF := fun _ h => h,newF := fun _ h => .inl h,ltF := fun b h => by have := hs.fb b h; simp; omega
     heap := fun b hb _ => zc7 _ b hb,hps := .inl ⟨hl,rfl⟩,sig := fun h' hne => by simp [hne],newg := fun g hg => .inr (by simp at hg; omega)
     grow := fun oh hoh => by
       rw [h0] at hoh; injection hoh with e; subst e
       exact ⟨.inr ⟨he,by simp⟩,by simp [he],fun hx => by simp [he] at hx⟩ }
 have hm := cg.hm hs
 have nF : ¬ F w.heap.size := fun h => by have := hs.fb _ h; omega
 have nK : ¬ K w.heap.size := fun h => by have := hs.kb _ h; omega
 refine ⟨F,_,cg.sim hs ?_,cg.moves hs,hm,.ptr _ _ _ _ _ rfl (by simpa using hl) fun o' ho' => ?_⟩
 . unfold ORep
   dsimp only
   refine ⟨w.heap.size,by simp,nF,nK,c,t,heap_alloc_new w _,?_,fun i e he => ?_,fun i j d hd => ?_⟩
   . have := hv.1; simp at this; simp [this]
   . cases i <;> simp at he; subst he; rfl
   . cases i with
     | zero =>
       simp [z1] at hd
       obtain ⟨u,hu,hr⟩ := hv.2 j d hd
       exact ⟨u,by simpa using hu,hr.mono hm⟩
     | succ i => simp [z1] at hd
 . rw [cg.get] at ho'; injection ho' with ho'; subst ho'
   exact ⟨by simp,fun _ _ => ⟨w.heap.size,by simp,by simp⟩⟩
theorem x_box [Inhabited Env] {t : TypeId} {x : Operand} {x' : DA} (hs : SimH K F σ hp w) (ho : o.op = .box t x) (hf : FRep F σ hp w fr a.tmps) (hx : mArg x x' = true) (h1 : ∀ d ∈ cellsOf (x'.ev fr),d.one = true) :
   ∃ v w',(execOp a.eval o).run P w = .ok (.value v) w' /\ zeb K F σ hp w (.ptr hp.length 1 0 0) (hp ++ [⟨.loc,(cellsOf (x'.ev fr)).length,[cellsOf (x'.ev fr)]⟩]) v w' :=
 ⟨_,_,by simp [execOp,ho,Instr.box,newVar,newRow],z34 hs t (zne (zz hf hx) h1)⟩
theorem zi4 {vs : List Value} {ds : List DV} (h : zdi vs ds = true) : All2 (IOne F w) ds vs := zgr h
theorem x_aa [Inhabited Env] {t : TypeId} {i : TypeInfo} {z : Value} {zero : List DV} (hs : SimH K F σ hp w) (ho : o.op = .alloc t) (hi : P.info? t = some i) (hz : i.zero = some z) (hm : zdi z.cells.toList zero = true) {h : Nat} {o0 : DObj} (h0 : hp[h]? = some o0) (hd : o0.k = .dead) (he : o0.es = []) :
   ∃ v w',(execOp a.eval o).run P w = .ok (.value v) w' /\ zeb K F σ hp w (.ptr h 1 0 0) (hp.set h ⟨.loc,zero.length,[zero]⟩) v w' :=
 ⟨_,_,by simp [execOp,ho,Instr.alloc,newVar,newRow,zeroValue,typeInfo,hi,hz],g_at hs h0 hd he t ((zi4 hm).imp fun d v h => .imm h.1)⟩
theorem x_alloc [Inhabited Env] {t : TypeId} {i : TypeInfo} {z : Value} {zero : List DV} (hs : SimH K F σ hp w) (ho : o.op = .alloc t) (hi : P.info? t = some i) (hz : i.zero = some z) (hm : zdi z.cells.toList zero = true) :
   ∃ v w',(execOp a.eval o).run P w = .ok (.value v) w' /\ zeb K F σ hp w (.ptr hp.length 1 0 0) (hp ++ [⟨.loc,zero.length,[zero]⟩]) v w' :=
 ⟨_,_,by simp [execOp,ho,Instr.alloc,newVar,newRow,zeroValue,typeInfo,hi,hz],z34 hs t ((zi4 hm).imp fun d v h => .imm h.1)⟩
end
end Go.Nk
set_option linter.all false
namespace Go.Nk
open Go.RowKit
section
variable {P : Program} {K F F' : Nat -> Prop} {σ σ' : Nat -> Option Nat} {hp hp' : List DObj} {w w' : World} {fr : List (Nat × DV)} {a : Act} {o : Oper}
theorem z2t (off : Nat) : ∀ (l : List Value) (s : Nat) (cs : Array Value),
   ((l.zipIdx s).foldl (fun (cs : Array Value) (x : Value × Nat) => cs.setIfInBounds (off + x.2) x.1) cs).size = cs.size /\
   ∀ k,((l.zipIdx s).foldl (fun (cs : Array Value) (x : Value × Nat) => cs.setIfInBounds (off + x.2) x.1) cs)[k]? = if off + s <= k /\ k < off + s + l.length /\ k < cs.size then l[k - off - s]? else cs[k]?
 | [],s,cs => ⟨by simp,fun k => by simp; intro h1 h2; omega⟩
 | v :: l,s,cs => by
   obtain ⟨h1,h2⟩ := z2t off l (s + 1) (cs.setIfInBounds (off + s) v)
   simp only [List.zipIdx_cons,List.foldl_cons]
   refine ⟨by rw [h1]; simp,fun k => ?_⟩
   rw [h2 k]
   simp only [Array.size_setIfInBounds,List.length_cons]
   by_cases hk : k = off + s
   . subst hk
     rw [if_neg (by omega)]
     by_cases hb : off + s < cs.size
     . rw [if_pos (by omega)]
       simp [hb]
     . rw [if_neg (by omega)]
       simp [hb]
   . by_cases hc : off + (s + 1) <= k /\ k < off + (s + 1) + l.length /\ k < cs.size
     . rw [if_pos hc,if_pos (by omega)]
       rw [show k - off - s = (k - off - (s + 1)) + 1 by omega]
       simp
     . rw [if_neg hc,if_neg (by omega)]
       rw [Array.getElem?_setIfInBounds_ne (by omega)]
def zkx (off : Nat) (v cs : Array Value) : Array Value := v.zipIdx.foldl (fun cs (c,j) => cs.setIfInBounds (off + j) c) cs
theorem zyk (off : Nat) (v : Array Value) (cs : Array Value) :
   (zkx off v cs).size = cs.size /\ ∀ k,(zkx off v cs)[k]? = if off <= k /\ k < off + v.size /\ k < cs.size then v[k - off]? else cs[k]? := by
 have e : zkx off v cs = ((v.toList.zipIdx 0).foldl (fun (cs : Array Value) (x : Value × Nat) => cs.setIfInBounds (off + x.2) x.1) cs) := by
   unfold zkx
   rw [<- Array.foldl_toList]
   rw [Array.toList_zipIdx]
 rw [e]
 obtain ⟨h1,h2⟩ := z2t off v.toList 0 cs
 refine ⟨h1,fun k => ?_⟩
 rw [h2 k]
 simp
theorem zkr : ∀ (cs row : List DV) (j : Nat),(zk row j cs).length = row.length /\
   ∀ k,(zk row j cs)[k]? = if j <= k /\ k < j + cs.length /\ k < row.length then cs[k - j]? else row[k]?
 | [],row,j => ⟨rfl,fun k => by simp [zk]; intro h1 h2; omega⟩
 | c :: cs,row,j => by
   obtain ⟨h1,h2⟩ := zkr cs (row.set j c) (j + 1)
   simp only [zk]
   refine ⟨by rw [h1]; simp,fun k => ?_⟩
   rw [h2 k]
   simp only [List.length_set,List.length_cons]
   by_cases hk : k = j
   . subst hk
     rw [if_neg (by omega)]
     by_cases hb : k < row.length
     . rw [if_pos (by omega)]
       simp [hb]
     . rw [if_neg (by omega)]
       rw [List.getElem?_eq_none (by simp; omega),List.getElem?_eq_none (by omega)]
   . by_cases hc : j + 1 <= k /\ k < j + 1 + cs.length /\ k < row.length
     . rw [if_pos hc,if_pos (by omega)]
       rw [show k - j = (k - (j + 1)) + 1 by omega]
       simp
     . rw [if_neg hc,if_neg (by omega)]
       rw [List.getElem?_set_ne (by omega)]
theorem isU_ne {d : DV} (h : d.isU = false) : d ≠ .undef := by rintro rfl; simp [DV.isU] at h
theorem zqk (hf : FRep F σ hp w fr a.tmps) (place : Nat -> Option (Nat × Nat)) : ∀ (ps : List (Nat × Operand)) (parts : List (Nat × Nat × DA)) (ds : List DV) (cells : Array Value),
   zt4 place ps parts = true -> All2 (VRep F σ hp w) ds cells.toList -> (zr ds fr parts).1 ->
   ∃ cells',Instr.fill place cells (ps.map fun (i,x) => (i,a.eval x)) = some cells' /\ All2 (VRep F σ hp w) (zr ds fr parts).2 cells'.toList
 | [],[],ds,cells,_,h,_ => ⟨cells,rfl,h⟩
 | (i,x) :: ps,(off,n,y) :: parts,ds,cells,hm,h,hb => by
   simp only [zt4,Bool.and_eq_true,decide_eq_true_eq] at hm
   obtain ⟨⟨hpl,hx⟩,hm⟩ := hm
   obtain ⟨hu,hn,hoff,hb⟩ := hb
   have hc := zqf (zz hf hx) (isU_ne hu)
   have hsz : (a.eval x).cells.size = n := by rw [<- hn,hc.1]; simp
   have hds : ds.length = cells.size := by simpa using h.1
   obtain ⟨f1,f2⟩ := zyk off (a.eval x).cells cells
   obtain ⟨s1,s2⟩ := zkr (cellsOf (y.ev fr)) ds off
   obtain ⟨cells',e1,e2⟩ := zqk hf place ps parts (zk ds off (cellsOf (y.ev fr))) (zkx off (a.eval x).cells cells) hm
     (⟨by rw [s1,hds,Array.length_toList,f1],fun k d hd => by
       rw [s2 k] at hd
       split at hd
       . rename_i hk
         obtain ⟨u,hu,hr⟩ := hc.2 _ _ hd
         refine ⟨u,?_,hr⟩
         rw [Array.getElem?_toList]
         refine (f2 k).trans ?_
         rw [if_pos (by omega)]
         simpa using hu
       . rename_i hk
         obtain ⟨u,hu,hr⟩ := h.2 _ _ hd
         refine ⟨u,?_,hr⟩
         rw [Array.getElem?_toList]
         refine (f2 k).trans ?_
         rw [if_neg (by omega)]
         simpa using hu⟩) hb
   refine ⟨cells',?_,e2⟩
   simp only [List.map_cons,Instr.fill,hpl]
   rw [if_neg]
   . exact e1
   . simp [hsz]; omega
 | [],_ :: _,_,_,hm,_,_ => by simp [zt4] at hm
 | _ :: _,[],_,_,hm,_,_ => by simp [zt4] at hm
theorem run_mapM (f : Field -> Sem (Nat × Nat)) (g : Field -> Nat × Nat) (fs : Array Field) (h : ∀ x ∈ fs.toList,(f x).run P w = .ok (g x) w) : (fs.mapM f).run P w = .ok (fs.map g) w := by
 have key : ∀ l : List Field,(∀ x ∈ l,(f x).run P w = .ok (g x) w) -> (l.mapM f).run P w = .ok (l.map g) w := by
   intro l
   induction l with
   | nil => intro _; simp
   | cons x l ih =>
     intro h
     simp [List.mapM_cons,h x (by simp),ih (fun y hy => h y (by simp [hy]))]
 rw [Array.mapM_eq_mapM_toList]
 rw [Sem.run_map,key fs.toList h]
 simp only [Result.andThen_ok]
 congr 1
 apply Array.ext'
 simp
theorem q_build {t : TypeId} {ps : Array (Nat × Operand)} {zero : List DV} {parts : List (Nat × Nat × DA)} (ho : o.op = .build t ps) (hm : mOp P (.build t ps) (.build zero parts) = true) (hf : FRep F σ hp w fr a.tmps)
   (h : (zr zero fr parts).1) : zdj P F σ hp w o a (.agg (zr zero fr parts).2) := by
 simp only [mOp,Bool.and_eq_true] at hm
 obtain ⟨hz,hm⟩ := hm
 cases hi : P.info? t with
 | none => simp [hi] at hz
 | some i =>
   simp only [hi] at hz
   cases hzz : i.zero with
   | none => simp [hzz] at hz
   | some z =>
     simp only [hzz] at hz
     have hz' : All2 (VRep F σ hp w) zero z.cells.toList := (zi4 hz).imp fun d v h => .imm h.1
     have hzv : (zeroValue t).run P w = .ok z w := by simp [zeroValue,typeInfo,hi,hzz]
     have hl : (ps.map fun x => match x with | (i,x) => (i,a.eval x)).toList = ps.toList.map fun (i,x) => (i,a.eval x) := by simp
     split at hm
     . rename_i fs hu
       simp only [Bool.and_eq_true,List.all_eq_true] at hm
       obtain ⟨hall,hm⟩ := hm
       obtain ⟨cells',e1,e2⟩ := zqk hf _ _ _ _ _ hm hz' h
       have hpl : (fs.mapM fun f => do pure (f.offset,<- sizeOf f.type) : Sem (Array (Nat × Nat))).run P w = .ok (fs.map fun f => (f.offset,P.cellsOf f.type)) w := by
         refine run_mapM _ _ _ fun x hx => ?_
         obtain ⟨j,hj⟩ := Option.isSome_iff_exists.1 (hall x hx)
         simp [sizeOf,typeInfo,hj,Program.cellsOf]
       have hfun : (fun (i : Nat) => (fs.map fun f => (f.offset,P.cellsOf f.type))[i]?) = fun (i : Nat) => (fs[i]?).bind fun (f : Field) => (P.info? f.type).map fun j => (f.offset,j.size) := by
         funext i
         rw [Array.getElem?_map]
         cases hfi : fs[i]? with
         | none => simp
         | some f =>
           obtain ⟨j,hj⟩ := Option.isSome_iff_exists.1 (hall f (by simpa using Array.mem_of_getElem? hfi))
           simp [hj,Program.cellsOf]
       refine ⟨.agg cells',?_,VRep.agg_mk (by simpa using e2.1) fun j d hd => by
         obtain ⟨u,hu,hr⟩ := e2.2 j d hd
         exact ⟨u,by simpa using hu,hr⟩⟩
       simp only [execOp,ho,Instr.build,Sem.run_bind,hzv,Result.andThen_ok,zai hu,hpl,hfun,hl,e1,Sem.run_pure]
     . rename_i n e hu
       cases hj : P.info? e with
       | none => simp [hj] at hm
       | some j =>
         simp only [hj] at hm
         obtain ⟨cells',e1,e2⟩ := zqk hf _ _ _ _ _ hm hz' h
         refine ⟨.agg cells',?_,VRep.agg_mk (by simpa using e2.1) fun j d hd => by
           obtain ⟨u,hu,hr⟩ := e2.2 j d hd
           exact ⟨u,by simpa using hu,hr⟩⟩
         have hsz : (sizeOf e).run P w = .ok j.size w := by simp [sizeOf,typeInfo,hj]
         simp only [execOp,ho,Instr.build,Sem.run_bind,hzv,Result.andThen_ok,zai hu,hsz,hl,e1,Sem.run_pure]
     . cases hm
end
end Go.Nk
set_option linter.all false
namespace Go.Nk
open Go.RowKit
section
variable {P : Program} {K F F' : Nat -> Prop} {σ σ' : Nat -> Option Nat} {hp hp' : List DObj} {w w' : World} {fr : List (Nat × DV)} {a : Act} {o : Oper}
def Rows (R : DV -> Value -> Prop) (z : Nat) (es : List (List DV)) (c : Array Value) : Prop :=
 c.size = es.length * z /\ (∀ (i : Nat) (e : List DV),es[i]? = some e -> e.length = z) /\ ∀ i j d,z1 es i j = some d -> ∃ u,c[i * z + j]? = some u /\ R d u
theorem Rows.imp {R R' : DV -> Value -> Prop} {z : Nat} {es : List (List DV)} {c : Array Value} (h : Rows R z es c) (hR : ∀ d v,R d v -> R' d v) : Rows R' z es c :=
 ⟨h.1,h.2.1,fun i j d hd => let ⟨u,hu,hr⟩ := h.2.2 i j d hd; ⟨u,hu,hR _ _ hr⟩⟩
theorem ydi : ∀ {es : List (List DV)} {c : List Value} {R : DV -> Value -> Prop} {z : Nat},c.length = es.length * z -> (∀ (i : Nat) (e : List DV),es[i]? = some e -> e.length = z) ->
   (∀ i j d,z1 es i j = some d -> ∃ u,c[i * z + j]? = some u /\ R d u) -> ∃ vs,AllR R es vs /\ vs.flatten = c
 | [],c,R,z,hl,_,_ => ⟨[],trivial,by simp at hl; subst hl; rfl⟩
 | e :: es,c,R,z,hl,hz,h => by
   have he := hz 0 e rfl
   have hlen : z <= c.length := by rw [hl,List.length_cons,Nat.add_mul]; omega
   obtain ⟨vs,h1,h2⟩ := ydi (es := es) (c := c.drop z) (R := R) (z := z) (by rw [List.length_drop,hl,List.length_cons,Nat.add_mul]; omega) (fun i e' he' => hz (i + 1) e' (by simpa using he'))
     (fun i j d hd => by
       obtain ⟨u,hu,hr⟩ := h (i + 1) j d (by simpa [z1] using hd)
       refine ⟨u,?_,hr⟩
       rw [List.getElem?_drop,<- hu]
       congr 1
       rw [Nat.add_mul]; omega)
   refine ⟨c.take z :: vs,⟨⟨by simp [he]; omega,fun j d hd => ?_⟩,h1⟩,by simp [h2]⟩
   obtain ⟨u,hu,hr⟩ := h 0 j d (by simpa [z1] using hd)
   refine ⟨u,?_,hr⟩
   have : j < z := by rw [<- he]; exact (List.getElem?_eq_some_iff.1 hd).1
   rw [List.getElem?_take,if_pos this]
   simpa using hu
theorem idx_ne {z i i' j : Nat} (hj : j < z) (h : i ≠ i') : ¬ (i * z <= i' * z + j /\ i' * z + j < i * z + z) := by
 rintro ⟨h1,h2⟩
 rcases Nat.lt_or_gt_of_ne h with h | h
 . have : (i + 1) * z <= i' * z := Nat.mul_le_mul_right _ h
   rw [Nat.add_mul] at this; omega
 . have : (i' + 1) * z <= i * z := Nat.mul_le_mul_right _ h
   rw [Nat.add_mul] at this; omega
theorem zpm (hf : FRep F σ hp w fr a.tmps) (z : Nat) (zero : List DV) (hz : zero.length = z) : ∀ (parts : List (Option DA)) (i : Nat) (ps : List (Nat × Operand)) (pre : List (List DV)) (c : Array Value),
   zo7 i ps parts = true -> pre.length = i -> Rows (VRep F σ hp w) z (pre ++ List.replicate parts.length zero) c ->
   (parts.all (bU fr zero)) = true ->
   ∃ c',Instr.fill (fun i => some (i * z,z)) c (ps.map fun (i,x) => (i,a.eval x)) = some c' /\
     Rows (VRep F σ hp w) z (pre ++ parts.map (bRow fr zero)) c'
 | [],i,ps,pre,c,hm,hpre,h,_ => by
   cases ps with
   | nil => exact ⟨c,rfl,by simpa using h⟩
   | cons p ps => simp [zo7] at hm
 | none :: parts,i,ps,pre,c,hm,hpre,h,hu => by
   obtain ⟨c',e1,e2⟩ := zpm hf z zero hz parts (i + 1) ps (pre ++ [zero]) c (by simpa [zo7] using hm) (by simp [hpre]) (by simpa [List.replicate_succ,List.append_assoc] using h) (by simpa [bU] using hu)
   exact ⟨c',e1,by simpa [List.append_assoc,bRow] using e2⟩
 | some y :: parts,i,ps,pre,c,hm,hpre,h,hu => by
   cases ps with
   | nil => simp [zo7] at hm
   | cons p ps =>
     obtain ⟨k,x⟩ := p
     simp only [zo7,Bool.and_eq_true,beq_iff_eq] at hm
     obtain ⟨⟨rfl,hx⟩,hm⟩ := hm
     simp only [List.all_cons,bU,Bool.and_eq_true,Bool.not_eq_true',beq_iff_eq] at hu
     obtain ⟨⟨hu1,hu2⟩,hu3⟩ := hu
     have hc := zqf (zz hf hx) (isU_ne hu1)
     have hsz : (a.eval x).cells.size = z := by rw [<- hz,<- hu2,hc.1]; simp
     obtain ⟨f1,f2⟩ := zyk (k * z) (a.eval x).cells c
     simp only [List.length_cons] at h
     have hcs := h.1
     simp only [List.length_append,List.length_replicate,hpre] at hcs
     have hkz : k * z + z <= c.size := by
       rw [hcs,show k + (parts.length + 1) = (k + 1) + parts.length by omega,Nat.add_mul,Nat.add_mul]; omega
     obtain ⟨c',e1,e2⟩ := zpm hf z zero hz parts (k + 1) ps (pre ++ [cellsOf (y.ev fr)]) (zkx (k * z) (a.eval x).cells c) hm (by simp [hpre])
       ⟨by rw [f1,hcs]; simp [hpre],fun i e he => by
         by_cases hik : i = k
         . subst hik
           rw [List.append_assoc,List.getElem?_append_right (by omega),hpre] at he
           simp at he; subst he; omega
         . refine h.2.1 i e ?_
           rcases Nat.lt_or_ge i k with hlt | hge
           . rw [List.append_assoc,List.getElem?_append_left (by omega)] at he
             rw [List.getElem?_append_left (by omega)]; exact he
           . rw [List.append_assoc,List.getElem?_append_right (by omega),List.getElem?_append_right (by simp; omega)] at he
             rw [List.getElem?_append_right (by omega),List.replicate_succ,List.getElem?_cons]
             rw [if_neg (by omega)]
             simpa [Nat.sub_sub] using he,fun i j d hd => by
         by_cases hik : i = k
         . subst hik
           have hd' : (cellsOf (y.ev fr))[j]? = some d := by
             unfold z1 at hd
             rw [List.append_assoc,List.getElem?_append_right (by omega),hpre] at hd
             simpa using hd
           obtain ⟨u,hu,hr⟩ := hc.2 _ _ hd'
           have hjz : j < z := by
             have := (List.getElem?_eq_some_iff.1 hd').1
             omega
           refine ⟨u,?_,hr⟩
           rw [f2,if_pos (by omega)]
           simpa using hu
         . have hd' : z1 (pre ++ List.replicate (parts.length + 1) zero) i j = some d := by
             unfold z1 at hd |-
             rcases Nat.lt_or_ge i k with hlt | hge
             . rw [List.append_assoc,List.getElem?_append_left (by omega)] at hd
               rw [List.getElem?_append_left (by omega)]; exact hd
             . rw [List.append_assoc,List.getElem?_append_right (by omega),List.getElem?_append_right (by simp; omega)] at hd
               rw [List.getElem?_append_right (by omega),List.replicate_succ,List.getElem?_cons]
               rw [if_neg (by omega)]
               simpa [Nat.sub_sub] using hd
           obtain ⟨u,hu,hr⟩ := h.2.2 _ _ _ hd'
           have hjz : j < z := by
             unfold z1 at hd'
             cases he : (pre ++ List.replicate (parts.length + 1) zero)[i]? with
             | none => simp [he] at hd'
             | some e =>
               simp [he] at hd'
               rw [<- h.2.1 i e he]
               exact (List.getElem?_eq_some_iff.1 hd').1
           refine ⟨u,?_,hr⟩
           rw [f2,if_neg (by rw [hsz]; intro h3; exact idx_ne hjz (Ne.symm hik) ⟨h3.1,h3.2.1⟩)]
           exact hu⟩ hu3
     refine ⟨c',?_,by simpa [List.append_assoc,bRow] using e2⟩
     simp only [List.map_cons,Instr.fill]
     rw [if_neg]
     . exact e1
     . simp [hsz]; omega
theorem zwh {e : TypeId} {zero : List DV} (h : zxb P e zero = true) :
   ∃ i z,P.info? e = some i /\ i.zero = some z /\ zdi z.cells.toList zero = true /\ i.size = zero.length /\ 0 < i.size /\ i.bytes <= 32768 /\ z.cells.size = zero.length /\ zlr zero * i.bytes <= 281474976710656 := by
 unfold zxb at h
 split at h
 . rename_i i hi
   split at h
   . rename_i z hz
     simp only [Bool.and_eq_true,beq_iff_eq,decide_eq_true_eq] at h
     obtain ⟨⟨⟨⟨h1,h2⟩,h3⟩,h4⟩,h5⟩ := h
     exact ⟨i,z,hi,hz,h1,h2,h3,h4,by have := (zgr (F := fun _ => False) (w := default) h1).1; simpa using this.symm,h5⟩
   . cases h
 . cases h
theorem zv4 {z : Value} {zero : List DV} (hm : zdi z.cells.toList zero = true) (hsz : z.cells.size = zero.length) (n : Nat) :
   Rows (IOne F w) zero.length (List.replicate n zero) ((Array.range (n * zero.length)).map (z.cells[· % z.cells.size]!)) := by
 refine ⟨by simp,fun i e he => ?_,fun i j d hd => ?_⟩
 . rw [List.getElem?_replicate] at he
   split at he
   . injection he with he; rw [<- he]
   . cases he
 . unfold z1 at hd
   rw [List.getElem?_replicate] at hd
   split at hd
   . rename_i hi
     simp at hd
     obtain ⟨u,hu,hr⟩ := (zi4 (F := F) (w := w) hm).2 j d hd
     have hj : j < zero.length := (List.getElem?_eq_some_iff.1 hd).1
     refine ⟨u,?_,hr⟩
     have hlt : i * zero.length + j < n * zero.length := by
       have : (i + 1) * zero.length <= n * zero.length := Nat.mul_le_mul_right _ hi
       rw [Nat.add_mul] at this; omega
     have hmod : (i * zero.length + j) % z.cells.size = j := by
       rw [hsz,Nat.mul_comm,Nat.mul_add_mod,Nat.mod_eq_of_lt hj]
     rw [Array.getElem?_map,Array.getElem?_range,if_pos hlt]
     simp only [Option.map_some,hmod]
     rw [getElem!_def]
     simp at hu
     rw [hu]
   . simp at hd
theorem ygg [Inhabited Env] (hs : SimH K F σ hp w) {es : List (List DV)} {z cap : Nat} {c : Array Value} {t : TypeId} {mk : Nat × Nat} {w' : World} (os : w'.os = w.os) (tape : w'.tape = w.tape) (output : w'.output = w.output)
   (size : w'.heap.size = w.heap.size + 1) (heap : ∀ b,b < w.heap.size -> w'.heap[b]? = w.heap[b]?) (hg : w'.heap[w.heap.size]? = some (.cells c t mk)) (hz : ∀ (i : Nat) (e : List DV),es[i]? = some e -> e.length = z)
   (hc : ∀ i j d,z1 es i j = some d -> ∃ u,c[i * z + j]? = some u /\ IOne F w d u) (hcap : es.length <= cap) :
   zeb K F σ hp w (.sl es) hp (.slice (some ⟨w.heap.size,0,none⟩) es.length cap) w' := by
 obtain ⟨h1,h2,h3⟩ := hs.ext (w' := w') (F' := fun b => F b \/ b = w.heap.size) os tape output (by omega) heap (fun b h => .inl h) (fun b h => h.imp id fun e => by omega) (fun b h => h.elim (fun h => by have := hs.fb b h; omega) fun e => by omega)
 refine ⟨_,σ,h1,h2,h3,.imm (IRep.sl_mk hcap hz fun _ => ⟨_,rfl,rfl,.inr rfl,fun i j d hd => ?_⟩)⟩
 obtain ⟨u,hu,hr,h1'⟩ := hc i j d hd
 exact ⟨u,by rw [ziy hg]; simpa using hu,h1',hr.mono h3.mono h3.keepF⟩
theorem x_bref [Inhabited Env] {t : TypeId} {x : Operand} {x' : DA} (hs : SimH K F σ hp w) (ho : o.op = .box t x) (hf : FRep F σ hp w fr a.tmps) (hx : mArg x x' = true) (h0 : (cellsOf (x'.ev fr)).all DV.immB = true) :
   ∃ v w',(execOp a.eval o).run P w = .ok (.value v) w' /\ zeb K F σ hp w (.ref (cellsOf (x'.ev fr))) hp v w' := by
 have h1 : ∀ d ∈ cellsOf (x'.ev fr),d.immB = true := by simpa using h0
 have hv := zne (zz hf hx) (fun d hd => ztk (h1 d hd))
 refine ⟨.pointer (some ⟨w.heap.size,0,none⟩),w.alloc (.cells (a.eval x).cells t),by simp [execOp,ho,Instr.box,newVar,newRow],?_⟩
 obtain ⟨k1,k2,k3⟩ := hs.ext (w' := w.alloc (.cells (a.eval x).cells t)) (F' := fun b => F b \/ b = w.heap.size) rfl rfl rfl (by simp) (zc7 _) (fun b h => .inl h) (fun b h => h.imp id fun e => by omega) (fun b h => h.elim (fun h => by have := hs.fb b h; simp; omega) fun e => by simp; omega)
 refine ⟨_,σ,k1,k2,k3,.imm (.ref _ _ (fun j => ((a.eval x).cells[j]?).getD undef) rfl (.inr rfl) (fun j d hd => ?_) (fun j d hd => ?_))⟩
 . obtain ⟨u,hu,hr⟩ := hv.2 j d hd
   have hu' : (a.eval x).cells[j]? = some u := by simpa using hu
   refine ⟨?_,ztk (h1 d (List.mem_of_getElem? hd))⟩
   rw [ziy (heap_alloc_new w _)]
   simp [hu']
 . obtain ⟨u,hu,hr⟩ := hv.2 j d hd
   have hu' : (a.eval x).cells[j]? = some u := by simpa using hu
   rw [hu']
   exact (hr.imm_of (h1 d (List.mem_of_getElem? hd))).mono k3.mono k3.keepF
theorem zuh [Inhabited Env] (hs : SimH K F σ hp w) {es : List (List DV)} {z cap : Nat} {c : Array Value} {t : TypeId} {w' : World} (os : w'.os = w.os) (tape : w'.tape = w.tape) (output : w'.output = w.output)
   (size : w'.heap.size = w.heap.size + 1) (heap : ∀ b,b < w.heap.size -> w'.heap[b]? = w.heap[b]?) (hg : w'.heap[w.heap.size]? = some (.cells c t (0,0))) (hz : ∀ (i : Nat) (e : List DV),es[i]? = some e -> e.length = z)
   (hc : ∀ i j d,z1 es i j = some d -> ∃ u,c[i * z + j]? = some u /\ IOne F w d u) (hcap : es.length <= cap) (hcz : cap * z <= c.size) :
   zeb K F σ hp w (.own hp.length es.length 0 es.length) (hp ++ [⟨.imm,z,es⟩]) (.slice (some ⟨w.heap.size,0,none⟩) es.length cap) w' := by
 obtain ⟨h1,h2,h3⟩ := yec (w' := w') hs os tape output size heap ⟨.imm,z,es⟩ (.inl rfl) (fun hm => by
   simp only [reduceCtorEq,if_false]
   refine ⟨c,t,hg,Nat.le_trans (Nat.mul_le_mul_right _ hcap) hcz,hz,fun i j d hd => ?_⟩
   obtain ⟨u,hu,hr,h1'⟩ := hc i j d hd
   exact ⟨u,hu,hr.mono hm.mono hm.keepF,h1'⟩)
 refine ⟨F,_,h1,h2,h3,own_new rfl hcap ?_⟩
 unfold bsz; rw [hg]; exact hcz
theorem zeb.of_frzd [Inhabited Env] {F1 : Nat -> Prop} {hp1 hp2 : List DObj} {w1 : World} {d : DV} {v : Value} (f : Frzd K F σ hp w F1 hp1) (h : zeb K F1 σ hp1 w d hp2 v w1) : zeb K F σ hp w d hp2 v w1 := by
 obtain ⟨F',σ',h1,h2,h3,h4⟩ := h
 exact ⟨F',σ',h1,f.2.1.trans h2,f.2.2.trans h3,h4⟩
theorem x_bslice [Inhabited Env] {t e : TypeId} {n : Nat} {ps : Array (Nat × Operand)} {imm : Bool} {zero : List DV} {parts : List (Option DA)} (hs : SimH K F σ hp w) (ho : o.op = .buildSlice t n ps) (ht : P.underlying t = some (.slice e)) (hze : zxb P e zero = true)
   (hn : n = parts.length) (hm : zo7 0 ps.toList parts = true) (hbig : n * zero.length <= 16777216) (hf : FRep F σ hp w fr a.tmps) (C : Orc)
   (h : (dval C (.bslice imm zero parts) ⟨fr,hp⟩).pre) :
   ∃ v w',(execOp a.eval o).run P w = .ok (.value v) w' /\ zeb K F σ hp w (dval C (.bslice imm zero parts) ⟨fr,hp⟩).val (dval C (.bslice imm zero parts) ⟨fr,hp⟩).hp v w' := by
 obtain ⟨i,z,hi,hz,hmz,hsz,hpos,hby,hzs,hcp⟩ := zwh hze
 have hpos' : 0 < zero.length := by omega
 have hrows := zv4 (F := F) (w := w) hmz hzs parts.length
 have hu : (parts.all (bU fr zero)) = true := by
   cases imm <;> exact h.1
 obtain ⟨c',e1,e2⟩ := zpm hf zero.length zero rfl parts 0 ps.toList [] _ hm rfl (by simpa using hrows.imp fun d v h => .imm h.1) hu
 simp only [List.nil_append] at e2
 have hl : (ps.map fun x => match x with | (i,x) => (i,a.eval x)).toList = ps.toList.map fun (i,x) => (i,a.eval x) := by simp
 have hrun : (execOp a.eval o).run P w = .ok (.value (.slice (some ⟨w.heap.size,0,none⟩) n n)) (w.alloc (.cells c' e)) := by
   have hbig' : ¬ (n * zero.length > 2 ^ 24) := by omega
   have hps : List.map (fun x : Nat × Operand => (x.fst,a.eval x.snd)) ps.toList = ps.toList.map fun (i,x) => (i,a.eval x) := rfl
   by_cases h0 : n * zero.length = 0
   . have hfill : Instr.fill (fun i => some (i * zero.length,zero.length)) ((Array.range (n * zero.length)).map ((#[] : Array Value)[· % (#[] : Array Value).size]!)) (ps.toList.map fun (i,x) => (i,a.eval x)) = some c' := by
       have e0 : ∀ f : Nat -> Value,Array.map f (Array.range 0) = #[] := fun f => by apply Array.ext'; simp
       rw [<- e1,<- hn,h0,e0,e0]
     simp only [execOp,ho,Instr.buildSlice,Sem.run_bind,zai ht,Result.andThen_ok,sizeOf,typeInfo,run_program,hi,hsz,hbig',if_false,Sem.run_pure,if_pos h0,hl,hps,hfill,newRow,run_newObj]
     rfl
   . have hfill : Instr.fill (fun i => some (i * zero.length,zero.length)) ((Array.range (n * zero.length)).map (z.cells[· % z.cells.size]!)) (ps.toList.map fun (i,x) => (i,a.eval x)) = some c' := by
       rw [<- e1,<- hn]
     have hzv : (zeroValue e).run P w = .ok z w := by simp [zeroValue,typeInfo,hi,hz]
     simp only [execOp,ho,Instr.buildSlice,Sem.run_bind,zai ht,Result.andThen_ok,sizeOf,typeInfo,run_program,hi,hsz,hbig',if_false,Sem.run_pure,if_neg h0,hzv,hl,hps,hfill,newRow,run_newObj]
     rfl
 refine ⟨_,_,hrun,?_⟩
 have hrw : ∃ vs,AllR (VRep F σ hp w) (parts.map (bRow fr zero)) vs /\ vs.flatten = c'.toList :=
   ydi (by simpa using e2.1) e2.2.1 (fun i j d hd => by obtain ⟨u,hu,hr⟩ := e2.2.2 i j d hd; exact ⟨u,by simpa using hu,hr⟩)
 obtain ⟨vs,hall,hvs⟩ := hrw
 have hpre : (fzLL hp (parts.map (bRow fr zero))).pre /\ ∀ e ∈ (fzLL hp (parts.map (bRow fr zero))).vals,e.length = zero.length := by
   cases imm <;> exact h.2
 obtain ⟨F1,f1,r1⟩ := z8h hs hall hpre.1
 obtain ⟨g1,g2⟩ := getElem?_flat r1 hpre.2
 have hlen : (fzLL hp (parts.map (bRow fr zero))).vals.length = n := by
   have h1 : (fzLL hp (parts.map (bRow fr zero))).vals.length * zero.length = parts.length * zero.length := by
     rw [<- g1,hvs]; simpa using e2.1
   rw [hn]
   exact Nat.eq_of_mul_eq_mul_right hpos' h1
 rw [hvs] at g1 g2
 refine zeb.of_frzd f1 ?_
 have hzz : ∀ (i : Nat) (e : List DV),(fzLL hp (parts.map (bRow fr zero))).vals[i]? = some e -> e.length = zero.length := fun i e he => hpre.2 e (List.mem_of_getElem? he)
 have hcc : ∀ i j d,z1 (fzLL hp (parts.map (bRow fr zero))).vals i j = some d -> ∃ u,c'[i * zero.length + j]? = some u /\ IOne F1 w d u := fun i j d hd => by
   obtain ⟨u,hu,hr⟩ := g2 i j d hd
   exact ⟨u,by simpa using hu,hr⟩
 have hsize : n * zero.length <= c'.size := by rw [e2.1]; simp [hn]
 have ev : Value.slice (some ⟨w.heap.size,0,none⟩) n n = .slice (some ⟨w.heap.size,0,none⟩) (fzLL hp (parts.map (bRow fr zero))).vals.length n := by rw [hlen]
 rw [ev]
 cases imm
 . exact zuh f1.1 (w' := w.alloc (.cells c' e)) (cap := n) rfl rfl rfl (by simp) (zc7 _) (heap_alloc_new w _) hzz hcc (Nat.le_of_eq hlen) hsize
 . exact ygg f1.1 (w' := w.alloc (.cells c' e)) (cap := n) (t := e) rfl rfl rfl (by simp) (zc7 _) (heap_alloc_new w _) hzz hcc (Nat.le_of_eq hlen)
theorem x_make [Inhabited Env] {t e : TypeId} {x y : Operand} {zero : List DV} {k k' : IntKind} {m n : Int} (hs : SimH K F σ hp w) (ho : o.op = .makeSlice t x y) (ht : P.underlying t = some (.slice e)) (hze : zxb P e zero = true)
   (hx : a.eval x = .int k m) (hy : a.eval y = .int k' n) (h0 : 0 <= m) (h1 : m <= n) (h2 : n <= zlr zero) :
   ∃ v w',(execOp a.eval o).run P w = .ok (.value v) w' /\ zeb K F σ hp w (.own hp.length m.toNat 0 m.toNat) (hp ++ [⟨.imm,zero.length,List.replicate m.toNat zero⟩]) v w' := by
 obtain ⟨i,z,hi,hz,hmz,hsz,hpos,hby,hzs,hcp⟩ := zwh hze
 have hb : (i.bytes : Int) * n <= 281474976710656 := by
   calc (i.bytes : Int) * n <= (i.bytes : Int) * (zlr zero : Int) := Int.mul_le_mul_of_nonneg_left h2 (by omega)
     _ = ((zlr zero * i.bytes : Nat) : Int) := by rw [Int.natCast_mul,Int.mul_comm]
     _ <= 281474976710656 := by omega
 have hlc : zlr zero <= 17592186044416 := by unfold zlr; split <;> omega
 have hmk := run_make (P := P) w t e i z ht hi hz k k' m n h0 h1 hb (by omega)
 have hrows := zv4 (F := F) (w := w) hmz hzs n.toNat
 refine ⟨_,_,by simp only [execOp,ho,hx,hy,Sem.run_bind,hmk,Result.andThen_ok]; rfl,?_⟩
 have hr2 : ∀ i j d,z1 (List.replicate m.toNat zero) i j = some d -> ∃ u,(madeCells z.cells (n.toNat * i * 0 + n.toNat * zero.length))[i * zero.length + j]? = some u /\ IOne F w d u := by
   intro i j d hd
   have hd' : z1 (List.replicate n.toNat zero) i j = some d := by
     unfold z1 at hd |-
     rw [List.getElem?_replicate] at hd |-
     split at hd
     . rw [if_pos (by omega)]; exact hd
     . simp at hd
   obtain ⟨u,hu,hr⟩ := hrows.2.2 _ _ _ hd'
   exact ⟨u,by simpa [madeCells] using hu,hr⟩
 have := zuh hs (es := List.replicate m.toNat zero) (z := zero.length) (cap := n.toNat) (w' := w.alloc (.cells (madeCells z.cells (n.toNat * i.size)) e)) rfl rfl rfl (by simp) (zc7 _) (heap_alloc_new w _)
   (fun i e he => by
     rw [List.getElem?_replicate] at he
     split at he
     . injection he with he; rw [<- he]
     . cases he) (fun i' j d hd => by
     obtain ⟨u,hu,hr⟩ := hr2 i' j d hd
     exact ⟨u,by rw [hsz]; simpa using hu,hr⟩) (by simp; omega) (by simp [madeCells,hsz])
 simpa using this
theorem z0a [Inhabited Env] {x : Operand} {z : Nat} (hs : SimH K F σ hp w) (ho : o.op = .move x \/ o.op = .assign x) (hx : a.eval x = .slice none 0 0) :
   ∃ v w',(execOp a.eval o).run P w = .ok (.value v) w' /\ zeb K F σ hp w (.own hp.length 0 0 0) (hp ++ [⟨.imm,z,[]⟩]) v w' := by
 refine ⟨_,_,by rcases ho with ho | ho <;> simp only [execOp,ho,hx] <;> rfl,?_⟩
 have c : Chg K F σ hp w hp.length ⟨.imm,z,[]⟩ F (fun x => if x = hp.length then none else σ x) (hp ++ [⟨.imm,z,[]⟩]) w :=
   { os := rfl,tape := rfl,output := rfl,size := Nat.le_refl _,hF := fun _ h => h,newF := fun _ h => .inl h,ltF := hs.fb,heap := fun b h _ => rfl,hps := .inr ⟨rfl,rfl⟩
     sig := fun h' hne => by simp [hne],newg := fun g hg => by simp at hg,grow := fun oh hoh => by simp at hoh }
 refine ⟨F,_,c.sim hs (.inl ⟨rfl,by simp⟩),c.moves hs,c.hm hs,.own _ _ _ _ _ rfl (by simp) fun ob hob => ?_⟩
 have : ob = ⟨.imm,z,[]⟩ := by simpa using hob.symm
 subst this
 exact ⟨by simp,fun _ _ => ⟨none,0,rfl,Nat.le_refl _,.inl rfl⟩⟩
end
end Go.Nk
set_option linter.all false
namespace Go.Nk
open Go.RowKit
section
variable {P : Program} {K F F' : Nat -> Prop} {σ σ' : Nat -> Option Nat} {hp hp' : List DObj} {w w' : World} {fr : List (Nat × DV)} {a : Act} {o : Oper}
theorem znj {t : TypeId} {z : Nat} (h : (zyw P t z).isSome = true) : ∃ e i zv,P.underlying t = some (.slice e) /\ P.info? e = some i /\ i.zero = some zv /\ i.size = z /\ 0 < z /\ i.bytes <= 32768 /\ zv.cells.size = z := by
 unfold zyw at h
 split at h
 . rename_i e he
   split at h
   . rename_i i hi
     split at h
     . rename_i zv hz
       split at h
       . rename_i hh
         exact ⟨e,i,zv,he,hi,hz,hh⟩
       . simp at h
     . simp at h
   . simp at h
 . simp at h
theorem zoa {a : Addr} {n : Nat} (h : ∀ k,k < n -> ∃ u,w.cell? (a.add k) = some u) :
   ∀ (j : Nat) (v : Value),((List.range n).map fun k => (w.cell? (a.add k)).getD undef)[j]? = some v -> w.cell? (a.add j) = some v := by
 intro j v hj
 rw [List.getElem?_map] at hj
 rcases Nat.lt_or_ge j n with hl | hl
 . rw [List.getElem?_range hl] at hj
   obtain ⟨u,hu⟩ := h j hl
   simp [hu] at hj
   rw [hu,hj]
 . rw [List.getElem?_eq_none (by simpa using hl)] at hj
   simp at hj
theorem src_of [Inhabited Env] (hs : SimH K F σ hp w) {d : DV} {v : Value} (hv : VRep F σ hp w d v) (h : (zy hp d).pre) {z : Nat} (hpos : 0 < z) (hz : ∀ e ∈ (zy hp d).es,e.length = z) {u : TypeId}
   (hkd : (∃ e',P.underlying u = some (.slice e')) \/ P.underlying u = some .string) :
   ∃ news,Src P z u v (zy hp d).es.length news w /\ (∀ (i : Nat) (e : List DV),(zy hp d).es[i]? = some e -> e.length = z) /\
     ∀ i j e,z1 (zy hp d).es i j = some e -> ∃ x,news[i * z + j]? = some x /\ IOne F w e x := by
 by_cases hstr : ∃ s,d = .str s
 . obtain ⟨s,rfl⟩ := hstr
   have hv' := hv.str_inv
   subst hv'
   simp only [zy] at hz |-
   have hz1 : z = 1 \/ s = [] := by
     cases s with
     | nil => exact .inr rfl
     | cons b s => exact .inl (by have := hz [.int .u8 b.toNat] (by simp); simpa using this.symm)
   have hsrc : Src P 1 u (.string ⟨s.toArray⟩) (⟨s.toArray⟩ : ByteArray).size (byteCells ⟨s.toArray⟩) w :=
     ⟨hkd,fun _ => rfl,firstCells_string _ w,firstCells_string _ w.drew,by rw [byteCells_length,Nat.mul_one],fun u hu => by
       obtain ⟨_,_,rfl⟩ := List.mem_map.1 hu
       rfl⟩
   rcases hz1 with rfl | rfl
   . refine ⟨_,by simpa [ByteArray.size] using hsrc,fun i e he => ?_,fun i j e he => ?_⟩
     . rw [List.getElem?_map] at he; cases hb : s[i]? <;> simp [hb] at he; subst he; rfl
     . unfold z1 at he
       rw [List.getElem?_map] at he
       cases hb : s[i]? with
       | none => simp [hb] at he
       | some x =>
         simp [hb] at he
         cases j with
         | zero => simp at he; subst he; exact ⟨_,by simp [byteCells,hb],.int _ _,rfl⟩
         | succ j => simp at he
   . refine ⟨[],⟨hsrc.kind,fun _ => rfl,?_,?_,by simp,fun _ h => by cases h⟩,fun i e he => by simp at he,fun i j e he => by simp [z1] at he⟩
     . simp [Builtin.firstCells]
     . simp [Builtin.firstCells]
 . have hstr' : ∀ s,d ≠ .str s := fun s hs => hstr ⟨s,hs⟩
   obtain ⟨A,c,z',rfl,hlc,hzz,hA,hAn⟩ := ziu hs hv h hstr'
   generalize (zy hp d).es = es at *
   by_cases hne : es = []
   . subst hne
     refine ⟨[],⟨hkd,fun _ => rfl,?_,?_,by simp,fun _ h => by cases h⟩,fun i e he => by simp at he,fun i j e he => by simp [z1] at he⟩
     . cases A <;> simp [Builtin.firstCells,loadCells,loadCellsFrom]
     . cases A <;> simp [Builtin.firstCells,loadCells,loadCellsFrom]
   . have hz' : z' = z := by
       obtain ⟨e0,he0⟩ := List.exists_mem_of_ne_nil es hne
       obtain ⟨k0,hk0,rfl⟩ := List.getElem_of_mem he0
       rw [<- hzz k0 _ (List.getElem?_eq_getElem hk0)]; exact hz _ he0
     subst hz'
     obtain ⟨b,rfl,hb1,_,hc⟩ := hA hne
     have hcell : ∀ k,k < es.length * z' -> ∃ e u,w.cell? (b.add k) = some u /\ IOne F w e u := by
       intro k hk
       have hi : k / z' < es.length := (Nat.div_lt_iff_lt_mul hpos).2 hk
       have hrow := hzz (k / z') es[k / z'] (by simp [hi])
       have hj : k % z' < es[k / z'].length := by rw [hrow]; exact Nat.mod_lt _ hpos
       obtain ⟨u,hu,h1,hr⟩ := hc (k / z') (k % z') (es[k / z'][k % z']) (by simp [z1,hi,hj])
       refine ⟨_,u,?_,hr,h1⟩
       rw [zfj hb1,<- hu]
       congr 2
       rw [Nat.mul_comm,Nat.div_add_mod]
     refine ⟨(List.range (es.length * z')).map fun k => (w.cell? (b.add k)).getD undef,
       ⟨hkd,fun _ => rfl,run_firstCells_some w _ _ _ _ c _ (by simp) (zoa fun k hk => let ⟨_,u,hu,_⟩ := hcell k hk; ⟨u,hu⟩),run_firstCells_some w.drew _ _ _ _ c _ (by simp) (zoa fun k hk => let ⟨_,u,hu,_⟩ := hcell k hk; ⟨u,hu⟩),by simp,fun u hu => ?_⟩,hzz,fun i j e he => ?_⟩
     . obtain ⟨k,hk,rfl⟩ := List.mem_map.1 hu
       obtain ⟨e,u,hu,hr⟩ := hcell k (by simpa using hk)
       rw [hu]
       exact hr.1.oneCell
     . obtain ⟨u,hu,h1,hr⟩ := hc i j e he
       have hlt : i * z' + j < es.length * z' := by
         unfold z1 at he
         cases hes : es[i]? with
         | none => simp [hes] at he
         | some row =>
           simp [hes] at he
           have hi := (List.getElem?_eq_some_iff.1 hes).1
           have hj := (List.getElem?_eq_some_iff.1 he).1
           rw [hzz i row hes] at hj
           have : (i + 1) * z' <= es.length * z' := Nat.mul_le_mul_right _ hi
           rw [Nat.add_mul] at this; omega
       refine ⟨u,?_,hr,h1⟩
       rw [List.getElem?_map,List.getElem?_range hlt]
       simp [zfj hb1,hu]
theorem zo8 {xs ys : List (List DV)} {i j : Nat} {d : DV} (h : z1 (xs ++ ys) i j = some d) : (i < xs.length /\ z1 xs i j = some d) \/ (xs.length <= i /\ z1 ys (i - xs.length) j = some d) := by
 unfold z1 at h |-
 rcases Nat.lt_or_ge i xs.length with hl | hl
 . rw [List.getElem?_append_left hl] at h; exact .inl ⟨hl,h⟩
 . rw [List.getElem?_append_right hl] at h; exact .inr ⟨hl,h⟩
theorem zzs {z : Nat} {es : List (List DV)} (hz : ∀ (i : Nat) (e : List DV),es[i]? = some e -> e.length = z) {i j : Nat} {d : DV} (h : z1 es i j = some d) : i < es.length /\ j < z /\ i * z + j < es.length * z := by
 unfold z1 at h
 cases he : es[i]? with
 | none => simp [he] at h
 | some e =>
   simp [he] at h
   have hi := (List.getElem?_eq_some_iff.1 he).1
   have hj := (List.getElem?_eq_some_iff.1 h).1
   rw [hz i e he] at hj
   have : (i + 1) * z <= es.length * z := Nat.mul_le_mul_right _ hi
   rw [Nat.add_mul] at this
   exact ⟨hi,hj,by omega⟩
theorem zwe {z : Nat} {xs ys : List (List DV)} (hx : ∀ (i : Nat) (e : List DV),xs[i]? = some e -> e.length = z) (hy : ∀ (i : Nat) (e : List DV),ys[i]? = some e -> e.length = z) :
   ∀ (i : Nat) (e : List DV),(xs ++ ys)[i]? = some e -> e.length = z := by
 intro i e he
 rcases Nat.lt_or_ge i xs.length with hl | hl
 . rw [List.getElem?_append_left hl] at he; exact hx _ _ he
 . rw [List.getElem?_append_right hl] at he; exact hy _ _ he
theorem zwj {n b c : Nat} (h : c < n) (hn : n <= zat) (hb : b <= 32768) : Builtin.nextslicecap n c * b <= 281474976710656 := by
 refine growslice_fits h ?_
 have h1 : n <= 4294967296 := hn
 calc n * b <= 4294967296 * 32768 := Nat.mul_le_mul h1 hb
   _ = 140737488355328 := by decide
theorem zfl {xs : Array Operand} {t u : TypeId} {s x : Operand} {v : Value} {w' : World} (ho : o.op = .call { callee := .builtin .append,args := xs,argTypes := #[t,u] }) (hxs : xs = #[s,x])
   (h : (Builtin.append_ #[t,u] o.type #[a.eval s,a.eval x]).run P w = .ok v w') : (execOp a.eval o).run P w = .ok (.value v) w' := by
 subst hxs
 simp [execOp,ho,resolve,invoke,builtin,h]
theorem z7b {g n : Nat} {cur : Array Value} {t : TypeId} {vs : List Value} (hg : w.heap[g]? = some (.cells cur t (0,0))) (hfit : n + vs.length <= cur.size) (h1 : ∀ v ∈ vs,v.oneCell' = true) :
   w.setCells g n vs = w.setRow g (cur.toList.take n ++ vs ++ cur.toList.drop (n + vs.length)).toArray := by
 have e1 := run_storeCells_cells (P := default) g n vs 0 w (fun j hj => by rw [ziy hg]; simp; omega) (fun j hj => by simp [World.frozen?,hg]) h1
 have e2 := run_storeCells_at default g n t vs 0 cur w hg (by omega) h1
 simp only [Nat.add_zero] at e1 e2
 rw [e1] at e2
 injection e2
theorem zph {c : Array Value} (k : Nat) : c.toList[k]? = c[k]? := by simp
theorem zw8 {cur : Array Value} {n : Nat} {vs : List Value} (hfit : n + vs.length <= cur.size) (k : Nat) :
   ((cur.toList.take n ++ vs ++ cur.toList.drop (n + vs.length)).toArray)[k]? = if n <= k /\ k < n + vs.length then vs[k - n]? else cur[k]? := by
 rw [List.getElem?_toArray]
 have hl : (cur.toList.take n).length = n := by simp; omega
 by_cases h1 : k < n
 . rw [if_neg (by omega),List.append_assoc,List.getElem?_append_left (by omega),List.getElem?_take,if_pos h1,zph]
 . by_cases h2 : k < n + vs.length
   . rw [if_pos ⟨by omega,h2⟩,List.append_assoc,List.getElem?_append_right (by omega),hl,List.getElem?_append_left (by omega)]
   . rw [if_neg (by omega),List.getElem?_append_right (by simp; omega),List.length_append,hl,List.getElem?_drop,zph]
     congr 1; omega
structure App (P : Program) (i : TypeInfo) (zv : Value) (t u ty e : TypeId) (x : Value) (n : Nat) (news : List Value) (w : World) : Prop where
 newsLen : news.length = n * i.size
 one : ∀ v ∈ news,v.oneCell' = true
 zero : n = 0 -> ∀ A c,(Builtin.append_ #[t,u] ty #[.slice A 0 c,x]).run P w = .ok (.slice A 0 c) w
 room : ∀ b off sLen sCap : Nat,sLen + n <= sCap -> (∀ j,j < news.length -> (w.cell? ⟨b,off + sLen * i.size + j,none⟩).isSome = true) -> (∀ j,j < news.length -> w.frozen? ⟨b,off + sLen * i.size + j,none⟩ = false) ->
   (Builtin.append_ #[t,u] ty #[.slice (some ⟨b,off,none⟩) sLen sCap,x]).run P w = .ok (.slice (some ⟨b,off,none⟩) (sLen + n) sCap) (w.setCells b (off + sLen * i.size) news)
 grow : ∀ (base : Option Addr) (sLen sCap : Nat) (olds : List Value),(Builtin.firstCells i.size sLen (.slice base sLen sCap)).run P w.drew = .ok olds.toArray w.drew -> sCap < sLen + n -> ((sLen + n : Nat) : Int) <= 9223372036854775807 -> Builtin.nextslicecap (sLen + n) sCap * i.bytes <= 281474976710656 ->
   (Builtin.append_ #[t,u] ty #[.slice base sLen sCap,x]).run P w =
     .ok (.slice (some ⟨w.heap.size,0,none⟩) (sLen + n) (grownCap w (sLen + n) sCap e))
       (w.drew.alloc (.cells ((olds ++ news).toArray ++ Builtin.zeroCells zv.cells (grownCap w (sLen + n) sCap e - (sLen + n))) e))
theorem App.ofSrc {i : TypeInfo} {zv : Value} {t u ty e : TypeId} {x : Value} {n : Nat} {news : List Value} (ht : P.underlying t = some (.slice e)) (hi : P.info? e = some i) (hzv : i.zero = some zv) (hs : Src P i.size u x n news w) : App P i zv t u ty e x n news w := by
 refine ⟨hs.newsLen,hs.one,fun h0 A c => ?_,fun b off sLen sCap h1 h2 h3 => run_append_room_src (P := P) w t u ty e i ht hi b off sLen sCap x n news hs h1 h2 h3,fun base sLen sCap olds h1 h2 h3 h4 => run_append_grow_src (P := P) w t u ty e i zv ht hi hzv base sLen sCap olds h1 x n news hs h2 h3 h4⟩
 subst h0
 have hnews : news = [] := List.eq_nil_of_length_eq_zero (by simpa using hs.newsLen)
 have h1 := hs.cells
 have h2 := hs.len
 rcases hs.kind with ⟨e',hk'⟩ | hk' <;> cases A <;> simp [Builtin.append_,run_underlying ht,run_underlying hk',sizeOf,typeInfo,hi,h2,h1,hnews,storeCells]
theorem App.ofZeros {i : TypeInfo} {zv : Value} {t u ty e : TypeId} {k : IntKind} {m : Int} (ht : P.underlying t = some (.slice e)) (hu : P.underlying u = some (.int k)) (hi : P.info? e = some i) (hzv : i.zero = some zv) (hpos : 0 < i.size) (hby : i.bytes <= 32768) (hzs : zv.cells.size = i.size) (h0 : 0 <= m) (hm : m.toNat <= zat)
   (h1 : ∀ v ∈ (Builtin.zeroCells zv.cells m.toNat).toList,v.oneCell' = true) : App P i zv t u ty e (.int .i64 m) m.toNat (Builtin.zeroCells zv.cells m.toNat).toList w := by
 have hmm : m <= 4294967296 := by simp only [zat] at hm; omega
 have hw : IntKind.i64.wrap m = m := by rw [IntKind.wrap_i64]; omega
 have hb : ¬ 281474976710656 < m * (i.bytes : Int) := by
   have : m * (i.bytes : Int) <= 4294967296 * 32768 := Int.mul_le_mul hmm (by omega) (by omega) (by omega)
   omega
 have hn : ¬ m < 0 := by omega
 refine ⟨by simp [size_zeroCells,hzs],h1,fun hz A c => ?_,fun b off sLen sCap h2 h3 h4 => ?_,fun base sLen sCap olds h2 h3 h4 h5 => ?_⟩
 . have hm0 : m = 0 := by omega
   subst hm0
   cases A <;> simp [Builtin.append_,run_underlying ht,run_underlying hu,sizeOf,typeInfo,hi,asInt,asIntOf,hw,storeCells]
 . have hst := run_storeCells_cells (P := P) b (off + sLen * i.size) (Builtin.zeroCells zv.cells m.toNat).toList 0 w (by simpa using h3) (by simpa using h4) h1
   simp only [Nat.add_zero] at hst
   by_cases hz : m.toNat * i.size = 0
   . have hm0 : m.toNat = 0 := by rcases Nat.mul_eq_zero.1 hz with h | h <;> omega
     have hz2 : (Builtin.zeroCells zv.cells m.toNat).toList = [] := by rw [hm0]; simp [Builtin.zeroCells]
     rw [hz2] at hst |-
     simp [Builtin.append_,run_underlying ht,run_underlying hu,sizeOf,typeInfo,hi,asInt,asIntOf,hw,hn,hb,h2,hz,Addr.add_lit,hst]
   . simp [Builtin.append_,run_underlying ht,run_underlying hu,sizeOf,typeInfo,zeroValue,hzv,hi,asInt,asIntOf,hw,hn,hb,h2,hz,Addr.add_lit,hst]
 . have hn2 : ¬ (sLen + m.toNat <= sCap) := by omega
   have h63' : ¬ (9223372036854775807 < ((sLen : Int) + max m 0)) := by omega
   have h48' : ¬ (281474976710656 < Builtin.nextslicecap (sLen + m.toNat) sCap * i.bytes) := by omega
   by_cases hz : m.toNat * i.size = 0
   . have hm0 : m.toNat = 0 := by rcases Nat.mul_eq_zero.1 hz with h | h <;> omega
     have hz2 : (Builtin.zeroCells zv.cells m.toNat).toList = [] := by rw [hm0]; simp [Builtin.zeroCells]
     rw [hz2]
     simp [Builtin.append_,run_underlying ht,run_underlying hu,sizeOf,typeInfo,zeroValue,hi,hzv,asInt,asIntOf,hw,hn,hb,hn2,hz,h63',h48',Question.forced,h2,newRow,grownCap]
   . simp [Builtin.append_,run_underlying ht,run_underlying hu,sizeOf,typeInfo,zeroValue,hi,hzv,asInt,asIntOf,hw,hn,hb,hn2,hz,h63',h48',Question.forced,h2,newRow,grownCap]
     congr 2
     apply Array.ext'
     simp [List.append_assoc]
theorem zrz [Inhabited Env] {xs : Array Operand} {t u e : TypeId} {s x : Operand} {i : TypeInfo} {zv : Value} {es : List (List DV)} {news : List Value} (hs : SimH K F σ hp w) (ho : o.op = .call { callee := .builtin .append,args := xs,argTypes := #[t,u] }) (hxs : xs = #[s,x])
   (hby : i.bytes <= 32768) (hzs : zv.cells.size = i.size) (hsv : a.eval s = .slice none 0 0) (hsrc : App P i zv t u o.type e (a.eval x) es.length news w)
   (hrows : ∀ (k : Nat) (r : List DV),es[k]? = some r -> r.length = i.size) (hcells : ∀ k j r,z1 es k j = some r -> ∃ x,news[k * i.size + j]? = some x /\ IOne F w r x) (hlen : es.length <= zat) :
   ∃ v w',(execOp a.eval o).run P w = .ok (.value v) w' /\ zeb K F σ hp w (.own hp.length es.length 0 es.length) (hp ++ [⟨.imm,i.size,es⟩]) v w' := by
 by_cases h0 : es = []
 . subst h0
   have hrun := hsrc.zero rfl none 0
   refine ⟨_,_,zfl ho hxs (by rw [hsv]; exact hrun),?_⟩
   have c : Chg K F σ hp w hp.length ⟨.imm,i.size,[]⟩ F (fun x => if x = hp.length then none else σ x) (hp ++ [⟨.imm,i.size,[]⟩]) w :=
     { os := rfl,tape := rfl,output := rfl,size := Nat.le_refl _,hF := fun _ h => h,newF := fun _ h => .inl h,ltF := hs.fb,heap := fun b h _ => rfl,hps := .inr ⟨rfl,rfl⟩
       sig := fun h' hne => by simp [hne],newg := fun g hg => by simp at hg,grow := fun oh hoh => by simp at hoh }
   refine ⟨F,_,c.sim hs (.inl ⟨rfl,by simp⟩),c.moves hs,c.hm hs,.own _ _ _ _ _ rfl (by simp) fun ob hob => ?_⟩
   have : ob = ⟨.imm,i.size,[]⟩ := by simpa using hob.symm
   subst this
   exact ⟨by simp,fun _ _ => ⟨none,0,rfl,Nat.le_refl _,.inl rfl⟩⟩
 . have hpos' : 0 < es.length := List.length_pos_iff.2 h0
   have hrun := hsrc.grow none 0 0 [] (by simp [Builtin.firstCells]) (by omega) (by simp only [zat] at hlen; omega) (zwj (by omega) (by omega) hby)
   refine ⟨_,_,zfl ho hxs (by rw [hsv]; exact hrun),?_⟩
   have hge := grownCap_ge w (0 + es.length) 0 e
   have := zuh hs (es := es) (z := i.size) (cap := grownCap w (0 + es.length) 0 e) (w' := w.drew.alloc (.cells (([] ++ news).toArray ++ Builtin.zeroCells zv.cells (grownCap w (0 + es.length) 0 e - (0 + es.length))) e)) (t := e)
     rfl rfl rfl (by simp) (fun b hb => Below.heap_alloc w.drew _ b hb) (heap_alloc_new w.drew _) hrows (fun i' j d hd => by
       obtain ⟨x,hx',hr⟩ := hcells i' j d hd
       refine ⟨x,?_,hr⟩
       have hlt := (List.getElem?_eq_some_iff.1 hx').1
       rw [Array.getElem?_append_left (by simpa using hlt)]
       simpa using hx') (by omega) (by
       simp only [Array.size_append,size_zeroCells,List.size_toArray,List.nil_append,hsrc.newsLen,hzs,<- Nat.add_mul]
       exact Nat.mul_le_mul_right _ (by omega))
   simpa using this
theorem zay {h : Nat} {ob : DObj} (hob : hp[h]? = some ob) : h < hp.length := by
 rcases Nat.lt_or_ge h hp.length with h' | h'
 . exact h'
 . rw [List.getElem?_eq_none h'] at hob; cases hob
theorem zr6 [Inhabited Env] {xs : Array Operand} {t u e : TypeId} {s x : Operand} {i : TypeInfo} {zv : Value} {h : Nat} {ob : DObj} {es : List (List DV)} {news : List Value} (hs : SimH K F σ hp w) (ho : o.op = .call { callee := .builtin .append,args := xs,argTypes := #[t,u] }) (hxs : xs = #[s,x])
   (hby : i.bytes <= 32768) (hzs : zv.cells.size = i.size) (hsrc : App P i zv t u o.type e (a.eval x) es.length news w)
   (hrows : ∀ (k : Nat) (r : List DV),es[k]? = some r -> r.length = i.size) (hcells : ∀ k j r,z1 es k j = some r -> ∃ x,news[k * i.size + j]? = some x /\ IOne F w r x)
   (hob : hp[h]? = some ob) (hk : ob.k = .imm) (hbz : ob.z = i.size) (hsv : VRep F σ hp w (.own h ob.es.length 0 ob.es.length) (a.eval s)) (hlen : ob.es.length + es.length <= zat) :
   ∃ v w',(execOp a.eval o).run P w = .ok (.value v) w' /\ zeb K F σ hp w (.own h (ob.es.length + es.length) 0 (ob.es.length + es.length)) (hp.set h ⟨.imm,i.size,ob.es ++ es⟩) v w' := by
 have hl := zay hob
 have hkd : ob.k ≠ .dead := by rw [hk]; simp
 have hold := hs.obj h ob hob
 unfold ORep at hold
 rw [hk] at hold; dsimp only at hold
 obtain ⟨A,cap,hv,hle,hA⟩ := (hsv.own_inv.2 ob hob).2 hkd rfl
 have one : ∀ v ∈ news,v.oneCell' = true := hsrc.one
 have newLen := hsrc.newsLen
 by_cases hroom : ob.es.length + es.length <= cap
 . rcases hA with hc0 | ⟨g,hg,rfl,hcap⟩
   . -- nothing is there,nothing comes
     have e1 : ob.es = [] := List.eq_nil_of_length_eq_zero (by omega)
     have e2 : es = [] := List.eq_nil_of_length_eq_zero (by omega)
     subst e2
     have hnews : news = [] := List.eq_nil_of_length_eq_zero (by simpa using newLen)
     have hrun : (Builtin.append_ #[t,u] o.type #[a.eval s,a.eval x]).run P w = .ok (.slice A 0 cap) w := by
       rw [hv,e1,hc0]
       exact hsrc.zero rfl A 0
     refine ⟨_,_,zfl ho hxs hrun,?_⟩
     have c : Chg K F σ hp w h ⟨.imm,i.size,ob.es ++ []⟩ F σ (hp.set h ⟨.imm,i.size,ob.es ++ []⟩) w :=
       { os := rfl,tape := rfl,output := rfl,size := Nat.le_refl _,hF := fun _ h => h,newF := fun _ h => .inl h,ltF := hs.fb,heap := fun b h _ => rfl,hps := .inl ⟨hl,rfl⟩
         sig := fun h' hne => rfl,newg := fun g hg => .inl ⟨hg,ob,hob,.inl hk⟩
         grow := fun oh hoh => by rw [hob] at hoh; injection hoh with e; subst e; exact ⟨.inl (.inl hk),by simp,fun _ _ => ⟨hbz.symm,rfl,fun _ _ => rfl⟩⟩ }
     refine ⟨F,σ,c.sim hs ?_,c.moves hs,c.hm hs,.own _ _ _ _ _ rfl (by simpa using hl) fun o' ho' => ?_⟩
     . unfold ORep; dsimp only
       rw [List.append_nil,<- hbz]
       rcases hold with h0 | ⟨g,hg,h1,h2,hb⟩
       . exact .inl h0
       . exact .inr ⟨g,hg,h1,h2,hb⟩
     . rw [c.get] at ho'; injection ho' with ho'; subst ho'
       exact ⟨by simp [e1],fun _ _ => ⟨A,cap,by simp [e1],by simp [e1],.inl hc0⟩⟩
   . -- there is room
     rcases hold with ⟨_,h0⟩ | ⟨g',hg',nF,nK,c,ty,hh,hcz,hzz,hcc⟩
     . rw [hg] at h0; cases h0
     . rw [hg] at hg'; injection hg' with hg'; subst hg'
       have hbs : bsz w g = c.size := by unfold bsz; rw [hh]
       have hfit : ob.es.length * i.size + news.length <= c.size := by
         rw [newLen,<- Nat.add_mul]
         refine Nat.le_trans (Nat.mul_le_mul_right _ hroom) ?_
         rw [hbs,hbz] at hcap; simpa using hcap
       have hrun := hsrc.room g (0 * ob.z) ob.es.length cap hroom
         (fun j hj => by rw [ziy hh]; simp; omega) (fun j hj => by simp [World.frozen?,hh])
       refine ⟨_,_,zfl ho hxs (by rw [hv]; exact hrun),?_⟩
       simp only [Nat.zero_mul,Nat.zero_add]
       rw [z7b hh (by omega) one]
       have hget := setRow_heap w g c (c.toList.take (ob.es.length * i.size) ++ news ++ c.toList.drop (ob.es.length * i.size + news.length)).toArray ty (0,0) hh
       generalize hcd : (c.toList.take (ob.es.length * i.size) ++ news ++ c.toList.drop (ob.es.length * i.size + news.length)).toArray = c' at *
       have hat : ∀ k : Nat,c'[k]? = if ob.es.length * i.size <= k /\ k < ob.es.length * i.size + news.length then news[k - ob.es.length * i.size]? else c[k]? := fun k => by rw [<- hcd]; exact zw8 hfit k
       have hsz : c'.size = c.size := by rw [<- hcd]; simp; omega
       have cg : Chg K F σ hp w h ⟨.imm,i.size,ob.es ++ es⟩ F σ (hp.set h ⟨.imm,i.size,ob.es ++ es⟩) (w.setRow g c') :=
         { os := rfl,tape := rfl,output := rfl,size := by simp,hF := fun _ h => h,newF := fun _ h => .inl h,ltF := fun b hb => by simpa using hs.fb b hb
           heap := fun b hb hne => setRow_other _ _ _ _ (fun e => hne ob hob (.inl hk) (by rw [hg,e])),hps := .inl ⟨hl,rfl⟩
           sig := fun h' hne => rfl,newg := fun g hg => .inl ⟨hg,ob,hob,.inl hk⟩
           grow := fun oh hoh => by
             rw [hob] at hoh; injection hoh with e; subst e
             refine ⟨.inl (.inl hk),by simp,fun _ _ => ⟨hbz.symm,rfl,fun g1 hg1 => ?_⟩⟩
             rw [hg] at hg1; injection hg1 with hg1; subst hg1
             unfold bsz; rw [hget,hh]; exact hsz }
       have hm := cg.hm hs
       refine ⟨F,σ,cg.sim hs ?_,cg.moves hs,hm,.own _ _ _ _ _ rfl (by simpa using hl) fun o' ho' => ?_⟩
       . unfold ORep; dsimp only
         refine .inr ⟨g,hg,nF,nK,c',ty,hget,?_,zwe (by rw [<- hbz]; exact hzz) hrows,fun i' j d hd => ?_⟩
         . rw [hsz,List.length_append,Nat.add_mul,<- newLen]; exact hfit
         . rcases zo8 hd with ⟨hlt,hd⟩ | ⟨hge,hd⟩
           . obtain ⟨u,hu,hr⟩ := hcc _ _ _ hd
             obtain ⟨_,hj,hlt2⟩ := zzs hzz hd
             rw [hbz] at hu hlt2
             exact ⟨u,by rw [hat,if_neg (by omega)]; exact hu,hr.1.mono hm.mono hm.keepF,hr.2⟩
           . obtain ⟨u,hu,hr⟩ := hcells _ _ _ hd
             obtain ⟨_,hj,hlt2⟩ := zzs hrows hd
             have e : i' * i.size + j = ob.es.length * i.size + ((i' - ob.es.length) * i.size + j) := by
               rw [<- Nat.add_assoc,<- Nat.add_mul]; congr 2; omega
             exact ⟨u,by rw [hat,if_pos (by omega),e,Nat.add_sub_cancel_left]; exact hu,hr.1.mono hm.mono hm.keepF,hr.2⟩
       . rw [cg.get] at ho'; injection ho' with ho'; subst ho'
         refine ⟨by simp,fun _ _ => ⟨_,cap,rfl,hroom,.inr ⟨g,hg,by simp,?_⟩⟩⟩
         have : bsz (w.setRow g c') g = c.size := by unfold bsz; rw [hget]; exact hsz
         rw [this]
         rw [hbs,hbz] at hcap; exact hcap
 . -- a new block
   have hn : 0 < es.length := by omega
   obtain ⟨olds,holds,holdc,holdl⟩ : ∃ olds : List Value,(Builtin.firstCells i.size ob.es.length (.slice A ob.es.length cap)).run P w.drew = .ok olds.toArray w.drew /\
       (∀ i' j d,z1 ob.es i' j = some d -> ∃ u,olds[i' * i.size + j]? = some u /\ IOne F w d u) /\ olds.length = ob.es.length * i.size := by
     rcases hA with hc0 | ⟨g,hg,rfl,hcap⟩
     . have e1 : ob.es = [] := List.eq_nil_of_length_eq_zero (by omega)
       refine ⟨[],?_,fun i' j d hd => by rw [e1] at hd; simp [z1] at hd,by simp [e1]⟩
       rw [e1]
       cases A <;> simp [Builtin.firstCells,loadCells,loadCellsFrom]
     . rcases hold with ⟨_,h0⟩ | ⟨g',hg',nF,nK,c,ty,hh,hcz,hzz,hcc⟩
       . rw [hg] at h0; cases h0
       . rw [hg] at hg'; injection hg' with hg'; subst hg'
         rw [hbz] at hcz hzz hcc
         refine ⟨c.toList.take (ob.es.length * i.size),?_,fun i' j d hd => ?_,by simp; omega⟩
         . refine run_firstCells_some w.drew i.size ob.es.length _ ob.es.length cap _ (by simp; omega) fun j v hj => ?_
           rw [List.getElem?_take] at hj
           split at hj
           . rw [zph] at hj
             show w.cell? _ = _
             rw [zfj rfl,ziy hh]
             simpa using hj
           . cases hj
         . obtain ⟨u,hu,hr⟩ := hcc _ _ _ hd
           obtain ⟨_,_,hlt⟩ := zzs hzz hd
           exact ⟨u,by rw [List.getElem?_take,if_pos hlt,zph]; exact hu,hr⟩
   have hrun := hsrc.grow A ob.es.length cap olds holds (by omega) (by simp only [zat] at hlen; omega) (zwj (by omega) hlen hby)
   refine ⟨_,_,zfl ho hxs (by rw [hv]; exact hrun),?_⟩
   have hge := grownCap_ge w (ob.es.length + es.length) cap e
   generalize hcap' : grownCap w (ob.es.length + es.length) cap e = cap' at *
   have hnewb := heap_alloc_new w.drew (.cells ((olds ++ news).toArray ++ Builtin.zeroCells zv.cells (cap' - (ob.es.length + es.length))) e)
   have hsz : ((olds ++ news).toArray ++ Builtin.zeroCells zv.cells (cap' - (ob.es.length + es.length))).size = cap' * i.size := by
     simp only [Array.size_append,size_zeroCells,List.size_toArray,List.length_append,newLen,holdl,hzs,<- Nat.add_mul]
     congr 1; omega
   have hat : ∀ k u,(olds ++ news)[k]? = some u -> ((olds ++ news).toArray ++ Builtin.zeroCells zv.cells (cap' - (ob.es.length + es.length)))[k]? = some u := fun k u hk => by
     have hlt := (List.getElem?_eq_some_iff.1 hk).1
     rw [Array.getElem?_append_left (by simpa using hlt)]
     simpa using hk
   generalize (olds ++ news).toArray ++ Builtin.zeroCells zv.cells (cap' - (ob.es.length + es.length)) = c' at *
   have nF : ¬ F w.heap.size := fun h => by have := hs.fb _ h; omega
   have nK : ¬ K w.heap.size := fun h => by have := hs.kb _ h; omega
   have cg : Chg K F σ hp w h ⟨.imm,i.size,ob.es ++ es⟩ F (fun x => if x = h then some w.heap.size else σ x) (hp.set h ⟨.imm,i.size,ob.es ++ es⟩) (w.drew.alloc (.cells c' e)) :=
     { os := rfl,tape := rfl,output := rfl,size := by simp,hF := fun _ h => h,newF := fun _ h => .inl h,ltF := fun b hb => by have := hs.fb b hb; simp; omega
       heap := fun b hb hne => Below.heap_alloc w.drew _ b hb,hps := .inl ⟨hl,rfl⟩
       sig := fun h' hne => by simp [hne],newg := fun g hg => .inr (by simp at hg; omega)
       grow := fun oh hoh => by
         rw [hob] at hoh; injection hoh with e; subst e
         exact ⟨.inl (.inl hk),by simp,fun he => by simp at he; rw [he] at hn; simp at hn⟩ }
   have hm := cg.hm hs
   refine ⟨F,_,cg.sim hs ?_,cg.moves hs,hm,.own _ _ _ _ _ rfl (by simpa using hl) fun o' ho' => ?_⟩
   . unfold ORep; dsimp only
     have hzo : ∀ (i' : Nat) (r : List DV),ob.es[i']? = some r -> r.length = i.size := by
       intro i' r hr
       rcases hold with ⟨h0,_⟩ | ⟨g',hg',_,_,c,ty,hh,hcz,hzz,hcc⟩
       . rw [h0] at hr; simp at hr
       . rw [<- hbz]; exact hzz _ _ hr
     refine .inr ⟨w.heap.size,by simp,nF,nK,c',e,hnewb,?_,zwe hzo hrows,fun i' j d hd => ?_⟩
     . rw [hsz,List.length_append]; exact Nat.mul_le_mul_right _ hge
     . rcases zo8 hd with ⟨hlt,hd⟩ | ⟨hge',hd⟩
       . obtain ⟨u,hu,hr⟩ := holdc _ _ _ hd
         refine ⟨u,hat _ _ ?_,hr.1.mono hm.mono hm.keepF,hr.2⟩
         rw [List.getElem?_append_left (List.getElem?_eq_some_iff.1 hu).1]; exact hu
       . obtain ⟨u,hu,hr⟩ := hcells _ _ _ hd
         refine ⟨u,hat _ _ ?_,hr.1.mono hm.mono hm.keepF,hr.2⟩
         have e : i' * i.size + j = ob.es.length * i.size + ((i' - ob.es.length) * i.size + j) := by
           rw [<- Nat.add_assoc,<- Nat.add_mul]; congr 2; omega
         rw [e,List.getElem?_append_right (by omega),holdl,Nat.add_sub_cancel_left]; exact hu
   . rw [cg.get] at ho'; injection ho' with ho'; subst ho'
     refine ⟨by simp,fun _ _ => ⟨_,cap',rfl,hge,.inr ⟨w.heap.size,by simp,by simp,?_⟩⟩⟩
     have : bsz (w.drew.alloc (.cells c' e)) w.heap.size = c'.size := by unfold bsz; rw [show (w.drew.alloc (.cells c' e)).heap[w.heap.size]? = _ from hnewb]
     rw [this,hsz]; simp
theorem x_home [Inhabited Env] {x : Operand} {h len : Nat} {ob : DObj} (hs : SimH K F σ hp w) (ho : o.op = .move x \/ o.op = .assign x) (hob : hp[h]? = some ob) (hk : ob.k = .imm) (hl : len <= ob.es.length) (hv : VRep F σ hp w (.own h ob.es.length 0 len) (a.eval x)) :
   ∃ v w',(execOp a.eval o).run P w = .ok (.value v) w' /\ zeb K F σ hp w (.own hp.length len 0 len) (hp.set h ⟨.dead,ob.z,ob.es⟩ ++ [⟨.imm,ob.z,ob.es.take len⟩]) v w' := by
 have hlt := zay hob
 have hkd : ob.k ≠ .dead := by rw [hk]; simp
 have hnew : ∀ k : Nat,(hp.set h (⟨.dead,ob.z,ob.es⟩ : DObj) ++ [(⟨.imm,ob.z,ob.es.take len⟩ : DObj)])[k]? = if k = hp.length then some ⟨.imm,ob.z,ob.es.take len⟩ else if k = h then some ⟨.dead,ob.z,ob.es⟩ else hp[k]? := by
   intro k
   by_cases h1 : k = hp.length
   . subst h1; rw [if_pos rfl,List.getElem?_append_right (by simp)]; simp
   . rw [if_neg h1]
     by_cases h2 : k = h
     . subst h2; rw [if_pos rfl,List.getElem?_append_left (by simpa using hlt)]; simp [hlt]
     . rw [if_neg h2]
       rcases Nat.lt_or_ge k hp.length with h3 | h3
       . rw [List.getElem?_append_left (by simpa using h3),List.getElem?_set_ne (Ne.symm h2)]
       . rw [List.getElem?_eq_none h3,List.getElem?_eq_none (by simp; omega)]
 generalize hgen : (hp.set h (⟨.dead,ob.z,ob.es⟩ : DObj) ++ [(⟨.imm,ob.z,ob.es.take len⟩ : DObj)]) = hp2 at *
 have hl2 : hp2.length = hp.length + 1 := by rw [<- hgen]; simp
 obtain ⟨σ2,sg1,sg2⟩ : ∃ σ2 : Nat -> Option Nat,σ2 hp.length = σ h /\ ∀ k,k ≠ hp.length -> σ2 k = σ k := ⟨fun x => if x = hp.length then σ h else σ x,if_pos rfl,fun k hk => if_neg hk⟩
 have hm : HM F σ hp w F σ2 hp2 w := by
   refine ⟨fun _ h => h,fun _ _ => rfl,by omega,fun k o' ho' => ?_⟩
   have hkl := zay ho'
   rw [hnew,if_neg (by omega)]
   by_cases h2 : k = h
   . subst h2
     rw [hob] at ho'; injection ho' with ho'; subst ho'
     rw [if_pos rfl]
     exact ⟨_,rfl,Nat.le_refl _,fun hd => absurd rfl hd⟩
   . rw [if_neg h2]
     exact ⟨o',ho',Nat.le_refl _,fun hd _ => ⟨hd,rfl,sg2 k (by omega),fun _ _ => rfl⟩⟩
 have hold := hs.obj h ob hob
 unfold ORep at hold
 rw [hk] at hold; dsimp only at hold
 refine ⟨a.eval x,w,by rcases ho with ho | ho <;> simp only [execOp,ho] <;> rfl,F,σ2,⟨fun k o' ho' => ?_,fun k1 k2 o1 o2 g e1 m1 e2 m2 s1 s2 => ?_,hs.fb,hs.kb,hs.tab⟩,.refl _ _ _,hm,?_⟩
 . rw [hnew] at ho'
   by_cases h1 : k = hp.length
   . subst h1
     rw [if_pos rfl] at ho'; injection ho' with ho'; subst ho'
     unfold ORep; dsimp only
     rcases hold with ⟨h0,h1⟩ | ⟨g,hg,nF,nK,c,ty,hh,hcz,hzz,hcc⟩
     . exact .inl ⟨by rw [h0]; simp,sg1.trans h1⟩
     . refine .inr ⟨g,sg1.trans hg,nF,nK,c,ty,hh,?_,fun i e he => ?_,fun i j d hd => ?_⟩
       . exact Nat.le_trans (Nat.mul_le_mul_right _ (by simp; omega)) hcz
       . rw [List.getElem?_take] at he; split at he
         . exact hzz i e he
         . cases he
       . have : z1 ob.es i j = some d := by
           unfold z1 at hd |-
           rw [List.getElem?_take] at hd; split at hd
           . exact hd
           . cases hd
         exact hcc i j d this
   . rw [if_neg h1] at ho'
     by_cases h2 : k = h
     . rw [if_pos h2] at ho'; injection ho' with ho'; subst ho'; exact trivial
     . rw [if_neg h2] at ho'
       have old := hs.obj k o' ho'
       unfold ORep at old |-
       split
       . trivial
       . rename_i hkk
         rw [hkk] at old; dsimp only at old
         rw [sg2 k h1]; exact old
       . rename_i hkk
         rw [hkk] at old; dsimp only at old
         rw [sg2 k h1]; exact old
       . rename_i hkk
         rw [hkk] at old; dsimp only at old
         obtain ⟨g,hg,q1,q2,hb⟩ := old
         rw [sg2 k h1]
         exact ⟨g,hg,q1,q2,hb.mono rfl fun d v h => h.mono hm⟩
       . rename_i hkk
         rw [hkk] at old; dsimp only at old
         rw [sg2 k h1]; exact old
 . rw [hnew] at e1 e2
   have key : ∀ {k : Nat} {o' : DObj},(if k = hp.length then some (⟨.imm,ob.z,ob.es.take len⟩ : DObj) else if k = h then some ⟨.dead,ob.z,ob.es⟩ else hp[k]?) = some o' -> o'.k.mut -> (k = hp.length \/ (k ≠ h /\ k ≠ hp.length /\ hp[k]? = some o')) := by
     intro k o' he hmu
     by_cases h1 : k = hp.length
     . exact .inl h1
     . rw [if_neg h1] at he
       by_cases h2 : k = h
       . rw [if_pos h2] at he; injection he with he; subst he; rcases hmu with e | e | ⟨_,e⟩ <;> cases e
       . rw [if_neg h2] at he; exact .inr ⟨h2,h1,he⟩
   rcases key e1 m1 with r1 | ⟨r1,r1',r1''⟩ <;> rcases key e2 m2 with r2 | ⟨r2,r2',r2''⟩
   . rw [r1,r2]
   . exfalso
     rw [r1,sg1] at s1
     rw [sg2 _ r2'] at s2
     exact r2 (hs.inj _ _ _ _ _ r2'' m2 hob (.inl hk) s2 s1)
   . exfalso
     rw [r2,sg1] at s2
     rw [sg2 _ r1'] at s1
     exact r1 (hs.inj _ _ _ _ _ r1'' m1 hob (.inl hk) s1 s2)
   . rw [sg2 _ r1'] at s1
     rw [sg2 _ r2'] at s2
     exact hs.inj _ _ _ _ _ r1'' m1 r2'' m2 s1 s2
 . obtain ⟨A,cap,e1,hle,hA⟩ := (hv.own_inv.2 ob hob).2 hkd rfl
   refine .own _ _ _ _ _ (by rw [e1]; rfl) (by omega) fun o' ho' => ?_
   rw [hnew,if_pos rfl] at ho'; injection ho' with ho'; subst ho'
   refine ⟨by simp; omega,fun _ _ => ⟨A,cap,e1,hle,?_⟩⟩
   rcases hA with hA | ⟨g,hg,q1,q2⟩
   . exact .inl hA
   . exact .inr ⟨g,sg1.trans hg,q1,q2⟩
end
end Go.Nk
set_option linter.all false
namespace Go.Nk
open Go.RowKit
section
variable {P : Program} {K F F' : Nat -> Prop} {σ σ' : Nat -> Option Nat} {hp hp' : List DObj} {w w' : World} {fr : List (Nat × DV)} {a : Act} {o : Oper}
end
end Go.Nk
set_option linter.all false
namespace Go.Nk
open Go.RowKit
section
variable {P : Program} {K F F' : Nat -> Prop} {σ σ' : Nat -> Option Nat} {hp hp' : List DObj} {w w' : World} {fr : List (Nat × DV)} {a : Act} {o : Oper}
theorem zvc {t : TypeId} {p v : Operand} {i : TypeInfo} {g n : Nat} {c : Array Value} {ty : TypeId} (ho : o.op = .store t p v) (hi : P.info? t = some i) (hp' : a.eval p = .pointer (some ⟨g,n,none⟩)) (hsz : (a.eval v).cells.size = i.size)
   (hh : w.heap[g]? = some (.cells c ty (0,0))) (hfit : n + (a.eval v).cells.size <= c.size) (h1 : ∀ u ∈ (a.eval v).cells.toList,u.oneCell' = true) :
   (execOp a.eval o).run P w = .ok .skip (w.setRow g (c.toList.take n ++ (a.eval v).cells.toList ++ c.toList.drop (n + (a.eval v).cells.toList.length)).toArray) := by
 have hst := run_storeCells_at P g n ty (a.eval v).cells.toList 0 c w hh (by simpa using hfit) h1
 simp only [Nat.add_zero] at hst
 simp only [execOp,ho,Instr.storeAt,hp',Instr.sureAddr,storeVar,Sem.run_bind,Sem.run_pure,Result.andThen_ok,sizeOf,typeInfo,run_program,hi,hsz,ne_eq,not_true,if_false,hst]
theorem zy4 {z i j : Nat} {es : List (List DV)} {R R' : DV -> Value -> Prop} {cs : List DV} {vs : List Value} {c c' : Array Value} (hzz : ∀ (i : Nat) (e : List DV),es[i]? = some e -> e.length = z)
   (hcc : ∀ i j d,z1 es i j = some d -> ∃ v,c[i * z + j]? = some v /\ R d v) (hi : i < es.length) (hj : j + cs.length <= (es.getD i []).length) (hv : All2 R' cs vs) (hR : ∀ d v,R d v -> R' d v)
   (hat : ∀ k : Nat,c'[k]? = if i * z + j <= k /\ k < i * z + j + vs.length then vs[k - (i * z + j)]? else c[k]?) :
   (∀ (k : Nat) (e : List DV),(es.set i (zk (es.getD i []) j cs))[k]? = some e -> e.length = z) /\
   ∀ k l d,z1 (es.set i (zk (es.getD i []) j cs)) k l = some d -> ∃ v,c'[k * z + l]? = some v /\ R' d v := by
 have hrow : es.getD i [] = es[i] := by simp [List.getD,hi]
 rw [hrow] at hj |-
 have hrz := hzz i es[i] (by simp [hi])
 obtain ⟨s1,s2⟩ := zkr cs es[i] j
 have hvl := hv.1
 refine ⟨fun k e he => ?_,fun k l d hd => ?_⟩
 . by_cases hk : k = i
   . subst hk
     rw [List.getElem?_set_self hi] at he
     injection he with he; rw [<- he,s1,hrz]
   . rw [List.getElem?_set_ne (Ne.symm hk)] at he
     exact hzz _ _ he
 . by_cases hk : k = i
   . subst hk
     have hd' : (zk es[k] j cs)[l]? = some d := by
       unfold z1 at hd
       rw [List.getElem?_set_self hi] at hd
       simpa using hd
     rw [s2] at hd'
     split at hd'
     . rename_i hl
       obtain ⟨u,hu,hr⟩ := hv.2 _ _ hd'
       refine ⟨u,?_,hr⟩
       rw [hat,if_pos (by omega),<- hu]
       congr 1; omega
     . rename_i hl
       have hlt : l < es[k].length := (List.getElem?_eq_some_iff.1 hd').1
       obtain ⟨u,hu,hr⟩ := hcc k l d (by simp [z1,hi,hd'])
       exact ⟨u,by rw [hat,if_neg (by omega)]; exact hu,hR _ _ hr⟩
   . have hd' : z1 es k l = some d := by
       unfold z1 at hd |-
       rwa [List.getElem?_set_ne (Ne.symm hk)] at hd
     obtain ⟨u,hu,hr⟩ := hcc _ _ _ hd'
     obtain ⟨_,hl,_⟩ := zzs hzz hd'
     refine ⟨u,?_,hR _ _ hr⟩
     rw [hat,if_neg]
     . exact hu
     . intro h
       exact idx_ne hl (Ne.symm hk) ⟨by omega,by omega⟩
theorem z5z [Inhabited Env] {t : TypeId} {p v : Operand} {p' v' : DA} {i : TypeInfo} {h r j : Nat} {ob : DObj} (hs : SimH K F σ hp w) (ho : o.op = .store t p v) (hi : P.info? t = some i) (hf : FRep F σ hp w fr a.tmps) (hp1 : mArg p p' = true) (hv1 : mArg v v' = true)
   (hob : hp[h]? = some ob) (hk : ob.k = .loc) (hpp : p'.ev fr = .ptr h ob.es.length r j) (hn : (cellsOf (v'.ev fr)).length = i.size) (hr : r < ob.es.length) (hj : j + (cellsOf (v'.ev fr)).length <= (ob.es.getD r []).length)
   (h1 : ∀ d ∈ cellsOf (v'.ev fr),d.one = true) :
   ∃ w',(execOp a.eval o).run P w = .ok .skip w' /\ zeb K F σ hp w (.tup []) (hp.set h { ob with es := ob.es.set r (zk (ob.es.getD r []) j (cellsOf (v'.ev fr))) }) undef w' := by
 have hvp := zz hf hp1
 rw [hpp] at hvp
 have hkd : ob.k ≠ .dead := by rw [hk]; simp
 have hl := zay hob
 obtain ⟨g,hg,hpv⟩ := (hvp.ptr_inv.2 ob hob).2 hkd rfl
 have hold := hs.obj h ob hob
 unfold ORep at hold
 rw [hk] at hold; dsimp only at hold
 obtain ⟨g',hg',nF,nK,c,ty,hh,hcz,hzz,hcc⟩ := hold
 rw [hg] at hg'; injection hg' with hg'; subst hg'
 have hc := zne (zz hf hv1) h1
 have hsz : (a.eval v).cells.size = i.size := by rw [<- hn,hc.1]; simp
 have hrow : (ob.es.getD r []).length = ob.z := hzz r _ (by simp [List.getD,hr])
 have hfit : r * ob.z + j + (a.eval v).cells.toList.length <= c.size := by
   rw [<- hc.1]
   have : (r + 1) * ob.z <= ob.es.length * ob.z := Nat.mul_le_mul_right _ hr
   rw [Nat.add_mul] at this; omega
 have one : ∀ u ∈ (a.eval v).cells.toList,u.oneCell' = true := by
   intro u hu
   obtain ⟨k,hk',rfl⟩ := List.getElem_of_mem hu
   have hk2 : k < (cellsOf (v'.ev fr)).length := by rw [hc.1]; exact hk'
   obtain ⟨u',hu',hr'⟩ := hc.2 k (cellsOf (v'.ev fr))[k] (by simp [hk2])
   rw [List.getElem?_eq_getElem hk'] at hu'
   injection hu' with hu'
   rw [hu']
   exact hr'.oneCell (h1 _ (List.getElem_mem _))
 refine ⟨_,zvc ho hi hpv hsz hh (by simpa using hfit) one,?_⟩
 have hat := zw8 (cur := c) (n := r * ob.z + j) (vs := (a.eval v).cells.toList) hfit
 have hget := setRow_heap w g c (c.toList.take (r * ob.z + j) ++ (a.eval v).cells.toList ++ c.toList.drop (r * ob.z + j + (a.eval v).cells.toList.length)).toArray ty (0,0) hh
 have hcs : (c.toList.take (r * ob.z + j) ++ (a.eval v).cells.toList ++ c.toList.drop (r * ob.z + j + (a.eval v).cells.toList.length)).toArray.size = c.size := by simp at hfit |-; omega
 generalize (c.toList.take (r * ob.z + j) ++ (a.eval v).cells.toList ++ c.toList.drop (r * ob.z + j + (a.eval v).cells.toList.length)).toArray = c' at *
 have cg : Chg K F σ hp w h { ob with es := ob.es.set r (zk (ob.es.getD r []) j (cellsOf (v'.ev fr))) } F σ (hp.set h { ob with es := ob.es.set r (zk (ob.es.getD r []) j (cellsOf (v'.ev fr))) }) (w.setRow g c') :=
   { os := rfl,tape := rfl,output := rfl,size := by simp,hF := fun _ h => h,newF := fun _ h => .inl h,ltF := fun b hb => by simpa using hs.fb b hb
     heap := fun b hb hne => setRow_other _ _ _ _ (fun e => hne ob hob (zl7 hk) (by rw [hg,e])),hps := .inl ⟨hl,rfl⟩
     sig := fun h' hne => rfl,newg := fun g hg => .inl ⟨hg,ob,hob,zl7 hk⟩
     grow := fun oh hoh => by
       rw [hob] at hoh; injection hoh with e; subst e
       refine ⟨.inl (zl7 hk),by simp,fun _ _ => ⟨rfl,rfl,fun g1 hg1 => ?_⟩⟩
       rw [hg] at hg1; injection hg1 with hg1; subst hg1
       unfold bsz; rw [hget,hh]; exact hcs }
 have hm := cg.hm hs
 refine ⟨F,σ,cg.sim hs ?_,cg.moves hs,hm,.tup [] #[] rfl (fun _ => undef) (fun j d hd => by simp at hd) (fun j d hd => by simp at hd)⟩
 unfold ORep
 simp only [hk]
 obtain ⟨q1,q2⟩ := zy4 (R' := VRep F σ (hp.set h { ob with es := ob.es.set r (zk (ob.es.getD r []) j (cellsOf (v'.ev fr))) }) (w.setRow g c')) hzz hcc hr hj (hc.imp fun d v h => h.mono hm) (fun d v h => h.mono hm) hat
 simp only [hk] at q2
 exact ⟨g,hg,nF,nK,c',ty,hget,by rw [hcs]; simpa using hcz,q1,q2⟩
theorem z5m [Inhabited Env] {t : TypeId} {p v : Operand} {p' v' : DA} {i : TypeInfo} {h r j : Nat} {ob ob' : DObj} (hs : SimH K F σ hp w) (ho : o.op = .store t p v) (hi : P.info? t = some i) (hf : FRep F σ hp w fr a.tmps) (hp1 : mArg p p' = true) (hv1 : mArg v v' = true)
   (hob : hp[h]? = some ob) (hk : ob.k = .imm) (hpp : p'.ev fr = .ptr h ob.es.length r j) (hn : (cellsOf (v'.ev fr)).length = i.size) (hr : r < ob.es.length) (hj : j + (cellsOf (v'.ev fr)).length <= (ob.es.getD r []).length)
   (hpre : (fzL hp (cellsOf (v'.ev fr))).pre) (hob' : (fzL hp (cellsOf (v'.ev fr))).hp[h]? = some ob') (hk' : ob'.k = .imm) (hu : v'.ev fr ≠ .undef) :
   ∃ w',(execOp a.eval o).run P w = .ok .skip w' /\ zeb K F σ hp w (.tup []) ((fzL hp (cellsOf (v'.ev fr))).hp.set h { ob with es := ob.es.set r (zk (ob.es.getD r []) j (fzL hp (cellsOf (v'.ev fr))).vals) }) undef w' := by
 have hc0 := zqf (zz hf hv1) hu
 obtain ⟨F1,f1,r1⟩ := z14 hs hc0 hpre
 obtain ⟨hs1,mv1,hm1⟩ := f1
 have hvp := zz hf hp1
 rw [hpp] at hvp
 have hkd : ob.k ≠ .dead := by rw [hk]; simp
 obtain ⟨g,hg,hpv⟩ := (hvp.ptr_inv.2 ob hob).2 hkd rfl
 have hzes : ob'.es = ob.es /\ ob'.z = ob.z := by
   have key : ∀ (ds : List DV) (hp0 : List DObj),hp0[h]? = some ob -> ∃ o2,(fzL hp0 ds).hp[h]? = some o2 /\ o2.es = ob.es /\ o2.z = ob.z := by
     have one : ∀ (d : DV) (hp0 : List DObj) (o1 : DObj),hp0[h]? = some o1 -> ∃ o2,(fz1 hp0 d).hp[h]? = some o2 /\ o2.es = o1.es /\ o2.z = o1.z := by
       intro d hp0 o1 h0
       unfold fz1
       split
       . rename_i h' L off len
         show ∃ o2,(freezeAt hp0 h')[h]? = some o2 /\ _
         unfold freezeAt
         cases hh : hp0[h']? with
         | none => exact ⟨o1,h0,rfl,rfl⟩
         | some q =>
           by_cases e : h = h'
           . subst e
             rw [h0] at hh; injection hh with hh; subst hh
             exact ⟨{ o1 with k := .frz },by simp [zay h0],rfl,rfl⟩
           . exact ⟨o1,by dsimp only; rw [List.getElem?_set_ne (Ne.symm e)]; exact h0,rfl,rfl⟩
       . exact ⟨o1,h0,rfl,rfl⟩
       . exact ⟨o1,h0,rfl,rfl⟩
       . split
         . exact ⟨o1,h0,rfl,rfl⟩
         . exact ⟨o1,h0,rfl,rfl⟩
     have gen : ∀ (ds : List DV) (hp0 : List DObj) (o1 : DObj),hp0[h]? = some o1 -> ∃ o2,(fzL hp0 ds).hp[h]? = some o2 /\ o2.es = o1.es /\ o2.z = o1.z := by
       intro ds
       induction ds with
       | nil => intro hp0 o1 h0; exact ⟨o1,h0,rfl,rfl⟩
       | cons d ds ih =>
         intro hp0 o1 h0
         obtain ⟨o2,e1,e2,e3⟩ := one d hp0 o1 h0
         obtain ⟨o3,e4,e5,e6⟩ := ih _ o2 e1
         exact ⟨o3,e4,e5.trans e2,e6.trans e3⟩
     intro ds hp0 h0
     exact gen ds hp0 ob h0
   obtain ⟨o2,e1,e2,e3⟩ := key (cellsOf (v'.ev fr)) hp hob
   rw [hob'] at e1; injection e1 with e1; subst e1; exact ⟨e2,e3⟩
 have hl := zay hob'
 have hold := hs1.obj h ob' hob'
 unfold ORep at hold
 rw [hk'] at hold; dsimp only at hold
 rw [hzes.1,hzes.2] at hold
 rcases hold with ⟨h0,_⟩ | ⟨g',hg',nF,nK,c,ty,hh,hcz,hzz,hcc⟩
 . rw [h0] at hr; simp at hr
 rw [hg] at hg'; injection hg' with hg'; subst hg'
 have hlen : (fzL hp (cellsOf (v'.ev fr))).vals.length = (cellsOf (v'.ev fr)).length := by rw [r1.1,hc0.1]
 have hsz : (a.eval v).cells.size = i.size := by rw [<- hn,hc0.1]; simp
 have hrow : (ob.es.getD r []).length = ob.z := hzz r _ (by simp [List.getD,hr])
 have hfit : r * ob.z + j + (a.eval v).cells.toList.length <= c.size := by
   rw [<- hc0.1]
   have : (r + 1) * ob.z <= ob.es.length * ob.z := Nat.mul_le_mul_right _ hr
   rw [Nat.add_mul] at this; omega
 have one : ∀ u ∈ (a.eval v).cells.toList,u.oneCell' = true := by
   intro u hu
   obtain ⟨k,hk',rfl⟩ := List.getElem_of_mem hu
   have hk2 : k < (fzL hp (cellsOf (v'.ev fr))).vals.length := by rw [r1.1]; exact hk'
   obtain ⟨u',hu',hr'⟩ := r1.2 k (fzL hp (cellsOf (v'.ev fr))).vals[k] (by simp [hk2])
   rw [List.getElem?_eq_getElem hk'] at hu'
   injection hu' with hu'
   rw [hu']
   exact hr'.1.oneCell
 refine ⟨_,zvc ho hi hpv hsz hh (by simpa using hfit) one,?_⟩
 have hat := zw8 (cur := c) (n := r * ob.z + j) (vs := (a.eval v).cells.toList) hfit
 have hget := setRow_heap w g c (c.toList.take (r * ob.z + j) ++ (a.eval v).cells.toList ++ c.toList.drop (r * ob.z + j + (a.eval v).cells.toList.length)).toArray ty (0,0) hh
 have hcs : (c.toList.take (r * ob.z + j) ++ (a.eval v).cells.toList ++ c.toList.drop (r * ob.z + j + (a.eval v).cells.toList.length)).toArray.size = c.size := by simp at hfit |-; omega
 generalize (c.toList.take (r * ob.z + j) ++ (a.eval v).cells.toList ++ c.toList.drop (r * ob.z + j + (a.eval v).cells.toList.length)).toArray = c' at *
 refine zeb.of_frzd ⟨hs1,mv1,hm1⟩ ?_
 generalize (fzL hp (cellsOf (v'.ev fr))).vals = cs at *
 generalize (fzL hp (cellsOf (v'.ev fr))).hp = hp1' at *
 have cg : Chg K F1 σ hp1' w h { ob with es := ob.es.set r (zk (ob.es.getD r []) j cs) } F1 σ (hp1'.set h { ob with es := ob.es.set r (zk (ob.es.getD r []) j cs) }) (w.setRow g c') :=
   { os := rfl,tape := rfl,output := rfl,size := by simp,hF := fun _ h => h,newF := fun _ h => .inl h,ltF := fun b hb => by simpa using hs1.fb b hb
     heap := fun b hb hne => setRow_other _ _ _ _ (fun e => hne ob' hob' (.inl hk') (by rw [hg,e])),hps := .inl ⟨hl,rfl⟩
     sig := fun h' hne => rfl,newg := fun g hg => .inl ⟨hg,ob',hob',.inl hk'⟩
     grow := fun oh hoh => by
       rw [hob'] at hoh; injection hoh with e; subst e
       refine ⟨.inl (.inl hk'),by simp [hzes.1],fun _ _ => ⟨hzes.2.symm,rfl,fun g1 hg1 => ?_⟩⟩
       rw [hg] at hg1; injection hg1 with hg1; subst hg1
       unfold bsz; rw [hget,hh]; exact hcs }
 have hm := cg.hm hs1
 refine ⟨F1,σ,cg.sim hs1 ?_,cg.moves hs1,hm,.tup [] #[] rfl (fun _ => undef) (fun j d hd => by simp at hd) (fun j d hd => by simp at hd)⟩
 unfold ORep
 simp only [hk]
 obtain ⟨q1,q2⟩ := zy4 (R' := fun d v => IRep F1 (w.setRow g c') d v /\ d.one = true) hzz hcc hr (by rw [hlen]; exact hj) (r1.imp fun d v h => ⟨h.1.mono hm.mono hm.keepF,h.2⟩) (fun d v h => ⟨h.1.mono hm.mono hm.keepF,h.2⟩) hat
 exact .inr ⟨g,hg,nF,nK,c',ty,hget,by rw [hcs]; simpa using hcz,q1,q2⟩
end
end Go.Nk
set_option linter.all false
namespace Go.Nk
open Go.RowKit
section
variable {P : Program} {K F : Nat -> Prop} {σ : Nat -> Option Nat} {hp : List DObj} {w : World} {a : Act} {o : Oper} {fr : List (Nat × DV)}
theorem z5y {t : TypeId} (h : ztr P t = true) : ∃ d,P.underlying t = some d /\ ∀ m,d ≠ .interface m := by
 unfold ztr at h
 split at h
 . cases h
 . rename_i d hn hd; exact ⟨d,hd,fun m e => hn m e⟩
 . cases h
theorem x_mkif [Inhabited Env] {t : TypeId} {x : Operand} {d : DV} (hs : SimH K F σ hp w) (ho : o.op = .makeInterface t x) (ht : ztr P t = true) (hv : VRep F σ hp w d (a.eval x)) (hd : d.immB = true) :
   ∃ v w',(execOp a.eval o).run P w = .ok (.value v) w' /\ zeb K F σ hp w (.ifc t d) hp v w' := by
 obtain ⟨u,h1,h2⟩ := z5y ht
 refine ⟨.iface t (a.eval x),w,?_,zeb.same hs (.imm (.ifc t _ _ (hv.imm_of hd)))⟩
 cases u <;> first | exact absurd rfl (h2 _) | simp [execOp,ho,Instr.makeInterface,run_underlying h1,Result.andThen]
end
end Go.Nk
set_option linter.all false
namespace Go.Nk
open Go.RowKit
def ze2 : Nat -> Option Nat := fun _ => none
def zcj (P : Program) (f : FuncId) : Bool :=
 match P.funcs[f]? with
 | some fn => !(fn.name == "runtime.NumGoroutine") && fn.body.isSome
 | none => false
def zy3 [Inhabited Env] (P : Program) (f : FuncId) (dargs : List DV) (r : DV) : Prop :=
 ∀ (K F : Nat -> Prop) (w : World) (args : Array Value),(∀ b,F b -> b < w.heap.size) -> (∀ b,K b -> b < w.heap.size) -> XF F w -> All2 (VRep F ze2 [] w) dargs args.toList ->
   Calls P f args w fun e w' => ∃ v F',e = .returned v /\ Moves K F w F' w' /\ (∀ b,F' b -> b < w'.heap.size) /\ VRep F' ze2 [] w' r v
def z37 [Inhabited Env] (P : Program) (f : FuncId) (dargs : List DV) (hp : List DObj) (r : DV) (hp' : List DObj) : Prop :=
 ∀ (K F : Nat -> Prop) (σ : Nat -> Option Nat) (w : World) (args : Array Value),SimH K F σ hp w -> All2 (VRep F σ hp w) dargs args.toList ->
   Calls P f args w fun e w' => ∃ v,e = .returned v /\ zeb K F σ hp w r hp' v w'
structure StepI (F B : Nat -> Prop) (W : World) (F' B' : Nat -> Prop) (W' : World) : Prop where
 os : W'.os = W.os
 tape : W'.tape = W.tape
 output : W'.output = W.output
 size : W.heap.size <= W'.heap.size
 heap : ∀ b,b < W.heap.size -> ¬ B b -> W'.heap[b]? = W.heap[b]?
 keepF : ∀ b,F b -> W'.heap[b]? = W.heap[b]?
 mono : ∀ b,F b -> F' b
 new : ∀ b,F' b -> F b \/ B b \/ W.heap.size <= b
 own : ∀ b,B' b -> B b \/ W.heap.size <= b
 fb : ∀ b,F' b -> b < W'.heap.size
 bb : ∀ b,B' b -> b < W'.heap.size
def zlq (J : Option Nat -> (Nat -> Prop) -> (Nat -> Prop) -> World -> Prop) : Prop :=
 ∀ k F B W F' B' W',J k F B W -> StepI F B W F' B' W' -> J k F' B' W'
def zmo (P : Program) (l : Nat) (xs : List (List DV)) (J : Option Nat -> (Nat -> Prop) -> (Nat -> Prop) -> World -> Prop) : Prop :=
 ∀ k F B W x vs,J (some k) F B W -> (∀ b,F b -> b < W.heap.size) -> (∀ b,B b -> b < W.heap.size) -> xs[k]? = some x -> All2 (VRep F ze2 [] W) x vs ->
   ∃ fn tmps assign body,(Instr.yield l vs.toArray).run P W = .ok (.round l fn tmps assign body) W /\
     RoundIn Fence.wide 0 P l fn tmps assign body W fun e W' => ∃ b F',e = .returned (.bool b) /\ (∀ c,F c -> F' c) /\ (∀ c,F' c -> F c \/ ¬ B c) /\ (∀ c,F' c -> c < W'.heap.size) /\ W.heap.size <= W'.heap.size /\
       (∀ c,F c -> W'.heap[c]? = W.heap[c]?) /\ (∀ c,B c -> W'.heap[c]? = W.heap[c]?) /\ J (if b then some (k + 1) else none) F' B W'
def z8q [Inhabited Env] (P : Program) (f : FuncId) (caps : List DV) (xs : List (List DV)) : Prop :=
 ∀ (l : Nat) (J : Option Nat -> (Nat -> Prop) -> (Nat -> Prop) -> World -> Prop) (F B : Nat -> Prop) (σ : Nat -> Option Nat) (W : World) (cv : Array Value),zlq J -> zmo P l xs J -> (∀ b,B b -> b < W.heap.size) -> SimH (fun b => b < W.heap.size /\ ¬ B b) F σ (zd3 caps).2 W ->
   All2 (VRep F σ (zd3 caps).2 W) (zd3 caps).1 cv.toList -> J (some 0) F B W ->
   CallsIn Fence.wide 0 P f (#[.func (.yield l) #[] #[]] ++ cv) W fun e W' => (∃ v,e = .returned v) /\ ∃ F' B' k,J k F' B' W' /\ (k = none \/ k = some xs.length)
def DV.unY : DV -> DV
 | .yld _ => .yld 0
 | d => d
def DV.reY (l : Nat) : DV -> DV
 | .yld _ => .yld l
 | d => d
def z9o [Inhabited Env] (P : Program) (f : FuncId) (args : List DV) (ys : List (List DV)) : Prop :=
 ∀ (l : Nat) (J : Option Nat -> (Nat -> Prop) -> (Nat -> Prop) -> World -> Prop) (K F B : Nat -> Prop) (W : World) (cv : Array Value),zlq J -> zmo P l ys J -> (∀ b,B b -> b < W.heap.size) -> (∀ b,b < W.heap.size -> K b) -> SimH K F ze2 [] W ->
   All2 (VRep F ze2 [] W) (args.map (DV.reY l)) cv.toList -> J (some 0) F B W ->
   CallsIn Fence.wide 0 P f cv W fun e W' => ∃ b F',e = .returned (.bool b) /\ (∀ c,F c -> F' c) /\ (∀ c,F' c -> F c \/ ¬ B c) /\ (∀ c,F' c -> c < W'.heap.size) /\ W.heap.size <= W'.heap.size /\
       (∀ c,F c -> W'.heap[c]? = W.heap[c]?) /\ (∀ c,B c -> W'.heap[c]? = W.heap[c]?) /\ J (if b then some ys.length else none) F' B W'
structure Orc.ok [Inhabited Env] (P : Program) (C : Orc) : Prop where
 p : ∀ f args,(C.p f args).1 -> zcj P f = true /\ zy3 P f args (C.p f args).2
 h : ∀ f args hp,(C.h f args hp).pre -> zcj P f = true /\ z37 P f args hp (C.h f args hp).val (C.h f args hp).hp
 i : ∀ f caps,(C.i f caps).1 -> zcj P f = true /\ z8q P f caps (C.i f caps).2
 w : ∀ f args,(C.w f args).1 -> zcj P f = true /\ z9o P f args (C.w f args).2
section
variable {P : Program} {K F F' : Nat -> Prop} {σ σ' : Nat -> Option Nat} {hp hp' : List DObj} {w w' : World} {fr : List (Nat × DV)} {a : Act} {o : Oper} {C : Orc}
def ybq (P : Program) (o : Oper) (a : Act) (w : World) (R : Value -> World -> Prop) : Prop :=
 ∀ (Kn : Act -> World -> Prop) (Q : Exit -> Act -> World -> Prop),(∀ v w',R v w' -> Kn (a.put o.dst v) w') -> o.wp P a w Kn Q
theorem zah {R : Value -> World -> Prop} (h : ∃ v w',(execOp a.eval o).run P w = .ok (.value v) w' /\ R v w') : ybq P o a w R := by
 obtain ⟨v,w',h1,h2⟩ := h
 intro Kn Q hK
 unfold Oper.wp
 rw [h1]
 exact hK v w' h2
theorem zyj {R : Value -> World -> Prop} (h : ∃ w',(execOp a.eval o).run P w = .ok .skip w' /\ R undef w') : ybq P o a w R := by
 obtain ⟨w',h1,h2⟩ := h
 intro Kn Q hK
 unfold Oper.wp
 rw [h1]
 exact hK undef w' h2
theorem zfc {R : Value -> World -> Prop} {f : FuncId} {args : Array Value} (h1 : (execOp a.eval o).run P w = .ok (.enter f args) w) (h2 : Calls P f args w fun e w' => ∃ v,e = .returned v /\ R v w') : ybq P o a w R := by
 intro Kn Q hK
 unfold Oper.wp
 rw [h1]
 exact h2.mono fun e w' ⟨v,he,hr⟩ => by subst he; exact hK v w' hr
theorem zdj.meets [Inhabited Env] (hs : SimH K F σ hp w) {d : DV} (h : zdj P F σ hp w o a d) : ybq P o a w (fun v w' => zeb K F σ hp w d hp v w') := by
 obtain ⟨v,h1,h2⟩ := h
 exact zah ⟨v,w,h1,.same hs h2⟩
theorem zkc {f : FuncId} (h : zcj P f = true) (args : Array Value) : (callFunc f args).run P w = .ok (.enter f args) w := by
 unfold zcj at h
 cases hf : P.funcs[f]? with
 | none => simp [hf] at h
 | some fn =>
   simp only [hf,Bool.and_eq_true,Bool.not_eq_true'] at h
   have hb : fn.body.isNone = false := by cases hh : fn.body <;> simp_all
   simp only [callFunc,Sem.run_bind,run_program,Result.andThen_ok,hf,h.1,hb,Bool.false_eq_true,if_false,Sem.run_pure]
theorem zod {f : FuncId} {x : Operand} {xs : Array Operand} {ts : Array TypeId} {caps : Array Value} (ho : o.op = .call { callee := .value x,args := xs,argTypes := ts }) (hx : a.eval x = .func (.func f) #[] caps) (h : zcj P f = true) :
   (execOp a.eval o).run P w = .ok (.enter f (xs.map a.eval ++ caps)) w := by
 simp only [execOp,ho,resolve,hx,Deferred.ofValue,Sem.run_bind,Sem.run_pure,Result.andThen_ok,invoke,Array.empty_append]
 exact zkc h _
theorem z4o {f : FuncId} {x : Operand} {xs : Array Operand} {ts : Array TypeId} {fst : Array Value} (ho : o.op = .call { callee := .value x,args := xs,argTypes := ts }) (hx : a.eval x = .func (.func f) fst #[]) (h : zcj P f = true) :
   (execOp a.eval o).run P w = .ok (.enter f (fst ++ xs.map a.eval)) w := by
 simp only [execOp,ho,resolve,hx,Deferred.ofValue,Sem.run_bind,Sem.run_pure,Result.andThen_ok,invoke,Array.append_empty]
 exact zkc h _
def ownF (F : Nat -> Prop) (σ : Nat -> Option Nat) (hp : List DObj) : Nat -> Prop := fun b => F b \/ ∃ h o,hp[h]? = some o /\ o.k ≠ .dead /\ σ h = some b
theorem ownF_lt [Inhabited Env] (hs : SimH K F σ hp w) : ∀ b,ownF F σ hp b -> b < w.heap.size := fun b hb => hb.elim (hs.fb b) fun ⟨_,_,ho,hd,hg⟩ => hs.blk_lt ho hd hg
theorem yf6 [Inhabited Env] (hs : SimH K F σ hp w) {d : DV} {v : Value} (hv : VRep F σ hp w d v) (h : (capV hp d).1) : IRep (ownF F σ hp) w (capV hp d).2 v := by
 unfold capV at *
 split at h
 . rename_i k L i j
   cases hob : hp[k]? with
   | none => simp [hob] at h
   | some ob =>
     simp only [hob] at h |-
     obtain ⟨h1,h2,h3,h4⟩ := h
     obtain ⟨_,hp2⟩ := hv.ptr_inv
     obtain ⟨g,hg,rfl⟩ := (hp2 ob hob).2 h1 h2
     have hblk : ∃ c ty,w.heap[g]? = some (.cells c ty (0,0)) /\ ∀ i j d,z1 ob.es i j = some d -> ∃ v,c[i * ob.z + j]? = some v /\ IRep F w d v /\ d.one = true := by
       have old := hs.obj k ob hob
       unfold ORep at old
       rcases hkk : ob.k with _ | _ | _ | _ <;> rw [hkk] at old <;> dsimp only at old
       . rcases old with ⟨e1,_⟩ | ⟨g',hg',_,_,c,ty,b1,b2,b3,b4⟩
         . rw [e1] at h2; simp at h2; omega
         . have : g' = g := Option.some.inj (hg'.symm.trans hg)
           subst this
           exact ⟨c,ty,b1,b4⟩
       . obtain ⟨g',hg',_,_,c,ty,b1,b2,b3,b4⟩ := old
         have : g' = g := Option.some.inj (hg'.symm.trans hg)
         subst this
         refine ⟨c,ty,b1,fun i j d hd => ?_⟩
         obtain ⟨v,v1,v2⟩ := b4 i j d hd
         obtain ⟨e,he,hd'⟩ := yai hd
         have hi := h4 e he d hd'
         exact ⟨v,v1,v2.imm_of hi,ztk hi⟩
       . rcases old with ⟨e1,_⟩ | ⟨g',hg',_,c,ty,b1,b2,b3,b4⟩
         . rw [e1] at h2; simp at h2; omega
         . have : g' = g := Option.some.inj (hg'.symm.trans hg)
           subst this
           exact ⟨c,ty,b1,b4⟩
       . exact absurd hkk h1
       . rw [old.1.1] at h2; simp at h2; omega
     obtain ⟨c,ty,b1,b4⟩ := hblk
     refine IRep.ref_mk rfl (.inr ⟨k,ob,hob,h1,hg⟩) fun n d hd => ?_
     have hc : z1 ob.es i (j + n) = some d := zvj hd
     obtain ⟨v,v1,v2,v3⟩ := b4 i (j + n) d hc
     refine ⟨v,?_,v3,v2.mono (fun b hb => .inl hb) fun _ _ => rfl⟩
     rw [show (⟨g,i * ob.z + j + n,none⟩ : Addr) = ⟨g,i * ob.z + (j + n),none⟩ by rw [Nat.add_assoc]]
     rw [ziy b1]
     exact v1
 . exact (hv.imm_of h).mono (fun b hb => .inl hb) fun _ _ => rfl
theorem z21 [Inhabited Env] (hs : SimH K F σ hp w) : ∀ {cs : List DV} {vs : List Value},All2 (VRep F σ hp w) cs vs -> (capVL hp cs).1 -> All2 (IRep (ownF F σ hp) w) (capVL hp cs).2 vs
 | [],vs,hv,_ => by rw [hv.nil_]; exact .mk_nil
 | d :: ds,vs,hv,h => by
   obtain ⟨v,us,rfl,h0,hr⟩ := hv.cons
   exact .mk_cons (yf6 hs h0 h.1) (z21 hs hr h.2)
theorem z3e [Inhabited Env] (hs : SimH K F σ hp w) {d : DV} {v : Value} (hv : VRep F σ hp w d v) (h : (zo hp d).1) : IRep (ownF F σ hp) w (zo hp d).2 v := by
 unfold zo at h |-
 split at h
 . rename_i h' L off len
   obtain ⟨A,c,z,rfl,hlc,hz,hA,_⟩ := ziu hs hv h (by simp)
   refine IRep.sl_mk hlc hz fun hne => ?_
   obtain ⟨b,hb,hsp,hF,hc⟩ := hA hne
   refine ⟨b,hb,hsp,?_,fun i j e he => ?_⟩
   . rcases hF with hF | ⟨h1,L1,o1,l1,e1,e2⟩
     . exact .inl hF
     . injection e1 with e1; subst e1
       have hob : ∃ ob,hp[h']? = some ob /\ (ob.k = .imm \/ ob.k = .frz) := by
         simp only [zy] at h
         cases hob : hp[h']? with
         | none => simp [hob] at h
         | some ob =>
           simp only [hob] at h
           split at h
           . rename_i hk; exact ⟨ob,rfl,hk⟩
           . exact h.elim
       obtain ⟨ob,hob,hk⟩ := hob
       exact .inr ⟨h',ob,hob,by rcases hk with e | e <;> rw [e] <;> simp,e2⟩
   . obtain ⟨u,hu,h1,hr⟩ := hc i j e he
     exact ⟨u,hu,h1,hr.mono (fun b hb => .inl hb) fun _ _ => rfl⟩
 . have := hv.nil_inv; subst this
   exact IRep.sl_mk (es := []) (z := 0) (Nat.le_refl _) (fun i e he => by simp at he) (fun h => absurd rfl h)
 . obtain ⟨vs,rfl,hl,hr⟩ := hv.clo_inv
   obtain ⟨l1,l2⟩ := z21 hs ⟨by simpa using hl,fun j d hd => let ⟨u,hu,hr'⟩ := hr j d hd; ⟨u,by simpa using hu,hr'⟩⟩ h (vs := vs.toList)
   obtain ⟨vv,v1,v2⟩ := ydg (vs := vs) fun j d hd => let ⟨u,hu,hr'⟩ := l2 j d hd; ⟨u,by simpa using hu,hr'⟩
   exact .clo _ _ vs (by simpa using l1) vv v1 v2
 . split at h
   . rename_i hi
     rw [if_pos hi]
     exact (hv.imm_of hi).mono (fun b hb => .inl hb) fun _ _ => rfl
   . exact h.elim
theorem z3f [Inhabited Env] (hs : SimH K F σ hp w) : ∀ {ds : List DV} {vs : List Value},All2 (VRep F σ hp w) ds vs -> (zx hp ds).1 -> All2 (fun d v => VRep (ownF F σ hp) ze2 [] w d v) (zx hp ds).2 vs
 | [],vs,hv,_ => by rw [hv.nil_]; exact .mk_nil
 | d :: ds,vs,hv,h => by
   obtain ⟨v,us,rfl,h0,hr⟩ := hv.cons
   exact .mk_cons (.imm (z3e hs h0 h.1)) (z3f hs hr h.2)
theorem agg_of {cs : List DV} {vs : Array Value} (h : All2 (VRep F σ hp w) cs vs.toList) : VRep F σ hp w (.agg cs) (.agg vs) :=
 VRep.agg_mk (by simpa using h.1) fun j d hd => let ⟨u,hu,hr⟩ := h.2 j d hd; ⟨u,by simpa using hu,hr⟩
theorem yd6 [Inhabited Env] (hs : SimH K F σ hp w) {d : DV} {v : Value} (hv : VRep F σ hp w d v) (h : (zp hp d).1) : VRep (ownF F σ hp) ze2 [] w (zp hp d).2 v := by
 unfold zp at h |-
 split at h
 . obtain ⟨vs,rfl,hl,hr⟩ := hv.agg_inv
   exact agg_of (z3f hs ⟨by simpa using hl,fun j d hd => let ⟨u,hu,hr⟩ := hr j d hd; ⟨u,by simpa using hu,hr⟩⟩ h)
 . exact .imm (z3e hs hv h)
theorem zy0 [Inhabited Env] (hs : SimH K F σ hp w) : ∀ {ds : List DV} {vs : List Value},All2 (VRep F σ hp w) ds vs -> (zf hp ds).1 -> All2 (VRep (ownF F σ hp) ze2 [] w) (zf hp ds).2 vs
 | [],vs,hv,_ => by rw [hv.nil_]; exact .mk_nil
 | d :: ds,vs,hv,h => by
   obtain ⟨v,us,rfl,h0,hr⟩ := hv.cons
   exact .mk_cons (yd6 hs h0 h.1) (zy0 hs hr h.2)
theorem VRep.bare {d : DV} {v : Value} (h : VRep F ze2 [] w d v) : VRep F σ hp w d v := by
 refine h.mono ⟨fun _ h => h,fun _ _ => rfl,by simp,fun h o ho => by simp at ho⟩
theorem z0m [Inhabited Env] (hs : SimH K F σ hp w) {d : DV} {v : Value} (hv : VRep F σ hp w d v) (h : (fzV hp d).pre) :
   ∃ F',Frzd K F σ hp w F' (fzV hp d).hp /\ VRep F' ze2 [] w (fzV hp d).val v := by
 unfold fzV at h |-
 split at h
 . obtain ⟨vs,rfl,hl,hr⟩ := hv.agg_inv
   obtain ⟨F',f,r⟩ := z14 hs (vs := vs.toList) ⟨by simpa using hl,fun j d hd => let ⟨u,hu,hr⟩ := hr j d hd; ⟨u,by simpa using hu,hr⟩⟩ h
   exact ⟨F',f,agg_of (r.imp fun d v h => .imm h.1)⟩
 . obtain ⟨F',f,r,_⟩ := yg3 hs hv h
   exact ⟨F',f,.imm r⟩
theorem zz0 [Inhabited Env] : ∀ {ds : List DV} {vs : List Value} {hp : List DObj} {F : Nat -> Prop},SimH K F σ hp w -> All2 (VRep F σ hp w) ds vs -> (fzVs hp ds).pre ->
   ∃ F',Frzd K F σ hp w F' (fzVs hp ds).hp /\ All2 (VRep F' ze2 [] w) (fzVs hp ds).vals vs
 | [],vs,hp,F,hs,hv,_ => ⟨F,.refl hs,by rw [hv.nil_]; exact .mk_nil⟩
 | d :: ds,vs,hp,F,hs,hv,h => by
   obtain ⟨v,us,rfl,h0,hr⟩ := hv.cons
   obtain ⟨hp1,hp2⟩ := h
   obtain ⟨F1,f1,r1⟩ := z0m hs h0 hp1
   obtain ⟨F2,f2,r2⟩ := zz0 f1.1 (hr.imp fun d v h => h.mono f1.2.2) hp2
   refine ⟨F2,f1.trans f2,.mk_cons (r1.mono ⟨f2.2.1.mono,f2.2.1.keepF,by simp,fun h o ho => by simp at ho⟩) r2⟩
theorem zww {F0 : Nat -> Prop} {w0 : World} {d : DV} {v : Value} (h : VRep F ze2 [] w d v) (hd : zq d = true) : VRep F0 σ hp w0 d v := by
 cases d <;> simp only [zq,Bool.false_eq_true] at hd
 . rw [h.int_inv]; exact .imm (.int _ _)
 . rw [h.bool_inv]; exact .imm (.bool _)
 . rw [h.str_inv]; exact .imm (.str _)
 . rw [h.nilp_inv]; exact .imm .nilp
theorem yci {F0 : Nat -> Prop} {w0 : World} {d : DV} {v : Value} (h : VRep F ze2 [] w d v) (hd : zi d = true) : VRep F0 σ hp w0 d v := by
 unfold zi at hd
 split at hd
 . obtain ⟨vs,rfl,hl,hr⟩ := h.tup_inv
   exact VRep.tup_mk hl fun j e he => by
     obtain ⟨u,hu,hr⟩ := hr j e he
     exact ⟨u,hu,zww hr (List.all_eq_true.1 hd e (List.mem_of_getElem? he))⟩
 . obtain ⟨vs,rfl,hl,hr⟩ := h.agg_inv
   exact VRep.agg_mk hl fun j e he => by
     obtain ⟨u,hu,hr⟩ := hr j e he
     exact ⟨u,hu,zww hr (List.all_eq_true.1 hd e (List.mem_of_getElem? he))⟩
 . exact zww h hd
theorem zvh [Inhabited Env] (hC : C.ok P) (hs : SimH K F σ hp w) {f : FuncId} {dargs : List DV} {args : Array Value} (ha : All2 (VRep F σ hp w) dargs args.toList) (h : (ze C hp f dargs).pre) :
   zcj P f = true /\ Calls P f args w fun e w' => ∃ v,e = .returned v /\ zeb K F σ hp w (ze C hp f dargs).val (ze C hp f dargs).hp v w' := by
 unfold ze at h |-
 dsimp only at h |-
 split at h
 . rename_i hn
   rw [if_pos hn]
   obtain ⟨hv,hr⟩ := h
   obtain ⟨hok,ht⟩ := hC.p _ _ hr
   refine ⟨hok,(ht (fun b => b < w.heap.size) (ownF F σ hp) w args (ownF_lt hs) (fun _ h => h) (hs.tab.mono (fun _ _ => rfl) fun _ h => .inl h) (zy0 hs ha hv)).mono ?_⟩
   rintro e w' ⟨v,F',rfl,hm,hlt,hv'⟩
   obtain ⟨s1,s2,s3⟩ := hs.ext (w' := w') (F' := F) hm.os hm.tape hm.output hm.size hm.keepK (fun _ h => h) (fun _ h => .inl h) (fun b hb => Nat.lt_of_lt_of_le (hs.fb b hb) hm.size)
   exact ⟨v,rfl,F,σ,s1,s2,s3,yci hv' hn⟩
 . rename_i hn
   rw [if_neg hn]
   obtain ⟨hz,hr⟩ := h
   obtain ⟨hok,ht⟩ := hC.p _ _ hr
   obtain ⟨F1,f1,r1⟩ := zz0 hs ha hz
   refine ⟨hok,(ht (fun b => b < w.heap.size) F1 w args f1.1.fb (fun _ h => h) f1.1.tab r1).mono ?_⟩
   rintro e w' ⟨v,F',rfl,hm,hlt,hv'⟩
   obtain ⟨s1,s2,s3⟩ := f1.1.ext (w' := w') (F' := F') hm.os hm.tape hm.output hm.size hm.keepK hm.mono (fun b hb => (hm.new b hb).imp id fun h => by omega) hlt
   exact ⟨v,rfl,.of_frzd f1 ⟨F',σ,s1,s2,s3,hv'.bare⟩⟩
theorem zhl (hf : FRep F σ hp w fr a.tmps) {xs : Array Operand} {ys : List DA} (h : zd2 xs.toList ys = true) : All2 (VRep F σ hp w) (ys.map (·.ev fr)) (xs.map a.eval).toList := by
 obtain ⟨hl,hr⟩ := zu1 hf h
 exact ⟨by simpa using hl,fun j d hd => by simpa using hr j d hd⟩
theorem All2.append {R : DV -> Value -> Prop} {d1 d2 : List DV} {v1 v2 : List Value} (h1 : All2 R d1 v1) (h2 : All2 R d2 v2) : All2 R (d1 ++ d2) (v1 ++ v2) :=
 ⟨by simp [h1.1,h2.1],fun j d hd => by
   rcases Nat.lt_or_ge j d1.length with hl | hl
   . rw [List.getElem?_append_left hl] at hd
     obtain ⟨u,hu,hr⟩ := h1.2 j d hd
     exact ⟨u,by rw [List.getElem?_append_left (by rw [<- h1.1]; exact hl)]; exact hu,hr⟩
   . rw [List.getElem?_append_right hl] at hd
     obtain ⟨u,hu,hr⟩ := h2.2 _ d hd
     exact ⟨u,by rw [List.getElem?_append_right (by rw [<- h1.1]; exact hl),<- h1.1]; exact hu,hr⟩⟩
end
theorem zlz {hp t : List DObj} {h : Nat} {o : DObj} (e : hp[h]? = some o) : (hp ++ t)[h]? = some o := by
 rw [List.getElem?_append_left (List.getElem?_eq_some_iff.1 e).1,e]
theorem zvm (t : List DObj) {hp : List DObj} {d : DV} (h : (zy hp d).pre) : zy (hp ++ t) d = zy hp d := by
 unfold zy at h |-
 split at h <;> try rfl
 . rename_i i L off len
   cases hi : hp[i]? with
   | none => simp [hi] at h
   | some o => simp only [zlz hi]
theorem ydm (t : List DObj) {hp : List DObj} {d : DV} (h : (za hp d).1) : za (hp ++ t) d = za hp d := by
 unfold za at h |-
 split at h <;> try rfl
 . rename_i i L r j
   cases hi : hp[i]? with
   | none => simp [hi] at h
   | some o => simp only [zlz hi]
theorem zkd (t : List DObj) {hp : List DObj} {h L : Nat} (k : alive hp h L) : alive (hp ++ t) h L := by
 unfold Nk.alive at k |-
 cases hi : hp[h]? with
 | none => simp [hi] at k
 | some o => simpa only [zlz hi,hi] using k
theorem load_ext (t : List DObj) {hp : List DObj} {sz : Option Nat} {d : DV} (h : (zh sz (za hp d)).1) : zh sz (za (hp ++ t) d) = zh sz (za hp d) := by
 have : (za hp d).1 := by cases sz <;> exact h.1
 rw [ydm t this]
theorem kind1e (C : Orc) (d : DOp) (fr : List (Nat × DV)) (hp t : List DObj) (hk : d.kind = 1) (h : (dval C d ⟨fr,hp⟩).pre) :
   (dval C d ⟨fr,hp ++ t⟩).pre /\ (dval C d ⟨fr,hp ++ t⟩).val = (dval C d ⟨fr,hp⟩).val /\ (dval C d ⟨fr,hp ++ t⟩).hp = hp ++ t := by
 cases d <;> simp only [DOp.kind,reduceCtorEq,Nat.reduceEqDiff] at hk <;> simp only [dval] at h |-
 case b2s x => rw [zvm t h.1]; exact ⟨h,by first | rfl | trivial,by first | rfl | trivial⟩
 case len x =>
   split at h
   . exact ⟨trivial,rfl,rfl⟩
   . exact ⟨trivial,rfl,rfl⟩
   . exact ⟨zkd t h,rfl,rfl⟩
   . exact h.elim
 case snil x =>
   split at h
   . exact ⟨trivial,rfl,rfl⟩
   . exact ⟨trivial,rfl,rfl⟩
   . exact ⟨trivial,rfl,rfl⟩
   . exact ⟨zkd t h,rfl,rfl⟩
   . exact h.elim
 case load s x => rw [load_ext t h]; exact ⟨h,by first | rfl | trivial,by first | rfl | trivial⟩
 case faddr o x =>
   split at h
   . exact ⟨trivial,rfl,rfl⟩
   . exact ⟨zkd t h,rfl,rfl⟩
   . exact h.elim
 case nilck x =>
   split at h
   . exact ⟨zkd t h,rfl,rfl⟩
   . exact ⟨trivial,rfl,rfl⟩
   . exact ⟨trivial,rfl,rfl⟩
   . exact ⟨trivial,rfl,rfl⟩
   . exact h.elim
 case iaddrA n z x i =>
   split at h
   . exact ⟨h,rfl,rfl⟩
   . exact ⟨⟨zkd t h.1,h.2⟩,rfl,rfl⟩
   . exact h.elim
 case iaddr z x i =>
   split at h
   . exact ⟨h,rfl,rfl⟩
   . rename_i hh L off len k n e1 e2
     cases hi : hp[hh]? with
     | none => simp [hi,no] at h
     | some o => simp only [hi,zlz hi] at h |-; exact ⟨h,trivial,trivial⟩
   . exact h.elim
 case slice z x a b c =>
   unfold zc2 at h |-
   split at h
   . exact ⟨h,by first | rfl | trivial,by first | rfl | trivial⟩
   . rename_i hh L off len e1
     cases hi : hp[hh]? with
     | none => simp [hi] at h
     | some o => simp only [hi,zlz hi] at h |-; exact ⟨h,trivial,trivial⟩
   . exact ⟨h,by first | rfl | trivial,by first | rfl | trivial⟩
   . exact h.elim
end Go.Nk
set_option linter.all false
namespace Go.Nk
open Go.RowKit
section
variable {P : Program} {K F F' : Nat -> Prop} {σ σ' : Nat -> Option Nat} {hp hp' : List DObj} {w w' : World} {fr : List (Nat × DV)} {a : Act} {o : Oper} {C : Orc}
theorem zue {xs : Array Operand} {y : DA} (h : zd2 xs.toList [y] = true) : ∃ x,xs = #[x] /\ mArg x y = true := by
 obtain ⟨l⟩ := xs
 match l,h with
 | [x],h => exact ⟨x,rfl,by simpa [zd2] using h⟩
 | [],h => simp [zd2] at h
 | _ :: _ :: _,h => simp [zd2] at h
theorem zni {xs : Array Operand} {y z : DA} (h : zd2 xs.toList [y,z] = true) : ∃ x u,xs = #[x,u] /\ mArg x y = true /\ mArg u z = true := by
 obtain ⟨l⟩ := xs
 match l,h with
 | [x,u],h => exact ⟨x,u,rfl,by simpa [zd2] using h⟩
 | [],h => simp [zd2] at h
 | [_],h => simp [zd2] at h
 | _ :: _ :: _ :: _,h => simp [zd2] at h
theorem zks {α : Type} {ts : Array α} {t : α} (h : ts.toList = [t]) : ts = #[t] := by apply Array.ext'; simpa using h
theorem zyo {α : Type} {ts : Array α} {t u : α} (h : ts.toList = [t,u]) : ts = #[t,u] := by apply Array.ext'; simpa using h
theorem zvk {h L i j : Nat} {v : Value} (hv : VRep F σ hp w (.ptr h L i j) v) (ha : alive hp h L) : ∃ ob g,hp[h]? = some ob /\ ob.k ≠ .dead /\ ob.es.length = L /\ σ h = some g /\ v = .pointer (some ⟨g,i * ob.z + j,none⟩) := by
 obtain ⟨hl,hob⟩ := hv.ptr_inv
 unfold alive at ha
 cases hhp : hp[h]? with
 | none => simp [hhp] at ha
 | some ob =>
   simp only [hhp] at ha
   obtain ⟨g,hg,e⟩ := (hob ob hhp).2 ha.1 ha.2
   exact ⟨ob,g,rfl,ha.1,ha.2,hg,e⟩
theorem z3o {h L i j : Nat} {ob : DObj} {g : Nat} (hob : hp[h]? = some ob) (hL : ob.es.length = L) (hg : σ h = some g) (k : Nat) : VRep F σ hp w (.ptr h L i (j + k)) (.pointer (some ⟨g,i * ob.z + j + k,none⟩)) := by
 refine .ptr _ _ _ _ _ rfl (zay hob) fun o ho => ?_
 rw [hob] at ho; injection ho with ho; subst ho
 exact ⟨by omega,fun _ _ => ⟨g,hg,by rw [Nat.add_assoc]⟩⟩
def Sound [Inhabited Env] (P : Program) (K F : Nat -> Prop) (σ : Nat -> Option Nat) (hp : List DObj) (w : World) (fr : List (Nat × DV)) (a : Act) (C : Orc) (o : Oper) (d : DOp) : Prop :=
 (dval C d ⟨fr,hp⟩).pre -> ybq P o a w (fun v w' => zeb K F σ hp w (dval C d ⟨fr,hp⟩).val (dval C d ⟨fr,hp⟩).hp v w')
theorem zla [Inhabited Env] (hC : C.ok P) (hs : SimH K F σ hp w) (hf : FRep F σ hp w fr a.tmps) {op : Op} {d : DOp} (ho : o.op = op) (hm : mOp P op d = true) : Sound P K F σ hp w fr a C o d := by
 intro h
 unfold mOp at hm
 split at hm
 . exact (q_mv (.inl ho) hf hm).meets hs
 . exact (q_mv (.inr ho) hf hm).meets hs
 . rename_i x y
   obtain ⟨F1,f1,r1⟩ := z0m hs (zz hf hm) h
   exact zah ⟨a.eval x,w,by simp [execOp,ho],.of_frzd f1 (.same f1.1 r1.bare)⟩
 . rename_i x y
   obtain ⟨F1,f1,r1⟩ := z0m hs (zz hf hm) h
   exact zah ⟨a.eval x,w,by simp [execOp,ho],.of_frzd f1 (.same f1.1 r1.bare)⟩
 . rename_i x z y
   have hv := zz hf hm
   simp only [dval] at h |-
   cases he : y.ev fr <;> simp only [he,no] at h hv |- <;> try exact h.elim
   exact zah (z0a hs (.inl ho) hv.nil_inv)
 . rename_i x z y
   have hv := zz hf hm
   simp only [dval] at h |-
   cases he : y.ev fr <;> simp only [he,no] at h hv |- <;> try exact h.elim
   exact zah (z0a hs (.inr ho) hv.nil_inv)
 . rename_i xs ts y
   simp only [Bool.and_eq_true] at hm
   obtain ⟨hm1,ht⟩ := hm
   obtain ⟨x,hxs,hx⟩ := zue hm1
   split at ht
   rotate_left
   . cases ht
   rename_i t hts
   obtain rfl := zks hts
   split at ht
   . rename_i e hte
     have hv := zz hf hx
     simp only [dval] at h |-
     cases he : y.ev fr <;> simp only [he,no] at h hv |- <;> try exact h.elim
     exact (q_cap ho hxs hte hv.nil_inv).meets hs
   . cases ht
 . rename_i c x y c' x' y'
   simp only [Bool.and_eq_true] at hm
   simp only [dval] at h |-
   cases he : c'.ev fr <;> simp only [he,no] at h |- <;> try exact h.elim
   rename_i b
   cases b
   . exact (q_pick ho hf hm.1.1 hm.1.2 hm.2 he).meets hs
   . exact (q_pick ho hf hm.1.1 hm.1.2 hm.2 he).meets hs
 . simp only [Bool.and_eq_true,decide_eq_true_eq] at hm
   obtain ⟨⟨rfl,h1⟩,h2⟩ := hm
   exact (q_bin ho hf h1 h2 h).meets hs
 . simp only [Bool.and_eq_true] at hm
   obtain ⟨⟨⟨h0,h1⟩,h2⟩,h3⟩ := hm
   split at h3
   . rename_i ht
     exact (q_beq ho h0 ht hf h1 h2 h).meets hs
   . cases h3
 . simp only [Bool.and_eq_true] at hm
   obtain ⟨⟨⟨h0,h1⟩,h2⟩,h3⟩ := hm
   exact (q_aeq ho h0 h3 hf h1 h2 h).meets hs
 . rename_i op t x u n x'
   simp only [Bool.and_eq_true] at hm
   obtain ⟨⟨h0,h1⟩,h2⟩ := hm
   have hh : (dval C (.snil n x') ⟨fr,hp⟩).hp = hp := by
     simp only [dval] at h |-
     split at h <;> first | rfl | exact h.elim
   rw [hh]
   split at h2
   . rename_i e ht
     exact (q_snil ho h0 ht hf h1 h).meets hs
   . cases h2
 . simp only [Bool.and_eq_true,decide_eq_true_eq] at hm
   obtain ⟨rfl,h1⟩ := hm
   exact (q_un ho hf h1 h).meets hs
 . rename_i s t x k y
   simp only [Bool.and_eq_true] at hm
   have hv := zz hf hm.1.1
   simp only [dval] at h |-
   cases he : y.ev fr <;> simp only [he,no] at h hv |- <;> try exact h.elim
   exact (q_conv ho hm.1.2 (z8j hm.2) hv.int_inv).meets hs
 . rename_i s t x y
   simp only [Bool.and_eq_true] at hm
   obtain ⟨⟨h0,h1⟩,h2⟩ := hm
   have hv := zz hf h0
   simp only [dval] at h |-
   obtain ⟨hp1,hp2,hp3⟩ := h
   have hstr : ∀ s,y.ev fr ≠ .str s := by intro s hs'; rw [hs'] at hp2; exact hp2
   split at h2
   . rename_i e hse
     obtain ⟨A,c,z,e1,hlc,hzz,hA,_⟩ := ziu hs hv hp1 hstr
     refine (q_b2s ho hse (z8j h2) (ztp h1) e1 hp3 (fun hne => ?_) (fun _ _ _ => trivial)).meets hs
     obtain ⟨b,hb,hsp,_,hc⟩ := hA hne
     refine ⟨b,hb,hsp,fun i j d hd => ?_⟩
     obtain ⟨u,hu,_,hr⟩ := hc i j d hd
     have hz1 : z = 1 := by
       obtain ⟨e0,he0⟩ := List.exists_mem_of_ne_nil _ hne
       obtain ⟨k0,hk0,rfl⟩ := List.getElem_of_mem he0
       obtain ⟨n,hn⟩ := hp3 _ he0
       have := hzz k0 _ (List.getElem?_eq_getElem hk0)
       rw [hn] at this; simpa using this.symm
     subst hz1
     exact ⟨u,hu,hr⟩
   . cases h2
 . rename_i xs ts y
   simp only [Bool.and_eq_true] at hm
   obtain ⟨hm1,ht⟩ := hm
   obtain ⟨x,hxs,hx⟩ := zue hm1
   split at ht
   rotate_left
   . cases ht
   rename_i t hts
   obtain rfl := zks hts
   split at ht
   . rename_i e hte
     have hv := zz hf hx
     simp only [dval] at h |-
     cases he : y.ev fr <;> simp only [he,no] at h hv |- <;> try exact h.elim
     . exact (q_len ho hxs hte hv.nil_inv).meets hs
     . obtain ⟨A,c,z,e1,_⟩ := hv.sl_inv.sl_inv
       exact (q_len ho hxs hte e1).meets hs
     . rename_i h' L off n
       obtain ⟨hl,hob⟩ := hv.own_inv
       unfold alive at h
       cases hhp : hp[h']? with
       | none => simp [hhp] at h
       | some ob =>
         simp only [hhp] at h
         obtain ⟨A,cap,e1,_⟩ := (hob ob hhp).2 h.1 h.2
         exact (q_len ho hxs hte e1).meets hs
   . cases ht
 . rename_i xs ts y
   simp only [Bool.and_eq_true] at hm
   obtain ⟨hm1,ht⟩ := hm
   obtain ⟨x,hxs,hx⟩ := zue hm1
   split at ht
   rotate_left
   . cases ht
   rename_i t hts
   obtain rfl := zks hts
   have hv := zz hf hx
   simp only [dval] at h |-
   cases he : y.ev fr <;> simp only [he,no] at h hv |- <;> try exact h.elim
   exact (q_lenS ho hxs (ztp ht) hv.str_inv).meets hs
 . rename_i xs ts n
   simp only [Bool.and_eq_true,beq_iff_eq] at hm
   obtain ⟨hm1,ht⟩ := hm
   split at ht
   rotate_left
   . cases ht
   rename_i t hts
   obtain rfl := zks hts
   obtain ⟨x,hxs⟩ : ∃ x,xs = #[x] := by
     obtain ⟨l⟩ := xs
     match l,hm1 with
     | [x],_ => exact ⟨x,rfl⟩
   subst hxs
   refine zdj.meets hs (zj3 ho (v := .int .i64 n) (fun cs => ?_) (.imm (.int _ _)))
   split at ht
   . rename_i m e hte
     simp at ht; subst ht
     cases a.eval x <;> simp [builtin,Builtin.len_,zai hte,goInt]
   . rename_i e hte
     split at ht
     . rename_i m e' hte'
       simp at ht; subst ht
       cases a.eval x <;> simp [builtin,Builtin.len_,zai hte,zai hte',goInt]
     . cases ht
   . cases ht
 . rename_i xs ts x y
   obtain ⟨x1,y1,hxs,h1,h2⟩ := zni hm
   have v1 := zz hf h1
   have v2 := zz hf h2
   simp only [dval] at h |-
   cases he : x.ev fr <;> cases he2 : y.ev fr <;> simp only [he,he2,no] at h v1 v2 |- <;> try exact h.elim
   subst h
   exact (z7o (mx := true) rfl ho hxs v1.int_inv v2.int_inv).meets hs
 . rename_i xs ts x y
   obtain ⟨x1,y1,hxs,h1,h2⟩ := zni hm
   have v1 := zz hf h1
   have v2 := zz hf h2
   simp only [dval] at h |-
   cases he : x.ev fr <;> cases he2 : y.ev fr <;> simp only [he,he2,no] at h v1 v2 |- <;> try exact h.elim
   subst h
   exact (z7o (mx := false) rfl ho hxs v1.int_inv v2.int_inv).meets hs
 . simp only [Bool.and_eq_true,decide_eq_true_eq] at hm
   exact (q_load hs ho hm.2 hf hm.1 h).meets hs
 . rename_i t p v n q u
   simp only [Bool.and_eq_true] at hm
   obtain ⟨⟨h1,h2⟩,h3⟩ := hm
   cases hi : P.info? t with
   | none => simp [hi] at h3
   | some i =>
     simp only [hi,beq_iff_eq] at h3
     subst h3
     simp only [dval,zw] at h |-
     cases he : q.ev fr <;> simp only [he,no] at h |- <;> try exact h.elim
     rename_i h' L r j
     cases hob : hp[h']? with
     | none => simp [hob] at h
     | some ob =>
       simp only [hob] at h |-
       by_cases hk : ob.k = .loc
       . simp only [if_pos hk] at h |-
         obtain ⟨hn,hL,hr,hj,h1'⟩ := h
         subst hL
         exact zyj (z5z hs ho hi hf h1 h2 hob hk he hn hr hj h1')
       . simp only [if_neg hk] at h |-
         by_cases hk2 : ob.k = .imm
         . simp only [if_pos hk2] at h |-
           cases hob' : (fzL hp (cellsOf (u.ev fr))).hp[h']? with
           | none => simp [hob'] at h
           | some ob' =>
             simp only [hob'] at h |-
             obtain ⟨hn,hpre,hk',hL,hr,hj⟩ := h
             subst hL
             refine zyj (z5m hs ho hi hf h1 h2 hob hk2 he hn hr hj hpre hob' hk' ?_)
             intro hu
             rw [hu] at hpre
             simp [cellsOf,fzL,fz1,DV.immB] at hpre
         . simp only [if_neg hk2] at h
 . rename_i t p f off q
   simp only [Bool.and_eq_true] at hm
   obtain ⟨h1,h2⟩ := hm
   split at h2
   . rename_i fs hts
     split at h2
     . rename_i fl hfl
       simp only [Bool.and_eq_true,beq_iff_eq] at h2
       obtain ⟨rfl,h2⟩ := h2
       cases hi : P.info? fl.type with
       | none => simp [hi] at h2
       | some i =>
         simp only [hi,bne_iff_ne] at h2
         have hv := zz hf h1
         simp only [dval] at h |-
         cases he : q.ev fr <;> simp only [he,no] at h hv |- <;> try exact h.elim
         . rename_i h' L r j
           obtain ⟨ob,g,hob,hk,hL,hg,e1⟩ := zvk hv h
           exact (yf0 ho hts hfl hi h2 e1 rfl (z3o hob hL hg _)).meets hs
         . rename_i cs
           obtain ⟨b,e1,hsp,_⟩ := hv.ref_inv.ref_inv
           have hr := hv.ref_inv
           rw [e1] at hr
           exact (yf0 ho hts hfl hi h2 e1 hsp (.imm (z85 hr _))).meets hs
     . cases h2
   . cases h2
 . rename_i t x f off sz y
   simp only [Bool.and_eq_true] at hm
   obtain ⟨h1,h2⟩ := hm
   split at h2
   . rename_i fs hts
     split at h2
     . rename_i fl hfl
       simp only [Bool.and_eq_true,beq_iff_eq,decide_eq_true_eq] at h2
       obtain ⟨rfl,h2⟩ := h2
       simp only [dval] at h |-
       cases he : y.ev fr <;> simp only [he,no] at h |- <;> try exact h.elim
       exact (q_field ho hts hfl h2 hf h1 he h).meets hs
     . cases h2
   . cases h2
 . rename_i t x i z y k
   simp only [Bool.and_eq_true] at hm
   obtain ⟨⟨h1,h2⟩,h3⟩ := hm
   obtain ⟨e,ti,zv,hte,hi,hzv,rfl,hpos,hby,hzs⟩ := znj h3
   have v1 := zz hf h1
   have v2 := zz hf h2
   simp only [dval] at h |-
   cases he : y.ev fr <;> cases he2 : k.ev fr <;> simp only [he,he2,no] at h v1 v2 |- <;> try exact h.elim
   . rename_i es kk n
     obtain ⟨hz,h0,hn⟩ := h
     obtain ⟨A,c,z,e1,hlc,hA,hzz⟩ := v1.sl_inv.sl_inv
     have hlt : n.toNat < es.length := by omega
     obtain ⟨b,hb,hsp,hF,hc⟩ := hA (by intro e; rw [e] at hlt; simp at hlt)
     have hrow : es.getD n.toNat [] = es[n.toNat] := by simp [List.getD,hlt]
     have hzi : z = ti.size := by rw [<- hzz n.toNat _ (List.getElem?_eq_getElem hlt),<- hrow]; exact hz
     refine (ygi ho hte hi e1 v2.int_inv hb hsp h0 (by exact_mod_cast hn) (.imm (IRep.ref_mk rfl hF fun j d hd => ?_))).meets hs
     rw [hrow] at hd
     obtain ⟨u,hu,h1',hr⟩ := hc n.toNat j d (by simp [z1,hlt,hd])
     exact ⟨u,by rw [<- hzi]; simpa [Nat.add_assoc] using hu,h1',hr⟩
   . rename_i h' L off len kk n
     cases hob : hp[h']? with
     | none => simp [hob] at h
     | some ob =>
       simp only [hob] at h |-
       obtain ⟨hk,hz,hL,h0,hn⟩ := h
       obtain ⟨A,cap,e1,hle,hA⟩ := (v1.own_inv.2 ob hob).2 hk hL
       rcases hA with hA | ⟨g,hg,rfl,hcap⟩
       . omega
       . refine (ygi ho hte hi e1 v2.int_inv rfl rfl h0 hn (.ptr _ _ _ _ _ rfl (zay hob) fun o' ho' => ?_)).meets hs
         rw [hob] at ho'; injection ho' with ho'; subst ho'
         refine ⟨by omega,fun _ _ => ⟨g,hg,?_⟩⟩
         rw [hz,Nat.add_mul]; simp
 . rename_i t x i n z y k
   simp only [Bool.and_eq_true] at hm
   obtain ⟨⟨h1,h2⟩,h3⟩ := hm
   split at h3
   . rename_i m e hte
     simp only [Bool.and_eq_true,beq_iff_eq] at h3
     obtain ⟨rfl,h3⟩ := h3
     cases hi : P.info? e with
     | none => simp [hi] at h3
     | some ti =>
       simp only [hi,beq_iff_eq] at h3
       subst h3
       have v1 := zz hf h1
       have v2 := zz hf h2
       simp only [dval] at h |-
       cases he : y.ev fr <;> cases he2 : k.ev fr <;> simp only [he,he2,no] at h v1 v2 |- <;> try exact h.elim
       . rename_i h' L r j kk q
         obtain ⟨ha,h0,hn⟩ := h
         obtain ⟨ob,g,hob,hk,hL,hg,e1⟩ := zvk v1 ha
         exact (z8f ho hte hi e1 v2.int_inv rfl h0 hn (z3o hob hL hg _)).meets hs
       . rename_i cs kk q
         obtain ⟨h0,hn⟩ := h
         obtain ⟨b,e1,hsp,_⟩ := v1.ref_inv.ref_inv
         have hr := v1.ref_inv
         rw [e1] at hr
         exact (z8f ho hte hi e1 v2.int_inv hsp h0 hn (.imm (z85 hr _))).meets hs
   . cases h3
 . rename_i t x i y k
   simp only [Bool.and_eq_true] at hm
   obtain ⟨⟨h1,h2⟩,h3⟩ := hm
   have v1 := zz hf h1
   have v2 := zz hf h2
   simp only [dval] at h |-
   cases he : y.ev fr <;> cases he2 : k.ev fr <;> simp only [he,he2,no] at h v1 v2 |- <;> try exact h.elim
   exact (q_index ho (ztp h3) v1.str_inv v2.int_inv h.1 h.2).meets hs
 . rename_i t x lo hi mx y l hh
   simp only [Bool.and_eq_true] at hm
   obtain ⟨⟨⟨⟨h1,h2⟩,h3⟩,h4⟩,h5⟩ := hm
   exact (q_sliceS ho (ztp h5) (by simpa using h4) hf h1 h2 h3 h).meets hs
 . rename_i t x lo hi mx z y l hh m
   simp only [Bool.and_eq_true] at hm
   obtain ⟨⟨⟨⟨h1,h2⟩,h3⟩,h4⟩,h5⟩ := hm
   obtain ⟨e,ti,zv,hte,hi',hzv,rfl,hpos,hby,hzs⟩ := znj h5
   exact (q_slice ho hte hi' hf h1 h2 h3 h4 h).meets hs
 . rename_i t n c zero n' c'
   simp only [Bool.and_eq_true] at hm
   obtain ⟨⟨h1,h2⟩,h3⟩ := hm
   split at h3
   . rename_i e hte
     have v1 := zz hf h1
     have v2 := zz hf h2
     simp only [dval] at h |-
     cases he : n'.ev fr <;> cases he2 : c'.ev fr <;> simp only [he,he2,no] at h v1 v2 |- <;> try exact h.elim
     exact zah (x_make hs ho hte h3 v1.int_inv v2.int_inv h.1 h.2.1 h.2.2)
   . cases h3
 . rename_i t n ps imm zero parts
   simp only [Bool.and_eq_true,beq_iff_eq,decide_eq_true_eq] at hm
   obtain ⟨⟨⟨h1,h2⟩,h3⟩,h4⟩ := hm
   split at h4
   . rename_i e hte
     exact zah (x_bslice hs ho hte h4 h1 h2 h3 hf C h)
   . cases h4
 . rename_i t ps zero parts
   exact (q_build ho (by simp only [mOp]; exact hm) hf h).meets hs
 . rename_i e zero
   cases hi : P.info? e with
   | none => simp [hi] at hm
   | some i =>
     simp only [hi] at hm
     cases hz : i.zero with
     | none => simp [hz] at hm
     | some z =>
       simp only [hz] at hm
       exact zah (x_alloc hs ho hi hz hm)
 . rename_i x z y
   have hv := zz hf hm
   simp only [dval] at h |-
   cases he : y.ev fr <;> simp only [he,no] at h hv |- <;> try exact h.elim
   . exact zah (z0a hs (.inl ho) hv.nil_inv)
   . rename_i h' L off len
     cases hob : hp[h']? with
     | none => simp [hob] at h
     | some ob =>
       simp only [hob] at h |-
       obtain ⟨hk,rfl,rfl,hl⟩ := h
       exact zah (x_home hs (.inl ho) hob hk hl hv)
 . rename_i x z y
   have hv := zz hf hm
   simp only [dval] at h |-
   cases he : y.ev fr <;> simp only [he,no] at h hv |- <;> try exact h.elim
   . exact zah (z0a hs (.inr ho) hv.nil_inv)
   . rename_i h' L off len
     cases hob : hp[h']? with
     | none => simp [hob] at h
     | some ob =>
       simp only [hob] at h |-
       obtain ⟨hk,rfl,rfl,hl⟩ := h
       exact zah (x_home hs (.inr ho) hob hk hl hv)
 . rename_i xs ts z zero s x
   simp only [Bool.and_eq_true] at hm
   obtain ⟨hm1,hm2⟩ := hm
   obtain ⟨s1,x1,hxs,h1,h2⟩ := zni hm1
   split at hm2
   rotate_left
   . cases hm2
   rename_i t u hts
   obtain rfl := zyo hts
   simp only [Bool.and_eq_true] at hm2
   obtain ⟨⟨h3,h4⟩,h5⟩ := hm2
   obtain ⟨e,ti,zv,hte,hi,hzv,rfl,hpos,hby,hzs⟩ := znj h3
   have v1 := zz hf h1
   have v2 := zz hf h2
   split at h4
   rotate_left
   . cases h4
   rename_i k hu
   rw [hte] at h5
   dsimp only at h5
   obtain ⟨i2,z2,hi2,hz2,hmz,hsz,_,_,hzs2,_⟩ := zwh h5
   rw [hi] at hi2; injection hi2 with hi2; subst hi2
   rw [hzv] at hz2; injection hz2 with hz2; subst hz2
   have hall := fun n => zv4 (F := F) (w := w) hmz hzs2 n
   have hz3 : ∀ n : Nat,Builtin.zeroCells zv.cells n = (Array.range (n * zero.length)).map (zv.cells[· % zv.cells.size]!) := fun n => by
     unfold Builtin.zeroCells; rw [hzs2]
   simp only [dval,dAppz] at h |-
   cases he2 : x.ev fr <;> simp only [he2,no] at h v2 |- <;> try exact h.elim
   rename_i kk m
   cases kk <;> simp only [] at h v2 |- <;> try exact h.elim
   have hx2 : a.eval x1 = .int .i64 m := v2.int_inv
   have one1 : ∀ v ∈ (Builtin.zeroCells zv.cells m.toNat).toList,v.oneCell' = true := by
     intro v hv
     rw [hz3] at hv
     obtain ⟨k,hk,rfl⟩ := List.getElem_of_mem hv
     have hkl : k < m.toNat * zero.length := by simpa using hk
     have hzl : 0 < zero.length := by omega
     obtain ⟨u,hu,hr⟩ := (hall m.toNat).2.2 (k / zero.length) (k % zero.length) (zero[k % zero.length]'(Nat.mod_lt _ hzl)) (by
       unfold z1
       rw [List.getElem?_replicate,if_pos ((Nat.div_lt_iff_lt_mul hzl).2 hkl)]
       simp [Nat.mod_lt _ hzl])
     rw [show k / zero.length * zero.length + k % zero.length = k from by rw [Nat.mul_comm]; exact Nat.div_add_mod _ _] at hu
     have : (((Array.range (m.toNat * zero.length)).map (zv.cells[· % zv.cells.size]!)).toList)[k]? = some u := by rw [Array.getElem?_toList]; exact hu
     rw [List.getElem?_eq_getElem hk] at this
     injection this with this
     rw [this]
     exact hr.1.oneCell
   have rows : ∀ (k : Nat) (r : List DV),(List.replicate m.toNat zero)[k]? = some r -> r.length = ti.size := by
     intro k r hr
     rw [List.getElem?_replicate] at hr
     split at hr
     . injection hr with hr; rw [<- hr,hsz]
     . cases hr
   have cells : ∀ k j r,z1 (List.replicate m.toNat zero) k j = some r -> ∃ x,(Builtin.zeroCells zv.cells m.toNat).toList[k * ti.size + j]? = some x /\ IOne F w r x := by
     intro k j r hr
     obtain ⟨u,hu,hr⟩ := (hall m.toNat).2.2 k j r hr
     exact ⟨u,by rw [hz3,hsz,Array.getElem?_toList]; exact hu,hr⟩
   cases he : s.ev fr <;> simp only [he] at h v1 |- <;> try exact h.elim
   . have hA := App.ofZeros (P := P) (w := w) (ty := o.type) hte hu hi hzv hpos hby hzs h.1 h.2 one1
     have hr := zrz (es := List.replicate m.toNat zero) hs ho hxs hby hzs v1.nil_inv (by rw [hx2,List.length_replicate]; exact hA) rows cells (by simpa using h.2)
     simp only [List.length_replicate] at hr
     exact zah hr
   . rename_i h' L off len
     cases hob : hp[h']? with
     | none => simp [hob] at h
     | some ob =>
       simp only [hob] at h |-
       obtain ⟨h0,hk,hbz,rfl,rfl,rfl,hlen⟩ := h
       have hA := App.ofZeros (P := P) (w := w) (ty := o.type) hte hu hi hzv hpos hby hzs h0 (by omega) one1
       have hr := zr6 (es := List.replicate m.toNat zero) hs ho hxs hby hzs (by rw [hx2,List.length_replicate]; exact hA) rows cells hob hk hbz v1 (by simpa using hlen)
       simp only [List.length_replicate] at hr
       exact zah hr
 . rename_i e hh zero
   simp only [dval] at h |-
   revert h
   cases h0 : hp[hh]? with
   | none => intro hx; exact hx.elim
   | some o0 =>
     intro hx
     cases hi : P.info? e with
     | none => simp [hi] at hm
     | some i =>
       simp only [hi] at hm
       cases hz : i.zero with
       | none => simp [hz] at hm
       | some z =>
         simp only [hz] at hm
         exact zah (x_aa hs ho hi hz hm h0 hx.1 hx.2)
 . exact zah (x_box hs ho hf hm h)
 . exact zah (x_bref hs ho hf hm h)
 . rename_i xs ts z s x
   simp only [Bool.and_eq_true] at hm
   obtain ⟨hm1,hm2⟩ := hm
   obtain ⟨s1,x1,hxs,h1,h2⟩ := zni hm1
   split at hm2
   rotate_left
   . cases hm2
   rename_i t u hts
   obtain rfl := zyo hts
   simp only [Bool.and_eq_true] at hm2
   obtain ⟨h3,h4⟩ := hm2
   obtain ⟨e,ti,zv,hte,hi,hzv,rfl,hpos,hby,hzs⟩ := znj h3
   have v1 := zz hf h1
   have hkd : (∃ e',P.underlying u = some (.slice e')) \/ P.underlying u = some .string := by
     split at h4
     . rename_i e' he'; exact .inl ⟨e',he'⟩
     . rename_i he'; exact .inr he'
     . cases h4
   simp only [dval,zax] at h |-
   cases he : s.ev fr <;> simp only [he,no] at h v1 |- <;> try exact h.elim
   . obtain ⟨news,hsrc,hrows,hcells⟩ := src_of (P := P) hs (zz hf h2) h.1 hpos h.2.2 hkd
     exact zah (zrz hs ho hxs hby hzs v1.nil_inv (App.ofSrc hte hi hzv hsrc) hrows hcells h.2.1)
   . rename_i h' L off len
     cases hob : hp[h']? with
     | none => simp [hob] at h
     | some ob =>
       simp only [hob] at h |-
       obtain ⟨hp1,hz,hk,hbz,rfl,rfl,rfl,hlen⟩ := h
       obtain ⟨news,hsrc,hrows,hcells⟩ := src_of (P := P) hs (zz hf h2) hp1 hpos hz hkd
       exact zah (zr6 hs ho hxs hby hzs (App.ofSrc hte hi hzv hsrc) hrows hcells hob hk hbz v1 hlen)
 . rename_i x i i' y
   simp only [Bool.and_eq_true,beq_iff_eq] at hm
   obtain ⟨rfl,h1⟩ := hm
   simp only [dval] at h |-
   cases he : y.ev fr <;> simp only [he,no] at h |- <;> try exact h.elim
   exact (yes ho hf h1 he h).meets hs
 . rename_i x y
   have hv := zz hf hm
   simp only [dval] at h |-
   cases he : y.ev fr <;> simp only [he,no] at h hv |- <;> try exact h.elim
   . obtain ⟨ob,g,hob,hk,hL,hg,e1⟩ := zvk hv h
     exact (zz3 ho rfl (.inl ⟨_,e1⟩) hv).meets hs
   . obtain ⟨b,e1,_⟩ := hv.ref_inv.ref_inv
     exact (zz3 ho rfl (.inl ⟨_,e1⟩) hv).meets hs
   . obtain ⟨vs,e1,_⟩ := hv.clo_inv
     exact (zz3 ho rfl (.inr ⟨_,_,_,e1⟩) hv).meets hs
   . obtain ⟨vs,e1,_⟩ := hv.meth_inv
     exact (zz3 ho rfl (.inr ⟨_,_,_,e1⟩) hv).meets hs
 . rename_i f fst caps g caps'
   simp only [Bool.and_eq_true,beq_iff_eq] at hm
   obtain ⟨⟨rfl,h2⟩,h3⟩ := hm
   exact (q_mkfun ho h2 hf h3).meets hs
 . rename_i f xs ts g ys
   simp only [Bool.and_eq_true,beq_iff_eq] at hm
   obtain ⟨rfl,h1⟩ := hm
   obtain ⟨hok,hc⟩ := zvh hC hs (zhl hf h1) h
   exact zfc (by simpa using zod (P := P) (w := w) (x := .func f) (caps := #[]) ho rfl hok) hc
 . exact h.elim
 . rename_i f xs ts g ys
   simp only [Bool.and_eq_true,beq_iff_eq] at hm
   obtain ⟨rfl,h1⟩ := hm
   obtain ⟨hok,hc⟩ := hC.h _ _ _ h
   exact zfc (by simpa using zod (P := P) (w := w) (x := .func f) (caps := #[]) ho rfl hok) (hc K F σ w _ hs (zhl hf h1))
 . rename_i x xs ts g ys
   simp only [Bool.and_eq_true] at hm
   obtain ⟨h0,h1⟩ := hm
   have hv := zz hf h0
   simp only [dval] at h |-
   cases he : g.ev fr <;> simp only [he,no] at h hv |- <;> try exact h.elim
   . rename_i f caps
     obtain ⟨vs,e1,hl,hr⟩ := hv.clo_inv
     have hargs : All2 (VRep F σ hp w) (ys.map (·.ev fr) ++ caps) (xs.map a.eval ++ vs).toList := by
       rw [Array.toList_append]
       exact (zhl hf h1).append ⟨by simpa using hl,fun j d hd => let ⟨u,hu,hr⟩ := hr j d hd; ⟨u,by simpa using hu,hr⟩⟩
     obtain ⟨hok,hc⟩ := zvh hC hs hargs h
     exact zfc (zod (P := P) (w := w) ho e1 hok) hc
   . rename_i f fst
     obtain ⟨vs,e1,hl,hr⟩ := hv.meth_inv
     have hargs : All2 (VRep F σ hp w) (fst ++ ys.map (·.ev fr)) (vs ++ xs.map a.eval).toList := by
       rw [Array.toList_append]
       exact All2.append ⟨by simpa using hl,fun j d hd => let ⟨u,hu,hr⟩ := hr j d hd; ⟨u,by simpa using hu,hr⟩⟩ (zhl hf h1)
     obtain ⟨hok,hc⟩ := zvh hC hs hargs h
     exact zfc (z4o (P := P) (w := w) ho e1 hok) hc
 . rename_i x xs ts g ys
   simp only [Bool.and_eq_true] at hm
   obtain ⟨h0,h1⟩ := hm
   have hv := zz hf h0
   simp only [dval] at h |-
   cases he : g.ev fr <;> simp only [he,no] at h hv |- <;> try exact h.elim
   . rename_i f caps
     obtain ⟨vs,e1,hl,hr⟩ := hv.clo_inv
     have hargs : All2 (VRep F σ hp w) (ys.map (·.ev fr) ++ caps) (xs.map a.eval ++ vs).toList := by
       rw [Array.toList_append]
       exact (zhl hf h1).append ⟨by simpa using hl,fun j d hd => let ⟨u,hu,hr⟩ := hr j d hd; ⟨u,by simpa using hu,hr⟩⟩
     obtain ⟨hok,hc⟩ := hC.h _ _ _ h
     exact zfc (zod (P := P) (w := w) ho e1 hok) (hc K F σ w _ hs hargs)
   . rename_i f fst
     obtain ⟨vs,e1,hl,hr⟩ := hv.meth_inv
     have hargs : All2 (VRep F σ hp w) (fst ++ ys.map (·.ev fr)) (vs ++ xs.map a.eval).toList := by
       rw [Array.toList_append]
       exact All2.append ⟨by simpa using hl,fun j d hd => let ⟨u,hu,hr⟩ := hr j d hd; ⟨u,by simpa using hu,hr⟩⟩ (zhl hf h1)
     obtain ⟨hok,hc⟩ := hC.h _ _ _ h
     exact zfc (z4o (P := P) (w := w) ho e1 hok) (hc K F σ w _ hs hargs)
 . rename_i t x t' y
   simp only [Bool.and_eq_true,beq_iff_eq] at hm
   obtain ⟨⟨rfl,h2⟩,h3⟩ := hm
   exact zah (x_mkif hs ho h2 (zz hf h3) h)
 . exact h.elim
 . cases hm
theorem z28 [Inhabited Env] (hC : C.ok P) (hs : SimH K F σ hp w) (hf : FRep F σ hp w fr a.tmps) {op : Op} {d : DOp} (ho : o.op = op) (hm : mOpX P op d = true) :
   (zb C d ⟨fr,hp⟩).pre -> ybq P o a w (fun v w' => zeb K F σ hp w (zb C d ⟨fr,hp⟩).val (zb C d ⟨fr,hp⟩).hp v w') := by
 cases d
 case im d =>
   intro h
   simp only [mOpX,Bool.and_eq_true,decide_eq_true_eq] at hm
   simp only [zb] at h |-
   obtain ⟨e1,e2,e3⟩ := kind1e C d fr [] hp hm.1 h.2
   rw [List.nil_append] at e1 e2 e3
   have := zla (P := P) (K := K) hC hs hf ho hm.2 e1
   rw [e2,e3] at this
   exact this
 case rk lo d =>
   intro h
   simp only [zb] at h |-
   have := zla (P := P) (K := K) hC hs hf ho hm h.1
   rw [h.2.2] at this
   exact this
 case tk b lo d =>
   intro h
   simp only [zb] at h |-
   exact zla (P := P) (K := K) hC hs hf ho hm h.1
 case rd d =>
   intro h
   simp only [zb] at h |-
   have := zla (P := P) (K := K) hC hs hf ho hm h.1
   rw [h.2] at this
   exact this
 case to b d =>
   intro h
   simp only [zb] at h |-
   exact zla (P := P) (K := K) hC hs hf ho hm h.1
 all_goals exact zla hC hs hf ho hm
end
end Go.Nk
