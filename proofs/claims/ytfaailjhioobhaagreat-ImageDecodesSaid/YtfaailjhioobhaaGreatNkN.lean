/- Calls; every operation does what the data level says. -/
import Derived.Test.YtfaailjhioobhaaGreatNkL
import Derived.RangeFuncOwn
import Derived.RangeFuncLeaves
import Derived.RangeFuncRecord
import Derived.OrdersIn
import Derived.TacticsIn
import Derived.Sort.LoopGhostIn
set_option linter.all false
namespace Go.Nk
open Go.RowKit
def zkf : Nat → Option Nat := fun _ => none
def zeb (P : Program) (f : FuncId) : Bool :=
 match P.funcs[f]? with
 | some fn => !(fn.name == "runtime.NumGoroutine") && fn.body.isSome
 | none => false
def zwv [Inhabited Env] (P : Program) (f : FuncId) (dargs : List DV) (r : DV) : Prop :=
 ∀ (K F : Nat → Prop) (w : World) (args : Array Value),(∀ b,F b → b < w.heap.size) → (∀ b,K b → b < w.heap.size) → XF F w → All2 (VRep F zkf [] w) dargs args.toList →
   Calls P f args w fun e w' => ∃ v F',e = .returned v ∧ Moves K F w F' w' ∧ (∀ b,F' b → b < w'.heap.size) ∧ VRep F' zkf [] w' r v
def z0u [Inhabited Env] (P : Program) (f : FuncId) (dargs : List DV) (hp : List DObj) (r : DV) (hp' : List DObj) : Prop :=
 ∀ (K F : Nat → Prop) (σ : Nat → Option Nat) (w : World) (args : Array Value),SimH K F σ hp w → All2 (VRep F σ hp w) dargs args.toList →
   Calls P f args w fun e w' => ∃ v,e = .returned v ∧ za6 K F σ hp w r hp' v w'
structure StepI (F B : Nat → Prop) (W : World) (F' B' : Nat → Prop) (W' : World) : Prop where
 os : W'.os = W.os
 tape : W'.tape = W.tape
 output : W'.output = W.output
 size : W.heap.size ≤ W'.heap.size
 heap : ∀ b,b < W.heap.size → ¬ B b → W'.heap[b]? = W.heap[b]?
 keepF : ∀ b,F b → W'.heap[b]? = W.heap[b]?
 mono : ∀ b,F b → F' b
 new : ∀ b,F' b → F b ∨ B b ∨ W.heap.size ≤ b
 own : ∀ b,B' b → B b ∨ W.heap.size ≤ b
 fb : ∀ b,F' b → b < W'.heap.size
 bb : ∀ b,B' b → b < W'.heap.size
def AbideI (J : Option Nat → (Nat → Prop) → (Nat → Prop) → World → Prop) : Prop :=
 ∀ k F B W F' B' W',J k F B W → StepI F B W F' B' W' → J k F' B' W'
def RoundsI (P : Program) (l : Nat) (xs : List (List DV)) (J : Option Nat → (Nat → Prop) → (Nat → Prop) → World → Prop) : Prop :=
 ∀ k F B W x vs,J (some k) F B W → (∀ b,F b → b < W.heap.size) → (∀ b,B b → b < W.heap.size) → xs[k]? = some x → All2 (VRep F zkf [] W) x vs →
   ∃ fn tmps assign body,(Instr.yield l vs.toArray).run P W = .ok (.round l fn tmps assign body) W ∧
     RoundIn Fence.wide 0 P l fn tmps assign body W fun e W' => ∃ b F',e = .returned (.bool b) ∧ (∀ c,F c → F' c) ∧ (∀ c,F' c → F c ∨ ¬ B c) ∧ (∀ c,F' c → c < W'.heap.size) ∧ W.heap.size ≤ W'.heap.size ∧
       (∀ c,F c → W'.heap[c]? = W.heap[c]?) ∧ (∀ c,B c → W'.heap[c]? = W.heap[c]?) ∧ J (if b then some (k + 1) else none) F' B W'
def z78 [Inhabited Env] (P : Program) (f : FuncId) (caps : List DV) (xs : List (List DV)) : Prop :=
 ∀ (l : Nat) (J : Option Nat → (Nat → Prop) → (Nat → Prop) → World → Prop) (F B : Nat → Prop) (σ : Nat → Option Nat) (W : World) (cv : Array Value),AbideI J → RoundsI P l xs J → (∀ b,B b → b < W.heap.size) → SimH (fun b => b < W.heap.size ∧ ¬ B b) F σ (yaz caps).2 W →
   All2 (VRep F σ (yaz caps).2 W) (yaz caps).1 cv.toList → J (some 0) F B W →
   CallsIn Fence.wide 0 P f (#[.func (.yield l) #[] #[]] ++ cv) W fun e W' => (∃ v,e = .returned v) ∧ ∃ F' B' k,J k F' B' W' ∧ (k = none ∨ k = some xs.length)
structure Orc.ok [Inhabited Env] (P : Program) (C : Orc) : Prop where
 p : ∀ f args,(C.p f args).1 → zeb P f = true ∧ zwv P f args (C.p f args).2
 h : ∀ f args hp,(C.h f args hp).pre → zeb P f = true ∧ z0u P f args hp (C.h f args hp).val (C.h f args hp).hp
 i : ∀ f caps,(C.i f caps).1 → zeb P f = true ∧ z78 P f caps (C.i f caps).2
section
variable {P : Program} {K F F' : Nat → Prop} {σ σ' : Nat → Option Nat} {hp hp' : List DObj} {w w' : World} {fr : List (Nat × DV)} {a : Act} {o : Oper} {C : Orc}
def zvd (P : Program) (o : Oper) (a : Act) (w : World) (R : Value → World → Prop) : Prop :=
 ∀ (Kn : Act → World → Prop) (Q : Exit → Act → World → Prop),(∀ v w',R v w' → Kn (a.put o.dst v) w') → o.wp P a w Kn Q
theorem zy {R : Value → World → Prop} (h : ∃ v w',(execOp a.eval o).run P w = .ok (.value v) w' ∧ R v w') : zvd P o a w R := by
 obtain ⟨v,w',h1,h2⟩ := h
 intro Kn Q hK
 unfold Oper.wp
 rw [h1]
 exact hK v w' h2
theorem zv7 {R : Value → World → Prop} (h : ∃ w',(execOp a.eval o).run P w = .ok .skip w' ∧ R undef w') : zvd P o a w R := by
 obtain ⟨w',h1,h2⟩ := h
 intro Kn Q hK
 unfold Oper.wp
 rw [h1]
 exact hK undef w' h2
theorem zdq {R : Value → World → Prop} {f : FuncId} {args : Array Value} (h1 : (execOp a.eval o).run P w = .ok (.enter f args) w) (h2 : Calls P f args w fun e w' => ∃ v,e = .returned v ∧ R v w') : zvd P o a w R := by
 intro Kn Q hK
 unfold Oper.wp
 rw [h1]
 exact h2.mono fun e w' ⟨v,he,hr⟩ => by subst he; exact hK v w' hr
theorem zcs.meets [Inhabited Env] (hs : SimH K F σ hp w) {d : DV} (h : zcs P F σ hp w o a d) : zvd P o a w (fun v w' => za6 K F σ hp w d hp v w') := by
 obtain ⟨v,h1,h2⟩ := h
 exact zy ⟨v,w,h1,.same hs h2⟩
theorem zrr {f : FuncId} (h : zeb P f = true) (args : Array Value) : (callFunc f args).run P w = .ok (.enter f args) w := by
 unfold zeb at h
 cases hf : P.funcs[f]? with
 | none => simp [hf] at h
 | some fn =>
   simp only [hf,Bool.and_eq_true,Bool.not_eq_true'] at h
   have hb : fn.body.isNone = false := by cases hh : fn.body <;> simp_all
   simp only [callFunc,Sem.run_bind,run_program,Result.andThen_ok,hf,h.1,hb,Bool.false_eq_true,if_false,Sem.run_pure]
theorem zl2 {f : FuncId} {x : Operand} {xs : Array Operand} {ts : Array TypeId} {caps : Array Value} (ho : o.op = .call { callee := .value x,args := xs,argTypes := ts }) (hx : a.eval x = .func (.func f) #[] caps) (h : zeb P f = true) :
   (execOp a.eval o).run P w = .ok (.enter f (xs.map a.eval ++ caps)) w := by
 simp only [execOp,ho,resolve,hx,Deferred.ofValue,Sem.run_bind,Sem.run_pure,Result.andThen_ok,invoke,Array.empty_append]
 exact zrr h _
theorem zzh {f : FuncId} {x : Operand} {xs : Array Operand} {ts : Array TypeId} {fst : Array Value} (ho : o.op = .call { callee := .value x,args := xs,argTypes := ts }) (hx : a.eval x = .func (.func f) fst #[]) (h : zeb P f = true) :
   (execOp a.eval o).run P w = .ok (.enter f (fst ++ xs.map a.eval)) w := by
 simp only [execOp,ho,resolve,hx,Deferred.ofValue,Sem.run_bind,Sem.run_pure,Result.andThen_ok,invoke,Array.append_empty]
 exact zrr h _
def ownF (F : Nat → Prop) (σ : Nat → Option Nat) (hp : List DObj) : Nat → Prop := fun b => F b ∨ ∃ h o,hp[h]? = some o ∧ o.k ≠ .dead ∧ σ h = some b
theorem ownF_lt [Inhabited Env] (hs : SimH K F σ hp w) : ∀ b,ownF F σ hp b → b < w.heap.size := fun b hb => hb.elim (hs.fb b) fun ⟨_,_,ho,hd,hg⟩ => hs.blk_lt ho hd hg
theorem z8a [Inhabited Env] (hs : SimH K F σ hp w) {d : DV} {v : Value} (hv : VRep F σ hp w d v) (h : (capV hp d).1) : IRep (ownF F σ hp) w (capV hp d).2 v := by
 unfold capV at *
 split at h
 · rename_i k L i j
   cases hob : hp[k]? with
   | none => simp [hob] at h
   | some ob =>
     simp only [hob] at h ⊢
     obtain ⟨h1,h2,h3,h4⟩ := h
     obtain ⟨_,hp2⟩ := hv.ptr_inv
     obtain ⟨g,hg,rfl⟩ := (hp2 ob hob).2 h1 h2
     have hblk : ∃ c ty,w.heap[g]? = some (.cells c ty (0,0)) ∧ ∀ i j d,zr ob.es i j = some d → ∃ v,c[i * ob.z + j]? = some v ∧ IRep F w d v ∧ d.one = true := by
       have old := hs.obj k ob hob
       unfold ORep at old
       rcases hkk : ob.k with _ | _ | _ | _ <;> rw [hkk] at old <;> dsimp only at old
       · rcases old with ⟨e1,_⟩ | ⟨g',hg',_,_,c,ty,b1,b2,b3,b4⟩
         · rw [e1] at h2; simp at h2; omega
         · have : g' = g := Option.some.inj (hg'.symm.trans hg)
           subst this
           exact ⟨c,ty,b1,b4⟩
       · obtain ⟨g',hg',_,_,c,ty,b1,b2,b3,b4⟩ := old
         have : g' = g := Option.some.inj (hg'.symm.trans hg)
         subst this
         refine ⟨c,ty,b1,fun i j d hd => ?_⟩
         obtain ⟨v,v1,v2⟩ := b4 i j d hd
         obtain ⟨e,he,hd'⟩ := z64 hd
         have hi := h4 e he d hd'
         exact ⟨v,v1,v2.imm_of hi,zsu hi⟩
       · rcases old with ⟨e1,_⟩ | ⟨g',hg',_,c,ty,b1,b2,b3,b4⟩
         · rw [e1] at h2; simp at h2; omega
         · have : g' = g := Option.some.inj (hg'.symm.trans hg)
           subst this
           exact ⟨c,ty,b1,b4⟩
       · exact absurd hkk h1
     obtain ⟨c,ty,b1,b4⟩ := hblk
     refine IRep.ref_mk rfl (.inr ⟨k,ob,hob,h1,hg⟩) fun n d hd => ?_
     have hc : zr ob.es i (j + n) = some d := zua hd
     obtain ⟨v,v1,v2,v3⟩ := b4 i (j + n) d hc
     refine ⟨v,?_,v3,v2.mono (fun b hb => .inl hb) fun _ _ => rfl⟩
     rw [show (⟨g,i * ob.z + j + n,none⟩ : Addr) = ⟨g,i * ob.z + (j + n),none⟩ by rw [Nat.add_assoc]]
     rw [zc9 b1]
     exact v1
 · exact (hv.imm_of h).mono (fun b hb => .inl hb) fun _ _ => rfl
theorem zz6 [Inhabited Env] (hs : SimH K F σ hp w) : ∀ {cs : List DV} {vs : List Value},All2 (VRep F σ hp w) cs vs → (capVL hp cs).1 → All2 (IRep (ownF F σ hp) w) (capVL hp cs).2 vs
 | [],vs,hv,_ => by rw [hv.nil_]; exact .mk_nil
 | d :: ds,vs,hv,h => by
   obtain ⟨v,us,rfl,h0,hr⟩ := hv.cons
   exact .mk_cons (z8a hs h0 h.1) (zz6 hs hr h.2)
theorem z0l [Inhabited Env] (hs : SimH K F σ hp w) {d : DV} {v : Value} (hv : VRep F σ hp w d v) (h : (zz hp d).1) : IRep (ownF F σ hp) w (zz hp d).2 v := by
 unfold zz at h ⊢
 split at h
 · rename_i h' L off len
   obtain ⟨A,c,z,rfl,hlc,hz,hA,_⟩ := zf9 hs hv h (by simp)
   refine IRep.sl_mk hlc hz fun hne => ?_
   obtain ⟨b,hb,hsp,hF,hc⟩ := hA hne
   refine ⟨b,hb,hsp,?_,fun i j e he => ?_⟩
   · rcases hF with hF | ⟨h1,L1,o1,l1,e1,e2⟩
     · exact .inl hF
     · injection e1 with e1; subst e1
       have hob : ∃ ob,hp[h']? = some ob ∧ (ob.k = .imm ∨ ob.k = .frz) := by
         simp only [zi] at h
         cases hob : hp[h']? with
         | none => simp [hob] at h
         | some ob =>
           simp only [hob] at h
           split at h
           · rename_i hk; exact ⟨ob,rfl,hk⟩
           · exact h.elim
       obtain ⟨ob,hob,hk⟩ := hob
       exact .inr ⟨h',ob,hob,by rcases hk with e | e <;> rw [e] <;> simp,e2⟩
   · obtain ⟨u,hu,h1,hr⟩ := hc i j e he
     exact ⟨u,hu,h1,hr.mono (fun b hb => .inl hb) fun _ _ => rfl⟩
 · have := hv.nil_inv; subst this
   exact IRep.sl_mk (es := []) (z := 0) (Nat.le_refl _) (fun i e he => by simp at he) (fun h => absurd rfl h)
 · obtain ⟨vs,rfl,hl,hr⟩ := hv.clo_inv
   obtain ⟨l1,l2⟩ := zz6 hs ⟨by simpa using hl,fun j d hd => let ⟨u,hu,hr'⟩ := hr j d hd; ⟨u,by simpa using hu,hr'⟩⟩ h (vs := vs.toList)
   obtain ⟨vv,v1,v2⟩ := z68 (vs := vs) fun j d hd => let ⟨u,hu,hr'⟩ := l2 j d hd; ⟨u,by simpa using hu,hr'⟩
   exact .clo _ _ vs (by simpa using l1) vv v1 v2
 · split at h
   · rename_i hi
     rw [if_pos hi]
     exact (hv.imm_of hi).mono (fun b hb => .inl hb) fun _ _ => rfl
   · exact h.elim
theorem zzm [Inhabited Env] (hs : SimH K F σ hp w) : ∀ {ds : List DV} {vs : List Value},All2 (VRep F σ hp w) ds vs → (za4 hp ds).1 → All2 (fun d v => VRep (ownF F σ hp) zkf [] w d v) (za4 hp ds).2 vs
 | [],vs,hv,_ => by rw [hv.nil_]; exact .mk_nil
 | d :: ds,vs,hv,h => by
   obtain ⟨v,us,rfl,h0,hr⟩ := hv.cons
   exact .mk_cons (.imm (z0l hs h0 h.1)) (zzm hs hr h.2)
theorem agg_of {cs : List DV} {vs : Array Value} (h : All2 (VRep F σ hp w) cs vs.toList) : VRep F σ hp w (.agg cs) (.agg vs) :=
 VRep.agg_mk (by simpa using h.1) fun j d hd => let ⟨u,hu,hr⟩ := h.2 j d hd; ⟨u,by simpa using hu,hr⟩
theorem z86 [Inhabited Env] (hs : SimH K F σ hp w) {d : DV} {v : Value} (hv : VRep F σ hp w d v) (h : (z1 hp d).1) : VRep (ownF F σ hp) zkf [] w (z1 hp d).2 v := by
 unfold z1 at h ⊢
 split at h
 · obtain ⟨vs,rfl,hl,hr⟩ := hv.agg_inv
   exact agg_of (zzm hs ⟨by simpa using hl,fun j d hd => let ⟨u,hu,hr⟩ := hr j d hd; ⟨u,by simpa using hu,hr⟩⟩ h)
 · exact .imm (z0l hs hv h)
theorem zvz [Inhabited Env] (hs : SimH K F σ hp w) : ∀ {ds : List DV} {vs : List Value},All2 (VRep F σ hp w) ds vs → (zq hp ds).1 → All2 (VRep (ownF F σ hp) zkf [] w) (zq hp ds).2 vs
 | [],vs,hv,_ => by rw [hv.nil_]; exact .mk_nil
 | d :: ds,vs,hv,h => by
   obtain ⟨v,us,rfl,h0,hr⟩ := hv.cons
   exact .mk_cons (z86 hs h0 h.1) (zvz hs hr h.2)
theorem VRep.bare {d : DV} {v : Value} (h : VRep F zkf [] w d v) : VRep F σ hp w d v := by
 refine h.mono ⟨fun _ h => h,fun _ _ => rfl,by simp,fun h o ho => by simp at ho⟩
theorem zt4 [Inhabited Env] (hs : SimH K F σ hp w) {d : DV} {v : Value} (hv : VRep F σ hp w d v) (h : (fzV hp d).pre) :
   ∃ F',Frzd K F σ hp w F' (fzV hp d).hp ∧ VRep F' zkf [] w (fzV hp d).val v := by
 unfold fzV at h ⊢
 split at h
 · obtain ⟨vs,rfl,hl,hr⟩ := hv.agg_inv
   obtain ⟨F',f,r⟩ := zxt hs (vs := vs.toList) ⟨by simpa using hl,fun j d hd => let ⟨u,hu,hr⟩ := hr j d hd; ⟨u,by simpa using hu,hr⟩⟩ h
   exact ⟨F',f,agg_of (r.imp fun d v h => .imm h.1)⟩
 · obtain ⟨F',f,r,_⟩ := z92 hs hv h
   exact ⟨F',f,.imm r⟩
theorem zx6 [Inhabited Env] : ∀ {ds : List DV} {vs : List Value} {hp : List DObj} {F : Nat → Prop},SimH K F σ hp w → All2 (VRep F σ hp w) ds vs → (fzVs hp ds).pre →
   ∃ F',Frzd K F σ hp w F' (fzVs hp ds).hp ∧ All2 (VRep F' zkf [] w) (fzVs hp ds).vals vs
 | [],vs,hp,F,hs,hv,_ => ⟨F,.refl hs,by rw [hv.nil_]; exact .mk_nil⟩
 | d :: ds,vs,hp,F,hs,hv,h => by
   obtain ⟨v,us,rfl,h0,hr⟩ := hv.cons
   obtain ⟨hp1,hp2⟩ := h
   obtain ⟨F1,f1,r1⟩ := zt4 hs h0 hp1
   obtain ⟨F2,f2,r2⟩ := zx6 f1.1 (hr.imp fun d v h => h.mono f1.2.2) hp2
   refine ⟨F2,f1.trans f2,.mk_cons (r1.mono ⟨f2.2.1.mono,f2.2.1.keepF,by simp,fun h o ho => by simp at ho⟩) r2⟩
theorem zs7 {F0 : Nat → Prop} {w0 : World} {d : DV} {v : Value} (h : VRep F zkf [] w d v) (hd : z6 d = true) : VRep F0 σ hp w0 d v := by
 cases d <;> simp only [z6,Bool.false_eq_true] at hd
 · rw [h.int_inv]; exact .imm (.int _ _)
 · rw [h.bool_inv]; exact .imm (.bool _)
 · rw [h.str_inv]; exact .imm (.str _)
 · rw [h.nilp_inv]; exact .imm .nilp
theorem z6a {F0 : Nat → Prop} {w0 : World} {d : DV} {v : Value} (h : VRep F zkf [] w d v) (hd : zu d = true) : VRep F0 σ hp w0 d v := by
 unfold zu at hd
 split at hd
 · obtain ⟨vs,rfl,hl,hr⟩ := h.tup_inv
   exact VRep.tup_mk hl fun j e he => by
     obtain ⟨u,hu,hr⟩ := hr j e he
     exact ⟨u,hu,zs7 hr (List.all_eq_true.1 hd e (List.mem_of_getElem? he))⟩
 · obtain ⟨vs,rfl,hl,hr⟩ := h.agg_inv
   exact VRep.agg_mk hl fun j e he => by
     obtain ⟨u,hu,hr⟩ := hr j e he
     exact ⟨u,hu,zs7 hr (List.all_eq_true.1 hd e (List.mem_of_getElem? he))⟩
 · exact zs7 h hd
theorem zs5 [Inhabited Env] (hC : C.ok P) (hs : SimH K F σ hp w) {f : FuncId} {dargs : List DV} {args : Array Value} (ha : All2 (VRep F σ hp w) dargs args.toList) (h : (zp C hp f dargs).pre) :
   zeb P f = true ∧ Calls P f args w fun e w' => ∃ v,e = .returned v ∧ za6 K F σ hp w (zp C hp f dargs).val (zp C hp f dargs).hp v w' := by
 unfold zp at h ⊢
 dsimp only at h ⊢
 split at h
 · rename_i hn
   rw [if_pos hn]
   obtain ⟨hv,hr⟩ := h
   obtain ⟨hok,ht⟩ := hC.p _ _ hr
   refine ⟨hok,(ht (fun b => b < w.heap.size) (ownF F σ hp) w args (ownF_lt hs) (fun _ h => h) (hs.tab.mono (fun _ _ => rfl) fun _ h => .inl h) (zvz hs ha hv)).mono ?_⟩
   rintro e w' ⟨v,F',rfl,hm,hlt,hv'⟩
   obtain ⟨s1,s2,s3⟩ := hs.ext (w' := w') (F' := F) hm.os hm.tape hm.output hm.size hm.keepK (fun _ h => h) (fun _ h => .inl h) (fun b hb => Nat.lt_of_lt_of_le (hs.fb b hb) hm.size)
   exact ⟨v,rfl,F,σ,s1,s2,s3,z6a hv' hn⟩
 · rename_i hn
   rw [if_neg hn]
   obtain ⟨hz,hr⟩ := h
   obtain ⟨hok,ht⟩ := hC.p _ _ hr
   obtain ⟨F1,f1,r1⟩ := zx6 hs ha hz
   refine ⟨hok,(ht (fun b => b < w.heap.size) F1 w args f1.1.fb (fun _ h => h) f1.1.tab r1).mono ?_⟩
   rintro e w' ⟨v,F',rfl,hm,hlt,hv'⟩
   obtain ⟨s1,s2,s3⟩ := f1.1.ext (w' := w') (F' := F') hm.os hm.tape hm.output hm.size hm.keepK hm.mono (fun b hb => (hm.new b hb).imp id fun h => by omega) hlt
   exact ⟨v,rfl,.of_frzd f1 ⟨F',σ,s1,s2,s3,hv'.bare⟩⟩
theorem zg4 (hf : FRep F σ hp w fr a.tmps) {xs : Array Operand} {ys : List DA} (h : zbv xs.toList ys = true) : All2 (VRep F σ hp w) (ys.map (·.ev fr)) (xs.map a.eval).toList := by
 obtain ⟨hl,hr⟩ := zpc hf h
 exact ⟨by simpa using hl,fun j d hd => by simpa using hr j d hd⟩
theorem All2.append {R : DV → Value → Prop} {d1 d2 : List DV} {v1 v2 : List Value} (h1 : All2 R d1 v1) (h2 : All2 R d2 v2) : All2 R (d1 ++ d2) (v1 ++ v2) :=
 ⟨by simp [h1.1,h2.1],fun j d hd => by
   rcases Nat.lt_or_ge j d1.length with hl | hl
   · rw [List.getElem?_append_left hl] at hd
     obtain ⟨u,hu,hr⟩ := h1.2 j d hd
     exact ⟨u,by rw [List.getElem?_append_left (by rw [← h1.1]; exact hl)]; exact hu,hr⟩
   · rw [List.getElem?_append_right hl] at hd
     obtain ⟨u,hu,hr⟩ := h2.2 _ d hd
     exact ⟨u,by rw [List.getElem?_append_right (by rw [← h1.1]; exact hl),← h1.1]; exact hu,hr⟩⟩
end
theorem zmu {hp t : List DObj} {h : Nat} {o : DObj} (e : hp[h]? = some o) : (hp ++ t)[h]? = some o := by
 rw [List.getElem?_append_left (List.getElem?_eq_some_iff.1 e).1,e]
theorem zt0 (t : List DObj) {hp : List DObj} {d : DV} (h : (zi hp d).pre) : zi (hp ++ t) d = zi hp d := by
 unfold zi at h ⊢
 split at h <;> try rfl
 · rename_i i L off len
   cases hi : hp[i]? with
   | none => simp [hi] at h
   | some o => simp only [zmu hi]
theorem z8t (t : List DObj) {hp : List DObj} {d : DV} (h : (zb hp d).1) : zb (hp ++ t) d = zb hp d := by
 unfold zb at h ⊢
 split at h <;> try rfl
 · rename_i i L r j
   cases hi : hp[i]? with
   | none => simp [hi] at h
   | some o => simp only [zmu hi]
theorem zh3 (t : List DObj) {hp : List DObj} {h L : Nat} (k : alive hp h L) : alive (hp ++ t) h L := by
 unfold Nk.alive at k ⊢
 cases hi : hp[h]? with
 | none => simp [hi] at k
 | some o => simpa only [zmu hi,hi] using k
theorem load_ext (t : List DObj) {hp : List DObj} {sz : Option Nat} {d : DV} (h : (zg sz (zb hp d)).1) : zg sz (zb (hp ++ t) d) = zg sz (zb hp d) := by
 have : (zb hp d).1 := by cases sz <;> exact h.1
 rw [z8t t this]
theorem z9n (C : Orc) (d : DOp) (fr : List (Nat × DV)) (hp t : List DObj) (hk : d.kind = 1) (h : (dval C d ⟨fr,hp⟩).pre) :
   (dval C d ⟨fr,hp ++ t⟩).pre ∧ (dval C d ⟨fr,hp ++ t⟩).val = (dval C d ⟨fr,hp⟩).val ∧ (dval C d ⟨fr,hp ++ t⟩).hp = hp ++ t := by
 cases d <;> simp only [DOp.kind,reduceCtorEq,Nat.reduceEqDiff] at hk <;> simp only [dval] at h ⊢
 case b2s x => rw [zt0 t h.1]; exact ⟨h,by first | rfl | trivial,by first | rfl | trivial⟩
 case len x =>
   split at h
   · exact ⟨trivial,rfl,rfl⟩
   · exact ⟨trivial,rfl,rfl⟩
   · exact ⟨zh3 t h,rfl,rfl⟩
   · exact h.elim
 case snil x =>
   split at h
   · exact ⟨trivial,rfl,rfl⟩
   · exact ⟨trivial,rfl,rfl⟩
   · exact ⟨trivial,rfl,rfl⟩
   · exact ⟨zh3 t h,rfl,rfl⟩
   · exact h.elim
 case peq n x y =>
   revert h
   split
   · intro h; exact ⟨zh3 t h,rfl,rfl⟩
   · intro h; exact ⟨h,rfl,rfl⟩
 case load s x => rw [load_ext t h]; exact ⟨h,by first | rfl | trivial,by first | rfl | trivial⟩
 case faddr o x =>
   split at h
   · exact ⟨trivial,rfl,rfl⟩
   · exact ⟨zh3 t h,rfl,rfl⟩
   · exact h.elim
 case nilck x =>
   split at h
   · exact ⟨zh3 t h,rfl,rfl⟩
   · exact ⟨trivial,rfl,rfl⟩
   · exact ⟨trivial,rfl,rfl⟩
   · exact ⟨trivial,rfl,rfl⟩
   · exact h.elim
 case iaddrA n z x i =>
   split at h
   · exact ⟨h,rfl,rfl⟩
   · exact ⟨⟨zh3 t h.1,h.2⟩,rfl,rfl⟩
   · exact h.elim
 case iaddr z x i =>
   split at h
   · exact ⟨h,rfl,rfl⟩
   · rename_i hh L off len k n e1 e2
     cases hi : hp[hh]? with
     | none => simp [hi,no] at h
     | some o => simp only [hi,zmu hi] at h ⊢; exact ⟨h,trivial,trivial⟩
   · exact h.elim
 case slice z x a b c =>
   unfold zd6 at h ⊢
   split at h
   · exact ⟨h,by first | rfl | trivial,by first | rfl | trivial⟩
   · rename_i hh L off len e1
     cases hi : hp[hh]? with
     | none => simp [hi] at h
     | some o => simp only [hi,zmu hi] at h ⊢; exact ⟨h,trivial,trivial⟩
   · exact ⟨h,by first | rfl | trivial,by first | rfl | trivial⟩
   · exact h.elim
end Go.Nk
