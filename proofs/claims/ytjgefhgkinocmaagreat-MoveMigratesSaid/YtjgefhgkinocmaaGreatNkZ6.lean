/- Iterators: what a function zuy to the rounds of a range over it. -/
import Derived.Test.YtjgefhgkinocmaaGreatNkZ3
set_option maxHeartbeats 1000000
set_option linter.all false
namespace Go.Nk
open Go.RowKit
abbrev SI := DS × Option Nat
def immV : DV -> Bool
 | .agg cs => cs.all DV.immB
 | d => d.immB
def zjs (l : Nat) (fr : List (Nat × DV)) : DOp -> Option (List DV)
 | .callvP g args => match g.ev fr with
   | .yld l' => if l' = l then some (args.map (·.ev fr)) else none
   | _ => none
 | _ => none
def zuy (l : Nat) : DV -> Bool
 | .yld l' => l' == l
 | d => immV d
def zl8 (C : Orc) (l : Nat) (xs : List (List DV)) (dst : Option Nat) (op : DOp) (s : SI) (Kn : SI -> Prop) : Prop :=
 match zjs l s.1.fr op with
 | some a => ∃ n,s.2 = some n /\ xs[n]? = some a /\ a.all immV = true /\ Kn (s.1.put dst ⟨True,.bool true,s.1.hp⟩,some (n + 1)) /\ Kn (s.1.put dst ⟨True,.bool false,s.1.hp⟩,none)
 | none => match op with
   | .callW f args => ∃ n,s.2 = some n /\ (C.w f ((args.map (·.ev s.1.fr)).map DV.unY)).1 /\ (args.map (·.ev s.1.fr)).all (zuy l) = true /\
     (∀ i y,(C.w f ((args.map (·.ev s.1.fr)).map DV.unY)).2[i]? = some y -> xs[n + i]? = some y) /\
     Kn (s.1.put dst ⟨True,.bool true,s.1.hp⟩,some (n + (C.w f ((args.map (·.ev s.1.fr)).map DV.unY)).2.length)) /\ Kn (s.1.put dst ⟨True,.bool false,s.1.hp⟩,none)
   | _ => (zb C op s.1).pre /\ Kn (s.1.put dst (zb C op s.1),s.2)
def zu8 (C : Orc) (l : Nat) (xs : List (List DV)) (o : DOper) (s : SI) (Kn : SI -> Prop) : Prop :=
 match o.guard with
 | none => zl8 C l xs o.dst o.op s Kn
 | some (g,b) =>
   match get g s.1.fr with
   | .bool b' => if b' = b then zl8 C l xs o.dst o.op s Kn else Kn (s.1.put o.dst ⟨True,.tup [],s.1.hp⟩,s.2)
   | .tup [] => Kn (s.1.put o.dst ⟨True,.tup [],s.1.hp⟩,s.2)
   | _ => False
def zir (C : Orc) (l : Nat) (xs : List (List DV)) : List DOper -> SI -> (SI -> Prop) -> Prop
 | [],s,Kn => Kn s
 | o :: r,s,Kn => zu8 C l xs o s (fun s' => zir C l xs r s' Kn)
def z18 (next : SI -> Prop) (Q : DExit -> SI -> Prop) : DExit -> SI -> Prop
 | .normal,s => next s
 | e,s => Q e s
def ziv (id : Nat) (Q : DExit -> SI -> Prop) : DExit -> SI -> Prop
 | .exit id',s => if id' = id then Q .normal s else Q (.exit id') s
 | e,s => Q e s
def dwpI (C : Orc) (l : Nat) (xs : List (List DV)) : DCode -> (DExit -> SI -> Prop) -> SI -> Prop
 | .skip,Q,s => Q .normal s
 | .ops false dl,Q,s => zir C l xs dl s (Q .normal)
 | .ops true dl,Q,s => dops C dl s.1 (fun s' => Q .normal (s',s.2))
 | .opsP dl,Q,s => dops C (dl.map (·.2)) s.1 (fun s' => Q .normal (s',s.2))
 | .seq a b,Q,s => dwpI C l xs a (z18 (dwpI C l xs b Q) Q) s
 | .cond c a b,Q,s =>
   match c.ev s.1.fr with
   | .bool t => (t = true -> dwpI C l xs a Q s) /\ (t = false -> dwpI C l xs b Q s)
   | .anyb => dwpI C l xs a Q s /\ dwpI C l xs b Q s
   | _ => False
 | .block id c,Q,s => dwpI C l xs c (ziv id Q) s
 | .loop live m c,Q,s => ∃ (I : SI -> Prop) (μ : SI -> Nat),I (s.1.cut live m,s.2) /\
     ∀ s',I s' -> dwpI C l xs c (z18 (fun s'' => I (s''.1.cut live m,s''.2) /\ μ (s''.1.cut live m,s''.2) < μ s') Q) s'
 | .exit id,Q,s => Q (.exit id) s
 | .ret,Q,s => Q .ret s
 | _,_,_ => False
section
variable {P : Program} {N : Nat} {C : Orc} {xs : List (List DV)} {J : Option Nat -> (Nat -> Prop) -> (Nat -> Prop) -> World -> Prop} {l : Nat}
def CurI [Inhabited Env] (N : Nat) (J : Option Nat -> (Nat -> Prop) -> (Nat -> Prop) -> World -> Prop) (s : SI) (a : Act) (W : World) : Prop :=
 ∃ F B K' σ,(∀ b,b < W.heap.size -> ¬ B b -> K' b) /\ SimH K' F σ s.1.hp W /\ FRep F σ s.1.hp W s.1.fr a.tmps /\ a.tmps.size = N /\ zfo (fun b => ¬ B b) K' F W a.defers /\ (∀ b,B b -> b < W.heap.size) /\ J s.2 F B W
theorem zfo.base {K0 K0' K F : Nat -> Prop} {w : World} (h : ∀ D,D < w.heap.size -> ¬ K0 D -> ¬ K0' D) : ∀ {ds : List Deferred},zfo K0 K F w ds -> zfo K0' K F w ds
 | [],_ => trivial
 | d :: ds,hm => by
   obtain ⟨⟨D,h1,h2,h3,h4,h5,h6⟩,h7⟩ := hm
   exact ⟨⟨D,h1,h2,h3,h4,h D (Array.getElem?_eq_some_iff.1 h4).1 h5,h6⟩,h7.base h⟩
theorem CurI.start [Inhabited Env] {s : DS} {k : Option Nat} {a : Act} {W : World} (h : CurI N J (s,k) a W) :
   ∃ F B σ,Cur (fun b => b < W.heap.size /\ ¬ B b) N F σ s.hp W s a W /\ J k F B W := by
 obtain ⟨F,B,K',σ,hK,hs,hf,hN,hm,hB,hj⟩ := h
 exact ⟨F,B,σ,⟨K',F,σ,fun b hb => hK b hb.1 hb.2,hs,hf,hN,hm.base fun D _ h1 h2 => h1 h2.2,.refl _ _ _,.refl _ _ _ _⟩,hj⟩
theorem CurI.moved [Inhabited Env] (hJ : zlq J) {k : Option Nat} {F B : Nat -> Prop} {σ0 : Nat -> Option Nat} {hp0 : List DObj} {W : World} (hk : J k F B W) {s' : DS} {a' : Act} {W' : World}
   (h : Cur (fun b => b < W.heap.size /\ ¬ B b) N F σ0 hp0 W s' a' W') : CurI N J (s',k) a' W' := by
 obtain ⟨K',F',σ',hKK,hs,hf,hN,hdef,hmv,hhm⟩ := h
 refine ⟨F',fun b => (B b \/ W.heap.size <= b) /\ b < W'.heap.size,K',σ',fun b h1 h2 => hKK b ?_,hs,hf,hN,hdef.base fun D h1 h2 h3 => h3 ⟨?_,h1⟩,fun b hb => hb.2,
   hJ k F B W _ _ W' hk ⟨hmv.os,hmv.tape,hmv.output,hmv.size,fun b hb hn => hmv.keepK b ⟨hb,hn⟩,hmv.keepF,hmv.mono,fun b hb => ?_,fun b hb => hb.1,hs.fb,fun b hb => hb.2⟩⟩
 . have h3 : ¬ (B b \/ W.heap.size <= b) := fun h => h2 ⟨h,h1⟩
   refine ⟨?_,fun h => h3 (.inl h)⟩
   rcases Nat.lt_or_ge b W.heap.size with h | h
   . exact h
   . exact absurd (.inr h) h3
 . rcases hmv.new b hb with h | h
   . exact .inl h
   . by_cases h1 : B b
     . exact .inr (.inl h1)
     . refine .inr (.inr ?_)
       rcases Nat.lt_or_ge b W.heap.size with h2 | h2
       . exact absurd ⟨h2,h1⟩ h
       . exact h2
 . by_cases hb : B D
   . exact .inl hb
   . rcases Nat.lt_or_ge D W.heap.size with h | h
     . exact absurd ⟨h,hb⟩ h2
     . exact .inr h
def QI [Inhabited Env] (N : Nat) (J : Option Nat -> (Nat -> Prop) -> (Nat -> Prop) -> World -> Prop) (Q : DExit -> SI -> Prop) : Exit -> Act -> World -> Prop
 | .normal,a,w => ∃ s,CurI N J s a w /\ Q .normal s
 | .exit id,a,w => ∃ s,CurI N J s a w /\ Q (.exit id) s
 | .ret,a,w => ∃ s,CurI N J s a w /\ Q .ret s
 | _,_,_ => False
theorem z7r {F : Nat -> Prop} {σ : Nat -> Option Nat} {hp : List DObj} {w : World} {d : DV} {v : Value} (h : VRep F σ hp w d v) (hd : immV d = true) : VRep F ze2 [] w d v := by
 cases d with
 | agg cs =>
   obtain ⟨vs,rfl,hl,hr⟩ := h.agg_inv
   exact VRep.agg_mk hl fun j d' hd' => let ⟨u,hu,hr⟩ := hr j d' hd'; ⟨u,hu,zwx hr (List.all_eq_true.1 hd d' (List.mem_of_getElem? hd'))⟩
 | _ => exact zwx h hd
theorem run_yld {o : Oper} {a : Act} {w : World} {x : Operand} {args : Array Operand} {ts : Array TypeId} (ho : o.op = .call { callee := .value x,args,argTypes := ts }) (hx : a.eval x = .func (.yield l) #[] #[]) :
   (execOp a.eval o).run P w = (Instr.yield l (args.map a.eval)).run P w := by
 simp only [execOp,ho,resolve,hx,Deferred.ofValue,Sem.run_bind,Sem.run_pure,Result.andThen_ok,invoke,Array.empty_append]
theorem CurI.turned [Inhabited Env] {s : DS} {k' : Option Nat} {F B K' : Nat -> Prop} {σ : Nat -> Option Nat} {a : Act} {W W' : World} {F' : Nat -> Prop} (hKB : ∀ b,b < W.heap.size -> ¬ B b -> K' b) (hs : SimH K' F σ s.hp W) (hf : FRep F σ s.hp W s.fr a.tmps) (hN : a.tmps.size = N)
   (hmk : zfo (fun b => ¬ B b) K' F W a.defers) (hB : ∀ b,B b -> b < W.heap.size) (f1 : ∀ c,F c -> F' c) (f2 : ∀ c,F' c -> F c \/ ¬ B c) (f3 : ∀ c,F' c -> c < W'.heap.size) (f4 : W.heap.size <= W'.heap.size) (f5 : ∀ c,F c -> W'.heap[c]? = W.heap[c]?) (f6 : ∀ c,B c -> W'.heap[c]? = W.heap[c]?) (hj' : J k' F' B W')
   {dst : Option Nat} (hlt : ∀ t,dst = some t -> t < N) {v : DV} {u : Value} (hvu : VRep F' σ s.hp W' v u) : CurI N J (s.put dst ⟨True,v,s.hp⟩,k') (a.put dst u) W' := by
 obtain ⟨hs',hm'⟩ := hs.turn (K' := fun b => K' b \/ (W.heap.size <= b /\ b < W'.heap.size)) (F' := F') f4 f5 (fun b hb hk => f6 b (Classical.byContradiction fun h => hk (hKB b hb h))) f1
   (fun c hc => (f2 c hc).imp id fun h => by
     rcases Nat.lt_or_ge c W.heap.size with h1 | h1
     . exact .inl (hKB c h1 h)
     . exact .inr h1) (fun b hb => hb.imp id (·.1)) f3 (fun b hb => hb.elim (fun h => by have := hs.kb b h; omega) (·.2))
 have hmk' : ∀ {ds : List Deferred},zfo (fun b => ¬ B b) K' F W ds -> zfo (fun b => ¬ B b) (fun b => K' b \/ (W.heap.size <= b /\ b < W'.heap.size)) F' W' ds := by
   intro ds
   induction ds with
   | nil => intro _; trivial
   | cons d ds ih =>
     rintro ⟨⟨D,h1,h2,h3,h4,h5,h6⟩,h7⟩
     have hBD : B D := Classical.byContradiction h5
     exact ⟨⟨D,h1,.inl h2,fun h => (f2 D h).elim h3 (fun h => h hBD),(f6 D hBD).trans h4,h5,h6⟩,ih h7⟩
 refine ⟨F',B,fun b => K' b \/ (W.heap.size <= b /\ b < W'.heap.size),σ,fun c h1 h2 => ?_,?_,?_,?_,?_,fun c hc => Nat.lt_of_lt_of_le (hB c hc) f4,hj'⟩
 . rcases Nat.lt_or_ge c W.heap.size with h3 | h3
   . exact .inl (hKB c h3 h2)
   . exact .inr ⟨h3,h1⟩
 . cases dst <;> exact hs'
 . have := hf.put hm' (dst := dst) (fun t ht => by rw [hN]; exact hlt t ht) hvu
   cases dst <;> exact this
 . cases dst <;> simp [Act.put,hN]
 . cases dst <;> exact hmk' hmk
theorem ye5 {F : Nat -> Prop} {σ : Nat -> Option Nat} {hp : List DObj} {w : World} {d : DV} {v : Value} {l : Nat} (h : VRep F σ hp w d v) (hd : zuy l d = true) : VRep F ze2 [] w ((DV.unY d).reY l) v := by
 cases d with
 | yld l' =>
   have e : l' = l := by simpa [zuy] using hd
   subst e
   rw [h.yld_inv]
   exact .imm (.yld l')
 | _ => exact z7r h hd
theorem zx9 [Inhabited Env] (hC : C.ok P) (hJ : zlq J) (hR : zmo P l xs J) {ops : Array Oper} {o : Oper} {d : DOper} (hm : z05 P N ops o d = true) {s : SI} {a : Act} {W : World} (hc : CurI N J s a W) {Kd : SI -> Prop} {Kn : Act -> World -> Prop} {Q : Exit -> Act -> World -> Prop}
   (hK : ∀ s' a' w',CurI N J s' a' w' -> Kd s' -> Kn a' w') (h : zl8 C l xs d.dst d.op s Kd) : o.wpIn (Fw none) 0 P a W Kn Q := by
 obtain ⟨s,k⟩ := s
 unfold zl8 at h
 have hm0 := hm
 simp only [z05,Bool.and_eq_true,decide_eq_true_eq] at hm
 obtain ⟨⟨⟨hop,hdst⟩,hlt⟩,hg⟩ := hm
 cases hy : zjs l s.fr d.op with
 | none =>
   simp only [hy] at h
   by_cases hw : ∃ f args,d.op = .callW f args
   . obtain ⟨f,gs,hd⟩ := hw
     simp only [hd] at h hop
     obtain ⟨n,hn,hpre,hall,hxs,ht,hf'⟩ := h
     subst hn
     obtain ⟨F,B,K',σ,hKB,hs,hf,hN,hmk,hB,hj⟩ := hc
     obtain ⟨hok,htl⟩ := hC.w f _ hpre
     generalize (C.w f ((gs.map (·.ev s.fr)).map DV.unY)).2 = ys at *
     cases hoo : o.op with
     | call cl =>
       rw [hoo] at hop
       obtain ⟨cal,args,ts⟩ := cl
       cases cal with
       | value x =>
         cases x with
         | func f' =>
           have hop' : f' = f /\ zd2 args.toList gs = true := by simpa [mOpX,mOp] using hop
           obtain ⟨rfl,hop'⟩ := hop'
           have hargs := zhl hf hop'
           have hvs : All2 (VRep F ze2 [] W) (((gs.map (·.ev s.fr)).map DV.unY).map (DV.reY l)) (args.map a.eval).toList := by
             rw [List.map_map]
             refine ⟨by simpa using hargs.1,fun j d hd => ?_⟩
             simp only [List.getElem?_map,Option.map_eq_some_iff] at hd
             obtain ⟨d',hd',rfl⟩ := hd
             obtain ⟨u,hu,hr⟩ := hargs.2 j d' (by simpa using hd')
             exact ⟨u,hu,ye5 hr (List.all_eq_true.1 hall d' (List.mem_of_getElem? (by simpa using hd')))⟩
           refine opIn (.inl rfl) ?_
           have hcall := htl l (fun k F B W => J (k.map (n + ·)) F B W) (fun b => b < W.heap.size) F B W (args.map a.eval) (fun k F B W F' B' W' h st => hJ _ F B W F' B' W' h st)
             (fun k F B W x vs hk h1 h2 hx hr => by
               obtain ⟨fn,tm,asg,bd,e1,e2⟩ := hR (n + k) F B W x vs hk h1 h2 (hxs k x hx) hr
               refine ⟨fn,tm,asg,bd,e1,RoundIn.mono e2 ?_⟩
               rintro e W' ⟨b,F',g1,g2,g3,g4,g5,g6,g7,g8⟩
               refine ⟨b,F',g1,g2,g3,g4,g5,g6,g7,?_⟩
               cases b <;> exact g8) hB (fun b hb => hb)
             ⟨fun h o ho => by simp at ho,fun h h' o o' g e1 => by simp at e1,hs.fb,fun b hb => hb,hs.tab⟩ hvs hj
           have := zfc (a := a) (w := W) (P := P) (R := fun v W' => ∃ b F',v = .bool b /\ (∀ c,F c -> F' c) /\ (∀ c,F' c -> F c \/ ¬ B c) /\ (∀ c,F' c -> c < W'.heap.size) /\ W.heap.size <= W'.heap.size /\
             (∀ c,F c -> W'.heap[c]? = W.heap[c]?) /\ (∀ c,B c -> W'.heap[c]? = W.heap[c]?) /\ J ((if b then some ys.length else none).map (n + ·)) F' B W') (zod (caps := #[]) hoo rfl hok) (by
               rw [Array.append_empty]
               exact (callsIn_wide.1 hcall).mono fun e W' ⟨b,F',he,r⟩ => ⟨.bool b,he,b,F',rfl,r⟩)
           refine this Kn Q fun v W' hv => ?_
           obtain ⟨b,F',rfl,f1,f2,f3,f4,f5,f6,hj'⟩ := hv
           rw [hdst]
           refine hK _ _ _ (CurI.turned hKB hs hf hN hmk hB f1 f2 f3 f4 f5 f6 hj' (dst := d.dst) (v := .bool b) (fun t ht => by rw [ht] at hlt; simpa using hlt) (.imm (.bool b))) ?_
           cases b with
           | true => exact ht
           | false => exact hf'
         | _ => simp [mOpX,mOp] at hop
       | _ => simp [mOpX,mOp] at hop
     | _ => rw [hoo] at hop; simp [mOpX,mOp] at hop
   replace h : (zb C d.op s).pre /\ Kd (s.put d.dst (zb C d.op s),k) := by
     cases hd : d.op with
     | callW f args => exact absurd ⟨f,args,hd⟩ hw
     | _ => rw [hd] at h; exact h
   obtain ⟨F,B,σ,hcur,hj⟩ := hc.start
   obtain ⟨K',F1,σ1,hKK,hs,hf,hN,hdef,hmv,hhm⟩ := hcur
   refine opIn (.inl rfl) ?_
   have := z28 (P := P) (K := K') hC hs hf (o := o) rfl hop h.1
   refine this Kn Q fun v w' hgv => ?_
   obtain ⟨F',σ',h1,h2,h3,h4⟩ := hgv
   rw [hdst]
   refine hK _ _ _ (CurI.moved (σ0 := σ) (hp0 := s.hp) hJ hj ?_) h.2
   rw [yc7]
   exact Cur.put hKK hf hN hdef hmv hhm (fun t ht => by rw [ht] at hlt; simpa using hlt) h1 h2 h3 h4
 | some ys =>
   simp only [hy] at h
   obtain ⟨n,hn,hx,him,ht,hf'⟩ := h
   subst hn
   cases hd : d.op with
   | callvP g gs =>
     rw [hd] at hop hy
     simp only [zjs] at hy
     cases hgv : g.ev s.fr with
     | yld l' =>
       simp only [hgv] at hy
       split at hy
       . rename_i e
         subst e
         injection hy with hy
         subst hy
         obtain ⟨F,B,K',σ,hKB,hs,hf,hN,hmk,hB,hj⟩ := hc
         cases hoo : o.op with
         | call cl =>
           rw [hoo] at hop
           obtain ⟨cal,args,ts⟩ := cl
           cases cal with
           | value x =>
             have hop' : mArg x g = true /\ zd2 args.toList gs = true := by
               cases x <;> simpa [mOpX,mOp] using hop
             have hv := zz hf hop'.1
             rw [hgv] at hv
             have hargs := zhl hf hop'.2
             have hvs : All2 (VRep F ze2 [] W) (gs.map (·.ev s.fr)) (args.map a.eval).toList := ⟨hargs.1,fun j d hd => by
               obtain ⟨u,hu,hr⟩ := hargs.2 j d hd
               exact ⟨u,hu,z7r hr (List.all_eq_true.1 him d (List.mem_of_getElem? hd))⟩⟩
             obtain ⟨fn,tm,asg,bd,hyl,hround⟩ := hR n F B W _ _ hj hs.fb hB hx hvs
             rw [Array.toArray_toList] at hyl
             refine ⟨fun _ _ => trivial,?_⟩
             have e1 : o.semAt (Fw none).round a.eval = execOp a.eval o := rfl
             rw [e1,run_yld hoo hv.yld_inv,hyl,Oper.uponIn_round]
             refine ⟨fun h => by simp [Fw,Fence.wide] at h,RoundIn.mono (show RoundIn Fence.wide 0 P l' fn tm asg bd W _ from hround) ?_⟩
             rintro e W' ⟨b,F',rfl,f1,f2,f3,f4,f5,f6,hj'⟩
             obtain ⟨hs',hm'⟩ := hs.turn (K' := fun b => K' b \/ (W.heap.size <= b /\ b < W'.heap.size)) (F' := F') f4 f5 (fun b hb hk => f6 b (Classical.byContradiction fun h => hk (hKB b hb h))) f1
               (fun c hc => (f2 c hc).imp id fun h => by
                 rcases Nat.lt_or_ge c W.heap.size with h1 | h1
                 . exact .inl (hKB c h1 h)
                 . exact .inr h1) (fun b hb => hb.imp id (·.1)) f3 (fun b hb => hb.elim (fun h => by have := hs.kb b h; omega) (·.2))
             have hmk' : ∀ {ds : List Deferred},zfo (fun b => ¬ B b) K' F W ds -> zfo (fun b => ¬ B b) (fun b => K' b \/ (W.heap.size <= b /\ b < W'.heap.size)) F' W' ds := by
               intro ds
               induction ds with
               | nil => intro _; trivial
               | cons d ds ih =>
                 rintro ⟨⟨D,h1,h2,h3,h4,h5,h6⟩,h7⟩
                 have hBD : B D := Classical.byContradiction h5
                 exact ⟨⟨D,h1,.inl h2,fun h => (f2 D h).elim h3 (fun h => h hBD),(f6 D hBD).trans h4,h5,h6⟩,ih h7⟩
             have fin : ∀ (v : DV) (u : Value),VRep F' σ s.hp W' v u -> CurI N J (s.put d.dst ⟨True,v,s.hp⟩,if b then some (n + 1) else none) (a.put o.dst u) W' := by
               intro v u hvu
               refine ⟨F',B,fun b => K' b \/ (W.heap.size <= b /\ b < W'.heap.size),σ,fun c h1 h2 => ?_,?_,?_,?_,?_,fun c hc => Nat.lt_of_lt_of_le (hB c hc) f4,hj'⟩
               . rcases Nat.lt_or_ge c W.heap.size with h3 | h3
                 . exact .inl (hKB c h3 h2)
                 . exact .inr ⟨h3,h1⟩
               . cases d.dst <;> exact hs'
               . rw [hdst]
                 have := hf.put hm' (dst := d.dst) (fun t ht => by rw [hN]; rw [ht] at hlt; simpa using hlt) hvu
                 generalize d.dst = dd at this |-
                 cases dd <;> exact this
               . cases o.dst <;> simp [Act.put,hN]
               . cases o.dst <;> exact hmk' hmk
             cases b with
             | true => exact hK _ _ _ (fin (.bool true) (.bool true) (.imm (.bool true))) ht
             | false => exact hK _ _ _ (fin (.bool false) (.bool false) (.imm (.bool false))) hf'
           | _ => simp [mOpX,mOp] at hop
         | _ => rw [hoo] at hop; simp [mOpX,mOp] at hop
       . cases hy
     | _ => simp [hgv] at hy
   | _ => simp [hd,zjs] at hy
theorem CurI.put [Inhabited Env] {s : SI} {a : Act} {W : World} (hc : CurI N J s a W) {dst : Option Nat} (hlt : ∀ t,dst = some t -> t < N) {d : DV} {v : Value} (hv : ∀ F σ hp w,VRep F σ hp w d v) : CurI N J (s.1.put dst ⟨True,d,s.1.hp⟩,s.2) (a.put dst v) W := by
 obtain ⟨F,B,K',σ,hK,hs,hf,hN,hmk,hB,hj⟩ := hc
 refine ⟨F,B,K',σ,hK,?_,?_,?_,?_,hB,hj⟩
 . cases dst <;> exact hs
 . have := hf.put (.refl F σ s.1.hp W) (dst := dst) (fun t ht => by rw [hN]; exact hlt t ht) (hv F σ s.1.hp W)
   cases dst <;> exact this
 . cases dst <;> simp [Act.put,hN]
 . cases dst <;> exact hmk
theorem z5d [Inhabited Env] (hC : C.ok P) (hJ : zlq J) (hR : zmo P l xs J) {ops : Array Oper} {o : Oper} {d : DOper} (hm : z05 P N ops o d = true) {s : SI} {a : Act} {W : World} (hc : CurI N J s a W) {Kd : SI -> Prop} {Kn : Act -> World -> Prop} {Q : Exit -> Act -> World -> Prop}
   (hK : ∀ s' a' w',CurI N J s' a' w' -> Kd s' -> Kn a' w') (h : zu8 C l xs d s Kd) :
   if Region.wanted o (yielded ops a.tmps) = true then o.wpIn (Fw none) 0 P a W Kn Q else Kn (a.put o.dst undef) W := by
 have hm0 := hm
 simp only [z05,Bool.and_eq_true,decide_eq_true_eq] at hm
 obtain ⟨⟨⟨hop,hdst⟩,hlt⟩,hg⟩ := hm
 have skip : Kd (s.1.put d.dst ⟨True,.tup [],s.1.hp⟩,s.2) -> Kn (a.put o.dst undef) W := by
   intro hk
   rw [hdst]
   exact hK _ _ _ (hc.put (fun t ht => by rw [ht] at hlt; simpa using hlt) fun F σ hp w => .tup [] #[] rfl (fun _ => undef) (fun j d hd => by simp at hd) (fun j d hd => by simp at hd)) hk
 unfold zu8 at h
 cases hgd : d.guard with
 | none =>
   rw [hgd] at h hg
   have ho : o.guard = none := by
     cases hh : o.guard with
     | none => rfl
     | some x => rw [hh] at hg; simp [zu5] at hg
   rw [if_pos (by simp [Region.wanted,ho])]
   exact zx9 hC hJ hR hm0 hc hK h
 | some gb =>
   obtain ⟨t,b⟩ := gb
   rw [hgd] at h hg
   cases hh : o.guard with
   | none => rw [hh] at hg; simp [zu5] at hg
   | some x =>
     obtain ⟨j,b'⟩ := x
     rw [hh] at hg
     simp only [zu5,Bool.and_eq_true,decide_eq_true_eq,beq_iff_eq] at hg
     obtain ⟨ht,rfl⟩ := hg
     have hf := hc.choose_spec.choose_spec.choose_spec.choose_spec.2.2.1
     obtain ⟨y1,y2⟩ := zyc hf ht
     dsimp only at h
     cases hgt : get t s.1.fr with
     | bool c =>
       simp only [hgt] at h
       have hy := y1 c hgt
       simp only [Region.wanted,hh,hy]
       by_cases hcb : c = b'
       . subst hcb
         simp only [if_true] at h
         rw [if_pos (by simp)]
         exact zx9 hC hJ hR hm0 hc hK h
       . rw [if_neg hcb] at h
         rw [if_neg (by simpa using hcb)]
         exact skip h
     | tup vs =>
       cases vs with
       | nil =>
         simp only [hgt] at h
         have hy := y2 hgt
         simp only [Region.wanted,hh,hy]
         rw [if_neg (by simp)]
         exact skip h
       | cons => simp only [hgt] at h
     | _ => simp only [hgt] at h
theorem zzj [Inhabited Env] (hC : C.ok P) (hJ : zlq J) (hR : zmo P l xs J) {ops : Array Oper} {Q : Exit -> Act -> World -> Prop} {Kd : SI -> Prop} (hK : ∀ s' a' w',CurI N J s' a' w' -> Kd s' -> Q .normal a' w') : ∀ {ol : List Oper} {dl : List DOper} {s : SI} {a : Act} {w : World},
   zlk P N ops ol dl = true -> CurI N J s a w -> zir C l xs dl s Kd -> wpListIn (Fw none) 0 P ops Q ol a w
 | [],[],s,a,w,_,hc,h => hK s a w hc h
 | o :: ol,d :: dl,s,a,w,hm,hc,h => by
   simp only [zlk,Bool.and_eq_true] at hm
   have := z5d hC hJ hR hm.1 hc (Kn := wpListIn (Fw none) 0 P ops Q ol) (Q := Q) (fun s' a' w' hc' h' => zzj hC hJ hR hK hm.2 hc' h') h
   unfold wpListIn
   split at this
   . rename_i hw; rw [if_pos hw]; exact this
   . rename_i hw; rw [if_neg hw]; exact ⟨fun _ _ => trivial,this⟩
 | [],_ :: _,_,_,_,hm,_,_ => by simp [zlk] at hm
 | _ :: _,[],_,_,_,hm,_,_ => by simp [zlk] at hm
theorem zb2 [Inhabited Env] (hC : C.ok P) (hJ : zlq J) (hR : zmo P l xs J) : ∀ (dc : DCode) (c : Code) (Q : DExit -> SI -> Prop) (s : SI) (a : Act) (w : World),zb6 P N c dc = true -> dwpI C l xs dc Q s -> CurI N J s a w -> Code.wpIn (Fw none) 0 P c (QI N J Q) a w
 | .skip,cc,Q,s,a,w,hm,h,hc => by
   cases cc with
   | skip => exact wpIn_skip ⟨s,hc,h⟩
   | label l => exact wpIn_label ⟨s,hc,h⟩
   | _ => exact (Bool.false_ne_true hm).elim
 | .ops draw' dl,cc,Q,s,a,w,hm,h,hc => by
   cases cc with
   | region rid ops draw =>
     simp only [zb6,Bool.and_eq_true,beq_iff_eq] at hm
     obtain ⟨rfl,hm⟩ := hm
     cases draw with
     | false => exact wpIn_region_list (zzj hC hJ hR (fun s' a' w' hc' h' => ⟨s',hc',h'⟩) (by simpa using hm) hc h)
     | true =>
       obtain ⟨s,k⟩ := s
       obtain ⟨F,B,σ,hcur,hj⟩ := hc.start
       refine zen hC (.inl rfl) (seps := []) (by simpa using hm) (fun s' a' w' hc' h' => ⟨(s',k),CurI.moved hJ hj hc',h'⟩) hcur (fun p hp => by simp at hp) ?_
       rw [zl5]
       exact h
   | _ => exact (Bool.false_ne_true hm).elim
 | .opsP dl,cc,Q,s,a,w,hm,h,hc => by
   cases cc with
   | region rid ops draw =>
     simp only [zb6,Bool.and_eq_true] at hm
     obtain ⟨rfl,hm⟩ := hm
     obtain ⟨s,k⟩ := s
     obtain ⟨F,B,σ,hcur,hj⟩ := hc.start
     exact zen hC (.inl rfl) hm (fun s' a' w' hc' h' => ⟨(s',k),CurI.moved hJ hj hc',h'⟩) hcur (fun p hp => by simp at hp) h
   | _ => exact (Bool.false_ne_true hm).elim
 | .seq x' y',cc,Q,s,a,w,hm,h,hc => by
   cases cc with
   | seq x y =>
     simp only [zb6,Bool.and_eq_true] at hm
     refine wpIn_seq (wpIn_mono (zb2 hC hJ hR x' x _ s a w hm.1 h hc) fun e a' w' hq => ?_)
     cases e with
     | normal => obtain ⟨s',hc',h'⟩ := hq; exact zb2 hC hJ hR y' y Q s' a' w' hm.2 h' hc'
     | exit id => obtain ⟨s',hc',h'⟩ := hq; exact ⟨s',hc',h'⟩
     | ret => obtain ⟨s',hc',h'⟩ := hq; exact ⟨s',hc',h'⟩
     | goto l => exact hq.elim
     | panic c => exact hq.elim
     | outgrown => exact hq.elim
   | _ => exact (Bool.false_ne_true hm).elim
 | .cond c' x' y',cc,Q,s,a,w,hm,h,hc => by
   cases cc with
   | cond c x y =>
     simp only [zb6,Bool.and_eq_true] at hm
     have hf := hc.choose_spec.choose_spec.choose_spec.choose_spec.2.2.1
     have hv := zz hf hm.1.1
     simp only [dwpI] at h
     cases he : c'.ev s.1.fr with
     | bool t =>
       rw [he] at hv
       simp only [he] at h
       exact wpIn_cond_split hv.bool_inv (fun ht => zb2 hC hJ hR x' x Q s a w hm.1.2 (h.1 ht) hc) (fun ht => zb2 hC hJ hR y' y Q s a w hm.2 (h.2 ht) hc)
     | anyb =>
       rw [he] at hv
       simp only [he] at h
       obtain ⟨b,hb⟩ := hv.anyb_inv
       exact wpIn_cond_split hb (fun _ => zb2 hC hJ hR x' x Q s a w hm.1.2 h.1 hc) (fun _ => zb2 hC hJ hR y' y Q s a w hm.2 h.2 hc)
     | _ => simp only [he] at h
   | _ => exact (Bool.false_ne_true hm).elim
 | .block id' c',cc,Q,s,a,w,hm,h,hc => by
   cases cc with
   | block id c =>
     simp only [zb6,Bool.and_eq_true,beq_iff_eq] at hm
     obtain ⟨rfl,hm⟩ := hm
     refine wpIn_block (wpIn_mono (zb2 hC hJ hR c' c _ s a w hm h hc) fun e a' w' hq => ?_)
     cases e with
     | normal => obtain ⟨s',hc',h'⟩ := hq; exact ⟨s',hc',h'⟩
     | exit k =>
       obtain ⟨s',hc',h'⟩ := hq
       simp only [ziv] at h'
       simp only [Exit.inBlock]
       split at h'
       . rename_i e; rw [if_pos e]; exact ⟨s',hc',h'⟩
       . rename_i e; rw [if_neg e]; exact ⟨s',hc',h'⟩
     | ret => obtain ⟨s',hc',h'⟩ := hq; exact ⟨s',hc',h'⟩
     | goto l => exact hq.elim
     | panic c => exact hq.elim
     | outgrown => exact hq.elim
   | _ => exact (Bool.false_ne_true hm).elim
 | .loop live m c',cc,Q,s,a,w,hm,h,hc => by
   cases cc with
   | loop c =>
     simp only [zb6] at hm
     simp only [dwpI] at h
     obtain ⟨I,μ,h0,hr⟩ := h
     have hcut : ∀ {s : SI} {a : Act} {w : World},CurI N J s a w -> CurI N J (s.1.cut live m,s.2) a w := by
       rintro ⟨s,k⟩ a w ⟨F,B,K',σ,hK,hs,hf,hN,hmk,hB,hj⟩
       have hx : CurX (fun b => b < w.heap.size /\ ¬ B b) N F ze2 [] w K' F σ s a w := ⟨fun b hb => hK b hb.1 hb.2,hs,hf,hN,hmk.base fun D _ h1 h2 => h1 h2.2,.refl _ _ _,hm0⟩
       obtain ⟨_,h2,h3,h4,_⟩ := hx.cut live m (by cases m <;> simp)
       exact ⟨F,B,K',σ,hK,h2,h3,h4,hmk,hB,hj⟩
     refine wpIn_loop_ghost (fun i a w => ∃ s',CurI N J s' a w /\ I s' /\ μ s' = i) (μ (s.1.cut live m,s.2)) ⟨_,hcut hc,h0,rfl⟩ fun i a w hI => ?_
     obtain ⟨s',hc',hI',rfl⟩ := hI
     refine wpIn_mono (zb2 hC hJ hR c' c _ s' a w hm (hr s' hI') hc') fun e a' w' hq => ?_
     cases e with
     | normal =>
       obtain ⟨s'',hc'',h''⟩ := hq
       exact ⟨_,h''.2,_,hcut hc'',h''.1,rfl⟩
     | exit id => obtain ⟨s',hc',h'⟩ := hq; exact ⟨s',hc',h'⟩
     | ret => obtain ⟨s',hc',h'⟩ := hq; exact ⟨s',hc',h'⟩
     | goto l => exact hq.elim
     | panic c => exact hq.elim
     | outgrown => exact hq.elim
   | _ => exact (Bool.false_ne_true hm).elim
 | .exit id',cc,Q,s,a,w,hm,h,hc => by
   cases cc with
   | exit id =>
     simp only [zb6,beq_iff_eq] at hm
     subst hm
     exact wpIn_exit ⟨s,hc,h⟩
   | _ => exact (Bool.false_ne_true hm).elim
 | .ret,cc,Q,s,a,w,hm,h,hc => by
   cases cc with
   | ret => exact wpIn_ret ⟨s,hc,h⟩
   | _ => exact (Bool.false_ne_true hm).elim
 | .opsS ..,_,_,_,_,_,_,h,_ => h.elim
 | .gown ..,_,_,_,_,_,_,h,_ => h.elim
 | .scope ..,_,_,_,_,_,_,h,_ => h.elim
 | .rangeF ..,_,_,_,_,_,_,h,_ => h.elim
 | .rsv ..,_,_,_,_,_,_,h,_ => h.elim
 | .bad,_,_,_,_,_,_,h,_ => h.elim
 | .cut ..,_,_,_,_,_,_,h,_ => h.elim
def EndI (m : Nat) : DExit -> SI -> Prop
 | .exit _,_ => False
 | _,s => s.2 = none \/ s.2 = some m
theorem z5b [Inhabited Env] (hJ : zlq J) {fn : Func} {s : SI} {tm : Array Value} {R : Ending -> World -> Prop}
   (h : ∀ w',CurI fn.ntmps J s { tmps := tm,defers := [] } w' -> ∃ v,(results fn tm).run P w' = .ok v w' /\ R (.returned v) w') :
   ∀ (ds : List Deferred) (w' : World),CurI fn.ntmps J s { tmps := tm,defers := ds } w' -> LeavesInM Fence.wide 0 P fn tm R ds .returning w'
 | [],w',hc => h w' hc
 | d :: ds,w',hc => by
   obtain ⟨F,B,K',σ,hK,hs,hf,hN,hmk,hB,hj⟩ := hc
   obtain ⟨⟨D,rfl,kD,fD,hD,k0,hni⟩,hrest⟩ := hmk
   refine ⟨by simp,.inl ⟨D,_,rfl,run_takeDeferred hD,z5b hJ h ds _ ?_⟩⟩
   have hBD : B D := Classical.byContradiction k0
   have hkeep : ∀ b,b ≠ D -> (w'.putObj D (.deferred none)).heap[b]? = w'.heap[b]? := fun b hb => World.putObj_heap_other hb
   obtain ⟨s1,m1⟩ := hs.turn (K' := K') (F' := F) (w' := w'.putObj D (.deferred none)) (by simp) (fun b hb => hkeep b fun e => fD (e ▸ hb)) (fun b _ hb => hkeep b fun e => hb (e ▸ kD)) (fun _ h => h) (fun _ h => .inl h) (fun _ h => .inl h)
     (fun b hb => by simpa using hs.fb b hb) (fun b hb => by simpa using hs.kb b hb)
   exact ⟨F,B,K',σ,fun b h1 h2 => hK b (by simpa using h1) h2,s1,fun n => (hf n).mono m1,hN,hrest.put hni,fun b hb => by simpa using hB b hb,
     hJ _ F B w' F B _ hj ⟨rfl,rfl,rfl,by simp,fun b _ hb => hkeep b fun e => hb (e ▸ hBD),fun b hb => hkeep b fun e => fD (e ▸ hb),fun _ h => h,fun _ h => .inl h,fun _ h => .inl h,fun b hb => by simpa using hs.fb b hb,fun b hb => by simpa using hB b hb⟩⟩
theorem z3d [Inhabited Env] (hC : C.ok P) {f : FuncId} {d : DFun} {caps : List DV} {xs : List (List DV)} (hm : mFun P f (caps.length + 1) d = true) (hres : d.res = [])
   (h : ∀ l,dwpI C l xs d.code (EndI xs.length) (⟨zn 0 (.yld l :: (zd3 caps).1),(zd3 caps).2⟩,some 0)) : zcj P f = true /\ z8q P f caps xs := by
 obtain ⟨hok,fn,c,hf,hb,hn,hc,hr⟩ := zh8 hm
 refine ⟨hok,fun l J F B σI W cv hJ hR hB hs hcv hj => ?_⟩
 rw [<- z4s caps] at hn
 have ha : All2 (VRep F σI (zd3 caps).2 W) (.yld l :: (zd3 caps).1) (#[Value.func (.yield l) #[] #[]] ++ cv).toList := by
   rw [Array.toList_append]
   exact .mk_cons (.imm (.yld l)) (by simpa using hcv)
 obtain ⟨K',F1,σ1,hKK,hs1,hf1,hN1,hd1,_,_⟩ := zj1 (nt := fn.ntmps) hs ha (by simpa using hn)
 have hcur : CurI fn.ntmps J (⟨zn 0 (.yld l :: (zd3 caps).1),(zd3 caps).2⟩,some 0) { tmps := (#[Value.func (.yield l) #[] #[]] ++ cv) ++ Array.replicate (fn.ntmps - (#[Value.func (.yield l) #[] #[]] ++ cv).size) undef,defers := [] } W := by
   refine ⟨F,B,_,σI,fun b h1 h2 => ⟨h1,h2⟩,hs,?_,hN1,trivial,hB,hj⟩
   have hx := zj1 (K := fun b => b < W.heap.size /\ ¬ B b) (nt := fn.ntmps) hs ha (by simpa using hn)
   exact zmb ha (by simpa using hn)
 refine callsIn_of_wp_marks (F := Fence.wide) (n := 0) hf hb trivial (wpIn_mono (show c.wpIn Fence.wide 0 P _ _ W from zb2 hC hJ hR d.code c _ _ _ W hc (h l) hcur) ?_)
 have key : ∀ (s : SI) (a : Act) (w' : World),CurI fn.ntmps J s a w' -> (s.2 = none \/ s.2 = some xs.length) -> LeavesInM Fence.wide 0 P fn a.tmps (fun e W' => (∃ v,e = .returned v) /\ ∃ F' B' k,J k F' B' W' /\ (k = none \/ k = some xs.length)) a.defers .returning w' := by
   rintro s ⟨tm,ds⟩ w' hx hq
   refine z5b hJ (fun w'' hc' => ?_) ds w' hx
   obtain ⟨F',B',K',σ,hK,hs',hf',hN',hmk,hB',hj'⟩ := hc'
   rw [hres] at hr
   obtain ⟨v,hv,_⟩ := zw0 (ys := []) hs' hf' hr trivial
   exact ⟨v,hv,⟨v,rfl⟩,F',B',s.2,hj',hq⟩
 intro e a w' hq
 cases e with
 | normal => obtain ⟨s,hc,h1⟩ := hq; exact key s a w' hc h1
 | ret => obtain ⟨s,hc,h1⟩ := hq; exact key s a w' hc h1
 | exit id => obtain ⟨s,hc,h0⟩ := hq; exact h0.elim
 | goto l => exact hq.elim
 | panic c => exact hq.elim
 | outgrown => exact hq.elim
def endB : DV -> Option Nat -> Nat -> Prop
 | .bool true,k,m => k = some m
 | .bool false,k,_ => k = none
 | _,_,_ => False
def EndW (rs : List DR) (m : Nat) : DExit -> SI -> Prop
 | .exit _,_ => False
 | _,s => (retV s.1 rs).1 /\ endB (retV s.1 rs).2 s.2 m
theorem ydh [Inhabited Env] (hC : C.ok P) {f : FuncId} {d : DFun} {args : List DV} {ys : List (List DV)} (hm : mFun P f args.length d = true)
   (h : ∀ l,dwpI C l ys d.code (EndW d.res ys.length) (⟨zn 0 (args.map (DV.reY l)),[]⟩,some 0)) : zcj P f = true /\ z9o P f args ys := by
 obtain ⟨hok,fn,c,hf,hb,hn,hc,hr⟩ := zh8 hm
 refine ⟨hok,fun l J K F B W cv hJ hR hB hK hs hcv hj => ?_⟩
 obtain ⟨J',hJe⟩ : ∃ J' : Option Nat -> (Nat -> Prop) -> (Nat -> Prop) -> World -> Prop,J' = fun k F1 B1 W1 => (∀ b,B1 b -> W.heap.size <= b) /\ (∀ c,F c -> F1 c) /\ (∀ c,F1 c -> F c \/ ¬ B c) /\ W.heap.size <= W1.heap.size /\
   (∀ c,F c -> W1.heap[c]? = W.heap[c]?) /\ (∀ c,B c -> W1.heap[c]? = W.heap[c]?) /\ J k F1 (fun b => B b \/ B1 b) W1 := ⟨_,rfl⟩
 have hJ' : zlq J' := by
   subst hJe
   rintro k F1 B1 W1 F2 B2 W2 ⟨g1,g2,g3,g4,g5,g6,g7⟩ st
   have gB : ∀ b,B b -> b < W1.heap.size /\ ¬ B1 b := fun b hb => ⟨Nat.lt_of_lt_of_le (hB b hb) g4,fun h => absurd (g1 b h) (by have := hB b hb; omega)⟩
   refine ⟨fun b hb => ?_,fun c hc => st.mono c (g2 c hc),fun c hc => ?_,Nat.le_trans g4 st.size,fun c hc => (st.keepF c (g2 c hc)).trans (g5 c hc),fun c hc => (st.heap c (gB c hc).1 (gB c hc).2).trans (g6 c hc),hJ _ _ _ _ _ _ _ g7 ?_⟩
   . rcases st.own b hb with h | h
     . exact g1 b h
     . omega
   . rcases st.new c hc with h | h | h
     . exact g3 c h
     . exact .inr fun hb => absurd (g1 c h) (by have := hB c hb; omega)
     . exact .inr fun hb => absurd (hB c hb) (by omega)
   . refine ⟨st.os,st.tape,st.output,st.size,fun b h1 h2 => st.heap b h1 fun h => h2 (.inr h),st.keepF,st.mono,fun b hb => ?_,fun b hb => ?_,st.fb,fun b hb => ?_⟩
     . rcases st.new b hb with h | h | h
       . exact .inl h
       . exact .inr (.inl (.inr h))
       . exact .inr (.inr h)
     . rcases hb with h | h
       . exact .inl (.inl h)
       . rcases st.own b h with h | h
         . exact .inl (.inr h)
         . exact .inr h
     . rcases hb with h | h
       . exact Nat.lt_of_lt_of_le (gB b h).1 st.size
       . exact st.bb b h
 have hR' : zmo P l ys J' := by
   subst hJe
   rintro k F1 B1 W1 x vs ⟨g1,g2,g3,g4,g5,g6,g7⟩ hfb hbb hx hv
   obtain ⟨fn,tm,asg,bd,hy,hro⟩ := hR k F1 _ W1 x vs g7 hfb (fun b hb => hb.elim (fun h => Nat.lt_of_lt_of_le (hB b h) g4) (hbb b)) hx hv
   refine ⟨fn,tm,asg,bd,hy,RoundIn.mono hro ?_⟩
   rintro e W' ⟨b,F',he,f1,f2,f3,f4,f5,f6,hj'⟩
   refine ⟨b,F',he,f1,fun c hc => (f2 c hc).imp id fun h hb => h (.inr hb),f3,f4,f5,fun c hc => f6 c (.inr hc),g1,fun c hc => f1 c (g2 c hc),fun c hc => ?_,Nat.le_trans g4 f4,fun c hc => (f5 c (g2 c hc)).trans (g5 c hc),fun c hc => (f6 c (.inl hc)).trans (g6 c hc),hj'⟩
   rcases f2 c hc with h | h
   . exact g3 c h
   . exact .inr fun hb => h (.inl hb)
 have h0 : J' (some 0) F (fun _ => False) W := by
   subst hJe
   exact ⟨fun b h => h.elim,fun _ h => h,fun _ h => .inl h,Nat.le_refl _,fun _ _ => rfl,fun _ _ => rfl,hJ _ _ _ _ _ _ _ hj ⟨rfl,rfl,rfl,Nat.le_refl _,fun _ _ _ => rfl,fun _ _ => rfl,fun _ h => h,fun _ h => .inl h,fun b h => h.elim .inl False.elim,hs.fb,fun b h => h.elim (hB b) False.elim⟩⟩
 have hlen : (args.map (DV.reY l)).length = args.length := List.length_map _
 have hcur : CurI fn.ntmps J' (⟨zn 0 (args.map (DV.reY l)),[]⟩,some 0) { tmps := cv ++ Array.replicate (fn.ntmps - cv.size) undef,defers := [] } W :=
   ⟨F,fun _ => False,K,ze2,fun b h1 _ => hK b h1,hs,zmb hcv (by rw [hlen]; exact hn),by have h1 := hcv.1; simp at h1; simp; omega,trivial,fun b h => h.elim,h0⟩
 refine callsIn_of_wp_marks (F := Fence.wide) (n := 0) hf hb trivial (wpIn_mono (show c.wpIn Fence.wide 0 P _ _ W from zb2 hC hJ' hR' d.code c _ _ _ W hc (h l) hcur) ?_)
 have key : ∀ (s : SI) (a : Act) (w' : World),CurI fn.ntmps J' s a w' -> ((retV s.1 d.res).1 /\ endB (retV s.1 d.res).2 s.2 ys.length) -> LeavesInM Fence.wide 0 P fn a.tmps (fun e W' => ∃ b F',e = .returned (.bool b) /\ (∀ c,F c -> F' c) /\ (∀ c,F' c -> F c \/ ¬ B c) /\ (∀ c,F' c -> c < W'.heap.size) /\ W.heap.size <= W'.heap.size /\
       (∀ c,F c -> W'.heap[c]? = W.heap[c]?) /\ (∀ c,B c -> W'.heap[c]? = W.heap[c]?) /\ J (if b then some ys.length else none) F' B W') a.defers .returning w' := by
   rintro s ⟨tm,ds⟩ w' hx hq
   refine z5b hJ' (fun w'' hc' => ?_) ds w' hx
   obtain ⟨F',B',K',σ,hK,hs',hf',hN',hmk,hB',hj'⟩ := hc'
   obtain ⟨v,hv,hrep⟩ := zw0 hs' hf' hr hq.1
   obtain ⟨b,hb1,hb2⟩ : ∃ b,(retV s.1 d.res).2 = .bool b /\ s.2 = if b then some ys.length else none := by
     have := hq.2
     generalize (retV s.1 d.res).2 = r at this |-
     cases r with
     | bool b => cases b <;> exact ⟨_,rfl,this⟩
     | _ => exact this.elim
   rw [hb1] at hrep
   have hvb := hrep.bool_inv
   subst hvb
   subst hJe
   obtain ⟨g1,g2,g3,g4,g5,g6,g7⟩ := hj'
   rw [hb2] at g7
   exact ⟨_,hv,b,F',rfl,g2,g3,hs'.fb,g4,g5,g6,hJ _ _ _ _ _ _ _ g7 ⟨rfl,rfl,rfl,Nat.le_refl _,fun _ _ _ => rfl,fun _ _ => rfl,fun _ h => h,fun _ h => .inl h,fun b h => .inl (.inl h),hs'.fb,fun b h => Nat.lt_of_lt_of_le (hB b h) g4⟩⟩
 intro e a w' hq
 cases e with
 | normal => obtain ⟨s,hc,h1⟩ := hq; exact key s a w' hc h1
 | ret => obtain ⟨s,hc,h1⟩ := hq; exact key s a w' hc h1
 | exit id => obtain ⟨s,hc,h0⟩ := hq; exact h0.elim
 | goto l => exact hq.elim
 | panic c => exact hq.elim
 | outgrown => exact hq.elim
theorem OkI.mk [Inhabited Env] {ps hs is} {f : FuncId} {s : List DV -> Prop × List (List DV)} {d : DFun} {n : Nat} (h1 : AllP P ps) (h2 : AllH P hs) (h3 : AllI P is) (hm : mFun P f (n + 1) d = true) (hres : d.res = [])
   (h : ∀ caps l,(s caps).1 -> caps.length = n /\ dwpI (Orc.ofI ps hs is) l (s caps).2 d.code (EndI (s caps).2.length) (⟨(0,.yld l) :: zn 1 (zd3 caps).1,(zd3 caps).2⟩,some 0)) : OkI P f s := by
 intro a ha
 have e := (h a 0 ha).1
 exact z3d (z86 h1 h2 h3) (by rw [e]; exact hm) hres fun l => (h a l ha).2
end
end Go.Nk
set_option linter.all false
namespace Go.Nk
section
variable {C : Orc} {l : Nat} {xs : List (List DV)} {Q : DExit -> SI -> Prop} {s : DS} {k : Option Nat}
theorem yf5 : dwpI C l xs .skip Q (s,k) = Q .normal (s,k) := rfl
theorem dwpI_ops {dl : List DOper} : dwpI C l xs (.ops false dl) Q (s,k) = zir C l xs dl (s,k) (Q .normal) := rfl
theorem ygm {dl : List DOper} : dwpI C l xs (.ops true dl) Q (s,k) = dops C dl s (fun s' => Q .normal (s',k)) := rfl
theorem yga {dl : List (Nat × DOper)} : dwpI C l xs (.opsP dl) Q (s,k) = dops C (dl.map (·.2)) s (fun s' => Q .normal (s',k)) := rfl
theorem dwpI_seq {a b : DCode} : dwpI C l xs (.seq a b) Q (s,k) = dwpI C l xs a (z18 (dwpI C l xs b Q) Q) (s,k) := rfl
theorem ybd {id : Nat} {c : DCode} : dwpI C l xs (.block id c) Q (s,k) = dwpI C l xs c (ziv id Q) (s,k) := rfl
theorem yg2 {id : Nat} : dwpI C l xs (.exit id) Q (s,k) = Q (.exit id) (s,k) := rfl
theorem dwpI_ret : dwpI C l xs .ret Q (s,k) = Q .ret (s,k) := rfl
theorem zxj {c : DA} {a b : DCode} {t : Bool} (h : c.ev s.fr = .bool t) : dwpI C l xs (.cond c a b) Q (s,k) = dwpI C l xs (if t then a else b) Q (s,k) := by
 simp only [dwpI,h]
 cases t <;> simp
theorem ybb {c : DA} {a b : DCode} (h : c.ev s.fr = .bool true) : dwpI C l xs (.cond c a b) Q (s,k) = dwpI C l xs a Q (s,k) := zxj h
theorem yad {c : DA} {a b : DCode} (h : c.ev s.fr = .bool false) : dwpI C l xs (.cond c a b) Q (s,k) = dwpI C l xs b Q (s,k) := zxj h
theorem yb2 {c : DA} {a b : DCode} {t : Bool} (h : c.ev s.fr = .bool t) (ht : t = true -> dwpI C l xs a Q (s,k)) (hf : t = false -> dwpI C l xs b Q (s,k)) : dwpI C l xs (.cond c a b) Q (s,k) := by
 rw [zxj h]
 cases t
 . exact hf rfl
 . exact ht rfl
theorem z2d {next : SI -> Prop} : z18 next Q .normal (s,k) = next (s,k) := rfl
theorem yao {next : SI -> Prop} {id : Nat} : z18 next Q (.exit id) (s,k) = Q (.exit id) (s,k) := rfl
theorem ygl {next : SI -> Prop} : z18 next Q .ret (s,k) = Q .ret (s,k) := rfl
theorem zva {id : Nat} : ziv id Q .normal (s,k) = Q .normal (s,k) := rfl
theorem z15 {id i : Nat} : ziv id Q (.exit i) (s,k) = if i = id then Q .normal (s,k) else Q (.exit i) (s,k) := rfl
theorem z2u {id : Nat} : ziv id Q .ret (s,k) = Q .ret (s,k) := rfl
theorem z48 {m : Nat} : EndI m .normal (s,k) = (k = none \/ k = some m) := rfl
theorem endI_ret {m : Nat} : EndI m .ret (s,k) = (k = none \/ k = some m) := rfl
theorem yem {m id : Nat} : EndI m (.exit id) (s,k) = False := rfl
theorem yg9 {K : SI -> Prop} : zir C l xs [] (s,k) K = K (s,k) := rfl
theorem ybx {dst : Option Nat} {op : DOp} {r : List DOper} {K : SI -> Prop} : zir C l xs (⟨dst,op,none⟩ :: r) (s,k) K = zl8 C l xs dst op (s,k) (fun s' => zir C l xs r s' K) := rfl
theorem z7h {dst : Option Nat} {op : DOp} {g : Nat} {b : Bool} {r : List DOper} {K : SI -> Prop} (h : get g s.fr = .bool b) :
   zir C l xs (⟨dst,op,some (g,b)⟩ :: r) (s,k) K = zl8 C l xs dst op (s,k) (fun s' => zir C l xs r s' K) := by
 simp only [zir,zu8,h,if_true]
theorem z6t {dst : Option Nat} {op : DOp} {g : Nat} {b : Bool} {r : List DOper} {K : SI -> Prop} (h : get g s.fr = .bool (!b)) :
   zir C l xs (⟨dst,op,some (g,b)⟩ :: r) (s,k) K = zir C l xs r (s.put dst ⟨True,.tup [],s.hp⟩,k) K := by
 simp only [zir,zu8,h]
 cases b <;> simp
theorem z43 {dst : Option Nat} {op : DOp} {g : Nat} {b : Bool} {r : List DOper} {K : SI -> Prop} (h : get g s.fr = .tup []) :
   zir C l xs (⟨dst,op,some (g,b)⟩ :: r) (s,k) K = zir C l xs r (s.put dst ⟨True,.tup [],s.hp⟩,k) K := by
 simp only [zir,zu8,h]
def zlc : DOp -> Bool
 | .callvP .. => false
 | .callW .. => false
 | _ => true
theorem ydv {dst : Option Nat} {op : DOp} {K : SI -> Prop} (h : (zlc op && true) = true) : zl8 C l xs dst op (s,k) K = ((zb C op s).pre /\ K (s.put dst (zb C op s),k)) := by
 have e : zjs l s.fr op = none := by cases op <;> first | rfl | simp [zlc] at h
 cases op <;> first | (simp only [zl8,e]; done) | (simp [zlc] at h; done)
theorem z5a {dst : Option Nat} {f : FuncId} {args : List DA} {n : Nat} {K : SI -> Prop} :
   zl8 C l xs dst (.callW f args) (s,some n) K = ((C.w f ((args.map (·.ev s.fr)).map DV.unY)).1 /\ (args.map (·.ev s.fr)).all (zuy l) = true /\
     (∀ i y,(C.w f ((args.map (·.ev s.fr)).map DV.unY)).2[i]? = some y -> xs[n + i]? = some y) /\
     K (s.put dst ⟨True,.bool true,s.hp⟩,some (n + (C.w f ((args.map (·.ev s.fr)).map DV.unY)).2.length)) /\ K (s.put dst ⟨True,.bool false,s.hp⟩,none)) := by
 have e : zjs l s.fr (.callW f args) = none := rfl
 simp only [zl8,e,Option.some.injEq,exists_eq_left']
theorem yeo {dst : Option Nat} {g : DA} {args : List DA} {n : Nat} {K : SI -> Prop} (h : g.ev s.fr = .yld l) :
   zl8 C l xs dst (.callvP g args) (s,some n) K = (xs[n]? = some (args.map (·.ev s.fr)) /\ (args.map (·.ev s.fr)).all immV = true /\ K (s.put dst ⟨True,.bool true,s.hp⟩,some (n + 1)) /\ K (s.put dst ⟨True,.bool false,s.hp⟩,none)) := by
 have e : zjs l s.fr (.callvP g args) = some (args.map (·.ev s.fr)) := by simp [zjs,h]
 simp only [zl8,e,Option.some.injEq,exists_eq_left']
theorem zv2 {C : Orc} {l : Nat} {xs : List (List DV)} : ∀ (c : DCode) (Q Q' : DExit -> SI -> Prop) (s : SI),(∀ e s,Q e s -> Q' e s) -> dwpI C l xs c Q s -> dwpI C l xs c Q' s := by
 have hd : ∀ (l : List DOper) (s : DS) (K K' : DS -> Prop),(∀ s,K s -> K' s) -> dops C l s K -> dops C l s K' := fun l s K K' h hk => ze0 (h0 := 0) (.ops false l) (fun _ => K) (fun _ => K') s (fun _ => h) hk
 have hr : ∀ (dst : Option Nat) (op : DOp) (s : SI) (K K' : SI -> Prop),(∀ s,K s -> K' s) -> zl8 C l xs dst op s K -> zl8 C l xs dst op s K' := by
   intro dst op s K K' h hk
   unfold zl8 at hk |-
   split at hk
   . obtain ⟨n,h1,h2,h3,h4,h5⟩ := hk; exact ⟨n,h1,h2,h3,h _ h4,h _ h5⟩
   . cases op with
     | callW f args => obtain ⟨n,h1,h2,h3,h4,h5,h6⟩ := hk; exact ⟨n,h1,h2,h3,h4,h _ h5,h _ h6⟩
     | _ => exact ⟨hk.1,h _ hk.2⟩
 have hdI : ∀ (dl : List DOper) (s : SI) (K K' : SI -> Prop),(∀ s,K s -> K' s) -> zir C l xs dl s K -> zir C l xs dl s K' := by
   intro dl
   induction dl with
   | nil => intro s K K' h hk; exact h _ hk
   | cons o r ih =>
     intro s K K' h hk
     unfold zir zu8 at hk |-
     split at hk
     . exact hr _ _ _ _ _ (fun s => ih s _ _ h) hk
     . split at hk
       . split at hk
         . rename_i e; rw [if_pos e]; exact hr _ _ _ _ _ (fun s => ih s _ _ h) hk
         . rename_i e; rw [if_neg e]; exact ih _ _ _ h hk
       . exact ih _ _ _ h hk
       . exact hk.elim
 intro c
 induction c with
 | skip => intro Q Q' s h hq; exact h _ _ hq
 | ops d dl => intro Q Q' s h hq; cases d with
   | false => exact hdI dl s _ _ (h .normal) hq
   | true => exact hd dl s.1 _ _ (fun s' => h .normal (s',s.2)) hq
 | opsP dl => intro Q Q' s h hq; exact hd _ s.1 _ _ (fun s' => h .normal (s',s.2)) hq
 | seq a b iha ihb =>
   intro Q Q' s h hq
   refine iha _ _ s (fun e s' hh => ?_) hq
   cases e with
   | normal => exact ihb _ _ s' h hh
   | exit id => exact h _ _ hh
   | ret => exact h _ _ hh
 | cond x a b iha ihb =>
   intro Q Q' s h hq
   unfold dwpI at hq |-
   split at hq
   . exact ⟨fun e => iha _ _ s h (hq.1 e),fun e => ihb _ _ s h (hq.2 e)⟩
   . exact ⟨iha _ _ s h hq.1,ihb _ _ s h hq.2⟩
   . exact hq.elim
 | block id c ih =>
   intro Q Q' s h hq
   refine ih _ _ s (fun e s' hh => ?_) hq
   cases e with
   | normal => exact h _ _ hh
   | exit k =>
     simp only [ziv] at hh |-
     split at hh
     . rename_i e; rw [if_pos e]; exact h _ _ hh
     . rename_i e; rw [if_neg e]; exact h _ _ hh
   | ret => exact h _ _ hh
 | loop live m c ih =>
   intro Q Q' s h hq
   obtain ⟨I,μ,h2,h3⟩ := hq
   refine ⟨I,μ,h2,fun s' hs' => ih _ _ s' (fun e s'' hh => ?_) (h3 s' hs')⟩
   cases e with
   | normal => exact hh
   | exit id => exact h _ _ hh
   | ret => exact h _ _ hh
 | exit id => intro Q Q' s h hq; exact h _ _ hq
 | ret => intro Q Q' s h hq; exact h _ _ hq
 | opsS seps dl => intro Q Q' s h hq; exact hq.elim
 | gown t off z c ih => intro Q Q' s h hq; exact hq.elim
 | scope c ih => intro Q Q' s h hq; exact hq
 | rangeF live m g ps asg c ihA ih => intro Q Q' s h hq; exact hq.elim
 | rsv c ih => intro Q Q' s h hq; exact hq.elim
 | bad => intro Q Q' s h hq; exact hq.elim
 | cut live m c ih => intro Q Q' s h hq; exact hq.elim
theorem yd9 {live : List Nat} {m : Option Nat} {c : DCode} {α : Type} (st : α -> SI) (Inv : α -> Prop) (μ : α -> Nat) (a0 : α)
   (hs : (s.cut live m,k) = st a0) (hi : Inv a0)
   (step : ∀ a,Inv a -> dwpI C l xs c (z18 (fun s' => ∃ a',(s'.1.cut live m,s'.2) = st a' /\ Inv a' /\ μ a' < μ a) Q) (st a)) : dwpI C l xs (.loop live m c) Q (s,k) := by
 classical
 let has : SI -> Nat -> Prop := fun s n => ∃ a,s = st a /\ Inv a /\ μ a = n
 have hleast : ∀ s : SI,∃ k,(∃ n,has s n) -> has s k /\ ∀ m,has s m -> k <= m := by
   intro s
   by_cases hx : ∃ n,has s n
   . obtain ⟨n,hn⟩ := hx
     induction n using Nat.strongRecOn with
     | _ n ih =>
       by_cases hy : ∃ m,m < n /\ has s m
       . obtain ⟨m,h1,h2⟩ := hy
         exact ih m h1 h2
       . exact ⟨n,fun _ => ⟨hn,fun m hm => by
           rcases Nat.lt_or_ge m n with h | h
           . exact absurd ⟨m,h,hm⟩ hy
           . exact h⟩⟩
   . exact ⟨0,fun h => absurd h hx⟩
 obtain ⟨least,hleast⟩ := Classical.axiomOfChoice hleast
 refine ⟨fun s => ∃ n,has s n,least,⟨μ a0,a0,hs,hi,rfl⟩,fun s' hs' => ?_⟩
 have hl : has s' (least s') := (hleast s' hs').1
 obtain ⟨a,rfl,h1,h2⟩ := hl
 refine zv2 c _ _ _ (fun e s'' hh => ?_) (step a h1)
 cases e with
 | normal =>
   obtain ⟨a',e1,e2,e3⟩ := hh
   have hx : ∃ n,has (s''.1.cut live m,s''.2) n := ⟨μ a',a',e1,e2,rfl⟩
   refine ⟨hx,?_⟩
   have : least (s''.1.cut live m,s''.2) <= μ a' := (hleast _ hx).2 _ ⟨a',e1,e2,rfl⟩
   omega
 | exit id => exact hh
 | ret => exact hh
theorem zot {live : List Nat} {m : Option Nat} {c : DCode} {α σ : Type} (li : List α) (st : Nat -> σ -> SI) (R : Nat -> List α -> σ -> Prop) (a0 : σ)
   (hs : (s.cut live m,k) = st 0 a0) (hi : R 0 li a0)
   (step : ∀ k x r a,k < li.length -> li[k]? = some x -> li.drop k = x :: r -> R k (x :: r) a -> dwpI C l xs c (z18 (fun s' => ∃ a',(s'.1.cut live m,s'.2) = st (k + 1) a' /\ R (k + 1) r a') Q) (st k a))
   (last : ∀ k a,k = li.length -> R k [] a -> dwpI C l xs c (z18 (fun _ => False) Q) (st k a)) : dwpI C l xs (.loop live m c) Q (s,k) := by
 refine yd9 (fun x : Nat × σ => st x.1 x.2) (fun x => x.1 <= li.length /\ R x.1 (li.drop x.1) x.2) (fun x => li.length - x.1) (0,a0) hs ⟨Nat.zero_le _,hi⟩ fun x hx => ?_
 obtain ⟨k,a⟩ := x
 obtain ⟨hk,hr⟩ := hx
 simp only at hk hr |-
 by_cases d : k < li.length
 . obtain ⟨x,e1,e2⟩ := yfl li d
   rw [e2] at hr
   refine zv2 c _ _ _ (fun e s' hh => ?_) (step k x _ a d e1 e2 hr)
   cases e with
   | normal =>
     obtain ⟨a',h1,h2⟩ := hh
     exact ⟨(k + 1,a'),h1,⟨d,h2⟩,by simp only; omega⟩
   | exit id => exact hh
   | ret => exact hh
 . have e : k = li.length := by omega
   rw [e,List.drop_length,<- e] at hr
   refine zv2 c _ _ _ (fun e s' hh => ?_) (last k a e hr)
   cases e with
   | normal => exact hh.elim
   | exit id => exact hh
   | ret => exact hh
end
section
variable {C : Orc} {h0 : Nat} {Q : DExit -> DS -> Prop} {s : DS}
theorem z3b {live : List Nat} {m : Option Nat} {g : DA} {ps : List Nat} {asg c : DCode} {f : FuncId} {caps : List DV} {ys : List (List DV)} {α σ : Type} (xs : List α) (enc : α -> List DV) (hpO : Nat -> σ -> List DObj) (R : Nat -> List α -> σ -> Prop) (a0 : σ) (fr0 : List (Nat × DV))
   (hm : match m with | some k => h0 <= k | none => True) (hg : g.ev s.fr = .clo f caps) (hc : caps.all DV.immB = true) (hi : C.i f caps = (True,ys)) (hys : ys = xs.map enc)
   (hs : s.cut live m = ⟨fr0,hpO 0 a0⟩) (h0' : R 0 xs a0)
   (step : ∀ k x r a,xs[k]? = some x -> xs.drop k = x :: r -> R k (x :: r) a -> (enc x).length = ps.length /\
     dwp C (hpO k a).length asg (DExit.only fun s1 => dwp C s1.hp.length c (DExit.then (fun s' => ∃ a',(s'.cut [] m).hp = hpO (k + 1) a' /\ R (k + 1) r a') (fun e s' => Q e ⟨fr0,s'.hp⟩)) s1) ⟨ps.zip (enc x) ++ fr0,hpO k a⟩)
   (last : ∀ k a,k = xs.length -> R k [] a -> Q .normal ⟨fr0,hpO k a⟩) : dwp C h0 (.rangeF live m g ps asg c) Q s := by
 subst hys
 refine ⟨hm,?_⟩
 simp only [hg,zzc _ _ hc,hi,true_and,hs]
 refine ⟨fun k hp => k <= xs.length /\ ∃ a,hp = hpO k a /\ R k (xs.drop k) a,⟨Nat.zero_le _,a0,rfl,h0'⟩,?_,?_⟩
 . rintro k y hp ⟨hk,a,rfl,hr⟩ hy
   rw [List.getElem?_map] at hy
   cases hx : xs[k]? with
   | none => simp [hx] at hy
   | some x =>
     simp only [hx,Option.map_some,Option.some.injEq] at hy
     subst hy
     have hlt : k < xs.length := (List.getElem?_eq_some_iff.1 hx).1
     have e2 : xs.drop k = x :: xs.drop (k + 1) := by
       rw [List.drop_eq_getElem_cons hlt,(List.getElem?_eq_some_iff.1 hx).2]
     rw [e2] at hr
     obtain ⟨h1,h2⟩ := step k x _ a hx e2 hr
     refine ⟨h1,ze0 asg _ _ _ (fun e s1 hA => ?_) h2⟩
     cases e with
     | exit id => exact hA
     | ret => exact hA
     | normal =>
     refine ze0 c _ _ _ (fun e s' hh => ?_) hA
     cases e with
     | normal => obtain ⟨a',h3,h4⟩ := hh; exact ⟨hlt,a',h3,h4⟩
     | exit id => exact hh
     | ret => exact hh
 . rintro hp ⟨_,a,rfl,hr⟩
   rw [List.length_map] at hr |-
   rw [List.drop_length] at hr
   exact last _ a rfl hr
theorem yap {live : List Nat} {m : Option Nat} {g : DA} {ps : List Nat} {asg c : DCode} {f : FuncId} {caps caps' : List DV} {ys : List (List DV)} {α σ : Type} (xs : List α) (enc : α -> List DV) (hpO : Nat -> σ -> List DObj) (R : Nat -> List α -> σ -> Prop) (a0 : σ) (fr0 : List (Nat × DV))
   (hm : match m with | some k => h0 <= k | none => True) (hg : g.ev s.fr = .clo f caps) (hfr : (s.cut live m).fr = fr0) (hc1 : (zbm (s.cut live m).hp caps).1) (hc2 : (zbm (s.cut live m).hp caps).2.1 = caps') (hi : C.i f caps' = (True,ys)) (hys : ys = xs.map enc)
   (hs : (zbm (s.cut live m).hp caps).2.2 = hpO 0 a0) (h0' : R 0 xs a0)
   (step : ∀ k x r a,xs[k]? = some x -> xs.drop k = x :: r -> R k (x :: r) a -> (enc x).length = ps.length /\
     dwp C (hpO k a).length asg (DExit.only fun s1 => dwp C s1.hp.length c (DExit.then (fun s' => ∃ a',(s'.cut [] m).hp = hpO (k + 1) a' /\ R (k + 1) r a') (fun e s' => Q e ⟨fr0,s'.hp⟩)) s1) ⟨ps.zip (enc x) ++ fr0,hpO k a⟩)
   (last : ∀ k a,k = xs.length -> R k [] a -> Q .normal ⟨fr0,hpO k a⟩) : dwp C h0 (.rangeF live m g ps asg c) Q s := by
 subst hys
 refine ⟨hm,?_⟩
 simp only [hg,hc2,hi,true_and,hs,hfr]
 refine ⟨hc1,fun k hp => k <= xs.length /\ ∃ a,hp = hpO k a /\ R k (xs.drop k) a,⟨Nat.zero_le _,a0,rfl,h0'⟩,?_,?_⟩
 . rintro k y hp ⟨hk,a,rfl,hr⟩ hy
   rw [List.getElem?_map] at hy
   cases hx : xs[k]? with
   | none => simp [hx] at hy
   | some x =>
     simp only [hx,Option.map_some,Option.some.injEq] at hy
     subst hy
     have hlt : k < xs.length := (List.getElem?_eq_some_iff.1 hx).1
     have e2 : xs.drop k = x :: xs.drop (k + 1) := by
       rw [List.drop_eq_getElem_cons hlt,(List.getElem?_eq_some_iff.1 hx).2]
     rw [e2] at hr
     obtain ⟨h1,h2⟩ := step k x _ a hx e2 hr
     refine ⟨h1,ze0 asg _ _ _ (fun e s1 hA => ?_) h2⟩
     cases e with
     | exit id => exact hA
     | ret => exact hA
     | normal =>
     refine ze0 c _ _ _ (fun e s' hh => ?_) hA
     cases e with
     | normal => obtain ⟨a',h3,h4⟩ := hh; exact ⟨hlt,a',h3,h4⟩
     | exit id => exact hh
     | ret => exact hh
 . rintro hp ⟨_,a,rfl,hr⟩
   rw [List.length_map] at hr |-
   rw [List.drop_length] at hr
   exact last _ a rfl hr
theorem zff {next : DS -> Prop} : DExit.only next .normal s = next s := rfl
theorem OkP.mk2I [Inhabited Env] {P : Program} {ps hs is} {g : FuncId} {d : DFun} {α β : Type} {e : α -> DV} {e' : β -> DV} {f : α -> β -> Prop × DV} (h1 : AllP P ps) (h2 : AllH P hs) (h3 : AllI P is) (hm : mFun P g 2 d = true)
   (k : ∀ a b,(f a b).1 -> dwp (Orc.ofI ps hs is) 0 d.code (EndP d.res (f a b).2) ⟨zn 0 [e a,e' b],[]⟩) : OkP P g (zbw e e' f) := by
 intro l hp
 unfold zbw at hp |-
 split at hp
 . rename_i h
   rw [dif_pos h]
   have hx := h.choose_spec
   have := k _ _ hp
   generalize h.choose = a at *
   subst hx
   exact ztz (z86 h1 h2 h3) hm this
 . exact hp.elim
open Classical in
noncomputable def zjz {α : Type} (args : α -> List DV) (f : α -> Prop × List (List DV)) : List DV -> Prop × List (List DV) := fun l =>
 if h : ∃ a,l = args a then f h.choose else (False,[])
theorem ztj {α : Type} {args : α -> List DV} (h : InjL args) (f : α -> Prop × List (List DV)) (a : α) : zjz args f (args a) = f a := by
 unfold zjz
 have hx : ∃ b,args a = args b := ⟨a,rfl⟩
 rw [dif_pos hx]
 have hy := hx.choose_spec
 generalize hx.choose = x at hy |-
 rw [h _ _ hy]
theorem OkI.mkA [Inhabited Env] {P : Program} {ps hs is} {f : FuncId} {d : DFun} {n : Nat} {α : Type} {args : α -> List DV} {s : α -> Prop × List (List DV)} (h1 : AllP P ps) (h2 : AllH P hs) (h3 : AllI P is) (hm : mFun P f (n + 1) d = true) (hres : d.res = [])
   (hN : ∀ a,(args a).length = n) (k : ∀ a l,(s a).1 -> dwpI (Orc.ofI ps hs is) l (s a).2 d.code (EndI (s a).2.length) (⟨(0,.yld l) :: zn 1 (args a),[]⟩,some 0)) (hA : ∀ a,(args a).all DV.immB = true := by exact fun _ => rfl) : OkI P f (zjz args s) := by
 refine OkI.mk h1 h2 h3 hm hres fun caps l hp => ?_
 unfold zjz at hp |-
 split at hp
 . rename_i h
   rw [dif_pos h]
   have hx := h.choose_spec
   have := k _ l hp
   have hAA := hA h.choose
   generalize h.choose = a at *
   subst hx
   rw [zvr _ hAA]
   exact ⟨hN a,this⟩
 . exact hp.elim
theorem OkI.mkB [Inhabited Env] {P : Program} {ps hs is} {f : FuncId} {d : DFun} {n : Nat} {α : Type} {args : α -> List DV} {s : α -> Prop × List (List DV)} (h1 : AllP P ps) (h2 : AllH P hs) (h3 : AllI P is) (hm : mFun P f (n + 1) d = true) (hres : d.res = [])
   (hN : ∀ a,(args a).length = n) (k : ∀ a l,(s a).1 -> dwpI (Orc.ofI ps hs is) l (s a).2 d.code (EndI (s a).2.length) (⟨(0,.yld l) :: zn 1 (zd3 (args a)).1,(zd3 (args a)).2⟩,some 0)) : OkI P f (zjz args s) := by
 refine OkI.mk h1 h2 h3 hm hres fun caps l hp => ?_
 unfold zjz at hp |-
 split at hp
 . rename_i h
   rw [dif_pos h]
   have hx := h.choose_spec
   have := k _ l hp
   generalize h.choose = a at *
   subst hx
   exact ⟨hN a,this⟩
 . exact hp.elim
theorem OkW.mkA [Inhabited Env] {P : Program} {ps hs is ws} {f : FuncId} {d : DFun} {n : Nat} {α : Type} {args : α -> List DV} {s : α -> Prop × List (List DV)} (h1 : AllP P ps) (h2 : AllH P hs) (h3 : AllI P is) (h4 : AllW P ws) (hm : mFun P f n d = true)
   (hN : ∀ a,(args a).length = n) (k : ∀ a l,(s a).1 -> dwpI (Orc.ofW ps hs is ws) l (s a).2 d.code (EndW d.res (s a).2.length) (⟨zn 0 ((args a).map (DV.reY l)),[]⟩,some 0)) : OkW P f (zjz args s) := by
 intro l hp
 unfold zjz at hp |-
 split at hp
 . rename_i h
   rw [dif_pos h]
   have hx := h.choose_spec
   have := fun l => k _ l hp
   generalize h.choose = a at *
   subst hx
   exact ydh (ydk h1 h2 h3 h4) (by rw [hN a]; exact hm) this
 . exact hp.elim
theorem OkI.mkW [Inhabited Env] {P : Program} {ps hs is ws} {f : FuncId} {d : DFun} {n : Nat} {α : Type} {args : α -> List DV} {s : α -> Prop × List (List DV)} (h1 : AllP P ps) (h2 : AllH P hs) (h3 : AllI P is) (h4 : AllW P ws) (hm : mFun P f (n + 1) d = true) (hres : d.res = [])
   (hN : ∀ a,(args a).length = n) (k : ∀ a l,(s a).1 -> dwpI (Orc.ofW ps hs is ws) l (s a).2 d.code (EndI (s a).2.length) (⟨(0,.yld l) :: zn 1 (args a),[]⟩,some 0)) (hA : ∀ a,(args a).all DV.immB = true := by exact fun _ => rfl) : OkI P f (zjz args s) := by
 intro l hp
 unfold zjz at hp |-
 split at hp
 . rename_i h
   rw [dif_pos h]
   have hx := h.choose_spec
   have := fun l => k _ l hp
   have hAA := hA h.choose
   generalize h.choose = a at *
   subst hx
   refine z3d (ydk h1 h2 h3 h4) (by rw [hN a]; exact hm) hres fun l => ?_
   rw [zvr _ hAA]
   exact this l
 . exact hp.elim
theorem z6w {rs : List DR} {m : Nat} {s : DS} {k : Option Nat} : EndW rs m .normal (s,k) = ((retV s rs).1 /\ endB (retV s rs).2 k m) := rfl
theorem endW_ret {rs : List DR} {m : Nat} {s : DS} {k : Option Nat} : EndW rs m .ret (s,k) = ((retV s rs).1 /\ endB (retV s rs).2 k m) := rfl
theorem yfp {rs : List DR} {m id : Nat} {s : DS} {k : Option Nat} : EndW rs m (.exit id) (s,k) = False := rfl
theorem ofW_w (ps hs is ws) (f : FuncId) (a : List DV) : (Orc.ofW ps hs is ws).w f a = iOf ws f a := rfl
def lim (N : Nat) (s : List DV -> Prop × DV) : List DV -> Prop × DV := fun a => ((s a).1 /\ szL a < N,(s a).2)
theorem zfn (N : Nat) (s : List DV -> Prop × DV) (a : List DV) : lim N s a = ((s a).1 /\ szL a < N,(s a).2) := rfl
theorem OkP.rec [Inhabited Env] {P : Program} {f : FuncId} {s : List DV -> Prop × DV} (h : ∀ N,OkP P f (lim N s) -> OkP P f (lim (N + 1) s)) : OkP P f s := by
 have key : ∀ N,OkP P f (lim N s) := by
   intro N
   induction N with
   | zero => exact fun a ha => absurd ha.2 (Nat.not_lt_zero _)
   | succ N ih => exact h N ih
 exact fun a ha => key (szL a + 1) a ⟨ha,Nat.lt_succ_self _⟩
theorem zv7 {α : Type} {e : α -> DV} (N : Nat) (f : α -> Prop × DV) : lim N (zbp e f) = zbp e fun x => ((f x).1 /\ szL [e x] < N,(f x).2) := by
 funext a
 unfold lim zbp
 split
 . rename_i h
   have hx := h.choose_spec
   generalize h.choose = x at hx |-
   rw [hx]
 . simp
theorem zve {α β : Type} {e : α -> DV} {e' : β -> DV} (N : Nat) (f : α -> β -> Prop × DV) : lim N (zbw e e' f) = zbw e e' fun x y => ((f x y).1 /\ szL [e x,e' y] < N,(f x y).2) := by
 funext a
 unfold lim zbw
 split
 . rename_i h
   have hx := h.choose_spec
   generalize h.choose = x at hx |-
   rw [hx]
 . simp
theorem yej {α β γ δ : Type} {e : α -> DV} {e' : β -> DV} {e'' : γ -> DV} {e3 : δ -> DV} (N : Nat) (f : α -> β -> γ -> δ -> Prop × DV) : lim N (zxn e e' e'' e3 f) = zxn e e' e'' e3 fun x y z u => ((f x y z u).1 /\ szL [e x,e' y,e'' z,e3 u] < N,(f x y z u).2) := by
 funext a
 unfold lim zxn
 split
 . rename_i h
   have hx := h.choose_spec
   generalize h.choose = x at hx |-
   rw [hx]
 . simp
def limI (N : Nat) (s : List DV -> Prop × List (List DV)) : List DV -> Prop × List (List DV) := fun a => ((s a).1 /\ szL a < N,(s a).2)
theorem limI_at (N : Nat) (s : List DV -> Prop × List (List DV)) (a : List DV) : limI N s a = ((s a).1 /\ szL a < N,(s a).2) := rfl
theorem OkW.rec [Inhabited Env] {P : Program} {f : FuncId} {s : List DV -> Prop × List (List DV)} (h : ∀ N,OkW P f (limI N s) -> OkW P f (limI (N + 1) s)) : OkW P f s := by
 have key : ∀ N,OkW P f (limI N s) := by
   intro N
   induction N with
   | zero => exact fun a ha => absurd ha.2 (Nat.not_lt_zero _)
   | succ N ih => exact h N ih
 exact fun a ha => key (szL a + 1) a ⟨ha,Nat.lt_succ_self _⟩
theorem yb1 {α : Type} {args : α -> List DV} (N : Nat) (f : α -> Prop × List (List DV)) : limI N (zjz args f) = zjz args fun x => ((f x).1 /\ szL (args x) < N,(f x).2) := by
 funext a
 unfold limI zjz
 split
 . rename_i h
   have hx := h.choose_spec
   generalize h.choose = x at hx |-
   rw [hx]
 . simp
def limH (N : Nat) (s : List DV -> List DObj -> Res) : List DV -> List DObj -> Res := fun a hp => ⟨(s a hp).pre /\ szL a < N,(s a hp).val,(s a hp).hp⟩
theorem limH_at (N : Nat) (s : List DV -> List DObj -> Res) (a : List DV) (hp : List DObj) : limH N s a hp = ⟨(s a hp).pre /\ szL a < N,(s a hp).val,(s a hp).hp⟩ := rfl
theorem OkH.rec [Inhabited Env] {P : Program} {f : FuncId} {s : List DV -> List DObj -> Res} (h : ∀ N,OkH P f (limH N s) -> OkH P f (limH (N + 1) s)) : OkH P f s := by
 have key : ∀ N,OkH P f (limH N s) := by
   intro N
   induction N with
   | zero => exact fun a hp ha => absurd ha.2 (Nat.not_lt_zero _)
   | succ N ih => exact h N ih
 exact fun a hp ha => key (szL a + 1) a hp ⟨ha,Nat.lt_succ_self _⟩
theorem zsx (ps hs is) (f : FuncId) (a : List DV) : (Orc.ofI ps hs is).p f a = pOf ps f a := rfl
theorem ofI_h (ps hs is) (f : FuncId) (a : List DV) (hp : List DObj) : (Orc.ofI ps hs is).h f a hp = hOf hs f a hp := rfl
theorem ofI_i (ps hs is) (f : FuncId) (a : List DV) : (Orc.ofI ps hs is).i f a = iOf is f a := rfl
theorem ztq (f : FuncId) (s : List DV -> Prop × List (List DV)) (r) (g : FuncId) (a : List DV) : iOf ((f,s) :: r) g a = if g = f then s a else iOf r g a := rfl
end
def rI := And.intro @yf5 (And.intro @dwpI_ops (And.intro @ygm (And.intro @yga (And.intro @dwpI_seq (And.intro @ybd (And.intro @yg2 (And.intro @dwpI_ret (And.intro @ybb (And.intro @yad (And.intro @z2d (And.intro @yao (And.intro @ygl (And.intro @zva (And.intro @z15 (And.intro @z2u (And.intro @z48 (And.intro @endI_ret (And.intro @yem (And.intro @yg9 (And.intro @ybx (And.intro @z7h (And.intro @z6t (And.intro @z43 (And.intro @ydv (And.intro @yeo (And.intro @z5a (And.intro @z6w (And.intro @endW_ret @yfp))))))))))))))))))))))))))))
end Go.Nk
set_option linter.all false
namespace Go.Nk
theorem OkP.mk3I [Inhabited Env] {P : Program} {ps hs is} {g : FuncId} {d : DFun} {α β γ : Type} {e : α -> DV} {e' : β -> DV} {e'' : γ -> DV} {f : α -> β -> γ -> Prop × DV} (h1 : AllP P ps) (h2 : AllH P hs) (h3 : AllI P is) (hm : mFun P g 3 d = true)
   (k : ∀ a b c,(f a b c).1 -> dwp (Orc.ofI ps hs is) 0 d.code (EndP d.res (f a b c).2) ⟨zn 0 [e a,e' b,e'' c],[]⟩) : OkP P g (zec e e' e'' f) := by
 intro l hp
 unfold zec at hp |-
 split at hp
 . rename_i h
   rw [dif_pos h]
   have hx := h.choose_spec
   have := k _ _ _ hp
   generalize h.choose = a at *
   subst hx
   exact ztz (z86 h1 h2 h3) hm this
 . exact hp.elim
end Go.Nk
