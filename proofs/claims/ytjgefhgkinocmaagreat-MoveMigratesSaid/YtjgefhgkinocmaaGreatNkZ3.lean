/- Functions: a contract from what the data level shows of the body. -/
import Derived.Test.YtjgefhgkinocmaaGreatNkT
import Derived.Below
import Derived.ChangeSame
import Derived.ChangeReads
import Derived.ChangeArms
import Derived.Deep.Slices
import Derived.OpenShut
import Derived.Handed
import Derived.JoinedCond
import Derived.Calls
import Derived.Laws.BitsAllLaws
import Derived.Laws.Bits64
set_option linter.all false
namespace Go.Nk
noncomputable section
open Go.RowKit
inductive DR where
 | t (n : Nat)
 | cell (n : Nat) (sz : Option Nat)
def DR.val (s : DS) : DR -> Prop × DV
 | .t n => (True,get n s.fr)
 | .cell n sz => zh sz (za s.hp (get n s.fr))
def retL (s : DS) : List DR -> Prop × List DV
 | [] => (True,[])
 | r :: rs => ((r.val s).1 /\ (retL s rs).1,(r.val s).2 :: (retL s rs).2)
def retV (s : DS) : List DR -> Prop × DV
 | [r] => r.val s
 | rs => ((retL s rs).1,.tup (retL s rs).2)
def mRes1 (P : Program) : ResultVar -> DR -> Bool
 | .tmp t,.t n => t == n
 | .cell a t,.cell n sz => a == n && decide (szOf P t = some sz)
 | _,_ => false
def mRes (P : Program) : List ResultVar -> List DR -> Bool
 | [],[] => true
 | x :: xs,y :: ys => mRes1 P x y && mRes P xs ys
 | _,_ => false
def zn : Nat -> List DV -> List (Nat × DV)
 | _,[] => []
 | n,d :: r => (n,d) :: zn (n + 1) r
def fzT (hp : List DObj) : DV -> Res
 | .tup vs => let x := fzVs hp vs; ⟨x.pre,.tup x.vals,x.hp⟩
 | d => fzV hp d
structure DFun where
 code : DCode
 res : List DR
def mFun (P : Program) (f : FuncId) (n : Nat) (d : DFun) : Bool :=
 match P.funcs[f]? with
 | some fn => match fn.body with
   | some c => !(fn.name == "runtime.NumGoroutine") && decide (n <= fn.ntmps) && zb6 P fn.ntmps c d.code && mRes P fn.results.toList d.res
   | none => false
 | none => false
section
variable {P : Program} {K F0 : Nat -> Prop} {σ0 : Nat -> Option Nat} {hp0 : List DObj} {N : Nat} {w0 : World} {C : Orc}
def z77 (tmps : Array Value) : ResultVar -> Sem Value
 | .tmp t => pure (tmps.getD t undef)
 | .cell a t => do loadVar t (<- asAddr (tmps.getD a undef))
theorem res1_run [Inhabited Env] {F : Nat -> Prop} {σ : Nat -> Option Nat} {s : DS} {w : World} {tmps : Array Value} (hs : SimH K F σ s.hp w) (hf : FRep F σ s.hp w s.fr tmps) {x : ResultVar} {y : DR} (hm : mRes1 P x y = true) (h : (y.val s).1) :
   ∃ v,(z77 tmps x).run P w = .ok v w /\ VRep F σ s.hp w (y.val s).2 v := by
 unfold mRes1 at hm
 split at hm
 . rename_i t n
   simp at hm; subst hm
   exact ⟨_,rfl,hf t⟩
 . rename_i a t n sz
   simp only [Bool.and_eq_true,beq_iff_eq,decide_eq_true_eq] at hm
   obtain ⟨rfl,hsz⟩ := hm
   obtain ⟨u,hu,hr⟩ := yfc (P := P) hs hsz (hf a) h
   obtain ⟨b,hb,_⟩ := zxg hs (hf a) (by simp only [DR.val] at h; cases sz <;> exact h.1)
   refine ⟨u,?_,hr⟩
   have e : tmps.getD a undef = .pointer (some b) := hb
   simp only [z77,e,asAddr,Sem.run_bind,Sem.run_pure,Result.andThen_ok]
   rw [hb] at hu
   simpa [Instr.loadAt,Instr.sureAddr] using hu
 . cases hm
theorem z8v [Inhabited Env] {F : Nat -> Prop} {σ : Nat -> Option Nat} {s : DS} {w : World} {tmps : Array Value} (hs : SimH K F σ s.hp w) (hf : FRep F σ s.hp w s.fr tmps) : ∀ {xs : List ResultVar} {ys : List DR},mRes P xs ys = true -> (retL s ys).1 ->
   ∃ vs,(xs.mapM (z77 tmps)).run P w = .ok vs w /\ All2 (VRep F σ s.hp w) (retL s ys).2 vs
 | [],[],_,_ => ⟨[],by simp,.mk_nil⟩
 | x :: xs,y :: ys,hm,h => by
   simp only [mRes,Bool.and_eq_true] at hm
   obtain ⟨v,h1,h2⟩ := res1_run hs hf hm.1 h.1
   obtain ⟨vs,h3,h4⟩ := z8v hs hf hm.2 h.2
   exact ⟨v :: vs,by rw [List.mapM_cons,Sem.run_bind,h1,Result.andThen_ok,Sem.run_bind,h3,Result.andThen_ok]; rfl,.mk_cons h2 h4⟩
 | [],_ :: _,hm,_ => by simp [mRes] at hm
 | _ :: _,[],hm,_ => by simp [mRes] at hm
theorem zvy (s : DS) : ∀ ys : List DR,(retL s ys).2.length = ys.length
 | [] => rfl
 | y :: ys => by simp [retL,zvy s ys]
theorem zw0 [Inhabited Env] {F : Nat -> Prop} {σ : Nat -> Option Nat} {s : DS} {w : World} {tmps : Array Value} (hs : SimH K F σ s.hp w) (hf : FRep F σ s.hp w s.fr tmps) {fn : Func} {ys : List DR} (hm : mRes P fn.results.toList ys = true) (h : (retV s ys).1) :
   ∃ v,(results fn tmps).run P w = .ok v w /\ VRep F σ s.hp w (retV s ys).2 v := by
 have hL : (retL s ys).1 := by
   unfold retV at h
   split at h
   . exact ⟨h,trivial⟩
   . exact h
 obtain ⟨vs,h1,h2⟩ := z8v hs hf hm hL
 have hrun : (results fn tmps).run P w = .ok (if h : vs.toArray.size = 1 then vs.toArray[0] else .tuple vs.toArray) w := by
   have e : results fn tmps = (do let vs <- fn.results.mapM (z77 tmps); pure (if h : vs.size = 1 then vs[0] else .tuple vs)) := by
     unfold results
     congr 1
   rw [e,Array.mapM_eq_mapM_toList,Sem.run_bind,Sem.run_map,h1]
   rfl
 refine ⟨_,hrun,?_⟩
 have hlen := h2.1
 rw [zvy] at hlen
 unfold retV
 split
 . rename_i r
   obtain ⟨v,us,rfl,h0,hr⟩ := h2.cons
   have := hr.nil_; subst this
   simpa using h0
 . rename_i hne
   rw [dif_neg]
   . exact VRep.tup_mk (by simpa using h2.1) fun j d hd => let ⟨u,hu,hr⟩ := h2.2 j d hd; ⟨u,by simpa using hu,hr⟩
   . intro h1'
     have : ys.length = 1 := by rw [hlen]; simpa using h1'
     match ys,this with
     | [r],_ => exact hne r rfl
theorem zpe : ∀ (ds : List DV) (k n : Nat),get n (zn k ds) = if k <= n then (ds[n - k]?).getD .undef else .undef
 | [],k,n => by simp [zn]
 | d :: ds,k,n => by
   simp only [zn,zc,zpe ds (k + 1) n]
   by_cases h : n = k
   . subst h; simp
   . rw [if_neg h]
     by_cases h2 : k + 1 <= n
     . rw [if_pos h2,if_pos (by omega)]
       rw [show n - k = (n - (k + 1)) + 1 by omega]; simp
     . rw [if_neg h2,if_neg (by omega)]
theorem zmb {F : Nat -> Prop} {σ : Nat -> Option Nat} {hp : List DObj} {w : World} {dargs : List DV} {args : Array Value} {nt : Nat} (ha : All2 (VRep F σ hp w) dargs args.toList) (hn : dargs.length <= nt) :
   FRep F σ hp w (zn 0 dargs) (args ++ Array.replicate (nt - args.size) undef) := by
 have hl : dargs.length = args.size := by simpa using ha.1
 intro n
 rw [zpe,if_pos (Nat.zero_le _),Nat.sub_zero]
 rcases Nat.lt_or_ge n dargs.length with h | h
 . obtain ⟨u,hu,hr⟩ := ha.2 n dargs[n] (by simp [h])
   have h' : n < args.size := by omega
   simp at hu
   simp [h,Array.getElem?_append_left h',hu]
   exact hr
 . simp [List.getElem?_eq_none h]
   exact .undef _
theorem zj1 [Inhabited Env] {F : Nat -> Prop} {σ : Nat -> Option Nat} {hp : List DObj} {w : World} {dargs : List DV} {args : Array Value} {nt : Nat} (hs : SimH K F σ hp w) (ha : All2 (VRep F σ hp w) dargs args.toList) (hn : dargs.length <= nt) :
   Cur K nt F σ hp w ⟨zn 0 dargs,hp⟩ { tmps := args ++ Array.replicate (nt - args.size) undef,defers := [] } w := by
 have hl : dargs.length = args.size := by simpa using ha.1
 exact ⟨K,F,σ,fun _ h => h,hs,zmb ha hn,by simp; omega,trivial,.refl _ _ _,.refl _ _ _ _⟩
theorem zh8 {f : FuncId} {n : Nat} {d : DFun} (h : mFun P f n d = true) : zcj P f = true /\ ∃ fn c,P.funcs[f]? = some fn /\ fn.body = some c /\ n <= fn.ntmps /\ zb6 P fn.ntmps c d.code = true /\ mRes P fn.results.toList d.res = true := by
 unfold mFun at h
 cases hf : P.funcs[f]? with
 | none => simp [hf] at h
 | some fn =>
   simp only [hf] at h
   cases hb : fn.body with
   | none => simp [hb] at h
   | some c =>
     simp only [hb,Bool.and_eq_true,decide_eq_true_eq] at h
     obtain ⟨⟨⟨h1,h2⟩,h3⟩,h4⟩ := h
     exact ⟨by unfold zcj; simp only [hf,hb,Option.isSome_some,Bool.and_true]; exact h1,fn,c,rfl,hb,h2,h3,h4⟩
theorem zr9 [Inhabited Env] {fn : Func} {F : Nat -> Prop} {σ : Nat -> Option Nat} {hp : List DObj} {w : World} {R : Ending -> World -> Prop} {s : DS} {tm : Array Value} {K' F' : Nat -> Prop} {σ' : Nat -> Option Nat}
   (h : ∀ w',CurX K fn.ntmps F σ hp w K' F' σ' s { tmps := tm,defers := [] } w' -> ∃ v,(results fn tm).run P w' = .ok v w' /\ R (.returned v) w') :
   ∀ (ds : List Deferred) (w' : World),CurX K fn.ntmps F σ hp w K' F' σ' s { tmps := tm,defers := ds } w' -> LeavesInM Fence.wide 0 P fn tm R ds .returning w'
 | [],w',hc => h w' hc
 | d :: ds,w',hc => by
   obtain ⟨hKK,hs,hf,hN,hdef,hmv,hhm⟩ := hc
   obtain ⟨⟨D,rfl,kD,fD,hD,k0,hni⟩,hrest⟩ := hdef
   refine ⟨by simp,.inl ⟨D,_,rfl,run_takeDeferred hD,zr9 h ds _ ?_⟩⟩
   have hkeep : ∀ b,b ≠ D -> (w'.putObj D (.deferred none)).heap[b]? = w'.heap[b]? := fun b hb => World.putObj_heap_other hb
   obtain ⟨s1,m1⟩ := hs.turn (K' := K') (F' := F') (w' := w'.putObj D (.deferred none)) (by simp) (fun b hb => hkeep b fun e => fD (e ▸ hb)) (fun b _ hb => hkeep b fun e => hb (e ▸ kD)) (fun _ h => h) (fun _ h => .inl h) (fun _ h => .inl h)
     (fun b hb => by simpa using hs.fb b hb) (fun b hb => by simpa using hs.kb b hb)
   exact ⟨hKK,s1,fun n => (hf n).mono m1,hN,hrest.put hni,hmv.trans (Moves.put k0 fD),hhm.trans m1⟩
theorem zkm [Inhabited Env] {f : FuncId} {fn : Func} {c : Code} {args : Array Value} {w : World} {R : Ending -> World -> Prop} {F : Nat -> Prop} {σ : Nat -> Option Nat} {hp : List DObj} {Q : DExit -> DS -> Prop}
   (hf : P.funcs[f]? = some fn) (hb : fn.body = some c) (hw : c.wpIn (Fw none) 0 P (QQ K fn.ntmps F σ hp w Q) { tmps := args ++ Array.replicate (fn.ntmps - args.size) undef,defers := [] } w)
   (h : ∀ s a w',Cur K fn.ntmps F σ hp w s a w' -> (Q .normal s \/ Q .ret s) -> ∃ v,(results fn a.tmps).run P w' = .ok v w' /\ R (.returned v) w')
   (hx : ∀ id s,¬ Q (.exit id) s) : Calls P f args w R := by
 refine callsIn_wide.1 (callsIn_of_wp_marks (F := Fence.wide) (n := 0) hf hb trivial (wpIn_mono (show c.wpIn Fence.wide 0 P _ _ w from hw) ?_))
 have key : ∀ (e : Bool) s a w',Cur K fn.ntmps F σ hp w s a w' -> (Q .normal s \/ Q .ret s) -> LeavesInM Fence.wide 0 P fn a.tmps R a.defers .returning w' := by
   rintro _ s ⟨tm,ds⟩ w' ⟨K',F',σ',hx⟩ hq
   exact zr9 (fun w'' hc => h s { tmps := tm,defers := [] } w'' ⟨K',F',σ',hc⟩ hq) ds w' hx
 intro e a w' hq
 cases e with
 | normal => obtain ⟨s,hc,h1⟩ := hq; exact key true s a w' hc (.inl h1)
 | ret => obtain ⟨s,hc,h1⟩ := hq; exact key true s a w' hc (.inr h1)
 | exit id => obtain ⟨s,hc,h0⟩ := hq; exact (hx id s h0).elim
 | goto l => exact hq.elim
 | panic c => exact hq.elim
 | outgrown => exact hq.elim
def EndH (res : List DR) (r : DV) (hp' : List DObj) : DExit -> DS -> Prop
 | .exit _,_ => False
 | _,s => (retV s res).1 /\ (retV s res).2 = r /\ s.hp = hp'
def EndP (res : List DR) (r : DV) : DExit -> DS -> Prop
 | .exit _,_ => False
 | _,s => (retV s res).1 /\ (fzT s.hp (retV s res).2).pre /\ (fzT s.hp (retV s res).2).val = r
theorem ye3 [Inhabited Env] (hC : C.ok P) {f : FuncId} {d : DFun} {dargs : List DV} {hp hp' : List DObj} {r : DV} (hm : mFun P f dargs.length d = true)
   (h : dwp C hp.length d.code (EndH d.res r hp') ⟨zn 0 dargs,hp⟩) : zcj P f = true /\ z37 P f dargs hp r hp' := by
 obtain ⟨hok,fn,c,hf,hb,hn,hc,hr⟩ := zh8 hm
 refine ⟨hok,fun K F σ w args hs ha => ?_⟩
 refine zkm hf hb (zag hC d.code c none 0 K F σ hp w _ _ _ w (.inl rfl) hc h (zj1 hs ha hn)) (fun s a w' hcur hq => ?_) (fun id s h => h)
 obtain ⟨K',F',σ',hKK,hs',hf',hN,hdef,hmv,hhm⟩ := hcur
 have hq' : (retV s d.res).1 /\ (retV s d.res).2 = r /\ s.hp = hp' := hq.elim id id
 obtain ⟨h1,rfl,rfl⟩ := hq'
 obtain ⟨v,hv,hrep⟩ := zw0 hs' hf' hr h1
 exact ⟨v,hv,v,rfl,F',σ',hs'.weak hKK,hmv,hhm,hrep⟩
theorem fzT_rep [Inhabited Env] {F : Nat -> Prop} {σ : Nat -> Option Nat} {hp : List DObj} {w : World} (hs : SimH K F σ hp w) {d : DV} {v : Value} (hv : VRep F σ hp w d v) (h : (fzT hp d).pre) :
   ∃ F',Frzd K F σ hp w F' (fzT hp d).hp /\ VRep F' ze2 [] w (fzT hp d).val v := by
 unfold fzT at h |-
 split at h
 . obtain ⟨vs,rfl,hl,hr⟩ := hv.tup_inv
   obtain ⟨F',f,r⟩ := zz0 hs (vs := vs.toList) ⟨by simpa using hl,fun j d hd => let ⟨u,hu,hr⟩ := hr j d hd; ⟨u,by simpa using hu,hr⟩⟩ h
   exact ⟨F',f,VRep.tup_mk (by simpa using r.1) fun j d hd => let ⟨u,hu,hr⟩ := r.2 j d hd; ⟨u,by simpa using hu,hr⟩⟩
 . exact z0m hs hv h
theorem ztz [Inhabited Env] (hC : C.ok P) {f : FuncId} {d : DFun} {dargs : List DV} {r : DV} (hm : mFun P f dargs.length d = true)
   (h : dwp C 0 d.code (EndP d.res r) ⟨zn 0 dargs,[]⟩) : zcj P f = true /\ zy3 P f dargs r := by
 obtain ⟨hok,fn,c,hf,hb,hn,hc,hr⟩ := zh8 hm
 refine ⟨hok,fun K F w args hF hK hX ha => ?_⟩
 have hs : SimH K F ze2 [] w := ⟨fun h o ho => by simp at ho,fun h h' o o' g e1 => by simp at e1,hF,hK,hX⟩
 refine zkm hf hb (zag hC d.code c none 0 K F ze2 [] w _ _ _ w (.inl rfl) hc h (zj1 hs ha hn)) (fun s a w' hcur hq => ?_) (fun id s h => h)
 obtain ⟨K',F',σ',hKK,hs',hf',hN,hdef,hmv,hhm⟩ := hcur
 have hq' : (retV s d.res).1 /\ (fzT s.hp (retV s d.res).2).pre /\ (fzT s.hp (retV s d.res).2).val = r := hq.elim id id
 obtain ⟨h1,h2,rfl⟩ := hq'
 obtain ⟨v,hv,hrep⟩ := zw0 hs' hf' hr h1
 obtain ⟨F1,f1,r1⟩ := fzT_rep (hs'.weak hKK) hrep h2
 exact ⟨v,hv,v,F1,rfl,hmv.trans f1.2.1,f1.1.fb,r1⟩
end
end
end Go.Nk
set_option linter.all false
namespace Go.Nk
open Go.RowKit Go.WideShapes Go.ChangeShapes Go.Deep
mutual
def DV.sz : DV -> Nat
 | .str s => s.length + 1
 | .sl es => szLL es + 1
 | .ref cs => szL cs + 1
 | .agg cs => szL cs + 1
 | _ => 1
def szL : List DV -> Nat
 | [] => 0
 | d :: r => d.sz + szL r
def szLL : List (List DV) -> Nat
 | [] => 0
 | d :: r => szL d + szLL r
end
theorem zqs : ∀ (a b : List DV),szL (a ++ b) = szL a + szL b
 | [],b => by simp [szL]
 | x :: a,b => by simp [szL,zqs a b]; omega
def lenW : List (List DV) -> Nat
 | [.int .i64 n] :: es => 8 * (es.length + 1)
 | es => es.length
theorem z6f (es : List (List DV)) : es.length <= lenW es := by unfold lenW; split <;> (try simp only [List.length_cons]) <;> omega
theorem yb5 : ∀ {es : List (List DV)},(∀ r ∈ es,∀ n,r ≠ [.int .i64 n]) -> lenW es = es.length
 | [],_ => rfl
 | r :: es,h => by
   unfold lenW
   split
   . rename_i n es' e
     exact absurd (List.cons.inj e).1 (h r (by simp) n)
   . rfl
theorem lenW_le (es : List (List DV)) : lenW es <= 8 * es.length := by unfold lenW; split <;> (try simp only [List.length_cons]) <;> omega
mutual
def DV.lens : DV -> List Nat
 | .str s => [s.length]
 | .sl es => lenW es :: zr7 es
 | .ref cs => zcs cs
 | .agg cs => zcs cs
 | _ => []
def zcs : List DV -> List Nat
 | [] => []
 | d :: r => d.lens ++ zcs r
def zr7 : List (List DV) -> List Nat
 | [] => []
 | d :: r => zcs d ++ zr7 r
end
theorem zfp : ∀ (a b : List DV),zcs (a ++ b) = zcs a ++ zcs b
 | [],b => by simp [zcs]
 | x :: a,b => by simp [zcs,zfp a b]
theorem zyg : ∀ {es : List (List DV)} {L : Nat},L ∈ zr7 es -> ∃ e ∈ es,L ∈ zcs e
 | [],L,h => by simp [zr7] at h
 | e :: es,L,h => by
   simp only [zr7,List.mem_append] at h
   rcases h with h | h
   . exact ⟨e,by simp,h⟩
   . obtain ⟨e',h1,h2⟩ := zyg h; exact ⟨e',by simp [h1],h2⟩
def Fits (ls ws : List Nat) : Prop := ∀ L ∈ ls,L = 0 \/ ∃ w ∈ ws,L <= w
theorem Fits.nil {ws : List Nat} : Fits [] ws := fun _ h => by simp at h
theorem Fits.append {a b ws : List Nat} (h1 : Fits a ws) (h2 : Fits b ws) : Fits (a ++ b) ws := fun L h => (List.mem_append.1 h).elim (h1 L) (h2 L)
theorem Fits.sub {a ws ws' : List Nat} (h1 : Fits a ws) (h : ∀ w ∈ ws,w ∈ ws') : Fits a ws' := fun L hl => (h1 L hl).imp id fun ⟨w,a,b⟩ => ⟨w,h w a,b⟩
def zty (P : Program) : Nat -> List Field -> Bool
 | _,[] => true
 | k,f :: r => f.offset == k && zty P (k + P.cellsOf f.type) r
def zf7 (P : Program) : List Field -> Nat
 | [] => 0
 | f :: r => P.cellsOf f.type + zf7 P r
def ygt (P : Program) (Ls : List TypeId) (t : TypeId) : Bool :=
 match P.underlying t with
 | some (.int _) | some .bool | some .string => true
 | some (.slice e) => decide (0 < P.cellsOf e) && Ls.contains e && decide (0 < P.bytesOf e) && (decide (8 <= P.bytesOf e) || (match P.underlying e with | some (.int k) => k != .i64 | some .bool => true | _ => false))
 | some (.pointer e) => decide (0 < P.cellsOf e) && Ls.contains e
 | some (.array k e) => decide (P.cellsOf t = k * P.cellsOf e) && Ls.contains e
 | some (.struct fs) => fs.toList.all (fun f => Ls.contains f.type) && zty P 0 fs.toList && P.cellsOf t == zf7 P fs.toList
 | _ => false
def zvu (P : Program) (Ls : List TypeId) : Prop := ∀ t ∈ Ls,ygt P Ls t = true
def succT (P : Program) (t : TypeId) : List TypeId :=
 match P.underlying t with
 | some (.slice e) | some (.pointer e) | some (.array _ e) => [e]
 | some (.struct fs) => fs.toList.map (·.type)
 | _ => []
def yg1 (P : Program) : Nat -> List TypeId -> List TypeId -> List TypeId
 | 0,_,l => l
 | _ + 1,[],l => l
 | n + 1,t :: r,l => if l.contains t then yg1 P n r l else yg1 P n (succT P t ++ r) (t :: l)
def HasL (R : TypeId -> List DV -> Prop) : List Field -> List DV -> Prop
 | [],ds => ds = []
 | f :: fs,ds => ∃ a b,ds = a ++ b /\ R f.type a /\ HasL R fs b
def HasN (R : List DV -> Prop) : Nat -> List DV -> Prop
 | 0,ds => ds = []
 | k + 1,ds => ∃ a b,ds = a ++ b /\ R a /\ HasN R k b
def Has (P : Program) : Nat -> TypeId -> List DV -> Prop
 | 0,_,_ => False
 | n + 1,t,ds =>
   match P.underlying t with
   | some (.int k) => ∃ i,ds = [.int k i] /\ (Lit.int k i).wf = true
   | some .bool => ∃ b,ds = [.bool b]
   | some .string => ∃ s,ds = [.str s] /\ s.length <= maxLen
   | some (.slice e) => ∃ es,ds = [.sl es] /\ es.length <= maxLen /\ ∀ x ∈ es,Has P n e x
   | some (.pointer e) => ds = [.nilp] \/ ∃ r,ds = [.ref r] /\ Has P n e r
   | some (.struct fs) => HasL (Has P n) fs.toList ds
   | some (.array k e) => HasN (Has P n e) k ds
   | _ => False
structure Bulk {H : Type} (B : DataW H -> Nat) (BA : List (DataW H) -> Nat) : Prop where
 lit : ∀ l,1 <= B (.lit l)
 str : ∀ s,s.length + 1 <= B (.lit (.string s))
 nil : 1 <= B .nil
 ptr : ∀ d,B d + 1 <= B (.ptr d)
 slice : ∀ a b,BA a + 1 <= B (.slice a b)
 agg : ∀ a,BA a <= B (.agg a)
 cons : ∀ d r,B d + BA r = BA (d :: r)
section
variable {H : Type} {enc : TypeId × Value -> H} {P : Program} {w : World} {B : DataW H -> Nat} {BA : List (DataW H) -> Nat}
abbrev oldF (w : World) : Nat -> Prop := fun b => b < w.heap.size
abbrev zsz : Nat -> Bool := fun _ => true
theorem yal {es : List (List DV)} {i j : Nat} {d : DV} (h : z1 es i j = some d) : ∃ e,es[i]? = some e /\ e[j]? = some d := by
 unfold z1 at h
 cases he : es[i]? with
 | none => simp [he] at h
 | some e => exact ⟨e,rfl,by simpa [he] using h⟩
theorem zk8 : ∀ (n : Nat) (t : TypeId) (ds : List DV),Has P n t ds -> ∀ d ∈ ds,d.one = true
 | 0,_,_,h => h.elim
 | n + 1,t,ds,h => by
   unfold Has at h
   split at h
   . obtain ⟨i,rfl,_⟩ := h; intro d hd; simp at hd; subst hd; rfl
   . obtain ⟨i,rfl⟩ := h; intro d hd; simp at hd; subst hd; rfl
   . obtain ⟨i,rfl,_⟩ := h; intro d hd; simp at hd; subst hd; rfl
   . obtain ⟨i,rfl,_⟩ := h; intro d hd; simp at hd; subst hd; rfl
   . rcases h with rfl | ⟨i,rfl,_⟩ <;> intro d hd <;> simp at hd <;> subst hd <;> rfl
   . rename_i fs _
     have key : ∀ (fs : List Field) (ds : List DV),HasL (Has P n) fs ds -> ∀ d ∈ ds,d.one = true := by
       intro fs
       induction fs with
       | nil => intro ds h d hd; simp only [HasL] at h; subst h; simp at hd
       | cons f fs ih =>
         rintro ds ⟨a,b,rfl,ha,hb⟩ d hd
         rcases List.mem_append.1 hd with hd | hd
         . exact zk8 n _ a ha d hd
         . exact ih b hb d hd
     exact key _ _ h
   . rename_i k e _
     have key : ∀ (k : Nat) (ds : List DV),HasN (Has P n e) k ds -> ∀ d ∈ ds,d.one = true := by
       intro k
       induction k with
       | zero => intro ds h d hd; simp only [HasN] at h; subst h; simp at hd
       | succ k ih =>
         rintro ds ⟨a,b,rfl,ha,hb⟩ d hd
         rcases List.mem_append.1 hd with hd | hd
         . exact zk8 n _ a ha d hd
         . exact ih b hb d hd
     exact key _ _ h
   . exact h.elim
def Rd (P : Program) (w : World) (n : Nat) (t : TypeId) (cs : List Value) (ds : List DV) : Prop := Has P n t ds /\ All2 (IRep (oldF w) w) ds cs
theorem zkf {a : Addr} {n : Nat} {cs : List Value} (h : w.cells? 0 a n = some cs) (hn : 0 < n) : a.spot = none /\ a.block < w.heap.size /\ cs.length = n /\ ∀ i v,cs[i]? = some v -> w.cell? ⟨a.block,a.off + i,none⟩ = some v := by
 obtain ⟨_,hl,hc⟩ := World.cells?_some h
 have h0 := hc 0 hn
 rw [List.getElem?_eq_getElem (by omega)] at h0
 have hs : a.spot = none := by simpa [Addr.add] using World.cell?_spot h0
 refine ⟨hs,World.cells?_block h hn,hl,fun i v hv => ?_⟩
 have hi : i < cs.length := (List.getElem?_eq_some_iff.1 hv).1
 have := hc i (by omega)
 rw [hv] at this
 rw [<- this]
 congr 1
 obtain ⟨b,o,sp⟩ := a
 simp only at hs
 subst hs
 unfold Addr.add
 split <;> simp_all
theorem zlo {e : TypeId} {x : Nat} : ∀ {l : List (DataW H)} {d : DataW H},d ∈ l -> x ∈ DataW.weights P e d -> x ∈ DataW.weightsAll P e l
 | [],d,h,_ => by simp at h
 | a :: l,d,h,hx => by
   unfold DataW.weightsAll
   rcases List.mem_cons.1 h with rfl | h
   . exact List.mem_append.2 (.inl hx)
   . exact List.mem_append.2 (.inr (zlo h hx))
theorem z61 {t e : TypeId} {n : Nat} {cs : List Value} {x : DataW H × List MemPlace} (ht : P.underlying t = some (.slice e)) (h : DataW.trod enc P w 0 zsz true (n + 1) t cs = some x) :
   (cs = [.slice none 0 0] /\ x = (.nil,[])) \/
   ∃ (a : Addr) (len cap : Nat) (D : Nat -> DataW H) (Pl : Nat -> List MemPlace) (rest : List (DataW H × List MemPlace)) (ps : List MemPlace),cs = [.slice (some a) len cap] /\ len <= cap /\ cap <= maxLen /\ rest.length = cap - len /\
     x = (.slice ((List.range len).map D) (rest.map (·.1)),ps) /\
     ∀ i,i < len -> ∃ cs',w.cells? 0 (a.add (i * P.cellsOf e)) (P.cellsOf e) = some cs' /\ DataW.trod enc P w 0 zsz true n e cs' = some (D i,Pl i) := by
 rcases DataW.trod_slice ht h with h0 | ⟨a,len,cap,elems,rest,m,hm,rfl,rfl,_,hl,hc,hlen,hel,hsp,_⟩
 . exact .inl h0
 have hm' : n = m := by omega
 subst hm'
 refine .inr ⟨a,len,cap,fun i => ((elems[i]?).getD (.nil,[])).1,fun i => ((elems[i]?).getD (.nil,[])).2,rest,_,rfl,hl,hc,(hsp rfl).1,Prod.ext ?_ rfl,fun i hi => ?_⟩
 . show DataW.slice (elems.map (·.1)) _ = _
   congr 1
   refine List.ext_getElem (by simp [hlen]) fun i h1 h2 => ?_
   have : i < elems.length := by simpa using h1
   simp [this]
 . have h1 := hel i hi
   have h2 : i < elems.length := by omega
   rw [List.getElem?_eq_getElem h2] at h1
   obtain ⟨cs',h3,h4⟩ := Option.bind_eq_some_iff.1 h1
   exact ⟨cs',h3,by rw [h4]; simp [h2]⟩
theorem zoj (hB : Bulk B BA) {Ls : List TypeId} (hL : zvu P Ls) : ∀ (n : Nat) (t : TypeId) (cs : List Value) (x : DataW H × List MemPlace),t ∈ Ls -> DataW.trod enc P w 0 zsz true n t cs = some x ->
   ∃ ds,Rd P w n t cs ds /\ szL ds <= B x.1 /\ Fits (zcs ds) (DataW.weights P t x.1)
 | 0,_,_,_,_,hx => by simp [DataW.trod] at hx
 | n + 1,t,cs,x,hin,hx => by
   have h := hL t hin
   unfold ygt at h
   split at h
   . rename_i k hk
     . unfold DataW.trod at hx
       rw [hk] at hx
       split at hx <;> simp_all
       rename_i i _
       obtain ⟨⟨e1,e2⟩,e3⟩ := hx
       subst e1; subst e3
       refine ⟨[.int _ i],⟨by unfold Has; rw [hk]; exact ⟨i,rfl,e2⟩,.mk_cons (.int _ _) .mk_nil⟩,by simpa [szL,DV.sz] using hB.lit _,by simpa [zcs,DV.lens] using Fits.nil⟩
   . rename_i hk
     . unfold DataW.trod at hx
       rw [hk] at hx
       split at hx <;> simp_all
       rename_i b
       subst hx
       exact ⟨[.bool b],⟨by unfold Has; rw [hk]; exact ⟨b,rfl⟩,.mk_cons (.bool _) .mk_nil⟩,by simpa [szL,DV.sz] using hB.lit _,by simpa [zcs,DV.lens] using Fits.nil⟩
   . rename_i hk
     . unfold DataW.trod at hx
       rw [hk] at hx
       split at hx <;> simp_all
       rename_i s
       obtain ⟨e1,e3⟩ := hx
       subst e3
       refine ⟨[.str s.data.toList],⟨by unfold Has; rw [hk]; exact ⟨_,rfl,(by show s.data.toList.length <= maxLen; rw [Array.length_toList]; exact e1)⟩,.mk_cons ?_ .mk_nil⟩,by have := hB.str s.data.toList; simp only [szL,DV.sz]; omega,fun L hL => .inr ⟨L,by simpa [zcs,DV.lens,DataW.weights] using hL,Nat.le_refl _⟩⟩
       have := IRep.str (F := oldF w) (w := w) s.data.toList
       simpa using this
   . rename_i e hk
     simp only [Bool.and_eq_true,Bool.or_eq_true,decide_eq_true_eq] at h
     obtain ⟨⟨⟨h1q,he⟩,hby⟩,hb8⟩ := h
     replace he : e ∈ Ls := by simpa using he
     rcases z61 hk hx with ⟨rfl,rfl⟩ | ⟨a,len,m,D,Pl,rest,ps,rfl,hl,hcm,hrest,rfl,hi⟩
     . refine ⟨[.sl []],⟨by unfold Has; rw [hk]; exact ⟨[],rfl,by simp,by simp⟩,.mk_cons ?_ .mk_nil⟩,by simpa [szL,szLL,DV.sz] using hB.nil,fun L hL => .inl (by simpa [zcs,DV.lens,zr7,lenW] using hL)⟩
       exact .sl [] none 0 0 ⟨0,0,none⟩ 0 (fun _ _ => .nilFunc) rfl (Nat.le_refl _) (by simp) (by simp) (by simp [z1]) (by simp [z1])
     . have key : ∀ i : Nat,∃ r : List Value × List DV,i < len -> w.cells? 0 (a.add (i * P.cellsOf e)) (P.cellsOf e) = some r.1 /\ Rd P w n e r.1 r.2 /\ szL r.2 <= B (D i) /\ Fits (zcs r.2) (DataW.weights P e (D i)) := by
         intro i
         by_cases hlt : i < len
         . obtain ⟨cs',h1,h2⟩ := hi i hlt
           obtain ⟨ds,h3,h4,h5⟩ := zoj hB hL n e _ _ he h2
           exact ⟨(cs',ds),fun _ => ⟨h1,h3,h4,h5⟩⟩
         . exact ⟨([],[]),fun h => absurd h hlt⟩
       obtain ⟨r,hr⟩ := Classical.axiomOfChoice key
       let es : List (List DV) := (List.range len).map fun i => (r i).2
       have hes : ∀ i e,es[i]? = some e -> i < len /\ e = (r i).2 := by
         intro i e he
         simp only [es,List.getElem?_map,Option.map_eq_some_iff] at he
         obtain ⟨j,hj,rfl⟩ := he
         obtain ⟨hlt,hj⟩ := List.getElem?_eq_some_iff.1 hj
         simp at hlt hj
         exact ⟨hlt,by rw [<- hj]⟩
       have hcell : ∀ i j d,z1 es i j = some d -> ∃ u,(r i).1[j]? = some u /\ IRep (oldF w) w d u /\ w.cell? ⟨a.block,a.off + (i * P.cellsOf e + j),none⟩ = some u /\ d.one = true /\ a.spot = none /\ a.block < w.heap.size := by
         intro i j d hd
         obtain ⟨row,h1,h2⟩ := yal hd
         obtain ⟨hlt,rfl⟩ := hes i row h1
         obtain ⟨h3,⟨h4,h5⟩,_⟩ := hr i hlt
         obtain ⟨u,hu,hrep⟩ := h5.2 j d h2
         obtain ⟨c1,c2,c3,c4⟩ := zkf h3 h1q
         obtain ⟨hs,hblk⟩ : a.spot = none /\ a.block < w.heap.size := by
           unfold Addr.add at c1 c2
           split at c1
           . rename_i h0
             simp only [h0] at c2
             exact ⟨c1,c2⟩
           . rename_i h0
             have hlen0 : 0 < m := by omega
             obtain ⟨_,g1,g2⟩ := hr 0 (by omega)
             obtain ⟨k1,k2,_⟩ := zkf (hr 0 (by omega)).1 h1q
             simpa [Addr.add] using And.intro k1 k2
         refine ⟨u,hu,hrep,?_,zk8 n e _ h4 d (List.mem_of_getElem? h2),hs,hblk⟩
         have := c4 j u hu
         rw [<- this]
         obtain ⟨ab,ao,asp⟩ := a
         simp only at hs
         subst hs
         unfold Addr.add
         split <;> simp_all [Nat.add_assoc]
       refine ⟨[.sl es],⟨by
           unfold Has; rw [hk]
           refine ⟨es,rfl,by simp [es]; omega,fun y hy => ?_⟩
           obtain ⟨i,hi',rfl⟩ := List.mem_map.1 hy
           exact (hr i (by simpa using hi')).2.1.1,.mk_cons ?_ .mk_nil⟩,?_,?_⟩
       . refine .sl es (some a) len m a (P.cellsOf e) (fun i j => ((r i).1[j]?).getD .nilFunc) (by simp [es]) hl (fun hne => ?_) (fun i row hrow => ?_) (fun i j d hd => ?_) (fun i j d hd => ?_)
         . have hpos : 0 < len := by
             rcases Nat.eq_zero_or_pos len with h0 | h0
             . exfalso; apply hne; simp [es,h0]
             . exact h0
           have hg := (hr 0 hpos).1
           obtain ⟨k1,k2,_⟩ := zkf hg h1q
           exact ⟨rfl,by simpa [Addr.add] using k1,by simpa [Addr.add] using k2⟩
         . obtain ⟨hlt,rfl⟩ := hes i row hrow
           obtain ⟨h3,⟨_,h5⟩,_⟩ := hr i hlt
           rw [h5.1]
           exact (zkf h3 h1q).2.2.1
         . obtain ⟨u,hu,_,hc,ho,_⟩ := hcell i j d hd
           exact ⟨by rw [hc,hu]; rfl,ho⟩
         . obtain ⟨u,hu,hrep,_⟩ := hcell i j d hd
           rw [hu]; exact hrep
       . have hsum : ∀ l : List Nat,(∀ i ∈ l,i < len) -> szLL (l.map fun i => (r i).2) <= BA (l.map D) := by
           intro l
           induction l with
           | nil => intro _; simp [szLL]
           | cons i l ih =>
             intro hl'
             have h1 := (hr i (hl' i (by simp))).2.2.1
             have h2 := ih fun j hj => hl' j (by simp [hj])
             have h3 := hB.cons (D i) (l.map D)
             simp only [List.map_cons,szLL]
             omega
         have := hsum (List.range len) (by simp)
         have h2 := hB.slice ((List.range len).map D) (rest.map (·.1))
         simp only [szL,DV.sz,es]
         omega
       . intro L hL
         simp only [zcs,DV.lens,List.append_nil,List.mem_cons] at hL
         unfold DataW.weights
         simp only [hk]
         rcases hL with rfl | hL
         . refine .inr ⟨_,by simp only [List.mem_cons]; exact .inl rfl,?_⟩
           simp only [List.length_map,List.length_range]
           have hel : es.length = len := by simp [es]
           have hle : lenW es <= len * P.bytesOf e := by
             rcases hb8 with h8 | h8
             . refine Nat.le_trans (lenW_le es) ?_
               rw [hel,Nat.mul_comm]
               exact Nat.mul_le_mul_left _ h8
             . rw [yb5,hel]
               . exact Nat.le_trans (by omega) (Nat.mul_le_mul_left _ hby)
               . intro r hr' n' e'
                 obtain ⟨i,hi',rfl⟩ := List.mem_map.1 hr'
                 have hh := (hr i (by simpa using hi')).2.1.1
                 rw [e'] at hh
                 cases n with
                 | zero => simp [Has] at hh
                 | succ n =>
                   unfold Has at hh
                   split at h8
                   . rename_i k' hk'
                     simp only [hk'] at hh
                     obtain ⟨j,hj,_⟩ := hh
                     injection hj with hj _
                     injection hj with hj _
                     subst hj
                     simp at h8
                   . rename_i hk'
                     simp only [hk'] at hh
                     obtain ⟨j,hj⟩ := hh
                     injection hj with hj _
                     cases hj
                   . cases h8
           exact Nat.le_trans hle (Nat.mul_le_mul_right _ (by omega))
         . obtain ⟨row,h1,h2⟩ := zyg hL
           obtain ⟨i,hi',rfl⟩ := List.mem_map.1 h1
           have hi2 : i < len := by simpa using hi'
           rcases (hr i hi2).2.2.2 L h2 with h3 | ⟨x,h3,h4⟩
           . exact .inl h3
           . refine .inr ⟨x,List.mem_cons_of_mem _ (List.mem_append.2 (.inl (zlo (List.mem_map.2 ⟨i,hi',rfl⟩) h3))),h4⟩
   . rename_i e hk
     simp only [Bool.and_eq_true,decide_eq_true_eq] at h
     have he : e ∈ Ls := by simpa using h.2
     rcases DataW.trod_pointer hk hx with ⟨rfl,rfl⟩ | ⟨a,cs',y,m,hm',rfl,rfl,hc,hy⟩
     . exact ⟨[.nilp],⟨by unfold Has; rw [hk]; exact .inl rfl,.mk_cons .nilp .mk_nil⟩,by simpa [szL,DV.sz] using hB.nil,by simpa [zcs,DV.lens] using Fits.nil⟩
     . have hm2 : n = m := by omega
       subst hm2
       obtain ⟨ds,⟨h1,h2⟩,h3,h4⟩ := zoj hB hL _ e _ _ he hy
       obtain ⟨c1,c2,c3,c4⟩ := zkf hc h.1
       refine ⟨[.ref ds],⟨by unfold Has; rw [hk]; exact .inr ⟨ds,rfl,h1⟩,.mk_cons ?_ .mk_nil⟩,by have := hB.ptr y.1; simp only [szL,DV.sz]; omega,by unfold DataW.weights; simp only [hk,zcs,DV.lens,List.append_nil]; exact h4⟩
       refine .ref ds a (fun j => (cs'[j]?).getD .nilFunc) c1 c2 (fun j d hd => ?_) (fun j d hd => ?_)
       . obtain ⟨u,hu,hr⟩ := h2.2 j d hd
         exact ⟨by rw [c4 j u hu,hu]; rfl,zk8 n e _ h1 d (List.mem_of_getElem? hd)⟩
       . obtain ⟨u,hu,hr⟩ := h2.2 j d hd
         rw [hu]; exact hr
   . rename_i k e hk
     simp only [Bool.and_eq_true,decide_eq_true_eq] at h
     have he : e ∈ Ls := by simpa using h.2
     obtain ⟨xs,m,hm',rfl,hcl,hxl,hf⟩ := DataW.trod_array hk hx
     have hm2 : n = m := by omega
     subst hm2
     have key : ∀ (j k : Nat) (ys : List (DataW H × List MemPlace)) (cs : List Value),ys.length = k -> (j + k) * P.cellsOf e <= cs.length ->
         (∀ (i : Nat),i < k -> DataW.trod enc P w 0 zsz true n e ((cs.drop ((j + i) * P.cellsOf e)).take (P.cellsOf e)) = ys[i]?) ->
         ∃ ds,HasN (Has P n e) k ds /\ All2 (IRep (oldF w) w) ds ((cs.drop (j * P.cellsOf e)).take (k * P.cellsOf e)) /\ szL ds <= BA (ys.map (·.1)) /\ Fits (zcs ds) (DataW.weightsAll P e (ys.map (·.1))) := by
       intro j k
       induction k generalizing j with
       | zero => intro ys cs _ _ _; exact ⟨[],rfl,by simpa using All2.mk_nil,by simp [szL],by simpa [zcs] using Fits.nil⟩
       | succ k ih =>
         intro ys cs h3 h4 h5
         match ys,h3 with
         | y :: ys,h3 =>
           have g := h5 0 (by omega)
           simp only [List.getElem?_cons_zero,Nat.add_zero] at g
           obtain ⟨ds,⟨r1,r2⟩,r3,r7⟩ := zoj hB hL _ e _ _ he g
           obtain ⟨ds',r4,r5,r6,r8⟩ := ih (j + 1) ys cs (by simpa using h3) (by rw [show j + 1 + k = j + (k + 1) by omega]; exact h4) (fun i hi => by
             have := h5 (i + 1) (by omega)
             rw [show j + 1 + i = j + (i + 1) by omega]
             simpa using this)
           refine ⟨ds ++ ds',⟨ds,ds',rfl,r1,r4⟩,?_,?_,by
             rw [zfp]
             simp only [List.map_cons]
             unfold DataW.weightsAll
             exact Fits.append (r7.sub fun w hw => List.mem_append.2 (.inl hw)) (r8.sub fun w hw => List.mem_append.2 (.inr hw))⟩
           . have e : (cs.drop (j * P.cellsOf e)).take ((k + 1) * P.cellsOf e) = (cs.drop (j * P.cellsOf e)).take (P.cellsOf e) ++ (cs.drop ((j + 1) * P.cellsOf e)).take (k * P.cellsOf e) := by
               rw [show (k + 1) * P.cellsOf e = P.cellsOf e + k * P.cellsOf e by rw [Nat.succ_mul,Nat.add_comm],List.take_add,List.drop_drop,show j * P.cellsOf e + P.cellsOf e = (j + 1) * P.cellsOf e by rw [Nat.succ_mul]]
             rw [e]
             exact r2.append r5
           . have := hB.cons y.1 (ys.map (·.1))
             rw [zqs]
             simp only [List.map_cons]
             omega
     obtain ⟨ds,r1,r2,r3,r9⟩ := key 0 k xs cs hxl (by rw [Nat.zero_add,hcl,h.1]; exact Nat.le_refl _) (fun i hi => by rw [Nat.zero_add]; exact hf i hi)
     refine ⟨ds,⟨by unfold Has; rw [hk]; exact r1,?_⟩,?_,by unfold DataW.weights; simp only [hk]; exact r9⟩
     . rw [Nat.zero_mul,List.drop_zero,List.take_of_length_le (by rw [hcl,h.1]; exact Nat.le_refl _)] at r2
       exact r2
     . have := hB.agg (xs.map (·.1))
       simp only
       omega
   . rename_i fs hk
     simp only [Bool.and_eq_true,List.all_eq_true,beq_iff_eq] at h
     have hfs : ∀ f ∈ fs.toList,f.type ∈ Ls := fun f hf => by simpa using h.1.1 f hf
     obtain ⟨xs,m,hm',rfl,hcl,hxl,hf⟩ := DataW.trod_struct hk hx
     have hm2 : n = m := by omega
     subst hm2
     have key : ∀ (fl : List Field) (k : Nat) (ys : List (DataW H × List MemPlace)) (cs : List Value),(∀ f ∈ fl,f.type ∈ Ls) -> zty P k fl = true -> ys.length = fl.length -> k + zf7 P fl <= cs.length ->
         (∀ (i : Nat) (f : Field),fl[i]? = some f -> DataW.trod enc P w 0 zsz true n f.type ((cs.drop f.offset).take (P.cellsOf f.type)) = ys[i]?) ->
         ∃ ds,HasL (Has P n) fl ds /\ All2 (IRep (oldF w) w) ds ((cs.drop k).take (zf7 P fl)) /\ szL ds <= BA (ys.map (·.1)) /\ Fits (zcs ds) (DataW.weightsEach P (fl.map (·.type)) (ys.map (·.1))) := by
       intro fl
       induction fl with
       | nil => intro k ys cs _ _ _ _ _; exact ⟨[],rfl,by simpa [zf7] using All2.mk_nil,by simp [szL],by simpa [zcs] using Fits.nil⟩
       | cons f fl ih =>
         intro k ys cs h1 h2 h3 h4 h5
         match ys,h3 with
         | y :: ys,h3 =>
           simp only [zty,Bool.and_eq_true,beq_iff_eq] at h2
           simp only [zf7] at h4
           have g := h5 0 f rfl
           simp only [List.getElem?_cons_zero] at g
           rw [h2.1] at g
           obtain ⟨ds,⟨r1,r2⟩,r3,r7⟩ := zoj hB hL _ f.type _ _ (h1 f (by simp)) g
           obtain ⟨ds',r4,r5,r6,r8⟩ := ih (k + P.cellsOf f.type) ys cs (fun f' hf' => h1 f' (by simp [hf'])) h2.2 (by simpa using h3) (by omega) (fun i f' hf' => by simpa using h5 (i + 1) f' (by simpa using hf'))
           refine ⟨ds ++ ds',⟨ds,ds',rfl,r1,r4⟩,?_,?_,by
             rw [zfp]
             simp only [List.map_cons]
             unfold DataW.weightsEach
             exact Fits.append (r7.sub fun w hw => List.mem_append.2 (.inl hw)) (r8.sub fun w hw => List.mem_append.2 (.inr hw))⟩
           . have e : (cs.drop k).take (zf7 P (f :: fl)) = (cs.drop k).take (P.cellsOf f.type) ++ (cs.drop (k + P.cellsOf f.type)).take (zf7 P fl) := by
               simp only [zf7]
               rw [List.take_add,List.drop_drop]
             rw [e]
             exact r2.append r5
           . have := hB.cons y.1 (ys.map (·.1))
             rw [zqs]
             simp only [List.map_cons]
             omega
     obtain ⟨ds,r1,r2,r3,r9⟩ := key fs.toList 0 xs cs hfs h.1.2 (by simpa using hxl) (by omega) (fun i f hi => hf i f (by simpa using hi))
     refine ⟨ds,⟨by unfold Has; rw [hk]; exact r1,?_⟩,?_,by unfold DataW.weights; simp only [hk]; exact r9⟩
     . rw [List.drop_zero,List.take_of_length_le (by omega)] at r2
       exact r2
     . have := hB.agg (xs.map (·.1))
       simp only
       omega
   . cases h
end
end Go.Nk
set_option linter.all false
namespace Go.Nk
open Go.RowKit Go.WideShapes Go.ChangeShapes Go.Deep
section
variable {H : Type} {enc : TypeId × Value -> H} {P : Program} {w w' : World}
theorem zh6 {sp : Nat -> Bool} {Ls : List TypeId} (hL : zvu P Ls) : ∀ (fuel : Nat) (t : TypeId) (cs : List Value) (x : DataW H × List MemPlace),t ∈ Ls -> DataW.trod enc P w 0 zsz true fuel t cs = some x ->
   (∀ p ∈ x.2,sp p.block = true) -> DataW.trod enc P w 0 sp true fuel t cs = some x
 | 0,t,cs,x,_,hx,_ => by simp [DataW.trod] at hx
 | m + 1,t,cs,x,hin,hx,hs => by
   have h := hL t hin
   unfold ygt at h
   rw [DataW.trod_step] at hx |-
   unfold DataW.trodStep at hx |-
   split at h
   . rename_i k hk
     rw [hk] at hx |-
     split at hx <;> simp_all
   . rename_i hk
     rw [hk] at hx |-
     split at hx <;> simp_all
   . rename_i hk
     rw [hk] at hx |-
     split at hx <;> simp_all
   . rename_i e hk
     simp only [Bool.and_eq_true,decide_eq_true_eq] at h
     have heL : e ∈ Ls := by simpa using h.1.1.2
     rw [hk] at hx |-
     split at hx <;> rename_i hk' <;> try (first | (cases hk'; done) | (cases hx; done))
     . cases hk'; exact hx
     . rename_i e' a len cap
       cases hk'
       simp only at hx |-
       split at hx
       . rename_i hc
         rw [if_pos hc]
         simp only [if_true,Option.map_eq_some_iff,Option.bind_eq_some_iff] at hx |-
         obtain ⟨elems,he,rest,hrest,rfl⟩ := hx
         have one : ∀ (i : Nat) (y : DataW H × List MemPlace),y ∈ elems ++ rest ->
             (w.cells? 0 (a.add (i * P.cellsOf e)) (P.cellsOf e)).bind (DataW.trod enc P w 0 zsz true m e) = some y -> (w.cells? 0 (a.add (i * P.cellsOf e)) (P.cellsOf e)).bind (DataW.trod enc P w 0 sp true m e) = some y := by
           intro i y hy hv
           simp only [Option.bind_eq_some_iff] at hv |-
           obtain ⟨cs',hc',hy'⟩ := hv
           refine ⟨cs',hc',zh6 hL m e cs' y heL hy' fun p hp => hs p ?_⟩
           simp only [List.mem_append,List.mem_flatMap]
           right
           exact ⟨y,by simpa using hy,hp⟩
         refine ⟨elems,mapM_carry he (fun i y hi hy => one i y (by simp [hy])),rest,?_,rfl⟩
         by_cases hsp : sp a.block = true
         . rw [if_pos hsp]
           exact mapM_carry hrest (fun j y hj hy => one (len + j) y (by simp [hy]))
         . rw [if_neg hsp]
           have h0 : (elems.length + rest.length) * P.cellsOf e = 0 := by
             rcases Nat.eq_zero_or_pos ((elems.length + rest.length) * P.cellsOf e) with h0 | h0
             . exact h0
             . exact absurd (hs (.cell a.block (a.off + 0)) (by simp only [List.mem_append]; left; exact MemPlace.mem_row.2 ⟨0,h0,rfl⟩)) hsp
           have : elems.length + rest.length = 0 := by
             rcases Nat.mul_eq_zero.1 h0 with h1 | h1
             . exact h1
             . omega
           have : rest = [] := List.eq_nil_of_length_eq_zero (by omega)
           rw [this]
       . cases hx
   . rename_i e hk
     simp only [Bool.and_eq_true,decide_eq_true_eq] at h
     have he : e ∈ Ls := by simpa using h.2
     rw [hk] at hx |-
     split at hx <;> rename_i hk' <;> try (first | (cases hk'; done) | (cases hx; done))
     . cases hk'; exact hx
     . rename_i e' a
       cases hk'
       simp only [Option.map_eq_some_iff,Option.bind_eq_some_iff] at hx |-
       obtain ⟨y,⟨cs',hc,hy⟩,rfl⟩ := hx
       exact ⟨y,⟨cs',hc,zh6 hL m e cs' y he hy (fun p hp => hs p (by simp [hp]))⟩,rfl⟩
   . rename_i k e hk
     simp only [Bool.and_eq_true,decide_eq_true_eq] at h
     have he : e ∈ Ls := by simpa using h.2
     rw [hk] at hx |-
     simp only at hx |-
     split at hx
     . rename_i hc
       simp only [if_pos hc,Option.map_eq_some_iff] at hx |-
       obtain ⟨xs,hx,rfl⟩ := hx
       exact ⟨xs,mapM_carry hx (fun f y hf hy hv => zh6 hL m e _ y he hv (fun p hp => hs p (List.mem_flatMap.2 ⟨y,hy,hp⟩))),rfl⟩
     . cases hx
   . rename_i fs hk
     simp only [Bool.and_eq_true,List.all_eq_true,beq_iff_eq] at h
     have hfs : ∀ f ∈ fs.toList,f.type ∈ Ls := fun f hf => by simpa using h.1.1 f hf
     rw [hk] at hx |-
     simp only at hx |-
     split at hx
     . rename_i hc
       simp only [if_pos hc,Option.map_eq_some_iff] at hx |-
       obtain ⟨xs,hx,rfl⟩ := hx
       exact ⟨xs,mapM_carry hx (fun f y hf hy hv => zh6 hL m f.type _ y (hfs f hf) hv (fun p hp => hs p (List.mem_flatMap.2 ⟨y,hy,hp⟩))),rfl⟩
     . cases hx
   . cases h
theorem z99 {sp : Nat -> Bool} {Ls : List TypeId} (hL : zvu P Ls) {t : TypeId} {v : Value} {d : DataW H} {ps : List MemPlace} (hok : t ∈ Ls) (h : DataW.Trod enc P w 0 zsz true t v d ps)
   (hb : Below w.heap.size w w') (hs : ∀ p ∈ ps,sp p.block = true) : DataW.Trod enc P w' 0 sp true t v d ps := by
 obtain ⟨m,hm⟩ := h
 refine ⟨m,?_⟩
 have hlt := DataW.trod_lt _ _ _ _ hm
 exact DataW.trod_carry _ _ _ _ (zh6 hL m t _ _ hok hm hs) fun p hp => hb.same (hlt p hp)
def tysOk (P : Program) (ts : List TypeId) : Bool := (fun Ls => ts.all (fun t => Ls.contains t) && Ls.all fun t => ygt P Ls t) (yg1 P 300 ts [])
theorem tysOk_of {ts : List TypeId} (h : tysOk P ts = true) : ∃ Ls,zvu P Ls /\ ∀ t ∈ ts,t ∈ Ls := by
 simp only [tysOk,Bool.and_eq_true,List.all_eq_true] at h
 exact ⟨_,fun t ht => h.2 t ht,fun t ht => by simpa using h.1 t ht⟩
theorem zou {sp : Nat -> Bool} {Ls : List TypeId} (hL : zvu P Ls) (hb : Below w.heap.size w w') : ∀ {ts : List TypeId} {vs : List Value} {ds : List (DataW H)} {ps : List MemPlace},(∀ t ∈ ts,t ∈ Ls) -> DataW.TrodAll enc P w 0 zsz true ts vs ds ps ->
   (∀ p ∈ ps,sp p.block = true) -> DataW.TrodAll enc P w' 0 sp true ts vs ds ps
 | [],_,_,_,_,h,_ => by
   obtain ⟨rfl,rfl,rfl⟩ := trodAll_nil h
   exact trodAll_mk0
 | t :: ts,_,_,_,hk,h,hs => by
   obtain ⟨v,vs,d,ds,a,b,rfl,rfl,rfl,h1,h2⟩ := trodAll_cons h
   exact trodAll_cons_mk (z99 hL (hk t (by simp)) h1 hb fun p hp => hs p (by simp [hp])) (zou hL hb (fun u hu => hk u (by simp [hu])) h2 fun p hp => hs p (by simp [hp]))
def HasV0 (P : Program) (t : TypeId) (d : DV) : Prop :=
 match P.underlying t with
 | some (.struct _) => ∃ ds,d = .agg ds /\ ∃ n,Has P n t ds
 | some (.array _ _) => ∃ ds,d = .agg ds /\ ∃ n,Has P n t ds
 | _ => ∃ n,Has P n t [d]
def zds : Nat := 140737488355328
def z6h (d : DV) : Prop := ∀ L ∈ d.lens,L <= zds
def HasV (P : Program) (t : TypeId) (d : DV) : Prop := HasV0 P t d /\ z6h d
def z9i (P : Program) : List TypeId -> List DV -> Prop
 | [],ds => ds = []
 | t :: ts,ds => ∃ d r,ds = d :: r /\ HasV P t d /\ z9i P ts r
theorem dv_rep {B : DataW H -> Nat} {BA : List (DataW H) -> Nat} (hB : Bulk B BA) {Ls : List TypeId} (hL : zvu P Ls) {t : TypeId} {v : Value} {d : DataW H} {ps : List MemPlace} {base : Nat} (hval : Value.okWide P w .any base t v) (hok : t ∈ Ls) (h : DataW.Trod enc P w 0 zsz true t v d ps) (hw : ∀ x ∈ DataW.weights P t d,x <= reachBytes) :
   ∃ dv,HasV P t dv /\ VRep (oldF w) ze2 [] w dv v /\ dv.sz <= B d + 1 := by
 obtain ⟨m,hm⟩ := h
 obtain ⟨ds,⟨h1,h2⟩,h3,h4⟩ := zoj hB hL m t _ _ hok hm
 have hsm : ∀ L ∈ zcs ds,L <= zds := by
   intro L hL
   rcases h4 L hL with rfl | ⟨x,h5,h6⟩
   . exact Nat.zero_le _
   . have := hw x h5
     simp only [reachBytes,zds] at this |-
     omega
 unfold HasV HasV0
 split
 . rename_i fs hk
   simp only [Value.okWide,hk] at hval
   obtain ⟨cs,rfl,_,_⟩ := hval
   refine ⟨.agg ds,⟨⟨ds,rfl,m,h1⟩,by simpa [z6h,DV.lens] using hsm⟩,VRep.agg_mk (by simpa [Value.cells] using h2.1) fun j d hd => ?_,by simp only [DV.sz] at h3 |-; omega⟩
   obtain ⟨u,hu,hr⟩ := h2.2 j d hd
   exact ⟨u,by simpa [Value.cells] using hu,.imm hr⟩
 . rename_i k e hk
   simp only [Value.okWide,hk] at hval
   obtain ⟨cs,rfl,_,_⟩ := hval
   refine ⟨.agg ds,⟨⟨ds,rfl,m,h1⟩,by simpa [z6h,DV.lens] using hsm⟩,VRep.agg_mk (by simpa [Value.cells] using h2.1) fun j d hd => ?_,by simp only [DV.sz] at h3 |-; omega⟩
   obtain ⟨u,hu,hr⟩ := h2.2 j d hd
   exact ⟨u,by simpa [Value.cells] using hu,.imm hr⟩
 . rename_i hk hk2
   have one : ds.length = 1 /\ v.cells.toList = [v] := by
     have hc : ∀ cs,v ≠ .agg cs := by
       intro cs hv
       subst hv
       have hok := hL t hok
       unfold ygt at hok
       split at hok <;> rename_i hk' <;> simp_all [Value.okWide,Cell.okWide,Cell.ok]
     have hl : v.cells.toList = [v] := by cases v <;> first | rfl | exact absurd rfl (hc _)
     exact ⟨by rw [h2.1,hl]; rfl,hl⟩
   match ds,one.1 with
   | [dv],_ =>
     rw [one.2] at h2
     obtain ⟨u,us,e,hr,_⟩ := h2.cons
     cases e
     exact ⟨dv,⟨⟨m,h1⟩,by simpa [z6h,zcs] using hsm⟩,.imm hr,by simp only [szL] at h3; omega⟩
theorem yfk {B : DataW H -> Nat} {BA : List (DataW H) -> Nat} (hB : Bulk B BA) {Ls : List TypeId} (hL : zvu P Ls) {base : Nat} : ∀ {ts : List TypeId} {vs : List Value} {ds : List (DataW H)} {ps : List MemPlace},
   (∀ (j : Nat) t v,ts[j]? = some t -> vs[j]? = some v -> Value.okWide P w .any base t v) -> (∀ t ∈ ts,t ∈ Ls) -> DataW.TrodAll enc P w 0 zsz true ts vs ds ps -> (∀ x ∈ DataW.weightsEach P ts ds,x <= reachBytes) ->
   ∃ dvs,z9i P ts dvs /\ All2 (VRep (oldF w) ze2 [] w) dvs vs /\ szL dvs <= BA ds + ts.length
 | [],_,_,_,_,_,h,_ => by
   obtain ⟨rfl,rfl,rfl⟩ := trodAll_nil h
   exact ⟨[],rfl,.mk_nil,by simp [szL]⟩
 | t :: ts,_,_,_,hv,hk,h,hw => by
   obtain ⟨v,vs,d,ds,a,b,rfl,rfl,rfl,h1,h2⟩ := trodAll_cons h
   unfold DataW.weightsEach at hw
   obtain ⟨dv,r1,r2,r3⟩ := dv_rep hB hL (hv 0 t v rfl rfl) (hk t (by simp)) h1 fun x hx => hw x (List.mem_append.2 (.inl hx))
   obtain ⟨dvs,r4,r5,r6⟩ := yfk hB hL (fun j t v h h' => hv (j + 1) t v h h') (fun u hu => hk u (by simp [hu])) h2 fun x hx => hw x (List.mem_append.2 (.inr hx))
   exact ⟨dv :: dvs,⟨dv,dvs,rfl,r1,r4⟩,.mk_cons r2 r5,by have := hB.cons d ds; simp only [szL,List.length_cons]; omega⟩
theorem zxw {F' : Nat -> Prop} (h : Moves (oldF w) (oldF w) w F' w') : Below w.heap.size w w' := ⟨h.os,h.tape,h.output,h.size,fun k hk => h.keepK k hk⟩
theorem z0d {f : Func} {s : ChangeSpec} {apart fresh handsOn again : Bool} {W W' : World} {args : Array Value} {v : Value} {ds gs : List (DataW H)} {before pa pv : List MemPlace}
   (hW : DataW.Whole enc P f.params.toList s.vars apart W args.toList ds gs before)
   (hres : ∀ (b : Nat) (sp : Nat -> Bool) (hd : Bool),DataW.TrodAll enc P W' b sp hd f.resultTypes.toList (v.resultList f.resultTypes.size) (s.fn H (ds ++ gs)).results [])
   (hargs : ∀ sp : Nat -> Bool,(∀ p ∈ before,sp p.block = true) -> DataW.TrodAll enc P W' 0 sp true f.params.toList args.toList (s.fn H (ds ++ gs)).args pa)
   (hvars : ∀ sp : Nat -> Bool,(∀ p ∈ before,sp p.block = true) -> DataW.TrodVars enc P W' sp s.vars (s.fn H (ds ++ gs)).vars pv)
   (hps : before = pa ++ pv) (hb : Below W.heap.size W W')
   (hok : ∀ (j : Nat) (t : TypeId) (r : Value),f.resultTypes[j]? = some t -> (v.resultList f.resultTypes.size)[j]? = some r -> Value.okWide P W' .any 0 t r) :
   s.post enc P f apart fresh handsOn again W args v W' := by
 have hlt : ∀ p ∈ before,p.block < W.heap.size := fun p hp => hW.lt p hp
 have hold : ∀ p ∈ before,(fun b => decide (b < W.heap.size)) p.block = true := fun p hp => by simpa using hlt p hp
 refine ⟨ds,gs,before,[],pa,pv,hW,hres _ _ _,hargs _ hold,hvars _ hold,World.keptBut_mono (fun p hp => ⟨hp,?_⟩) (hb.frame (· ∈ before)),fun _ => ?_⟩
 . rw [hps,List.mem_append] at hp
   exact Or.inr hp
 . obtain ⟨_,_,_,_,_,hz,hn⟩ := hW
   refine ⟨hok,_,_,([] ++ pa) ++ pv,⟨[] ++ pa,pv,trodAll_append (hargs _ (fun _ _ => rfl)) (hres _ _ _),hvars _ (fun _ _ => rfl),rfl,?_,?_⟩,?_⟩
   . intro b off hp
     have hin : MemPlace.cell b off ∈ before := by rw [hps]; simpa using hp
     rw [hb.frozen (hlt _ hin)]
     exact hz b off hin
   . intro ha
     have := hn ha
     rw [hps] at this
     simpa using this
   . intro p hp _
     rw [hps]
     simpa using hp
theorem z2p [Inhabited Env] {f : FuncId} {fn : Func} {s : ChangeSpec} {apart fresh handsOn again : Bool} {tb : TypeId} {B : DataW H -> Nat} {BA : List (DataW H) -> Nat} (hB : Bulk B BA)
   (hp : tysOk P fn.params.toList = true) (hr : fn.resultTypes = #[tb]) (hb : P.underlying tb = some .bool) (hvars : s.vars = [])
   {W : World} {base : Nat} {args : Array Value} {ds gs : List (DataW H)} {before : List MemPlace}
   (hs : ∀ l : List (DataW H),l.length = fn.params.size -> (s.fn H l).results = [.lit (.bool true)] /\ (s.fn H l).args = l /\ (s.fn H l).vars = [])
   (hval : ∀ (j : Nat) t v,fn.params[j]? = some t -> args[j]? = some v -> Value.okWide P W .any base t v)
   (hW : DataW.Whole enc P fn.params.toList s.vars apart W args.toList ds gs before)
   (hsz : (DataW.weightsEach P (fn.params.toList ++ s.plain.varTypes P) (ds ++ gs)).all (· <= reachBytes) = true)
   (hX : XF (oldF W) W)
   (law : ∀ dvs,z9i P fn.params.toList dvs -> szL dvs <= BA (ds ++ gs) + fn.params.size -> zy3 P f dvs (.bool true)) :
   Calls P f args W fun e W' => ∃ v,e = .returned v /\ s.post enc P fn apart fresh handsOn again W args v W' := by
 have hW' := hW
 obtain ⟨p,q,hA,hV,rfl,hfz,hnd⟩ := hW
 rw [hvars] at hV
 obtain ⟨rfl,rfl⟩ := trodVars_none hV
 have hvt : s.plain.varTypes P = [] := by
   have : s.plain.vars = [] := hvars
   simp [DataSpec.varTypes,this]
 rw [hvt,List.append_nil,List.append_nil] at hsz
 simp only [List.all_eq_true,decide_eq_true_eq] at hsz
 obtain ⟨Ls,hL,hp⟩ := tysOk_of hp
 obtain ⟨dvs,h1,h2,h3⟩ := yfk hB hL (fun j t v a b => hval j t v (by simpa using a) (by simpa using b)) hp hA hsz
 have hlen : ∀ {ts : List TypeId} {vs : List Value} {ds : List (DataW H)} {ps : List MemPlace},DataW.TrodAll enc P W 0 zsz true ts vs ds ps -> ds.length = ts.length := by
   intro ts
   induction ts with
   | nil => intro vs ds ps h; obtain ⟨rfl,rfl,rfl⟩ := trodAll_nil h; rfl
   | cons t ts ih => intro vs ds ps h; obtain ⟨v,vs,d,ds,a,b,rfl,rfl,rfl,h1,h2⟩ := trodAll_cons h; simp [ih h2]
 have hl := hlen hA
 obtain ⟨s1,s2,s3⟩ := hs (ds ++ []) (by simpa using hl)
 refine (law dvs h1 (by simpa using h3) (oldF W) (oldF W) W args (fun _ h => h) (fun _ h => h) hX h2).mono ?_
 rintro e W' ⟨v,F',rfl,hm,_,hv⟩
 have e1 := hv.bool_inv
 subst e1
 have hbel := zxw hm
 refine ⟨_,rfl,z0d (pa := p) (pv := []) hW' (fun b sp hd => ?_) (fun sp h => ?_) (fun sp _ => ?_) (by simp) hbel (ok_one hr rfl (okWide_bool_mk hb _))⟩
 . rw [hr,s1]
   exact trodAll_cons_mk (shut_bool hb _) trodAll_mk0
 . rw [s2,List.append_nil]
   exact zou hL hbel hp hA fun p hp => h p (by simpa using hp)
 . rw [hvars,s3]
   exact rfl
end
end Go.Nk
set_option linter.all false
namespace Go.Nk
def Orc.nil : Orc := ⟨fun _ _ => (False,.undef),fun _ _ _ => no,fun _ _ => (False,[]),fun _ _ => (False,[])⟩
theorem ze0 {C : Orc} {h0 : Nat} : ∀ (c : DCode) (Q Q' : DExit -> DS -> Prop) (s : DS),(∀ e s,Q e s -> Q' e s) -> dwp C h0 c Q s -> dwp C h0 c Q' s := by
 have hdops : ∀ (l : List DOper) (s : DS) (K K' : DS -> Prop),(∀ s,K s -> K' s) -> dops C l s K -> dops C l s K' := by
   intro l
   induction l with
   | nil => intro s K K' h hk; exact h _ hk
   | cons o r ih =>
     intro s K K' h hk
     unfold dops zit at hk |-
     split at hk
     . exact ⟨hk.1,ih _ _ _ h hk.2⟩
     . split at hk
       . split at hk
         . rename_i e; rw [if_pos e]; exact ⟨hk.1,ih _ _ _ h hk.2⟩
         . rename_i e; rw [if_neg e]; exact ih _ _ _ h hk
       . exact ih _ _ _ h hk
       . exact hk.elim
 intro c
 induction c generalizing h0 with
 | skip => intro Q Q' s h hq; exact h _ _ hq
 | ops d l => intro Q Q' s h hq; exact hdops l s _ _ (h .normal) hq
 | opsS seps l => intro Q Q' s h hq; exact ⟨hq.1,hdops _ s _ _ (h .normal) hq.2⟩
 | opsP l => intro Q Q' s h hq; exact hdops _ s _ _ (h .normal) hq
 | seq a b iha ihb =>
   intro Q Q' s h hq
   refine iha _ _ s (fun e s' hh => ?_) hq
   cases e with
   | normal => exact ihb _ _ s' h hh
   | exit id => exact h _ _ hh
   | ret => exact h _ _ hh
 | cond x a b iha ihb =>
   intro Q Q' s h hq
   unfold dwp at hq |-
   split at hq
   . exact ⟨fun e => iha _ _ s h (hq.1 e),fun e => ihb _ _ s h (hq.2 e)⟩
   . exact ⟨iha _ _ s h hq.1,ihb _ _ s h hq.2⟩
   . exact hq.elim
 | block id c ih =>
   intro Q Q' s h hq
   refine ih _ _ s (fun e s' hh => ?_) hq
   cases e with
   | normal => exact h _ _ hh
   | exit k =>
     simp only [DExit.inBlock] at hh |-
     split at hh
     . rename_i e; rw [if_pos e]; exact h _ _ hh
     . rename_i e; rw [if_neg e]; exact h _ _ hh
   | ret => exact h _ _ hh
 | loop live m c ih =>
   intro Q Q' s h hq
   obtain ⟨h1,I,μ,h2,h3⟩ := hq
   refine ⟨h1,I,μ,h2,fun s' hs' => ih _ _ s' (fun e s'' hh => ?_) (h3 s' hs')⟩
   cases e with
   | normal => exact hh
   | exit id => exact h _ _ hh
   | ret => exact h _ _ hh
 | gown t off z c ih =>
   intro Q Q' s h hq
   unfold dwp at hq |-
   split at hq
   . split at hq
     . exact hq.elim (fun x => .inl ⟨x.1,ih _ _ _ h x.2⟩) (fun x => .inr (ih _ _ _ h x))
     . exact hq.elim
   . exact hq.elim
 | scope c ih => intro Q Q' s h hq; exact ih _ _ _ h hq
 | rsv c ih => intro Q Q' s h hq; exact ih _ _ _ h hq
 | bad => intro Q Q' s h hq; exact hq.elim
 | rangeF live m g ps asg c ihA ih =>
   intro Q Q' s h hq
   unfold dwp at hq |-
   obtain ⟨h1,hq⟩ := hq
   refine ⟨h1,?_⟩
   split at hq
   . obtain ⟨h2,h3,I,h4,h5,h6⟩ := hq
     refine ⟨h2,h3,I,h4,fun k x hp hi hx => ⟨(h5 k x hp hi hx).1,ihA _ _ _ (fun e s1 hA => ?_) (h5 k x hp hi hx).2⟩,fun hp hi => h _ _ (h6 hp hi)⟩
     cases e with
     | exit id => exact hA
     | ret => exact hA
     | normal =>
     refine ih _ _ _ (fun e s' hh => ?_) hA
     cases e with
     | normal => exact hh
     | exit id => exact h _ _ hh
     | ret => exact h _ _ hh
   . exact hq.elim
 | cut live m c ih => intro Q Q' s h hq; exact ⟨hq.1,ih _ _ _ h hq.2⟩
 | exit id => intro Q Q' s h hq; exact h _ _ hq
 | ret => intro Q Q' s h hq; exact h _ _ hq
theorem zfk {C : Orc} {h0 : Nat} {live : List Nat} {m : Option Nat} {c : DCode} {Q : DExit -> DS -> Prop} {s : DS} {α : Type} (st : α -> DS) (Inv : α -> Prop) (μ : α -> Nat) (a0 : α)
   (hm : match m with | some k => h0 <= k | none => True) (hs : s.cut live m = st a0) (hi : Inv a0)
   (step : ∀ a,Inv a -> dwp C h0 c (DExit.then (fun s' => ∃ a',s'.cut live m = st a' /\ Inv a' /\ μ a' < μ a) Q) (st a)) : dwp C h0 (.loop live m c) Q s := by
 classical
 have hmono := @ze0 C h0
 let has : DS -> Nat -> Prop := fun s n => ∃ a,s = st a /\ Inv a /\ μ a = n
 have hleast : ∀ s : DS,∃ k,(∃ n,has s n) -> has s k /\ ∀ m,has s m -> k <= m := by
   intro s
   by_cases hx : ∃ n,has s n
   . obtain ⟨n,hn⟩ := hx
     induction n using Nat.strongRecOn with
     | _ n ih =>
       by_cases hy : ∃ m,m < n /\ has s m
       . obtain ⟨m,h1,h2⟩ := hy
         exact ih m h1 h2
       . exact ⟨n,fun _ => ⟨hn,fun m hm => by
           rcases Nat.lt_or_ge m n with h | h
           . exact absurd ⟨m,h,hm⟩ hy
           . exact h⟩⟩
   . exact ⟨0,fun h => absurd h hx⟩
 obtain ⟨least,hleast⟩ := Classical.axiomOfChoice hleast
 refine ⟨hm,fun s => ∃ n,has s n,least,⟨μ a0,a0,hs,hi,rfl⟩,fun s' hs' => ?_⟩
 have hl : has s' (least s') := (hleast s' hs').1
 obtain ⟨a,rfl,h1,h2⟩ := hl
 refine hmono c _ _ _ (fun e s'' hh => ?_) (step a h1)
 cases e with
 | normal =>
   obtain ⟨a',e1,e2,e3⟩ := hh
   have hx : ∃ n,has (s''.cut live m) n := ⟨μ a',a',e1,e2,rfl⟩
   refine ⟨hx,?_⟩
   have : least (s''.cut live m) <= μ a' := (hleast _ hx).2 _ ⟨a',e1,e2,rfl⟩
   omega
 | exit id => exact hh
 | ret => exact hh
section
variable {C : Orc} {h0 : Nat} {Q : DExit -> DS -> Prop} {s : DS}
theorem z9e : dwp C h0 .skip Q s = Q .normal s := rfl
theorem z5h {b : Bool} {l : List DOper} : dwp C h0 (.ops b l) Q s = dops C l s (Q .normal) := rfl
theorem z80 {seps : List (Nat × Nat)} {l : List (Nat × DOper)} : dwp C h0 (.opsS seps l) Q s = (zjq seps s.fr /\ dops C (l.map (·.2)) s (Q .normal)) := rfl
theorem z9d {l : List (Nat × DOper)} : dwp C h0 (.opsP l) Q s = dops C (l.map (·.2)) s (Q .normal) := rfl
theorem yev {a b : DCode} : dwp C h0 (.seq a b) Q s = dwp C h0 a (DExit.then (dwp C h0 b Q) Q) s := rfl
theorem z3u {id : Nat} {c : DCode} : dwp C h0 (.block id c) Q s = dwp C h0 c (DExit.inBlock id Q) s := rfl
theorem yd2 {c : DCode} : dwp C h0 (.scope c) Q s = dwp C h0 c Q s := rfl
theorem yfj {c : DCode} : dwp C h0 (.rsv c) Q s = dwp C h0 c Q ⟨s.fr,s.hp ++ [⟨.dead,0,[]⟩]⟩ := rfl
theorem z9l {t off z : Nat} {c : DCode} : dwp C h0 (.gown t off z c) Q s = (match get t s.fr with
   | .ptr h L i j => match s.hp[h]? with
     | some o => ((o.k = .loc /\ o.es.length = L /\ i < L /\ (o.es.getD i [])[j + off]? = some .nil) /\
         dwp C h0 c Q ⟨s.fr,s.hp.set h { o with es := o.es.set i ((o.es.getD i []).set (j + off) (.own s.hp.length 0 0 0)) } ++ [⟨.imm,z,[]⟩]⟩) \/ dwp C h0 c Q s
     | none => False
   | _ => False) := rfl
theorem zef {t off z : Nat} {c : DCode} (h : match get t s.fr with
   | .ptr h L i j => match s.hp[h]? with
     | some o => (o.k = .loc /\ o.es.length = L /\ i < L /\ (o.es.getD i [])[j + off]? = some .nil) /\
         dwp C h0 c Q ⟨s.fr,s.hp.set h { o with es := o.es.set i ((o.es.getD i []).set (j + off) (.own s.hp.length 0 0 0)) } ++ [⟨.imm,z,[]⟩]⟩
     | none => False
   | _ => False) : dwp C h0 (.gown t off z c) Q s := by
 rw [z9l]
 split at h
 . split at h
   . exact .inl h
   . exact h.elim
 . exact h.elim
theorem z92 {id : Nat} : dwp C h0 (.exit id) Q s = Q (.exit id) s := rfl
theorem ygw : dwp C h0 .ret Q s = Q .ret s := rfl
theorem zab {c : DA} {a b : DCode} : dwp C h0 (.cond c a b) Q s = (match c.ev s.fr with
   | .bool t => if t = true then dwp C h0 a Q s else dwp C h0 b Q s
   | .anyb => dwp C h0 a Q s /\ dwp C h0 b Q s
   | _ => False) := by
 simp only [dwp]
 generalize c.ev s.fr = d
 cases d with
 | bool t => cases t <;> simp
 | _ => rfl
theorem z9s {K : DS -> Prop} : dops C [] s K = K s := rfl
theorem z4n {dst : Option Nat} {op : DOp} {r : List DOper} {K : DS -> Prop} : dops C (⟨dst,op,none⟩ :: r) s K = ((zb C op s).pre /\ dops C r (s.put dst (zb C op s)) K) := rfl
theorem zkj {dst : Option Nat} {op : DOp} {g : Nat} {b : Bool} {r : List DOper} {K : DS -> Prop} : dops C (⟨dst,op,some (g,b)⟩ :: r) s K = (match get g s.fr with
   | .bool b' => if b' = b then (zb C op s).pre /\ dops C r (s.put dst (zb C op s)) K else dops C r (s.put dst ⟨True,.tup [],s.hp⟩) K
   | .tup [] => dops C r (s.put dst ⟨True,.tup [],s.hp⟩) K
   | _ => False) := rfl
theorem zvq {next : DS -> Prop} : DExit.then next Q .normal s = next s := rfl
theorem z23 {next : DS -> Prop} {id : Nat} : DExit.then next Q (.exit id) s = Q (.exit id) s := rfl
theorem z84 {next : DS -> Prop} : DExit.then next Q .ret s = Q .ret s := rfl
theorem zlm {id : Nat} : DExit.inBlock id Q .normal s = Q .normal s := rfl
theorem zr5 {id k : Nat} : DExit.inBlock id Q (.exit k) s = if k = id then Q .normal s else Q (.exit k) s := rfl
theorem zv0 {id : Nat} : DExit.inBlock id Q .ret s = Q .ret s := rfl
theorem z72 {d : Nat} {r : Res} : s.put (some d) r = ⟨(d,r.val) :: s.fr,r.hp⟩ := rfl
theorem z7t {r : Res} : s.put none r = ⟨s.fr,r.hp⟩ := rfl
theorem ev_t {n : Nat} {fr : List (Nat × DV)} : (DA.t n).ev fr = get n fr := rfl
theorem ev_c {d : DV} {fr : List (Nat × DV)} : (DA.c d).ev fr = d := rfl
theorem zg {live : List Nat} {m : Nat} : s.cut live (some m) = ⟨live.map fun t => (t,(get t s.fr).cut m),(s.hp.take m).map (DObj.cut m)⟩ := rfl
theorem zfi {live : List Nat} : s.cut live none = ⟨live.map fun t => (t,get t s.fr),s.hp⟩ := rfl
theorem zuj {res : List DR} {r : DV} : EndP res r .normal s = ((retV s res).1 /\ (fzT s.hp (retV s res).2).pre /\ (fzT s.hp (retV s res).2).val = r) := rfl
theorem z9y {res : List DR} {r : DV} : EndP res r .ret s = ((retV s res).1 /\ (fzT s.hp (retV s res).2).pre /\ (fzT s.hp (retV s res).2).val = r) := rfl
theorem zu9 {res : List DR} {r : DV} {hp' : List DObj} : EndH res r hp' .normal s = ((retV s res).1 /\ (retV s res).2 = r /\ s.hp = hp') := rfl
theorem z9n {res : List DR} {r : DV} {hp' : List DObj} : EndH res r hp' .ret s = ((retV s res).1 /\ (retV s res).2 = r /\ s.hp = hp') := rfl
end
theorem z9 {n : Int} (h : -9223372036854775808 <= n /\ n < 9223372036854775808) : IntKind.i64.wrap n = n := by rw [IntKind.wrap_i64]; omega
def bsl (l : List UInt8) : List (List DV) := l.map fun b => [.int .u8 b.toNat]
def unb : List (List DV) -> Option (List UInt8)
 | [] => some []
 | [.int .u8 n] :: r => if 0 <= n /\ n < 256 then (unb r).map (UInt8.ofNat n.toNat :: ·) else none
 | _ => none
theorem zw2 : ∀ l : List UInt8,unb (bsl l) = some l
 | [] => rfl
 | b :: l => by
   have h := zw2 l
   unfold bsl at h |-
   have h1 : b.toNat < 256 := b.toNat_lt
   simp only [List.map_cons,unb]
   rw [if_pos (by omega),h]
   simp
theorem zfg (l : List UInt8) : (bsl l).length = l.length := by simp [bsl]
theorem z9b (l : List UInt8) (n : Nat) : (bsl l).drop n = bsl (l.drop n) := by simp [bsl]
theorem z9z (l : List UInt8) (n : Nat) : (bsl l).take n = bsl (l.take n) := by simp [bsl]
theorem zz2 {l : List UInt8} : ∀ e ∈ bsl l,e.length = 1 := by
 intro e he
 simp only [bsl,List.mem_map] at he
 obtain ⟨b,_,rfl⟩ := he
 rfl
end Go.Nk
namespace Go.Nk
def z8k (f : List UInt8 -> Prop × DV) : List DV -> Prop × DV
 | [.sl es] => match unb es with
   | some l => f l
   | none => (False,.undef)
 | _ => (False,.undef)
def zsf (f : List UInt8 -> List UInt8 -> Prop × DV) : List DV -> Prop × DV
 | [.sl es,.sl es'] => match unb es,unb es' with
   | some l,some l' => f l l'
   | _,_ => (False,.undef)
 | _ => (False,.undef)
theorem z2q (f : List UInt8 -> Prop × DV) (l : List UInt8) : z8k f [.sl (bsl l)] = f l := by simp [z8k,zw2]
theorem z2c (f : List UInt8 -> List UInt8 -> Prop × DV) (l l' : List UInt8) : zsf f [.sl (bsl l),.sl (bsl l')] = f l l' := by simp [zsf,zw2]
end Go.Nk
namespace Go.Nk
theorem z8s (a b : UInt8) : ((a.toNat : Int) != (b.toNat : Int)) = (a != b) := by
 have : (a.toNat : Int) = (b.toNat : Int) ↔ a = b := by
   rw [Int.natCast_inj]
   exact UInt8.toNat_inj
 by_cases h : a = b
 . simp [h]
 . have h2 : ¬ (a.toNat : Int) = (b.toNat : Int) := fun e => h (this.1 e)
   simp [bne,h,beq_eq_false_iff_ne.2 h2]
theorem z73 (a b : UInt8) : ((a.toNat : Int) == (b.toNat : Int)) = (a == b) := by
 have := z8s a b
 simp only [bne] at this
 cases h1 : ((a.toNat : Int) == (b.toNat : Int)) <;> cases h2 : (a == b) <;> simp_all
end Go.Nk
namespace Go.Nk
theorem z9h {hp : List DObj} {l : List UInt8} {k : IntKind} {a : Int} : zc2 hp 1 (.sl (bsl l)) (some (.int k a)) none none = (0 <= a /\ a <= l.length,.sl (bsl (l.drop a.toNat))) := by
 simp only [zc2,zbq,zfg,Option.isSome_none,Int.toNat_natCast,Prod.mk.injEq]
 refine ⟨propext ⟨fun h => ⟨h.2.2.2.2.2.1,h.2.2.2.2.2.2.1⟩,fun h => ⟨zz2,trivial,trivial,trivial,by simp,h.1,h.2,Int.le_refl _,Int.le_refl _⟩⟩,?_⟩
 rw [List.take_of_length_le (by simp [zfg]),z9b]
theorem z8b {hp : List DObj} {l : List UInt8} {k : IntKind} {a : Int} : zc2 hp 1 (.sl (bsl l)) none (some (.int k a)) none = (0 <= a /\ a <= l.length,.sl (bsl (l.take a.toNat))) := by
 simp only [zc2,zbq,zfg,Option.isSome_none,Prod.mk.injEq]
 refine ⟨propext ⟨fun h => ⟨h.2.2.2.2.2.2.1,h.2.2.2.2.2.2.2.2⟩,fun h => ⟨zz2,trivial,trivial,trivial,by simp,Int.le_refl _,h.1,Int.le_refl _,h.2⟩⟩,?_⟩
 rw [z9z]; rfl
theorem zyd {hp : List DObj} {l : List UInt8} {k k' : IntKind} {a b : Int} : zc2 hp 1 (.sl (bsl l)) (some (.int k a)) (some (.int k' b)) none = (0 <= a /\ a <= b /\ b <= l.length,.sl (bsl ((l.take b.toNat).drop a.toNat))) := by
 simp only [zc2,zbq,zfg,Option.isSome_none,Prod.mk.injEq]
 refine ⟨propext ⟨fun h => ⟨h.2.2.2.2.2.1,h.2.2.2.2.2.2.1,h.2.2.2.2.2.2.2.2⟩,fun h => ⟨zz2,trivial,trivial,trivial,by simp,h.1,h.2.1,Int.le_refl _,h.2.2⟩⟩,?_⟩
 rw [z9z,z9b]
end Go.Nk
set_option linter.all false
namespace Go.Nk
section
variable {P : Program} {t e : TypeId} {d : DV}
theorem zyh : ∀ es : List (List DV),(∀ x ∈ es,∃ i,x = [.int .u8 i] /\ (Lit.int .u8 i).wf = true) -> ∃ l,es = bsl l
 | [],_ => ⟨[],rfl⟩
 | x :: es,h => by
   obtain ⟨l,rfl⟩ := zyh es fun y hy => h y (by simp [hy])
   obtain ⟨i,rfl,hw⟩ := h x (by simp)
   have hi : 0 <= i /\ i <= 255 := by simpa [Lit.wf,IntKind.min,IntKind.max,IntKind.signed,IntKind.bits] using hw
   refine ⟨UInt8.ofNat i.toNat :: l,?_⟩
   simp only [bsl,List.map_cons,List.cons.injEq,DV.int.injEq,true_and,and_true]
   rw [UInt8.toNat_ofNat']
   omega
end
end Go.Nk
set_option linter.all false
namespace Go.Nk
def OkP [Inhabited Env] (P : Program) (f : FuncId) (s : List DV -> Prop × DV) : Prop := ∀ a,(s a).1 -> zcj P f = true /\ zy3 P f a (s a).2
def OkH [Inhabited Env] (P : Program) (f : FuncId) (s : List DV -> List DObj -> Res) : Prop := ∀ a hp,(s a hp).pre -> zcj P f = true /\ z37 P f a hp (s a hp).val (s a hp).hp
def pOf : List (FuncId × (List DV -> Prop × DV)) -> FuncId -> List DV -> Prop × DV
 | [],_,_ => (False,.undef)
 | (f,s) :: r,g,a => if g = f then s a else pOf r g a
def hOf : List (FuncId × (List DV -> List DObj -> Res)) -> FuncId -> List DV -> List DObj -> Res
 | [],_,_,_ => no
 | (f,s) :: r,g,a,hp => if g = f then s a hp else hOf r g a hp
def iOf : List (FuncId × (List DV -> Prop × List (List DV))) -> FuncId -> List DV -> Prop × List (List DV)
 | [],_,_ => (False,[])
 | (f,s) :: r,g,a => if g = f then s a else iOf r g a
def Orc.ofW (ps : List (FuncId × (List DV -> Prop × DV))) (hs : List (FuncId × (List DV -> List DObj -> Res))) (is ws : List (FuncId × (List DV -> Prop × List (List DV)))) : Orc := ⟨pOf ps,hOf hs,iOf is,iOf ws⟩
def Orc.ofI (ps : List (FuncId × (List DV -> Prop × DV))) (hs : List (FuncId × (List DV -> List DObj -> Res))) (is : List (FuncId × (List DV -> Prop × List (List DV)))) : Orc := Orc.ofW ps hs is []
def Orc.of (ps : List (FuncId × (List DV -> Prop × DV))) (hs : List (FuncId × (List DV -> List DObj -> Res))) : Orc := Orc.ofI ps hs []
theorem of_p (ps hs) (f : FuncId) (a : List DV) : (Orc.of ps hs).p f a = pOf ps f a := rfl
theorem of_h (ps hs) (f : FuncId) (a : List DV) (hp : List DObj) : (Orc.of ps hs).h f a hp = hOf hs f a hp := rfl
theorem z1t (f : FuncId) (s : List DV -> Prop × DV) (r) (g : FuncId) (a : List DV) : pOf ((f,s) :: r) g a = if g = f then s a else pOf r g a := rfl
theorem zzp (f : FuncId) (s : List DV -> List DObj -> Res) (r) (g : FuncId) (a : List DV) (hp : List DObj) : hOf ((f,s) :: r) g a hp = if g = f then s a hp else hOf r g a hp := rfl
def AllP [Inhabited Env] (P : Program) : List (FuncId × (List DV -> Prop × DV)) -> Prop
 | [] => True
 | (f,s) :: r => OkP P f s /\ AllP P r
def AllH [Inhabited Env] (P : Program) : List (FuncId × (List DV -> List DObj -> Res)) -> Prop
 | [] => True
 | (f,s) :: r => OkH P f s /\ AllH P r
def OkI [Inhabited Env] (P : Program) (f : FuncId) (s : List DV -> Prop × List (List DV)) : Prop := ∀ a,(s a).1 -> zcj P f = true /\ z8q P f a (s a).2
def AllI [Inhabited Env] (P : Program) : List (FuncId × (List DV -> Prop × List (List DV))) -> Prop
 | [] => True
 | (f,s) :: r => OkI P f s /\ AllI P r
def OkW [Inhabited Env] (P : Program) (f : FuncId) (s : List DV -> Prop × List (List DV)) : Prop := ∀ a,(s a).1 -> zcj P f = true /\ z9o P f a (s a).2
def AllW [Inhabited Env] (P : Program) : List (FuncId × (List DV -> Prop × List (List DV))) -> Prop
 | [] => True
 | (f,s) :: r => OkW P f s /\ AllW P r
theorem ydk [Inhabited Env] {P : Program} {ps hs is ws} (h1 : AllP P ps) (h2 : AllH P hs) (h3 : AllI P is) (h4 : AllW P ws) : (Orc.ofW ps hs is ws).ok P := by
 refine ⟨?_,?_,?_,?_⟩
 . intro f a h
   change (pOf ps f a).1 at h
   change zcj P f = true /\ zy3 P f a (pOf ps f a).2
   induction ps with
   | nil => exact h.elim
   | cons x r ih =>
     obtain ⟨g,s⟩ := x
     simp only [z1t] at h |- ih
     by_cases e : f = g
     . simp only [if_pos e] at h |-
       subst e
       exact h1.1 a h
     . simp only [if_neg e] at h |-
       exact ih h1.2 h
 . intro f a hp h
   change (hOf hs f a hp).pre at h
   change zcj P f = true /\ z37 P f a hp (hOf hs f a hp).val (hOf hs f a hp).hp
   induction hs with
   | nil => exact h.elim
   | cons x r ih =>
     obtain ⟨g,s⟩ := x
     simp only [zzp] at h |- ih
     by_cases e : f = g
     . simp only [if_pos e] at h |-
       subst e
       exact h2.1 a hp h
     . simp only [if_neg e] at h |-
       exact ih h2.2 h
 . intro f a h
   change (iOf is f a).1 at h
   change zcj P f = true /\ z8q P f a (iOf is f a).2
   induction is with
   | nil => exact h.elim
   | cons x r ih =>
     obtain ⟨g,s⟩ := x
     simp only [iOf] at h |- ih
     by_cases e : f = g
     . simp only [if_pos e] at h |-
       subst e
       exact h3.1 a h
     . simp only [if_neg e] at h |-
       exact ih h3.2 h
 . intro f a h
   change (iOf ws f a).1 at h
   change zcj P f = true /\ z9o P f a (iOf ws f a).2
   induction ws with
   | nil => exact h.elim
   | cons x r ih =>
     obtain ⟨g,s⟩ := x
     simp only [iOf] at h |- ih
     by_cases e : f = g
     . simp only [if_pos e] at h |-
       subst e
       exact h4.1 a h
     . simp only [if_neg e] at h |-
       exact ih h4.2 h
theorem z86 [Inhabited Env] {P : Program} {ps hs is} (h1 : AllP P ps) (h2 : AllH P hs) (h3 : AllI P is) : (Orc.ofI ps hs is).ok P := ydk h1 h2 h3 trivial
theorem of_ok [Inhabited Env] {P : Program} {ps hs} (h1 : AllP P ps) (h2 : AllH P hs) : (Orc.of ps hs).ok P := z86 h1 h2 trivial
theorem OkP.mk [Inhabited Env] {P : Program} {ps hs} {f : FuncId} {s : List DV -> Prop × DV} {d : DFun} {n : Nat} (h1 : AllP P ps) (h2 : AllH P hs) (hm : mFun P f n d = true)
   (h : ∀ args,(s args).1 -> args.length = n /\ dwp (Orc.of ps hs) 0 d.code (EndP d.res (s args).2) ⟨zn 0 args,[]⟩) : OkP P f s := by
 intro a ha
 obtain ⟨e,hw⟩ := h a ha
 exact ztz (of_ok h1 h2) (by rw [e]; exact hm) hw
theorem OkH.mk [Inhabited Env] {P : Program} {ps hs} {f : FuncId} {s : List DV -> List DObj -> Res} {d : DFun} {n : Nat} (h1 : AllP P ps) (h2 : AllH P hs) (hm : mFun P f n d = true)
   (h : ∀ args hp,(s args hp).pre -> args.length = n /\ dwp (Orc.of ps hs) hp.length d.code (EndH d.res (s args hp).val (s args hp).hp) ⟨zn 0 args,hp⟩) : OkH P f s := by
 intro a hp ha
 obtain ⟨e,hw⟩ := h a hp ha
 exact ye3 (of_ok h1 h2) (by rw [e]; exact hm) hw
def Inj {α : Type} (e : α -> DV) : Prop := ∀ x y,e x = e y -> x = y
open Classical in
noncomputable def ybi (r : Prop × DV) : List DV -> Prop × DV := fun args => if args = [] then r else (False,.undef)
open Classical in
noncomputable def zbp {α : Type} (e : α -> DV) (f : α -> Prop × DV) : List DV -> Prop × DV := fun args =>
 if h : ∃ a,args = [e a] then f h.choose else (False,.undef)
open Classical in
noncomputable def zbw {α β : Type} (e : α -> DV) (e' : β -> DV) (f : α -> β -> Prop × DV) : List DV -> Prop × DV := fun args =>
 if h : ∃ x : α × β,args = [e x.1,e' x.2] then f h.choose.1 h.choose.2 else (False,.undef)
open Classical in
noncomputable def zec {α β γ : Type} (e : α -> DV) (e' : β -> DV) (e'' : γ -> DV) (f : α -> β -> γ -> Prop × DV) : List DV -> Prop × DV := fun args =>
 if h : ∃ x : α × β × γ,args = [e x.1,e' x.2.1,e'' x.2.2] then f h.choose.1 h.choose.2.1 h.choose.2.2 else (False,.undef)
open Classical in
noncomputable def zxn {α β γ δ : Type} (e : α -> DV) (e' : β -> DV) (e'' : γ -> DV) (e3 : δ -> DV) (f : α -> β -> γ -> δ -> Prop × DV) : List DV -> Prop × DV := fun args =>
 if h : ∃ x : α × β × γ × δ,args = [e x.1,e' x.2.1,e'' x.2.2.1,e3 x.2.2.2] then f h.choose.1 h.choose.2.1 h.choose.2.2.1 h.choose.2.2.2 else (False,.undef)
theorem ztu (r : Prop × DV) : ybi r [] = r := by simp [ybi]
theorem z8 {α : Type} {e : α -> DV} (h : Inj e) (f : α -> Prop × DV) (a : α) : zbp e f [e a] = f a := by
 unfold zbp
 have hx : ∃ b,[e a] = [e b] := ⟨a,rfl⟩
 rw [dif_pos hx]
 have hy := hx.choose_spec
 generalize hx.choose = x at hy |-
 rw [h _ _ (List.cons.inj hy).1]
theorem zac {α β : Type} {e : α -> DV} {e' : β -> DV} (h : Inj e) (h' : Inj e') (f : α -> β -> Prop × DV) (a : α) (b : β) : zbw e e' f [e a,e' b] = f a b := by
 unfold zbw
 have hx : ∃ x : α × β,[e a,e' b] = [e x.1,e' x.2] := ⟨(a,b),rfl⟩
 rw [dif_pos hx]
 have hy := hx.choose_spec
 generalize hx.choose = x at hy |-
 have h1 := List.cons.inj hy
 rw [h _ _ h1.1,h' _ _ (List.cons.inj h1.2).1]
theorem za2 {α β γ : Type} {e : α -> DV} {e' : β -> DV} {e'' : γ -> DV} (h : Inj e) (h' : Inj e') (h'' : Inj e'') (f : α -> β -> γ -> Prop × DV) (a : α) (b : β) (c : γ) : zec e e' e'' f [e a,e' b,e'' c] = f a b c := by
 unfold zec
 have hx : ∃ x : α × β × γ,[e a,e' b,e'' c] = [e x.1,e' x.2.1,e'' x.2.2] := ⟨(a,b,c),rfl⟩
 rw [dif_pos hx]
 have hy := hx.choose_spec
 generalize hx.choose = x at hy |-
 have h1 := List.cons.inj hy
 have h2 := List.cons.inj h1.2
 rw [h _ _ h1.1,h' _ _ h2.1,h'' _ _ (List.cons.inj h2.2).1]
theorem zzn {α β γ δ : Type} {e : α -> DV} {e' : β -> DV} {e'' : γ -> DV} {e3 : δ -> DV} (h : Inj e) (h' : Inj e') (h'' : Inj e'') (h3 : Inj e3) (f : α -> β -> γ -> δ -> Prop × DV) (a : α) (b : β) (c : γ) (d : δ) : zxn e e' e'' e3 f [e a,e' b,e'' c,e3 d] = f a b c d := by
 unfold zxn
 have hx : ∃ x : α × β × γ × δ,[e a,e' b,e'' c,e3 d] = [e x.1,e' x.2.1,e'' x.2.2.1,e3 x.2.2.2] := ⟨(a,b,c,d),rfl⟩
 rw [dif_pos hx]
 have hy := hx.choose_spec
 generalize hx.choose = x at hy |-
 have h1 := List.cons.inj hy
 have h2 := List.cons.inj h1.2
 have h4 := List.cons.inj h2.2
 rw [h _ _ h1.1,h' _ _ h2.1,h'' _ _ h4.1,h3 _ _ (List.cons.inj h4.2).1]
section
variable {P : Program} {ps : List (FuncId × (List DV -> Prop × DV))} {hs : List (FuncId × (List DV -> List DObj -> Res))} {g : FuncId} {d : DFun}
theorem OkP.mk0 [Inhabited Env] {r : Prop × DV} (h1 : AllP P ps) (h2 : AllH P hs) (hm : mFun P g 0 d = true)
   (k : r.1 -> dwp (Orc.of ps hs) 0 d.code (EndP d.res r.2) ⟨[],[]⟩) : OkP P g (ybi r) := by
 refine OkP.mk h1 h2 hm fun args hp => ?_
 unfold ybi at hp |-
 split at hp
 . rename_i h
   subst h
   rw [if_pos rfl]
   exact ⟨rfl,k hp⟩
 . exact hp.elim
theorem OkP.mk1 [Inhabited Env] {α : Type} {e : α -> DV} {f : α -> Prop × DV} (h1 : AllP P ps) (h2 : AllH P hs) (hm : mFun P g 1 d = true)
   (k : ∀ a,(f a).1 -> dwp (Orc.of ps hs) 0 d.code (EndP d.res (f a).2) ⟨[(0,e a)],[]⟩) : OkP P g (zbp e f) := by
 refine OkP.mk h1 h2 hm fun args hp => ?_
 unfold zbp at hp |-
 split at hp
 . rename_i h
   rw [dif_pos h]
   have hx := h.choose_spec
   have := k _ hp
   generalize h.choose = a at *
   subst hx
   exact ⟨rfl,this⟩
 . exact hp.elim
theorem OkP.mk2 [Inhabited Env] {α β : Type} {e : α -> DV} {e' : β -> DV} {f : α -> β -> Prop × DV} (h1 : AllP P ps) (h2 : AllH P hs) (hm : mFun P g 2 d = true)
   (k : ∀ a b,(f a b).1 -> dwp (Orc.of ps hs) 0 d.code (EndP d.res (f a b).2) ⟨[(0,e a),(1,e' b)],[]⟩) : OkP P g (zbw e e' f) := by
 refine OkP.mk h1 h2 hm fun args hp => ?_
 unfold zbw at hp |-
 split at hp
 . rename_i h
   rw [dif_pos h]
   have hx := h.choose_spec
   have := k _ _ hp
   generalize h.choose = a at *
   subst hx
   exact ⟨rfl,this⟩
 . exact hp.elim
theorem OkP.mk3 [Inhabited Env] {α β γ : Type} {e : α -> DV} {e' : β -> DV} {e'' : γ -> DV} {f : α -> β -> γ -> Prop × DV} (h1 : AllP P ps) (h2 : AllH P hs) (hm : mFun P g 3 d = true)
   (k : ∀ a b c,(f a b c).1 -> dwp (Orc.of ps hs) 0 d.code (EndP d.res (f a b c).2) ⟨[(0,e a),(1,e' b),(2,e'' c)],[]⟩) : OkP P g (zec e e' e'' f) := by
 refine OkP.mk h1 h2 hm fun args hp => ?_
 unfold zec at hp |-
 split at hp
 . rename_i h
   rw [dif_pos h]
   have hx := h.choose_spec
   have := k _ _ _ hp
   generalize h.choose = a at *
   subst hx
   exact ⟨rfl,this⟩
 . exact hp.elim
theorem OkP.mk4 [Inhabited Env] {α β γ δ : Type} {e : α -> DV} {e' : β -> DV} {e'' : γ -> DV} {e3 : δ -> DV} {f : α -> β -> γ -> δ -> Prop × DV} (h1 : AllP P ps) (h2 : AllH P hs) (hm : mFun P g 4 d = true)
   (k : ∀ a b c d',(f a b c d').1 -> dwp (Orc.of ps hs) 0 d.code (EndP d.res (f a b c d').2) ⟨[(0,e a),(1,e' b),(2,e'' c),(3,e3 d')],[]⟩) : OkP P g (zxn e e' e'' e3 f) := by
 refine OkP.mk h1 h2 hm fun args hp => ?_
 unfold zxn at hp |-
 split at hp
 . rename_i h
   rw [dif_pos h]
   have hx := h.choose_spec
   have := k _ _ _ _ hp
   generalize h.choose = a at *
   subst hx
   exact ⟨rfl,this⟩
 . exact hp.elim
end
theorem zm {α : Type} (c : α -> List DV) {l : List α} {k : Nat} {x : α} (h : l[k]? = some x) : (l.map c).getD k [] = c x := by
 simp [List.getD,h]
def InjL {α β : Type} (c : α -> β) : Prop := ∀ x y,c x = c y -> x = y
theorem zz9 {n : Nat} {hp : List DObj} {o : DObj} : Only (some n) hp (hp.set n o) := by
 intro h _ e
 have : n ≠ h := fun c => e (congrArg some c)
 rw [List.getElem?_set_ne this]
theorem z3y {x : Option Nat} {hp : List DObj} : Only x hp hp := fun _ _ _ => rfl
theorem zhv {a b : DObj} {l l' : List DObj} (hl : l' = l) : Only (some 0) (a :: l) (b :: l') := by
 subst hl
 intro h _ e
 cases h with
 | zero => exact absurd rfl e
 | succ n => simp
theorem zhy {k : Nat} {a b : DObj} {l l' : List DObj} (hb : b = a) (h : Only (some k) l l') : Only (some (k + 1)) (a :: l) (b :: l') := by
 subst hb
 intro i hi e
 cases i with
 | zero => simp
 | succ n => simpa using h n (by simpa using hi) (fun c => e (by injection c with c; rw [c]))
theorem yfn {β : Type} (c : Unit -> β) : InjL c := fun _ _ _ => rfl
theorem z9t : InjL (fun n : Int => [DV.int .i64 n]) := fun x y h => by
 simp only [List.cons.injEq,DV.int.injEq,true_and,and_true] at h
 exact h
theorem beq_ft : (false == true) = false := rfl
theorem beq_tf : (true == false) = false := rfl
theorem bne_ft : (false != true) = true := rfl
theorem bne_tf : (true != false) = true := rfl
theorem zzi (f : List UInt8 -> Prop × DV) : z8k f [.sl []] = f [] := by simp [z8k,unb]
theorem zwf (f : List UInt8 -> List UInt8 -> Prop × DV) (l : List UInt8) : zsf f [.sl [],.sl (bsl l)] = f [] l := by simp [zsf,unb,zw2]
theorem zu6 (f : List UInt8 -> List UInt8 -> Prop × DV) (l : List UInt8) : zsf f [.sl (bsl l),.sl []] = f l [] := by simp [zsf,unb,zw2]
theorem zv6 (f : List UInt8 -> List UInt8 -> Prop × DV) : zsf f [.sl [],.sl []] = f [] [] := by simp [zsf,unb]
@[reducible] def eI (n : Int) : DV := .int .i64 n
@[reducible] def eB (b : Bool) : DV := .bool b
@[reducible] def eS (s : List UInt8) : DV := .str s
@[reducible] def eL {α : Type} (c : α -> List DV) (l : List α) : DV := .sl (l.map c)
@[reducible] def eA {α : Type} (c : α -> List DV) (x : α) : DV := .agg (c x)
theorem zcr : Inj eI := fun _ _ h => by cases h; rfl
theorem inj_B : Inj eB := fun _ _ h => by cases h; rfl
theorem zml : Inj eS := fun _ _ h => by cases h; rfl
theorem zdm {α : Type} {c : α -> List DV} (hc : ∀ x y,c x = c y -> x = y) : ∀ l l' : List α,l.map c = l'.map c -> l = l'
 | [],[],_ => rfl
 | [],_ :: _,h => by simp at h
 | _ :: _,[],h => by simp at h
 | x :: l,y :: l',h => by
   simp only [List.map_cons,List.cons.injEq] at h
   rw [hc x y h.1,zdm hc l l' h.2]
theorem yaw {α : Type} {c : α -> List DV} (hc : ∀ x y,c x = c y -> x = y) : Inj (eL c) := fun _ _ h => by
 injection h with h
 exact zdm hc _ _ h
theorem zt8 {α : Type} {c : α -> List DV} (hc : ∀ x y,c x = c y -> x = y) : Inj (eA c) := fun _ _ h => by
 injection h with h
 exact hc _ _ h
end Go.Nk
set_option linter.all false
namespace Go.Nk
inductive Sh where
 | int (k : IntKind)
 | bool
 | str
 | slice (s : Sh)
 | ptr (s : Sh)
 | struct (ss : List Sh)
 | self (t : TypeId)                                  -- a type by its number (one that is made of itself)
def zyf {α β : Type} (f : α -> β -> Bool) : List α -> List β -> Bool
 | [],[] => true
 | a :: as,b :: bs => f a b && zyf f as bs
 | _,_ => false
def zd1 (P : Program) : Nat -> TypeId -> Sh -> Bool
 | 0,_,_ => false
 | n + 1,t,s =>
   match P.underlying t,s with
   | _,.self u => decide (t = u)
   | some (.int k),.int k' => decide (k = k')
   | some .bool,.bool => true
   | some .string,.str => true
   | some (.slice e),.slice s => zd1 P n e s
   | some (.pointer e),.ptr s => zd1 P n e s
   | some (.struct fs),.struct ss => zyf (fun f s => zd1 P n f.type s) fs.toList ss
   | some (.array k e),.struct ss => ss.length == k && ss.all fun s => zd1 P n e s
   | _,_ => false
mutual
def HasS (R : TypeId -> List DV -> Prop) : Sh -> List DV -> Prop
 | .self u,ds => R u ds
 | .int k,ds => ∃ i,ds = [.int k i] /\ (Lit.int k i).wf = true
 | .bool,ds => ∃ b,ds = [.bool b]
 | .str,ds => ∃ s,ds = [.str s] /\ s.length <= zds
 | .slice s,ds => ∃ es,ds = [.sl es] /\ lenW es <= zds /\ ∀ x ∈ es,HasS R s x
 | .ptr s,ds => ds = [.nilp] \/ ∃ r,ds = [.ref r] /\ HasS R s r
 | .struct ss,ds => zi2 R ss ds
def zi2 (R : TypeId -> List DV -> Prop) : List Sh -> List DV -> Prop
 | [],ds => ds = []
 | s :: ss,ds => ∃ a b,ds = a ++ b /\ HasS R s a /\ zi2 R ss b
end
def zy6 : Sh -> Bool
 | .self _ => false
 | _ => true
theorem zgs {a N : Nat} {s : Sh} (h : a <= N) : a <= N + (if zy6 s = true then 1 else 0) := by split <;> omega
def zta (P : Program) (N : Nat) (u : TypeId) (ds : List DV) : Prop := (∃ m,m <= N /\ Has P m u ds) /\ ∀ L ∈ zcs ds,L <= zds
theorem zki {P : Program} {N : Nat} : ∀ (n : Nat) (t : TypeId) (s : Sh),zd1 P n t s = true -> ∀ m ds,m <= N + (if zy6 s = true then 1 else 0) -> Has P m t ds -> (∀ L ∈ zcs ds,L <= zds) -> HasS (zta P N) s ds
 | 0,_,_,h,_,_,_,_,_ => by simp [zd1] at h
 | n + 1,t,s,h,0,_,_,hd,_ => hd.elim
 | n + 1,t,s,h,m + 1,ds,hN,hd,hsm => by
   have hd0 := hd
   unfold zd1 at h
   unfold Has at hd
   split at h
   . simp only [decide_eq_true_eq] at h
     subst h
     unfold HasS
     exact ⟨⟨m + 1,by simpa [zy6] using hN,hd0⟩,hsm⟩
   all_goals replace hN : m <= N := by split at hN <;> omega
   . rename_i k k' e
     simp only [e] at hd
     simp only [decide_eq_true_eq] at h
     subst h
     unfold HasS
     exact hd
   . rename_i e
     simp only [e] at hd
     unfold HasS
     exact hd
   . rename_i e
     simp only [e] at hd
     unfold HasS
     obtain ⟨s,rfl,_⟩ := hd
     exact ⟨s,rfl,hsm _ (by simp [zcs,DV.lens])⟩
   . rename_i el s' e
     simp only [e] at hd
     obtain ⟨es,h1,h2,h3⟩ := hd
     unfold HasS
     subst h1
     have hrow : ∀ (es : List (List DV)),(∀ L ∈ zr7 es,L <= zds) -> ∀ x ∈ es,∀ L ∈ zcs x,L <= zds := by
       intro es
       induction es with
       | nil => intro _ x hx; simp at hx
       | cons e es ih =>
         intro hs x hx L hL
         simp only [zr7,List.mem_append] at hs
         rcases List.mem_cons.1 hx with rfl | hx
         . exact hs L (.inl hL)
         . exact ih (fun L hL => hs L (.inr hL)) x hx L hL
     exact ⟨es,rfl,hsm _ (by simp [zcs,DV.lens]),fun x hx => zki n el s' h m x (zgs hN) (h3 x hx) (hrow es (fun L hL => hsm L (by simp [zcs,DV.lens,hL])) x hx)⟩
   . rename_i el s' e
     simp only [e] at hd
     unfold HasS
     rcases hd with hd | ⟨r,rfl,h2⟩
     . exact .inl hd
     . exact .inr ⟨r,rfl,zki n el s' h m r (zgs hN) h2 fun L hL => hsm L (by simpa [zcs,DV.lens] using hL)⟩
   . rename_i fs ss e
     simp only [e] at hd
     unfold HasS
     have key : ∀ (fs : List Field) (ss : List Sh) (ds : List DV),zyf (fun f s => zd1 P n f.type s) fs ss = true -> HasL (Has P m) fs ds -> (∀ L ∈ zcs ds,L <= zds) -> zi2 (zta P N) ss ds := by
       intro fs
       induction fs with
       | nil => intro ss ds h hd _; cases ss with
         | nil => unfold zi2; exact hd
         | cons => simp [zyf] at h
       | cons f fs ih => intro ss ds h hd hs; cases ss with
         | nil => simp [zyf] at h
         | cons s ss =>
           simp only [zyf,Bool.and_eq_true] at h
           obtain ⟨a,b,rfl,ha,hb⟩ := hd
           unfold zi2
           rw [zfp] at hs
           exact ⟨a,b,rfl,zki n _ s h.1 m a (zgs hN) ha (fun L hL => hs L (List.mem_append.2 (.inl hL))),ih ss b h.2 hb fun L hL => hs L (List.mem_append.2 (.inr hL))⟩
     exact key _ _ _ h hd hsm
   . rename_i k e' ss e
     simp only [e] at hd
     simp only [Bool.and_eq_true,beq_iff_eq,List.all_eq_true] at h
     unfold HasS
     have key : ∀ (k : Nat) (ss : List Sh) (ds : List DV),ss.length = k -> (∀ s ∈ ss,zd1 P n e' s = true) -> HasN (Has P m e') k ds -> (∀ L ∈ zcs ds,L <= zds) -> zi2 (zta P N) ss ds := by
       intro k
       induction k with
       | zero => intro ss ds hl h hd _; cases ss with
         | nil => unfold zi2; exact hd
         | cons => cases hl
       | succ k ih => intro ss ds hl h hd hs; cases ss with
         | nil => cases hl
         | cons s ss =>
           obtain ⟨a,b,rfl,ha,hb⟩ := hd
           unfold zi2
           rw [zfp] at hs
           exact ⟨a,b,rfl,zki n _ s (h s (by simp)) m a (zgs hN) ha (fun L hL => hs L (List.mem_append.2 (.inl hL))),ih ss b (by simpa using hl) (fun s hs => h s (by simp [hs])) hb fun L hL => hs L (List.mem_append.2 (.inr hL))⟩
     exact key _ _ _ h.1 h.2 hd hsm
   . cases h
def zaz {α : Type} (R : TypeId -> List DV -> Prop) (s : Sh) (c : α -> List DV) (W : α -> Prop) : Prop := ∀ ds,HasS R s ds -> ∃ a,ds = c a /\ W a
def zaa {α : Type} (s : Sh) (c : α -> List DV) (W : α -> Prop) : Prop := ∀ R,zaz R s c W
theorem zaa.int : zaa (.int .i64) (fun n => [.int .i64 n]) (fun n : Int => -9223372036854775808 <= n /\ n < 9223372036854775808) := by
 intro R ds h
 unfold HasS at h
 obtain ⟨i,rfl,hw⟩ := h
 have : -9223372036854775808 <= i /\ i <= 9223372036854775807 := by simpa [Lit.wf,IntKind.min,IntKind.max,IntKind.signed,IntKind.bits] using hw
 exact ⟨i,rfl,this.1,by omega⟩
theorem zaa.bool : zaa .bool (fun b => [.bool b]) (fun _ : Bool => True) := by
 intro R ds h
 unfold HasS at h
 obtain ⟨i,rfl⟩ := h
 exact ⟨i,rfl,trivial⟩
theorem zaa.str : zaa .str (fun s => [.str s]) (fun s : List UInt8 => s.length <= zds) := by
 intro R ds h
 unfold HasS at h
 obtain ⟨i,rfl,h⟩ := h
 exact ⟨i,rfl,h⟩
theorem z1h {α : Type} {c : α -> List DV} {W : α -> Prop} : ∀ es : List (List DV),(∀ x ∈ es,∃ a,x = c a /\ W a) -> ∃ l : List α,es = l.map c /\ ∀ a ∈ l,W a
 | [],_ => ⟨[],rfl,by simp⟩
 | x :: es,h => by
   obtain ⟨l,rfl,hl⟩ := z1h es fun y hy => h y (by simp [hy])
   obtain ⟨a,rfl,ha⟩ := h x (by simp)
   exact ⟨a :: l,rfl,by intro b hb; rcases List.mem_cons.1 hb with rfl | hb; exact ha; exact hl b hb⟩
theorem zaa.slice {α : Type} {s : Sh} {c : α -> List DV} {W : α -> Prop} (h : zaa s c W) : zaa (.slice s) (fun l : List α => [.sl (l.map c)]) (fun l => l.length <= zds /\ ∀ a ∈ l,W a) := by
 intro R ds hd
 unfold HasS at hd
 obtain ⟨es,rfl,hl,hx⟩ := hd
 obtain ⟨l,rfl,hw⟩ := z1h es fun x hx' => h R x (hx x hx')
 exact ⟨l,rfl,by simpa using Nat.le_trans (z6f _) hl,hw⟩
theorem zaa.bytes : zaa (.slice (.int .u8)) (fun l : List UInt8 => [.sl (bsl l)]) (fun l => l.length <= zds) := by
 intro R ds hd
 unfold HasS at hd
 obtain ⟨es,rfl,hl,hx⟩ := hd
 obtain ⟨l,rfl⟩ := zyh es fun x hx' => by have := hx x hx'; unfold HasS at this; exact this
 exact ⟨l,rfl,by simpa [zfg] using Nat.le_trans (z6f _) hl⟩
theorem zaa.cons {α β : Type} {s : Sh} {ss : List Sh} {c : α -> List DV} {W : α -> Prop} {c' : β -> List DV} {W' : β -> Prop} (h : zaa s c W) (h' : ∀ R ds,zi2 R ss ds -> ∃ b,ds = c' b /\ W' b) :
   ∀ R ds,zi2 R (s :: ss) ds -> ∃ x : α × β,ds = c x.1 ++ c' x.2 /\ W x.1 /\ W' x.2 := by
 intro R ds hd
 unfold zi2 at hd
 obtain ⟨a,b,rfl,ha,hb⟩ := hd
 obtain ⟨x,rfl,hx⟩ := h R a ha
 obtain ⟨y,rfl,hy⟩ := h' R b hb
 exact ⟨(x,y),rfl,hx,hy⟩
theorem zaa.nil : ∀ R ds,zi2 R [] ds -> ∃ b : Unit,ds = (fun _ => []) b /\ True := by
 intro R ds hd
 unfold zi2 at hd
 exact ⟨(),hd,trivial⟩
theorem zaa.struct {α : Type} {ss : List Sh} {c : α -> List DV} {W : α -> Prop} (h : ∀ R ds,zi2 R ss ds -> ∃ b,ds = c b /\ W b) : zaa (.struct ss) c W := by
 intro R ds hd
 unfold HasS at hd
 exact h R ds hd
theorem zaa.as {α β : Type} {s : Sh} {c : α -> List DV} {W : α -> Prop} {c' : β -> List DV} {W' : β -> Prop} (h : zaa s c W) (f : α -> β) (e : ∀ a,c a = c' (f a)) (w : ∀ a,W a -> W' (f a)) : zaa s c' W' := by
 intro R ds hd
 obtain ⟨a,rfl,ha⟩ := h R ds hd
 exact ⟨f a,e a,w a ha⟩
theorem zaa.r {α : Type} {s : Sh} {c : α -> List DV} {W : α -> Prop} (h : zaa s c W) {R : TypeId -> List DV -> Prop} : zaz R s c W := h R
section
variable {R : TypeId -> List DV -> Prop}
theorem zaz.slice {α : Type} {s : Sh} {c : α -> List DV} {W : α -> Prop} (h : zaz R s c W) : zaz R (.slice s) (fun l : List α => [.sl (l.map c)]) (fun l => l.length <= zds /\ ∀ a ∈ l,W a) := by
 intro ds hd
 unfold HasS at hd
 obtain ⟨es,rfl,hl,hx⟩ := hd
 obtain ⟨l,rfl,hw⟩ := z1h es fun x hx' => h x (hx x hx')
 exact ⟨l,rfl,by simpa using Nat.le_trans (z6f _) hl,hw⟩
theorem zaz.cons {α β : Type} {s : Sh} {ss : List Sh} {c : α -> List DV} {W : α -> Prop} {c' : β -> List DV} {W' : β -> Prop} (h : zaz R s c W) (h' : ∀ ds,zi2 R ss ds -> ∃ b,ds = c' b /\ W' b) :
   ∀ ds,zi2 R (s :: ss) ds -> ∃ x : α × β,ds = c x.1 ++ c' x.2 /\ W x.1 /\ W' x.2 := by
 intro ds hd
 unfold zi2 at hd
 obtain ⟨a,b,rfl,ha,hb⟩ := hd
 obtain ⟨x,rfl,hx⟩ := h a ha
 obtain ⟨y,rfl,hy⟩ := h' b hb
 exact ⟨(x,y),rfl,hx,hy⟩
theorem zaz.nil : ∀ ds,zi2 R [] ds -> ∃ b : Unit,ds = (fun _ => []) b /\ True := zaa.nil R
theorem zaz.struct {α : Type} {ss : List Sh} {c : α -> List DV} {W : α -> Prop} (h : ∀ ds,zi2 R ss ds -> ∃ b,ds = c b /\ W b) : zaz R (.struct ss) c W := by
 intro ds hd
 unfold HasS at hd
 exact h ds hd
theorem zaz.as {α β : Type} {s : Sh} {c : α -> List DV} {W : α -> Prop} {c' : β -> List DV} {W' : β -> Prop} (h : zaz R s c W) (f : α -> β) (e : ∀ a,c a = c' (f a)) (w : ∀ a,W a -> W' (f a)) : zaz R s c' W' := by
 intro ds hd
 obtain ⟨a,rfl,ha⟩ := h ds hd
 exact ⟨f a,e a,w a ha⟩
end
def zn3 : Sh -> Bool
 | .struct _ => true
 | _ => false
theorem zxe {P : Program} {t : TypeId} {d : DV} {s : Sh} {n : Nat} (hm : zd1 P n t s = true) (hns : zy6 s = true) {α : Type} {c : α -> List DV} {W : α -> Prop} (h : ∀ N,zaz (zta P N) s c W) (hd : HasV P t d) :
   ∃ a,d = (if zn3 s then .agg (c a) else (c a).headD .undef) /\ W a /\ (zn3 s = false -> c a = [d]) := by
 have hsm := hd.2
 replace hd := hd.1
 unfold HasV0 at hd
 have hs : zn3 s = (match P.underlying t with | some (.struct _) => true | some (.array _ _) => true | _ => false) := by
   cases n with
   | zero => simp [zd1] at hm
   | succ n =>
     unfold zd1 at hm
     split at hm <;> first | (rename_i e; simp [zn3,e]; done) | (exfalso; simp [zy6] at hns; done) | cases hm
 split at hd
 . rename_i fs e
   rw [e] at hs
   obtain ⟨ds,rfl,N,hd⟩ := hd
   obtain ⟨a,rfl,ha⟩ := h N ds (zki n t s hm N ds (zgs (Nat.le_refl _)) hd (by simpa [z6h,DV.lens] using hsm))
   exact ⟨a,by simp [hs],ha,by simp [hs]⟩
 . rename_i k e' e
   rw [e] at hs
   obtain ⟨ds,rfl,N,hd⟩ := hd
   obtain ⟨a,rfl,ha⟩ := h N ds (zki n t s hm N ds (zgs (Nat.le_refl _)) hd (by simpa [z6h,DV.lens] using hsm))
   exact ⟨a,by simp [hs],ha,by simp [hs]⟩
 . rename_i hne hne2
   have hs' : zn3 s = false := by
     rw [hs]
     split
     . rename_i e; exact absurd e (hne _)
     . rename_i e; exact absurd e (hne2 _ _)
     . rfl
   obtain ⟨N,hd⟩ := hd
   obtain ⟨a,e,ha⟩ := h N [d] (zki n t s hm N [d] (zgs (Nat.le_refl _)) hd (by simpa [z6h,zcs] using hsm))
   exact ⟨a,by simp [hs',<- e],ha,fun _ => e.symm⟩
theorem yfa {P : Program} {t : TypeId} {d : DV} {ss : List Sh} (hm : zd1 P 9 t (.struct ss) = true) {α : Type} {c : α -> List DV} {W : α -> Prop} (h : ∀ N,zaz (zta P N) (.struct ss) c W) (hd : HasV P t d) : ∃ a,d = .agg (c a) /\ W a := by
 obtain ⟨a,e,h1,_⟩ := zxe hm rfl h hd
 exact ⟨a,e,h1⟩
theorem zta.reads {P : Program} {u : TypeId} {s : Sh} {n : Nat} (hm : zd1 P n u s = true) (hns : zy6 s = true) {α : Type} {c : α -> List DV} {W : α -> Prop}
   (h : ∀ R : TypeId -> List DV -> Prop,(∀ ds,R u ds -> ∃ a,ds = c a /\ W a) -> zaz R s c W) : ∀ N,zaz (zta P N) (.self u) c W := by
 have key : ∀ m ds,Has P m u ds -> (∀ L ∈ zcs ds,L <= zds) -> ∃ a,ds = c a /\ W a := by
   intro m
   induction m using Nat.strongRecOn with
   | _ m ih =>
     intro ds hd hl
     cases m with
     | zero => exact hd.elim
     | succ m => exact h (zta P m) (fun ds hd => by obtain ⟨⟨k,hk,h1⟩,h2⟩ := hd; exact ih k (by omega) ds h1 h2) ds (zki n u s hm (m + 1) ds (by rw [if_pos hns]; exact Nat.le_refl _) hd hl)
 intro N ds hd
 unfold HasS at hd
 obtain ⟨⟨m,_,h1⟩,h2⟩ := hd
 exact key m ds h1 h2
theorem z9r {P : Program} {t : TypeId} {d : DV} {ss : List Sh} (hm : zd1 P 9 t (.struct ss) = true) {α : Type} {c : α -> List DV} {W : α -> Prop} (h : zaa (.struct ss) c W) (hd : HasV P t d) : ∃ a,d = .agg (c a) /\ W a := by
 obtain ⟨a,e,h1,_⟩ := zxe hm rfl (fun N => h _) hd
 exact ⟨a,e,h1⟩
end Go.Nk
set_option linter.all false
namespace Go.Nk
section
variable {C : Orc} {h0 : Nat} {Q : DExit -> DS -> Prop} {s : DS}
theorem ydw {c : DA} {a b : DCode} (h : c.ev s.fr = .bool true) : dwp C h0 (.cond c a b) Q s = dwp C h0 a Q s := by
 rw [zab,h]
 simp
theorem yeb {c : DA} {a b : DCode} (h : c.ev s.fr = .bool false) : dwp C h0 (.cond c a b) Q s = dwp C h0 b Q s := by
 rw [zab,h]
 simp
theorem yb9 {C : Orc} {dst : Option Nat} {op : DOp} {g : Nat} {b : Bool} {r : List DOper} {K : DS -> Prop} (h : get g s.fr = .bool b) :
   dops C (⟨dst,op,some (g,b)⟩ :: r) s K = ((zb C op s).pre /\ dops C r (s.put dst (zb C op s)) K) := by
 rw [zkj,h]
 simp
theorem ycl {C : Orc} {dst : Option Nat} {op : DOp} {g : Nat} {b : Bool} {r : List DOper} {K : DS -> Prop} (h : get g s.fr = .bool (!b)) :
   dops C (⟨dst,op,some (g,b)⟩ :: r) s K = dops C r (s.put dst ⟨True,.tup [],s.hp⟩) K := by
 rw [zkj,h]
 cases b <;> simp
theorem ybk {C : Orc} {dst : Option Nat} {op : DOp} {g : Nat} {b : Bool} {r : List DOper} {K : DS -> Prop} (h : get g s.fr = .tup []) :
   dops C (⟨dst,op,some (g,b)⟩ :: r) s K = dops C r (s.put dst ⟨True,.tup [],s.hp⟩) K := by
 rw [zkj,h]
theorem zl {C : Orc} {dst : Option Nat} {op : DOp} {g : Nat} {b : Bool} {r : List DOper} {K : DS -> Prop} {t : Bool} (_ : get g s.fr = .bool t)
   (ht : t = true -> dops C (⟨dst,op,some (g,b)⟩ :: r) s K) (hf : t = false -> dops C (⟨dst,op,some (g,b)⟩ :: r) s K) : dops C (⟨dst,op,some (g,b)⟩ :: r) s K := by
 cases t
 . exact hf rfl
 . exact ht rfl
theorem zd {c : DA} {a b : DCode} {t : Bool} (h : c.ev s.fr = .bool t) (ht : t = true -> dwp C h0 a Q s) (hf : t = false -> dwp C h0 b Q s) : dwp C h0 (.cond c a b) Q s := by
 rw [zab,h]
 cases t
 . simpa using hf rfl
 . simpa using ht rfl
theorem zu {c : DA} {a b : DCode} (h : c.ev s.fr = .anyb) (ht : dwp C h0 a Q s) (hf : dwp C h0 b Q s) : dwp C h0 (.cond c a b) Q s := by
 rw [zab,h]
 exact ⟨ht,hf⟩
end
def b2f : List DV -> UInt8 := fun e => match e with | [.int _ n] => UInt8.ofNat n.toNat | _ => 0
theorem dval_b2s {C : Orc} {x : DA} {s : DS} : dval C (.b2s x) s = ⟨(zy s.hp (x.ev s.fr)).pre /\ (match x.ev s.fr with | .str _ => False | _ => True) /\ (∀ e ∈ (zy s.hp (x.ev s.fr)).es,∃ n,e = [.int .u8 n]),.str ((zy s.hp (x.ev s.fr)).es.map b2f),s.hp⟩ := rfl
theorem getD_map {α : Type} [Inhabited α] (f : α -> List DV) (l : List α) (k : Nat) (h : k < l.length) : (l.map f).getD k [] = f (l.getD k default) := by
 simp [List.getD,h]
def Todo (p : Prop) : Prop := p
theorem Todo.to {p : Prop} (h : p) : Todo p := h
theorem Todo.of {p : Prop} (h : Todo p) : p := h
end Go.Nk
set_option linter.all false
namespace Go.Nk
open Go.RowKit
def EndC (res : List DR) (r : DV) (hp hp' : List DObj) : DExit -> DS -> Prop
 | .exit _,_ => False
 | _,s => (retV s res).1 /\ (retV s res).2 = r /\ r.inB hp.length = true /\ hp'.length = hp.length /\ (∃ t,s.hp = hp' ++ t) /\ ∀ (i : Nat) (o : DObj),hp'[i]? = some o -> hp[i]? = some o \/ o.cut hp.length = o
section
variable {P : Program} {K F0 : Nat -> Prop} {σ0 : Nat -> Option Nat} {hp0 : List DObj} {N : Nat} {w0 : World} {C : Orc}
theorem VRep.inB {F : Nat -> Prop} {σ : Nat -> Option Nat} {hp : List DObj} {w : World} {d : DV} {v : Value} (h : VRep F σ hp w d v) : d.inB hp.length = true := by
 have key : ∀ cs : List DV,(∀ (j : Nat) (d : DV),cs[j]? = some d -> d.inB hp.length = true) -> DV.inBL hp.length cs = true := by
   intro cs
   induction cs with
   | nil => intro _; rfl
   | cons c r ih => intro h; simp only [DV.inBL,Bool.and_eq_true]; exact ⟨h 0 c rfl,ih fun j d hd => h (j + 1) d (by simpa using hd)⟩
 induction h with
 | undef v => rfl
 | imm h =>
   induction h with
   | clo f cs vs hl vv hv hr ih => exact key _ ih
   | _ => rfl
 | own h L off len v h1 hh ho => simpa [DV.inB] using hh
 | ptr h L i j v h1 hh ho => simpa [DV.inB] using hh
 | mp h v h1 hh ho => simpa [DV.inB] using hh
 | agg cs vs hl vv hv hr ih => exact key _ ih
 | tup cs vs hl vv hv hr ih => exact key _ ih
 | clo f cs vs hl vv hv hr ih => exact key _ ih
 | meth f cs vs hl vv hv hr ih => exact key _ ih
theorem cut_same [Inhabited Env] {hp : List DObj} {F : Nat -> Prop} {σ : Nat -> Option Nat} {w : World} (hs : SimH K F σ hp w) {i : Nat} {o : DObj} (h : hp[i]? = some o) : o.cut hp.length = o := by
 unfold DObj.cut
 split
 . rename_i hk
   have ho := hs.obj i o h
   unfold ORep at ho
   rw [hk] at ho
   obtain ⟨g,_,_,_,c,ty,_,_,_,hb⟩ := ho
   have : o.es.map (fun r => r.map (DV.cut hp.length)) = o.es := by
     refine List.ext_getElem? fun i => ?_
     rw [List.getElem?_map]
     cases he : o.es[i]? with
     | none => rfl
     | some e =>
       simp only [Option.map_some,Option.some.injEq]
       refine List.ext_getElem? fun j => ?_
       rw [List.getElem?_map]
       cases hd : e[j]? with
       | none => rfl
       | some d =>
         obtain ⟨v,_,hv⟩ := hb i j d (by unfold z1; rw [he]; exact hd)
         simp only [Option.map_some,DV.cut,hv.inB,if_true]
   rw [this]
 . rfl
theorem zym [Inhabited Env] (hC : C.ok P) {f : FuncId} {d : DFun} {dargs : List DV} {hp hp' : List DObj} {r : DV} (hm : mFun P f dargs.length d = true)
   (h : dwp C hp.length d.code (EndC d.res r hp hp') ⟨zn 0 dargs,hp⟩) : zcj P f = true /\ z37 P f dargs hp r hp' := by
 obtain ⟨hok,fn,c,hf,hb,hn,hc,hr⟩ := zh8 hm
 refine ⟨hok,fun K F σ w args hs ha => ?_⟩
 refine zkm hf hb (zag hC d.code c none 0 K F σ hp w _ _ _ w (.inl rfl) hc h (zj1 hs ha hn)) (fun s a w' hcur hq => ?_) (fun id s h => h)
 have hq' : (retV s d.res).1 /\ (retV s d.res).2 = r /\ r.inB hp.length = true /\ hp'.length = hp.length /\ (∃ t,s.hp = hp' ++ t) /\ ∀ (i : Nat) (o : DObj),hp'[i]? = some o -> hp[i]? = some o \/ o.cut hp.length = o := hq.elim id id
 obtain ⟨h1,rfl,h2,h3,⟨t,h4⟩,h5⟩ := hq'
 have hcut := hcur.cut [] (some hp.length) (Nat.le_refl _)
 obtain ⟨K',F',σ',hKK,hs',hf',hN,hdef,hmv,hhm⟩ := hcur
 obtain ⟨v,hv,hrep⟩ := zw0 hs' hf' hr h1
 have e : (s.cut [] (some hp.length)).hp = hp' := by
   simp only [DS.cut,h4]
   rw [List.take_append_of_le_length (by omega),List.take_of_length_le (by omega)]
   refine List.ext_getElem? fun i => ?_
   rw [List.getElem?_map]
   cases hi : hp'[i]? with
   | none => rfl
   | some o =>
     simp only [Option.map_some,Option.some.injEq]
     rcases h5 i o hi with h | h
     . exact cut_same hs h
     . exact h
 refine ⟨v,hv,v,rfl,F',σ',?_,hmv,?_,?_⟩
 . have := (hs'.weak hKK).cut hp.length
   simp only [DS.cut] at e
   rwa [e] at this
 . have hl := hhm.len
   rw [<- e]
   refine ⟨hhm.mono,hhm.keepF,by simp [DS.cut]; omega,fun h o ho => ?_⟩
   obtain ⟨o',h1,h2,h3⟩ := hhm.ob h o ho
   have hlt := zay ho
   refine ⟨o'.cut hp.length,?_,?_,?_⟩
   . simp only [DS.cut]
     rw [List.getElem?_map,List.getElem?_take,if_pos (by omega),h1]; rfl
   . rw [(zbf hp.length o').2.2]; exact h2
   . rw [(zbf hp.length o').2.2,(zbf hp.length o').1,(zbf hp.length o').2.1]; exact h3
 . rw [<- e]
   exact hrep.cut h2
end
structure Duo (ρ : Type) where
 o : Nat -> ρ -> DObj
 c : ρ -> DObj
def zby (hp : List DObj) (n m : Nat) : Prop := n < hp.length /\ m < hp.length /\ n ≠ m
section
variable {ρ α : Type} {T : Duo ρ} {hp t : List DObj} {n m : Nat} {v v' : ρ}
def Duo.is (T : Duo ρ) (hp : List DObj) (n m : Nat) (v : ρ) : Prop := hp[n]? = some (T.o m v) /\ hp[m]? = some (T.c v) /\ n ≠ m
def Duo.put (T : Duo ρ) (hp : List DObj) (n m : Nat) (v : ρ) : List DObj := (hp.set m (T.c v)).set n (T.o m v)
structure Duo.ok (T : Duo ρ) : Prop where
 inj1 : ∀ m v m' v',T.o m v = T.o m' v' -> m = m'
 inj2 : ∀ m v v',T.o m v = T.o m v' -> T.c v = T.c v' -> v = v'
 cut1 : ∀ m v k,m < k -> (T.o m v).cut k = T.o m v
 cut2 : ∀ v k,(T.c v).cut k = T.c v
theorem ycs {hp : List DObj} {n : Nat} {o : DObj} (h : hp[n]? = some o) : hp.set n o = hp := by
 refine List.ext_getElem? fun i => ?_
 rw [List.getElem?_set]
 split
 . rename_i e; subst e; rw [h]; simp [zay h]
 . rfl
theorem Duo.is_put (h : T.is hp n m v) : T.put hp n m v = hp := by
 unfold Duo.put
 rw [ycs h.2.1,ycs h.1]
theorem Duo.is_three (h : T.is hp n m v) : zby hp n m := ⟨zay h.1,zay h.2.1,h.2.2⟩
theorem Duo.put_len : (T.put hp n m v).length = hp.length := by simp [Duo.put]
theorem Duo.put_put (k : zby hp n m) : T.put (T.put hp n m v ++ t) n m v' = T.put hp n m v' ++ t := by
 obtain ⟨k1,k2,k3⟩ := k
 unfold Duo.put
 rw [List.set_append_left _ _ (by simpa using k2),List.set_append_left _ _ (by simpa using k1)]
 congr 1
 refine List.ext_getElem? fun i => ?_
 by_cases h1 : n = i <;> by_cases h2 : m = i <;> simp_all []
theorem Duo.get_o (k : zby hp n m) : (T.put hp n m v ++ t)[n]? = some (T.o m v) := by
 obtain ⟨k1,k2,k3⟩ := k
 rw [List.getElem?_append_left (by simpa [Duo.put] using k1)]
 simp [Duo.put,k1]
theorem Duo.get_c (k : zby hp n m) : (T.put hp n m v ++ t)[m]? = some (T.c v) := by
 obtain ⟨k1,k2,k3⟩ := k
 rw [List.getElem?_append_left (by simpa [Duo.put] using k2)]
 simp [Duo.put,k2,k3]
theorem Duo.get_b {o : DObj} : (T.put hp n m v ++ (o :: t))[hp.length]? = some o := by
 rw [List.getElem?_append_right (by simp [Duo.put])]
 simp [Duo.put]
theorem Duo.get_bt {o : DObj} {t' : List DObj} : (T.put hp n m v ++ (t ++ (o :: t')))[hp.length + t.length]? = some o := by
 rw [List.getElem?_append_right (by simp [Duo.put])]
 simp [Duo.put]
theorem Duo.set_bt {o o' : DObj} {t' : List DObj} : (T.put hp n m v ++ (t ++ (o :: t'))).set (hp.length + t.length) o' = T.put hp n m v ++ (t ++ (o' :: t')) := by
 rw [List.set_append_right _ _ (by simp [Duo.put])]
 simp [Duo.put]
theorem Duo.put_is (k : zby hp n m) : T.is (T.put hp n m v ++ t) n m v := ⟨Duo.get_o k,Duo.get_c k,k.2.2⟩
theorem Duo.set_b {o o' : DObj} : (T.put hp n m v ++ (o :: t)).set hp.length o' = T.put hp n m v ++ (o' :: t) := by
 rw [List.set_append_right _ _ (by simp [Duo.put])]
 simp [Duo.put]
theorem Duo.set_o (k : zby hp n m) (h : T.c v' = T.c v) : (T.put hp n m v ++ t).set n (T.o m v') = T.put hp n m v' ++ t := by
 obtain ⟨k1,k2,k3⟩ := k
 rw [List.set_append_left _ _ (by simpa [Duo.put] using k1)]
 unfold Duo.put
 rw [List.set_set,h]
theorem Duo.set_c (k : zby hp n m) (h : T.o m v' = T.o m v) : (T.put hp n m v ++ t).set m (T.c v') = T.put hp n m v' ++ t := by
 obtain ⟨k1,k2,k3⟩ := k
 rw [List.set_append_left _ _ (by simpa [Duo.put] using k2)]
 unfold Duo.put
 rw [h]
 congr 1
 refine List.ext_getElem? fun i => ?_
 by_cases h1 : n = i <;> by_cases h2 : m = i <;> simp_all []
theorem Duo.only_o (k : zby hp n m) (h : T.c v' = T.c v) : Only (some n) (T.put hp n m v ++ t) (T.put hp n m v' ++ t) := by
 rw [<- Duo.set_o k h]
 exact zz9
open Classical in
noncomputable def zf5 (T : Duo ρ) (args : α -> List DV) (f : ρ -> α -> Prop × DV × ρ) : List DV -> List DObj -> Res := fun a hp =>
 if h : ∃ x : Nat × Nat × ρ × α,a = .ptr x.1 1 0 0 :: args x.2.2.2 /\ T.is hp x.1 x.2.1 x.2.2.1 then
   ⟨(f h.choose.2.2.1 h.choose.2.2.2).1,(f h.choose.2.2.1 h.choose.2.2.2).2.1,T.put hp h.choose.1 h.choose.2.1 (f h.choose.2.2.1 h.choose.2.2.2).2.2⟩
 else no
theorem specT_at {args : α -> List DV} (hT : T.ok) (ha : InjL args) (f : ρ -> α -> Prop × DV × ρ) (hi : T.is hp n m v) (a : α) :
   zf5 T args f (.ptr n 1 0 0 :: args a) hp = ⟨(f v a).1,(f v a).2.1,T.put hp n m (f v a).2.2⟩ := by
 unfold zf5
 have hx : ∃ x : Nat × Nat × ρ × α,.ptr n 1 0 0 :: args a = .ptr x.1 1 0 0 :: args x.2.2.2 /\ T.is hp x.1 x.2.1 x.2.2.1 := ⟨(n,m,v,a),rfl,hi⟩
 rw [dif_pos hx]
 have hy := hx.choose_spec
 generalize hx.choose = y at hy
 obtain ⟨n',m',v',a'⟩ := y
 obtain ⟨h1,h2⟩ := hy
 simp only [List.cons.injEq,DV.ptr.injEq,and_true] at h1
 obtain ⟨rfl,h3⟩ := h1
 have := ha _ _ h3
 subst this
 have e1 := Option.some.inj (hi.1.symm.trans h2.1)
 have e2 := hT.inj1 _ _ _ _ e1
 simp only at e2
 subst e2
 have e3 := Option.some.inj (hi.2.1.symm.trans h2.2.1)
 have e4 := hT.inj2 _ _ _ e1 e3
 simp only at e4
 subst e4
 rfl
theorem zbi {args : α -> List DV} (hT : T.ok) (ha : InjL args) (f : ρ -> α -> Prop × DV × ρ) (k : zby hp n m) (a : α) :
   zf5 T args f (.ptr n 1 0 0 :: args a) (T.put hp n m v ++ t) = ⟨(f v a).1,(f v a).2.1,T.put hp n m (f v a).2.2 ++ t⟩ := by
 rw [specT_at hT ha f (Duo.put_is k),Duo.put_put k]
def EndT (T : Duo ρ) (res : List DR) (r : DV) (hp : List DObj) (n m : Nat) (v : ρ) : DExit -> DS -> Prop
 | .exit _,_ => False
 | _,s => (retV s res).1 /\ (retV s res).2 = r /\ ∃ u t,s.hp = T.put hp n m u ++ t /\ u = v
theorem za3 {res : List DR} {r : DV} {s : DS} : EndT T res r hp n m v .normal s = ((retV s res).1 /\ (retV s res).2 = r /\ ∃ u t,s.hp = T.put hp n m u ++ t /\ u = v) := rfl
theorem zcm {res : List DR} {r : DV} {s : DS} : EndT T res r hp n m v .ret s = ((retV s res).1 /\ (retV s res).2 = r /\ ∃ u t,s.hp = T.put hp n m u ++ t /\ u = v) := rfl
end
theorem dwp_mono {C : Orc} {h0 : Nat} {c : DCode} {Q Q' : DExit -> DS -> Prop} {s : DS} (h : ∀ e s,Q e s -> Q' e s) (k : dwp C h0 c Q s) : dwp C h0 c Q' s := by
 exact ze0 c Q Q' s h k
theorem OkH.mkT [Inhabited Env] {P : Program} {ps hs} {fn : FuncId} {d : DFun} {N : Nat} {ρ α : Type} {T : Duo ρ} {args : α -> List DV} {f : ρ -> α -> Prop × DV × ρ} (hT : T.ok) (h1 : AllP P ps) (h2 : AllH P hs) (hm : mFun P fn N d = true)
   (hN : ∀ a,(args a).length + 1 = N) (hr : ∀ v a k,((f v a).2.1).inB k = true)
   (k : ∀ n m hp v a,zby hp n m -> (f v a).1 -> dwp (Orc.of ps hs) hp.length d.code (EndT T d.res (f v a).2.1 hp n m (f v a).2.2) ⟨(0,.ptr n 1 0 0) :: zn 1 (args a),T.put hp n m v ++ []⟩) : OkH P fn (zf5 T args f) := by
 intro a hp hpre
 unfold zf5 at hpre |-
 split at hpre
 . rename_i hx
   rw [dif_pos hx]
   have hy := hx.choose_spec
   generalize hx.choose = y at hy hpre |-
   obtain ⟨n,m,v,b⟩ := y
   obtain ⟨rfl,hi⟩ := hy
   simp only at hi hpre |-
   have h3 := Duo.is_three hi
   have := k n m hp v b h3 hpre
   rw [Duo.is_put hi,List.append_nil] at this
   refine zym (of_ok h1 h2) (by rw [List.length_cons,hN]; exact hm) (dwp_mono (fun e s hq => ?_) this)
   have key : ((retV s d.res).1 /\ (retV s d.res).2 = (f v b).2.1 /\ ∃ u t,s.hp = T.put hp n m u ++ t /\ u = (f v b).2.2) ->
       ((retV s d.res).1 /\ (retV s d.res).2 = (f v b).2.1 /\ ((f v b).2.1).inB hp.length = true /\ (T.put hp n m (f v b).2.2).length = hp.length /\ (∃ t,s.hp = T.put hp n m (f v b).2.2 ++ t) /\ ∀ (i : Nat) (o : DObj),(T.put hp n m (f v b).2.2)[i]? = some o -> hp[i]? = some o \/ o.cut hp.length = o) := by
     rintro ⟨q1,q2,u,t,q3,rfl⟩
     refine ⟨q1,q2,hr _ _ _,Duo.put_len,⟨t,q3⟩,fun i o ho => ?_⟩
     simp only [Duo.put,List.getElem?_set,List.length_set] at ho
     split at ho
     . simp only [h3.1,if_true,Option.some.injEq] at ho
       subst ho
       exact .inr (hT.cut1 _ _ _ h3.2.1)
     . split at ho
       . simp only [h3.2.1,if_true,Option.some.injEq] at ho
         subst ho
         exact .inr (hT.cut2 _ _)
       . exact .inl ho
   cases e with
   | normal => exact key hq
   | exit id => exact hq.elim
   | ret => exact key hq
 . exact hpre.elim
end Go.Nk
set_option linter.all false
namespace Go.Nk
theorem yfl {α : Type} (l : List α) {k : Nat} (h : k < l.length) : ∃ x,l[k]? = some x /\ l.drop k = x :: l.drop (k + 1) :=
 ⟨l[k],List.getElem?_eq_getElem h,List.drop_eq_getElem_cons h⟩
theorem z0 {C : Orc} {h0 : Nat} {live : List Nat} {m : Option Nat} {c : DCode} {Q : DExit -> DS -> Prop} {s : DS} {α σ : Type} (l : List α) (st : Nat -> σ -> DS) (R : Nat -> List α -> σ -> Prop) (a0 : σ)
   (hm : match m with | some k => h0 <= k | none => True) (hs : s.cut live m = st 0 a0) (hi : R 0 l a0)
   (step : ∀ k x r a,k < l.length -> l[k]? = some x -> l.drop k = x :: r -> R k (x :: r) a -> dwp C h0 c (DExit.then (fun s' => ∃ a',s'.cut live m = st (k + 1) a' /\ R (k + 1) r a') Q) (st k a))
   (last : ∀ k a,k = l.length -> R k [] a -> dwp C h0 c (DExit.then (fun _ => False) Q) (st k a)) : dwp C h0 (.loop live m c) Q s := by
 refine zfk (fun x : Nat × σ => st x.1 x.2) (fun x => x.1 <= l.length /\ R x.1 (l.drop x.1) x.2) (fun x => l.length - x.1) (0,a0) hm hs ⟨Nat.zero_le _,hi⟩ fun x hx => ?_
 obtain ⟨k,a⟩ := x
 obtain ⟨hk,hr⟩ := hx
 simp only at hk hr |-
 by_cases d : k < l.length
 . obtain ⟨x,e1,e2⟩ := yfl l d
   rw [e2] at hr
   refine ze0 c _ _ _ (fun e s' hh => ?_) (step k x _ a d e1 e2 hr)
   cases e with
   | normal =>
     obtain ⟨a',h1,h2⟩ := hh
     exact ⟨(k + 1,a'),h1,⟨d,h2⟩,by simp only; omega⟩
   | exit id => exact hh
   | ret => exact hh
 . have e : k = l.length := by omega
   rw [e,List.drop_length,<- e] at hr
   refine ze0 c _ _ _ (fun e s' hh => ?_) (last k a e hr)
   cases e with
   | normal => exact hh.elim
   | exit id => exact hh
   | ret => exact hh
theorem z6 {n : Int} (h1 : -9223372036854775808 <= n) (h2 : n < 9223372036854775808) : IntKind.i64.wrap n = n := z9 ⟨h1,h2⟩
theorem zfd {α : Type} {l : List α} {k : Nat} {x : α} {r : List α} (h : l.drop k = x :: r) : x ∈ l := List.mem_of_mem_drop (h ▸ List.mem_cons_self)
open Classical in
noncomputable def yca {α : Type} (args : α -> List DV) (f : α -> Prop × DV) : List DV -> Prop × DV := fun l =>
 if h : ∃ a,l = args a then f h.choose else (False,.undef)
theorem z88 {α : Type} {args : α -> List DV} (h : InjL args) (f : α -> Prop × DV) (a : α) : yca args f (args a) = f a := by
 unfold yca
 have hx : ∃ b,args a = args b := ⟨a,rfl⟩
 rw [dif_pos hx]
 have hy := hx.choose_spec
 generalize hx.choose = x at hy |-
 rw [h _ _ hy]
theorem OkP.mkA [Inhabited Env] {P : Program} {ps hs} {g : FuncId} {d : DFun} {N : Nat} {α : Type} {args : α -> List DV} {f : α -> Prop × DV} (h1 : AllP P ps) (h2 : AllH P hs) (hm : mFun P g N d = true)
   (hN : ∀ a,(args a).length = N) (k : ∀ a,(f a).1 -> dwp (Orc.of ps hs) 0 d.code (EndP d.res (f a).2) ⟨zn 0 (args a),[]⟩) : OkP P g (yca args f) := by
 refine OkP.mk h1 h2 hm fun l hp => ?_
 unfold yca at hp |-
 split at hp
 . rename_i h
   rw [dif_pos h]
   have hx := h.choose_spec
   have := k _ hp
   generalize h.choose = a at *
   subst hx
   exact ⟨hN a,this⟩
 . exact hp.elim
open Classical in
noncomputable def zrr {α : Type} (r : α -> List DV -> List DObj -> Prop) (f : α -> Prop × DV) (out : α -> List DObj -> List DObj) : List DV -> List DObj -> Res := fun a hp =>
 if h : ∃ x,r x a hp then ⟨(f h.choose).1,(f h.choose).2,out h.choose hp⟩ else no
theorem zis {α : Type} {r : α -> List DV -> List DObj -> Prop} {f : α -> Prop × DV} {out : α -> List DObj -> List DObj} (hu : ∀ x y a hp,r x a hp -> r y a hp -> x = y) {x : α} {a : List DV} {hp : List DObj} (h : r x a hp) :
   zrr r f out a hp = ⟨(f x).1,(f x).2,out x hp⟩ := by
 unfold zrr
 have hx : ∃ y,r y a hp := ⟨x,h⟩
 rw [dif_pos hx]
 have hy := hx.choose_spec
 generalize hx.choose = y at hy |-
 rw [hu _ _ _ _ hy h]
theorem OkH.mkG [Inhabited Env] {P : Program} {ps hs} {fn : FuncId} {d : DFun} {N : Nat} {α : Type} {r : α -> List DV -> List DObj -> Prop} {f : α -> Prop × DV} {out : α -> List DObj -> List DObj} (h1 : AllP P ps) (h2 : AllH P hs) (hm : mFun P fn N d = true)
   (hN : ∀ x a hp,r x a hp -> a.length = N) (k : ∀ x a hp,r x a hp -> (f x).1 -> dwp (Orc.of ps hs) hp.length d.code (EndC d.res (f x).2 hp (out x hp)) ⟨zn 0 a,hp⟩) : OkH P fn (zrr r f out) := by
 intro a hp hpre
 unfold zrr at hpre |-
 split at hpre
 . rename_i hx
   rw [dif_pos hx]
   have hy := hx.choose_spec
   generalize hx.choose = y at hy hpre |-
   exact zym (of_ok h1 h2) (by rw [hN _ _ _ hy]; exact hm) (k _ _ _ hy hpre)
 . exact hpre.elim
theorem OkH.mkGH [Inhabited Env] {P : Program} {ps hs} {fn : FuncId} {d : DFun} {N : Nat} {α : Type} {r : α -> List DV -> List DObj -> Prop} {f : α -> Prop × DV} {out : α -> List DObj -> List DObj} (h1 : AllP P ps) (h2 : AllH P hs) (hm : mFun P fn N d = true)
   (hN : ∀ x a hp,r x a hp -> a.length = N) (k : ∀ x a hp,r x a hp -> (f x).1 -> dwp (Orc.of ps hs) hp.length d.code (EndH d.res (f x).2 (out x hp)) ⟨zn 0 a,hp⟩) : OkH P fn (zrr r f out) := by
 refine OkH.mk h1 h2 hm fun a hp hpre => ?_
 unfold zrr at hpre |-
 split at hpre
 . rename_i hx
   rw [dif_pos hx]
   have hy := hx.choose_spec
   generalize hx.choose = y at hy hpre |-
   exact ⟨hN _ _ _ hy,k _ _ _ hy hpre⟩
 . exact hpre.elim
theorem last_get {hp g t : List DObj} {o : DObj} : (hp ++ (g ++ (o :: t)))[hp.length + g.length]? = some o := by
 rw [<- List.append_assoc,List.getElem?_append_right (by simp)]
 simp
theorem last_set {hp g t : List DObj} {o o' : DObj} : (hp ++ (g ++ (o :: t))).set (hp.length + g.length) o' = hp ++ (g ++ (o' :: t)) := by
 rw [<- List.append_assoc,List.set_append_right _ _ (by simp)]
 simp
theorem lst_get {hp t : List DObj} {o : DObj} : (hp ++ (o :: t))[hp.length]? = some o := by
 rw [List.getElem?_append_right (by simp)]
 simp
theorem lst_get1 {hp t : List DObj} {o b : DObj} : (hp ++ (b :: o :: t))[hp.length + 1]? = some o := by
 rw [List.getElem?_append_right (by simp)]
 simp
theorem lst_set {hp t : List DObj} {o o' : DObj} : (hp ++ (o :: t)).set hp.length o' = hp ++ (o' :: t) := by
 rw [List.set_append_right _ _ (by simp)]
 simp
theorem lst_set1 {hp t : List DObj} {o b o' : DObj} : (hp ++ (b :: o :: t)).set (hp.length + 1) o' = hp ++ (b :: o' :: t) := by
 rw [List.set_append_right _ _ (by simp)]
 simp
theorem z62 {res : List DR} {r : DV} {hp hp' : List DObj} {s : DS} : EndC res r hp hp' .normal s = ((retV s res).1 /\ (retV s res).2 = r /\ r.inB hp.length = true /\ hp'.length = hp.length /\ (∃ t,s.hp = hp' ++ t) /\ ∀ (i : Nat) (o : DObj),hp'[i]? = some o -> hp[i]? = some o \/ o.cut hp.length = o) := rfl
theorem endC_ret {res : List DR} {r : DV} {hp hp' : List DObj} {s : DS} : EndC res r hp hp' .ret s = ((retV s res).1 /\ (retV s res).2 = r /\ r.inB hp.length = true /\ hp'.length = hp.length /\ (∃ t,s.hp = hp' ++ t) /\ ∀ (i : Nat) (o : DObj),hp'[i]? = some o -> hp[i]? = some o \/ o.cut hp.length = o) := rfl
def one (hp : List DObj) (m : Nat) (o : DObj) : List DObj := hp.set m o
section
variable {hp t t' : List DObj} {m : Nat} {o o' b : DObj}
theorem one_is (h : hp[m]? = some o) : one hp m o = hp := ycs h
theorem yed : (one hp m o).length = hp.length := by simp [one]
theorem one_get (h : m < hp.length) : (one hp m o ++ t)[m]? = some o := by
 rw [List.getElem?_append_left (by simpa [one] using h)]
 simp [one,h]
theorem one_b : (one hp m o ++ (b :: t))[hp.length]? = some b := by
 rw [List.getElem?_append_right (by simp [one])]
 simp [one]
theorem one_set (h : m < hp.length) : (one hp m o ++ t).set m o' = one hp m o' ++ t := by
 rw [List.set_append_left _ _ (by simpa [one] using h)]
 simp [one]
theorem one_end (h : o.cut hp.length = o) : ∀ (i : Nat) (x : DObj),(one hp m o)[i]? = some x -> hp[i]? = some x \/ x.cut hp.length = x := by
 intro i x hx
 unfold one at hx
 rw [List.getElem?_set] at hx
 split at hx
 . split at hx
   . injection hx with hx; subst hx; exact .inr h
   . cases hx
 . exact .inl hx
theorem ygc {z : Nat} {es : List (List DV)} {k : Nat} : (DObj.mk .imm z es).cut k = ⟨.imm,z,es⟩ := rfl
end
theorem Duo.put_end {ρ : Type} {T : Duo ρ} {hp : List DObj} {n m : Nat} {v : ρ} (h1 : (T.o m v).cut hp.length = T.o m v) (h2 : (T.c v).cut hp.length = T.c v) : ∀ (i : Nat) (x : DObj),(T.put hp n m v)[i]? = some x -> hp[i]? = some x \/ x.cut hp.length = x := by
 intro i x hx
 simp only [Duo.put,List.getElem?_set,List.length_set] at hx
 split at hx
 . split at hx
   . injection hx with hx; subst hx; exact .inr h1
   . cases hx
 . split at hx
   . split at hx
     . injection hx with hx; subst hx; exact .inr h2
     . cases hx
   . exact .inl hx
def rP := And.intro @z9e (And.intro @z5h (And.intro @z9d (And.intro @z80 (And.intro @yev (And.intro @z3u (And.intro @z92 (And.intro @ygw (And.intro @ydw (And.intro @yeb (And.intro @yd2 (And.intro @dval_b2s (And.intro @zvq (And.intro @z23 (And.intro @z84 (And.intro @zlm (And.intro @zr5 (And.intro @zv0 @yfj)))))))))))))))))
def rT := And.intro @false_and (And.intro @and_false (And.intro @if_false.{1} (And.intro @ite_true.{1} (And.intro @ite_false.{1} (And.intro @List.cons_append.{0} (And.intro @List.take_succ_cons.{0} (And.intro @List.drop_succ_cons.{0} (And.intro @List.take_zero.{0} (And.intro @List.take_nil.{0} (And.intro @zz9 (And.intro @z3y (And.intro @zhv (And.intro @zhy (And.intro @z9s (And.intro @z4n (And.intro @yb9 (And.intro @ycl (And.intro @ybk (And.intro @z72 (And.intro @z7t (And.intro @ev_t (And.intro @ev_c (And.intro @zuj (And.intro @z9y (And.intro @zu9 (And.intro @z9n (And.intro @zc (And.intro @Nk.get_nil (And.intro @if_true.{1} (And.intro @Nat.succ_ne_self (And.intro @true_and (And.intro @and_true (And.intro @Bool.not_true (And.intro @beq_ft (And.intro @beq_tf (And.intro @bne_ft (And.intro @bne_tf (And.intro @bne_self_eq_false.{0} (And.intro @Bool.not_false (And.intro @List.map_cons.{0,0} (And.intro @List.map_nil.{0,0} (And.intro @Option.map_some.{0,0} (And.intro @Option.map_none.{0,0} (And.intro @false_implies (And.intro @Bool.true_eq_false (And.intro @Int.toNat_natCast (And.intro @Nat.zero_ne_one (And.intro @Nat.one_ne_zero (And.intro @List.length_cons.{0} (And.intro @List.length_nil.{0} (And.intro @List.getD_cons_zero.{0} (And.intro @List.getD_cons_succ.{0} (And.intro @Nat.lt_add_one (And.intro @Nat.zero_lt_one (And.intro @Nat.zero_add (And.intro @decide_eq_true_eq (And.intro @decide_eq_false_iff_not (And.intro @Int.ofNat_lt (And.intro @zfg @of_p)))))))))))))))))))))))))))))))))))))))))))))))))))))))))))
def rU := And.intro @of_h (And.intro @z1t (And.intro @zzp (And.intro @ztu (And.intro @z2q (And.intro @z2c (And.intro @zzi (And.intro @zwf (And.intro @zu6 (And.intro @zv6 (And.intro @z8 (And.intro @List.all_cons.{0} (And.intro @List.all_nil.{0} (And.intro @Bool.and_true (And.intro @Bool.and_false (And.intro @Bool.true_and (And.intro @Bool.false_and (And.intro @not_true_eq_false (And.intro @not_false_eq_true (And.intro @List.getElem?_cons_zero.{0} (And.intro @List.getElem?_cons_succ.{0} (And.intro @List.set_cons_zero.{0} (And.intro @List.set_set.{0} (And.intro @List.set_cons_succ.{0} (And.intro @List.drop_zero.{0} (And.intro @List.take_length.{0} (And.intro @List.not_mem_nil.{0} (And.intro @List.forall_mem_cons.{0} (And.intro @List.nil_append.{0} (And.intro @true_or (And.intro @or_true (And.intro @or_false (And.intro @false_or (And.intro @or_self (And.intro @beq_self_eq_true.{0} (And.intro @List.length_set.{0} (And.intro @List.length_append.{0} (And.intro @List.length_replicate.{0} (And.intro @decide_true (And.intro @decide_false (And.intro @gt_iff_lt.{0} (And.intro @ge_iff_le.{0} (And.intro @z9h (And.intro @z8b (And.intro @zyd (And.intro @List.getElem?_nil.{0} (And.intro @ne_eq.{1} (And.intro @DV.tup.injEq (And.intro @DV.int.injEq (And.intro @DV.bool.injEq (And.intro @DV.agg.injEq (And.intro @DV.str.injEq (And.intro @List.cons.injEq.{0} (And.intro @Int.cast_ofNat_Int (And.intro @Nat.zero_mul (And.intro @Nat.mul_one (And.intro @List.length_map.{0,0} (And.intro @Nat.lt_irrefl (And.intro @Int.lt_irrefl (And.intro @z62 @endC_ret)))))))))))))))))))))))))))))))))))))))))))))))))))))))))))
end Go.Nk
