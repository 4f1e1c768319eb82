/- Migrations: arms, paths, and the types of expressions, by the program. -/
import Derived.Test.YtjgefhgkinocmaaGreatExC
import Derived.Test.YtjgefhgkinocmaaGreatTxK
import Derived.Test.YtjgefhgkinocmaaGreatDfF
import Derived.Test.YtjgefhgkinocmaaGreatArithB
set_option linter.all false
set_option maxRecDepth 20000
namespace Go.Proofs.YtjgefhgkinocmaaGreat
open Go.Nk
def armT (l : List En) (s : List UInt8) : Ty × Int × Bool :=
 if s = [116,114,117,101] then (⟨2,0,0⟩,1,true) else if s = [102,97,108,115,101] then (⟨2,0,0⟩,0,true)
 else if (zdx s (zbu 0 l)).2.2 then (⟨3,(zdx s (zbu 0 l)).1,0⟩,(zdx s (zbu 0 l)).2.1,true) else (⟨0,0,0⟩,0,false)
noncomputable def z6b : List DV -> Prop × DV := zbw eEns eS fun l s => (okEn l,.tup [.agg (cTy (armT l s).1),.int .i64 (armT l s).2.1,.bool (armT l s).2.2])
theorem zti (l : List En) (s : List UInt8) : z6b [.sl (l.map cEn),.str s] = (okEn l,.tup [.agg (cTy (armT l s).1),.int .i64 (armT l s).2.1,.bool (armT l s).2.2]) := zac zfe zml _ l s
theorem zjr : OkP Tryz.prog 99 z6b := by
 refine OkP.mk2 (ps := [(118,z3x)]) (hs := []) ⟨yah,trivial⟩ trivial z60 fun l s h => ?_
 try dsimp only at h
 have e1 := z3h l s
 rw [eq_true h] at e1
 have ha : armT l s = if s = [116,114,117,101] then (⟨2,0,0⟩,1,true) else if s = [102,97,108,115,101] then (⟨2,0,0⟩,0,true)
   else if (zdx s (zbu 0 l)).2.2 then (⟨3,(zdx s (zbu 0 l)).1,0⟩,(zdx s (zbu 0 l)).2.1,true) else (⟨0,0,0⟩,0,false) := rfl
 generalize zdx s (zbu 0 l) = c at *
 obtain ⟨c1,c2,c3⟩ := c
 simp only [z19] at e1 ha
 cases c3 <;> ((try unfold zxc); ((have hcondQ := Bool.and_self; refine Todo.of ?_); (repeat' (first | ((with_reducible refine Todo.to ?_); (repeat (simp only [↓rP,rT,rU,eS,eL,zr,zb,dval,dBin,dStr,dUn,zh,za,retV,retL,DR.val,fzT,fzVs,fzV,fz1,DV.immB,ze,zf,zp,zo,zi,zq,zw,DV.one,fzL,cellsOf,zk,DV.isU,Nat.reduceEqDiff,Nat.reduceAdd,↓reduceIte,reduceCtorEq,Nat.reduceLeDiff,Nat.reduceLT,forall_const,eEns,e1 ,hcondQ]))) | (((((with_reducible refine zd (t := ?_) ?_ (fun hcQ => ?_) (fun hcQ => ?_)); rotate_left; . (rfl))) <;> (have hn := hcQ; have hcondQ := hcQ) <;> (try simp only [beq_iff_eq,ne_eq,beq_eq_false_iff_ne] at hn) <;> (refine Todo.of ?_))) | fail))))
 all_goals grind
theorem zqm : OkP Tryz.prog 83 z6b := by
 refine OkP.mk2 (ps := [(112,z3x)]) (hs := []) ⟨znl,trivial⟩ trivial ztf fun l s h => ?_
 try dsimp only at h
 have e1 := z3h l s
 rw [eq_true h] at e1
 have ha : armT l s = if s = [116,114,117,101] then (⟨2,0,0⟩,1,true) else if s = [102,97,108,115,101] then (⟨2,0,0⟩,0,true)
   else if (zdx s (zbu 0 l)).2.2 then (⟨3,(zdx s (zbu 0 l)).1,0⟩,(zdx s (zbu 0 l)).2.1,true) else (⟨0,0,0⟩,0,false) := rfl
 generalize zdx s (zbu 0 l) = c at *
 obtain ⟨c1,c2,c3⟩ := c
 simp only [z19] at e1 ha
 cases c3 <;> ((try unfold zjk); ((have hcondQ := Bool.and_self; refine Todo.of ?_); (repeat' (first | ((with_reducible refine Todo.to ?_); (repeat (simp only [↓rP,rT,rU,eS,eL,zr,zb,dval,dBin,dStr,dUn,zh,za,retV,retL,DR.val,fzT,fzVs,fzV,fz1,DV.immB,ze,zf,zp,zo,zi,zq,zw,DV.one,fzL,cellsOf,zk,DV.isU,Nat.reduceEqDiff,Nat.reduceAdd,↓reduceIte,reduceCtorEq,Nat.reduceLeDiff,Nat.reduceLT,forall_const,eEns,e1 ,hcondQ]))) | (((((with_reducible refine zd (t := ?_) ?_ (fun hcQ => ?_) (fun hcQ => ?_)); rotate_left; . (rfl))) <;> (have hn := hcQ; have hcondQ := hcQ) <;> (try simp only [beq_iff_eq,ne_eq,beq_eq_false_iff_ne] at hn) <;> (refine Todo.of ?_))) | fail))))
 all_goals grind
@[reducible] def cWay (w : Img × Img) : List DV := [.sl (w.1.en.map cEn),.sl (w.1.ins.map cPrt),.sl (w.1.outs.map cPrt),.sl (w.1.slots.map cSlt),.sl (ils w.1.loc),.sl (w.1.code.map cIn4),
 .sl (w.2.en.map cEn),.sl (w.2.ins.map cPrt),.sl (w.2.outs.map cPrt),.sl (w.2.slots.map cSlt),.sl (ils w.2.loc),.sl (w.2.code.map cIn4)]
theorem z7x : ∀ x y,cWay x = cWay y -> x = y := fun x y h => by
 obtain ⟨a,b⟩ := x; obtain ⟨c,d⟩ := y
 have h1 : cImg a = cImg c := by
   have := congrArg (List.take 6) h
   simpa only [cWay,cImg,List.take_succ_cons,List.take_zero] using this
 have h2 : cImg b = cImg d := by
   have := congrArg (List.drop 6) h
   simpa only [cWay,cImg,List.drop_succ_cons,List.drop_zero] using this
 rw [z16 _ _ h1,z16 _ _ h2]
abbrev eWay : Img × Img -> DV := eA cWay
theorem zi3 : Inj eWay := zt8 z7x
abbrev eTys : List Ty -> DV := eL cTy
theorem yc5 : Inj eTys := yaw zpy
def ycq (w : Img × Img) : Prop := zj9 w.1 /\ zj9 w.2
def za5 (a : Img) (p : List UInt8) : Slt × Bool := if fndI a.slots p < 0 then (⟨[],⟨0,0,0⟩,0,[]⟩,false) else (a.slots.getD (fndI a.slots p).toNat default,true)
noncomputable def zqx : List DV -> Prop × DV := zbw eWay eS fun w p => (ycq w,.tup [.agg (cSlt (za5 w.1 p).1),.bool (za5 w.1 p).2])
theorem zlb (w : Img × Img) (p : List UInt8) : zqx [.agg (cWay w),.str p] = (ycq w,.tup [.agg (cSlt (za5 w.1 p).1),.bool (za5 w.1 p).2]) := zac zi3 zml _ w p
theorem zda : OkP Tryz.prog 98 zqx := by
 refine OkP.mk2 (ps := [(48,zhk)]) (hs := []) ⟨zd4,trivial⟩ trivial zs6 fun w p h => ?_
 try dsimp only at h
 obtain ⟨h1,h2⟩ := h
 have e1 := zdu w.1.slots p
 rw [eq_true h1.2.2] at e1
 by_cases c : fndI w.1.slots p < 0
 . have hr : za5 w.1 p = (⟨[],⟨0,0,0⟩,0,[]⟩,false) := by simp [za5,c]
   ((try unfold zfv); ((have hcondQ := Bool.and_self; refine Todo.of ?_); (repeat' (first | ((with_reducible refine Todo.to ?_); (repeat (simp only [↓rP,rT,rU,eS,eA,zr,zb,dval,dBin,dInt,zh,za,retV,retL,DR.val,fzT,fzVs,fzV,fz1,DV.immB,ze,zf,zp,zo,zi,zq,zw,DV.one,fzL,cellsOf,zk,Nat.reduceEqDiff,Nat.reduceAdd,↓reduceIte,reduceCtorEq,Nat.reduceLeDiff,Nat.reduceLT,forall_const,eWay,e1,c,hr ,hcondQ])))))))
   all_goals rfl
 . obtain ⟨k,hk,hl⟩ := zca c
   have hr : za5 w.1 p = (w.1.slots.getD k default,true) := by simp [za5,hk]
   have gx : (w.1.slots.map cSlt).getD k [] = cSlt (w.1.slots.getD k default) := zm cSlt (by simp [hl])
   rw [hk] at e1
   rw [hr]
   generalize w.1.slots.getD k default = s at *
   ((try unfold zfv); ((have hcondQ := Bool.and_self; refine Todo.of ?_); (repeat' (first | ((with_reducible refine Todo.to ?_); (repeat (simp only [↓rP,rT,rU,eS,eA,zb,dval,dBin,dInt,zh,za,retV,retL,DR.val,fzT,fzVs,fzV,fz1,DV.immB,ze,zf,zp,zo,zi,zq,zw,DV.one,fzL,cellsOf,zk,Nat.reduceEqDiff,Nat.reduceAdd,↓reduceIte,reduceCtorEq,Nat.reduceLeDiff,Nat.reduceLT,forall_const,eWay,e1,gx ,hcondQ]))) | ((with_reducible refine And.intro ?_ ?_); . omega) | (((((with_reducible refine zd (t := ?_) ?_ (fun hcQ => ?_) (fun hcQ => ?_)); rotate_left; . (rfl))) <;> (have hn := hcQ; have hcondQ := hcQ) <;> (try simp only [decide_eq_true_eq,decide_eq_false_iff_not] at hn) <;> (try (exfalso; omega)) <;> (refine Todo.of ?_))) | fail)) <;> (try (assumption))))
def zc1 (w : Img × Img) (p : List UInt8) : Ty × Bool := if (za5 w.1 p).2 then zcc w.1.en w.2.en (za5 w.1 p).1.ty else (⟨0,0,0⟩,false)
noncomputable def zuo : List DV -> Prop × DV := zbw eWay eS fun w p => (ycq w,.tup [.agg (cTy (zc1 w p).1),.bool (zc1 w p).2])
theorem zqc (w : Img × Img) (p : List UInt8) : zuo [.agg (cWay w),.str p] = (ycq w,.tup [.agg (cTy (zc1 w p).1),.bool (zc1 w p).2]) := zac zi3 zml _ w p
theorem ze5 : OkP Tryz.prog 100 zuo := by
 refine OkP.mk2 (ps := [(98,zqx),(75,zvn)]) (hs := []) ⟨zda,zim,trivial⟩ trivial zsr fun w p h => ?_
 try dsimp only at h
 have hw : ycq w := h
 have e1 := zlb w p
 rw [eq_true hw] at e1
 have e2 := zn8 w.1.en w.2.en (za5 w.1 p).1.ty
 rw [eq_true (show zgi w.1.en /\ zgi w.2.en /\ w.2.en.length <= 1000000 from ⟨hw.1.1,hw.2.1,hw.2.2.1⟩)] at e2
 have ha : zc1 w p = if (za5 w.1 p).2 then zcc w.1.en w.2.en (za5 w.1 p).1.ty else (⟨0,0,0⟩,false) := rfl
 generalize zcc w.1.en w.2.en (za5 w.1 p).1.ty = t at *
 generalize za5 w.1 p = s at *
 obtain ⟨s,b⟩ := s
 obtain ⟨t,b2⟩ := t
 simp only [cWay,cSlt,cTy] at e1 e2 ha
 rw [ha]
 cases b <;> ((try unfold zjh); ((have hcondQ := Bool.and_self; refine Todo.of ?_); (repeat' (first | ((with_reducible refine Todo.to ?_); (repeat (simp only [↓rP,rT,rU,eS,eA,zr,zb,dval,dUn,zh,za,retV,retL,DR.val,fzT,fzVs,fzV,fz1,DV.immB,ze,zf,zp,zo,zx,zi,zq,zw,DV.one,alive,fzL,cellsOf,zk,Nat.reduceEqDiff,Nat.reduceAdd,↓reduceIte,reduceCtorEq,Nat.reduceLeDiff,Nat.reduceLT,forall_const,eWay,e1,e2 ,hcondQ])))))))
 all_goals first | rfl
def zpq (op : Int) (t : Ty) : Ty × Bool := if op = 1 /\ eqT t ⟨1,0,0⟩ = true then (⟨1,0,0⟩,true) else if op = 2 /\ eqT t ⟨2,0,0⟩ = true then (⟨2,0,0⟩,true) else (⟨0,0,0⟩,false)
noncomputable def z5f : List DV -> Prop × DV := zbw eI eTy fun o t => (True,.tup [.agg (cTy (zpq o t).1),.bool (zpq o t).2])
theorem ybm (o : Int) (t : Ty) : z5f [.int .i64 o,.agg (cTy t)] = (True,.tup [.agg (cTy (zpq o t).1),.bool (zpq o t).2]) := zac zcr zii _ o t
theorem z06 : OkP Tryz.prog 128 z5f := by
 refine OkP.mk2 (ps := []) (hs := []) trivial trivial z25 fun o t _ => ?_
 obtain ⟨a,b,c⟩ := t
 cases c1 : eqT ⟨a,b,c⟩ ⟨1,0,0⟩ <;> cases c2 : eqT ⟨a,b,c⟩ ⟨2,0,0⟩ <;> ((try unfold zrx); ((have hcondQ := Bool.and_self; refine Todo.of ?_); (repeat' (first | ((with_reducible refine Todo.to ?_); (repeat (simp only [↓rP,rT,rU,eI,eA,zr,zb,dval,dBin,dInt,zh,za,retV,retL,DR.val,fzT,fzVs,fzV,fz1,DV.immB,zw,DV.one,alive,fzL,cellsOf,zk,Nat.reduceEqDiff,Nat.reduceAdd,↓reduceIte,reduceCtorEq,Nat.reduceLeDiff,Nat.reduceLT,Int.reduceBEq,forall_const,eTy,aeqT,c1,c2 ,hcondQ]))) | (((((with_reducible refine zd (t := ?_) ?_ (fun hcQ => ?_) (fun hcQ => ?_)); rotate_left; . (rfl))) <;> (have hn := hcQ; have hcondQ := hcQ) <;> (try simp only [beq_iff_eq,ne_eq,beq_eq_false_iff_ne] at hn) <;> (refine Todo.of ?_))) | fail))))
 all_goals grind [zpq]
def zes (op : Int) (t u : Ty) : Ty × Bool :=
 if grpF op = 1 then (if eqT t ⟨1,0,0⟩ && eqT u ⟨1,0,0⟩ then (⟨1,0,0⟩,true) else (⟨0,0,0⟩,false))
 else if grpF op = 2 then (if eqT t ⟨2,0,0⟩ && eqT u ⟨2,0,0⟩ then (⟨2,0,0⟩,true) else (⟨0,0,0⟩,false))
 else if grpF op = 3 then (if eqT t ⟨1,0,0⟩ && eqT u ⟨1,0,0⟩ then (⟨2,0,0⟩,true) else (⟨0,0,0⟩,false))
 else if grpF op = 4 then (if eqT t u && t.n == 0 then (⟨2,0,0⟩,true) else (⟨0,0,0⟩,false))
 else (⟨0,0,0⟩,false)
noncomputable def z0w : List DV -> Prop × DV := zec eI eTy eTy fun o t u => (True,.tup [.agg (cTy (zes o t u).1),.bool (zes o t u).2])
theorem z5u (o : Int) (t : Ty) (u : Ty) : z0w [.int .i64 o,.agg (cTy t),.agg (cTy u)] = (True,.tup [.agg (cTy (zes o t u).1),.bool (zes o t u).2]) := za2 zcr zii zii _ o t u
theorem zxs : OkP Tryz.prog 129 z0w := by
 refine OkP.mk3 (ps := [(141,z1y)]) (hs := []) ⟨zlt,trivial⟩ trivial z02 fun o t u _ => ?_
 obtain ⟨a,b,c⟩ := t
 obtain ⟨a',b',c'⟩ := u
 have hg : grpF o = 0 \/ grpF o = 1 \/ grpF o = 2 \/ grpF o = 3 \/ grpF o = 4 := by unfold grpF; grind
 have e1 := zq0 o
 simp only [zwk] at e1
 rcases hg with hg | hg | hg | hg | hg
 . ((try unfold zdb); ((refine Todo.of ?_); (repeat' (first | ((with_reducible refine Todo.to ?_); (repeat (simp only [↓rP,rT,rU,eI,eA,zr,zb,dval,dBin,dInt,dUn,zh,za,retV,retL,DR.val,fzT,fzVs,fzV,fz1,DV.immB,ze,zf,zp,zo,zi,zq,zw,DV.one,fzL,cellsOf,zk,DV.isU,Nat.reduceEqDiff,Nat.reduceAdd,↓reduceIte,reduceCtorEq,Nat.reduceLeDiff,Int.reduceBEq,forall_const,eTy,e1,hg ])))))))
   all_goals simp [zes,hg]
 . cases c1 : eqT ⟨a,b,c⟩ ⟨1,0,0⟩ <;> cases c2 : eqT ⟨a',b',c'⟩ ⟨1,0,0⟩ <;> ((try unfold zdb); ((refine Todo.of ?_); (repeat' (first | ((with_reducible refine Todo.to ?_); (repeat (simp only [↓rP,rT,rU,eI,eA,zr,zjq,sepB,hdl,zb,dval,dBin,dInt,dUn,zh,za,retV,retL,DR.val,fzT,fzVs,fzV,fz1,DV.immB,ze,zf,zp,zo,zi,zq,zw,DV.one,fzL,cellsOf,zk,DV.isU,Nat.reduceEqDiff,Nat.reduceAdd,↓reduceIte,reduceCtorEq,Nat.reduceLeDiff,forall_const,eTy,e1,hg,aeqT,c1,c2 ]))) | ((with_reducible refine And.intro ?_ ?_); . ((repeat (first | exact zhv rfl | refine zhy rfl ?_)); done)) | fail))))
   all_goals simp [zes,hg,c1,c2]
 . cases c1 : eqT ⟨a,b,c⟩ ⟨2,0,0⟩ <;> cases c2 : eqT ⟨a',b',c'⟩ ⟨2,0,0⟩ <;> ((try unfold zdb); ((refine Todo.of ?_); (repeat' (first | ((with_reducible refine Todo.to ?_); (repeat (simp only [↓rP,rT,rU,eI,eA,zr,zjq,sepB,hdl,zb,dval,dBin,dInt,dUn,zh,za,retV,retL,DR.val,fzT,fzVs,fzV,fz1,DV.immB,ze,zf,zp,zo,zi,zq,zw,DV.one,fzL,cellsOf,zk,DV.isU,Nat.reduceEqDiff,Nat.reduceAdd,↓reduceIte,reduceCtorEq,Nat.reduceLeDiff,Int.reduceBEq,forall_const,eTy,e1,hg,aeqT,c1,c2 ]))) | ((with_reducible refine And.intro ?_ ?_); . ((repeat (first | exact zhv rfl | refine zhy rfl ?_)); done)) | fail))))
   all_goals simp [zes,hg,c1,c2]
 . cases c1 : eqT ⟨a,b,c⟩ ⟨1,0,0⟩ <;> cases c2 : eqT ⟨a',b',c'⟩ ⟨1,0,0⟩ <;> ((try unfold zdb); ((refine Todo.of ?_); (repeat' (first | ((with_reducible refine Todo.to ?_); (repeat (simp only [↓rP,rT,rU,eI,eA,zr,zjq,sepB,hdl,zb,dval,dBin,dInt,dUn,zh,za,retV,retL,DR.val,fzT,fzVs,fzV,fz1,DV.immB,ze,zf,zp,zo,zi,zq,zw,DV.one,fzL,cellsOf,zk,DV.isU,Nat.reduceEqDiff,Nat.reduceAdd,↓reduceIte,reduceCtorEq,Nat.reduceLeDiff,Int.reduceBEq,forall_const,eTy,e1,hg,aeqT,c1,c2 ]))) | ((with_reducible refine And.intro ?_ ?_); . ((repeat (first | exact zhv rfl | refine zhy rfl ?_)); done)) | fail))))
   all_goals simp [zes,hg,c1,c2]
 . cases c1 : eqT ⟨a,b,c⟩ ⟨a',b',c'⟩ <;> cases c2 : (c == 0) <;> ((try unfold zdb); ((refine Todo.of ?_); (repeat' (first | ((with_reducible refine Todo.to ?_); (repeat (simp only [↓rP,rT,rU,eI,eA,zr,zjq,sepB,hdl,zb,dval,dBin,dInt,dUn,zh,za,retV,retL,DR.val,fzT,fzVs,fzV,fz1,DV.immB,ze,zf,zp,zo,zi,zq,zw,DV.one,alive,fzL,cellsOf,zk,DV.isU,Nat.reduceEqDiff,Nat.reduceAdd,↓reduceIte,reduceCtorEq,Nat.reduceLeDiff,Int.reduceBEq,forall_const,eTy,e1,hg,aeqT,c1,c2 ]))) | ((with_reducible refine And.intro ?_ ?_); . ((repeat (first | exact zhv rfl | refine zhy rfl ?_)); done)) | fail))))
   all_goals simp [zes,hg,c1,c2]
set_option linter.all false
set_option maxRecDepth 20000
open Go.Nk
theorem zzd : ∀ {l : List Ex} {z y : Ex},z ∈ l -> y ∈ zaj z -> y ∈ zcd l
 | [],z,y,h,_ => by simp at h
 | a :: l,z,y,h,hy => by
   rw [zcd]
   rcases List.mem_cons.1 h with rfl | h
   . exact List.mem_append.2 (.inl hy)
   . exact List.mem_append.2 (.inr (zzd h hy))
theorem zn2 {e x y : Ex} (hx : x ∈ e.subs) (hy : y ∈ zaj x) : y ∈ zaj e := by
 rw [zcy]
 exact List.mem_cons_of_mem _ (zzd hx hy)
theorem zgd (e : Ex) : e ∈ zaj e := by rw [zcy]; simp
def okPl (e : Ex) : Prop := (∀ x ∈ zaj e,zhf x = true) /\ zaq e <= 1000
theorem okPl.sub {e x : Ex} (h : okPl e) (hx : x ∈ e.subs) : okPl x :=
 ⟨fun y hy => h.1 y (zn2 hx hy),by have := zp1 (zn2 hx (zgd x)); have := h.2; omega⟩
theorem okPl.len {e : Ex} (h : okPl e) : (za8 e).1 <= e.subs.length /\ (e.subs.length : Int) <= (za8 e).2 := by
 have := h.1 e (zgd e)
 simp only [zhf,Bool.and_eq_true,decide_eq_true_eq] at this
 exact ⟨this.1.1.2,this.1.2⟩
theorem z4 {α : Type} {l : List α} {k : Nat} (d : α) (h : k < l.length) : l[k]? = some (l.getD k d) := by simp [h]
def tyZ : Ty := ⟨0,0,0⟩
def opT (k o : Int) (ts : List Ty × Bool) : Ty × Bool :=
 if ts.2 = true then
   if k = 5 then zpq o (ts.1.getD 0 tyZ) else if k = 6 then zes o (ts.1.getD 0 tyZ) (ts.1.getD 1 tyZ)
   else (ts.1.getD 1 tyZ,eqT (ts.1.getD 0 tyZ) ⟨2,0,0⟩ && eqT (ts.1.getD 1 tyZ) (ts.1.getD 2 tyZ))
 else (tyZ,false)
def zj7 (w : Img × Img) (a : Ex) (t : Ty × Bool) : Ty × Bool :=
 (oneT (zc1 w a.name).1,a.kind == 17 && (zc1 w a.name).2 && t.2 && decide (0 < (zc1 w a.name).1.n) && eqT t.1 ⟨1,0,0⟩)
def allT : List (Ty × Bool) -> List Ty × Bool
 | [] => ([],true)
 | t :: r => if t.2 = true /\ (allT r).2 = true then (t.1 :: (allT r).1,true) else ([],false)
mutual
def tyE (w : Img × Img) : Ex -> Ty × Bool
 | .mk k _ s o _ l =>
   if k = 1 then (⟨1,0,0⟩,true) else if k = 2 then (⟨2,0,0⟩,true) else if k = 4 then ((armT w.2.en s).1,(armT w.2.en s).2.2)
   else if k = 17 then ((zc1 w s).1,(zc1 w s).2 && (zc1 w s).1.n == 0) else if k = 5 \/ k = 6 \/ k = 7 then opT k o (allT (tyL w l))
   else if k = 15 then zj7 w (l.getD 0 default) ((tyL w l).getD 1 (tyZ,false)) else (tyZ,false)
def tyL (w : Img × Img) : List Ex -> List (Ty × Bool)
 | [] => []
 | x :: l => tyE w x :: tyL w l
end
theorem yc4 (w : Img × Img) : ∀ l : List Ex,tyL w l = l.map (tyE w)
 | [] => by rw [tyL]; rfl
 | x :: l => by rw [tyL,yc4 w l]; rfl
theorem zif (w : Img × Img) : ∀ e : Ex,tyE w e =
   if e.kind = 1 then (⟨1,0,0⟩,true) else if e.kind = 2 then (⟨2,0,0⟩,true) else if e.kind = 4 then ((armT w.2.en e.name).1,(armT w.2.en e.name).2.2)
   else if e.kind = 17 then ((zc1 w e.name).1,(zc1 w e.name).2 && (zc1 w e.name).1.n == 0) else if e.kind = 5 \/ e.kind = 6 \/ e.kind = 7 then opT e.kind e.op (allT (e.subs.map (tyE w)))
   else if e.kind = 15 then zj7 w (e.subs.getD 0 default) ((e.subs.map (tyE w)).getD 1 (tyZ,false)) else (tyZ,false)
 | .mk k n s o a l => by rw [tyE,yc4]; rfl
theorem ziz : ∀ {l : List (Ty × Bool)},(allT l).2 = true -> (allT l).1 = l.map (·.1) /\ ∀ t ∈ l,t.2 = true
 | [],_ => ⟨rfl,by simp⟩
 | t :: r,h => by
   simp only [allT] at h |-
   split at h
   . rename_i hc
     obtain ⟨i1,i2⟩ := ziz hc.2
     rw [if_pos hc]
     refine ⟨by simp [i1],fun u hu => ?_⟩
     rcases List.mem_cons.1 hu with rfl | hu
     . exact hc.1
     . exact i2 u hu
   . cases h
def zbe (w : Img × Img) : Prop := ycq w /\ okEn w.2.en
noncomputable def zf8 : List DV -> Prop × DV := zbw eWay eEx fun w e => (zbe w /\ okPl e,.tup [.agg (cTy (tyE w e).1),.bool (tyE w e).2])
theorem zm2 (w : Img × Img) (e : Ex) : zf8 [.agg (cWay w),.agg (cEx e)] = (zbe w /\ okPl e,.tup [.agg (cTy (tyE w e).1),.bool (tyE w e).2]) := zac zi3 zdf _ w e
noncomputable def zwd (N : Nat) : List DV -> Prop × DV := zbw eWay eExs fun w l => (zbe w /\ l.length <= 1000 /\ ∀ e ∈ l,okPl e /\ szL [eWay w,eEx e] < N,.tup [.sl ((allT (l.map (tyE w))).1.map cTy),.bool (allT (l.map (tyE w))).2])
theorem zyt (N : Nat) (w : Img × Img) (l : List Ex) : zwd N [.agg (cWay w),.sl (l.map cEx)] = (zbe w /\ l.length <= 1000 /\ ∀ e ∈ l,okPl e /\ szL [eWay w,eEx e] < N,.tup [.sl ((allT (l.map (tyE w))).1.map cTy),.bool (allT (l.map (tyE w))).2]) := zac zi3 inj_Exs _ _ _
theorem z7p (N : Nat) (ih : OkP Tryz.prog 104 (lim N zf8)) : OkP Tryz.prog 101 (zwd N) := by
 refine OkP.mk2 (ps := [(104,lim N zf8)]) (hs := []) ⟨ih,trivial⟩ trivial zum fun w l h => ?_
 obtain ⟨hw,hl,h⟩ := h
 
 ((try unfold zcx); ((have hcondQ := Bool.and_self; refine Todo.of ?_); (repeat' (first | ((with_reducible refine Todo.to ?_); (repeat (simp only [↓rP,rT,rU,eL,eA,zb,dval,DV.immB,cellsOf,Nat.reduceEqDiff,↓reduceIte,eExs,eWay,hcondQ])))))))
 refine z0 l (fun k (o : List Ty) => ⟨[(2,.ref (cWay w)),(6,.own 0 o.length 0 o.length),(11,.sl (l.map cEx)),(12,.int .i64 l.length),(13,.int .i64 k)],[⟨.imm,3,o.map cTy⟩]⟩) (fun k r o => o.length = k /\ allT (l.map (tyE w)) = if (allT (r.map (tyE w))).2 = true then (o ++ (allT (r.map (tyE w))).1,true) else ([],false)) [] (Nat.zero_le _) (by simp only [zg,List.map_cons,List.map_nil,zc,Nk.get_nil,Nat.reduceEqDiff,↓reduceIte,DV.cut,DV.inB,DObj.cut,List.take_nil,reduceCtorEq,Nat.zero_lt_one,decide_true,List.take_succ_cons,List.length_nil] <;> rfl) ⟨rfl,?_⟩ (fun k x r o d hx hd hr => ?_) (fun k o e2 hr => ?_)
 . cases hb : (allT (l.map (tyE w))).2
   . have : ∀ l : List (Ty × Bool),(allT l).2 = false -> allT l = ([],false) := by
       intro l
       cases l with
       | nil => intro h; cases h
       | cons t r => intro h; simp only [allT] at h |-; split at h <;> simp_all
     rw [this _ hb]; rfl
   . rw [if_pos rfl,List.nil_append,<- hb]
 . obtain ⟨g1,g2⟩ := hr
   obtain ⟨h1,h2⟩ := h x (List.mem_of_getElem? hx)
   have e1 := zm2 w x
   rw [eq_true (show zbe w /\ okPl x from ⟨hw,h1⟩)] at e1
   simp only [List.map_cons,allT] at g2
   simp only [eWay,eEx,eA] at h2
   generalize tyE w x = t at *
   obtain ⟨t,b⟩ := t
   simp only [cWay,zj x,cTy] at e1 h2
   cases b
   . have hr : allT (l.map (tyE w)) = ([],false) := by rw [g2]; rfl
     rw [hr]
     ((try unfold zcx); ((have hcondQ := Bool.and_self; refine Todo.of ?_); (repeat' (first | ((with_reducible refine Todo.to ?_); (repeat (simp only [↓rP,rT,rU,zb,dval,dBin,dInt,dUn,zh,za,retV,retL,DR.val,fzT,fzVs,fzV,fz1,DV.immB,ze,zf,zp,zo,zx,zi,zq,zw,DV.one,fzL,cellsOf,zk,Nat.reduceEqDiff,Nat.reduceAdd,↓reduceIte,reduceCtorEq,Nat.reduceLeDiff,Nat.reduceLT,forall_const,d,zm cEx hx,zj x,zfn,e1,h2 ,hcondQ]))))) <;> (try (omega))))
   . have hr : allT (l.map (tyE w)) = if (allT (r.map (tyE w))).2 = true then (o ++ [t] ++ (allT (r.map (tyE w))).1,true) else ([],false) := by
       rw [g2]
       cases hb : (allT (r.map (tyE w))).2 <;> simp []
     ((try unfold zcx); ((have hcondQ := Bool.and_self; refine Todo.of ?_); (repeat' (first | ((with_reducible refine Todo.to ?_); (repeat (first | (simp only [↓rP,rT,rU,zb,dval,dBin,dInt,dUn,zh,za,fzVs,fzV,fz1,DV.immB,ze,zf,zp,zo,zx,zi,zq,zy,zax,zw,DV.one,fzLL,fzL,bRow,bU,cellsOf,zk,DV.isU,zat,Nat.reduceEqDiff,Nat.reduceAdd,↓reduceIte,reduceCtorEq,Nat.reduceLeDiff,Nat.reduceLT,forall_const,d,zm cEx hx,zj x,zfn,e1,h2 ,hcondQ]) | ((simp (disch := omega) only [z6]))))) | ((with_reducible refine And.intro ?_ ?_); . omega) | fail))))
     all_goals first
       | exact ⟨o ++ [t],by simp only [zg,List.map_cons,List.map_nil,zc,Nk.get_nil,Nat.reduceEqDiff,↓reduceIte,Nat.succ_ne_self,DV.cut,DV.inB,DObj.cut,List.take_zero,reduceCtorEq,Nat.zero_lt_one,decide_true,List.take_succ_cons,Int.natCast_add,Int.natCast_one,List.length_append,List.length_cons,List.length_nil,Nat.zero_add,List.map_append] <;> rfl,by simp; omega,hr⟩
 . obtain ⟨g1,g2⟩ := hr
   simp only [List.map_nil,allT,if_true,List.append_nil] at g2
   rw [g2]
   ((try unfold zcx); ((refine Todo.of ?_); (repeat' (first | ((with_reducible refine Todo.to ?_); (repeat (simp only [↓rP,rT,rU,zb,dval,dBin,dInt,retV,retL,DR.val,fzT,fzVs,fzV,fz1,DV.immB,zy,freezeAt,Nat.reduceEqDiff,↓reduceIte,reduceCtorEq,e2 ]))) | ((with_reducible refine And.intro ?_ ?_); . omega) | fail))))
   all_goals first
     | exact congrArg DV.sl (List.take_of_length_le (by simp))
noncomputable def zmz (N : Nat) : List DV -> Prop × DV := zbw eWay eEx fun w e => (zbe w /\ okPl e /\ (e.kind = 5 \/ e.kind = 6 \/ e.kind = 7) /\ ∀ x ∈ e.subs,szL [eWay w,eEx x] < N,.tup [.agg (cTy (opT e.kind e.op (allT (e.subs.map (tyE w)))).1),.bool (opT e.kind e.op (allT (e.subs.map (tyE w)))).2])
theorem zxq (N : Nat) (w : Img × Img) (e : Ex) : zmz N [.agg (cWay w),.agg (cEx e)] = (zbe w /\ okPl e /\ (e.kind = 5 \/ e.kind = 6 \/ e.kind = 7) /\ ∀ x ∈ e.subs,szL [eWay w,eEx x] < N,.tup [.agg (cTy (opT e.kind e.op (allT (e.subs.map (tyE w)))).1),.bool (opT e.kind e.op (allT (e.subs.map (tyE w)))).2]) := zac zi3 zdf _ _ _
theorem z2e (N : Nat) (ih : OkP Tryz.prog 104 (lim N zf8)) : OkP Tryz.prog 120 (zmz N) := by
 refine OkP.mk2 (ps := [(101,zwd N),(128,z5f),(129,z0w)]) (hs := []) ⟨z7p N ih,z06,zxs,trivial⟩ trivial zlw fun w e h => ?_
 obtain ⟨hw,he,hk,hs⟩ := h
 have hln := he.len
 have e1 := zyt N w e.subs
 have hl3 : e.subs.length <= 1000 := by have := zbh e.subs; have := za7 e; have := he.2; omega
 rw [eq_true (show zbe w /\ e.subs.length <= 1000 /\ ∀ x ∈ e.subs,okPl x /\ szL [eWay w,eEx x] < N from ⟨hw,hl3,fun x hx => ⟨he.sub hx,hs x hx⟩⟩)] at e1
 have hal : (allT (e.subs.map (tyE w))).2 = true -> (allT (e.subs.map (tyE w))).1.length = e.subs.length := fun h => by rw [(ziz h).1]; simp
 generalize allT (e.subs.map (tyE w)) = ts at *
 obtain ⟨ts,b⟩ := ts
 simp only [cWay] at e1
 
 cases b
 . have hr : opT e.kind e.op (ts,false) = (tyZ,false) := rfl
   rw [hr]
   ((try unfold zbr); ((have hcondQ := Bool.and_self; refine Todo.of ?_); (repeat' (first | ((with_reducible refine Todo.to ?_); (repeat (simp only [↓rP,rT,rU,eA,zr,zb,dval,dUn,zh,za,retV,retL,DR.val,fzT,fzVs,fzV,fz1,DV.immB,ze,zf,zp,zo,zx,zi,zq,zw,DV.one,fzL,cellsOf,zk,Nat.reduceEqDiff,Nat.reduceAdd,↓reduceIte,reduceCtorEq,Nat.reduceLeDiff,Nat.reduceLT,forall_const,eEx,eWay,e1,zj e,tyZ ,hcondQ])))))))
 replace hal : ts.length = e.subs.length := hal rfl
 rcases hk with hk | hk | hk
 . have hsb : za8 e = (1,1) := by simp [za8,hk]
   rw [hsb] at hln
   dsimp only at hln
   have g0 : (ts.map cTy).getD 0 [] = cTy (ts.getD 0 tyZ) := zm cTy (z4 tyZ (by omega))
   have hr : opT e.kind e.op (ts,true) = zpq e.op (ts.getD 0 tyZ) := by simp [opT,hk]
   rw [hr]
   have e2 := ybm e.op (ts.getD 0 tyZ)
   generalize ts.getD 0 tyZ = t0 at *
   generalize zpq e.op t0 = v at *
   simp only [cTy] at e2
   ((try unfold zbr); ((have hcondQ := Bool.and_self; refine Todo.of ?_); (repeat' (first | ((with_reducible refine Todo.to ?_); (repeat (simp only [↓rP,rT,rU,eA,zb,dval,dBin,dInt,dUn,zh,za,retV,retL,DR.val,fzT,fzVs,fzV,fz1,DV.immB,ze,zf,zp,zo,zx,zi,zq,zw,DV.one,fzL,cellsOf,zk,Nat.reduceEqDiff,Nat.reduceAdd,↓reduceIte,reduceCtorEq,Int.reduceToNat,Int.reduceLE,Nat.reduceLeDiff,Nat.reduceLT,forall_const,eEx,eWay,e1,zj e,hk,g0,e2 ,hcondQ]))))) <;> (try (omega))))
   all_goals first | omega
 . have hsb : za8 e = (2,2) := by simp [za8,hk]
   rw [hsb] at hln
   dsimp only at hln
   have g0 : (ts.map cTy).getD 0 [] = cTy (ts.getD 0 tyZ) := zm cTy (z4 tyZ (by omega))
   have g1 : (ts.map cTy).getD 1 [] = cTy (ts.getD 1 tyZ) := zm cTy (z4 tyZ (by omega))
   have hr : opT e.kind e.op (ts,true) = zes e.op (ts.getD 0 tyZ) (ts.getD 1 tyZ) := by simp [opT,hk]
   rw [hr]
   have e2 := z5u e.op (ts.getD 0 tyZ) (ts.getD 1 tyZ)
   generalize ts.getD 0 tyZ = t0 at *
   generalize ts.getD 1 tyZ = t1 at *
   generalize zes e.op t0 t1 = v at *
   simp only [cTy] at e2
   ((try unfold zbr); ((have hcondQ := Bool.and_self; refine Todo.of ?_); (repeat' (first | ((with_reducible refine Todo.to ?_); (repeat (simp only [↓rP,rT,rU,eA,zb,dval,dBin,dInt,dUn,zh,za,retV,retL,DR.val,fzT,fzVs,fzV,fz1,DV.immB,ze,zf,zp,zo,zx,zi,zq,zw,DV.one,fzL,cellsOf,zk,Nat.reduceEqDiff,Nat.reduceAdd,↓reduceIte,reduceCtorEq,Int.reduceToNat,Int.reduceLE,Nat.reduceLeDiff,Nat.reduceLT,Int.reduceBEq,forall_const,eEx,eWay,e1,zj e,hk,g0,g1,e2 ,hcondQ]))) | ((with_reducible refine And.intro ?_ ?_); . omega) | fail)) <;> (try (omega))))
   all_goals first | omega
 . have hsb : za8 e = (3,3) := by simp [za8,hk]
   rw [hsb] at hln
   dsimp only at hln
   have g0 : (ts.map cTy).getD 0 [] = cTy (ts.getD 0 tyZ) := zm cTy (z4 tyZ (by omega))
   have g1 : (ts.map cTy).getD 1 [] = cTy (ts.getD 1 tyZ) := zm cTy (z4 tyZ (by omega))
   have g2 : (ts.map cTy).getD 2 [] = cTy (ts.getD 2 tyZ) := zm cTy (z4 tyZ (by omega))
   have hr : opT e.kind e.op (ts,true) = (ts.getD 1 tyZ,eqT (ts.getD 0 tyZ) ⟨2,0,0⟩ && eqT (ts.getD 1 tyZ) (ts.getD 2 tyZ)) := by simp [opT,hk]
   rw [hr]
   generalize ts.getD 0 tyZ = t0 at *
   generalize ts.getD 1 tyZ = t1 at *
   generalize ts.getD 2 tyZ = t2 at *
   cases c1 : eqT t0 ⟨2,0,0⟩ <;> cases c2 : eqT t1 t2
   all_goals (((try unfold zbr); ((have hcondQ := Bool.and_self; refine Todo.of ?_); (repeat' (first | ((with_reducible refine Todo.to ?_); (repeat (simp only [↓rP,rT,rU,eA,zr,zjq,sepB,hdl,zb,dval,dBin,dInt,dUn,zh,za,retV,retL,DR.val,fzT,fzVs,fzV,fz1,DV.immB,ze,zf,zp,zo,zx,zi,zq,zw,DV.one,fzL,cellsOf,zk,DV.isU,Nat.reduceEqDiff,Nat.reduceAdd,↓reduceIte,reduceCtorEq,Int.reduceToNat,Int.reduceLE,Nat.reduceLeDiff,Nat.reduceLT,Int.reduceBEq,forall_const,eEx,eWay,e1,zj e,hk,g0,g1,g2,aeqT,c1,c2 ,hcondQ]))) | ((with_reducible refine And.intro ?_ ?_); . omega) | fail)) <;> (try (omega)))))
   all_goals first | omega
noncomputable def zvz (N : Nat) : List DV -> Prop × DV := zbw eWay eEx fun w e => (zbe w /\ okPl e /\ e.kind = 15 /\ ∀ x ∈ e.subs,szL [eWay w,eEx x] < N,.tup [.agg (cTy (zj7 w (e.subs.getD 0 default) (tyE w (e.subs.getD 1 default))).1),.bool (zj7 w (e.subs.getD 0 default) (tyE w (e.subs.getD 1 default))).2])
theorem z32 (N : Nat) (w : Img × Img) (e : Ex) : zvz N [.agg (cWay w),.agg (cEx e)] = (zbe w /\ okPl e /\ e.kind = 15 /\ ∀ x ∈ e.subs,szL [eWay w,eEx x] < N,.tup [.agg (cTy (zj7 w (e.subs.getD 0 default) (tyE w (e.subs.getD 1 default))).1),.bool (zj7 w (e.subs.getD 0 default) (tyE w (e.subs.getD 1 default))).2]) := zac zi3 zdf _ _ _
theorem ybr (N : Nat) (ih : OkP Tryz.prog 104 (lim N zf8)) : OkP Tryz.prog 121 (zvz N) := by
 refine OkP.mk2 (ps := [(100,zuo),(104,lim N zf8),(107,zy2)]) (hs := []) ⟨ze5,ih,z2r,trivial⟩ trivial zq5 fun w e h => ?_
 obtain ⟨hw,he,hk,hs⟩ := h
 have hln := he.len
 have hsb : za8 e = (2,2) := by simp [za8,hk]
 rw [hsb] at hln
 dsimp only at hln
 have g0 : (e.subs.map cEx).getD 0 [] = cEx (e.subs.getD 0 default) := zm cEx (z4 default (by omega))
 have g1 : (e.subs.map cEx).getD 1 [] = cEx (e.subs.getD 1 default) := zm cEx (z4 default (by omega))
 have hm : e.subs.getD 1 default ∈ e.subs := by
   exact List.mem_of_getElem? (z4 default (show 1 < e.subs.length by omega))
 have h2 := hs _ hm
 have h3 := he.sub hm
 generalize e.subs.getD 0 default = a at *
 generalize e.subs.getD 1 default = b at *
 have e1 := zqc w a.name
 rw [eq_true hw.1] at e1
 have e2 := zm2 w b
 rw [eq_true (show zbe w /\ okPl b from ⟨hw,h3⟩)] at e2
 have e3 := zvf (zc1 w a.name).1
 have hr : zj7 w a (tyE w b) = (oneT (zc1 w a.name).1,a.kind == 17 && (zc1 w a.name).2 && (tyE w b).2 && decide (0 < (zc1 w a.name).1.n) && eqT (tyE w b).1 ⟨1,0,0⟩) := rfl
 rw [hr]
 simp only [eWay,eEx,eA] at h2
 generalize tyE w b = tb at *
 generalize zc1 w a.name = pt at *
 obtain ⟨pt,b1⟩ := pt
 obtain ⟨tb,b2⟩ := tb
 simp only [cWay,zj b,cTy] at e1 e2 e3 h2
 
 rw [zj a] at g0
 rw [zj b] at g1
 cases b1 <;> cases b2 <;> cases c3 : eqT tb ⟨1,0,0⟩
 all_goals (((try unfold zhw); ((have hcondQ := Bool.and_self; refine Todo.of ?_); (repeat' (first | ((with_reducible refine Todo.to ?_); (repeat (simp only [↓rP,rT,rU,eA,zr,zjq,sepB,hdl,zb,dval,dBin,dInt,zh,za,retV,retL,DR.val,fzT,fzVs,fzV,fz1,DV.immB,ze,zf,zp,zo,zx,zi,zq,zw,DV.one,alive,fzL,cellsOf,zk,DV.isU,Nat.reduceEqDiff,Nat.reduceAdd,↓reduceIte,reduceCtorEq,Int.reduceToNat,Int.reduceLE,Nat.reduceLeDiff,Nat.reduceLT,forall_const,eEx,eWay,zj e,hk,g0,g1,zfn,e1,e2,e3,h2,aeqT,c3 ,hcondQ]))) | ((with_reducible refine And.intro ?_ ?_); . omega) | (((((with_reducible refine zl (t := ?_) ?_ (fun hcQ => ?_) (fun hcQ => ?_)); rotate_left; . (rfl))) <;> (have hn := hcQ; have hcondQ := hcQ) <;> (try simp only [decide_eq_true_eq,decide_eq_false_iff_not,beq_iff_eq,ne_eq,beq_eq_false_iff_ne] at hn) <;> (refine Todo.of ?_))) | fail)))))
 all_goals first | omega | grind
theorem zhb : OkP Tryz.prog 104 zf8 := by
 refine OkP.rec fun N ih => ?_
 unfold zf8
 rw [zve]
 refine OkP.mk2 (ps := [(99,z6b),(100,zuo),(120,zmz N),(121,zvz N)]) (hs := []) ⟨zjr,ze5,z2e N ih,ybr N ih,trivial⟩ trivial zqo fun w e h => ?_
 obtain ⟨⟨hw,he⟩,h2⟩ := h
 have hs : ∀ x ∈ e.subs,szL [eWay w,eEx x] < N := fun x hx => by
   have := znn hx
   simp only [szL,DV.sz] at h2 |-
   omega
 have e1 := zti w.2.en e.name
 rw [eq_true hw.2] at e1
 have e2 := zqc w e.name
 rw [eq_true hw.1] at e2
 by_cases k : e.kind = 5 \/ e.kind = 6 \/ e.kind = 7
 . have e3 := zxq N w e
   rw [eq_true (show zbe w /\ okPl e /\ (e.kind = 5 \/ e.kind = 6 \/ e.kind = 7) /\ ∀ x ∈ e.subs,szL [eWay w,eEx x] < N from ⟨hw,he,k,hs⟩)] at e3
   have hr : tyE w e = opT e.kind e.op (allT (e.subs.map (tyE w))) := by
     rw [zif,if_neg (by omega),if_neg (by omega),if_neg (by omega),if_neg (by omega),if_pos k]
   rw [hr]
   generalize opT e.kind e.op (allT (e.subs.map (tyE w))) = v at *
   obtain ⟨v,bv⟩ := v
   simp only [cWay,zj e,cTy] at e1 e2 e3
   ((try unfold za0); ((have hcondQ := Bool.and_self; refine Todo.of ?_); (repeat' (first | ((with_reducible refine Todo.to ?_); (repeat (simp only [↓rP,rT,rU,eA,zb,dval,dBin,dInt,zh,za,retV,retL,DR.val,fzT,fzVs,fzV,fz1,DV.immB,ze,zf,zp,zo,zx,zi,zq,zw,DV.one,fzL,cellsOf,zk,Nat.reduceEqDiff,Nat.reduceAdd,↓reduceIte,reduceCtorEq,Nat.reduceLeDiff,Nat.reduceLT,forall_const,eEx,eWay,zj e,e3 ,hcondQ]))) | (((((with_reducible refine zd (t := ?_) ?_ (fun hcQ => ?_) (fun hcQ => ?_)); rotate_left; . (rfl))) <;> (have hn := hcQ; have hcondQ := hcQ) <;> (try simp only [beq_iff_eq,ne_eq,beq_eq_false_iff_ne] at hn) <;> (try (exfalso; omega)) <;> (refine Todo.of ?_))) | fail))))
   all_goals first | omega
 by_cases k15 : e.kind = 15
 . have e3 := z32 N w e
   rw [eq_true (show zbe w /\ okPl e /\ e.kind = 15 /\ ∀ x ∈ e.subs,szL [eWay w,eEx x] < N from ⟨hw,he,k15,hs⟩)] at e3
   have hln := he.len
   have hsb : za8 e = (2,2) := by simp [za8,k15]
   rw [hsb] at hln
   dsimp only at hln
   have hr : tyE w e = zj7 w (e.subs.getD 0 default) (tyE w (e.subs.getD 1 default)) := by
     rw [zif,if_neg (by omega),if_neg (by omega),if_neg (by omega),if_neg (by omega),if_neg k,if_pos k15]
     congr 1
     have : 1 < e.subs.length := by omega
     simp [this]
   rw [hr]
   generalize zj7 w (e.subs.getD 0 default) (tyE w (e.subs.getD 1 default)) = v at *
   obtain ⟨v,bv⟩ := v
   simp only [cWay,zj e,cTy,k15] at e1 e2 e3
   ((try unfold za0); ((have hcondQ := Bool.and_self; refine Todo.of ?_); (repeat' (first | ((with_reducible refine Todo.to ?_); (repeat (simp only [↓rP,rT,rU,eA,zb,dval,dBin,dInt,zh,za,retV,retL,DR.val,fzT,fzVs,fzV,fz1,DV.immB,ze,zf,zp,zo,zx,zi,zq,zw,DV.one,fzL,cellsOf,zk,Nat.reduceEqDiff,Nat.reduceAdd,↓reduceIte,reduceCtorEq,Nat.reduceLeDiff,Nat.reduceLT,Int.reduceBEq,forall_const,eEx,eWay,zj e,e3,k15 ,hcondQ])))))))
   all_goals first | omega
 have hr : tyE w e = if e.kind = 1 then (⟨1,0,0⟩,true) else if e.kind = 2 then (⟨2,0,0⟩,true) else if e.kind = 4 then ((armT w.2.en e.name).1,(armT w.2.en e.name).2.2)
   else if e.kind = 17 then ((zc1 w e.name).1,(zc1 w e.name).2 && (zc1 w e.name).1.n == 0) else (tyZ,false) := by
   rw [zif,if_neg k,if_neg k15]
 rw [hr]
 generalize armT w.2.en e.name = ar at *
 generalize zc1 w e.name = pt at *
 obtain ⟨pt,b1⟩ := pt
 obtain ⟨at_,an,ab⟩ := ar
 simp only [cWay,cTy] at e1 e2
 by_cases k1 : e.kind = 1
 . ((try unfold za0); ((have hcondQ := Bool.and_self; refine Todo.of ?_); (repeat' (first | ((with_reducible refine Todo.to ?_); (repeat (simp only [↓rP,rT,rU,eA,zr,zb,dval,dBin,dInt,zh,za,retV,retL,DR.val,fzT,fzVs,fzV,fz1,DV.immB,zw,DV.one,fzL,cellsOf,zk,DV.isU,Nat.reduceEqDiff,Nat.reduceAdd,↓reduceIte,reduceCtorEq,Nat.reduceLeDiff,Nat.reduceLT,forall_const,eEx,eWay,zj e,k1 ,hcondQ])))))))
 by_cases k2 : e.kind = 2
 . ((try unfold za0); ((have hcondQ := Bool.and_self; refine Todo.of ?_); (repeat' (first | ((with_reducible refine Todo.to ?_); (repeat (simp only [↓rP,rT,rU,eA,zr,zb,dval,dBin,dInt,zh,za,retV,retL,DR.val,fzT,fzVs,fzV,fz1,DV.immB,zw,DV.one,fzL,cellsOf,zk,DV.isU,Nat.reduceEqDiff,Nat.reduceAdd,↓reduceIte,reduceCtorEq,Nat.reduceLeDiff,Nat.reduceLT,Int.reduceBEq,Int.reduceEq,forall_const,eEx,eWay,zj e,k2 ,hcondQ])))))))
 by_cases k4 : e.kind = 4
 . ((try unfold za0); ((have hcondQ := Bool.and_self; refine Todo.of ?_); (repeat' (first | ((with_reducible refine Todo.to ?_); (repeat (simp only [↓rP,rT,rU,eA,zb,dval,dBin,dInt,zh,za,retV,retL,DR.val,fzT,fzVs,fzV,fz1,DV.immB,ze,zf,zp,zo,zi,zq,zw,DV.one,fzL,cellsOf,zk,Nat.reduceEqDiff,Nat.reduceAdd,↓reduceIte,reduceCtorEq,Nat.reduceLeDiff,Nat.reduceLT,Int.reduceBEq,Int.reduceEq,forall_const,eEx,eWay,zj e,k4,e1 ,hcondQ])))))))
 by_cases k17 : e.kind = 17
 . cases b1 <;> cases c3 : (pt.n == 0)
   all_goals (((try unfold za0); ((have hcondQ := Bool.and_self; refine Todo.of ?_); (repeat' (first | ((with_reducible refine Todo.to ?_); (repeat (simp only [↓rP,rT,rU,eA,zjq,sepB,hdl,zb,dval,dBin,dInt,zh,za,retV,retL,DR.val,fzT,fzVs,fzV,fz1,DV.immB,ze,zf,zp,zo,zx,zi,zq,zw,DV.one,alive,fzL,cellsOf,zk,Nat.reduceEqDiff,Nat.reduceAdd,↓reduceIte,reduceCtorEq,Nat.reduceLeDiff,Nat.reduceLT,Int.reduceBEq,Int.reduceEq,forall_const,eEx,eWay,zj e,k17,e2,c3 ,hcondQ]))))))))
   all_goals first | rfl
 rw [if_neg k1,if_neg k2,if_neg k4,if_neg k17]
 ((try unfold za0); ((have hcondQ := Bool.and_self; refine Todo.of ?_); (repeat' (first | ((with_reducible refine Todo.to ?_); (repeat (simp only [↓rP,rT,rU,eA,zr,zb,dval,dBin,dInt,zh,za,retV,retL,DR.val,fzT,fzVs,fzV,fz1,DV.immB,zw,DV.one,fzL,cellsOf,zk,Nat.reduceEqDiff,Nat.reduceAdd,↓reduceIte,reduceCtorEq,Nat.reduceLeDiff,Nat.reduceLT,forall_const,eEx,eWay,zj e,tyZ ,hcondQ]))) | (((((with_reducible refine zd (t := ?_) ?_ (fun hcQ => ?_) (fun hcQ => ?_)); rotate_left; . (rfl))) <;> (have hn := hcQ; have hcondQ := hcQ) <;> (try simp only [beq_iff_eq,ne_eq,beq_eq_false_iff_ne] at hn) <;> (try (exfalso; omega)) <;> (refine Todo.of ?_))) | fail))))
 all_goals first | rfl | omega
set_option linter.all false
set_option maxRecDepth 20000
open Go.Nk
@[reducible] def aWalk (e : Ex) : List DV := [.agg (cEx e),.yld 0]
theorem inj_walk : InjL aWalk := fun x y h => by
 injection h with h _
 injection h with h
 exact zmv _ _ h
def encX (e : Ex) : List DV := [.agg (cEx e)]
noncomputable def zug : List DV -> Prop × List (List DV) := zjz aWalk fun e => (zaq e <= 1000,(zaj e).map encX)
theorem z3z (e : Ex) : zug [.agg (cEx e),.yld 0] = (zaq e <= 1000,(zaj e).map encX) := ztj inj_walk _ e
theorem reY_agg (l : Nat) (cs : List DV) : DV.reY l (.agg cs) = .agg cs := rfl
theorem reY_yld (l k : Nat) : DV.reY l (.yld k) = .yld l := rfl
theorem yeq (cs : List DV) : DV.unY (.agg cs) = .agg cs := rfl
theorem ydy (k : Nat) : DV.unY (.yld k) = .yld 0 := rfl
theorem z4c (l : Nat) (cs : List DV) : zuy l (.agg cs) = cs.all DV.immB := rfl
theorem z2z (l : Nat) : zuy l (.yld l) = true := by simp [zuy]
theorem endB_t (k : Option Nat) (m : Nat) : endB (.bool true) k m = (k = some m) := rfl
theorem endB_f (k : Option Nat) (m : Nat) : endB (.bool false) k m = (k = none) := rfl
theorem okW_walk : OkW Tryz.prog 97 zug := by
 refine OkW.rec fun N ih => ?_
 unfold zug
 rw [yb1]
 refine OkW.mkA (ps := []) (hs := []) (is := []) (ws := [(97,limI N zug)]) trivial trivial trivial ⟨ih,trivial⟩ z49 (fun _ => rfl) fun e l h => ?_
 obtain ⟨h1,h2⟩ := h
 dsimp only
 generalize hys : (zaj e).map encX = ys
 have hy0 : ys[0]? = some [.agg (cEx e)] := by rw [<- hys,zcy]; rfl
 have hln : ys.length = (zaj e).length := by rw [<- hys]; simp
 have hl := zbh e.subs
 have hq := za7 e
 simp only [zj e] at hy0
 
 ((try unfold ziw); (have hcondQ := Bool.and_self; refine Todo.of ?_); (repeat' (first | ((with_reducible refine Todo.to ?_); (repeat (simp only [rT,rU,zb,dval,zn,dUn,zh,za,retV,DR.val,DV.immB,cellsOf,Nat.reduceEqDiff,Nat.reduceAdd,↓reduceIte,Nat.reduceLeDiff,rI,zlc,immV,zj e,aWalk,reY_agg,reY_yld,hy0,endB_f ,hcondQ]))))))
 refine zot e.subs (fun k (n : Nat) => (⟨[(1,.yld l),(12,.sl (e.subs.map cEx)),(13,.int .i64 e.subs.length),(14,.int .i64 k)],[]⟩,some n)) (fun k r n => ys.drop n = (zcd r).map encX /\ n <= ys.length) 1 (by simp only [zg,List.map_cons,List.map_nil,zc,Nk.get_nil,Nat.reduceEqDiff,↓reduceIte,Nat.succ_ne_self,DV.cut,DV.inB,List.take_nil] <;> rfl) ⟨by rw [<- hys,zcy]; rfl,by rw [<- hys,zcy]; simp⟩ (fun k x r n d hx hd hr => ?_) (fun k n e2 hr => ?_)
 . obtain ⟨g1,g2⟩ := hr
   rw [zcd,List.map_append] at g1
   have hm := List.mem_of_getElem? hx
   have hs : szL [DV.agg (cEx x),DV.yld 0] < N := by
     have := znn hm
     simp only [szL,DV.sz] at h2 |-
     omega
   have hsz : zaq x <= 1000 := by
     have := zp1 (zn2 hm (zgd x))
     dsimp only at h1
     omega
   have q1 : (Orc.ofW [] [] [] [(97,limI N zug)]).w 97 [.agg (cEx x),.yld 0] = (True,(zaj x).map encX) := by
     rw [ofW_w,ztq,if_pos rfl,limI_at,z3z]
     exact congrArg (·,_) (eq_true ⟨hsz,hs⟩)
   have hall : ∀ i y,((zaj x).map encX)[i]? = some y -> ys[n + i]? = some y := by
     intro i y hy
     rw [<- List.getElem?_drop,g1,List.getElem?_append_left (List.getElem?_eq_some_iff.1 hy).1]
     exact hy
   have hall' := eq_true hall
   have g3 : ys.drop (n + (zaj x).length) = (zcd r).map encX := by
     rw [<- List.drop_drop,g1,List.drop_left' (by simp)]
   have g4 : n + (zaj x).length <= ys.length := by
     have := congrArg List.length g1
     simp only [List.length_drop,List.length_append,List.length_map] at this
     omega
   simp only [zj x] at q1
   ((try unfold ziw); (have hcondQ := Bool.and_self; refine Todo.of ?_); (repeat' (first | ((with_reducible refine Todo.to ?_); (repeat (first | (simp only [rT,rU,zb,dval,dBin,dInt,dUn,zh,za,retV,DR.val,DV.immB,zw,DV.one,cellsOf,zk,Nat.reduceEqDiff,Nat.reduceAdd,↓reduceIte,reduceCtorEq,Nat.reduceLeDiff,forall_const,rI,zlc,d,zm cEx hx,zj x,yeq,ydy,z4c,z2z,q1,hall',endB_f,hcondQ]) | ((simp (disch := omega) only [z6]))))) | ((with_reducible refine And.intro ?_ ?_); . omega) | fail)))
   exact ⟨n + (zaj x).length,by simp only [zg,List.map_cons,List.map_nil,zc,Nk.get_nil,Nat.reduceEqDiff,↓reduceIte,Nat.succ_ne_self,DV.cut,DV.inB,List.take_zero,Int.natCast_add,Int.natCast_one] <;> rfl,g3,g4⟩
 . obtain ⟨g1,g2⟩ := hr
   rw [zcd,List.map_nil] at g1
   have g3 := zup g1 g2
   ((try unfold ziw); (have hcondQ := Bool.and_self; refine Todo.of ?_); (repeat' (first | ((with_reducible refine Todo.to ?_); (repeat (simp only [rT,rU,zb,dval,dBin,dInt,retV,DR.val,Nat.reduceEqDiff,↓reduceIte,rI,zlc,e2,endB_t,g3 ,hcondQ]))))))
@[reducible] def aEachX (e : Ex) : List DV := [.ref (cEx e)]
theorem yha : InjL aEachX := fun x y h => by
 injection h with h _
 injection h with h
 exact zmv _ _ h
noncomputable def ztw : List DV -> Prop × List (List DV) := zjz aEachX fun e => (zaq e <= 1000,(zaj e).map encX)
theorem z58 (e : Ex) : ztw [.ref (cEx e)] = (zaq e <= 1000,(zaj e).map encX) := ztj yha _ e
theorem ybp : OkI Tryz.prog 96 ztw := by
 refine OkI.mkW (ps := []) (hs := []) (is := []) (ws := [(97,zug)]) trivial trivial trivial ⟨okW_walk,trivial⟩ z0g rfl (fun _ => rfl) fun e l h => ?_
 have q1 : (Orc.ofW [] [] [] [(97,zug)]).w 97 [.agg (cEx e),.yld 0] = (True,(zaj e).map encX) := by
   rw [ofW_w,ztq,if_pos rfl,z3z]
   exact congrArg (·,_) (eq_true h)
 dsimp only
 have hall : ∀ i y,((zaj e).map encX)[i]? = some y -> ((zaj e).map encX)[0 + i]? = some y := fun i y h => by rw [Nat.zero_add]; exact h
 have hall' := eq_true hall
 generalize (zaj e).map encX = ys at *
 simp only [zj e,Nat.zero_add] at q1 hall'
 
 ((try unfold znd); (have hcondQ := Bool.and_self; refine Todo.of ?_); (repeat' (first | ((with_reducible refine Todo.to ?_); (repeat (simp only [rT,rU,zb,dval,zn,zh,za,DV.immB,Nat.reduceEqDiff,Nat.reduceAdd,↓reduceIte,reduceCtorEq,Nat.reduceLeDiff,rI,zlc,zj e,yeq,ydy,z4c,z2z,q1,hall' ,hcondQ]))))))
noncomputable def zzl : List DV -> Prop × DV := zbp eEx fun e => (True,.clo 96 [.ref (cEx e)])
theorem yam (e : Ex) : zzl [.agg (cEx e)] = (True,.clo 96 [.ref (cEx e)]) := z8 zdf _ e
theorem z3l : OkP Tryz.prog 72 zzl := by
 refine OkP.mk1 (ps := []) (hs := []) trivial trivial z5k fun e _ => ?_
 ((try unfold zvs); ((have hcondQ := Bool.and_self; refine Todo.of ?_); (repeat' (first | ((with_reducible refine Todo.to ?_); (repeat (simp only [↓rP,rT,rU,eA,zb,dval,retV,DR.val,fzT,fzV,fz1,DV.immB,cellsOf,Nat.reduceEqDiff,↓reduceIte,eEx,zj e ,hcondQ])))))))
@[reducible] def eRTys (l : List Ty) : DV := .ref [.sl (l.map cTy)]
theorem inj_RTys : Inj eRTys := fun x y h => by
 injection h with h
 injection h with h
 injection h with h
 exact zdm zpy _ _ h
@[reducible] def z3i (l : List Ty) : DV := .clo 103 [.ref [.sl (l.map cTy)]]
theorem z4h : Inj z3i := fun x y h => by
 injection h with _ h
 injection h with h
 injection h with h
 injection h with h
 injection h with h
 exact zdm zpy _ _ h
noncomputable def s_of1 : List DV -> Prop × DV := zbw eTy eRTys fun t l => (0 < l.length,.bool (!eqT t (l.getD 0 tyZ)))
theorem s_of1_at (t : Ty) (l : List Ty) : s_of1 [.agg (cTy t),.ref [.sl (l.map cTy)]] = (0 < l.length,.bool (!eqT t (l.getD 0 tyZ))) := zac zii inj_RTys _ t l
theorem zqv : OkP Tryz.prog 103 s_of1 := by
 refine OkP.mk2 (ps := []) (hs := []) trivial trivial zs2 fun t l h => ?_
 try dsimp only at h
 have h : 0 < l.length := h
 have g0 : (l.map cTy).getD 0 [] = cTy (l.getD 0 tyZ) := zm cTy (z4 tyZ h)
 generalize l.getD 0 tyZ = u at *
 cases c : eqT t u
 all_goals (((try unfold zjg); ((have hcondQ := Bool.and_self; refine Todo.of ?_); (repeat' (first | ((with_reducible refine Todo.to ?_); (repeat (simp only [↓rP,rT,rU,eA,zb,dval,zh,za,retV,DR.val,fzT,fzV,fz1,DV.immB,cellsOf,Nat.reduceEqDiff,Nat.reduceAdd,↓reduceIte,Int.reduceToNat,Int.reduceLE,Nat.reduceLeDiff,eRTys,eTy,g0,aeqT,c ,hcondQ]))))) <;> (try (omega)))))
 all_goals first | omega
def zgp (l m : List Ty) : Int := match l.findIdx? fun t => !eqT t (m.getD 0 tyZ) with | some k => k | none => -1
noncomputable def s_IxT : List DV -> Prop × DV := zbw eTys z3i fun l m => (l.length <= 1000000 /\ (l = [] \/ 0 < m.length),.int .i64 (zgp l m))
theorem s_IxT_at (l : List Ty) (m : List Ty) : s_IxT [.sl (l.map cTy),.clo 103 [.ref [.sl (m.map cTy)]]] = (l.length <= 1000000 /\ (l = [] \/ 0 < m.length),.int .i64 (zgp l m)) := zac yc5 z4h _ l m
theorem zex : OkP Tryz.prog 119 s_IxT := by
 refine OkP.mk2 (ps := [(103,s_of1)]) (hs := []) ⟨zqv,trivial⟩ trivial ze3 fun l m h => ?_
 try dsimp only at h
 obtain ⟨h,hm⟩ := h
 ((try unfold zaf); ((refine Todo.of ?_); (repeat' (first | ((with_reducible refine Todo.to ?_); (repeat (simp only [↓rP,rT,rU,eL,zb,dval,↓reduceIte,reduceCtorEq,Int.reduceNeg,z3i,eTys ])))))))
 refine z0 l (fun k (_ : Unit) => ⟨[(0,.sl (l.map cTy)),(1,.clo 103 [.ref [.sl (m.map cTy)]]),(7,.int .i64 l.length),(8,.int .i64 k)],[]⟩) (fun k r _ => (r.findIdx? fun t => !eqT t (m.getD 0 tyZ)).map (· + k) = l.findIdx? fun t => !eqT t (m.getD 0 tyZ)) () (Nat.zero_le _) (by simp only [zg,List.map_cons,List.map_nil,zc,Nk.get_nil,Nat.reduceEqDiff,↓reduceIte,Nat.succ_ne_self,DV.cut,DV.inB,List.take_nil,DV.inBL,Bool.and_true,reduceCtorEq] <;> rfl) (by simp) (fun k x r _ d hx hd hr => ?_) (fun k _ e hr => ?_)
 . rw [List.findIdx?_cons] at hr
   have e1 := s_of1_at x m
   have hm' : 0 < m.length := by
     rcases hm with rfl | hm
     . simp at d
     . exact hm
   rw [eq_true hm'] at e1
   simp only [cTy] at e1
   cases c : eqT x (m.getD 0 tyZ)
   . rw [c] at e1 hr
     have hu : zgp l m = k := by
       simp only [Bool.not_false,if_true,Option.map_some,Nat.zero_add] at hr
       unfold zgp
       rw [<- hr]
     ((try unfold zaf); ((refine Todo.of ?_); (repeat' (first | ((with_reducible refine Todo.to ?_); (repeat (simp only [↓rP,rT,rU,zb,dval,dBin,dInt,zh,za,retV,DR.val,fzT,fzV,fz1,DV.immB,ze,zf,zp,zo,zx,zi,zq,Nat.reduceEqDiff,Nat.reduceAdd,↓reduceIte,reduceCtorEq,Nat.reduceLeDiff,Int.reduceNeg,d,zm cTy hx,e1,hu ]))))) <;> (try (omega))))
   . rw [c] at e1 hr
     ((try unfold zaf); ((refine Todo.of ?_); (repeat' (first | ((with_reducible refine Todo.to ?_); (repeat (first | (simp only [↓rP,rT,rU,zb,dval,dBin,dInt,zh,za,DV.immB,ze,zf,zp,zo,zx,zi,zq,Nat.reduceEqDiff,Nat.reduceAdd,↓reduceIte,reduceCtorEq,Nat.reduceLeDiff,Int.reduceNeg,d,zm cTy hx,e1 ]) | ((simp (disch := omega) only [z6]))))) | ((with_reducible refine And.intro ?_ ?_); . omega) | fail))))
     refine ⟨(),by simp only [zg,List.map_cons,List.map_nil,zc,Nk.get_nil,Nat.reduceEqDiff,↓reduceIte,Nat.succ_ne_self,DV.cut,DV.inB,List.take_nil,DV.inBL,Bool.and_true,reduceCtorEq,Int.natCast_add,Int.natCast_one] <;> rfl,?_⟩
     simp only [Bool.not_true,Bool.false_eq_true,if_false] at hr
     rw [<- hr,Option.map_map]
     congr 1
     funext y
     simp; omega
 . simp only [List.findIdx?_nil,Option.map_none] at hr
   have hu : zgp l m = -1 := by unfold zgp; rw [<- hr]
   ((try unfold zaf); ((refine Todo.of ?_); (repeat' (first | ((with_reducible refine Todo.to ?_); (repeat (simp only [↓rP,rT,rU,zb,dval,dBin,dInt,retV,DR.val,fzT,fzV,fz1,DV.immB,Nat.reduceEqDiff,↓reduceIte,reduceCtorEq,Int.reduceNeg,e,hu ])))))))
noncomputable def yfu : List DV -> Prop × DV := zbw eTys z3i fun l m => (l.length <= 1000000 /\ (l = [] \/ 0 < m.length),.bool (decide (0 <= zgp l m)))
theorem ygk (l : List Ty) (m : List Ty) : yfu [.sl (l.map cTy),.clo 103 [.ref [.sl (m.map cTy)]]] = (l.length <= 1000000 /\ (l = [] \/ 0 < m.length),.bool (decide (0 <= zgp l m))) := zac yc5 z4h _ l m
theorem zdw : OkP Tryz.prog 102 yfu := by
 refine OkP.mk2 (ps := [(119,s_IxT)]) (hs := []) ⟨zex,trivial⟩ trivial zd0 fun l m h => ?_
 try dsimp only at h
 ((try unfold zbo); ((refine Todo.of ?_); (repeat' (first | ((with_reducible refine Todo.to ?_); (repeat (simp only [↓rP,rT,rU,eL,zb,dval,dBin,dInt,retV,DR.val,fzT,fzV,fz1,DV.immB,ze,zf,zp,zo,capVL,capV,zi,zq,Nat.reduceEqDiff,↓reduceIte,reduceCtorEq,s_IxT_at,z3i,eTys,h ])))))))
 all_goals first | rfl
def ofT (w : Img × Img) (e : Ex) : Ty × Bool :=
 if e.kind = 17 then zc1 w e.name else if e.kind = 14 then
   (if (allT (e.subs.map (tyE w))).2 = true /\ zgp (allT (e.subs.map (tyE w))).1 (allT (e.subs.map (tyE w))).1 < 0 then (⟨((allT (e.subs.map (tyE w))).1.getD 0 tyZ).k,((allT (e.subs.map (tyE w))).1.getD 0 tyZ).e,(allT (e.subs.map (tyE w))).1.length⟩,true) else (tyZ,false))
 else tyE w e
noncomputable def ybj : List DV -> Prop × DV := zbw eWay eEx fun w e => (zbe w /\ okPl e,.tup [.agg (cTy (ofT w e).1),.bool (ofT w e).2])
theorem s_ofW_at (w : Img × Img) (e : Ex) : ybj [.agg (cWay w),.agg (cEx e)] = (zbe w /\ okPl e,.tup [.agg (cTy (ofT w e).1),.bool (ofT w e).2]) := zac zi3 zdf _ w e
theorem zss : ∀ N,OkP Tryz.prog 101 (zwd N) := fun N => z7p N fun a h => zhb a h.1
theorem zwc : OkP Tryz.prog 74 ybj := by
 intro a ha
 have key : ∀ N,OkP Tryz.prog 74 (lim N ybj) := by
   intro N
   unfold ybj
   rw [zve]
   refine OkP.mk2 (ps := [(100,zuo),(101,zwd N),(102,yfu),(104,zf8)]) (hs := []) ⟨ze5,zss N,zdw,zhb,trivial⟩ trivial zxz fun w e h => ?_
   obtain ⟨⟨hw,he⟩,h2⟩ := h
   have hs : ∀ x ∈ e.subs,szL [eWay w,eEx x] < N := fun x hx => by
     have := znn hx
     simp only [szL,DV.sz] at h2 |-
     omega
   have e1 := zqc w e.name
   rw [eq_true hw.1] at e1
   have e2 := zm2 w e
   rw [eq_true (show zbe w /\ okPl e from ⟨hw,he⟩)] at e2
   have e3 := zyt N w e.subs
   have hl3 : e.subs.length <= 1000 := by have := zbh e.subs; have := za7 e; have := he.2; omega
   rw [eq_true (show zbe w /\ e.subs.length <= 1000 /\ ∀ x ∈ e.subs,okPl x /\ szL [eWay w,eEx x] < N from ⟨hw,hl3,fun x hx => ⟨he.sub hx,hs x hx⟩⟩)] at e3
   have hal : (allT (e.subs.map (tyE w))).2 = true -> (allT (e.subs.map (tyE w))).1.length = e.subs.length := fun h => by rw [(ziz h).1]; simp
   
   by_cases k17 : e.kind = 17
   . have hr : ofT w e = zc1 w e.name := by simp [ofT,k17]
     rw [hr]
     generalize zc1 w e.name = v at *
     obtain ⟨v,b⟩ := v
     simp only [cWay,cTy] at e1
     ((try unfold zch); ((have hcondQ := Bool.and_self; refine Todo.of ?_); (repeat' (first | ((with_reducible refine Todo.to ?_); (repeat (simp only [↓rP,rT,rU,eA,zb,dval,dBin,dInt,zh,za,retV,retL,DR.val,fzT,fzVs,fzV,fz1,DV.immB,ze,zf,zp,zo,zx,zi,zq,zw,DV.one,fzL,cellsOf,zk,Nat.reduceEqDiff,Nat.reduceAdd,↓reduceIte,reduceCtorEq,Nat.reduceLeDiff,Nat.reduceLT,forall_const,eEx,eWay,zj e,k17,e1 ,hcondQ])))))))
   by_cases k14 : e.kind = 14
   rotate_left
   . have hr : ofT w e = tyE w e := by simp [ofT,k17,k14]
     rw [hr]
     generalize tyE w e = v at *
     obtain ⟨v,b⟩ := v
     simp only [cWay,cTy,zj e] at e2
     ((try unfold zch); ((have hcondQ := Bool.and_self; refine Todo.of ?_); (repeat' (first | ((with_reducible refine Todo.to ?_); (repeat (simp only [↓rP,rT,rU,eA,zb,dval,dBin,dInt,zh,za,retV,retL,DR.val,fzT,fzVs,fzV,fz1,DV.immB,ze,zf,zp,zo,zx,zi,zq,zw,DV.one,fzL,cellsOf,zk,Nat.reduceEqDiff,Nat.reduceAdd,↓reduceIte,reduceCtorEq,Nat.reduceLeDiff,Nat.reduceLT,forall_const,eEx,eWay,zj e,e2 ,hcondQ]))) | (((((with_reducible refine zd (t := ?_) ?_ (fun hcQ => ?_) (fun hcQ => ?_)); rotate_left; . (rfl))) <;> (have hn := hcQ; have hcondQ := hcQ) <;> (try simp only [beq_iff_eq,ne_eq,beq_eq_false_iff_ne] at hn) <;> (try (exfalso; omega)) <;> (refine Todo.of ?_))) | fail))))
   have hln := he.len
   have hsb : za8 e = (1,8) := by simp [za8,k14]
   rw [hsb] at hln
   dsimp only at hln
   have hr : ofT w e = if (allT (e.subs.map (tyE w))).2 = true /\ zgp (allT (e.subs.map (tyE w))).1 (allT (e.subs.map (tyE w))).1 < 0 then (⟨((allT (e.subs.map (tyE w))).1.getD 0 tyZ).k,((allT (e.subs.map (tyE w))).1.getD 0 tyZ).e,(allT (e.subs.map (tyE w))).1.length⟩,true) else (tyZ,false) := by simp [ofT,k14]
   rw [hr]
   generalize allT (e.subs.map (tyE w)) = ts at *
   obtain ⟨ts,b⟩ := ts
   simp only [cWay] at e3
   cases b
   . simp only [Bool.false_eq_true,false_and,if_false]
     ((try unfold zch); ((have hcondQ := Bool.and_self; refine Todo.of ?_); (repeat' (first | ((with_reducible refine Todo.to ?_); (repeat (simp only [↓rP,rT,rU,eA,zr,zb,dval,dBin,dInt,dUn,zh,za,retV,retL,DR.val,fzT,fzVs,fzV,fz1,DV.immB,ze,zf,zp,zo,zx,zi,zq,zw,DV.one,fzL,cellsOf,zk,Nat.reduceEqDiff,Nat.reduceAdd,↓reduceIte,reduceCtorEq,Nat.reduceLeDiff,Nat.reduceLT,Int.reduceBEq,forall_const,eEx,eWay,zj e,k14,e3,tyZ ,hcondQ])))))))
   replace hal : ts.length = e.subs.length := hal rfl
   have e4 := ygk ts ts
   rw [eq_true (show ts.length <= 1000000 /\ (ts = [] \/ 0 < ts.length) from ⟨by omega,.inr (by omega)⟩)] at e4
   have g0 : (ts.map cTy).getD 0 [] = cTy (ts.getD 0 tyZ) := zm cTy (z4 tyZ (by omega))
   generalize ts.getD 0 tyZ = t0 at *
   by_cases c : 0 <= zgp ts ts
   . rw [decide_eq_true c] at e4
     rw [if_neg (by simp; omega)]
     ((try unfold zch); ((have hcondQ := Bool.and_self; refine Todo.of ?_); (repeat' (first | ((with_reducible refine Todo.to ?_); (repeat (simp only [↓rP,rT,rU,eA,zr,zb,dval,dBin,dInt,dUn,zh,za,retV,retL,DR.val,fzT,fzVs,fzV,fz1,DV.immB,ze,zf,zp,zo,capVL,capV,zx,zi,zq,zw,DV.one,fzL,cellsOf,zk,Nat.reduceEqDiff,Nat.reduceAdd,↓reduceIte,reduceCtorEq,Nat.reduceLeDiff,Nat.reduceLT,Int.reduceBEq,forall_const,eEx,eWay,zj e,k14,e3,e4,tyZ ,hcondQ])))))))
     all_goals first | rfl
   . rw [decide_eq_false c] at e4
     rw [if_pos ⟨rfl,show zgp ts ts < 0 by omega⟩]
     ((try unfold zch); ((have hcondQ := Bool.and_self; refine Todo.of ?_); (repeat' (first | ((with_reducible refine Todo.to ?_); (repeat (simp only [↓rP,rT,rU,eA,zb,dval,dBin,dInt,dUn,zh,za,retV,retL,DR.val,fzT,fzVs,fzV,fz1,DV.immB,ze,zf,zp,zo,capVL,capV,zx,zi,zq,zw,DV.one,alive,fzL,cellsOf,zk,Nat.reduceEqDiff,Nat.reduceAdd,↓reduceIte,reduceCtorEq,Int.reduceToNat,Int.reduceLE,Nat.reduceLeDiff,Nat.reduceLT,Int.reduceBEq,forall_const,eEx,eWay,zj e,k14,e3,e4,g0 ,hcondQ]))))) <;> (try (omega))))
     all_goals first | rfl | omega
 exact key (szL a + 1) a ⟨ha,Nat.lt_succ_self _⟩
def zlv (w : Img × Img) (e : Ex) : Bool := if e.kind = 17 then (za5 w.1 e.name).2 else if e.kind = 4 then (armT w.2.en e.name).2.2 else true
noncomputable def z1u : List DV -> Prop × DV := zbw eWay eEx fun w e => (zbe w,.bool (zlv w e))
theorem yak (w : Img × Img) (e : Ex) : z1u [.agg (cWay w),.agg (cEx e)] = (zbe w,.bool (zlv w e)) := zac zi3 zdf _ w e
theorem zno : OkP Tryz.prog 73 z1u := by
 refine OkP.mk2 (ps := [(98,zqx),(99,z6b)]) (hs := []) ⟨zda,zjr,trivial⟩ trivial zqu fun w e h => ?_
 try dsimp only at h
 have hw : zbe w := h
 have e1 := zlb w e.name
 rw [eq_true hw.1] at e1
 have e2 := zti w.2.en e.name
 rw [eq_true hw.2] at e2
 have hr : zlv w e = if e.kind = 17 then (za5 w.1 e.name).2 else if e.kind = 4 then (armT w.2.en e.name).2.2 else true := rfl
 rw [hr]
 generalize za5 w.1 e.name = v at *
 generalize armT w.2.en e.name = u at *
 simp only [cWay,cSlt,cTy] at e1 e2
 by_cases k17 : e.kind = 17
 . ((try unfold zde); ((have hcondQ := Bool.and_self; refine Todo.of ?_); (repeat' (first | ((with_reducible refine Todo.to ?_); (repeat (simp only [↓rP,rT,rU,eA,zb,dval,dBin,dInt,zh,za,retV,DR.val,fzT,fzVs,fzV,fz1,DV.immB,ze,zf,zp,zo,zx,zi,zq,fzL,cellsOf,Nat.reduceEqDiff,Nat.reduceAdd,↓reduceIte,reduceCtorEq,Nat.reduceLeDiff,Nat.reduceLT,eEx,eWay,zj e,k17,e1 ,hcondQ])))))))
 by_cases k4 : e.kind = 4
 . ((try unfold zde); ((have hcondQ := Bool.and_self; refine Todo.of ?_); (repeat' (first | ((with_reducible refine Todo.to ?_); (repeat (simp only [↓rP,rT,rU,eA,zb,dval,dBin,dInt,zh,za,retV,DR.val,fzT,fzVs,fzV,fz1,DV.immB,ze,zf,zp,zo,zi,zq,cellsOf,Nat.reduceEqDiff,Nat.reduceAdd,↓reduceIte,reduceCtorEq,Nat.reduceLT,Int.reduceBEq,Int.reduceEq,eEx,eWay,zj e,k4,e2 ,hcondQ])))))))
 rw [if_neg k17,if_neg k4]
 ((try unfold zde); ((have hcondQ := Bool.and_self; refine Todo.of ?_); (repeat' (first | ((with_reducible refine Todo.to ?_); (repeat (simp only [↓rP,rT,rU,eA,zb,dval,dBin,dInt,zh,za,retV,DR.val,fzT,fzV,fz1,DV.immB,cellsOf,Nat.reduceEqDiff,Nat.reduceAdd,↓reduceIte,Nat.reduceLT,eEx,eWay,zj e,hcondQ]))) | (((((with_reducible refine zd (t := ?_) ?_ (fun hcQ => ?_) (fun hcQ => ?_)); rotate_left; . (rfl))) <;> (have hn := hcQ; have hcondQ := hcQ) <;> (try simp only [beq_iff_eq,ne_eq,beq_eq_false_iff_ne] at hn) <;> (try (exfalso; omega)) <;> (refine Todo.of ?_))) | fail))))
def oneE (w : Img × Img) (m : Mov) : Int :=
 if fndI w.2.slots m.path < 0 then 5 else if (zaj m.e).all (zlv w) = false then 5
 else if (ofT w m.e).2 = true /\ eqT (ofT w m.e).1 (w.2.slots.getD (fndI w.2.slots m.path).toNat default).ty = true then 0 else 7
noncomputable def z74 : List DV -> Prop × DV := zbw eWay eMov fun w m => (zbe w /\ okPl m.e,.int .i64 (oneE w m))
theorem z3s (w : Img × Img) (m : Mov) : z74 [.agg (cWay w),.agg (cMov m)] = (zbe w /\ okPl m.e,.int .i64 (oneE w m)) := zac zi3 zzt _ w m
theorem zjb : OkP Tryz.prog 46 z74 := by
 refine OkP.mk2I (ps := [(48,zhk),(72,zzl),(73,z1u),(74,ybj)]) (hs := []) (is := [(96,ztw)]) ⟨zd4,z3l,zno,zwc,trivial⟩ trivial ⟨ybp,trivial⟩ zus fun w m h => ?_
 obtain ⟨hw,he⟩ := h
 have e1 := zdu w.2.slots m.path
 rw [eq_true hw.1.2.2.2] at e1
 have e2 := s_ofW_at w m.e
 rw [eq_true (show zbe w /\ okPl m.e from ⟨hw,he⟩)] at e2
 have e3 := yam m.e
 have q1 : (Orc.ofI [(48,zhk),(72,zzl),(73,z1u),(74,ybj)] [] [(96,ztw)]).i 96 [.ref (cEx m.e)] = (True,(zaj m.e).map encX) := by
   rw [ofI_i,ztq,if_pos rfl,z58]
   exact congrArg (·,_) (eq_true he.2)
 
 by_cases c : fndI w.2.slots m.path < 0
 . have hr : oneE w m = 5 := by simp [oneE,c]
   rw [hr]
   ((try unfold zbc); ((have hcondQ := Bool.and_self; refine Todo.of ?_); (repeat' (first | ((with_reducible refine Todo.to ?_); (repeat (simp only [↓rP,rT,rU,eA,zb,dval,zn,dBin,dInt,zh,za,retV,DR.val,fzT,fzV,fz1,DV.immB,ze,zf,zp,zo,zi,zq,zw,DV.one,cellsOf,zk,Nat.reduceEqDiff,Nat.reduceAdd,↓reduceIte,reduceCtorEq,Nat.reduceLeDiff,Nat.reduceLT,forall_const,eMov,eWay,zsx,e1,c,zj m.e ,hcondQ])))))))
 obtain ⟨k,hk,hl⟩ := zca c
 have gx : (w.2.slots.map cSlt).getD k [] = cSlt (w.2.slots.getD k default) := zm cSlt (z4 default hl)
 have hr : oneE w m = if (zaj m.e).all (zlv w) = false then 5 else if (ofT w m.e).2 = true /\ eqT (ofT w m.e).1 (w.2.slots.getD k default).ty = true then 0 else 7 := by unfold oneE; rw [hk,if_neg (by omega),Int.toNat_natCast]
 rw [hr]
 rw [hk] at e1
 generalize w.2.slots.getD k default = s at *
 have hcx := zj m.e
 have hsz := he.2
 simp only [zj m.e] at e3
 ((try unfold zbc); ((have hcondQ := Bool.and_self; refine Todo.of ?_); (repeat' (first | ((with_reducible refine Todo.to ?_); (repeat (simp only [↓rP,rT,rU,eA,zb,dval,zn,dBin,dInt,zh,za,fzVs,fzV,fz1,DV.immB,ze,zf,zp,zo,zx,zi,zq,fzL,cellsOf,Nat.reduceEqDiff,Nat.reduceAdd,↓reduceIte,reduceCtorEq,Nat.reduceLeDiff,Nat.reduceLT,eMov,eWay,zsx,e1,zj m.e,e3 ,hcondQ]))) | (((((with_reducible refine zd (t := ?_) ?_ (fun hcQ => ?_) (fun hcQ => ?_)); rotate_left; . (rfl))) <;> (have hn := hcQ; have hcondQ := hcQ) <;> (try simp only [decide_eq_true_eq,decide_eq_false_iff_not] at hn) <;> (try (exfalso; omega)) <;> (refine Todo.of ?_))) | fail))))
 rw [hcx] at q1
 have hpk : ∀ x ∈ zaj m.e,zlv w x = zlv w x := fun _ _ => rfl
 generalize hps : zaj m.e = xs at *
 refine z3b xs encX (fun _ (_ : Unit) => [⟨.loc,1,[[.int .i64 0]]⟩]) (fun j r _ => r.all (zlv w) = xs.all (zlv w)) () [(2,.ref (cWay w)),(3,.ref (cMov m)),(4,.ptr 0 1 0 0),(5,.int .i64 k)]
   (Nat.zero_le _) rfl rfl q1 rfl (by simp only [zg,List.map_cons,List.map_nil,zc,Nk.get_nil,Nat.reduceEqDiff,↓reduceIte,DV.cut,DV.inB,DObj.cut,List.take_nil,Nat.zero_lt_one,decide_true,List.take_succ_cons] <;> rfl) rfl (fun j x r _ hx hd hr => ⟨rfl,?_⟩) (fun j _ ej hr => ?_)
 . rw [List.all_cons] at hr
   have e4 := yak w x
   rw [eq_true hw] at e4
   simp only [cWay,zj x] at e4
   cases hf : zlv w x
   . rw [hf,Bool.false_and] at hr
     rw [if_pos hr.symm]
     ((try unfold zbc); ((refine Todo.of ?_); (repeat' (first | ((with_reducible refine Todo.to ?_); (repeat (simp only [↓rP,rT,rU,zb,dval,dUn,zh,za,retV,DR.val,fzT,fzVs,fzV,fz1,DV.immB,ze,zf,zp,zo,zx,zi,zq,zw,DV.one,cellsOf,zk,Nat.reduceEqDiff,Nat.reduceAdd,↓reduceIte,reduceCtorEq,Nat.reduceLeDiff,forall_const,zsx,zff,encX,List.zip_cons_cons,List.zip_nil_right,zj x,e4,hf ])))))))
   . rw [hf,Bool.true_and] at hr
     ((try unfold zbc); ((refine Todo.of ?_); (repeat' (first | ((with_reducible refine Todo.to ?_); (repeat (simp only [↓rP,rT,rU,zb,dval,dUn,zh,za,fzVs,fzV,DV.immB,ze,zf,zp,zo,zx,zi,zq,zw,DV.one,cellsOf,zk,Nat.reduceEqDiff,Nat.reduceAdd,↓reduceIte,reduceCtorEq,Nat.reduceLeDiff,forall_const,zsx,zff,encX,List.zip_cons_cons,List.zip_nil_right,zj x,e4,hf ])))))))
     exact ⟨(),by simp only [zg,List.map_cons,List.map_nil,zc,Nk.get_nil,↓reduceIte,DV.cut,DV.inB,DObj.cut,List.take_zero,List.take_succ_cons] <;> rfl,hr⟩
 . rw [List.all_nil] at hr
   rw [<- hr,if_neg (by simp)]
   generalize ofT w m.e = v at *
   obtain ⟨v,b⟩ := v
   simp only [cWay,cTy,hcx] at e2
   cases b
   . rw [if_neg (by simp)]
     ((try unfold zbc); ((have hcondQ := Bool.and_self; refine Todo.of ?_); (repeat' (first | ((with_reducible refine Todo.to ?_); (repeat (simp only [↓rP,rT,rU,zb,dval,dUn,zh,za,retV,DR.val,fzT,fzVs,fzV,fz1,DV.immB,ze,zf,zp,zo,zx,zi,zq,zw,DV.one,fzL,cellsOf,zk,Nat.reduceEqDiff,Nat.reduceAdd,↓reduceIte,reduceCtorEq,Nat.reduceLeDiff,Nat.reduceLT,forall_const,zsx,zj m.e,e2 ,hcondQ])))))))
   cases c7 : eqT v s.ty
   . rw [if_neg (by simp)]
     ((try unfold zbc); ((have hcondQ := Bool.and_self; refine Todo.of ?_); (repeat' (first | ((with_reducible refine Todo.to ?_); (repeat (simp only [↓rP,rT,rU,zb,dval,dUn,zh,za,retV,DR.val,fzT,fzVs,fzV,fz1,DV.immB,ze,zf,zp,zo,zx,zi,zq,zw,DV.one,fzL,cellsOf,zk,Nat.reduceEqDiff,Nat.reduceAdd,↓reduceIte,reduceCtorEq,Nat.reduceLeDiff,Nat.reduceLT,forall_const,zsx,zj m.e,e2,gx,aeqT,c7 ,hcondQ]))) | ((with_reducible refine And.intro ?_ ?_); . omega) | fail)) <;> (try (assumption))))
     all_goals first | omega
   . rw [if_pos ⟨rfl,rfl⟩]
     ((try unfold zbc); ((have hcondQ := Bool.and_self; refine Todo.of ?_); (repeat' (first | ((with_reducible refine Todo.to ?_); (repeat (simp only [↓rP,rT,rU,zb,dval,dUn,zh,za,retV,DR.val,fzT,fzVs,fzV,fz1,DV.immB,ze,zf,zp,zo,zx,zi,zq,zw,DV.one,fzL,cellsOf,zk,Nat.reduceEqDiff,Nat.reduceAdd,↓reduceIte,reduceCtorEq,Nat.reduceLeDiff,Nat.reduceLT,forall_const,zsx,zj m.e,e2,gx,aeqT,c7 ,hcondQ]))) | ((with_reducible refine And.intro ?_ ?_); . omega) | fail)) <;> (try (assumption))))
     all_goals first | omega
def zcb (w : Img × Img) : List Mov -> Int -> Int × Int
 | [],n => (n,0)
 | m :: r,n => if oneE w m = 0 then zcb w r (n + 1) else (n,oneE w m)
noncomputable def z0s : List DV -> Prop × DV := zec eImg eImg zgu fun a b l => (zbe (a,b) /\ l.length <= 1000000 /\ ∀ m ∈ l,okPl m.e,.tup [.int .i64 (zcb (a,b) l 0).1,.int .i64 (zcb (a,b) l 0).2])
theorem z46 (a : Img) (b : Img) (l : List Mov) : z0s [.agg (cImg a),.agg (cImg b),.sl (l.map cMov)] = (zbe (a,b) /\ l.length <= 1000000 /\ ∀ m ∈ l,okPl m.e,.tup [.int .i64 (zcb (a,b) l 0).1,.int .i64 (zcb (a,b) l 0).2]) := za2 za4 za4 zf4 _ a b l
theorem zx1 : OkP Tryz.prog 21 z0s := by
 refine OkP.mk3 (ps := [(46,z74)]) (hs := []) ⟨zjb,trivial⟩ trivial zzw fun a b l h => ?_
 try dsimp only at h
 obtain ⟨hw,hl,hp⟩ := h
 ((try unfold zey); ((have hcondQ := Bool.and_self; refine Todo.of ?_); (repeat' (first | ((with_reducible refine Todo.to ?_); (repeat (simp only [↓rP,rT,rU,eL,eA,zb,dval,DV.immB,cellsOf,Nat.reduceEqDiff,↓reduceIte,reduceCtorEq,eImg,zgu,hcondQ])))))))
 refine z0 l (fun k (_ : Unit) => ⟨[(2,.sl (l.map cMov)),(3,.ref (cImg a)),(4,.ref (cImg b)),(11,.sl (l.map cMov)),(12,.int .i64 l.length),(13,.int .i64 k)],[]⟩) (fun k r _ => zcb (a,b) r k = zcb (a,b) l 0) () (Nat.zero_le _) (by simp only [zg,List.map_cons,List.map_nil,zc,Nk.get_nil,Nat.reduceEqDiff,↓reduceIte,Nat.succ_ne_self,DV.cut,DV.inB,List.take_nil,reduceCtorEq] <;> rfl) rfl (fun k x r _ d hx hd hr => ?_) (fun k _ e hr => ?_)
 . simp only [zcb] at hr
   have e1 := z3s (a,b) x
   rw [eq_true (show zbe (a,b) /\ okPl x.e from ⟨hw,hp x (List.mem_of_getElem? hx)⟩)] at e1
   simp only [cWay,cMov,zj x.e] at e1
   by_cases c : oneE (a,b) x = 0
   . rw [if_pos c] at hr
     rw [c] at e1
     ((try unfold zey); ((refine Todo.of ?_); (repeat' (first | ((with_reducible refine Todo.to ?_); (repeat (first | (simp only [↓rP,rT,rU,zr,zb,dval,dBin,dInt,zh,za,DV.immB,ze,zf,zp,zo,zx,zi,zq,zw,DV.one,cellsOf,zk,DV.isU,Nat.reduceEqDiff,Nat.reduceAdd,↓reduceIte,reduceCtorEq,Nat.reduceLeDiff,forall_const,d,zm cMov hx,zj x.e,e1 ]) | ((simp (disch := omega) only [z6]))))) | ((with_reducible refine And.intro ?_ ?_); . omega) | fail))))
     all_goals first
       | exact ⟨(),by simp only [zg,List.map_cons,List.map_nil,zc,Nk.get_nil,Nat.reduceEqDiff,↓reduceIte,Nat.succ_ne_self,DV.cut,DV.inB,List.take_zero,Int.natCast_add,Int.natCast_one] <;> rfl,by rw [<- hr]; rfl⟩
   . rw [if_neg c] at hr
     rw [<- hr]
     ((try unfold zey); ((have hcondQ := Bool.and_self; refine Todo.of ?_); (repeat' (first | ((with_reducible refine Todo.to ?_); (repeat (simp only [↓rP,rT,rU,zr,zb,dval,dBin,dInt,zh,za,retV,retL,DR.val,fzT,fzVs,fzV,fz1,DV.immB,ze,zf,zp,zo,zx,zi,zq,zw,DV.one,cellsOf,zk,DV.isU,Nat.reduceEqDiff,Nat.reduceAdd,↓reduceIte,reduceCtorEq,Nat.reduceLeDiff,forall_const,d,zm cMov hx,zj x.e,e1 ,hcondQ]))) | ((with_reducible refine And.intro ?_ ?_); . omega) | (((((with_reducible refine zd (t := ?_) ?_ (fun hcQ => ?_) (fun hcQ => ?_)); rotate_left; . (rfl))) <;> (have hn := hcQ; have hcondQ := hcQ) <;> (try simp only [bne_iff_ne,ne_eq,bne_eq_false_iff_eq] at hn) <;> (try (exfalso; omega)) <;> (refine Todo.of ?_))) | fail))))
     all_goals first | rfl
 . simp only [zcb] at hr
   rw [<- hr]
   ((try unfold zey); ((refine Todo.of ?_); (repeat' (first | ((with_reducible refine Todo.to ?_); (repeat (simp only [↓rP,rT,rU,zb,dval,dBin,dInt,retV,retL,DR.val,fzT,fzVs,fzV,fz1,DV.immB,Nat.reduceEqDiff,↓reduceIte,e ])))))))
end Go.Proofs.YtjgefhgkinocmaaGreat
