/- Migrations: laying code: a cell of a whole; the memory of a Move's code. -/
import Derived.Test.YtjgefhgkinocmaaGreatMgF
import Derived.Test.YtjgefhgkinocmaaGreatTyM
set_option linter.all false
set_option maxRecDepth 20000
namespace Go.Proofs.YtjgefhgkinocmaaGreat
open Go.Nk
def zea (w : Img × Img) (e : Ex) (k : Nat) : Cod := fun p => if e.kind = 14 then zao w (e.subs.getD k default) p else if e.kind = 17 then [znm w e.name k] else zao w e p
def zz5 (v : Lay) (e : Ex) (k : Nat) : Lay := ⟨v.w,v.l ++ zea v.w e k v.l.length⟩
def z7j (v : Lay) (e : Ex) (k : Nat) : Prop := zhj v e /\ k <= 1000000 /\ (e.kind = 14 -> k < e.subs.length)
theorem injL_EI : InjL (fun x : Ex × Nat => [DV.agg (cEx x.1),.int .i64 x.2]) := fun x y h => by
 obtain ⟨a,b⟩ := x; obtain ⟨c,d⟩ := y
 simp only [List.cons.injEq,DV.agg.injEq,DV.int.injEq,true_and,and_true] at h
 rw [zmv _ _ h.1,show b = d by omega]
noncomputable def z7e := zf5 TL (fun x : Ex × Nat => [.agg (cEx x.1),.int .i64 x.2]) fun v x => (z7j v x.1 x.2,.tup [],zz5 v x.1 x.2)
theorem z51 {hp t : List DObj} {n m : Nat} {v : Lay} (k : zby hp n m) (e : Ex) (i : Nat) : z7e [.ptr n 1 0 0,.agg (cEx e),.int .i64 i] (TL.put hp n m v ++ t) = ⟨z7j v e i,.tup [],TL.put hp n m (zz5 v e i) ++ t⟩ := zbi zpc injL_EI _ k (e,i)
theorem ok_cellL : OkH Tryz.prog 81 z7e := by
 refine OkH.mkT (ps := []) (hs := [(110,zls),(111,z1m)]) zpc trivial ⟨ok_layE,z8e,trivial⟩ zna (fun _ => rfl) (fun _ _ _ => rfl) fun n m hp v x k h => ?_
 obtain ⟨e,i⟩ := x
 obtain ⟨h1,h2,h3⟩ := h
 dsimp only at h1 h2 h3
 have hb := h1.2.2
 have hps := zar e
 have hl : v.l.length <= 1000000 := by omega
 have hw := h1.1
 
 by_cases k14 : e.kind = 14
 . have hi := h3 k14
   have hr : zz5 v e i = layV v (e.subs.getD i default) := by simp [zz5,zea,layV,k14]
   have g0 : (e.subs.map cEx).getD i [] = cEx (e.subs.getD i default) := zm cEx (z4 default hi)
   have m0 : e.subs.getD i default ∈ e.subs := List.mem_of_getElem? (z4 default hi)
   have hsz := za7 e
   rw [hr]
   generalize e.subs.getD i default = x0 at *
   have hm := zid m0
   have e1 := fun t => zrh (t := t) k x0 (v := v)
   rw [eq_true (show zhj v x0 from h1.sub (u := v) m0 rfl (by omega))] at e1
   simp only [zj x0] at e1 g0
   ((try unfold zcl); ((have hcondQ := Bool.and_self; refine Todo.of ?_); (repeat' (first | ((with_reducible refine Todo.to ?_); (repeat (simp only [↓rP,rT,rU,zb,dval,zn,dBin,dInt,zh,za,retV,retL,DV.immB,cellsOf,Nat.reduceEqDiff,Nat.reduceAdd,↓reduceIte,reduceCtorEq,Nat.reduceLeDiff,Nat.reduceLT,za3,zj e,k14,g0,e1 ,hcondQ]))) | ((with_reducible refine And.intro ?_ ?_); . omega) | fail))))
   all_goals first | exact ⟨_,_,rfl,rfl⟩ | omega
 by_cases k17 : e.kind = 17
 . have hr : zz5 v e i = ⟨v.w,v.l ++ [znm v.w e.name i]⟩ := by simp [zz5,zea,k17]
   rw [hr]
   ((try unfold zcl); ((have hcondQ := Bool.and_self; refine Todo.of ?_); (repeat' (first | ((with_reducible refine Todo.to ?_); (repeat (simp only [↓rP,rT,rU,zb,dval,zn,dBin,dInt,zh,za,retV,retL,DV.immB,cellsOf,Nat.reduceEqDiff,Nat.reduceAdd,↓reduceIte,reduceCtorEq,Nat.reduceLT,Int.reduceBEq,za3,zj e,k17,zvi k,hl,hw ,hcondQ]))) | ((with_reducible refine And.intro ?_ ?_); . omega) | fail))))
   all_goals first | exact ⟨_,_,rfl,rfl⟩ | omega
 have hr : zz5 v e i = layV v e := by simp [zz5,zea,layV,k14,k17]
 rw [hr]
 have e1 := fun t => zrh (t := t) k e (v := v)
 rw [eq_true h1] at e1
 simp only [zj e] at e1
 ((try unfold zcl); ((have hcondQ := Bool.and_self; refine Todo.of ?_); (repeat' (first | ((with_reducible refine Todo.to ?_); (repeat (simp only [↓rP,rT,rU,zb,dval,zn,dBin,dInt,zh,za,retV,retL,DV.immB,cellsOf,Nat.reduceEqDiff,Nat.reduceAdd,↓reduceIte,reduceCtorEq,Nat.reduceLeDiff,Nat.reduceLT,za3,zj e,e1 ,hcondQ]))) | (((((with_reducible refine zd (t := ?_) ?_ (fun hcQ => ?_) (fun hcQ => ?_)); rotate_left; . (rfl))) <;> (have hn := hcQ; have hcondQ := hcQ) <;> (try simp only [beq_iff_eq,ne_eq,beq_eq_false_iff_ne] at hn) <;> (try (exfalso; omega)) <;> (refine Todo.of ?_))) | fail))))
 all_goals first | exact ⟨_,_,rfl,rfl⟩ | omega
def zgk (t : Ty) (k : Int) : List Int := List.replicate (zt t).toNat k
theorem zia (t : Ty) (k : Int) : (zgk t k).length = (zt t).toNat := by simp [zgk]
theorem z1b (t : Ty) (k : Int) : (zgk t k).length <= 8 := by
 rw [zia]; have := zad t; omega
structure rSM where
 t : Ty
 k : Int
 n : Nat
 m : Nat
 v : Shp
def relSM (x : rSM) (a : List DV) (hp : List DObj) : Prop := a = [.agg (cTy x.t),.int .i64 x.k,.ptr x.n 1 0 0] /\ TS.is hp x.n x.m x.v /\ x.v.hc < hp.length
theorem relSM_u : ∀ x y a hp,relSM x a hp -> relSM y a hp -> x = y := by
 rintro ⟨t,k,n,m,⟨hc,lc,ks,lo,hi⟩⟩ ⟨t',k',n',m',⟨hc',lc',ks',lo',hi'⟩⟩ a hp ⟨h1,⟨h2,h3,_⟩,_⟩ ⟨h4,⟨h5,h6,_⟩,_⟩
 subst h1
 simp only [List.cons.injEq,DV.ptr.injEq,DV.int.injEq,true_and,and_true] at h4
 obtain ⟨h4,rfl,rfl⟩ := h4
 have ht : t = t' := zpy _ _ (by simpa using h4)
 subst ht
 simp only at h2 h3 h5 h6
 rw [h2] at h5
 injection h5 with h5
 injection h5 with _ _ h5
 simp only [List.cons.injEq,DV.own.injEq,DV.int.injEq,true_and,and_true] at h5
 obtain ⟨⟨rfl,rfl,_⟩,⟨rfl,h7,_⟩,rfl,rfl⟩ := h5
 rw [h3] at h6
 injection h6 with h6
 injection h6 with _ _ h6
 have e1 := zjx h6
 subst e1; rfl
def addM (v : Shp) (t : Ty) (k : Int) : Shp := { v with ks := v.ks ++ zgk t k }
noncomputable def ycu : List DV -> List DObj -> Res := zrr relSM (fun x => (x.v.ks.length <= 1000000000,.tup [])) fun x hp => TS.put hp x.n x.m (addM x.v x.t x.k)
theorem zyz (t : Ty) (k : Int) (n m : Nat) (v : Shp) (hp : List DObj) (h : TS.is hp n m v) (hc : v.hc < hp.length) : ycu [.agg (cTy t),.int .i64 k,.ptr n 1 0 0] hp =
   ⟨v.ks.length <= 1000000000,.tup [],TS.put hp n m (addM v t k)⟩ := zis relSM_u (x := ⟨t,k,n,m,v⟩) ⟨rfl,h,hc⟩
theorem zte : OkH Tryz.prog 108 ycu := by
 refine OkH.mkG (ps := [(49,zcg)]) (hs := []) ⟨zqq,trivial⟩ trivial zwp (by rintro x a hp ⟨rfl,_⟩; rfl) ?_
 rintro ⟨t,c,n,m,v⟩ a hp ⟨rfl,hi,hv⟩ hl
 simp only at hi hv hl |-
 have k := Duo.is_three hi
 have hc := zia t c
 have hb := zad t
 have e0 : (⟨zn 0 [.agg (cTy t),.int .i64 c,.ptr n 1 0 0],hp⟩ : DS) = (⟨zn 0 [.agg (cTy t),.int .i64 c,.ptr n 1 0 0],TS.put hp n m v ++ []⟩ : DS) := by rw [Duo.is_put hi,List.append_nil]
 rw [e0]
 
 ((try unfold zeo); ((refine Todo.of ?_); (repeat' (first | ((with_reducible refine Todo.to ?_); (repeat (simp only [↓rP,rT,rU,zb,dval,zn,zh,za,DV.immB,ze,zf,zp,zo,zx,zi,zq,DV.one,cellsOf,Nat.reduceAdd,↓reduceIte,reduceCtorEq,Nat.reduceLeDiff,forall_const,zbn,List.append_assoc,Nat.add_zero,Duo.put_len,Duo.get_b ])))))))
 refine z0 (zgk t c) (fun j (o : List Int) => ⟨[(1,.int .i64 c),(2,.ptr n 1 0 0),(6,.int .i64 (zt t)),(7,.int .i64 j)],TS.put hp n m { v with ks := o } ++ [⟨.loc,3,[cTy t]⟩]⟩) (fun k r o => o ++ r = v.ks ++ zgk t c /\ o.length <= 1000000000 + k) v.ks trivial (by simp only [zfi,List.map_cons,List.map_nil,zc,Nk.get_nil,Nat.reduceEqDiff,↓reduceIte,Nat.succ_ne_self,reduceCtorEq] <;> rfl) ⟨rfl,by omega⟩ (fun j x r o d hx hd hr => ?_) (fun j o e hr => ?_)
 . obtain ⟨h1,h2⟩ := hr
   have hx2 : x = c := List.eq_of_mem_replicate (zfd hd)
   subst hx2
   ((try unfold zeo); ((have hcondQ := Bool.and_self; refine Todo.of ?_); (repeat' (first | ((with_reducible refine Todo.to ?_); (repeat (first | (simp only [↓rP,rT,rU,zb,dval,dBin,dInt,zh,za,fz1,DV.immB,zy,zax,zw,DV.one,alive,fzLL,fzL,bRow,bU,cellsOf,zk,DV.isU,zat,Nat.reduceEqDiff,Nat.reduceAdd,↓reduceIte,reduceCtorEq,Nat.reduceLeDiff,Nat.reduceLT,forall_const,zae,Duo.get_o k,Duo.get_c k,TS_get k,TS_set k,zkv ,hcondQ]) | ((simp (disch := omega) only [z6]))))) | ((with_reducible refine And.intro ?_ ?_); . omega) | (((((with_reducible refine zd (t := ?_) ?_ (fun hcQ => ?_) (fun hcQ => ?_)); rotate_left; . (rfl))) <;> (have hn := hcQ; have hcondQ := hcQ) <;> (try simp only [decide_eq_true_eq,decide_eq_false_iff_not] at hn) <;> (try (exfalso; omega)) <;> (refine Todo.of ?_))) | fail))))
   exact ⟨o ++ [x],by simp only [zfi,List.map_cons,List.map_nil,zc,Nk.get_nil,Nat.reduceEqDiff,↓reduceIte,Nat.succ_ne_self,Int.natCast_add,Int.natCast_one] <;> rfl,by simpa using h1,by simp; omega⟩
 . obtain ⟨h1,h2⟩ := hr
   rw [List.append_nil] at h1
   subst h1
   ((try unfold zeo); ((have hcondQ := Bool.and_self; refine Todo.of ?_); (repeat' (first | ((with_reducible refine Todo.to ?_); (repeat (simp only [↓rP,rT,rU,zb,dval,dBin,dInt,retV,retL,Nat.reduceEqDiff,↓reduceIte,e,Duo.put_len,hcondQ]))) | ((with_reducible refine And.intro ?_ ?_); . trivial) | (((((with_reducible refine zd (t := ?_) ?_ (fun hcQ => ?_) (fun hcQ => ?_)); rotate_left; . (rfl))) <;> (have hn := hcQ; have hcondQ := hcQ) <;> (try simp only [decide_eq_true_eq,decide_eq_false_iff_not] at hn) <;> (try (exfalso; omega)) <;> (refine Todo.of ?_))) | fail))))
   exact ⟨⟨_,rfl⟩,Duo.put_end (by simp [DObj.cut,DV.cut,DV.inB,addM,hv,k.2.1]) ygc⟩
set_option linter.all false
set_option maxRecDepth 20000
open Go.Nk
def zix (w : Img × Img) (t : Ty) : Int := if (zcc w.1.en w.2.en t).2 = true then zb5 (zcc w.1.en w.2.en t).1 else 1
def zan (w : Img × Img) (l : List Slt) : List Int := (l.map fun s => zgk s.ty (zix w s.ty)).flatten
theorem zi6 (w : Img × Img) (s : Slt) (l : List Slt) : zan w (s :: l) = zgk s.ty (zix w s.ty) ++ zan w l := by simp [zan]
theorem z3p (w : Img × Img) : zan w [] = [] := rfl
def tyM (w : Img × Img) (m : Mov) : Ty := (w.2.slots.getD (fndI w.2.slots m.path).toNat default).ty
def zlj (w : Img × Img) (m : Mov) : ShpF := ⟨za6 w.2,zan w w.1.slots ++ zgk (tyM w m) (zb5 (tyM w m)),0,(zan w w.1.slots).length⟩
def zyl (w : Img × Img) (m : Mov) : ShpF × Bool := if oneE w m = 0 then (zlj w m,true) else (⟨[],[],0,0⟩,false)
theorem z39 {w : Img × Img} {m : Mov} (h : oneE w m = 0) : ¬ fndI w.2.slots m.path < 0 := by
 intro c
 simp [oneE,c] at h
theorem z17 {w : Img × Img} {m : Mov} (h : oneE w m = 0) : ofT w m.e = (tyM w m,true) := by
 have hf := z39 h
 unfold oneE at h
 rw [if_neg hf] at h
 split at h
 . cases h
 split at h
 . rename_i h2
   obtain ⟨h2,h3⟩ := h2
   obtain ⟨k,e,n⟩ := (ofT w m.e).1
   refine Prod.ext ?_ h2
   simp only [tyM]
   generalize (w.2.slots.getD (fndI w.2.slots m.path).toNat default).ty = t at *
   generalize (ofT w m.e).1 = u at *
   obtain ⟨a,b,c⟩ := t
   obtain ⟨a',b',c'⟩ := u
   simp [eqT] at h3
   simp [h3]
 . cases h
noncomputable def zzy : List DV -> Prop × DV := zec eImg eImg eMov fun a b m => (zbe (a,b) /\ okPl m.e,.tup [.agg (cShp (zyl (a,b) m).1),.bool (zyl (a,b) m).2])
theorem z42 (a : Img) (b : Img) (m : Mov) : zzy [.agg (cImg a),.agg (cImg b),.agg (cMov m)] = (zbe (a,b) /\ okPl m.e,.tup [.agg (cShp (zyl (a,b) m).1),.bool (zyl (a,b) m).2]) := za2 za4 za4 zzt _ a b m
theorem zx2 : OkP Tryz.prog 80 zzy := by
 refine OkP.mk3 (ps := [(46,z74),(75,zvn),(109,zpw),(48,zhk)]) (hs := [(108,ycu)]) ⟨zjb,zim,z9x,zd4,trivial⟩ ⟨zte,trivial⟩ z0j fun a b m h => ?_
 obtain ⟨hw,hp⟩ := h
 have hw0 := hw
 obtain ⟨⟨⟨h1,h2,h3⟩,h4,h5,h6⟩,h7⟩ := hw0
 dsimp only at h1 h2 h3 h4 h5 h6 h7
 have e1 := z3s (a,b) m
 rw [eq_true (show zbe (a,b) /\ okPl m.e from ⟨hw,hp⟩)] at e1
 have hO : zyl (a,b) m = if oneE (a,b) m = 0 then (zlj (a,b) m,true) else (⟨[],[],0,0⟩,false) := rfl
 rw [hO]
 simp only [cWay,cMov,zj m.e] at e1
 
 by_cases c : oneE (a,b) m = 0
 rotate_left
 . rw [if_neg c]
   ((try unfold zba); ((have hcondQ := Bool.and_self; refine Todo.of ?_); (repeat' (first | ((with_reducible refine Todo.to ?_); (repeat (simp only [↓rP,rT,rU,eA,zr,zb,dval,dBin,dInt,zh,za,retV,retL,DR.val,fzT,fzVs,fzV,fz1,DV.immB,ze,zf,zp,zo,zx,zi,zq,zw,DV.one,fzL,cellsOf,zk,DV.isU,Nat.reduceEqDiff,Nat.reduceAdd,↓reduceIte,reduceCtorEq,Nat.reduceLeDiff,forall_const,eImg,eMov,e1,zj m.e ,hcondQ]))) | ((with_reducible refine And.intro ?_ ?_); . trivial) | (((((with_reducible refine zd (t := ?_) ?_ (fun hcQ => ?_) (fun hcQ => ?_)); rotate_left; . (rfl))) <;> (have hn := hcQ; have hcondQ := hcQ) <;> (try simp only [bne_iff_ne,ne_eq,bne_eq_false_iff_eq] at hn) <;> (try (exfalso; omega)) <;> (refine Todo.of ?_))) | fail))))
   all_goals first | rfl
 rw [if_pos c]
 have hf := z39 c
 obtain ⟨j,hj,hl⟩ := zca hf
 have hty : tyM (a,b) m = (b.slots.getD j default).ty := by simp only [tyM,hj]; rfl
 have gx : (b.slots.map cSlt).getD j [] = cSlt (b.slots.getD j default) := zm cSlt (z4 default hl)
 have e2 := zdu b.slots m.path
 dsimp only at hl hj
 rw [eq_true h6,hj] at e2
 rw [c] at e1
 have hres : zlj (a,b) m = ⟨za6 b,zan (a,b) a.slots ++ zgk (b.slots.getD j default).ty (zb5 (b.slots.getD j default).ty),0,(zan (a,b) a.slots).length⟩ := by rw [<- hty]; rfl
 rw [hres]
 generalize b.slots.getD j default = sj at *
 ((try unfold zba); ((have hcondQ := Bool.and_self; refine Todo.of ?_); (repeat' (first | ((with_reducible refine Todo.to ?_); (repeat (simp only [↓rP,rT,rU,eA,zr,zb,dval,dBin,dInt,zh,za,DV.immB,ze,zf,zp,zo,zx,zi,zq,zw,DV.one,cellsOf,zk,DV.isU,Nat.reduceEqDiff,Nat.reduceAdd,↓reduceIte,reduceCtorEq,Nat.reduceLeDiff,forall_const,eImg,eMov,e1,zj m.e ,hcondQ])))))))
 refine zef ?_
 ((try unfold zba); ((refine Todo.of ?_); (repeat' (first | ((with_reducible refine Todo.to ?_); (repeat (simp only [rT,rU,Nat.reduceAdd,↓reduceIte ])))))))
 refine zef ?_
 ((try unfold zba); ((refine Todo.of ?_); (repeat' (first | ((with_reducible refine Todo.to ?_); (repeat (simp only [↓rP,rT,rU,zb,dval,zh,za,Nat.reduceEqDiff,Nat.reduceAdd,↓reduceIte,Nat.reduceLT ])))))))
 refine z0 b.en (fun k (o : List Int) => ⟨[(3,.ref (cImg a)),(4,.ref (cImg b)),(5,.ref (cMov m)),(6,.ptr 0 1 0 0),(9,.ptr 2 1 0 0),(28,.sl (b.en.map cEn)),(29,.int .i64 b.en.length),(30,.int .i64 k)],[⟨.loc,4,[[.nil,.nil,.int .i64 0,.int .i64 0]]⟩,⟨.loc,12,[cWay (a,b)]⟩,⟨.loc,4,[[.own 4 (o).length 0 (o).length,.own 3 (([] : List Int)).length 0 (([] : List Int)).length,.int .i64 0,.int .i64 0]]⟩,⟨.imm,1,ils (([] : List Int))⟩,⟨.imm,1,ils (o)⟩]⟩) (fun k r o => o ++ (r.map fun e => (e.ct.length : Int)) = za6 b /\ o.length <= k) [] (Nat.zero_le _) (by simp only [zg,List.map_cons,List.map_nil,zc,Nk.get_nil,Nat.reduceEqDiff,↓reduceIte,DV.cut,DV.inB,DObj.cut,List.take_nil,reduceCtorEq,decide_true,Nat.reduceLT,List.take_succ_cons,List.length_nil] <;> rfl) ⟨rfl,by simp⟩ (fun k y r o d hx hd hr => ?_) (fun k o e hr => ?_)
 . obtain ⟨g1,g2⟩ := hr
   simp only [List.map_cons] at g1
   ((try unfold zba); ((have hcondQ := Bool.and_self; refine Todo.of ?_); (repeat' (first | ((with_reducible refine Todo.to ?_); (repeat (first | (simp only [↓rP,rT,rU,zb,dval,dBin,dInt,zh,za,fz1,DV.immB,zy,zax,zw,DV.one,alive,fzLL,fzL,bRow,bU,cellsOf,zk,DV.isU,zat,Nat.reduceEqDiff,Nat.reduceAdd,↓reduceIte,reduceCtorEq,Nat.reduceLeDiff,Nat.reduceLT,forall_const,z7,zae,d,zm cEn hx,zkv,hcondQ]) | ((simp (disch := omega) only [z6]))))) | ((with_reducible refine And.intro ?_ ?_); . omega) | fail))))
   exact ⟨o ++ [(y.ct.length : Int)],by simp only [zg,List.map_cons,List.map_nil,zc,Nk.get_nil,Nat.reduceEqDiff,↓reduceIte,Nat.succ_ne_self,DV.cut,DV.inB,DObj.cut,List.take_zero,reduceCtorEq,decide_true,Nat.reduceLT,List.take_succ_cons,Int.natCast_add,Int.natCast_one,List.length_append,List.length_cons,List.length_nil,Nat.zero_add] <;> rfl,by simpa using g1,by simp; omega⟩
 obtain ⟨g1,g2⟩ := hr
 simp only [List.map_nil,List.append_nil] at g1
 subst g1
 ((try unfold zba); ((refine Todo.of ?_); (repeat' (first | ((with_reducible refine Todo.to ?_); (repeat (simp only [↓rP,rT,rU,zb,dval,dBin,dInt,zh,za,Nat.reduceEqDiff,Nat.reduceAdd,↓reduceIte,Nat.reduceLT,e ])))))))
 refine z0 a.slots (fun k (o : List Int) => ⟨[(3,.ref (cImg a)),(4,.ref (cImg b)),(5,.ref (cMov m)),(6,.ptr 0 1 0 0),(9,.ptr 2 1 0 0),(12,.clo 108 [.ptr 2 1 0 0]),(45,.sl (a.slots.map cSlt)),(46,.int .i64 a.slots.length),(47,.int .i64 k)],[⟨.loc,4,[[.nil,.nil,.int .i64 0,.int .i64 0]]⟩,⟨.loc,12,[cWay (a,b)]⟩,⟨.loc,4,[[.own 4 (za6 b).length 0 (za6 b).length,.own 3 (o).length 0 (o).length,.int .i64 0,.int .i64 0]]⟩,⟨.imm,1,ils (o)⟩,⟨.imm,1,ils (za6 b)⟩]⟩) (fun k r o => o ++ zan (a,b) r = zan (a,b) a.slots /\ o.length <= 8 * k) [] (Nat.zero_le _) (by simp only [zg,List.map_cons,List.map_nil,zc,Nk.get_nil,Nat.reduceEqDiff,↓reduceIte,Nat.succ_ne_self,DV.cut,DV.inB,DObj.cut,List.take_nil,DV.inBL,Bool.and_true,reduceCtorEq,decide_true,Nat.reduceLT,List.take_succ_cons,List.length_nil] <;> rfl) ⟨rfl,by simp⟩ (fun k y r o d hx hd hr => ?_) (fun k o e hr => ?_)
 . obtain ⟨g1,g2⟩ := hr
   have hb := z1b y.ty (zix (a,b) y.ty)
   have hk : zix (a,b) y.ty = if (zcc a.en b.en y.ty).2 = true then zb5 (zcc a.en b.en y.ty).1 else 1 := rfl
   rw [zi6] at g1
   have e3 := zn8 a.en b.en y.ty
   rw [eq_true (show zgi a.en /\ zgi b.en /\ b.en.length <= 1000000 from ⟨h1,h4,h5⟩)] at e3
   have e4 := zku (zcc a.en b.en y.ty).1
   have e5 := zyz y.ty (zix (a,b) y.ty) 2 3 ⟨4,(za6 b).length,o,0,0⟩ ([⟨.loc,4,[[.nil,.nil,.int .i64 0,.int .i64 0]]⟩,⟨.loc,12,[cWay (a,b)]⟩,⟨.loc,4,[[.own 4 (za6 b).length 0 (za6 b).length,.own 3 (o).length 0 (o).length,.int .i64 0,.int .i64 0]]⟩,⟨.imm,1,ils (o)⟩,⟨.imm,1,ils (za6 b)⟩,⟨.loc,6,[cSlt y]⟩,⟨.loc,3,[cTy (zcc a.en b.en y.ty).1]⟩]) ⟨rfl,rfl,by decide⟩ (by simp)
   have e6 : addM ⟨4,(za6 b).length,o,0,0⟩ y.ty (zix (a,b) y.ty) = ⟨4,(za6 b).length,o ++ zgk y.ty (zix (a,b) y.ty),0,0⟩ := rfl
   rw [e6] at e5
   generalize zcc a.en b.en y.ty = u at *
   obtain ⟨u,bb⟩ := u
   dsimp only at hk
   generalize zix (a,b) y.ty = kk at *
   simp only [cTy] at e3 e4 e5
   cases bb
   . have hk : kk = 1 := hk
     subst hk
     ((try unfold zba); ((have hcondQ := Bool.and_self; refine Todo.of ?_); (repeat' (first | ((with_reducible refine Todo.to ?_); (repeat (first | (simp only [↓rP,rT,rU,zb,dval,dBin,dInt,zh,za,fzVs,fzV,fz1,DV.immB,ze,zf,zp,zo,zx,zi,zq,zw,DV.one,alive,fzL,cellsOf,zk,Nat.reduceEqDiff,Nat.reduceAdd,↓reduceIte,reduceCtorEq,Nat.reduceLeDiff,Nat.reduceLT,forall_const,d,zm cSlt hx,e3,e5,Duo.put,hcondQ]) | ((simp (disch := omega) only [z6]))))) | ((with_reducible refine And.intro ?_ ?_); . omega) | fail))))
     all_goals first | exact ⟨o ++ zgk y.ty _,by simp only [zg,List.map_cons,List.map_nil,zc,Nk.get_nil,Nat.reduceEqDiff,↓reduceIte,Nat.succ_ne_self,DV.cut,DV.inB,DObj.cut,List.take_zero,DV.inBL,Bool.and_true,reduceCtorEq,decide_true,Nat.reduceLT,List.take_succ_cons,Int.natCast_add,Int.natCast_one,List.length_append] <;> rfl,by simpa using g1,by simp; omega⟩
   . have hk : kk = zb5 u := hk
     subst hk
     ((try unfold zba); ((have hcondQ := Bool.and_self; refine Todo.of ?_); (repeat' (first | ((with_reducible refine Todo.to ?_); (repeat (first | (simp only [↓rP,rT,rU,zb,dval,dBin,dInt,zh,za,fzVs,fzV,fz1,DV.immB,ze,zf,zp,zo,zx,zi,zq,zw,DV.one,alive,fzL,cellsOf,zk,Nat.reduceEqDiff,Nat.reduceAdd,↓reduceIte,reduceCtorEq,Nat.reduceLeDiff,Nat.reduceLT,forall_const,d,zm cSlt hx,e3,e4,e5,Duo.put,hcondQ]) | ((simp (disch := omega) only [z6]))))) | ((with_reducible refine And.intro ?_ ?_); . omega) | fail))))
     all_goals first | exact ⟨o ++ zgk y.ty _,by simp only [zg,List.map_cons,List.map_nil,zc,Nk.get_nil,Nat.reduceEqDiff,↓reduceIte,Nat.succ_ne_self,DV.cut,DV.inB,DObj.cut,List.take_zero,DV.inBL,Bool.and_true,reduceCtorEq,decide_true,Nat.reduceLT,List.take_succ_cons,Int.natCast_add,Int.natCast_one,List.length_append] <;> rfl,by simpa using g1,by simp; omega⟩
 obtain ⟨g1,g2⟩ := hr
 simp only [z3p,List.append_nil] at g1
 subst g1
 have e4 := zku sj.ty
 have e5 := zyz sj.ty (zb5 sj.ty) 2 3 ⟨4,(za6 b).length,zan (a,b) a.slots,0,(zan (a,b) a.slots).length⟩ ([⟨.loc,4,[[.nil,.nil,.int .i64 0,.int .i64 0]]⟩,⟨.loc,12,[cWay (a,b)]⟩,⟨.loc,4,[[.own 4 (za6 b).length 0 (za6 b).length,.own 3 (zan (a,b) a.slots).length 0 (zan (a,b) a.slots).length,.int .i64 0,.int .i64 (zan (a,b) a.slots).length]]⟩,⟨.imm,1,ils (zan (a,b) a.slots)⟩,⟨.imm,1,ils (za6 b)⟩,⟨.loc,3,[cTy sj.ty]⟩]) ⟨rfl,rfl,by decide⟩ (by simp)
 have e6 : addM ⟨4,(za6 b).length,zan (a,b) a.slots,0,(zan (a,b) a.slots).length⟩ sj.ty (zb5 sj.ty) = ⟨4,(za6 b).length,zan (a,b) a.slots ++ zgk sj.ty (zb5 sj.ty),0,(zan (a,b) a.slots).length⟩ := rfl
 rw [e6] at e5
 have hlen : (zan (a,b) a.slots).length <= 1000000000 := by omega
 have hb := z1b sj.ty (zb5 sj.ty)
 generalize zgk sj.ty (zb5 sj.ty) = kk at *
 generalize zan (a,b) a.slots = ok at *
 simp only [cTy] at e4 e5
 ((try unfold zba); ((refine Todo.of ?_); (repeat' (first | ((with_reducible refine Todo.to ?_); (repeat (simp only [↓rP,rT,rU,zb,dval,dBin,dInt,zh,za,retV,retL,DR.val,fzT,fzVs,fzV,fz1,DV.immB,ze,zf,zp,zo,zx,zi,zq,zy,zw,DV.one,alive,freezeAt,fzL,cellsOf,zk,Nat.reduceEqDiff,Nat.reduceAdd,↓reduceIte,reduceCtorEq,Nat.reduceLeDiff,Nat.reduceLT,forall_const,zae,z0b,e,e2,gx,e4,e5,Duo.put,zj m.e ]))) | ((with_reducible refine And.intro ?_ ?_); . first | (trivial) | (omega)) | fail))))
 repeat' (refine And.intro ?_ ?_)
 all_goals first
   | rfl
   | exact Nat.le_refl _
   | exact congrArg DV.sl (List.take_of_length_le (by simp [ils]))
   | (rw [List.take_of_length_le (by rw [zae]; exact Nat.le_refl _)]; rfl)
   | (rw [zpu,List.take_of_length_le (by rw [zae,List.length_append]; exact Nat.le_refl _)]; rfl)
set_option linter.all false
set_option maxRecDepth 20000
open Go.Nk
theorem yf9 (w : Img × Img) (e : Ex) (k p : Nat) (hp : okPl e) : (zea w e k p).length <= 2000 := by
 have h2 := hp.2
 have hps := zar e
 unfold zea
 split
 . by_cases hk : k < e.subs.length
   . have m0 : e.subs.getD k default ∈ e.subs := List.mem_of_getElem? (z4 default hk)
     have := zid m0
     have := za7 e
     have := zcw w (e.subs.getD k default) p
     omega
   . have : e.subs.getD k default = default := by simp [List.getD,List.getElem?_eq_none (Nat.le_of_not_lt hk)]
     rw [this]
     have h1 := zcw w default p
     have h3 : zaq (default : Ex) = 1 := by
       have := za7 (default : Ex)
       rw [this]; rfl
     omega
 split
 . simp
 . have := zcw w e p
   omega
def z7n (w : Img × Img) (e : Ex) (hi : Nat) (l : List In4) (k : Nat) : List In4 := l ++ zea w e k l.length ++ [⟨3,hi + k,0,0⟩]
def ydn (w : Img × Img) (m : Mov) : List In4 := (List.range (zt (tyM w m)).toNat).foldl (z7n w m.e (zan w w.1.slots).length) [] ++ [⟨10,0,0,0⟩]
def zwg (w : Img × Img) (m : Mov) : List In4 × Bool := if oneE w m = 0 then (ydn w m,true) else ([],false)
theorem zjv {w : Img × Img} {e : Ex} {t : Ty} (h : ofT w e = (t,true)) (hp : okPl e) (k14 : e.kind = 14) : (zt t).toNat = e.subs.length := by
 have hln := hp.len
 have hsb : za8 e = (1,8) := by simp [za8,k14]
 rw [hsb] at hln
 dsimp only at hln
 unfold ofT at h
 rw [if_neg (by omega),if_pos k14] at h
 split at h
 . rename_i hc
   have hal := (ziz hc.1).1
   have h := (Prod.mk.inj h).1
   subst h
   have h1 : (allT (e.subs.map (tyE w))).1.length = e.subs.length := by rw [hal]; simp
   simp only [zt,h1]
   split
   . omega
   split
   . omega
   . omega
 . cases (Prod.mk.inj h).2
theorem zsc (w : Img × Img) : ∀ l : List Slt,(zan w l).length <= 8 * l.length
 | [] => Nat.le_refl _
 | s :: l => by
   have := zsc w l
   have := z1b s.ty (zix w s.ty)
   rw [zi6,List.length_append,List.length_cons]
   omega
noncomputable def z6v : List DV -> Prop × DV := zec eImg eImg eMov fun a b m => (zpa (a,b) /\ okPl m.e,.tup [.sl ((zwg (a,b) m).1.map cIn4),.bool (zwg (a,b) m).2])
theorem yav (a : Img) (b : Img) (m : Mov) : z6v [.agg (cImg a),.agg (cImg b),.agg (cMov m)] = (zpa (a,b) /\ okPl m.e,.tup [.sl ((zwg (a,b) m).1.map cIn4),.bool (zwg (a,b) m).2]) := za2 za4 za4 zzt _ a b m
theorem zz4 : OkP Tryz.prog 51 z6v := by
 refine OkP.mk3 (ps := [(80,zzy)]) (hs := [(81,z7e),(82,zv8)]) ⟨zx2,trivial⟩ ⟨ok_cellL,zw9,trivial⟩ z22 fun a b m h => ?_
 obtain ⟨hw,hp⟩ := h
 have e1 := z42 a b m
 rw [eq_true (show zbe (a,b) /\ okPl m.e from ⟨hw.1,hp⟩)] at e1
 have hO : zwg (a,b) m = if oneE (a,b) m = 0 then (ydn (a,b) m,true) else ([],false) := rfl
 have hO2 : zyl (a,b) m = if oneE (a,b) m = 0 then (zlj (a,b) m,true) else (⟨[],[],0,0⟩,false) := rfl
 rw [hO]
 rw [hO2] at e1
 simp only [cMov,zj m.e] at e1
 
 by_cases c : oneE (a,b) m = 0
 rotate_left
 . rw [if_neg c] at e1 |-
   simp only [cImg,cShp] at e1
   ((try unfold zd8); ((have hcondQ := Bool.and_self; refine Todo.of ?_); (repeat' (first | ((with_reducible refine Todo.to ?_); (repeat (simp only [↓rP,rT,rU,eA,zb,dval,dUn,zh,za,retV,retL,DR.val,fzT,fzVs,fzV,fz1,DV.immB,ze,zf,zp,zo,zx,zi,zq,zw,DV.one,fzL,cellsOf,zk,Nat.reduceEqDiff,Nat.reduceAdd,↓reduceIte,reduceCtorEq,Nat.reduceLeDiff,Nat.reduceLT,forall_const,eImg,eMov,e1,zj m.e ,hcondQ])))))))
   all_goals first | rfl
 rw [if_pos c] at e1 |-
 have ht := z17 c
 have hk0 := zia (tyM (a,b) m) (zb5 (tyM (a,b) m))
 have hob := zsc (a,b) a.slots
 have hsl := hw.1.1.1.2.2
 dsimp only at hsl
 have hkl : (zlj (a,b) m).kinds.length = (zan (a,b) a.slots).length + (zt (tyM (a,b) m)).toNat := by simp [zlj,zia]
 have hhi : (zlj (a,b) m).hi = (zan (a,b) a.slots).length := rfl
 have hlo : (zlj (a,b) m).lo = 0 := rfl
 have hco : ydn (a,b) m = (List.range (zt (tyM (a,b) m)).toNat).foldl (z7n (a,b) m.e (zan (a,b) a.slots).length) [] ++ [⟨10,0,0,0⟩] := rfl
 rw [hco]
 have h14 := zjv ht hp
 have hcb := zad (tyM (a,b) m)
 simp only [cShp,cImg] at e1
 rw [hhi,hlo] at e1
 generalize (zlj (a,b) m).kinds = kk at *
 generalize (zlj (a,b) m).ctors = cc at *
 have hnn : (kk.length : Int) - (zan (a,b) a.slots).length = (zt (tyM (a,b) m)).toNat := by omega
 generalize hn : (zt (tyM (a,b) m)).toNat = n at *
 have hn8 : n <= 8 := by omega
 generalize hhh : (zan (a,b) a.slots).length = hi at *
 ((try unfold zd8); ((have hcondQ := Bool.and_self; refine Todo.of ?_); (repeat' (first | ((with_reducible refine Todo.to ?_); (repeat (simp only [↓rP,rT,rU,eA,zr,zb,dval,dUn,zh,za,fzVs,fzV,fz1,DV.immB,ze,zf,zp,zo,zx,zi,zq,zw,DV.one,fzL,cellsOf,zk,DV.isU,Nat.reduceEqDiff,Nat.reduceAdd,↓reduceIte,reduceCtorEq,Nat.reduceLeDiff,Nat.reduceLT,forall_const,eImg,eMov,e1,zj m.e ,hcondQ])))))))
 refine zef ?_
 ((try unfold zd8); ((refine Todo.of ?_); (repeat' (first | ((with_reducible refine Todo.to ?_); (repeat (first | (simp only [↓rP,rT,rU,zb,dval,dBin,dInt,zh,za,alive,Nat.reduceEqDiff,Nat.reduceAdd,↓reduceIte,reduceCtorEq,Nat.reduceLT,zae,hnn ]) | ((simp (disch := omega) only [z6])))))))))
 refine z0 (List.range n) (fun k (o : List In4) => ⟨[(5,.ref (cMov m)),(8,.ptr 0 1 0 0),(10,.ptr 1 1 0 0),(31,.int .i64 n),(32,.int .i64 k)],[⟨.loc,4,[[.sl (ils cc),.sl (ils kk),.int .i64 0,.int .i64 hi]]⟩,⟨.loc,13,[lRow 2 ⟨(a,b),o⟩]⟩,⟨.imm,4,o.map cIn4⟩]⟩)
   (fun k r o => r.foldl (z7n (a,b) m.e hi) o = (List.range n).foldl (z7n (a,b) m.e hi) [] /\ o.length <= 2001 * k) [] (Nat.zero_le _) (by simp only [zg,List.map_cons,List.map_nil,zc,Nk.get_nil,Nat.reduceEqDiff,↓reduceIte,DV.cut,DV.inB,DObj.cut,List.take_nil,reduceCtorEq,decide_true,Nat.reduceLT,List.take_succ_cons] <;> rfl) ⟨rfl,by simp⟩ (fun k x r o d hx hd hr => ?_) (fun k o e hr => ?_)
 . obtain ⟨g1,g2⟩ := hr
   rw [List.length_range] at d
   rw [List.getElem?_range d] at hx
   obtain rfl : k = x := Option.some.inj hx
   have cl := yf9 (a,b) m.e k o.length hp
   have k3 : zby [(⟨.loc,4,[[.sl (ils cc),.sl (ils kk),.int .i64 0,.int .i64 hi]]⟩ : DObj),⟨.loc,13,[lRow 2 ⟨(a,b),o⟩]⟩,⟨.imm,4,o.map cIn4⟩] 1 2 := ⟨by simp,by simp,by simp⟩
   have e2 := z51 (v := ⟨(a,b),o⟩) (t := []) k3 m.e k
   have hsz := hp.2
   have hfit : z7j ⟨(a,b),o⟩ m.e k := ⟨⟨hw,hp,by show (o.length : Int) + 2 * zaq m.e <= 900000; omega⟩,by omega,fun h => by rw [<- h14 h]; exact d⟩
   rw [eq_true hfit] at e2
   have e3 := zc4 (v := ⟨(a,b),o ++ zea (a,b) m.e k o.length⟩) (t := []) (hp := [(⟨.loc,4,[[.sl (ils cc),.sl (ils kk),.int .i64 0,.int .i64 hi]]⟩ : DObj),⟨.loc,13,[lRow 2 ⟨(a,b),o ++ zea (a,b) m.e k o.length⟩]⟩,⟨.imm,4,(o ++ zea (a,b) m.e k o.length).map cIn4⟩]) (n := 1) (m := 2) ⟨by simp,by simp,by simp⟩ 3 (hi + k) 0 0
   have hcv : zz5 ⟨(a,b),o⟩ m.e k = ⟨(a,b),o ++ zea (a,b) m.e k o.length⟩ := rfl
   rw [hcv] at e2
   have hst : z7n (a,b) m.e hi o k = o ++ zea (a,b) m.e k o.length ++ [⟨3,hi + k,0,0⟩] := rfl
   rw [List.foldl_cons,hst] at g1
   have hle : (o ++ zea (a,b) m.e k o.length).length <= 1000000 := by rw [List.length_append]; omega
   have hle2 : (o ++ zea (a,b) m.e k o.length).length <= 2001 * k + 2000 := by rw [List.length_append]; omega
   generalize o ++ zea (a,b) m.e k o.length = o1 at *
   rw [eq_true hle] at e3
   simp only [Duo.put,TL,lRow,List.set_cons_succ,List.set_cons_zero,List.append_nil,zj m.e] at e2 e3
   ((try unfold zd8); ((refine Todo.of ?_); (repeat' (first | ((with_reducible refine Todo.to ?_); (repeat (first | (simp only [↓rP,rT,rU,zr,zb,dval,dBin,dInt,zh,za,alive,cellsOf,zk,DV.isU,Nat.reduceEqDiff,Nat.reduceAdd,↓reduceIte,reduceCtorEq,Nat.reduceLeDiff,d,e2,e3,zj m.e ]) | ((simp (disch := omega) only [z6])))))))))
   all_goals first | exact ⟨o1 ++ [⟨3,hi + k,0,0⟩],by simp only [zg,List.map_cons,List.map_nil,zc,Nk.get_nil,Nat.reduceEqDiff,↓reduceIte,DV.cut,DV.inB,DObj.cut,List.take_nil,reduceCtorEq,decide_true,Nat.reduceLT,List.take_succ_cons,Int.natCast_add,Int.natCast_one,List.length_append,List.length_cons,List.length_nil,Nat.zero_add,lRow] <;> rfl,g1,by simp; omega⟩
 . obtain ⟨g1,g2⟩ := hr
   rw [List.foldl_nil] at g1
   rw [List.length_range] at e
   rw [<- g1]
   have e3 := zc4 (v := ⟨(a,b),o⟩) (t := []) (hp := [(⟨.loc,4,[[.sl (ils cc),.sl (ils kk),.int .i64 0,.int .i64 hi]]⟩ : DObj),⟨.loc,13,[lRow 2 ⟨(a,b),o⟩]⟩,⟨.imm,4,o.map cIn4⟩]) (n := 1) (m := 2) ⟨by simp,by simp,by simp⟩ 10 0 0 0
   rw [eq_true (show o.length <= 1000000 by omega)] at e3
   simp only [Duo.put,TL,lRow,List.set_cons_succ,List.set_cons_zero,List.append_nil] at e3
   ((try unfold zd8); ((refine Todo.of ?_); (repeat' (first | ((with_reducible refine Todo.to ?_); (repeat (simp only [↓rP,rT,rU,zr,zb,dval,dBin,dInt,zh,za,retV,retL,DR.val,fzT,fzVs,fzV,fz1,DV.immB,zy,alive,freezeAt,cellsOf,zk,DV.isU,Nat.reduceEqDiff,Nat.reduceAdd,↓reduceIte,reduceCtorEq,Nat.reduceLeDiff,e,e3 ]))) | ((with_reducible refine And.intro ?_ ?_); . omega) | fail))))
   all_goals first | exact congrArg DV.sl (List.take_of_length_le (by simp))
end Go.Proofs.YtjgefhgkinocmaaGreat
