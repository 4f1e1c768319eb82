/- Migrations: laying code. -/
import Derived.Test.YtjgefhgkinocmaaGreatMgC
set_option linter.all false
set_option maxRecDepth 20000
namespace Go.Proofs.YtjgefhgkinocmaaGreat
open Go.Nk
structure Lay where
 w : Img × Img
 l : List In4
@[reducible] def lRow (m : Nat) (v : Lay) : List DV := [.sl (v.w.1.en.map cEn),.sl (v.w.1.ins.map cPrt),.sl (v.w.1.outs.map cPrt),.sl (v.w.1.slots.map cSlt),.sl (ils v.w.1.loc),.sl (v.w.1.code.map cIn4),
 .sl (v.w.2.en.map cEn),.sl (v.w.2.ins.map cPrt),.sl (v.w.2.outs.map cPrt),.sl (v.w.2.slots.map cSlt),.sl (ils v.w.2.loc),.sl (v.w.2.code.map cIn4),.own m v.l.length 0 v.l.length]
def TL : Duo Lay := ⟨fun m v => ⟨.loc,13,[lRow m v]⟩,fun v => ⟨.imm,4,v.l.map cIn4⟩⟩
theorem zpc : TL.ok where
 inj1 m v m' v' h := by simp [TL,lRow] at h; exact h.2.2.2.2.2.2.2.2.2.2.2.2.1
 inj2 m v v' h h2 := by
   have h3 : cWay v.w = cWay v'.w := by
     have := congrArg (fun o : DObj => (o.es.getD 0 []).take 12) h
     exact this
   have h4 := z7x _ _ h3
   have h5 : v.l = v'.l := zdm z00 _ _ (congrArg (fun o : DObj => o.es) h2)
   cases v; cases v'; simp_all
 cut1 m v k h := by
   simp only [TL,lRow,DObj.cut,if_true,List.map_cons,List.map_nil]
   simp [DV.cut,DV.inB,h]
 cut2 v k := by simp [TL,DObj.cut]
section
variable {hp t : List DObj} {n m : Nat} {v : Lay}
theorem TL_o (k : zby hp n m) : (TL.put hp n m v ++ t)[n]? = some ⟨.loc,13,[lRow m v]⟩ := Duo.get_o k
theorem TL_c (k : zby hp n m) : (TL.put hp n m v ++ t)[m]? = some ⟨.imm,4,v.l.map cIn4⟩ := Duo.get_c k
theorem TL_o2 {o : DObj} (k : zby hp n m) : ((TL.put hp n m v ++ t).set m o)[n]? = some ⟨.loc,13,[lRow m v]⟩ := by
 rw [List.getElem?_set_ne (fun h => k.2.2 h.symm)]
 exact TL_o k
theorem TL_set (k : zby hp n m) (l : List In4) : ((TL.put hp n m v ++ t).set m ⟨.imm,4,l.map cIn4⟩).set n ⟨.loc,13,[lRow m ⟨v.w,l⟩]⟩ = TL.put hp n m ⟨v.w,l⟩ ++ t := by
 obtain ⟨k1,k2,k3⟩ := k
 rw [List.set_append_left _ _ (by simpa [Duo.put] using k2),List.set_append_left _ _ (by simpa [Duo.put] using k1)]
 congr 1
 unfold Duo.put
 refine List.ext_getElem? fun i => ?_
 by_cases h1 : n = i <;> by_cases h2 : m = i <;> simp_all [TL]
end
theorem in4_snoc (l : List In4) (o a b n : Int) : l.map cIn4 ++ [[.int .i64 o,.int .i64 a,.int .i64 b,.int .i64 n]] = (l ++ [(⟨o,a,b,n⟩ : In4)]).map cIn4 := by simp
theorem injL_In4 : InjL (fun i : In4 => [DV.agg (cIn4 i)]) := fun x y h => by
 injection h with h _
 injection h with h
 exact z00 _ _ h
theorem z64 : InjL (fun e : Ex => [DV.agg (cEx e)]) := fun x y h => by
 injection h with h _
 injection h with h
 exact zmv _ _ h
noncomputable def zv8 := zf5 TL (fun i : In4 => [.agg (cIn4 i)]) fun v i => (v.l.length <= 1000000,.tup [],⟨v.w,v.l ++ [i]⟩)
theorem zc4 {hp t : List DObj} {n m : Nat} {v : Lay} (k : zby hp n m) (o a b c : Int) : zv8 [.ptr n 1 0 0,.agg [.int .i64 o,.int .i64 a,.int .i64 b,.int .i64 c]] (TL.put hp n m v ++ t) = ⟨v.l.length <= 1000000,.tup [],TL.put hp n m ⟨v.w,v.l ++ [⟨o,a,b,c⟩]⟩ ++ t⟩ := zbi zpc injL_In4 _ k ⟨o,a,b,c⟩
theorem zw9 : OkH Tryz.prog 82 zv8 := by
 refine OkH.mkT (ps := []) (hs := []) zpc trivial trivial zpo (fun _ => rfl) (fun _ _ _ => rfl) fun n m hp v i k h => ?_
 obtain ⟨o,a,b,c⟩ := i
 have h : v.l.length <= 1000000 := h
 have hs := TL_set (v := v) (t := []) k (v.l ++ [⟨o,a,b,c⟩])
 have hl : (v.l ++ [(⟨o,a,b,c⟩ : In4)]).length = v.l.length + 1 := by simp
 simp only [lRow,hl] at hs
 
 ((try unfold zh1); ((have hcondQ := Bool.and_self; refine Todo.of ?_); (repeat' (first | ((with_reducible refine Todo.to ?_); (repeat (simp only [↓rP,rT,rU,zb,dval,zn,zh,za,retV,retL,fz1,DV.immB,zy,zax,zw,DV.one,alive,fzLL,fzL,bRow,bU,cellsOf,zk,DV.isU,zat,Nat.reduceEqDiff,Nat.reduceAdd,↓reduceIte,reduceCtorEq,Nat.reduceLeDiff,forall_const,za3,TL_o k,TL_c k,TL_o2 k,in4_snoc,hs,hcondQ]))) | ((with_reducible refine And.intro ?_ ?_); . omega) | fail))))
 first | exact ⟨_,_,rfl,rfl⟩ | exact ⟨_,_,hs,rfl⟩
def atOk (w : Img × Img) : Prop := ∀ p,0 <= (za5 w.1 p).1.at_ /\ (za5 w.1 p).1.at_ <= 1000000
def zpa (w : Img × Img) : Prop := zbe w /\ atOk w
theorem injL_SI : InjL (fun x : List UInt8 × Int => [DV.str x.1,.int .i64 x.2]) := fun x y h => by
 obtain ⟨a,b⟩ := x; obtain ⟨c,d⟩ := y
 simp only [List.cons.injEq,DV.str.injEq,DV.int.injEq,true_and,and_true] at h
 rw [h.1,h.2]
def znm (w : Img × Img) (p : List UInt8) (k : Int) : In4 := ⟨2,(za5 w.1 p).1.at_ + k,0,0⟩
noncomputable def z1m := zf5 TL (fun x : List UInt8 × Int => [.str x.1,.int .i64 x.2]) fun v x => (v.l.length <= 1000000 /\ zpa v.w /\ 0 <= x.2 /\ x.2 <= 1000000,.tup [],⟨v.w,v.l ++ [znm v.w x.1 x.2]⟩)
theorem zvi {hp t : List DObj} {n m : Nat} {v : Lay} (k : zby hp n m) (p : List UInt8) (i : Int) : z1m [.ptr n 1 0 0,.str p,.int .i64 i] (TL.put hp n m v ++ t) = ⟨v.l.length <= 1000000 /\ zpa v.w /\ 0 <= i /\ i <= 1000000,.tup [],TL.put hp n m ⟨v.w,v.l ++ [znm v.w p i]⟩ ++ t⟩ := zbi zpc injL_SI _ k (p,i)
theorem TL_b {o : DObj} {hp t : List DObj} {n m : Nat} {v : Lay} : (TL.put hp n m v ++ (o :: t))[hp.length]? = some o := Duo.get_b
theorem TL_sb {o o' : DObj} {hp t : List DObj} {n m : Nat} {v : Lay} : (TL.put hp n m v ++ (o :: t)).set hp.length o' = TL.put hp n m v ++ (o' :: t) := Duo.set_b
theorem z8e : OkH Tryz.prog 111 z1m := by
 refine OkH.mkT (ps := [(98,zqx)]) (hs := [(82,zv8)]) zpc ⟨zda,trivial⟩ ⟨zw9,trivial⟩ zn4 (fun _ => rfl) (fun _ _ _ => rfl) fun n m hp v x k h => ?_
 obtain ⟨p,i⟩ := x
 obtain ⟨h1,⟨h2,h3⟩,h4,h5⟩ := h
 dsimp only at h4 h5
 have e1 := zlb v.w p
 rw [eq_true h2.1] at e1
 have h6 := h3 p
 have hr : znm v.w p i = ⟨2,(za5 v.w.1 p).1.at_ + i,0,0⟩ := rfl
 rw [hr]
 generalize za5 v.w.1 p = s at *
 obtain ⟨s,b⟩ := s
 dsimp only at h6
 have w1 : IntKind.i64.wrap (s.at_ + i) = s.at_ + i := z9 (by omega)
 simp only [cWay,cSlt] at e1
 
 ((try unfold zg3); ((have hcondQ := Bool.and_self; refine Todo.of ?_); (repeat' (first | ((with_reducible refine Todo.to ?_); (repeat (simp only [↓rP,rT,rU,zr,zb,dval,zn,dBin,dInt,zh,za,retV,retL,fzVs,fzV,fz1,DV.immB,ze,zf,zp,zo,zx,zi,zq,zw,DV.one,alive,fzL,cellsOf,zk,DV.isU,Nat.reduceEqDiff,Nat.reduceAdd,↓reduceIte,reduceCtorEq,Nat.reduceLeDiff,Nat.reduceLT,forall_const,List.append_assoc,Nat.add_zero,Duo.put_len,za3,TL_o k,TL_b,TL_sb,e1,zc4 k,w1,h1 ,hcondQ])))))))
 all_goals first | exact ⟨_,_,rfl,rfl⟩
theorem TL_u {hp : List DObj} {n m m' : Nat} {v v' : Lay} (h : TL.is hp n m v) (h' : TL.is hp n m' v') : m = m' /\ v = v' := by
 have e1 := Option.some.inj (h.1.symm.trans h'.1)
 have e2 := zpc.inj1 _ _ _ _ e1
 subst e2
 exact ⟨rfl,zpc.inj2 _ _ _ e1 (Option.some.inj (h.2.1.symm.trans h'.2.1))⟩
def addV (v : Lay) (i : In4) : Lay := ⟨v.w,v.l ++ [i]⟩
def setA (l : List In4) (i : Nat) : List In4 := l.set i ⟨(l.getD i ⟨0,0,0,0⟩).op,l.length,(l.getD i ⟨0,0,0,0⟩).b,(l.getD i ⟨0,0,0,0⟩).n⟩
def zh0 (v : Lay) (i : Nat) : Lay := ⟨v.w,setA v.l i⟩
@[reducible] def oB (n : Nat) : DObj := ⟨.loc,1,[[.ptr n 1 0 0]]⟩
@[reducible] def oI (i : Nat) : DObj := ⟨.loc,1,[[.int .i64 i]]⟩
structure rJ where
 n : Nat
 m : Nat
 v : Lay
 op : Int
 h : Nat
def rJmp (x : rJ) (a : List DV) (hp : List DObj) : Prop := a = [.ptr x.n 1 0 0,.int .i64 x.op] /\ TL.is hp x.n x.m x.v /\ x.h = hp.length
theorem rJmp_u : ∀ x y a hp,rJmp x a hp -> rJmp y a hp -> x = y := by
 rintro ⟨n,m,v,o,h⟩ ⟨n',m',v',o',h'⟩ a hp ⟨h1,h2,h3⟩ ⟨h4,h5,h6⟩
 simp only at h1 h2 h3 h4 h5 h6
 rw [h1] at h4
 simp only [List.cons.injEq,DV.ptr.injEq,DV.int.injEq,and_true,true_and] at h4
 obtain ⟨rfl,rfl⟩ := h4
 obtain ⟨rfl,rfl⟩ := TL_u h2 h5
 subst h3 h6
 rfl
noncomputable def z70 : List DV -> List DObj -> Res := zrr rJmp (fun x => (x.v.l.length <= 1000000,.clo 142 [.ptr x.h 1 0 0,.ptr (x.h + 1) 1 0 0])) fun x hp => TL.put hp x.n x.m (addV x.v ⟨x.op,0,0,0⟩) ++ [oB x.n,oI x.v.l.length]
theorem zzh {hp t : List DObj} {n m : Nat} {v : Lay} (k : zby hp n m) (o : Int) : z70 [.ptr n 1 0 0,.int .i64 o] (TL.put hp n m v ++ t) = ⟨v.l.length <= 1000000,.clo 142 [.ptr (hp.length + t.length) 1 0 0,.ptr (hp.length + t.length + 1) 1 0 0],TL.put hp n m (addV v ⟨o,0,0,0⟩) ++ (t ++ [oB n,oI v.l.length])⟩ := by
 have := zis (f := fun x : rJ => (x.v.l.length <= 1000000,DV.clo 142 [.ptr x.h 1 0 0,.ptr (x.h + 1) 1 0 0])) (out := fun x hp => TL.put hp x.n x.m (addV x.v ⟨x.op,0,0,0⟩) ++ [oB x.n,oI x.v.l.length]) rJmp_u (x := ⟨n,m,v,o,hp.length + t.length⟩) (a := [.ptr n 1 0 0,.int .i64 o]) (hp := TL.put hp n m v ++ t) ⟨rfl,Duo.put_is k,by simp [Duo.put]⟩
 unfold z70
 rw [this,Duo.put_put k,List.append_assoc]
theorem TL_b1 {o o' : DObj} {hp t : List DObj} {n m : Nat} {v : Lay} : (TL.put hp n m v ++ (o :: o' :: t))[hp.length + 1]? = some o' := by
 have := Duo.get_bt (T := TL) (hp := hp) (n := n) (m := m) (v := v) (t := [o]) (o := o') (t' := t)
 simpa using this
theorem TL_sb1 {o o' q : DObj} {hp t : List DObj} {n m : Nat} {v : Lay} : (TL.put hp n m v ++ (o :: o' :: t)).set (hp.length + 1) q = TL.put hp n m v ++ (o :: q :: t) := by
 have := Duo.set_bt (T := TL) (hp := hp) (n := n) (m := m) (v := v) (t := [o]) (o := o') (o' := q) (t' := t)
 simpa using this
theorem ok_jump : OkH Tryz.prog 130 z70 := by
 refine OkH.mkGH (ps := []) (hs := [(82,zv8)]) trivial ⟨zw9,trivial⟩ zns (fun x a hp h => by rw [h.1]; rfl) fun x a hp h hpre => ?_
 obtain ⟨n,m,v,o,hl⟩ := x
 obtain ⟨rfl,hi,rfl⟩ := h
 simp only at hi hpre |-
 have k := Duo.is_three hi
 have e0 : (⟨zn 0 [.ptr n 1 0 0,.int .i64 o],hp⟩ : DS) = (⟨zn 0 [.ptr n 1 0 0,.int .i64 o],TL.put hp n m v ++ []⟩ : DS) := by rw [Duo.is_put hi,List.append_nil]
 rw [e0]
 
 ((try unfold zha); ((refine Todo.of ?_); (repeat' (first | ((with_reducible refine Todo.to ?_); (repeat (simp only [↓rP,rT,rU,zr,zb,dval,zn,zh,za,retV,DR.val,zw,DV.one,alive,cellsOf,zk,DV.isU,Nat.reduceEqDiff,Nat.reduceAdd,↓reduceIte,reduceCtorEq,Nat.reduceLeDiff,forall_const,List.append_assoc,Nat.add_zero,Duo.put_len,TL_o k,TL_c k,TL_b,TL_b1,TL_sb1,zc4 k,hpre,addV ])))))))
set_option linter.all false
set_option maxRecDepth 20000
open Go.Nk
structure rPt where
 a : Nat
 b : Nat
 n : Nat
 m : Nat
 v : Lay
 i : Nat
def rPat (x : rPt) (a : List DV) (hp : List DObj) : Prop := a = [.ptr x.a 1 0 0,.ptr x.b 1 0 0] /\ TL.is hp x.n x.m x.v /\ hp[x.a]? = some (oB x.n) /\ hp[x.b]? = some (oI x.i)
theorem rPat_u : ∀ x y a hp,rPat x a hp -> rPat y a hp -> x = y := by
 rintro ⟨a,b,n,m,v,i⟩ ⟨a',b',n',m',v',i'⟩ l hp ⟨h1,h2,h3,h4⟩ ⟨h5,h6,h7,h8⟩
 simp only at h1 h2 h3 h4 h5 h6 h7 h8
 rw [h1] at h5
 simp only [List.cons.injEq,DV.ptr.injEq,and_true] at h5
 obtain ⟨rfl,rfl⟩ := h5
 rw [h3] at h7
 rw [h4] at h8
 simp only [Option.some.injEq,DObj.mk.injEq,List.cons.injEq,DV.ptr.injEq,DV.int.injEq,and_true,true_and] at h7 h8
 subst h7
 have h8 : i = i' := by omega
 subst h8
 obtain ⟨rfl,rfl⟩ := TL_u h2 h6
 rfl
noncomputable def z1l : List DV -> List DObj -> Res := zrr rPat (fun x => (x.i < x.v.l.length,.tup [])) fun x hp => TL.put hp x.n x.m (zh0 x.v x.i)
theorem zw7 {hp t : List DObj} {n m a b i : Nat} {v : Lay} (k : zby hp n m) (h1 : (TL.put hp n m v ++ t)[a]? = some (oB n)) (h2 : (TL.put hp n m v ++ t)[b]? = some (oI i)) : z1l [.ptr a 1 0 0,.ptr b 1 0 0] (TL.put hp n m v ++ t) = ⟨i < v.l.length,.tup [],TL.put hp n m (zh0 v i) ++ t⟩ := by
 have := zis (f := fun x : rPt => (x.i < x.v.l.length,DV.tup [])) (out := fun x hp => TL.put hp x.n x.m (zh0 x.v x.i)) rPat_u (x := ⟨a,b,n,m,v,i⟩) (a := [.ptr a 1 0 0,.ptr b 1 0 0]) (hp := TL.put hp n m v ++ t) ⟨rfl,Duo.put_is k,h1,h2⟩
 unfold z1l
 rw [this,Duo.put_put k]
theorem z1a (l : List In4) (i : Nat) : (setA l i).length = l.length := by simp [setA]
theorem TL_patch {hp t : List DObj} {n m : Nat} {v : Lay} (k : zby hp n m) (i : Nat) : (TL.put hp n m v ++ t).set m ⟨.imm,4,(setA v.l i).map cIn4⟩ = TL.put hp n m (zh0 v i) ++ t :=
 Duo.set_c (T := TL) (v := v) (v' := zh0 v i) (t := t) k (by simp [TL,lRow,zh0,z1a])
theorem ok_patch : OkH Tryz.prog 142 z1l := by
 refine OkH.mkGH (ps := []) (hs := []) trivial trivial zlg (fun x a hp h => by rw [h.1]; rfl) fun x a hp h hpre => ?_
 obtain ⟨a,b,n,m,v,i⟩ := x
 obtain ⟨rfl,hi,h1,h2⟩ := h
 simp only at hi h1 h2 hpre |-
 have k := Duo.is_three hi
 have e0 : (⟨zn 0 [.ptr a 1 0 0,.ptr b 1 0 0],hp⟩ : DS) = (⟨zn 0 [.ptr a 1 0 0,.ptr b 1 0 0],TL.put hp n m v ++ []⟩ : DS) := by rw [Duo.is_put hi,List.append_nil]
 rw [e0]
 have g1 : (TL.put hp n m v ++ [])[a]? = some (oB n) := by rw [Duo.is_put hi,List.append_nil]; exact h1
 have g2 : (TL.put hp n m v ++ [])[b]? = some (oI i) := by rw [Duo.is_put hi,List.append_nil]; exact h2
 have gx : (v.l.map cIn4).getD i [] = cIn4 (v.l.getD i ⟨0,0,0,0⟩) := zm cIn4 (z4 _ hpre)
 have hs := TL_patch (v := v) (t := []) k i
 have hm : (setA v.l i).map cIn4 = (v.l.map cIn4).set i [.int .i64 (v.l.getD i ⟨0,0,0,0⟩).op,.int .i64 v.l.length,.int .i64 (v.l.getD i ⟨0,0,0,0⟩).b,.int .i64 (v.l.getD i ⟨0,0,0,0⟩).n] := by
   rw [setA,List.map_set]
 rw [hm] at hs
 generalize v.l.getD i ⟨0,0,0,0⟩ = y at *
 have o1 := TL_o (t := []) (v := v) k
 have o2 := TL_c (t := []) (v := v) k
 simp only [List.append_nil] at o1 o2 g1 g2 hs
 
 unfold zdp
 rw [z5h]
 ((try unfold zdp); ((refine Todo.of ?_); (repeat' (first | ((with_reducible refine Todo.to ?_); (repeat (simp only [rT,rU,zb,dval,zn,zh,za,retV,retL,fz1,DV.immB,zw,alive,fzL,cellsOf,zk,Nat.reduceEqDiff,Nat.reduceAdd,↓reduceIte,reduceCtorEq,Nat.reduceLeDiff,List.append_nil,o1,o2,g1,g2,gx,hpre,hs ]))))) <;> (try (omega))))
 all_goals first | (rw [List.append_nil])
abbrev Cod := Nat -> List In4
def noC : Cod := fun _ => []
def seqC : List Cod -> Nat -> List In4
 | [],_ => []
 | c :: r,p => c p ++ seqC r (p + (c p).length)
def zj6 (c0 c1 c2 : Cod) (p : Nat) : List In4 :=
 let q := p + (c0 p).length + 1
 let r := q + (c1 q).length + 1
 c0 p ++ ([⟨7,r,0,0⟩] ++ (c1 q ++ ([⟨6,r + (c2 r).length,0,0⟩] ++ c2 r)))
def getC (w : Img × Img) (p : List UInt8) : In4 := ⟨8,(za5 w.1 p).1.at_,zt (za5 w.1 p).1.ty,0⟩
mutual
def zao (w : Img × Img) : Ex -> Cod
 | .mk k n s o _ l => fun p =>
   if k = 1 then [⟨1,1,0,n⟩] else if k = 2 then [⟨1,2,0,n⟩] else if k = 4 then [⟨1,zb5 (armT w.2.en s).1,0,(armT w.2.en s).2.1⟩] else if k = 17 then [znm w s 0]
   else if k = 7 then zj6 ((z01 w l).getD 0 noC) ((z01 w l).getD 1 noC) ((z01 w l).getD 2 noC) p
   else if k = 15 then (z01 w l).getD 1 noC p ++ [getC w (l.getD 0 default).name]
   else seqC (z01 w l) p ++ [⟨if k = 5 then 4 else 5,o,0,0⟩]
def z01 (w : Img × Img) : List Ex -> List Cod
 | [] => []
 | x :: l => zao w x :: z01 w l
end
theorem z4x (w : Img × Img) : ∀ l : List Ex,z01 w l = l.map (zao w)
 | [] => by rw [z01]; rfl
 | x :: l => by rw [z01,z4x w l]; rfl
theorem znk (w : Img × Img) : ∀ (e : Ex) (p : Nat),zao w e p =
   if e.kind = 1 then [⟨1,1,0,e.n⟩] else if e.kind = 2 then [⟨1,2,0,e.n⟩] else if e.kind = 4 then [⟨1,zb5 (armT w.2.en e.name).1,0,(armT w.2.en e.name).2.1⟩] else if e.kind = 17 then [znm w e.name 0]
   else if e.kind = 7 then zj6 ((e.subs.map (zao w)).getD 0 noC) ((e.subs.map (zao w)).getD 1 noC) ((e.subs.map (zao w)).getD 2 noC) p
   else if e.kind = 15 then (e.subs.map (zao w)).getD 1 noC p ++ [getC w (e.subs.getD 0 default).name]
   else seqC (e.subs.map (zao w)) p ++ [⟨if e.kind = 5 then 4 else 5,e.op,0,0⟩]
 | .mk k n s o a l,p => by rw [zao,z4x]; rfl
theorem z1f {w : Img × Img} : ∀ {l : List Ex} (p : Nat),(∀ x ∈ l,∀ p,((zao w x p).length : Int) <= 2 * zaq x) -> ((seqC (l.map (zao w)) p).length : Int) <= 2 * zbg l
 | [],p,_ => by rw [zbg]; simp [seqC]
 | x :: l,p,h => by
   have h1 := h x (by simp) p
   have h2 := z1f (l := l) (p + (zao w x p).length) fun y hy => h y (by simp [hy])
   rw [zbg]
   simp only [List.map_cons,seqC,List.length_append]
   omega
theorem zid : ∀ {l : List Ex} {x : Ex},x ∈ l -> zaq x <= zbg l
 | [],x,h => by simp at h
 | y :: l,x,h => by
   rw [zbg]
   have h1 := zar y
   have h2 := zbh l
   rcases List.mem_cons.1 h with rfl | h
   . omega
   . have := zid h; omega
theorem zxh {w : Img × Img} {l : List Ex} {i : Nat} : (l.map (zao w)).getD i noC = if h : i < l.length then zao w l[i] else noC := by
 by_cases h : i < l.length <;> simp [h]
theorem zcw (w : Img × Img) (e : Ex) : ∀ p,((zao w e p).length : Int) <= 2 * zaq e := by
 induction e using Ex.ind with
 | h e ih =>
   intro p
   have hp := zar e
   have hq := za7 e
   have gl : ∀ i p,(((e.subs.map (zao w)).getD i noC p).length : Int) <= 2 * zbg e.subs := by
     intro i p
     rw [zxh]
     split
     . rename_i h
       have := ih _ (List.getElem_mem h) p
       have := zid (List.getElem_mem h)
       omega
     . simp [noC]; omega
   have three : ∀ a b c : Nat -> List In4,e.kind = 7 -> True := fun _ _ _ _ => trivial
   rw [znk]
   split
   . simp; omega
   split
   . simp; omega
   split
   . simp; omega
   split
   . simp; omega
   split
   . simp only [zj6,List.length_append,List.length_cons,List.length_nil]
     have key : ∀ p q r,(((e.subs.map (zao w)).getD 0 noC p).length : Int) + ((e.subs.map (zao w)).getD 1 noC q).length + ((e.subs.map (zao w)).getD 2 noC r).length <= 2 * zbg e.subs := by
       intro p q r
       generalize e.subs = l at *
       match l with
       | [] => simp [noC]; rw [zbg]; omega
       | [a] => simp [noC]; rw [zbg,zbg]; have := ih a (by simp) p; omega
       | [a,b] => simp [noC]; rw [zbg,zbg,zbg]; have := ih a (by simp) p; have := ih b (by simp) q; omega
       | a :: b :: c :: l => simp; rw [zbg,zbg,zbg]; have := ih a (by simp) p; have := ih b (by simp) q; have := ih c (by simp) r; have := zbh l; omega
     have := key p (p + ((e.subs.map (zao w)).getD 0 noC p).length + 1) (p + ((e.subs.map (zao w)).getD 0 noC p).length + 1 + ((e.subs.map (zao w)).getD 1 noC (p + ((e.subs.map (zao w)).getD 0 noC p).length + 1)).length + 1)
     omega
   split
   . have := gl 1 p
     simp only [List.length_append,List.length_cons,List.length_nil]
     omega
   . have := z1f (w := w) (l := e.subs) p ih
     simp only [List.length_append,List.length_cons,List.length_nil]
     omega
def layV (v : Lay) (e : Ex) : Lay := ⟨v.w,v.l ++ zao v.w e v.l.length⟩
def zhj (v : Lay) (e : Ex) : Prop := zpa v.w /\ okPl e /\ (v.l.length : Int) + 2 * zaq e <= 900000
noncomputable def zls := zf5 TL (fun e : Ex => [.agg (cEx e)]) fun v e => (zhj v e,.tup [],layV v e)
theorem zrh {hp t : List DObj} {n m : Nat} {v : Lay} (k : zby hp n m) (e : Ex) : zls [.ptr n 1 0 0,.agg (cEx e)] (TL.put hp n m v ++ t) = ⟨zhj v e,.tup [],TL.put hp n m (layV v e) ++ t⟩ := zbi zpc z64 _ k e
theorem yag {ρ α : Type} {T : Duo ρ} {args : α -> List DV} (N : Nat) (f : ρ -> α -> Prop × DV × ρ) : limH N (zf5 T args f) = zf5 T args fun v a => ((f v a).1 /\ 1 + szL (args a) < N,(f v a).2) := by
 funext a hp
 unfold limH zf5
 split
 . rename_i h
   have hx := h.choose_spec
   generalize h.choose = x at hx |-
   rw [hx.1]
   rfl
 . simp [no]
set_option linter.all false
set_option maxRecDepth 20000
open Go.Nk
theorem zhj.sub {v u : Lay} {e x : Ex} (h : zhj v e) (hx : x ∈ e.subs) (hw : u.w = v.w) (hl : (u.l.length : Int) + 2 * zaq x <= 900000) : zhj u x := ⟨by rw [hw]; exact h.1,h.2.1.sub hx,hl⟩
theorem zom (N : Nat) {hp t : List DObj} {n m : Nat} {v : Lay} (k : zby hp n m) {e : Ex} (h : zhj v e) (hs : 1 + szL [.agg (cEx e)] < N) : limH N zls [.ptr n 1 0 0,.agg (cEx e)] (TL.put hp n m v ++ t) = ⟨True,.tup [],TL.put hp n m (layV v e) ++ t⟩ := by
 rw [limH_at,zrh k]
 refine congrArg (fun p => (⟨p,_,_⟩ : Res)) (eq_true ⟨h,?_⟩)
 simp only [szL,DV.sz] at hs |-
 omega
theorem TL_bt {o : DObj} {hp t : List DObj} {n m : Nat} {v : Lay} : (TL.put hp n m v ++ (t ++ [o]))[hp.length + t.length]? = some o := Duo.get_bt
theorem TL_sbt {o o' : DObj} {hp t : List DObj} {n m : Nat} {v : Lay} : (TL.put hp n m v ++ (t ++ [o])).set (hp.length + t.length) o' = TL.put hp n m v ++ (t ++ [o']) := Duo.set_bt
noncomputable def s_opL (N : Nat) := zf5 TL (fun e : Ex => [.agg (cEx e)]) fun v e => (zhj v e /\ ∀ x ∈ e.subs,1 + szL [.agg (cEx x)] < N,.tup [],⟨v.w,v.l ++ (seqC (e.subs.map (zao v.w)) v.l.length ++ [⟨if e.kind = 5 then 4 else 5,e.op,0,0⟩])⟩)
theorem yd3 (N : Nat) {hp t : List DObj} {n m : Nat} {v : Lay} (k : zby hp n m) (e : Ex) : s_opL N [.ptr n 1 0 0,.agg (cEx e)] (TL.put hp n m v ++ t) = ⟨zhj v e /\ ∀ x ∈ e.subs,1 + szL [.agg (cEx x)] < N,.tup [],TL.put hp n m ⟨v.w,v.l ++ (seqC (e.subs.map (zao v.w)) v.l.length ++ [⟨if e.kind = 5 then 4 else 5,e.op,0,0⟩])⟩ ++ t⟩ := zbi zpc z64 _ k e
theorem ok_opL (N : Nat) (ih : OkH Tryz.prog 110 (limH N zls)) : OkH Tryz.prog 124 (s_opL N) := by
 refine OkH.mkT (ps := []) (hs := [(110,limH N zls),(82,zv8)]) zpc trivial ⟨ih,zw9,trivial⟩ zkk (fun _ => rfl) (fun _ _ _ => rfl) fun n m hp v e k h => ?_
 obtain ⟨h,hs⟩ := h
 have hsz := za7 e
 have hps := zar e
 have hsl := zbh e.subs
 have hb := h.2.2
 
 ((try unfold zb1); ((have hcondQ := Bool.and_self; refine Todo.of ?_); (repeat' (first | ((with_reducible refine Todo.to ?_); (repeat (simp only [↓rP,rT,rU,zb,dval,zn,zh,za,DV.immB,cellsOf,↓reduceIte,zj e ,hcondQ])))))))
 refine z0 e.subs (fun k (a : Lay × List DObj) => ⟨[(0,.ptr n 1 0 0),(3,.ref (cEx e)),(8,.sl (e.subs.map cEx)),(9,.int .i64 e.subs.length),(10,.int .i64 k)],TL.put hp n m a.1 ++ a.2⟩)
   (fun k r a => a.1.w = v.w /\ a.1.l ++ seqC (r.map (zao v.w)) a.1.l.length = v.l ++ seqC (e.subs.map (zao v.w)) v.l.length /\ (a.1.l.length : Int) + 2 * zbg r <= v.l.length + 2 * zbg e.subs) (v,[]) trivial (by simp only [zfi,List.map_cons,List.map_nil,zc,Nk.get_nil,Nat.reduceEqDiff,↓reduceIte,reduceCtorEq,zj e,List.append_nil] <;> rfl) ⟨rfl,rfl,Int.le_refl _⟩ (fun j x r a d hx hd hr => ?_) (fun j a e2 hr => ?_)
 . obtain ⟨u,t⟩ := a
   obtain ⟨g1,g2,g3⟩ := hr
   dsimp only at g1 g2 g3
   rw [zbg] at g3
   have hm := List.mem_of_getElem? hx
   have hpx := zar x
   have hpr := zbh r
   have hcl := zcw v.w x u.l.length
   have el := fun t => zom N (t := t) k (h.sub (u := u) hm g1 (by omega)) (hs x hm)
   simp only [zj x] at el
   ((try unfold zb1); ((refine Todo.of ?_); (repeat' (first | ((with_reducible refine Todo.to ?_); (repeat (first | (simp only [↓rP,rT,rU,zb,dval,dBin,dInt,zh,za,zw,DV.one,cellsOf,zk,Nat.reduceEqDiff,Nat.reduceAdd,↓reduceIte,reduceCtorEq,Nat.reduceLeDiff,forall_const,List.append_assoc,Duo.put_len,d,zm cEx hx,zj x,TL_bt,TL_sbt,el ]) | ((simp (disch := omega) only [z6]))))) | ((with_reducible refine And.intro ?_ ?_); . omega) | fail))))
   refine ⟨(layV u x,t ++ [_]),by simp only [zfi,List.map_cons,List.map_nil,zc,Nk.get_nil,Nat.reduceEqDiff,↓reduceIte,Nat.succ_ne_self,reduceCtorEq,Int.natCast_add,Int.natCast_one,zj e] <;> rfl,g1,?_,?_⟩
   . rw [<- g2]
     simp only [layV,List.map_cons,seqC,List.length_append,List.append_assoc,g1]
   . simp only [layV,List.length_append,g1]
     omega
 . obtain ⟨u,t⟩ := a
   obtain ⟨g1,g2,g3⟩ := hr
   dsimp only at g1 g2 g3
   simp only [List.map_nil,seqC,List.append_nil] at g2
   have hul : u.l.length <= 1000000 := by
     have := z1f (w := v.w) (l := e.subs) v.l.length (fun x _ => zcw v.w x)
     rw [g2]; simp only [List.length_append]; omega
   ((try unfold zb1); ((have hcondQ := Bool.and_self; refine Todo.of ?_); (repeat' (first | ((with_reducible refine Todo.to ?_); (repeat (simp only [↓rP,rT,rU,zr,zb,dval,dBin,dInt,zh,za,retV,retL,cellsOf,zk,DV.isU,Nat.reduceEqDiff,Nat.reduceAdd,↓reduceIte,reduceCtorEq,Nat.reduceLeDiff,Nat.reduceLT,za3,zj e,e2,zc4 k,hul ,hcondQ]))) | (((((with_reducible refine zd (t := ?_) ?_ (fun hcQ => ?_) (fun hcQ => ?_)); rotate_left; . (rfl))) <;> (have hn := hcQ; have hcondQ := hcQ) <;> (try simp only [beq_iff_eq,ne_eq,beq_eq_false_iff_ne] at hn) <;> (refine Todo.of ?_))) | fail))))
   all_goals exact ⟨_,_,rfl,by simp [g1,g2,hn]⟩
theorem z81 (a b : List In4) (x : In4) : setA (a ++ x :: b) a.length = a ++ ⟨x.op,((a ++ x :: b).length : Nat),x.b,x.n⟩ :: b := by
 simp [setA]
theorem z54 {v v1 v2 v3 v4 v5 v6 : Lay} {x0 x1 x2 : Ex} (h1 : v1 = layV v x0) (h2 : v2 = addV v1 ⟨7,0,0,0⟩) (h3 : v3 = layV v2 x1) (h4 : v4 = addV v3 ⟨6,0,0,0⟩) (h5 : v5 = zh0 v4 v1.l.length) (h6 : v6 = layV v5 x2) :
   zh0 v6 v3.l.length = ⟨v.w,v.l ++ zj6 (zao v.w x0) (zao v.w x1) (zao v.w x2) v.l.length⟩ := by
 obtain ⟨w,l⟩ := v
 have e1 : v1.l = l ++ zao w x0 l.length := by rw [h1]; rfl
 have w1 : v1.w = w := by rw [h1]; rfl
 generalize hA : zao w x0 l.length = A at *
 have n1 : v1.l.length = l.length + A.length := by rw [e1]; simp
 have n2 : v2.l.length = l.length + A.length + 1 := by rw [h2,addV]; simp [n1]
 have w2 : v2.w = w := by rw [h2]; exact w1
 have e3 : v3.l = l ++ A ++ ⟨7,0,0,0⟩ :: zao w x1 (l.length + A.length + 1) := by rw [h3,layV,n2,w2,h2,addV,e1]; simp
 have w3 : v3.w = w := by rw [h3]; exact w2
 generalize hB : zao w x1 (l.length + A.length + 1) = B at *
 have n3 : v3.l.length = l.length + A.length + 1 + B.length := by rw [e3]; simp; omega
 have w4 : v4.w = w := by rw [h4]; exact w3
 have e4 : v4.l = (l ++ A) ++ ⟨7,0,0,0⟩ :: (B ++ [⟨6,0,0,0⟩]) := by rw [h4,addV,e3]; simp
 have n4 : v4.l.length = l.length + A.length + 1 + B.length + 1 := by rw [h4,addV]; simp [n3]
 have e5 : v5.l = (l ++ A) ++ ⟨7,((l.length + A.length + 1 + B.length + 1 : Nat) : Int),0,0⟩ :: (B ++ [⟨6,0,0,0⟩]) := by
   rw [h5,zh0,n1,e4]
   have := z81 (l ++ A) (B ++ [⟨6,0,0,0⟩]) ⟨7,0,0,0⟩
   rw [List.length_append] at this
   rw [this,<- e4,n4]
 have w5 : v5.w = w := by rw [h5]; exact w4
 have n5 : v5.l.length = l.length + A.length + 1 + B.length + 1 := by rw [h5,zh0,z1a,n4]
 have e6 : v6.l = (l ++ A ++ ⟨7,((l.length + A.length + 1 + B.length + 1 : Nat) : Int),0,0⟩ :: B) ++ ⟨6,0,0,0⟩ :: zao w x2 (l.length + A.length + 1 + B.length + 1) := by
   rw [h6,layV,n5,w5,e5]; simp
 have w6 : v6.w = w := by rw [h6]; exact w5
 generalize hC : zao w x2 (l.length + A.length + 1 + B.length + 1) = C at *
 have n6 : v6.l.length = l.length + A.length + 1 + B.length + 1 + C.length := by rw [h6,layV,n5,w5,hC]; simp [n5]
 have e7 : setA v6.l v3.l.length = (l ++ A ++ ⟨7,((l.length + A.length + 1 + B.length + 1 : Nat) : Int),0,0⟩ :: B) ++ ⟨6,((l.length + A.length + 1 + B.length + 1 + C.length : Nat) : Int),0,0⟩ :: C := by
   rw [n3,e6]
   have := z81 (l ++ A ++ ⟨7,((l.length + A.length + 1 + B.length + 1 : Nat) : Int),0,0⟩ :: B) C ⟨6,0,0,0⟩
   have hn : (l ++ A ++ (⟨7,((l.length + A.length + 1 + B.length + 1 : Nat) : Int),0,0⟩ : In4) :: B).length = l.length + A.length + 1 + B.length := by simp; omega
   rw [hn] at this
   rw [this,<- e6,n6]
 rw [zh0,w6,e7]
 simp only [zj6,hA,hB,hC,Lay.mk.injEq,true_and]
 simp
theorem zg1 {w : Img × Img} {l : List Ex} {i : Nat} (h : i < l.length) : (l.map (zao w)).getD i noC = zao w (l.getD i default) := by
 rw [zxh,dif_pos h]; congr 1; simp [h]
noncomputable def s_chL (N : Nat) := zf5 TL (fun e : Ex => [.agg (cEx e)]) fun v e => (zhj v e /\ e.kind = 7 /\ ∀ x ∈ e.subs,1 + szL [.agg (cEx x)] < N,.tup [],layV v e)
theorem ydb (N : Nat) {hp t : List DObj} {n m : Nat} {v : Lay} (k : zby hp n m) (e : Ex) : s_chL N [.ptr n 1 0 0,.agg (cEx e)] (TL.put hp n m v ++ t) = ⟨zhj v e /\ e.kind = 7 /\ ∀ x ∈ e.subs,1 + szL [.agg (cEx x)] < N,.tup [],TL.put hp n m (layV v e) ++ t⟩ := zbi zpc z64 _ k e
theorem ok_chL (N : Nat) (ih : OkH Tryz.prog 110 (limH N zls)) : OkH Tryz.prog 123 (s_chL N) := by
 refine OkH.mkT (ps := []) (hs := [(110,limH N zls),(130,z70),(142,z1l)]) zpc trivial ⟨ih,ok_jump,ok_patch,trivial⟩ zlh (fun _ => rfl) (fun _ _ _ => rfl) fun n m hp v e k h => ?_
 obtain ⟨h,h7,hs⟩ := h
 have hsz := za7 e
 have hps := zar e
 have hln := h.2.1.len
 have hsb : za8 e = (3,3) := by simp [za8,h7]
 rw [hsb] at hln
 dsimp only at hln
 have hb := h.2.2
 have g0 : (e.subs.map cEx).getD 0 [] = cEx (e.subs.getD 0 default) := zm cEx (z4 default (by omega))
 have g1 : (e.subs.map cEx).getD 1 [] = cEx (e.subs.getD 1 default) := zm cEx (z4 default (by omega))
 have g2 : (e.subs.map cEx).getD 2 [] = cEx (e.subs.getD 2 default) := zm cEx (z4 default (by omega))
 have m0 : e.subs.getD 0 default ∈ e.subs := List.mem_of_getElem? (z4 default (show 0 < e.subs.length by omega))
 have m1 : e.subs.getD 1 default ∈ e.subs := List.mem_of_getElem? (z4 default (show 1 < e.subs.length by omega))
 have m2 : e.subs.getD 2 default ∈ e.subs := List.mem_of_getElem? (z4 default (show 2 < e.subs.length by omega))
 have hres : layV v e = ⟨v.w,v.l ++ zj6 (zao v.w (e.subs.getD 0 default)) (zao v.w (e.subs.getD 1 default)) (zao v.w (e.subs.getD 2 default)) v.l.length⟩ := by
   rw [layV,znk,if_neg (by omega),if_neg (by omega),if_neg (by omega),if_neg (by omega),if_pos h7,zg1 (by omega),zg1 (by omega),zg1 (by omega)]
 have hsum : zaq (e.subs.getD 0 default) + zaq (e.subs.getD 1 default) + zaq (e.subs.getD 2 default) <= zbg e.subs := by
   generalize e.subs = l at *
   match l,hln with
   | [a,b,c],_ => simp [zbg]; omega
   | [],hln => simp at hln
   | [_],hln => simp at hln
   | [_,_],hln => simp at hln
   | _ :: _ :: _ :: _ :: _,hln => simp at hln; omega
 rw [hres]
 generalize e.subs.getD 0 default = x0 at *
 generalize e.subs.getD 1 default = x1 at *
 generalize e.subs.getD 2 default = x2 at *
 have p0 := zar x0
 have p1 := zar x1
 have p2 := zar x2
 have E0 := fun t => zom N (t := t) k (h.sub (u := v) m0 rfl (by omega)) (hs x0 m0)
 obtain ⟨v1,hv1⟩ : ∃ v1,v1 = layV v x0 := ⟨_,rfl⟩
 have l1 : v1.l.length = v.l.length + (zao v.w x0 v.l.length).length := by rw [hv1,layV]; simp
 have c0 := zcw v.w x0 v.l.length
 rw [<- hv1] at E0
 obtain ⟨v2,hv2⟩ : ∃ v2,v2 = addV v1 ⟨7,0,0,0⟩ := ⟨_,rfl⟩
 have w2 : v2.w = v.w := by rw [hv2,hv1]; rfl
 have l2 : v2.l.length = v1.l.length + 1 := by rw [hv2,addV]; simp
 have J1 := fun t => zzh (t := t) (v := v1) k 7
 rw [eq_true (show v1.l.length <= 1000000 by omega),<- hv2] at J1
 have E1 := fun t => zom N (t := t) k (h.sub (u := v2) m1 w2 (by omega)) (hs x1 m1)
 obtain ⟨v3,hv3⟩ : ∃ v3,v3 = layV v2 x1 := ⟨_,rfl⟩
 rw [<- hv3] at E1
 have w3 : v3.w = v.w := by rw [hv3]; exact w2
 have c1 := zcw v2.w x1 v2.l.length
 have l3 : v3.l.length = v2.l.length + (zao v2.w x1 v2.l.length).length := by rw [hv3,layV]; simp
 obtain ⟨v4,hv4⟩ : ∃ v4,v4 = addV v3 ⟨6,0,0,0⟩ := ⟨_,rfl⟩
 have w4 : v4.w = v.w := by rw [hv4]; exact w3
 have l4 : v4.l.length = v3.l.length + 1 := by rw [hv4,addV]; simp
 have J2 := fun t => zzh (t := t) (v := v3) k 6
 rw [eq_true (show v3.l.length <= 1000000 by omega),<- hv4] at J2
 have P1 := zw7 (a := hp.length) (b := hp.length + 1) (t := [oB n,oI v1.l.length,oB n,oI v3.l.length]) (v := v4) k TL_b TL_b1
 rw [eq_true (show v1.l.length < v4.l.length by omega)] at P1
 obtain ⟨v5,hv5⟩ : ∃ v5,v5 = zh0 v4 v1.l.length := ⟨_,rfl⟩
 rw [<- hv5] at P1
 have w5 : v5.w = v.w := by rw [hv5]; exact w4
 have l5 : v5.l.length = v4.l.length := by rw [hv5,zh0]; exact z1a _ _
 have E2 := fun t => zom N (t := t) k (h.sub (u := v5) m2 w5 (by omega)) (hs x2 m2)
 obtain ⟨v6,hv6⟩ : ∃ v6,v6 = layV v5 x2 := ⟨_,rfl⟩
 rw [<- hv6] at E2
 have l6 : v6.l.length = v5.l.length + (zao v5.w x2 v5.l.length).length := by rw [hv6,layV]; simp
 have P2 := zw7 (a := hp.length + 2) (b := hp.length + 2 + 1) (i := v3.l.length) (t := [oB n,oI v1.l.length,oB n,oI v3.l.length]) (v := v6) k (by
   have := Duo.get_bt (T := TL) (hp := hp) (n := n) (m := m) (v := v6) (t := [oB n,oI v1.l.length]) (o := oB n) (t' := [oI v3.l.length])
   simpa using this) (by
   have := Duo.get_bt (T := TL) (hp := hp) (n := n) (m := m) (v := v6) (t := [oB n,oI v1.l.length,oB n]) (o := oI v3.l.length) (t' := [])
   simpa using this)
 rw [eq_true (show v3.l.length < v6.l.length by omega)] at P2
 simp only [zj x0,zj x1,zj x2] at E0 E1 E2 g0 g1 g2
 
 ((try unfold zf0); ((have hcondQ := Bool.and_self; refine Todo.of ?_); (repeat' (first | ((with_reducible refine Todo.to ?_); (repeat (simp only [↓rP,rT,rU,zb,dval,zn,zh,za,retV,retL,DV.immB,cellsOf,Nat.reduceEqDiff,Nat.reduceAdd,↓reduceIte,reduceCtorEq,Int.reduceToNat,Int.reduceLE,Nat.reduceLeDiff,Nat.add_zero,za3,zj e,g0,g1,g2,E0,E1,E2,J1,J2,P1,P2 ,hcondQ]))) | ((with_reducible refine And.intro ?_ ?_); . omega) | fail))))
 exact ⟨_,_,rfl,z54 hv1 hv2 hv3 hv4 hv5 hv6⟩
theorem ok_layE : OkH Tryz.prog 110 zls := by
 refine OkH.rec fun N ih => ?_
 unfold zls
 rw [yag]
 refine OkH.mkT (ps := [(99,z6b),(109,zpw),(98,zqx),(49,zcg)]) (hs := [(82,zv8),(111,z1m),(123,s_chL N),(124,s_opL N),(110,limH N zls)]) zpc
   ⟨zjr,z9x,zda,zqq,trivial⟩ ⟨zw9,z8e,ok_chL N ih,ok_opL N ih,ih,trivial⟩ zri (fun _ => rfl) (fun _ _ _ => rfl) fun n m hp v e k h => ?_
 obtain ⟨h,h2⟩ := h
 have hs : ∀ x ∈ e.subs,1 + szL [DV.agg (cEx x)] < N := fun x hx => by
   have := znn hx
   simp only [szL,DV.sz] at h2 |-
   omega
 have hps := zar e
 have hb := h.2.2
 have hl : v.l.length <= 1000000 := by omega
 have hw := h.1
 
 have hcE := znk v.w e v.l.length
 by_cases k1 : e.kind = 1
 . have hr : layV v e = ⟨v.w,v.l ++ [⟨1,1,0,e.n⟩]⟩ := by rw [layV,hcE,if_pos k1]
   rw [hr]
   ((try unfold za1); ((have hcondQ := Bool.and_self; refine Todo.of ?_); (repeat' (first | ((with_reducible refine Todo.to ?_); (repeat (simp only [↓rP,rT,rU,zr,zb,dval,zn,dBin,dInt,zh,za,retV,retL,DV.immB,cellsOf,zk,DV.isU,Nat.reduceEqDiff,Nat.reduceAdd,↓reduceIte,reduceCtorEq,Nat.reduceLeDiff,Nat.reduceLT,za3,zj e,k1,zc4 k,hl ,hcondQ])))))))
   exact ⟨_,_,rfl,rfl⟩
 by_cases k2 : e.kind = 2
 . have hr : layV v e = ⟨v.w,v.l ++ [⟨1,2,0,e.n⟩]⟩ := by rw [layV,hcE,if_neg k1,if_pos k2]
   rw [hr]
   ((try unfold za1); ((have hcondQ := Bool.and_self; refine Todo.of ?_); (repeat' (first | ((with_reducible refine Todo.to ?_); (repeat (simp only [↓rP,rT,rU,zr,zb,dval,zn,dBin,dInt,zh,za,retV,retL,DV.immB,cellsOf,zk,DV.isU,Nat.reduceEqDiff,Nat.reduceAdd,↓reduceIte,reduceCtorEq,Nat.reduceLeDiff,Nat.reduceLT,Int.reduceBEq,za3,zj e,k2,zc4 k,hl ,hcondQ])))))))
   exact ⟨_,_,rfl,rfl⟩
 by_cases k4 : e.kind = 4
 . have hr : layV v e = ⟨v.w,v.l ++ [⟨1,zb5 (armT v.w.2.en e.name).1,0,(armT v.w.2.en e.name).2.1⟩]⟩ := by rw [layV,hcE,if_neg k1,if_neg k2,if_pos k4]
   rw [hr]
   have e1 := zti v.w.2.en e.name
   rw [eq_true hw.1.2] at e1
   have e2 := zku (armT v.w.2.en e.name).1
   generalize armT v.w.2.en e.name = u at *
   simp only [cTy] at e1 e2
   ((try unfold za1); ((have hcondQ := Bool.and_self; refine Todo.of ?_); (repeat' (first | ((with_reducible refine Todo.to ?_); (repeat (simp only [↓rP,rT,rU,zr,zb,dval,zn,dBin,dInt,zh,za,retV,retL,fzVs,fzV,fz1,DV.immB,ze,zf,zp,zo,zx,zi,zq,zw,DV.one,alive,cellsOf,zk,DV.isU,Nat.reduceEqDiff,Nat.reduceAdd,↓reduceIte,reduceCtorEq,Nat.reduceLeDiff,Nat.reduceLT,Int.reduceBEq,forall_const,List.append_assoc,Nat.add_zero,Duo.put_len,za3,TL_o k,TL_b,TL_sb,zj e,k4,zc4 k,hl,e1,e2 ,hcondQ])))))))
   all_goals first | exact ⟨_,_,rfl,rfl⟩
 by_cases k17 : e.kind = 17
 . have hr : layV v e = ⟨v.w,v.l ++ [znm v.w e.name 0]⟩ := by rw [layV,hcE,if_neg k1,if_neg k2,if_neg k4,if_pos k17]
   rw [hr]
   ((try unfold za1); ((have hcondQ := Bool.and_self; refine Todo.of ?_); (repeat' (first | ((with_reducible refine Todo.to ?_); (repeat (simp only [↓rP,rT,rU,zb,dval,zn,dBin,dInt,zh,za,retV,retL,DV.immB,cellsOf,Nat.reduceEqDiff,Nat.reduceAdd,↓reduceIte,reduceCtorEq,Int.reduceLE,Nat.reduceLT,Int.reduceBEq,za3,zj e,k17,zvi k,hl,hw ,hcondQ])))))))
   all_goals first | exact ⟨_,_,rfl,rfl⟩
 by_cases k7 : e.kind = 7
 . have e1 := fun t => ydb N (t := t) k e (v := v)
   rw [eq_true (show zhj v e /\ e.kind = 7 /\ ∀ x ∈ e.subs,1 + szL [DV.agg (cEx x)] < N from ⟨h,k7,hs⟩)] at e1
   simp only [zj e,k7] at e1
   ((try unfold za1); ((have hcondQ := Bool.and_self; refine Todo.of ?_); (repeat' (first | ((with_reducible refine Todo.to ?_); (repeat (simp only [↓rP,rT,rU,zb,dval,zn,dBin,dInt,zh,za,retV,retL,DV.immB,cellsOf,Nat.reduceEqDiff,Nat.reduceAdd,↓reduceIte,reduceCtorEq,Nat.reduceLeDiff,Nat.reduceLT,Int.reduceBEq,za3,zj e,k7,e1 ,hcondQ])))))))
   all_goals first | exact ⟨_,_,rfl,rfl⟩
 by_cases k15 : e.kind = 15
 . have hln := h.2.1.len
   have hsb : za8 e = (2,2) := by simp [za8,k15]
   rw [hsb] at hln
   dsimp only at hln
   have hr : layV v e = ⟨v.w,v.l ++ (zao v.w (e.subs.getD 1 default) v.l.length ++ [getC v.w (e.subs.getD 0 default).name])⟩ := by
     rw [layV,hcE,if_neg k1,if_neg k2,if_neg k4,if_neg k17,if_neg k7,if_pos k15,zg1 (by omega)]
   rw [hr]
   have g0 : (e.subs.map cEx).getD 0 [] = cEx (e.subs.getD 0 default) := zm cEx (z4 default (by omega))
   have g1 : (e.subs.map cEx).getD 1 [] = cEx (e.subs.getD 1 default) := zm cEx (z4 default (by omega))
   have m1 : e.subs.getD 1 default ∈ e.subs := List.mem_of_getElem? (z4 default (show 1 < e.subs.length by omega))
   have hsz := za7 e
   generalize e.subs.getD 0 default = x0 at *
   generalize e.subs.getD 1 default = x1 at *
   have hm1 := zid m1
   have E1 := fun t => zom N (t := t) k (h.sub (u := v) m1 rfl (by omega)) (hs x1 m1)
   have c1 := zcw v.w x1 v.l.length
   have l1 : (layV v x1).l.length <= 1000000 := by rw [layV]; simp; omega
   have e1 := zlb v.w x0.name
   rw [eq_true hw.1.1] at e1
   have hgc : getC v.w x0.name = ⟨8,(za5 v.w.1 x0.name).1.at_,zt (za5 v.w.1 x0.name).1.ty,0⟩ := rfl
   rw [hgc]
   have e2 := zbn (za5 v.w.1 x0.name).1.ty
   generalize za5 v.w.1 x0.name = s at *
   obtain ⟨s,b⟩ := s
   have hfin : (⟨(layV v x1).w,(layV v x1).l ++ [⟨8,s.at_,zt s.ty,0⟩]⟩ : Lay) = ⟨v.w,v.l ++ (zao v.w x1 v.l.length ++ [⟨8,s.at_,zt s.ty,0⟩])⟩ := by simp [layV]
   rw [<- hfin]
   generalize layV v x1 = v1 at *
   simp only [zj x1,zj x0] at E1 g0 g1
   simp only [cWay,cSlt,cTy] at e1 e2
   ((try unfold za1); ((have hcondQ := Bool.and_self; refine Todo.of ?_); (repeat' (first | ((with_reducible refine Todo.to ?_); (repeat (simp only [↓rP,rT,rU,zr,zb,dval,zn,dBin,dInt,zh,za,retV,retL,fzVs,fzV,fz1,DV.immB,ze,zf,zp,zo,zx,zi,zq,zw,DV.one,alive,fzL,cellsOf,zk,DV.isU,Nat.reduceEqDiff,Nat.reduceAdd,↓reduceIte,reduceCtorEq,Int.reduceToNat,Int.reduceLE,Nat.reduceLeDiff,Nat.reduceLT,Int.reduceBEq,forall_const,List.append_assoc,Nat.add_zero,Duo.put_len,za3,TL_o k,TL_b,TL_sb,zj e,k15,zc4 k,l1,g0,g1,E1,e1,e2 ,hcondQ]))) | ((with_reducible refine And.intro ?_ ?_); . omega) | fail))))
   all_goals first | exact ⟨_,_,rfl,rfl⟩
 have hr : layV v e = ⟨v.w,v.l ++ (seqC (e.subs.map (zao v.w)) v.l.length ++ [⟨if e.kind = 5 then 4 else 5,e.op,0,0⟩])⟩ := by
   rw [layV,hcE,if_neg k1,if_neg k2,if_neg k4,if_neg k17,if_neg k7,if_neg k15]
 rw [hr]
 have e1 := fun t => yd3 N (t := t) k e (v := v)
 rw [eq_true (show zhj v e /\ ∀ x ∈ e.subs,1 + szL [DV.agg (cEx x)] < N from ⟨h,hs⟩)] at e1
 simp only [zj e] at e1
 ((try unfold za1); ((have hcondQ := Bool.and_self; refine Todo.of ?_); (repeat' (first | ((with_reducible refine Todo.to ?_); (repeat (simp only [↓rP,rT,rU,zb,dval,zn,dBin,dInt,zh,za,retV,retL,DV.immB,cellsOf,Nat.reduceEqDiff,Nat.reduceAdd,↓reduceIte,reduceCtorEq,Nat.reduceLeDiff,Nat.reduceLT,za3,zj e,e1 ,hcondQ]))) | (((((with_reducible refine zd (t := ?_) ?_ (fun hcQ => ?_) (fun hcQ => ?_)); rotate_left; . (rfl))) <;> (have hn := hcQ; have hcondQ := hcQ) <;> (try simp only [beq_iff_eq,ne_eq,beq_eq_false_iff_ne] at hn) <;> (try (exfalso; omega)) <;> (refine Todo.of ?_))) | fail))))
 all_goals first | omega | exact ⟨_,_,rfl,rfl⟩
end Go.Proofs.YtjgefhgkinocmaaGreat
