/- The reference's instants: NqMerge, arrays (24). -/
import Derived.Test.YtcokmopocppmiaaGreatPgKh
set_option maxHeartbeats 8000000
set_option linter.all false
set_option maxRecDepth 20000
namespace Go.Proofs.YtcokmopocppmiaaGreat
noncomputable section
open Go.Nk
def ai2(a i:List Int):Bool:=decide (0<=i.getD 0 0/\i.getD 0 0<a.length)
def Un:List DV->Prop×DV:=b5 m6 m6 λa i=>(i≠[],.cy [.int .i64 (if ai2 a i then i.getD 0 0 else 0),.bool (ai2 a i)])
def N4(a)(i:List Int):=show Un [.sl (cX a),.sl (cX i)]=_ from aO mq mq _ a i
theorem Cn:aF Tryz.prog 120 Un:=by
 refine aF.oU (ps:=[]) (hs:=[]) trivial trivial DZ λa i h=> ?_;try dsimp only at h
 match i,h with
 |x::r,_=>
 have g0:(cX (x::r)).getD 0 []=[.int .i64 x]:=rfl;have hp:ai2 a (x::r)=decide (0<=x/\x<a.length):=rfl;by_cases c1:x<0
 ·rw[hp,show decide (0<=x/\x<a.length)=false by simp;omega];exact aq (A5 @ka.eq_1 @m6.eq_1 @aV g0 c1) zz
 ·by_cases c2:(a.length:Int)<=x
  ·rw[hp,show decide (0<=x/\x<a.length)=false by simp;omega];exact aq (A6 @ka.eq_1 @m6.eq_1 @aV g0 c1 c2) zz
  ·rw[hp,show decide (0<=x/\x<a.length)=true by simp;omega];exact aq (A6 @ka.eq_1 @m6.eq_1 @aV g0 c1 c2) zz
theorem Xf{env}{s}{i}(h:¬aG env (s,i)=[]):(cX (aG env (s,i))).getD 0 []=[.int .i64 (aP env (s,i))]/\0<(aG env (s,i)).length:=by
 refine⟨?_,List.length_pos_iff.2 h⟩;cases hv:aG env (s,i)with
 |nil=>exact absurd hv h
 |cons x r=>simp[cX,aP,hv]
def N5:=mE TX (λq:Pl=>[.agg (fJ q)]) λv q=>(Co v/\q.kind=6/\aU (ad v.l v.at_) v.env q,.sl (cX (aG v.env (bg q ((gZ (ad v.l v.at_) v.env q).toNat+1)))),v)
theorem afL:g9 Tryz.prog 82 N5:=by
 refine g9.Xg (ps:=[(91,abj)]) (hs:=[(53,wB)]) fK ⟨u9,trivial⟩ ⟨Gy,trivial⟩ Ap (λ_=>rfl) (λ_ _ _=>rfl) λn m hp v q k h=> ?_;obtain⟨kind,names,op,args,init,node,rs,ev,en,on⟩:=q;obtain⟨hv,hk,h⟩:=h;dsimp only at hk h hv|-;subst hk;simp[aU]at h;obtain⟨bw,ha,zo,z5⟩:=h;obtain⟨fg,fm,fl⟩:=tE hv;have hw:=hv.1 _ fm;have Gz:=hv.2;generalize ad v.l v.at_=f at*;match args with
 |[]=>simp at z5;omega
 |a0::r=>
 obtain⟨s0,i0⟩:=a0;have e3:=M1 f s0;rw[eq_true hw]at e3;simp only[bg,List.getD_cons_zero,List.getD_cons_succ,gZ,sG]at bw zo z5|-;obtain⟨g0,gl⟩:=Xf bw;have e1:=λt=>cP (t:=t) (v:=v) k s0 i0;generalize (fp f s0).getD vaZ=w at*;generalize (fp f s0).isSome=wb at*;generalize aP v.env (s0,i0)=I at*;obtain⟨wn,wk,we,wl,won⟩:=w;dsimp only at zo z5|-;simp only[List.length_cons]at ha z5;by_cases c:wk=2
 ·subst c;have cb:((2:Int)==2)=true:=rfl;rw[cb,if_pos rfl]at zo z5|-;generalize hJ:IntKind.i64.wrap (1-I)=J at*;obtain⟨i,rfl⟩:=Int.eq_ofNat_of_zero_le zo;have hi:i<r.length:=by omega
  obtain⟨⟨s,j⟩,hx⟩:∃x,r[i]? =some x:=⟨r[i],List.getElem?_eq_getElem hi⟩;have gx:=af eD (show((s0,i0)::r)[i+1]? =some (s,j) by simpa using hx);have gy:r.getD (i:Int).toNat ([],0)=(s,j):=by simp[List.getD,hx]
  rw[gy];have hw:IntKind.i64.wrap ((i:Int)+1)=((i+1:Nat):Int):=by rw[ig (by omega)];omega
  have e0:∀t,wB [.ptr n 1 0 0,.agg [.str s,.int .i64 j]] (TX.put hp n m v++t)=⟨True,.sl (cX (aG v.env (s,j))),TX.put hp n m v++t⟩:=λt=>cP k s j;have gx2:([.str s0,.int .i64 i0]::r.map eD).getD (i+1) []=[.str s,.int .i64 j]:=gx;refine lJ (A9 @lO.eq_1 @aV @qO k Gz fg e3 e1 (A7 g0 @rO @lh hJ hw gx2 e0)) (JJ ?_);all_goals exact⟨_,_,rfl,rfl⟩
 ·have cb:(wk==2)=false:=by simpa using c
  rw[cb,if_neg (by decide)]at zo z5|-;obtain⟨i,rfl⟩:=Int.eq_ofNat_of_zero_le zo;have hi:i<r.length:=by omega
  obtain⟨⟨s,j⟩,hx⟩:∃x,r[i]? =some x:=⟨r[i],List.getElem?_eq_getElem hi⟩;have gx:=af eD (show((s0,i0)::r)[i+1]? =some (s,j) by simpa using hx);have gy:r.getD (i:Int).toNat ([],0)=(s,j):=by simp[List.getD,hx]
  rw[gy];have hw:IntKind.i64.wrap ((i:Int)+1)=((i+1:Nat):Int):=by rw[ig (by omega)];omega
  have e0:∀t,wB [.ptr n 1 0 0,.agg [.str s,.int .i64 j]] (TX.put hp n m v++t)=⟨True,.sl (cX (aG v.env (s,j))),TX.put hp n m v++t⟩:=λt=>cP k s j;have gx2:([.str s0,.int .i64 i0]::r.map eD).getD (i+1) []=[.str s,.int .i64 j]:=gx;refine lJ (A9 @lO.eq_1 @aV @qO k Gz fg e3 e1 (A6 g0 @rO @lh hw gx2 e0)) (JJ (λhn=> ?_));all_goals first|exact absurd (by assumption) c|exact⟨_,_,rfl,rfl⟩
theorem N6{f}{m}{env}{q:Pl}(h:q.kind=9\/q.kind=10):iZ f m env q=if 0<=aP env (bg q 1)/\aP env (bg q 1)<(aG env (bg q 0)).length then .sl (cX (aM f m env q).1)else .nil:=by
 unfold iZ;by_cases c:0<=aP env (bg q 1)/\aP env (bg q 1)<(aG env (bg q 0)).length
 ·rw[if_pos c,if_neg (λhh=>hh.2 c)]
 ·rw[if_neg c,if_pos ⟨h,c⟩]
def abk:=mE TX (λq:Pl=>[.agg (fJ q)]) λv q=>((q.kind=8\/q.kind=9\/q.kind=10)/\aU (ad v.l v.at_) v.env q,.cy [iZ (ad v.l v.at_) v.m v.env q,.int .i64 (aM (ad v.l v.at_) v.m v.env q).2],v)
theorem anA:g9 Tryz.prog 84 abk:=by
 refine g9.Xg (ps:=[(120,Un)]) (hs:=[(53,wB)]) fK ⟨Cn,trivial⟩ ⟨Gy,trivial⟩ Aq (λ_=>rfl) (λv q k=>by dsimp only;unfold iZ;split<;>rfl) λn m hp v q k h=> ?_;obtain⟨kind,names,op,args,init,node,rs,ev,en,on⟩:=q;obtain⟨hk,h⟩:=h;dsimp only at hk h|-;rcases hk with rfl|rfl|rfl
 ·simp[aU]at h;obtain⟨h1,h2⟩:=h;have kB:aM (ad v.l v.at_) v.m v.env ⟨8,names,op,args,init,node,rs,ev,en,on⟩=(args.map (aP v.env),0):=rfl;have z6:iZ (ad v.l v.at_) v.m v.env ⟨8,names,op,args,init,node,rs,ev,en,on⟩= .sl (cX (args.map (aP v.env))):=rfl;rw[z6,kB];refine lJ @eK.eq_1 (JJ ?_);refine ai args (λj (x:List Int)=>⟨[(0,.ptr n 1 0 0),(3,.ref (fJ ⟨8,names,op,args,init,node,rs,ev,en,on⟩)),(6,.own hp.length x.length 0 x.length),(7,.int .i64 j)],TX.put hp n m v++[⟨.aN,1,cX x⟩]⟩) (λj r x=>x++r.map (aP v.env)=args.map (aP v.env)/\x.length<=j) [] trivial (CF @ad3) ⟨rfl,Nat.le_refl _⟩ (λj a r o d hx hd hr=> ?_) (λj o e hr=> ?_)
  ·obtain⟨r1,r2⟩:=hr;rw[List.map_cons]at r1;have ga:=af eD hx;have ha:=h2 a.1 a.2 (List.mem_of_getElem? hx);obtain⟨s,i⟩:=a;obtain⟨g0,gl⟩:=Xf ha;have e1:=λt=>cP (t:=t) (v:=v) k s i;refine aq (A8 @aV d ga e1 g0 @rO @lh @Xh) (JJ ?_);exact⟨o++[aP v.env (s,i)],CT,by simpa using r1,by simp;omega⟩
  ·obtain⟨r1,r2⟩:=hr;rw[List.map_nil,List.append_nil]at r1;rw[<-r1];refine lJ (A5 @aV @Uo e @rO @lh) (JJ ?_);all_goals exact⟨_,_,rfl,rfl⟩
 ·simp[aU]at h;obtain⟨ha,hv,bw⟩:=h;match args,ha with
  |[a,b],_=>
  obtain⟨s1,i1⟩:=a;obtain⟨s2,i2⟩:=b;simp only[bg,List.getD_cons_zero,List.getD_cons_succ]at hv bw;have kB:aM (ad v.l v.at_) v.m v.env ⟨9,names,op,[(s1,i1),(s2,i2)],init,node,rs,ev,en,on⟩=(if 0<=aP v.env (s2,i2)/\aP v.env (s2,i2)<(aG v.env (s1,i1)).length then([(aG v.env (s1,i1)).getD (aP v.env (s2,i2)).toNat 0],0)else([],16)):=rfl;have z6:iZ (ad v.l v.at_) v.m v.env ⟨9,names,op,[(s1,i1),(s2,i2)],init,node,rs,ev,en,on⟩=(if 0<=aP v.env (s2,i2)/\aP v.env (s2,i2)<(aG v.env (s1,i1)).length then .sl (cX [(aG v.env (s1,i1)).getD (aP v.env (s2,i2)).toNat 0])else .nil):=by
   rw[N6 (.inl rfl),kB];show(if 0<=aP v.env (s2,i2)/\aP v.env (s2,i2)<(aG v.env (s1,i1)).length then DV.sl (cX (if 0<=aP v.env (s2,i2)/\aP v.env (s2,i2)<(aG v.env (s1,i1)).length then([(aG v.env (s1,i1)).getD (aP v.env (s2,i2)).toNat 0],(0:Int))else([],16)).1)else DV.nil)=_;by_cases c:0<=aP v.env (s2,i2)/\aP v.env (s2,i2)<(aG v.env (s1,i1)).length
   ·simp only[if_pos c]
   ·simp only[if_neg c]
  rw[z6,kB];have e0:=λt=>cP (t:=t) (v:=v) k s1 i1;have e1:=λt=>cP (t:=t) (v:=v) k s2 i2;have e2:=N4 (aG v.env (s1,i1)) (aG v.env (s2,i2));rw[eq_true (show aG v.env (s2,i2)≠[] from bw)]at e2;have Lg:ai2 (aG v.env (s1,i1)) (aG v.env (s2,i2))=decide (0<=aP v.env (s2,i2)/\aP v.env (s2,i2)<(aG v.env (s1,i1)).length):=rfl;rw[Lg,show(aG v.env (s2,i2)).getD 0 0=aP v.env (s2,i2) from rfl]at e2;have hv:(aG v.env (s1,i1)).length<=1000:=hv;generalize aG v.env (s1,i1)=V at*;generalize aP v.env (s2,i2)=I at*;by_cases c:0<=I/\I<V.length
  ·rw[decide_eq_true c,if_pos rfl]at e2;rw[if_pos c,if_pos c];obtain⟨c1,c2⟩:=c;obtain⟨i,rfl⟩:=Int.eq_ofNat_of_zero_le c1;have c3:i<V.length:=by omega
   refine lJ (A8 @eK.eq_1 @aV e0 e1 e2 c3 (Up c3) @BM) (JJ ?_);all_goals exact⟨_,_,rfl,rfl⟩
  ·rw[decide_eq_false c,if_neg (by decide)]at e2;rw[if_neg c,if_neg c];refine lJ (A4 @eK.eq_1 e0 e1 e2) (JJ ?_);all_goals exact⟨_,_,rfl,rfl⟩
 ·simp[aU]at h;obtain⟨ha,hv,bw,Jq⟩:=h;match args,ha with
  |[a,b,d],_=>
  obtain⟨s1,i1⟩:=a;obtain⟨s2,i2⟩:=b;obtain⟨s3,i3⟩:=d;simp only[bg,List.getD_cons_zero,List.getD_cons_succ]at hv bw Jq;have kB:aM (ad v.l v.at_) v.m v.env ⟨10,names,op,[(s1,i1),(s2,i2),(s3,i3)],init,node,rs,ev,en,on⟩=(if 0<=aP v.env (s2,i2)/\aP v.env (s2,i2)<(aG v.env (s1,i1)).length then((aG v.env (s1,i1)).set (aP v.env (s2,i2)).toNat (aP v.env (s3,i3)),0)else([],16)):=rfl;have z6:iZ (ad v.l v.at_) v.m v.env ⟨10,names,op,[(s1,i1),(s2,i2),(s3,i3)],init,node,rs,ev,en,on⟩=(if 0<=aP v.env (s2,i2)/\aP v.env (s2,i2)<(aG v.env (s1,i1)).length then .sl (cX ((aG v.env (s1,i1)).set (aP v.env (s2,i2)).toNat (aP v.env (s3,i3))))else .nil):=by
   rw[N6 (.inr rfl),kB];show(if 0<=aP v.env (s2,i2)/\aP v.env (s2,i2)<(aG v.env (s1,i1)).length then DV.sl (cX (if 0<=aP v.env (s2,i2)/\aP v.env (s2,i2)<(aG v.env (s1,i1)).length then((aG v.env (s1,i1)).set (aP v.env (s2,i2)).toNat (aP v.env (s3,i3)),(0:Int))else([],16)).1)else DV.nil)=_;by_cases c:0<=aP v.env (s2,i2)/\aP v.env (s2,i2)<(aG v.env (s1,i1)).length
   ·simp only[if_pos c]
   ·simp only[if_neg c]
  rw[z6,kB];obtain⟨g0,gl⟩:=Xf Jq;have e0:=λt=>cP (t:=t) (v:=v) k s1 i1;have e1:=λt=>cP (t:=t) (v:=v) k s2 i2;have e3:=λt=>cP (t:=t) (v:=v) k s3 i3;have e2:=N4 (aG v.env (s1,i1)) (aG v.env (s2,i2));rw[eq_true (show aG v.env (s2,i2)≠[] from bw)]at e2;have Lg:ai2 (aG v.env (s1,i1)) (aG v.env (s2,i2))=decide (0<=aP v.env (s2,i2)/\aP v.env (s2,i2)<(aG v.env (s1,i1)).length):=rfl;rw[Lg,show(aG v.env (s2,i2)).getD 0 0=aP v.env (s2,i2) from rfl]at e2;have hv:(aG v.env (s1,i1)).length<=1000:=hv;generalize aG v.env (s1,i1)=V at*;generalize aP v.env (s2,i2)=I at*;generalize aP v.env (s3,i3)=X at*;by_cases c:0<=I/\I<V.length
  ·rw[decide_eq_true c,if_pos rfl]at e2;rw[if_pos c,if_pos c];obtain⟨c1,c2⟩:=c;obtain⟨i,rfl⟩:=Int.eq_ofNat_of_zero_le c1;have c3:i<V.length:=by omega
   have ht:List.take V.length (cX (V.set i X))=cX (V.set i X):=List.take_of_length_le (by simp[cX]);refine lJ (A9 @eK.eq_1 @aV @BN e0 e1 e2 e3 g0 (A6 c3 @ai3 (Up c3) ht @rO @lh)) (JJ ?_);all_goals exact⟨_,_,rfl,rfl⟩
  ·rw[decide_eq_false c,if_neg (by decide)]at e2;rw[if_neg c,if_neg c];refine lJ (A4 @eK.eq_1 e0 e1 e2) (JJ ?_);all_goals exact⟨_,_,rfl,rfl⟩
def Dj(l:jw):Prop:=∀f∈l.fs,∀q∈f.eqs,1<=q.kind/\q.kind<=10
def sF(N:Nat):List DV->Prop×DV:=Ak jz eI cT iY λl at_ m ins=>((W9 l/\Dj l)/\jX l N at_ m ins,.cy [.sl ((aZ l N at_ m ins).1.map dG),.sl ((aZ l N at_ m ins).2.1.map aT),.int .i64 (aZ l N at_ m ins).2.2])
def N0(N)(l)(at_)(m:List cW)(ins:List (List Int)):=show sF N [.agg (b8 l),.int .i64 at_,.sl (m.map aT),.sl (ins.map dG)]=_ from tG o9 b6 gQ o6 _ l at_ m ins
def GA(N:Nat)(v:gR)(q:Pl):DV:=if(dD N v q).2.2=0 then .sl ((dD N v q).1.map dG)else .nil
def N7(N:Nat):=mE TX (λq:Pl=>[.agg (fJ q)]) λv q=>((W9 v.l/\Dj v.l)/\q.kind=7/\xh N v q,.cy [GA N v q,.int .i64 (dD N v q).2.2],vb N v q)
theorem Uq(N){hp t}{n m}{v:gR}(k:fw hp n m)(q:Pl):N7 N [.ptr n 1 0 0,.agg (fJ q)] (TX.put hp n m v++t)=⟨(W9 v.l/\Dj v.l)/\q.kind=7/\xh N v q,.cy [GA N v q,.int .i64 (dD N v q).2.2],TX.put hp n m (vb N v q)++t⟩:=eM fK qE _ k q
theorem afM{N}(hS:aF Tryz.prog 28 (sF N)):g9 Tryz.prog 83 (N7 N):=by
 refine g9.Xg (ps:=[(118,GD),(19,lL),(28,sF N),(119,D0)]) (hs:=[(53,wB)]) fK ⟨Cp,gP,hS,D3,trivial⟩ ⟨Gy,trivial⟩ Cq (λ_=>rfl) (λv q k=>by dsimp only;unfold GA;split<;>rfl) λn m hp v q k h=> ?_;obtain⟨hI,hk,h0,hn,hM,hT,h⟩:=h;rw[if_pos hk]at h;obtain⟨h1,h2,h3,h4,h5,h6⟩:=h;dsimp only at h0 hn hM hT h1 h2 h3 h4 h5 h6|-;have hr:dD N v q=aZ v.l N q.node (oM v.l v.m v.env q) (q.args.map (aG v.env)):=rfl;have hcv:vb N v q=if(dD N v q).2.2=0 then⟨v.l,v.at_,v.m,iD v.th (aD q) (dD N v q).2.1,v.env⟩else v:=rfl;have hrd:GA N v q=if(dD N v q).2.2=0 then .sl ((dD N v q).1.map dG)else .nil:=rfl;rw[<-hr]at h6;have e4:=N0 N v.l q.node (oM v.l v.m v.env q) (q.args.map (aG v.env));rw[eq_true (And.intro hI h5),<-hr]at e4;have e3:=jV v.l q.node;rw[eq_true hI.1.1]at e3;have e2:=N8 v.m (aD q);rw[eq_true (⟨(dV hM).1,by omega,(dV hM).2⟩:ji v.m/\(aD q).length<=1000000/\∀c∈v.m,c.path.length<=4503599627370496)]at e2;rw[hcv,hrd];have j9:oM v.l v.m v.env q=if q.reset/\aP v.env (q.ev,q.en)≠0 then b7 v.l q.node else fu v.m (aD q):=rfl;have e5:(dD N v q).2.2=0->D0 [.sl (v.th.map aT),.str (aD q),.sl ((dD N v q).2.1.map aT)]=(True,.sl ((iD v.th (aD q) (dD N v q).2.1).map aT)):=λh=>by have:=(h6 h).2;rw[Sp,eq_true (⟨(dV hT).1,by omega,(dV this).1,(dV hT).2⟩:ji v.th/\(aD q).length<=1000000/\ji (dD N v q).2.1/\∀c∈v.th,c.path.length<=4503599627370496)]
 generalize oM v.l v.m v.env q=S at*;generalize dD N v q=R at*;obtain⟨kind,names,op,args,init,node,rs,ev,en,on⟩:=q;match names,h0 with
 |s::ns,_=>
 have zK:aD ⟨kind,s::ns,op,args,init,node,rs,ev,en,on⟩=s:=rfl;rw[zK]at e2 e5 j9|-;dsimp only at*;have gs:(dI (s::ns)).getD 0 []=[.str s]:=rfl;refine lJ @sf.eq_1 (JJ ?_);refine ai args (λj (x:List (List Int))=>⟨[(0,.ptr n 1 0 0),(3,.ref (fJ ⟨kind,s::ns,op,args,init,node,rs,ev,en,on⟩)),(6,.own hp.length x.length 0 x.length),(7,.int .i64 j)],TX.put hp n m v++[⟨.aN,1,x.map dG⟩]⟩) (λj r x=>x++r.map (aG v.env)=args.map (aG v.env)/\x.length<=j) [] trivial CT ⟨rfl,Nat.le_refl _⟩ (λj a r o d hx hd hr=> ?_) (λj o e hr=> ?_)
 ·obtain⟨r1,r2⟩:=hr;rw[List.map_cons]at r1;have ga:=af eD hx;obtain⟨s1,i1⟩:=a;have e1:=λt=>cP (t:=t) (v:=v) k s1 i1;refine aq (A6 d ga e1 @rO @lh @GF) (JJ ?_);exact⟨o++[aG v.env (s1,i1)],CT,by simpa using r1,by simp;omega⟩
 ·obtain⟨r1,r2⟩:=hr;rw[List.map_nil,List.append_nil]at r1;subst r1;have ht:(List.map dG (args.map (aG v.env))).take args.length=(args.map (aG v.env)).map dG:=List.take_of_length_le (by simp);by_cases cr:rs=true
  ·subst cr;obtain⟨h31,h32⟩:=h3 rfl;obtain⟨g0,gl⟩:=Xf h31;have e1:=λt=>cP (t:=t) (v:=v) k ev en;generalize aP v.env (ev,en)=I at*;by_cases ci:I=0
   ·subst ci;rw[if_neg (by simp)]at j9;subst j9;by_cases c:R.2.2=0
    ·have e5:=e5 c;rw[if_pos c,if_pos c];refine lJ (A9 @aj @aV e @rO @lh @qO k gs (A7 g0 e1 e2 e4 ht c e5)) (JJ ?_);all_goals first|exact⟨_,_,rfl,rfl⟩|(have hth:=Dk (v:=v) (t:=[(⟨.sY,1,(args.map (aG v.env)).map dG⟩:ak)]) k (iD v.th s R.2.1);simp only[rX]at hth;exact⟨_,_,hth,rfl⟩)
    ·rw[if_neg c,if_neg c];refine lJ (A9 @aj @aV e @rO @lh @qO k gs (A5 g0 e1 e2 e4 ht)) (JJ (λhn=> ?_));all_goals first|exact absurd (by assumption) c|exact⟨_,_,rfl,rfl⟩
   ·rw[if_pos (by simpa using ci)]at j9;subst j9;by_cases c:R.2.2=0
    ·have e5:=e5 c;rw[if_pos c,if_pos c];refine lJ (A9 @aj @aV e @rO @lh @qO k gs (A8 g0 e1 e2 e3 e4 ht c e5)) (JJ (λhn=> ?_));all_goals first|exact absurd (by assumption) ci|exact⟨_,_,rfl,rfl⟩|(have hth:=Dk (v:=v) (t:=[(⟨.sY,1,(args.map (aG v.env)).map dG⟩:ak)]) k (iD v.th s R.2.1);simp only[rX]at hth;exact⟨_,_,hth,rfl⟩)
    ·rw[if_neg c,if_neg c];refine lJ (A9 @aj @aV e @rO @lh @qO k gs (A6 g0 e1 e2 e3 e4 ht)) (JJ (λhn hn=> ?_));all_goals first|exact absurd (by assumption) c|exact absurd (by assumption) ci|exact⟨_,_,rfl,rfl⟩
  ·have cr:rs=false:=by simpa using cr
   subst cr;rw[if_neg (by simp)]at j9;subst j9;by_cases c:R.2.2=0
   ·have e5:=e5 c;rw[if_pos c,if_pos c];refine lJ (A9 @aj e @rO @lh @qO k gs e2 (A4 e4 ht c e5)) (JJ ?_);all_goals first|exact⟨_,_,rfl,rfl⟩|(have hth:=Dk (v:=v) (t:=[(⟨.sY,1,(args.map (aG v.env)).map dG⟩:ak)]) k (iD v.th s R.2.1);simp only[rX]at hth;exact⟨_,_,hth,rfl⟩)
   ·rw[if_neg c,if_neg c];refine lJ (A9 @aj e @rO @lh @qO k gs e2 (A2 e4 ht)) (JJ (λhn=> ?_));all_goals first|exact absurd (by assumption) c|exact⟨_,_,rfl,rfl⟩
theorem Ur{hp t:List ak}{n m:Nat}{v:gR}(k:fw hp n m)(q:Pl):N5 [.ptr n 1 0 0,.agg (fJ q)] (TX.put hp n m v++t)=⟨Co v/\q.kind=6/\aU (ad v.l v.at_) v.env q,.sl (cX (aG v.env (bg q ((gZ (ad v.l v.at_) v.env q).toNat+1)))),TX.put hp n m v++t⟩:=eM fK qE _ k q
theorem abl{hp t}{n m}{v:gR}(k:fw hp n m)(q:Pl):abk [.ptr n 1 0 0,.agg (fJ q)] (TX.put hp n m v++t)=⟨(q.kind=8\/q.kind=9\/q.kind=10)/\aU (ad v.l v.at_) v.env q,.cy [iZ (ad v.l v.at_) v.m v.env q,.int .i64 (aM (ad v.l v.at_) v.m v.env q).2],TX.put hp n m v++t⟩:=eM fK qE _ k q
def xi(N:Nat)(v:gR)(q:Pl):DV:=if q.kind=7 then GA N v q else .sl [[.sl (cX (aM (ad v.l v.at_) v.m v.env q).1)]]
def Ar(N:Nat)(v:gR)(q:Pl):Int:=if q.kind=7 then(dD N v q).2.2 else(aM (ad v.l v.at_) v.m v.env q).2
def xj(N:Nat)(v:gR)(q:Pl):gR:=if q.kind=7 then vb N v q else v
def Us(N:Nat):=mE TX (λq:Pl=>[.agg (fJ q)]) λv q=>((W9 v.l/\Dj v.l)/\Co v/\(1<=q.kind/\q.kind<=10)/\xh N v q,.cy [xi N v q,.int .i64 (Ar N v q)],xj N v q)
theorem abm(N){hp t}{n m}{v:gR}(k:fw hp n m)(q:Pl):Us N [.ptr n 1 0 0,.agg (fJ q)] (TX.put hp n m v++t)=⟨(W9 v.l/\Dj v.l)/\Co v/\(1<=q.kind/\q.kind<=10)/\xh N v q,.cy [xi N v q,.int .i64 (Ar N v q)],TX.put hp n m (xj N v q)++t⟩:=eM fK qE _ k q
theorem anB{N:Nat}(hS:aF Tryz.prog 28 (sF N)):g9 Tryz.prog 51 (Us N):=by
 refine g9.Xg (ps:=[(79,ai4),(80,Xi),(81,N9)]) (hs:=[(53,wB),(82,N5),(83,N7 N),(84,abk)]) fK ⟨afN,abn,vd,trivial⟩ ⟨Gy,afL,afM hS,anA,trivial⟩ D4 (λ_=>rfl) (λv q k=>by
  dsimp only;unfold xi GA;split
  ·split<;>rfl
  ·rfl) λn m hp v q k h=> ?_
 obtain⟨hI,hV,⟨hk1,si⟩,hD⟩:=h;have hD':=hD;obtain⟨hnm,Ut,hM,hT,h⟩:=hD;by_cases k7:q.kind=7
 ·have cR:=λt=>Uq N (t:=t) (v:=v) k q;rw[eq_true (⟨hI,k7,hD'⟩:(W9 v.l/\Dj v.l)/\q.kind=7/\xh N v q)]at cR;dsimp only;rw[show xi N v q=GA N v q by rw[xi,if_pos k7],show Ar N v q=(dD N v q).2.2 by rw[Ar,if_pos k7],show xj N v q=vb N v q by rw[xj,if_pos k7]];generalize GA N v q=D at*;generalize dD N v q=R at*;generalize vb N v q=V at*;obtain⟨kind,names,op,args,init,node,rs,ev,en,on⟩:=q;simp only[fJ]at cR;dsimp only at k7;subst k7;refine lJ (A2 @bP.eq_1 cR) (JJ ?_);all_goals exact⟨_,_,rfl,rfl⟩
 ·rw[if_neg k7]at h;have h:=h.2;dsimp only;rw[show xi N v q= .sl [[.sl (cX (aM (ad v.l v.at_) v.m v.env q).1)]] by rw[xi,if_neg k7],show Ar N v q=(aM (ad v.l v.at_) v.m v.env q).2 by rw[Ar,if_neg k7],show xj N v q=v by rw[xj,if_neg k7]];clear hD';have mR:=λt=>Ur (t:=t) (v:=v) k q;have aR:=λt=>abl (t:=t) (v:=v) k q;obtain⟨kind,names,op,args,init,node,rs,ev,en,on⟩:=q;simp only[fJ]at mR aR;rw[eq_true hV]at mR;dsimp only at hk1 si k7 h hnm Ut hM hT;by_cases k1:kind=1
  ·subst k1;have h:0<args.length:=h;match args,h with
   |a::r,_=>
   obtain⟨s0,i0⟩:=a;have e1:=λt=>cP (t:=t) (v:=v) k s0 i0;have kB:aM (ad v.l v.at_) v.m v.env ⟨1,names,op,(s0,i0)::r,init,node,rs,ev,en,on⟩=(aG v.env (s0,i0),0):=rfl;rw[kB];refine lJ (A2 @bP.eq_1 e1) (JJ ?_);all_goals exact⟨_,_,rfl,rfl⟩
  by_cases k2:kind=2
  ·subst k2;simp[aU]at h;obtain⟨ha,bw⟩:=h;match args,ha with
   |[a],_=>
   obtain⟨s0,i0⟩:=a;simp only[bg,List.getD_cons_zero]at bw;have e1:=λt=>cP (t:=t) (v:=v) k s0 i0;obtain⟨g0,gl⟩:=Xf bw;have kB:aM (ad v.l v.at_) v.m v.env ⟨2,names,op,[(s0,i0)],init,node,rs,ev,en,on⟩=([(Sq op (aP v.env (s0,i0))).1],(Sq op (aP v.env (s0,i0))).2):=rfl;rw[kB];have e2:=ad5 op (aP v.env (s0,i0));simp only[fUn]at e2;generalize Sq op (aP v.env (s0,i0))=R at*;refine lJ (A6 @bP.eq_1 @aV e1 e2 g0 @BM) (JJ ?_);all_goals exact⟨_,_,rfl,rfl⟩
  by_cases k3:kind=3
  ·subst k3;simp[aU]at h;obtain⟨ha,bw,Jq,w5,ai5⟩:=h;match args,ha with
   |[a,b],_=>
   obtain⟨s0,i0⟩:=a;obtain⟨s1,i1⟩:=b;simp only[bg,List.getD_cons_zero,List.getD_cons_succ]at bw Jq w5 ai5;have e1:=λt=>cP (t:=t) (v:=v) k s0 i0;have e3:=λt=>cP (t:=t) (v:=v) k s1 i1;obtain⟨g0,gl⟩:=Xf bw;obtain⟨g1,gl1⟩:=Xf Jq;have kB:aM (ad v.l v.at_) v.m v.env ⟨3,names,op,[(s0,i0),(s1,i1)],init,node,rs,ev,en,on⟩=([(As op (aP v.env (s0,i0)) (aP v.env (s1,i1))).1],(As op (aP v.env (s0,i0)) (aP v.env (s1,i1))).2):=rfl;rw[kB];have e2:=Xj op (aP v.env (s0,i0)) (aP v.env (s1,i1));simp only[abo]at e2;rw[eq_true (⟨w5,ai5⟩:gD (aP v.env (s0,i0))/\gD (aP v.env (s1,i1)))]at e2;generalize As op (aP v.env (s0,i0)) (aP v.env (s1,i1))=R at*;refine lJ (A8 @bP.eq_1 @aV e1 e2 e3 g0 g1 @BM) (JJ ?_);all_goals exact⟨_,_,rfl,rfl⟩
  by_cases k4:kind=4
  ·subst k4;simp[aU]at h;obtain⟨ha,bw⟩:=h;match args,ha with
   |[a,b,c],_=>
   obtain⟨s0,i0⟩:=a;obtain⟨s1,i1⟩:=b;obtain⟨s2,i2⟩:=c;simp only[bg,List.getD_cons_zero]at bw;have e0:=λt=>cP (t:=t) (v:=v) k s0 i0;have e1:=λt=>cP (t:=t) (v:=v) k s1 i1;have e2:=λt=>cP (t:=t) (v:=v) k s2 i2;obtain⟨g0,gl⟩:=Xf bw;have kB:aM (ad v.l v.at_) v.m v.env ⟨4,names,op,[(s0,i0),(s1,i1),(s2,i2)],init,node,rs,ev,en,on⟩=(if aP v.env (s0,i0)≠0 then aG v.env (s1,i1)else aG v.env (s2,i2),0):=rfl;rw[kB];generalize aP v.env (s0,i0)=I at*;by_cases c:I=0
   ·subst c;have z0:(0:Int)=0:=rfl;refine lJ (A5 @bP.eq_1 @aV e0 e2 g0) (JJ ?_);all_goals exact⟨_,_,rfl,rfl⟩
   ·refine lJ (A6 @bP.eq_1 @aV e0 e1 g0 c) (JJ (λhn=> ?_));all_goals first|exact absurd (by assumption) c|exact⟨_,_,rfl,rfl⟩
  by_cases k5:kind=5
  ·subst k5;match names,hnm with
   |s::ns,_=>
   have e0:=GG v.m s;rw[eq_true (dV hM).1]at e0;have kB:aM (ad v.l v.at_) v.m v.env ⟨5,s::ns,op,args,init,node,rs,ev,en,on⟩=(zL v.m s,0):=rfl;rw[kB];have gs:(dI (s::ns)).getD 0 []=[.str s]:=rfl;refine lJ (A6 @bP.eq_1 @aj @qO k e0 gs) (JJ ?_);all_goals exact⟨_,_,rfl,rfl⟩
  by_cases k6:kind=6
  ·subst k6;rw[eq_true h]at mR;have kB:aM (ad v.l v.at_) v.m v.env ⟨6,names,op,args,init,node,rs,ev,en,on⟩=(aG v.env (bg ⟨6,names,op,args,init,node,rs,ev,en,on⟩ ((gZ (ad v.l v.at_) v.env ⟨6,names,op,args,init,node,rs,ev,en,on⟩).toNat+1)),0):=rfl;rw[kB];generalize aG v.env (bg ⟨6,names,op,args,init,node,rs,ev,en,on⟩ ((gZ (ad v.l v.at_) v.env ⟨6,names,op,args,init,node,rs,ev,en,on⟩).toNat+1))=V at*;have k66:((6:Int)=6)=True:=eq_true rfl;refine lJ (A2 @bP.eq_1 mR) (JJ ?_);all_goals exact⟨_,_,rfl,rfl⟩
  have k8:kind=8\/kind=9\/kind=10:=by omega
  rw[eq_true h]at aR;have hsn:=Sr (f:=ad v.l v.at_) (m:=v.m) (env:=v.env) (q:=⟨kind,names,op,args,init,node,rs,ev,en,on⟩) k7;generalize iZ (ad v.l v.at_) v.m v.env ⟨kind,names,op,args,init,node,rs,ev,en,on⟩=V at*;generalize aM (ad v.l v.at_) v.m v.env ⟨kind,names,op,args,init,node,rs,ev,en,on⟩=W at*;rw[eq_true k8]at aR;have hVV:(V= .nil/\(DV.sl (cX W.1))= .sl [])\/V= .sl (cX W.1):=by
   unfold slD at hsn;split at hsn
   ·exact .inl ⟨rfl,(Option.some.inj hsn).symm⟩
   ·exact .inr (Option.some.inj hsn)
   ·cases hsn
  rcases hVV with⟨rfl,hW⟩|rfl
  ·rw[hW];refine lJ (A2 @bP.eq_1 aR) (JJ (λhn hn hn hn hn hn hn=> ?_));all_goals first|exact⟨_,_,rfl,rfl⟩|exact absurd (by assumption) k1|exact absurd (by assumption) k2|exact absurd (by assumption) k3|exact absurd (by assumption) k4|exact absurd (by assumption) k5|exact absurd (by assumption) k6|exact absurd (by assumption) k7
  refine lJ (A2 @bP.eq_1 aR) (JJ (λhn hn hn hn hn hn hn=> ?_));all_goals first|exact⟨_,_,rfl,rfl⟩|exact absurd (by assumption) k1|exact absurd (by assumption) k2|exact absurd (by assumption) k3|exact absurd (by assumption) k4|exact absurd (by assumption) k5|exact absurd (by assumption) k6|exact absurd (by assumption) k7
structure at5(N:Nat)(v:gR)(q:Pl)(W:List (List Int))(th:List cW):Prop where
 id:xi N v q= .sl (W.map dG)
 len:W.length=q.names.length
 iv:xj N v q=⟨v.l,v.at_,v.m,th,v.env⟩
 dq:yq v.l (aZ v.l N) (ad v.l v.at_) v.m q ⟨v.env,v.th⟩=(⟨dQ q.names W v.env,th⟩,0)
theorem aq0{N}{v:gR}{q:Pl}(h:xh N v q):(yq v.l (aZ v.l N) (ad v.l v.at_) v.m q ⟨v.env,v.th⟩).2=Ar N v q/\q.names.length<=1000/\
 (Ar N v q=0->∃W th,at5 N v q W th):=by
 obtain⟨h0,hn,hM,hT,h⟩:=h;by_cases k7:q.kind=7
 ·rw[if_pos k7]at h;obtain⟨h1,h2,h3,h4,h5,h6⟩:=h;have hr:dD N v q=aZ v.l N q.node (oM v.l v.m v.env q) (q.args.map (aG v.env)):=rfl;dsimp only at h6;rw[<-hr]at h6;have hE:Ar N v q=(dD N v q).2.2:=by rw[Ar,if_pos k7]
  rw[hE];by_cases c:(dD N v q).2.2=0
  ·have hq:yq v.l (aZ v.l N) (ad v.l v.at_) v.m q ⟨v.env,v.th⟩=(⟨dQ q.names (dD N v q).1 v.env,iD v.th (aD q) (dD N v q).2.1⟩,0):=by unfold yq;rw[if_pos k7];dsimp only;rw[<-hr,if_pos c]
   refine⟨by rw[hq,c],h2,λ_=>⟨(dD N v q).1,iD v.th (aD q) (dD N v q).2.1,?_,(h6 c).1,?_,hq⟩⟩
   ·rw[xi,if_pos k7,GA,if_pos c]
   ·rw[xj,if_pos k7,vb,if_pos c]
  ·have hq:yq v.l (aZ v.l N) (ad v.l v.at_) v.m q ⟨v.env,v.th⟩=(⟨v.env,v.th⟩,(dD N v q).2.2):=by unfold yq;rw[if_pos k7];dsimp only;rw[<-hr,if_neg c]
   exact⟨by rw[hq],h2,λhc=>absurd hc c⟩
 ·rw[if_neg k7]at h;have hq:yq v.l (aZ v.l N) (ad v.l v.at_) v.m q ⟨v.env,v.th⟩=(⟨zM (aD q) (aM (ad v.l v.at_) v.m v.env q).1 v.env,v.th⟩,(aM (ad v.l v.at_) v.m v.env q).2):=by unfold yq;rw[if_neg k7]
  have hE:Ar N v q=(aM (ad v.l v.at_) v.m v.env q).2:=by rw[Ar,if_neg k7]
  refine⟨by rw[hq,hE],by rw[h.1];omega,λhc=>⟨[(aM (ad v.l v.at_) v.m v.env q).1],v.th,?_,by rw[h.1];rfl,by rw[xj,if_neg k7],?_⟩⟩
  ·rw[xi,if_neg k7];rfl
  ·rw[hq,<-hE,hc];have:q.names=[aD q]:=by
    have h1:=h.1;match hn:q.names,h1 with
    |[s],_=>simp[aD,hn]
   rw[this];rfl
theorem aq1:aF Tryz.prog 28 (sF 0):=by refine aF.mk4 (ps:=[]) (hs:=[]) trivial trivial vf λl at_ m ins h=> ?_;exact absurd h.2 id
theorem aq2{N}(hS:aF Tryz.prog 28 (sF N)):aF Tryz.prog 28 (sF (N+1)):=by
 refine aF.mk4 (ps:=[(52,Xk)]) (hs:=[(50,GH),(51,Us N),(53,wB)]) ⟨GI,trivial⟩ ⟨afO,anB hS,Gy,trivial⟩ vf λl at_ m ins h=> ?_;obtain⟨hI,ha0,ha1,hlen,Xe,hl2,hl3,hR,hK⟩:=h;have NW:aZ l (N+1) at_ m ins=if(fU l (aZ l N) (ad l at_) m (ad l at_).eqs (rQ (ad l at_) m ins)).2=0 then
  ((ad l at_).outs.map λd=>lP (fU l (aZ l N) (ad l at_) m (ad l at_).eqs (rQ (ad l at_) m ins)).1.env d.name,
    kQ (fU l (aZ l N) (ad l at_) m (ad l at_).eqs (rQ (ad l at_) m ins)).1.env (ad l at_).eqs (fU l (aZ l N) (ad l at_) m (ad l at_).eqs (rQ (ad l at_) m ins)).1.th,0)
  else([],m,(fU l (aZ l N) (ad l at_) m (ad l at_).eqs (rQ (ad l at_) m ins)).2):=rfl
 dsimp only;rw[NW];clear NW;have hV1:∀th env,Co ⟨l,at_,m,th,env⟩:=λ_ _=>⟨hI.1.2,ha0,ha1⟩;obtain⟨fg,fm,fl⟩:=tE (hV1 [] []);dsimp only at fg fm fl;have aua:=hI.2 _ fm;have oR:∀(q:Pl) (s:Ss) (a:ak) (t:List ak),q∈(ad l at_).eqs->RB l (aZ l N) (jX l N) (ad l at_) m q s->Us N [.ptr 2 1 0 0,.agg (fJ q)] (a::⟨.mp (s.env.map lQ),0,[]⟩::⟨.loc,6,[rX 1 (zN l at_ m s)]⟩::t)=
  ⟨True,.cy [xi N (zN l at_ m s) q,.int .i64 (Ar N (zN l at_ m s) q)],a::⟨.mp ((xj N (zN l at_ m s) q).env.map lQ),0,[]⟩::⟨.loc,6,[rX 1 (xj N (zN l at_ m s) q)]⟩::t⟩:=λq s a t hq hd=>by
  have:=abm N (t:=t) (v:=zN l at_ m s) (Jr a ⟨.dead,0,[]⟩ ⟨.dead,0,[]⟩) q;rw[eq_true (show(W9 l/\Dj l)/\Co (zN l at_ m s)/\(1<=q.kind/\q.kind<=10)/\xh N (zN l at_ m s) q from⟨hI,hV1 _ _,aua q hq,hd⟩),Uu,Uu]at this;exact this
 have dO:∀(q:Pl) (s:Ss),RB l (aZ l N) (jX l N) (ad l at_) m q s->(yq l (aZ l N) (ad l at_) m q s).2=Ar N (zN l at_ m s) q/\q.names.length<=1000/\
  (Ar N (zN l at_ m s) q=0->∃W th,xi N (zN l at_ m s) q= .sl (W.map dG)/\W.length=q.names.length/\xj N (zN l at_ m s) q=⟨l,at_,m,th,s.env⟩/\yq l (aZ l N) (ad l at_) m q s=(⟨dQ q.names W s.env,th⟩,0)):=λq s hd=>by
  obtain⟨h1,h2,h3⟩:=aq0 (v:=zN l at_ m s) hd;refine⟨h1,h2,λhc=> ?_⟩;obtain⟨W,th,w⟩:=h3 hc;exact⟨W,th,w.id,w.len,w.iv,w.dq⟩
 have hR2:∀(on:List dY) (s:Ss) (a:ak) (t:List ak),on.length<=1000->GH [.ptr 2 1 0 0,.sl (on.map eD)] (a::⟨.mp (s.env.map lQ),0,[]⟩::⟨.loc,6,[rX 1 (zN l at_ m s)]⟩::t)=
  ⟨True,.bool (bK s.env on),a::⟨.mp (s.env.map lQ),0,[]⟩::⟨.loc,6,[rX 1 (zN l at_ m s)]⟩::t⟩:=λon s a t ho=>by
  have:=Uv (t:=t) (v:=zN l at_ m s) (Jr a ⟨.dead,0,[]⟩ ⟨.dead,0,[]⟩) on;rw[eq_true ho,Uu]at this;exact this
 have vR:∀(s1:List UInt8) (i1:Int) (s:Ss) (a:ak) (t:List ak),wB [.ptr 2 1 0 0,.agg [.str s1,.int .i64 i1]] (a::⟨.mp (s.env.map lQ),0,[]⟩::⟨.loc,6,[rX 1 (zN l at_ m s)]⟩::t)=
  ⟨True,.sl (cX (aG s.env (s1,i1))),a::⟨.mp (s.env.map lQ),0,[]⟩::⟨.loc,6,[rX 1 (zN l at_ m s)]⟩::t⟩:=λs1 i1 s a t=>by
  have:=cP (t:=t) (v:=zN l at_ m s) (Jr a ⟨.dead,0,[]⟩ ⟨.dead,0,[]⟩) s1 i1;rw[Uu]at this;exact this
 generalize ad l at_=f at*;obtain⟨dr,eV,cB,fvars,cU⟩:=f;have hs0:rQ ⟨dr,eV,cB,fvars,cU⟩ m ins=⟨dQ (eV.map (·.name)) ins [],m⟩:=rfl;rw[hs0]at hR hK|-;dsimp only at hlen Xe hl2 hl3 hR hK|-;refine aq (A7 @vg.eq_1 @cT.eq_1 @jz.eq_1 @iY.eq_1 ha0 ha1 fg) (JJ ?_);refine ai eV (λj (e:kc)=>⟨[(2,.sl (m.map aT)),(3,.sl (ins.map dG)),(11,.ptr 0 1 0 0),(12,.ptr 2 1 0 0),(13,.int .i64 j)],[⟨.loc,5,[[.str dr,.sl (eV.map dZ),.sl (cB.map dZ),.sl (fvars.map dZ),.sl (cU.map fJ)]]⟩,⟨.mp (e.map lQ),0,[]⟩,⟨.loc,6,[[.sl (l.enums.map jQ),.sl (l.fs.map j0),.int .i64 at_,.sl (m.map aT),.sl (m.map aT),.mp 1]]⟩]⟩)
  (λj r e=>dQ (r.map (·.name)) (ins.drop j) e=dQ (eV.map (·.name)) ins []) [] (by decide) CT rfl (λj x r e d hx hd hr=> ?_) (λj e ej hr=> ?_)
 ·have hj:j<ins.length:=by omega
  obtain⟨y,hyI,hyd⟩:=dP ins (k:=j) (by omega);rw[hyd,List.map_cons]at hr;have gx:=af dZ hx;have gy:=af dG hyI;obtain⟨vn,vk,ve,vl,von⟩:=x;refine aq (A6 d gx gy hj @Option.bind_some.{0,0} @xl) (JJ ?_);exact⟨zM vn y e,CT,hr⟩
 ·have hr:e=dQ (eV.map (·.name)) ins []:=hr;rw[<-hr]at hR hK|-;clear hr;refine aq @ej (JJ ?_);refine ai cU (λj (s:Ss)=>⟨[(2,.sl (m.map aT)),(11,.ptr 0 1 0 0),(12,.ptr 2 1 0 0),(14,.int .i64 j)],[⟨.loc,5,[[.str dr,.sl (eV.map dZ),.sl (cB.map dZ),.sl (fvars.map dZ),.sl (cU.map fJ)]]⟩,⟨.mp (s.env.map lQ),0,[]⟩,⟨.loc,6,[[.sl (l.enums.map jQ),.sl (l.fs.map j0),.int .i64 at_,.sl (m.map aT),.sl (s.th.map aT),.mp 1]]⟩]⟩)
   (λj r s=>Oa l (aZ l N) (jX l N) ⟨dr,eV,cB,fvars,cU⟩ m r s/\fU l (aZ l N) ⟨dr,eV,cB,fvars,cU⟩ m r s=fU l (aZ l N) ⟨dr,eV,cB,fvars,cU⟩ m cU ⟨e,m⟩) ⟨e,m⟩ (by decide) CT ⟨hR,rfl⟩ (λj q r s d hx hd hr=> ?_) (λj s ej2 hr=> ?_)
  ·obtain⟨⟨r1,r2⟩,r3⟩:=hr;rw[aub]at r3;have gq:=af fJ hx;have hqm:=List.mem_of_getElem? hx;have h2:=λt=>hR2 q.on s ⟨.loc,5,[[.str dr,.sl (eV.map dZ),.sl (cB.map dZ),.sl (fvars.map dZ),.sl (cU.map fJ)]]⟩ t r1;by_cases c:bK s.env q.on=true
   ·rw[if_pos c]at r2 r3;obtain⟨r21,r22⟩:=r2;have h3:=λt=>oR q s ⟨.loc,5,[[.str dr,.sl (eV.map dZ),.sl (cB.map dZ),.sl (fvars.map dZ),.sl (cU.map fJ)]]⟩ t hqm r21;obtain⟨h5,h6,h7⟩:=dO q s r21;rw[c]at h2;by_cases c2:Ar N (zN l at_ m s) q=0
    ·obtain⟨W,th,w1,w2,w3,w4⟩:=h7 c2;rw[w1,w3,c2]at h3;rw[w4]at r22 r3;rw[if_pos rfl]at r3;dsimp only at r22;have r22:=r22 rfl;clear h5 h7 w1 w3 w4 c2;obtain⟨kind,names,op,args,init,node,rs,ev,en,on⟩:=q;dsimp only at w2 r22 r3 h6;simp only[fJ,rX]at h2 h3;refine aq (A4 d gq h2 h3) (JJ ?_);refine ai names (λi (e2:kc)=>⟨[(2,.sl (m.map aT)),(11,.ptr 0 1 0 0),(12,.ptr 2 1 0 0),(14,.int .i64 j),(15,.ptr 3 1 0 0),(16,.sl (W.map dG)),(18,.int .i64 i)],[⟨.loc,5,[[.str dr,.sl (eV.map dZ),.sl (cB.map dZ),.sl (fvars.map dZ),.sl (cU.map fJ)]]⟩,⟨.mp (e2.map lQ),0,[]⟩,⟨.loc,6,[[.sl (l.enums.map jQ),.sl (l.fs.map j0),.int .i64 at_,.sl (m.map aT),.sl (th.map aT),.mp 1]]⟩,⟨.loc,10,[[.int .i64 kind,.sl (dI names),.int .i64 op,.sl (args.map eD),.sl (cX init),.int .i64 node,.bool rs,.str ev,.int .i64 en,.sl (on.map eD)]]⟩]⟩)
      (λi r2 e2=>dQ r2 (W.drop i) e2=dQ names W s.env) s.env (by decide) CT rfl (λi sn r2 e2 di hxi hdi hri=> ?_) (λi e2 ei hri=> ?_)
     ·have hi:i<W.length:=by omega
      obtain⟨y,hyW,hyd⟩:=dP W (k:=i) (by omega);rw[hyd]at hri;have gs:=fk hxi;have gy:=af dG hyW;refine aq (A7 @aj di gs gy hi @Option.bind_some.{0,0} @xl) (JJ ?_);exact⟨zM sn y e2,CT,hri⟩
     ·have:W.drop i=[]:=List.drop_of_length_le (by omega);rw[this]at hri;have hri:e2=dQ names W s.env:=hri;subst hri;refine aq (A2 @aj ei) (JJ ?_);all_goals exact⟨⟨dQ names W s.env,th⟩,CT,r22,r3⟩
    ·rw[h5,if_neg c2]at r3;rw[<-r3];try dsimp only
     rw[h5];clear h7 r22;generalize xi N (zN l at_ m s) q=D at*;generalize Ar N (zN l at_ m s) q=E at*;generalize xj N (zN l at_ m s) q=V at*;obtain⟨kind,names,op,args,init,node,rs,ev,en,on⟩:=q;simp only[fJ,rX]at h2 h3;exact aq (A5 d gq h2 h3 c2) zz;all_goals exact absurd (by assumption) c2
   ·rw[if_neg c]at r2 r3;rw[show bK s.env q.on=false by simpa using c]at h2;obtain⟨kind,names,op,args,init,node,rs,ev,en,on⟩:=q;simp only[rX]at h2;refine aq (A3 d gq h2) (JJ ?_);all_goals exact⟨s,CT,r2,r3⟩
  ·obtain⟨_,hr⟩:=hr;have hr:(s,(0:Int))=fU l (aZ l N) ⟨dr,eV,cB,fvars,cU⟩ m cU ⟨e,m⟩:=hr;rw[<-hr]at hK|-;obtain⟨hK1,hK2⟩:=hK rfl;dsimp only at hK1 hK2|-;rw[if_pos rfl];obtain⟨env,th⟩:=s;dsimp only at hK1 hK2|-;clear hr;refine aq @ej2 (JJ ?_);refine ai cU (λj (x:List cW)=>⟨[(11,.ptr 0 1 0 0),(12,.ptr 2 1 0 0),(19,.int .i64 j)],[⟨.loc,5,[[.str dr,.sl (eV.map dZ),.sl (cB.map dZ),.sl (fvars.map dZ),.sl (cU.map fJ)]]⟩,⟨.mp (env.map lQ),0,[]⟩,⟨.loc,6,[[.sl (l.enums.map jQ),.sl (l.fs.map j0),.int .i64 at_,.sl (m.map aT),.sl (x.map aT),.mp 1]]⟩]⟩)
    (λj r x=>wC env r x/\kQ env r x=kQ env cU th) th (by decide) CT ⟨hK1,rfl⟩ (λj q r x d hx hd hr=> ?_) (λj x ej3 hr=> ?_)
   ·obtain⟨⟨r1,r2,r3⟩,r4⟩:=hr;rw[kQ]at r4;have gq:=af fJ hx;have h2:=λt=>hR2 q.on ⟨env,x⟩ ⟨.loc,5,[[.str dr,.sl (eV.map dZ),.sl (cB.map dZ),.sl (fvars.map dZ),.sl (cU.map fJ)]]⟩ t r1;obtain⟨kind,names,op,args,init,node,rs,ev,en,on⟩:=q;simp only[rX]at h2;dsimp only at r1 r2 r3 r4;generalize hh:bK env on=H at*;by_cases c:kind=5
    ·subst c;cases H
     ·rw[if_neg (by simp)]at r3 r4;refine aq (A3 d gq h2) (JJ ?_);all_goals exact⟨x,CT,r3,r4⟩
     ·rw[if_pos ⟨rfl,rfl⟩]at r3 r4;obtain⟨p1,p2,p3,p4⟩:=r2 ⟨rfl,rfl⟩;match names,p1 with
      |sn::ns,_=>
      match args,p2 with
      |(s1,i1)::as_,_=>
      have zK:aD ⟨5,sn::ns,op,(s1,i1)::as_,init,node,rs,ev,en,on⟩=sn:=rfl;have hq0:bg ⟨5,sn::ns,op,(s1,i1)::as_,init,node,rs,ev,en,on⟩ 0=(s1,i1):=rfl;rw[zK,hq0]at r3 r4;rw[hq0]at p4;have p4:(aG env (s1,i1)).length<=1000:=p4;have e1:=λt=>vR s1 i1 ⟨env,x⟩ ⟨.loc,5,[[.str dr,.sl (eV.map dZ),.sl (cB.map dZ),.sl (fvars.map dZ),.sl (cU.map fJ)]]⟩ t;simp only[rX]at e1;have e2:=Xl x sn (aG env (s1,i1));rw[eq_true (⟨(dV p3).1,by omega⟩:ji x/\(aG env (s1,i1)).length<=1000000)]at e2;generalize aG env (s1,i1)=V at*;have gs:(dI (sn::ns)).getD 0 []=[.str sn]:=rfl;refine aq (A7 @aj d gq h2 gs e1 e2) (JJ ?_);all_goals exact⟨xm x sn V,CT,r3,r4⟩
    ·rw[if_neg (λh=>c h.1)]at r3 r4;refine aq (A2 d gq) (JJ (λhn=> ?_));all_goals first|exact absurd (by assumption) c|exact⟨x,CT,r3,r4⟩
   ·obtain⟨_,hr⟩:=hr;have hr:x=kQ env cU th:=hr;subst hr;refine aq @ej3 (JJ ?_);refine ai cB (λj (o:List (List Int))=>⟨[(11,.ptr 0 1 0 0),(12,.ptr 2 1 0 0),(21,.own 3 o.length 0 o.length),(22,.int .i64 j)],[⟨.loc,5,[[.str dr,.sl (eV.map dZ),.sl (cB.map dZ),.sl (fvars.map dZ),.sl (cU.map fJ)]]⟩,⟨.mp (env.map lQ),0,[]⟩,⟨.loc,6,[[.sl (l.enums.map jQ),.sl (l.fs.map j0),.int .i64 at_,.sl (m.map aT),.sl ((kQ env cU th).map aT),.mp 1]]⟩,⟨.aN,1,o.map dG⟩]⟩)
     (λj r o=>o++r.map (λd=>lP env d.name)=cB.map (λd=>lP env d.name)/\o.length<=j) [] (by decide) CT ⟨rfl,Nat.le_refl _⟩ (λj x r o d hx hd hr=> ?_) (λj o ej4 hr=> ?_)
    ·obtain⟨r1,r2⟩:=hr;rw[List.map_cons]at r1;have gx:=af dZ hx;obtain⟨vn,vk,ve,vl,von⟩:=x;dsimp only at r1;refine aq (A5 d gx @Option.bind_some.{0,0} @pb @GF) (JJ ?_);exact⟨o++[lP env vn],CT,by simpa using r1,by simp;omega⟩
    ·obtain⟨r1,r2⟩:=hr;rw[List.map_nil,List.append_nil]at r1;rw[<-r1];exact aq (A2 ej4 @Xm) zz
theorem aiW(N):aF Tryz.prog 28 (sF N):=by
 induction N with
 |zero=>exact aq1
 |succ N ih=>exact aq2 ih
end
end Go.Proofs.YtcokmopocppmiaaGreat
