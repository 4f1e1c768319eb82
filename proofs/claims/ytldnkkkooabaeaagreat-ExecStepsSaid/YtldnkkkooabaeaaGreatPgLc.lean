/- The reference's instants: NqMerge, arrays (24). -/
import Derived.Test.YtldnkkkooabaeaaGreatPgKh
set_option maxHeartbeats 8000000
set_option linter.all false
set_option maxRecDepth 20000
namespace Go.Proofs.YtldnkkkooabaeaaGreat
noncomputable section
open Go.Nk
def hd(a i:Ba):Bool:=decide (0<=i.getD 0 0/\i.getD 0 0<a.length)
def X8:Ab->Prop×J:=cH mH mH λa i=>(i≠[],.b9 [.int .i64 (if hd a i then i.getD 0 0 else 0),.bool (hd a i)])
def aCx(a)(i:Ba):=show X8 [.sl (cC a),.sl (cC i)]=_ from aY nN nN _ a i
theorem aJK:aJ Tryz.prog 146 X8:=by
 refine aJ.se (ps:=[]) (I:=[]) trivial trivial aGO λa i h=>?_;try dsimp only at h
 match i,h with
 |x::r,_=>
 have g0:(cC (x::r)).getD 0 []=[.int .i64 x]:=rfl;have B:hd a (x::r)=decide (0<=x/\x<a.length):=rfl;by_cases c1:x<0
 .rw[B,show decide (0<=x/\x<a.length)=false by simp;omega];exact ao (fF @lz.eq_1 @mH.eq_1 @aU g0 c1) zz
 .by_cases c2:(a.length:Int)<=x
  .rw[B,show decide (0<=x/\x<a.length)=false by simp;omega];exact ao (jg @lz.eq_1 @mH.eq_1 @aU g0 c1 c2) zz
  .rw[B,show decide (0<=x/\x<a.length)=true by simp;omega];exact ao (jg @lz.eq_1 @mH.eq_1 @aU g0 c1 c2) zz
theorem RU{env}{s}{i}(h:¬aE env (s,i)=[]):(cC (aE env (s,i))).getD 0 []=[.int .i64 (aZ env (s,i))]/\0<(aE env (s,i)).length:=by
 refine⟨?_,OT.2 h⟩;cases hv:aE env (s,i)with
 |nil=>exact absurd hv h
 |cons x r=>simp[cC,aZ,hv]
def Rp:=Cc TX (λq:Pl=>[.agg (iK q)]) λv q=>(U1 v/\q.kind=6/\aW (ad v.l v.at_) v.env q,.sl (cC (aE v.env (br q ((iG (ad v.l v.at_) v.env q).toNat+1)))),v)
theorem aj4:ez Tryz.prog 114 Rp:=by
 refine ez.Vp (ps:=[(128,Tw)]) (I:=[(88,x9)]) A4 ⟨aCt,BB⟩ ⟨I1,BB⟩ aGh (λ_=>rfl) (λ_ _ _=>rfl) λn m B v q k h=>?_;obtain⟨kind,names,op,args,init,node,rs,ev,en,on⟩:=q;obtain⟨hv,hk,h⟩:=h;dsimp only at hk h hv|-;subst hk;simp[aW]at h;obtain⟨bP,ha,AZ,BG⟩:=h;obtain⟨fg,fm,fl⟩:=Rk hv;have hw:=hv.1 _ fm;have FG:=hv.2;generalize ad v.l v.at_=f at*;match args with
 |[]=>simp at BG;omega
 |a0::r=>
 obtain⟨s0,i0⟩:=a0;have e3:=PU f s0;rw[lU hw]at e3;simp only[br,OF,Ca,iG,uB]at bP AZ BG|-;obtain⟨g0,gl⟩:=RU bP;have Y:=λt=>dB (t:=t) (v:=v) k s0 i0;generalize (fO f s0).getD K8=w at*;generalize (fO f s0).isSome=wb at*;generalize aZ v.env (s0,i0)=Bo at*;obtain⟨wn,wk,we,wl,z_⟩:=w;dsimp only at AZ BG|-;simp only[IS]at ha BG;by_cases c:wk=2
 .subst c;have cb:((2:Int)==2)=true:=rfl;rw[cb,gr rfl]at AZ BG|-;generalize hJ:IntKind.i64.wrap (1-Bo)=Bf at*;obtain⟨i,rfl⟩:=Cy AZ;have hi:i<r.length:=by omega
  obtain⟨⟨s,j⟩,U⟩:∃x,r[i]? =some x:=⟨r[i],tx hi⟩;have gx:=ag eD (show((s0,i0)::r)[i+1]? =some (s,j) by simpa using U);have gy:r.getD (i:Int).toNat ([],0)=(s,j):=by simp[List.getD,U]
  rw[gy];have hw:IntKind.i64.wrap ((i:Int)+1)=((i+1:Nat):Int):=by rw[df (by omega)];omega
  have e0:∀t,x9 [.ptr n 1 0 0,.agg [.str s,.int .i64 j]] (TX.put B n m v++t)=⟨True,.sl (cC (aE v.env (s,j))),TX.put B n m v++t⟩:=λt=>dB k s j;have A':([.str s0,.int .i64 i0]::r.map eD).getD (i+1) []=[.str s,.int .i64 j]:=gx;refine tQ (ey @m7.eq_1 @aU @I2 k FG fg e3 Y (rO g0 @OZ @A5 hJ hw A' e0)) (JJ ?_);all_goals exact⟨_,_,rfl,rfl⟩
 .have cb:(wk==2)=false:=by simpa using c
  rw[cb,ba (by decide)]at AZ BG|-;obtain⟨i,rfl⟩:=Cy AZ;have hi:i<r.length:=by omega
  obtain⟨⟨s,j⟩,U⟩:∃x,r[i]? =some x:=⟨r[i],tx hi⟩;have gx:=ag eD (show((s0,i0)::r)[i+1]? =some (s,j) by simpa using U);have gy:r.getD (i:Int).toNat ([],0)=(s,j):=by simp[List.getD,U]
  rw[gy];have hw:IntKind.i64.wrap ((i:Int)+1)=((i+1:Nat):Int):=by rw[df (by omega)];omega
  have e0:∀t,x9 [.ptr n 1 0 0,.agg [.str s,.int .i64 j]] (TX.put B n m v++t)=⟨True,.sl (cC (aE v.env (s,j))),TX.put B n m v++t⟩:=λt=>dB k s j;have A':([.str s0,.int .i64 i0]::r.map eD).getD (i+1) []=[.str s,.int .i64 j]:=gx;refine tQ (ey @m7.eq_1 @aU @I2 k FG fg e3 Y (jg g0 @OZ @A5 hw A' e0)) (JJ (λhn=>?_));all_goals first|exact absurd (by assumption) c|exact⟨_,_,rfl,rfl⟩
theorem aCy{f}{m}{env}{q:Pl}(h:q.kind=9\/q.kind=10):lR f m env q=if 0<=aZ env (br q 1)/\aZ env (br q 1)<(aE env (br q 0)).length then .sl (cC (aN f m env q).1)else .nil:=by
 unfold lR;by_cases c:0<=aZ env (br q 1)/\aZ env (br q 1)<(aE env (br q 0)).length
 .rw[gr c,ba (λhh=>hh.2 c)]
 .rw[ba c,gr ⟨h,c⟩]
def C':=Cc TX (λq:Pl=>[.agg (iK q)]) λv q=>((q.kind=8\/q.kind=9\/q.kind=10)/\aW (ad v.l v.at_) v.env q,.b9 [lR (ad v.l v.at_) v.m v.env q,.int .i64 (aN (ad v.l v.at_) v.m v.env q).2],v)
theorem asD:ez Tryz.prog 116 C':=by
 refine ez.Vp (ps:=[(146,X8)]) (I:=[(88,x9)]) A4 ⟨aJK,BB⟩ ⟨I1,BB⟩ aGl (λ_=>rfl) (λv q k=>by dsimp only;unfold lR;split<;>rfl) λn m B v q k h=>?_;obtain⟨kind,names,op,args,init,node,rs,ev,en,on⟩:=q;obtain⟨hk,h⟩:=h;dsimp only at hk h|-;rcases hk with rfl|rfl|rfl
 .simp[aW]at h;obtain⟨h1,h2⟩:=h;have mU:aN (ad v.l v.at_) v.m v.env ⟨8,names,op,args,init,node,rs,ev,en,on⟩=(args.map (aZ v.env),0):=rfl;have D6:lR (ad v.l v.at_) v.m v.env ⟨8,names,op,args,init,node,rs,ev,en,on⟩= .sl (cC (args.map (aZ v.env))):=rfl;rw[D6,mU];refine tQ @fC.eq_1 (JJ ?_);refine aj args (λj (x:Ba)=>⟨[(0,.ptr n 1 0 0),(3,.ref (iK ⟨8,names,op,args,init,node,rs,ev,en,on⟩)),(6,.own B.length x.length 0 x.length),(7,.int .i64 j)],TX.put B n m v++[⟨.aV,1,cC x⟩]⟩) (λj r x=>x++r.map (aZ v.env)=args.map (aZ v.env)/\x.length<=j) [] trivial (CF @ahG) ⟨rfl,By _⟩ (λj a r o d U Z E=>?_) (λj o e E=>?_)
  .obtain⟨r1,r2⟩:=E;rw[p0]at r1;have ga:=ag eD U;have ha:=h2 a.1 a.2 (ed U);obtain⟨s,i⟩:=a;obtain⟨g0,gl⟩:=RU ha;have Y:=λt=>dB (t:=t) (v:=v) k s i;refine ao (tM @aU d ga Y g0 @OZ @A5 @aaH) (JJ ?_);exact⟨o++[aZ v.env (s,i)],CT,by simpa using r1,by simp;omega⟩
  .obtain⟨r1,r2⟩:=E;rw[DD,xz]at r1;rw[<-r1];refine tQ (fF @aU @PT e @OZ @A5) (JJ ?_);all_goals exact⟨_,_,rfl,rfl⟩
 .simp[aW]at h;obtain⟨ha,hv,bP⟩:=h;match args,ha with
  |[a,b],_=>
  obtain⟨s1,i1⟩:=a;obtain⟨s2,i2⟩:=b;simp only[br,OF,Ca]at hv bP;have mU:aN (ad v.l v.at_) v.m v.env ⟨9,names,op,[(s1,i1),(s2,i2)],init,node,rs,ev,en,on⟩=(if 0<=aZ v.env (s2,i2)/\aZ v.env (s2,i2)<(aE v.env (s1,i1)).length then([(aE v.env (s1,i1)).getD (aZ v.env (s2,i2)).toNat 0],0)else([],16)):=rfl;have D6:lR (ad v.l v.at_) v.m v.env ⟨9,names,op,[(s1,i1),(s2,i2)],init,node,rs,ev,en,on⟩=(if 0<=aZ v.env (s2,i2)/\aZ v.env (s2,i2)<(aE v.env (s1,i1)).length then .sl (cC [(aE v.env (s1,i1)).getD (aZ v.env (s2,i2)).toNat 0])else .nil):=by
   rw[aCy (.inl rfl),mU];show(if 0<=aZ v.env (s2,i2)/\aZ v.env (s2,i2)<(aE v.env (s1,i1)).length then J.sl (cC (if 0<=aZ v.env (s2,i2)/\aZ v.env (s2,i2)<(aE v.env (s1,i1)).length then([(aE v.env (s1,i1)).getD (aZ v.env (s2,i2)).toNat 0],(0:Int))else([],16)).1)else J.nil)=_;by_cases c:0<=aZ v.env (s2,i2)/\aZ v.env (s2,i2)<(aE v.env (s1,i1)).length
   .simp only[gr c]
   .simp only[ba c]
  rw[D6,mU];have e0:=λt=>dB (t:=t) (v:=v) k s1 i1;have Y:=λt=>dB (t:=t) (v:=v) k s2 i2;have e2:=aCx (aE v.env (s1,i1)) (aE v.env (s2,i2));rw[lU (show aE v.env (s2,i2)≠[] from bP)]at e2;have NG:hd (aE v.env (s1,i1)) (aE v.env (s2,i2))=decide (0<=aZ v.env (s2,i2)/\aZ v.env (s2,i2)<(aE v.env (s1,i1)).length):=rfl;rw[NG,show(aE v.env (s2,i2)).getD 0 0=aZ v.env (s2,i2) from rfl]at e2;have hv:(aE v.env (s1,i1)).length<=1000:=hv;generalize aE v.env (s1,i1)=V at*;generalize aZ v.env (s2,i2)=Bo at*;by_cases c:0<=Bo/\Bo<V.length
  .rw[ON c,gr rfl]at e2;rw[gr c,gr c];obtain⟨c1,c2⟩:=c;obtain⟨i,rfl⟩:=Cy c1;have c3:i<V.length:=by omega
   refine tQ (tM @fC.eq_1 @aU e0 Y e2 c3 (v_ c3) @IP) (JJ ?_);all_goals exact⟨_,_,rfl,rfl⟩
  .rw[Z7 c,ba (by decide)]at e2;rw[ba c,ba c];refine tQ (fj @fC.eq_1 e0 Y e2) (JJ ?_);all_goals exact⟨_,_,rfl,rfl⟩
 .simp[aW]at h;obtain⟨ha,hv,bP,OU⟩:=h;match args,ha with
  |[a,b,d],_=>
  obtain⟨s1,i1⟩:=a;obtain⟨s2,i2⟩:=b;obtain⟨s3,i3⟩:=d;simp only[br,OF,Ca]at hv bP OU;have mU:aN (ad v.l v.at_) v.m v.env ⟨10,names,op,[(s1,i1),(s2,i2),(s3,i3)],init,node,rs,ev,en,on⟩=(if 0<=aZ v.env (s2,i2)/\aZ v.env (s2,i2)<(aE v.env (s1,i1)).length then((aE v.env (s1,i1)).set (aZ v.env (s2,i2)).toNat (aZ v.env (s3,i3)),0)else([],16)):=rfl;have D6:lR (ad v.l v.at_) v.m v.env ⟨10,names,op,[(s1,i1),(s2,i2),(s3,i3)],init,node,rs,ev,en,on⟩=(if 0<=aZ v.env (s2,i2)/\aZ v.env (s2,i2)<(aE v.env (s1,i1)).length then .sl (cC ((aE v.env (s1,i1)).set (aZ v.env (s2,i2)).toNat (aZ v.env (s3,i3))))else .nil):=by
   rw[aCy (.inr rfl),mU];show(if 0<=aZ v.env (s2,i2)/\aZ v.env (s2,i2)<(aE v.env (s1,i1)).length then J.sl (cC (if 0<=aZ v.env (s2,i2)/\aZ v.env (s2,i2)<(aE v.env (s1,i1)).length then((aE v.env (s1,i1)).set (aZ v.env (s2,i2)).toNat (aZ v.env (s3,i3)),(0:Int))else([],16)).1)else J.nil)=_;by_cases c:0<=aZ v.env (s2,i2)/\aZ v.env (s2,i2)<(aE v.env (s1,i1)).length
   .simp only[gr c]
   .simp only[ba c]
  rw[D6,mU];obtain⟨g0,gl⟩:=RU OU;have e0:=λt=>dB (t:=t) (v:=v) k s1 i1;have Y:=λt=>dB (t:=t) (v:=v) k s2 i2;have e3:=λt=>dB (t:=t) (v:=v) k s3 i3;have e2:=aCx (aE v.env (s1,i1)) (aE v.env (s2,i2));rw[lU (show aE v.env (s2,i2)≠[] from bP)]at e2;have NG:hd (aE v.env (s1,i1)) (aE v.env (s2,i2))=decide (0<=aZ v.env (s2,i2)/\aZ v.env (s2,i2)<(aE v.env (s1,i1)).length):=rfl;rw[NG,show(aE v.env (s2,i2)).getD 0 0=aZ v.env (s2,i2) from rfl]at e2;have hv:(aE v.env (s1,i1)).length<=1000:=hv;generalize aE v.env (s1,i1)=V at*;generalize aZ v.env (s2,i2)=Bo at*;generalize aZ v.env (s3,i3)=X at*;by_cases c:0<=Bo/\Bo<V.length
  .rw[ON c,gr rfl]at e2;rw[gr c,gr c];obtain⟨c1,c2⟩:=c;obtain⟨i,rfl⟩:=Cy c1;have c3:i<V.length:=by omega
   have ht:List.take V.length (cC (V.set i X))=cC (V.set i X):=vc (by simp[cC]);refine tQ (ey @fC.eq_1 @aU @uR e0 Y e2 e3 g0 (jg c3 @anA (v_ c3) ht @OZ @A5)) (JJ ?_);all_goals exact⟨_,_,rfl,rfl⟩
  .rw[Z7 c,ba (by decide)]at e2;rw[ba c,ba c];refine tQ (fj @fC.eq_1 e0 Y e2) (JJ ?_);all_goals exact⟨_,_,rfl,rfl⟩
def E3(l:cT):Prop:=∀f∈l.fs,∀q∈f.eqs,1<=q.kind/\q.kind<=10
def uG(N:Nat):Ab->Prop×J:=E4 mc eI jL tf λl at_ m ins=>((Lt l/\E3 l)/\oZ l N at_ m ins,.b9 [.sl ((bK l N at_ m ins).1.map cy),.sl ((bK l N at_ m ins).2.1.map bf),.int .i64 (bK l N at_ m ins).2.2])
def aCz(N)(l)(at_)(m:List cG)(ins:Bd):=show uG N [.agg (cD l),.int .i64 at_,.sl (m.map bf),.sl (ins.map cy)]=_ from yS sR cF m6 yR _ l at_ m ins
def I3(N:Nat)(v:sv)(q:Pl):J:=if(kJ N v q).2.2=0 then .sl ((kJ N v q).1.map cy)else .nil
def Rr(N:Nat):=Cc TX (λq:Pl=>[.agg (iK q)]) λv q=>((Lt v.l/\E3 v.l)/\q.kind=7/\Rs N v q,.b9 [I3 N v q,.int .i64 (kJ N v q).2.2],Rt N v q)
theorem aJL(N){B t}{n m}{v:sv}(k:gU B n m)(q:Pl):Rr N [.ptr n 1 0 0,.agg (iK q)] (TX.put B n m v++t)=⟨(Lt v.l/\E3 v.l)/\q.kind=7/\Rs N v q,.b9 [I3 N v q,.int .i64 (kJ N v q).2.2],TX.put B n m (Rt N v q)++t⟩:=uT A4 IG _ k q
theorem aj5{N}(hS:aJ Tryz.prog 57 (uG N)):ez Tryz.prog 115 (Rr N):=by
 refine ez.Vp (ps:=[(144,Ya),(23,oG),(57,uG N),(145,Yb)]) (I:=[(88,x9)]) A4 ⟨aIA,iL,hS,aIz,BB⟩ ⟨I1,BB⟩ aGk (λ_=>rfl) (λv q k=>by dsimp only;unfold I3;split<;>rfl) λn m B v q k h=>?_;obtain⟨hI,hk,h0,hn,hM,hT,h⟩:=h;rw[gr hk]at h;obtain⟨h1,h2,h3,h4,h5,h6⟩:=h;dsimp only at h0 hn hM hT h1 h2 h3 h4 h5 h6|-;have E:kJ N v q=bK v.l N q.node (rL v.l v.m v.env q) (q.args.map (aE v.env)):=rfl;have Sx:Rt N v q=if(kJ N v q).2.2=0 then⟨v.l,v.at_,v.m,mY v.th (aw q) (kJ N v q).2.1,v.env⟩else v:=rfl;have ZO:I3 N v q=if(kJ N v q).2.2=0 then .sl ((kJ N v q).1.map cy)else .nil:=rfl;rw[<-E]at h6;have e4:=aCz N v.l q.node (rL v.l v.m v.env q) (q.args.map (aE v.env));rw[lU (And.intro hI h5),<-E]at e4;have e3:=mO v.l q.node;rw[lU hI.1.1]at e3;have e2:=afk v.m (aw q);rw[lU (⟨(jn hM).1,by omega,(jn hM).2⟩:mh v.m/\(aw q).length<=1000000/\∀c∈v.m,c.path.length<=4503599627370496)]at e2;rw[Sx,ZO];have og:rL v.l v.m v.env q=if q.reset/\aZ v.env (q.ev,q.en)≠0 then aQ v.l q.node else gL v.m (aw q):=rfl;have e5:(kJ N v q).2.2=0->Yb [.sl (v.th.map bf),.str (aw q),.sl ((kJ N v q).2.1.map bf)]=(True,.sl ((mY v.th (aw q) (kJ N v q).2.1).map bf)):=λh=>by have:=(h6 h).2;rw[aj6,lU (⟨(jn hT).1,by omega,(jn this).1,(jn hT).2⟩:mh v.th/\(aw q).length<=1000000/\mh (kJ N v q).2.1/\∀c∈v.th,c.path.length<=4503599627370496)]
 generalize rL v.l v.m v.env q=S at*;generalize kJ N v q=An at*;obtain⟨kind,names,op,args,init,node,rs,ev,en,on⟩:=q;match names,h0 with
 |s::ns,_=>
 have wJ:aw ⟨kind,s::ns,op,args,init,node,rs,ev,en,on⟩=s:=rfl;rw[wJ]at e2 e5 og|-;dsimp only at*;have gs:(cW (s::ns)).getD 0 []=[.str s]:=rfl;refine tQ @avi.eq_1 (JJ ?_);refine aj args (λj (x:Bd)=>⟨[(0,.ptr n 1 0 0),(3,.ref (iK ⟨kind,s::ns,op,args,init,node,rs,ev,en,on⟩)),(6,.own B.length x.length 0 x.length),(7,.int .i64 j)],TX.put B n m v++[⟨.aV,1,x.map cy⟩]⟩) (λj r x=>x++r.map (aE v.env)=args.map (aE v.env)/\x.length<=j) [] trivial CT ⟨rfl,By _⟩ (λj a r o d U Z E=>?_) (λj o e E=>?_)
 .obtain⟨r1,r2⟩:=E;rw[p0]at r1;have ga:=ag eD U;obtain⟨s1,i1⟩:=a;have Y:=λt=>dB (t:=t) (v:=v) k s1 i1;refine ao (jg d ga Y @OZ @A5 @QH) (JJ ?_);exact⟨o++[aE v.env (s1,i1)],CT,by simpa using r1,by simp;omega⟩
 .obtain⟨r1,r2⟩:=E;rw[DD,xz]at r1;subst r1;have ht:(List.map cy (args.map (aE v.env))).take args.length=(args.map (aE v.env)).map cy:=vc (by simp);by_cases cr:rs=true
  .subst cr;obtain⟨h31,h32⟩:=h3 rfl;obtain⟨g0,gl⟩:=RU h31;have Y:=λt=>dB (t:=t) (v:=v) k ev en;generalize aZ v.env (ev,en)=Bo at*;by_cases ci:Bo=0
   .subst ci;rw[ba (by simp)]at og;subst og;by_cases c:An.2.2=0
    .have e5:=e5 c;rw[gr c,gr c];refine tQ (ey @ak @aU e @OZ @A5 @I2 k gs (rO g0 Y e2 e4 ht c e5)) (JJ ?_);all_goals first|exact⟨_,_,rfl,rfl⟩|(have Bw:=t_ (v:=v) (t:=[(⟨.A6,1,(args.map (aE v.env)).map cy⟩:ae)]) k (mY v.th s An.2.1);simp only[rX]at Bw;exact⟨_,_,Bw,rfl⟩)
    .rw[ba c,ba c];refine tQ (ey @ak @aU e @OZ @A5 @I2 k gs (fF g0 Y e2 e4 ht)) (JJ (λhn=>?_));all_goals first|exact absurd (by assumption) c|exact⟨_,_,rfl,rfl⟩
   .rw[gr (by simpa using ci)]at og;subst og;by_cases c:An.2.2=0
    .have e5:=e5 c;rw[gr c,gr c];refine tQ (ey @ak @aU e @OZ @A5 @I2 k gs (tM g0 Y e2 e3 e4 ht c e5)) (JJ (λhn=>?_));all_goals first|exact absurd (by assumption) ci|exact⟨_,_,rfl,rfl⟩|(have Bw:=t_ (v:=v) (t:=[(⟨.A6,1,(args.map (aE v.env)).map cy⟩:ae)]) k (mY v.th s An.2.1);simp only[rX]at Bw;exact⟨_,_,Bw,rfl⟩)
    .rw[ba c,ba c];refine tQ (ey @ak @aU e @OZ @A5 @I2 k gs (jg g0 Y e2 e3 e4 ht)) (JJ (λhn hn=>?_));all_goals first|exact absurd (by assumption) c|exact absurd (by assumption) ci|exact⟨_,_,rfl,rfl⟩
  .have cr:rs=false:=by simpa using cr
   subst cr;rw[ba (by simp)]at og;subst og;by_cases c:An.2.2=0
   .have e5:=e5 c;rw[gr c,gr c];refine tQ (ey @ak e @OZ @A5 @I2 k gs e2 (fj e4 ht c e5)) (JJ ?_);all_goals first|exact⟨_,_,rfl,rfl⟩|(have Bw:=t_ (v:=v) (t:=[(⟨.A6,1,(args.map (aE v.env)).map cy⟩:ae)]) k (mY v.th s An.2.1);simp only[rX]at Bw;exact⟨_,_,Bw,rfl⟩)
   .rw[ba c,ba c];refine tQ (ey @ak e @OZ @A5 @I2 k gs e2 (bV e4 ht)) (JJ (λhn=>?_));all_goals first|exact absurd (by assumption) c|exact⟨_,_,rfl,rfl⟩
theorem aJM{B t:List ae}{n m:Nat}{v:sv}(k:gU B n m)(q:Pl):Rp [.ptr n 1 0 0,.agg (iK q)] (TX.put B n m v++t)=⟨U1 v/\q.kind=6/\aW (ad v.l v.at_) v.env q,.sl (cC (aE v.env (br q ((iG (ad v.l v.at_) v.env q).toNat+1)))),TX.put B n m v++t⟩:=uT A4 IG _ k q
theorem afl{B t}{n m}{v:sv}(k:gU B n m)(q:Pl):C' [.ptr n 1 0 0,.agg (iK q)] (TX.put B n m v++t)=⟨(q.kind=8\/q.kind=9\/q.kind=10)/\aW (ad v.l v.at_) v.env q,.b9 [lR (ad v.l v.at_) v.m v.env q,.int .i64 (aN (ad v.l v.at_) v.m v.env q).2],TX.put B n m v++t⟩:=uT A4 IG _ k q
def yW(N:Nat)(v:sv)(q:Pl):J:=if q.kind=7 then I3 N v q else .sl [[.sl (cC (aN (ad v.l v.at_) v.m v.env q).1)]]
def Cf(N:Nat)(v:sv)(q:Pl):Int:=if q.kind=7 then(kJ N v q).2.2 else(aN (ad v.l v.at_) v.m v.env q).2
def yX(N:Nat)(v:sv)(q:Pl):sv:=if q.kind=7 then Rt N v q else v
def Yd(N:Nat):=Cc TX (λq:Pl=>[.agg (iK q)]) λv q=>((Lt v.l/\E3 v.l)/\U1 v/\(1<=q.kind/\q.kind<=10)/\Rs N v q,.b9 [yW N v q,.int .i64 (Cf N v q)],yX N v q)
theorem afm(N){B t}{n m}{v:sv}(k:gU B n m)(q:Pl):Yd N [.ptr n 1 0 0,.agg (iK q)] (TX.put B n m v++t)=⟨(Lt v.l/\E3 v.l)/\U1 v/\(1<=q.kind/\q.kind<=10)/\Rs N v q,.b9 [yW N v q,.int .i64 (Cf N v q)],TX.put B n m (yX N v q)++t⟩:=uT A4 IG _ k q
theorem asE{N:Nat}(hS:aJ Tryz.prog 57 (uG N)):ez Tryz.prog 86 (Yd N):=by
 refine ez.Vp (ps:=[(111,ch),(112,dO),(113,uo)]) (I:=[(88,x9),(114,Rp),(115,Rr N),(116,C')]) A4 ⟨aj7,afn,ay9,BB⟩ ⟨I1,aj4,aj5 hS,asD,BB⟩ aFw (λ_=>rfl) (λv q k=>by
  dsimp only;unfold yW I3;split
  .split<;>rfl
  .rfl) λn m B v q k h=>?_
 obtain⟨hI,hV,⟨gI,yK⟩,hD⟩:=h;have hD':=hD;obtain⟨FO,D9,hM,hT,h⟩:=hD;by_cases k7:q.kind=7
 .have cR:=λt=>aJL N (t:=t) (v:=v) k q;rw[lU (⟨hI,k7,hD'⟩:(Lt v.l/\E3 v.l)/\q.kind=7/\Rs N v q)]at cR;dsimp only;rw[show yW N v q=I3 N v q by rw[yW,gr k7],show Cf N v q=(kJ N v q).2.2 by rw[Cf,gr k7],show yX N v q=Rt N v q by rw[yX,gr k7]];generalize I3 N v q=D at*;generalize kJ N v q=An at*;generalize Rt N v q=V at*;obtain⟨kind,names,op,args,init,node,rs,ev,en,on⟩:=q;simp only[iK]at cR;dsimp only at k7;subst k7;refine tQ (bV @cn.eq_1 cR) (JJ ?_);all_goals exact⟨_,_,rfl,rfl⟩
 .rw[ba k7]at h;have h:=h.2;dsimp only;rw[show yW N v q= .sl [[.sl (cC (aN (ad v.l v.at_) v.m v.env q).1)]] by rw[yW,ba k7],show Cf N v q=(aN (ad v.l v.at_) v.m v.env q).2 by rw[Cf,ba k7],show yX N v q=v by rw[yX,ba k7]];clear hD';have mR:=λt=>aJM (t:=t) (v:=v) k q;have aR:=λt=>afl (t:=t) (v:=v) k q;obtain⟨kind,names,op,args,init,node,rs,ev,en,on⟩:=q;simp only[iK]at mR aR;rw[lU hV]at mR;dsimp only at gI yK k7 h FO D9 hM hT;by_cases k1:kind=1
  .subst k1;have h:0<args.length:=h;match args,h with
   |a::r,_=>
   obtain⟨s0,i0⟩:=a;have Y:=λt=>dB (t:=t) (v:=v) k s0 i0;have mU:aN (ad v.l v.at_) v.m v.env ⟨1,names,op,(s0,i0)::r,init,node,rs,ev,en,on⟩=(aE v.env (s0,i0),0):=rfl;rw[mU];refine tQ (bV @cn.eq_1 Y) (JJ ?_);all_goals exact⟨_,_,rfl,rfl⟩
  by_cases k2:kind=2
  .subst k2;simp[aW]at h;obtain⟨ha,bP⟩:=h;match args,ha with
   |[a],_=>
   obtain⟨s0,i0⟩:=a;simp only[br,OF]at bP;have Y:=λt=>dB (t:=t) (v:=v) k s0 i0;obtain⟨g0,gl⟩:=RU bP;have mU:aN (ad v.l v.at_) v.m v.env ⟨2,names,op,[(s0,i0)],init,node,rs,ev,en,on⟩=([(UB op (aZ v.env (s0,i0))).1],(UB op (aZ v.env (s0,i0))).2):=rfl;rw[mU];have e2:=ahH op (aZ v.env (s0,i0));simp only[O8]at e2;generalize UB op (aZ v.env (s0,i0))=An at*;refine tQ (jg @cn.eq_1 @aU Y e2 g0 @IP) (JJ ?_);all_goals exact⟨_,_,rfl,rfl⟩
  by_cases k3:kind=3
  .subst k3;simp[aW]at h;obtain⟨ha,bP,OU,u6,hp⟩:=h;match args,ha with
   |[a,b],_=>
   obtain⟨s0,i0⟩:=a;obtain⟨s1,i1⟩:=b;simp only[br,OF,Ca]at bP OU u6 hp;have Y:=λt=>dB (t:=t) (v:=v) k s0 i0;have e3:=λt=>dB (t:=t) (v:=v) k s1 i1;obtain⟨g0,gl⟩:=RU bP;obtain⟨g1,gl1⟩:=RU OU;have mU:aN (ad v.l v.at_) v.m v.env ⟨3,names,op,[(s0,i0),(s1,i1)],init,node,rs,ev,en,on⟩=([(Bq op (aZ v.env (s0,i0)) (aZ v.env (s1,i1))).1],(Bq op (aZ v.env (s0,i0)) (aZ v.env (s1,i1))).2):=rfl;rw[mU];have e2:=aaK op (aZ v.env (s0,i0)) (aZ v.env (s1,i1));simp only[TW]at e2;rw[lU (⟨u6,hp⟩:ij (aZ v.env (s0,i0))/\ij (aZ v.env (s1,i1)))]at e2;generalize Bq op (aZ v.env (s0,i0)) (aZ v.env (s1,i1))=An at*;refine tQ (tM @cn.eq_1 @aU Y e2 e3 g0 g1 @IP) (JJ ?_);all_goals exact⟨_,_,rfl,rfl⟩
  by_cases k4:kind=4
  .subst k4;simp[aW]at h;obtain⟨ha,bP⟩:=h;match args,ha with
   |[a,b,c],_=>
   obtain⟨s0,i0⟩:=a;obtain⟨s1,i1⟩:=b;obtain⟨s2,i2⟩:=c;simp only[br,OF]at bP;have e0:=λt=>dB (t:=t) (v:=v) k s0 i0;have Y:=λt=>dB (t:=t) (v:=v) k s1 i1;have e2:=λt=>dB (t:=t) (v:=v) k s2 i2;obtain⟨g0,gl⟩:=RU bP;have mU:aN (ad v.l v.at_) v.m v.env ⟨4,names,op,[(s0,i0),(s1,i1),(s2,i2)],init,node,rs,ev,en,on⟩=(if aZ v.env (s0,i0)≠0 then aE v.env (s1,i1)else aE v.env (s2,i2),0):=rfl;rw[mU];generalize aZ v.env (s0,i0)=Bo at*;by_cases c:Bo=0
   .subst c;have aJN:(0:Int)=0:=rfl;refine tQ (fF @cn.eq_1 @aU e0 e2 g0) (JJ ?_);all_goals exact⟨_,_,rfl,rfl⟩
   .refine tQ (jg @cn.eq_1 @aU e0 Y g0 c) (JJ (λhn=>?_));all_goals first|exact absurd (by assumption) c|exact⟨_,_,rfl,rfl⟩
  by_cases k5:kind=5
  .subst k5;match names,FO with
   |s::ns,_=>
   have e0:=abe v.m s;rw[lU (jn hM).1]at e0;have mU:aN (ad v.l v.at_) v.m v.env ⟨5,s::ns,op,args,init,node,rs,ev,en,on⟩=(D7 v.m s,0):=rfl;rw[mU];have gs:(cW (s::ns)).getD 0 []=[.str s]:=rfl;refine tQ (jg @cn.eq_1 @ak @I2 k e0 gs) (JJ ?_);all_goals exact⟨_,_,rfl,rfl⟩
  by_cases k6:kind=6
  .subst k6;rw[lU h]at mR;have mU:aN (ad v.l v.at_) v.m v.env ⟨6,names,op,args,init,node,rs,ev,en,on⟩=(aE v.env (br ⟨6,names,op,args,init,node,rs,ev,en,on⟩ ((iG (ad v.l v.at_) v.env ⟨6,names,op,args,init,node,rs,ev,en,on⟩).toNat+1)),0):=rfl;rw[mU];generalize aE v.env (br ⟨6,names,op,args,init,node,rs,ev,en,on⟩ ((iG (ad v.l v.at_) v.env ⟨6,names,op,args,init,node,rs,ev,en,on⟩).toNat+1))=V at*;have k66:((6:Int)=6)=True:=lU rfl;refine tQ (bV @cn.eq_1 mR) (JJ ?_);all_goals exact⟨_,_,rfl,rfl⟩
  have k8:kind=8\/kind=9\/kind=10:=by omega
  rw[lU h]at aR;have RJ:=aCw (f:=ad v.l v.at_) (m:=v.m) (env:=v.env) (q:=⟨kind,names,op,args,init,node,rs,ev,en,on⟩) k7;generalize lR (ad v.l v.at_) v.m v.env ⟨kind,names,op,args,init,node,rs,ev,en,on⟩=V at*;generalize aN (ad v.l v.at_) v.m v.env ⟨kind,names,op,args,init,node,rs,ev,en,on⟩=W at*;rw[lU k8]at aR;have hVV:(V= .nil/\(J.sl (cC W.1))= .sl [])\/V= .sl (cC W.1):=by
   unfold GN at RJ;split at RJ
   .exact .inl ⟨rfl,(abc RJ).symm⟩
   .exact .inr (abc RJ)
   .cases RJ
  rcases hVV with⟨rfl,hW⟩|rfl
  .rw[hW];refine tQ (bV @cn.eq_1 aR) (JJ (λhn hn hn hn hn hn hn=>?_));all_goals first|exact⟨_,_,rfl,rfl⟩|exact absurd (by assumption) k1|exact absurd (by assumption) k2|exact absurd (by assumption) k3|exact absurd (by assumption) k4|exact absurd (by assumption) k5|exact absurd (by assumption) k6|exact absurd (by assumption) k7
  refine tQ (bV @cn.eq_1 aR) (JJ (λhn hn hn hn hn hn hn=>?_));all_goals first|exact⟨_,_,rfl,rfl⟩|exact absurd (by assumption) k1|exact absurd (by assumption) k2|exact absurd (by assumption) k3|exact absurd (by assumption) k4|exact absurd (by assumption) k5|exact absurd (by assumption) k6|exact absurd (by assumption) k7
structure azV(N:Nat)(v:sv)(q:Pl)(W:Bd)(th:List cG):Prop where
 id:yW N v q= .sl (W.map cy)
 len:W.length=q.names.length
 aJO:yX N v q=⟨v.l,v.at_,v.m,th,v.env⟩
 aJP:B7 v.l (bK v.l N) (ad v.l v.at_) v.m q ⟨v.env,v.th⟩=(⟨bu q.names W v.env,th⟩,0)
theorem awQ{N}{v:sv}{q:Pl}(h:Rs N v q):(B7 v.l (bK v.l N) (ad v.l v.at_) v.m q ⟨v.env,v.th⟩).2=Cf N v q/\q.names.length<=1000/\
 (Cf N v q=0->∃W th,azV N v q W th):=by
 obtain⟨h0,hn,hM,hT,h⟩:=h;by_cases k7:q.kind=7
 .rw[gr k7]at h;obtain⟨h1,h2,h3,h4,h5,h6⟩:=h;have E:kJ N v q=bK v.l N q.node (rL v.l v.m v.env q) (q.args.map (aE v.env)):=rfl;dsimp only at h6;rw[<-E]at h6;have hE:Cf N v q=(kJ N v q).2.2:=by rw[Cf,gr k7]
  rw[hE];by_cases c:(kJ N v q).2.2=0
  .have hq:B7 v.l (bK v.l N) (ad v.l v.at_) v.m q ⟨v.env,v.th⟩=(⟨bu q.names (kJ N v q).1 v.env,mY v.th (aw q) (kJ N v q).2.1⟩,0):=by unfold B7;rw[gr k7];dsimp only;rw[<-E,gr c]
   refine⟨by rw[hq,c],h2,λ_=>⟨(kJ N v q).1,mY v.th (aw q) (kJ N v q).2.1,?_,(h6 c).1,?_,hq⟩⟩
   .rw[yW,gr k7,I3,gr c]
   .rw[yX,gr k7,Rt,gr c]
  .have hq:B7 v.l (bK v.l N) (ad v.l v.at_) v.m q ⟨v.env,v.th⟩=(⟨v.env,v.th⟩,(kJ N v q).2.2):=by unfold B7;rw[gr k7];dsimp only;rw[<-E,ba c]
   exact⟨by rw[hq],h2,λhc=>absurd hc c⟩
 .rw[ba k7]at h;have hq:B7 v.l (bK v.l N) (ad v.l v.at_) v.m q ⟨v.env,v.th⟩=(⟨jR (aw q) (aN (ad v.l v.at_) v.m v.env q).1 v.env,v.th⟩,(aN (ad v.l v.at_) v.m v.env q).2):=by unfold B7;rw[ba k7]
  have hE:Cf N v q=(aN (ad v.l v.at_) v.m v.env q).2:=by rw[Cf,ba k7]
  refine⟨by rw[hq,hE],by rw[h.1];omega,λhc=>⟨[(aN (ad v.l v.at_) v.m v.env q).1],v.th,?_,by rw[h.1];rfl,by rw[yX,ba k7],?_⟩⟩
  .rw[yW,ba k7];rfl
  .rw[hq,<-hE,hc];have:q.names=[aw q]:=by
    have h1:=h.1;match hn:q.names,h1 with
    |[s],_=>simp[aw,hn]
   rw[this];rfl
theorem awR:aJ Tryz.prog 57 (uG 0):=by refine aJ.QI (ps:=[]) (I:=[]) trivial trivial ax0 λl at_ m ins h=>?_;exact absurd h.2 id
theorem awS{N}(hS:aJ Tryz.prog 57 (uG N)):aJ Tryz.prog 57 (uG (N+1)):=by
 refine aJ.QI (ps:=[(87,_C)]) (I:=[(85,I4),(86,Yd N),(88,x9)]) ⟨aIy,BB⟩ ⟨aj8,asE hS,I1,BB⟩ ax0 λl at_ m ins h=>?_;obtain⟨hI,RV,Wf,hlen,XI,Xh,_W,hR,hK⟩:=h;have avd:bK l (N+1) at_ m ins=if(ja l (bK l N) (ad l at_) m (ad l at_).eqs (yN (ad l at_) m ins)).2=0 then
  ((ad l at_).outs.map λd=>dT (ja l (bK l N) (ad l at_) m (ad l at_).eqs (yN (ad l at_) m ins)).1.env d.name,
    tU (ja l (bK l N) (ad l at_) m (ad l at_).eqs (yN (ad l at_) m ins)).1.env (ad l at_).eqs (ja l (bK l N) (ad l at_) m (ad l at_).eqs (yN (ad l at_) m ins)).1.th,0)
  else([],m,(ja l (bK l N) (ad l at_) m (ad l at_).eqs (yN (ad l at_) m ins)).2):=rfl
 dsimp only;rw[avd];clear avd;have hV1:∀th env,U1 ⟨l,at_,m,th,env⟩:=λ_ _=>⟨hI.1.2,RV,Wf⟩;obtain⟨fg,fm,fl⟩:=Rk (hV1 [] []);dsimp only at fg fm fl;have azX:=hI.2 _ fm;have aJQ:∀(q:Pl) (s:Ed) (a:ae) (t:List ae),q∈(ad l at_).eqs->UH l (bK l N) (oZ l N) (ad l at_) m q s->Yd N [.ptr 2 1 0 0,.agg (iK q)] (a::⟨.mp (s.env.map n8),0,[]⟩::⟨.loc,6,[rX 1 (PW l at_ m s)]⟩::t)=
  ⟨True,.b9 [yW N (PW l at_ m s) q,.int .i64 (Cf N (PW l at_ m s) q)],a::⟨.mp ((yX N (PW l at_ m s) q).env.map n8),0,[]⟩::⟨.loc,6,[rX 1 (yX N (PW l at_ m s) q)]⟩::t⟩:=λq s a t hq Z=>by
  have:=afm N (t:=t) (v:=PW l at_ m s) (y_ a ⟨.dead,0,[]⟩ ⟨.dead,0,[]⟩) q;rw[lU (show(Lt l/\E3 l)/\U1 (PW l at_ m s)/\(1<=q.kind/\q.kind<=10)/\Rs N (PW l at_ m s) q from⟨hI,hV1 _ _,azX q hq,Z⟩),vZ,vZ]at this;exact this
 have aJR:∀(q:Pl) (s:Ed),UH l (bK l N) (oZ l N) (ad l at_) m q s->(B7 l (bK l N) (ad l at_) m q s).2=Cf N (PW l at_ m s) q/\q.names.length<=1000/\
  (Cf N (PW l at_ m s) q=0->∃W th,yW N (PW l at_ m s) q= .sl (W.map cy)/\W.length=q.names.length/\yX N (PW l at_ m s) q=⟨l,at_,m,th,s.env⟩/\B7 l (bK l N) (ad l at_) m q s=(⟨bu q.names W s.env,th⟩,0)):=λq s Z=>by
  obtain⟨h1,h2,h3⟩:=awQ (v:=PW l at_ m s) Z;refine⟨h1,h2,λhc=>?_⟩;obtain⟨W,th,w⟩:=h3 hc;exact⟨W,th,w.id,w.len,w.aJO,w.aJP⟩
 have hR2:∀(on:List gT) (s:Ed) (a:ae) (t:List ae),on.length<=1000->I4 [.ptr 2 1 0 0,.sl (on.map eD)] (a::⟨.mp (s.env.map n8),0,[]⟩::⟨.loc,6,[rX 1 (PW l at_ m s)]⟩::t)=
  ⟨True,.bool (bn s.env on),a::⟨.mp (s.env.map n8),0,[]⟩::⟨.loc,6,[rX 1 (PW l at_ m s)]⟩::t⟩:=λon s a t ho=>by
  have:=aJJ (t:=t) (v:=PW l at_ m s) (y_ a ⟨.dead,0,[]⟩ ⟨.dead,0,[]⟩) on;rw[lU ho,vZ]at this;exact this
 have aJS:∀(s1:B3) (i1:Int) (s:Ed) (a:ae) (t:List ae),x9 [.ptr 2 1 0 0,.agg [.str s1,.int .i64 i1]] (a::⟨.mp (s.env.map n8),0,[]⟩::⟨.loc,6,[rX 1 (PW l at_ m s)]⟩::t)=
  ⟨True,.sl (cC (aE s.env (s1,i1))),a::⟨.mp (s.env.map n8),0,[]⟩::⟨.loc,6,[rX 1 (PW l at_ m s)]⟩::t⟩:=λs1 i1 s a t=>by
  have:=dB (t:=t) (v:=PW l at_ m s) (y_ a ⟨.dead,0,[]⟩ ⟨.dead,0,[]⟩) s1 i1;rw[vZ]at this;exact this
 generalize ad l at_=f at*;obtain⟨fM,ie,cM,fvars,fG⟩:=f;have vV:yN ⟨fM,ie,cM,fvars,fG⟩ m ins=⟨bu (ie.map (·.name)) ins [],m⟩:=rfl;rw[vV]at hR hK|-;dsimp only at hlen XI Xh _W hR hK|-;refine ao (rO @atE.eq_1 @jL.eq_1 @mc.eq_1 @tf.eq_1 RV Wf fg) (JJ ?_);refine aj ie (λj (e:aP)=>⟨[(2,.sl (m.map bf)),(3,.sl (ins.map cy)),(11,.ptr 0 1 0 0),(12,.ptr 2 1 0 0),(13,.int .i64 j)],[⟨.loc,5,[[.str fM,.sl (ie.map eu),.sl (cM.map eu),.sl (fvars.map eu),.sl (fG.map iK)]]⟩,⟨.mp (e.map n8),0,[]⟩,⟨.loc,6,[[.sl (l.enums.map kF),.sl (l.fs.map lf),.int .i64 at_,.sl (m.map bf),.sl (m.map bf),.mp 1]]⟩]⟩)
  (λj r e=>bu (r.map (·.name)) (ins.drop j) e=bu (ie.map (·.name)) ins []) [] (by decide) CT rfl (λj x r e d U Z E=>?_) (λj e ej E=>?_)
 .have hj:j<ins.length:=by omega
  obtain⟨y,vd,Hi⟩:=eE ins (k:=j) (by omega);rw[Hi,p0]at E;have gx:=ag eu U;have gy:=ag cy vd;obtain⟨vn,vk,ve,vl,hr⟩:=x;refine ao (jg d gx gy hj @C3.{0,0} @lQ) (JJ ?_);exact⟨jR vn y e,CT,E⟩
 .have E:e=bu (ie.map (·.name)) ins []:=E;rw[<-E]at hR hK|-;clear E;refine ao @ej (JJ ?_);refine aj fG (λj (s:Ed)=>⟨[(2,.sl (m.map bf)),(11,.ptr 0 1 0 0),(12,.ptr 2 1 0 0),(14,.int .i64 j)],[⟨.loc,5,[[.str fM,.sl (ie.map eu),.sl (cM.map eu),.sl (fvars.map eu),.sl (fG.map iK)]]⟩,⟨.mp (s.env.map n8),0,[]⟩,⟨.loc,6,[[.sl (l.enums.map kF),.sl (l.fs.map lf),.int .i64 at_,.sl (m.map bf),.sl (s.th.map bf),.mp 1]]⟩]⟩)
   (λj r s=>VM l (bK l N) (oZ l N) ⟨fM,ie,cM,fvars,fG⟩ m r s/\ja l (bK l N) ⟨fM,ie,cM,fvars,fG⟩ m r s=ja l (bK l N) ⟨fM,ie,cM,fvars,fG⟩ m fG ⟨e,m⟩) ⟨e,m⟩ (by decide) CT ⟨hR,rfl⟩ (λj q r s d U Z E=>?_) (λj s E' E=>?_)
  .obtain⟨⟨r1,r2⟩,r3⟩:=E;rw[aD2]at r3;have gq:=ag iK U;have vU:=ed U;have h2:=λt=>hR2 q.on s ⟨.loc,5,[[.str fM,.sl (ie.map eu),.sl (cM.map eu),.sl (fvars.map eu),.sl (fG.map iK)]]⟩ t r1;by_cases c:bn s.env q.on=true
   .rw[gr c]at r2 r3;obtain⟨r21,U2⟩:=r2;have h3:=λt=>aJQ q s ⟨.loc,5,[[.str fM,.sl (ie.map eu),.sl (cM.map eu),.sl (fvars.map eu),.sl (fG.map iK)]]⟩ t vU r21;obtain⟨h5,h6,h7⟩:=aJR q s r21;rw[c]at h2;by_cases c2:Cf N (PW l at_ m s) q=0
    .obtain⟨W,th,w1,w2,w3,w4⟩:=h7 c2;rw[w1,w3,c2]at h3;rw[w4]at U2 r3;rw[gr rfl]at r3;dsimp only at U2;have U2:=U2 rfl;clear h5 h7 w1 w3 w4 c2;obtain⟨kind,names,op,args,init,node,rs,ev,en,on⟩:=q;dsimp only at w2 U2 r3 h6;simp only[iK,rX]at h2 h3;refine ao (fj d gq h2 h3) (JJ ?_);refine aj names (λi (e2:aP)=>⟨[(2,.sl (m.map bf)),(11,.ptr 0 1 0 0),(12,.ptr 2 1 0 0),(14,.int .i64 j),(15,.ptr 3 1 0 0),(16,.sl (W.map cy)),(18,.int .i64 i)],[⟨.loc,5,[[.str fM,.sl (ie.map eu),.sl (cM.map eu),.sl (fvars.map eu),.sl (fG.map iK)]]⟩,⟨.mp (e2.map n8),0,[]⟩,⟨.loc,6,[[.sl (l.enums.map kF),.sl (l.fs.map lf),.int .i64 at_,.sl (m.map bf),.sl (th.map bf),.mp 1]]⟩,⟨.loc,10,[[.int .i64 kind,.sl (cW names),.int .i64 op,.sl (args.map eD),.sl (cC init),.int .i64 node,.bool rs,.str ev,.int .i64 en,.sl (on.map eD)]]⟩]⟩)
      (λi r2 e2=>bu r2 (W.drop i) e2=bu names W s.env) s.env (by decide) CT rfl (λi sn r2 e2 di hxi hdi GG=>?_) (λi e2 ei GG=>?_)
     .have hi:i<W.length:=by omega
      obtain⟨y,hyW,Hi⟩:=eE W (k:=i) (by omega);rw[Hi]at GG;have gs:=fN hxi;have gy:=ag cy hyW;refine ao (rO @ak di gs gy hi @C3.{0,0} @lQ) (JJ ?_);exact⟨jR sn y e2,CT,GG⟩
     .have:W.drop i=[]:=Z8 (by omega);rw[this]at GG;have GG:e2=bu names W s.env:=GG;subst GG;refine ao (bV @ak ei) (JJ ?_);all_goals exact⟨⟨bu names W s.env,th⟩,CT,U2,r3⟩
    .rw[h5,ba c2]at r3;rw[<-r3];try dsimp only
     rw[h5];clear h7 U2;generalize yW N (PW l at_ m s) q=D at*;generalize Cf N (PW l at_ m s) q=CE at*;generalize yX N (PW l at_ m s) q=V at*;obtain⟨kind,names,op,args,init,node,rs,ev,en,on⟩:=q;simp only[iK,rX]at h2 h3;exact ao (fF d gq h2 h3 c2) zz;all_goals exact absurd (by assumption) c2
   .rw[ba c]at r2 r3;rw[show bn s.env q.on=false by simpa using c]at h2;obtain⟨kind,names,op,args,init,node,rs,ev,en,on⟩:=q;simp only[rX]at h2;refine ao (cL d gq h2) (JJ ?_);all_goals exact⟨s,CT,r2,r3⟩
  .obtain⟨_,E⟩:=E;have E:(s,(0:Int))=ja l (bK l N) ⟨fM,ie,cM,fvars,fG⟩ m fG ⟨e,m⟩:=E;rw[<-E]at hK|-;obtain⟨GH,hK2⟩:=hK rfl;dsimp only at GH hK2|-;rw[gr rfl];obtain⟨env,th⟩:=s;dsimp only at GH hK2|-;clear E;refine ao @E' (JJ ?_);refine aj fG (λj (x:List cG)=>⟨[(11,.ptr 0 1 0 0),(12,.ptr 2 1 0 0),(19,.int .i64 j)],[⟨.loc,5,[[.str fM,.sl (ie.map eu),.sl (cM.map eu),.sl (fvars.map eu),.sl (fG.map iK)]]⟩,⟨.mp (env.map n8),0,[]⟩,⟨.loc,6,[[.sl (l.enums.map kF),.sl (l.fs.map lf),.int .i64 at_,.sl (m.map bf),.sl (x.map bf),.mp 1]]⟩]⟩)
    (λj r x=>FV env r x/\tU env r x=tU env fG th) th (by decide) CT ⟨GH,rfl⟩ (λj q r x d U Z E=>?_) (λj x ej3 E=>?_)
   .obtain⟨⟨r1,r2,r3⟩,r4⟩:=E;rw[tU]at r4;have gq:=ag iK U;have h2:=λt=>hR2 q.on ⟨env,x⟩ ⟨.loc,5,[[.str fM,.sl (ie.map eu),.sl (cM.map eu),.sl (fvars.map eu),.sl (fG.map iK)]]⟩ t r1;obtain⟨kind,names,op,args,init,node,rs,ev,en,on⟩:=q;simp only[rX]at h2;dsimp only at r1 r2 r3 r4;generalize hh:bn env on=H at*;by_cases c:kind=5
    .subst c;cases H
     .rw[ba (by simp)]at r3 r4;refine ao (cL d gq h2) (JJ ?_);all_goals exact⟨x,CT,r3,r4⟩
     .rw[gr ⟨rfl,rfl⟩]at r3 r4;obtain⟨p1,p2,p3,p4⟩:=r2 ⟨rfl,rfl⟩;match names,p1 with
      |sn::ns,_=>
      match args,p2 with
      |(s1,i1)::hs,_=>
      have wJ:aw ⟨5,sn::ns,op,(s1,i1)::hs,init,node,rs,ev,en,on⟩=sn:=rfl;have H':br ⟨5,sn::ns,op,(s1,i1)::hs,init,node,rs,ev,en,on⟩ 0=(s1,i1):=rfl;rw[wJ,H']at r3 r4;rw[H']at p4;have p4:(aE env (s1,i1)).length<=1000:=p4;have Y:=λt=>aJS s1 i1 ⟨env,x⟩ ⟨.loc,5,[[.str fM,.sl (ie.map eu),.sl (cM.map eu),.sl (fvars.map eu),.sl (fG.map iK)]]⟩ t;simp only[rX]at Y;have e2:=aog x sn (aE env (s1,i1));rw[lU (⟨(jn p3).1,by omega⟩:mh x/\(aE env (s1,i1)).length<=1000000)]at e2;generalize aE env (s1,i1)=V at*;have gs:(cW (sn::ns)).getD 0 []=[.str sn]:=rfl;refine ao (rO @ak d gq h2 gs Y e2) (JJ ?_);all_goals exact⟨yL x sn V,CT,r3,r4⟩
    .rw[ba (λh=>c h.1)]at r3 r4;refine ao (bV d gq) (JJ (λhn=>?_));all_goals first|exact absurd (by assumption) c|exact⟨x,CT,r3,r4⟩
   .obtain⟨_,E⟩:=E;have E:x=tU env fG th:=E;subst E;refine ao @ej3 (JJ ?_);refine aj cM (λj (o:Bd)=>⟨[(11,.ptr 0 1 0 0),(12,.ptr 2 1 0 0),(21,.own 3 o.length 0 o.length),(22,.int .i64 j)],[⟨.loc,5,[[.str fM,.sl (ie.map eu),.sl (cM.map eu),.sl (fvars.map eu),.sl (fG.map iK)]]⟩,⟨.mp (env.map n8),0,[]⟩,⟨.loc,6,[[.sl (l.enums.map kF),.sl (l.fs.map lf),.int .i64 at_,.sl (m.map bf),.sl ((tU env fG th).map bf),.mp 1]]⟩,⟨.aV,1,o.map cy⟩]⟩)
     (λj r o=>o++r.map (λd=>dT env d.name)=cM.map (λd=>dT env d.name)/\o.length<=j) [] (by decide) CT ⟨rfl,By _⟩ (λj x r o d U Z E=>?_) (λj o ej4 E=>?_)
    .obtain⟨r1,r2⟩:=E;rw[p0]at r1;have gx:=ag eu U;obtain⟨vn,vk,ve,vl,hr⟩:=x;dsimp only at r1;refine ao (fF d gx @C3.{0,0} @kH @QH) (JJ ?_);exact⟨o++[dT env vn],CT,by simpa using r1,by simp;omega⟩
    .obtain⟨r1,r2⟩:=E;rw[DD,xz]at r1;rw[<-r1];exact ao (bV ej4 @aas) zz
theorem an8(N):aJ Tryz.prog 57 (uG N):=by
 induction N with
 |zero=>exact awR
 |succ N ih=>exact awS ih
end
end Go.Proofs.YtldnkkkooabaeaaGreat
