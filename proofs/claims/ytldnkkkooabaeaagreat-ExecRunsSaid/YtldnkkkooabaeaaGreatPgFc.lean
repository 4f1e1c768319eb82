/- Programs: on what equations hang: the walk (18). -/
import Derived.Test.YtldnkkkooabaeaaGreatPgEb
set_option linter.all false
set_option maxRecDepth 20000
namespace Go.Proofs.YtldnkkkooabaeaaGreat
noncomputable section
open Go.Nk
theorem AW(e):(cq e).length<=(az e).length:=by
 induction e using Ex.ind with
 |h e ih=>
  have key:∀l:List Ex,(∀x∈l,(cq x).length<=(az x).length)->∀b,(nq b l).length<=(bQ l).length:=by
   intro l;induction l with
   |nil=>intro _ b;cases b<;>simp[nq]
   |cons x l il=>
    intro h b;have h1:=h x (KV ..);have h2:=il (λy hy=>h y (XN _ hy)) false;rw[nq,bQ,AS,AS];cases b
    .simp only[AN,Bv];omega
    .simp only[Bp,Cd];omega
  have h1:=key e.ar ih (e.kind==8);rw[azc,jj,AS,IS];have h2:(if e.kind=3\/e.kind=11\/e.kind=12 then [e.name]else []).length<=1:=by split<;>simp
  have h3:(if e.kind=10 then []else nq (e.kind==8) e.ar).length<=(nq (e.kind==8) e.ar).length:=by split<;>simp
  omega
def zN(N:Nat):Ab->Prop×J:=bJ gX λe=>((az e).length<N/\(az e).length<=1000,.sl (cW (cq e)))
def adS(N)(e):=show zN N [.agg (cO e)]=_ from aI gC _ e
def fx(kd:Int)(k:Nat)(r:List Ex):BS:=if kd=10 then []else if kd=8 then(if k=0 then nq true r else [])else nq false r
theorem u5{kd}{k}:fx kd k []=[]:=by
 unfold fx;split
 .rfl
 .split
  .split<;>simp[nq]
  .simp[nq]
theorem KW(a b):cW a++cW b=cW (a++b):=by simp[cW]
theorem nc(a)(s):cW a++[[J.str s]]=cW (a++[s]):=by simp[cW]
theorem uH:cW []=[]:=rfl
theorem aBl(N)(e)(B:List ae)(Q)(hN:(az e).length<N+1)(h1:(az e).length<=1000)
 (hQ:∀s:DS,s.B=B++[⟨.aV,1,cW (cq e)⟩]->get 2 s.R= .own B.length (cq e).length 0 (cq e).length->Q .ret s):
 gP (dJ.of [(189,zN N)] []) B.length cw.code Q ⟨aO 0 [.agg (cO e)],B⟩:=by
 have hlen:=AW e;have e2:∀x∈e.ar,zN N [.agg (cO x)]=(True,.sl (cW (cq x))):=λx U=>by have:=kK U;rw[adS,lU (show(az x).length<N/\(az x).length<=1000 from⟨by omega,by omega⟩)]
 have h2:=kf e;have h3:=jm e.ar;have h4:=jX e;have ZO:=azc e;obtain⟨kd,D5⟩:∃kd,kd=e.kind:=⟨_,rfl⟩;by_cases c:e.kind=3\/e.kind=11\/e.kind=12
 .rw[gr c]at ZO;have FB:[e.name]++fx kd 0 e.ar=cq e:=by
   rw[ZO,fx,ba (by omega),ba (by omega),ba (by omega)];have:(e.kind==8)=false:=by rw[SO];omega
   rw[this]
  rcases c with c|c|c
  .refine sM (cL @cw.eq_1 (ai e) c) (JJ ?_);refine aj e.ar (λk (o:BS)=>⟨[(1,.ref (cO e)),(3,.own B.length o.length 0 o.length),(4,.int .i64 k)],B++[⟨.aV,1,cW o⟩]⟩) (λk r o=>o++fx kd k r=cq e) [e.name] trivial (CF (bV (ai e) c)) FB (λk x r o d U Z E=>?_) (λk o ek E=>?_)
   .have I:fx kd k (x::r)=cq x++fx kd (k+1) r:=by rw[fx,fx,ba (by omega),ba (by omega),ba (by omega),ba (by omega),nq];rfl
    rw[I]at E;have S8:=C2 List.length E;simp only[AS]at S8;have e3:=e2 x (ed U);have gx:=ag cO U;simp only[ai x]at e3 gx;refine sM (tM @ak @sr (ai e) c d gx e3 @KW) (JJ ?_);exact⟨o++cq x,CT,by rw[AT];exact E⟩
   .rw[u5,xz]at E;subst E;refine ao (cL (ai e) c ek) (JJ ?_);exact hQ _ rfl rfl
  .refine sM (cL @cw.eq_1 (ai e) c) (JJ ?_);refine aj e.ar (λk (o:BS)=>⟨[(1,.ref (cO e)),(3,.own B.length o.length 0 o.length),(4,.int .i64 k)],B++[⟨.aV,1,cW o⟩]⟩) (λk r o=>o++fx kd k r=cq e) [e.name] trivial (CF (bV (ai e) c)) FB (λk x r o d U Z E=>?_) (λk o ek E=>?_)
   .have I:fx kd k (x::r)=cq x++fx kd (k+1) r:=by rw[fx,fx,ba (by omega),ba (by omega),ba (by omega),ba (by omega),nq];rfl
    rw[I]at E;have S8:=C2 List.length E;simp only[AS]at S8;have e3:=e2 x (ed U);have gx:=ag cO U;simp only[ai x]at e3 gx;refine sM (tM @ak @sr (ai e) c d gx e3 @KW) (JJ ?_);exact⟨o++cq x,CT,by rw[AT];exact E⟩
   .rw[u5,xz]at E;subst E;refine ao (cL (ai e) c ek) (JJ ?_);exact hQ _ rfl rfl
  .refine sM (cL @cw.eq_1 (ai e) c) (JJ ?_);refine aj e.ar (λk (o:BS)=>⟨[(1,.ref (cO e)),(3,.own B.length o.length 0 o.length),(4,.int .i64 k)],B++[⟨.aV,1,cW o⟩]⟩) (λk r o=>o++fx kd k r=cq e) [e.name] trivial (CF (bV (ai e) c)) FB (λk x r o d U Z E=>?_) (λk o ek E=>?_)
   .have I:fx kd k (x::r)=cq x++fx kd (k+1) r:=by rw[fx,fx,ba (by omega),ba (by omega),ba (by omega),ba (by omega),nq];rfl
    rw[I]at E;have S8:=C2 List.length E;simp only[AS]at S8;have e3:=e2 x (ed U);have gx:=ag cO U;simp only[ai x]at e3 gx;refine sM (tM @ak @sr (ai e) c d gx e3 @KW) (JJ ?_);exact⟨o++cq x,CT,by rw[AT];exact E⟩
   .rw[u5,xz]at E;subst E;refine ao (cL (ai e) c ek) (JJ ?_);exact hQ _ rfl rfl
 rw[ba c,Bz]at ZO;have d3:¬e.kind=3:=λhh=>c (.inl hh);have d11:¬e.kind=11:=λhh=>c (.inr (.inl hh));have d12:¬e.kind=12:=λhh=>c (.inr (.inr hh));by_cases VW:e.kind=10
 .have FB:[]++fx kd 0 e.ar=cq e:=by rw[ZO,fx,gr VW,gr (D5.trans VW)];rfl
  refine ao (cL @cw.eq_1 (ai e) VW) (JJ ?_);refine aj e.ar (λk (o:BS)=>⟨[(1,.ref (cO e)),(3,.own B.length o.length 0 o.length),(4,.int .i64 k)],B++[⟨.aV,1,cW o⟩]⟩) (λk r o=>o++fx kd k r=cq e) [] trivial (CF (cL (ai e) VW @uH)) FB (λk x r o d U Z E=>?_) (λk o ek E=>?_)
  .have I:fx kd k (x::r)=fx kd (k+1) r:=by rw[fx,fx,gr (D5.trans VW),gr (D5.trans VW)]
   rw[I]at E;refine ao (cL (ai e) VW d) (JJ ?_);exact⟨o,CT,E⟩
  .rw[u5,xz]at E;subst E;refine ao (cL (ai e) VW ek) (JJ ?_);exact hQ _ rfl rfl
 by_cases c8:e.kind=8
 .have FB:[]++fx kd 0 e.ar=cq e:=by rw[ZO,fx,ba VW,ba (by omega),gr (D5.trans c8),gr rfl,show(e.kind==8)=true by simpa using c8];rfl
  refine ao (cL @cw.eq_1 (ai e) c8) (JJ ?_);refine aj e.ar (λk (o:BS)=>⟨[(1,.ref (cO e)),(3,.own B.length o.length 0 o.length),(4,.int .i64 k)],B++[⟨.aV,1,cW o⟩]⟩) (λk r o=>o++fx kd k r=cq e) [] trivial (CF (cL (ai e) c8 @uH)) FB (λk x r o d U Z E=>?_) (λk o ek E=>?_)
  .cases k with
   |zero=>
    have I:fx kd 0 (x::r)=cq x++fx kd (0+1) r:=by simp[fx,D5.trans c8,nq]
    rw[I]at E;have S8:=C2 List.length E;simp only[AS]at S8;have e3:=e2 x (ed U);have gx:=ag cO U;simp only[ai x]at e3 gx;refine sM (rO @ak @sr (ai e) c8 gx e3 @KW) (JJ (λhn=>?_));exact⟨o++cq x,CT,by rw[AT];exact E⟩
   |succ k=>
    have I:fx kd (k+1) (x::r)=fx kd (k+1+1) r:=by simp[fx,D5.trans c8]
    rw[I]at E;have Q8:((k+1:Nat):Int)>0:=by omega
    have gI:(0:Int)<((k+1:Nat):Int):=by omega
    refine ao (fj (ai e) c8 d Q8) (JJ ?_);all_goals first
     |exact⟨o,CT,E⟩
  .rw[u5,xz]at E;subst E;refine ao (cL (ai e) c8 ek) (JJ ?_);exact hQ _ rfl rfl
 have FB:[]++fx kd 0 e.ar=cq e:=by rw[ZO,fx,ba VW,ba (by omega),ba (by omega),show(e.kind==8)=false by simpa using c8];rfl
 refine ao (bV @cw.eq_1 (ai e)) (JJ (λhn hn hn=>?_));refine aj e.ar (λk (o:BS)=>⟨[(1,.ref (cO e)),(3,.own B.length o.length 0 o.length),(4,.int .i64 k)],B++[⟨.aV,1,cW o⟩]⟩) (λk r o=>o++fx kd k r=cq e) [] trivial (CF (bV (ai e) @uH)) FB (λk x r o d U Z E=>?_) (λk o ek E=>?_)
 .have I:fx kd k (x::r)=cq x++fx kd (k+1) r:=by rw[fx,fx,ba (by omega),ba (by omega),ba (by omega),ba (by omega),nq];rfl
  rw[I]at E;have S8:=C2 List.length E;simp only[AS]at S8;have e3:=e2 x (ed U);have gx:=ag cO U;simp only[ai x]at e3 gx;refine sM (rO @ak @sr (ai e) d gx e3 @KW) (JJ (λhn hn=>?_));exact⟨o++cq x,CT,by rw[AT];exact E⟩
 .rw[u5,xz]at E;subst E;refine ao (bV (ai e) ek) (JJ ?_);exact hQ _ rfl rfl
theorem aBp:∀N,aJ Tryz.prog 189 (zN N)
 |0=>aJ.mS (ps:=[]) (I:=[]) trivial trivial pP λe h=>absurd h.1 (S3 _)
 |N+1=>aJ.mS (ps:=[(189,zN N)]) (I:=[]) ⟨aBp N,BB⟩ trivial pP λe h=>by refine aBl N e [] _ h.1 h.2 λs h1 h2=>?_;obtain⟨R,B⟩:=s;dsimp only at h1 h2;subst h1;have ht:(cW (cq e)).take (cq e).length=cW (cq e):=vc (by simp[cW]);have h3:=AW e;have h4:=h.2;show(aS _ cw.res).1/\_;exact ao (fj @cw.eq_1 @ak h2 ht) zz;all_goals rfl
def TN:Ab->List ae->o9:=iY (λ(x:Ex×Nat) a B=>a=[.agg (cO x.1)]/\x.2=B.length) (λx=>((az x.1).length<=1000,.own x.2 (cq x.1).length 0 (cq x.1).length)) λx B=>B++[⟨.aV,1,cW (cq x.1)⟩]
theorem aJi(e)(B:List ae):TN [.agg (cO e)] B=⟨(az e).length<=1000,.own B.length (cq e).length 0 (cq e).length,B++[⟨.aV,1,cW (cq e)⟩]⟩:=by
 refine fh (x:=(e,B.length)) ?_ ⟨rfl,rfl⟩
 rintro⟨x1,x2⟩ ⟨y1,y2⟩ a B ⟨h1,rfl⟩ ⟨h2,rfl⟩
 dsimp only at h1 h2;rw[h1]at h2;simp only[DO,J.agg.injEq,Xv]at h2;rw[Ag _ _ h2]
theorem al9:ez Tryz.prog 189 TN:=by
 refine ez.Vq (ps:=[(189,zN 2000)]) (I:=[]) ⟨aBp 2000,BB⟩ trivial pP (by rintro x a B ⟨rfl,_⟩;rfl) ?_
 rintro⟨e,n⟩ a B ⟨rfl,rfl⟩ hl
 simp only at hl|-;refine aBl 2000 e B _ (by omega) hl λs h1 h2=>?_;rw[SB];exact ao (cL @cw.eq_1 h2 h1) zz;all_goals rfl
@[reducible] def BH(b:Bool):Ab:=[.bool b]
def auK:=show∀x y,BH x=BH y->x=_ fromλx y h=>by simpa[BH]using h
abbrev UD:List Bool->J:=eL BH
theorem PX:ux UD:=yu auK
theorem ai8{n:kY}(I:dA n=true){i}(h:i<n.eqs.length):n.eqs.getD i default∈n.eqs:=ed (iU h)
theorem Db{e}(h:eG e=true):(az e).length<=1000:=by have:=lZ h;omega
def ZG:Ab->Prop×J:=cH tT eI λn i=>(dA n=true/\0<=i/\i<n.eqs.length,.sl (cW (yc n (n.eqs.getD i.toNat default))))
def ahl(n:kY)(i:Int):=show ZG [.agg (fe n),.int .i64 i]=_ from aY qT cF _ n i
theorem ara:aJ Tryz.prog 171 ZG:=by
 refine aJ.se (ps:=[(103,Jn)]) (I:=[(189,TN)]) ⟨aze,BB⟩ ⟨al9,BB⟩ aHc λn i h=>?_;obtain⟨I,h0,h1⟩:=h;dsimp only;obtain⟨m,rfl⟩:=Cy h0;simp only[GC];have hm:m<n.eqs.length:=by omega
 have gx:=ag me (iU hm);have UK:=ai8 I hm;obtain⟨_,_,_,_,_,h6⟩:=dz I;generalize n.eqs.getD m default=x at*;obtain⟨N3,Ll⟩:=h6 x UK;have PJ:=Db Ll;have Mt:=AW x.e;have Y:=aJi x.e [⟨.loc,7,[me x]⟩];rw[lU PJ]at Y;simp only[ai x.e]at Y;have hh:yc n x=cq x.e++(if x.names=[]then []else((mj n (x.names.getD 0 [])).getD []).map (·.on)):=rfl;rw[hh];have Gd:(m:Int)<n.eqs.length:=by omega
 by_cases hn:x.names=[]
 .rw[gr hn,xz];have wJ:(x.names.length:Int)=0:=by rw[hn];rfl
  have ht:(cW (cq x.e)).take (cq x.e).length=cW (cq x.e):=vc (by simp[cW]);exact ao (tM @pO.eq_1 @tT.eq_1 @ak gx Gd Y wJ ht) zz;all_goals rfl
 rw[ba hn];have uK:0<x.names.length:=OT.2 hn;have wJ:¬(x.names.length:Int)=0:=by omega
 have hn1:(0:Int)<x.names.length:=by omega
 have e2:=azd n (x.names.getD 0 []);rw[lU I]at e2;have g0:(cW x.names).getD 0 []=[.str (x.names.getD 0 [])]:=fN (by rw[BY,tx uK];rfl);have aAn:((mj n (x.names.getD 0 [])).getD []).length<=13:=by
  cases hc:mj n (x.names.getD 0 [])with
  |none=>simp
  |some l=>have:=(RO hc (λd Z=>by simp at Z)).2;simpa using this
 generalize (mj n (x.names.getD 0 [])).getD []=l at*;generalize (mj n (x.names.getD 0 [])).isSome=ayM at*;generalize x.names.getD 0 []=s0 at*;refine ao (ey @pO.eq_1 @tT.eq_1 @ak gx Gd Y e2 hn1 g0) (JJ (λhn=>?_));refine aj l (λk (o:BS)=>⟨[(6,.own 1 o.length 0 o.length),(7,.sl (l.map gG)),(9,.int .i64 k)],[⟨.loc,7,[me x]⟩,⟨.aV,1,cW o⟩]⟩) (λk r o=>o++r.map (·.on)=cq x.e++l.map (·.on)/\o.length=(cq x.e).length+k) (cq x.e) (by decide) CT ⟨rfl,rfl⟩ (λk d r o dk U Z E=>?_) (λk o ek E=>?_)
 .obtain⟨r1,r2⟩:=E;have gd:=ag gG U;refine ao (fj @ak dk gd @nc) (JJ ?_);exact⟨o++[d.on],CT,by simpa using r1,by simp[r2];omega⟩
 .obtain⟨r1,r2⟩:=E;rw[DD,xz]at r1;rw[<-r1];have ht:(cW o).take o.length=cW o:=vc (by simp[cW]);exact ao (cL @ak ek ht) zz;all_goals rfl
def Us(n:kY)(bs:List Bool):List (BS×Bool):=(n.eqs.map (·.names)).zip bs
theorem aBA{x:BS}{b:Bool}{l:List (BS×Bool)}{s:B3}:iH ((x,b)::l) s=((!b&&x.any (·==s))||iH l s):=rfl
theorem LM{l:List Bool}{k:Nat}{b:Bool}(h:l[k]? =some b):(l.map BH).getD k []=[.bool b]:=ag BH h
def ZH:Ab->Prop×J:=fp tT UD eS λn bs s=>(dA n=true/\bs.length=n.eqs.length,.bool (iH (Us n bs) s))
def ahm(n:kY)(bs:List Bool)(s):=show ZH [.agg (fe n),.sl (bs.map BH),.str s]=_ from bW qT PX kj _ n bs s
theorem aJj:aJ Tryz.prog 172 ZH:=by
 refine aJ.zP (ps:=[]) (I:=[]) trivial trivial aHd λn bs s h=>?_;try dsimp only at h
 obtain⟨I,hb⟩:=h;obtain⟨_,_,_,h4,_,h6⟩:=dz I;refine ao (cL @avQ.eq_1 @UD.eq_1 @tT.eq_1) (JJ ?_);refine aj n.eqs (λk (_:Unit)=>⟨[(1,.sl (bs.map BH)),(2,.str s),(3,.ref (fe n)),(7,.int .i64 k)],[]⟩) (λk r _=>iH (Us n bs) s=iH ((r.map (·.names)).zip (bs.drop k)) s) () (AI _) CT rfl (λk x r _ d U Z E=>?_) (λk _ e E=>?_)
 .have dk:k<bs.length:=by omega
  obtain⟨b,q1,q2⟩:=eE bs dk;rw[q2,p0,V7,aBA]at E;have gx:=ag me U;have gb:=LM q1;have aD4:=(h6 x (ed U)).1;refine ao @d (JJ ?_);refine aj x.names (λj (_:Unit)=>⟨[(1,.sl (bs.map BH)),(2,.str s),(3,.ref (fe n)),(7,.int .i64 k),(8,.int .i64 j)],[]⟩) (λj w _=>iH (Us n bs) s=((!b&&w.any (·==s))||iH ((r.map (·.names)).zip (bs.drop (k+1))) s)) () (AI _) CT E (λj y w _ dj hy Hs hw=>?_) (λj _ ej hw=>?_)
  .rw[Hl]at hw;have gy:=fN hy;have gN:(k:Int)<bs.length:=by omega
   cases b
   .by_cases N8:y=s
    .subst N8;refine ao (rO @ak d dj gx gb gy hb) (JJ ?_);all_goals(rw[hw];simp;done)
    .have Yj:(y==s)=false:=by simpa using N8
     rw[Yj,Mc]at hw;refine ao (rO @ak d dj gx gb gy hb) (bV ?_ (JJ ?_))<;>intros;all_goals first|exact absurd (by assumption) N8|exact⟨(),CT,hw⟩
   .refine ao (jg @ak d dj gx gb hb) (JJ ?_);all_goals exact⟨(),CT,hw⟩
  .rw[On,Ma,Mc]at hw;refine ao (fj @ak d gx ej) (JJ ?_);all_goals exact⟨(),CT,hw⟩
 .have E:_=false:=E;rw[E];exact ao @e zz;all_goals rfl
theorem arb{n:kY}{bs:List Bool}(h:bs.length=n.eqs.length){k}(hk:k<n.eqs.length):(Us n bs).getD k ([],true)=((n.eqs.getD k default).names,bs.getD k true):=by
 have h1:=iU hk;have h2:bs[k]? =some (bs.getD k true):=by rw[BY,tx (by omega)];rfl
 rw[BY,Us,(List.getElem?_zip_eq_some (z:=((n.eqs.getD k default).names,bs.getD k true))).2 ⟨by rw[M9,h1];rfl,h2⟩];rfl
theorem auL{n:kY}{bs:List Bool}(h:bs.length=n.eqs.length){k}(hk:k<n.eqs.length):Us n (bs.set k true)=place (Us n bs) k:=by
 unfold place;rw[arb h hk];refine FX λj=>?_;simp only[Us];rw[Fa];by_cases hj:k=j
 .subst hj;rw[gr rfl,gr (by simp[h,hk]),(List.getElem?_zip_eq_some (z:=((n.eqs.getD k default).names,true))).2 ⟨by rw[M9,iU hk];rfl,by rw[Fa,gr rfl,gr (by omega)]⟩]
 .rw[ba hj];simp only[List.zip,List.getElem?_zipWith,Fa,ba hj]
def KH(n:kY):List BS:=n.eqs.map (yc n)
theorem ayu{n:kY}{k}(hk:k<n.eqs.length):(KH n).getD k []=yc n (n.eqs.getD k default):=by rw[BY,KH,M9,iU hk];rfl
theorem ayv{n}{s}:((mj n s).getD []).length<=13:=by
 cases hc:mj n s with
 |none=>simp
 |some l=>have:=(RO hc (λd Z=>by simp at Z)).2;simpa using this
theorem ama{n}{x:xY}(h:eG x.e=true):(yc n x).length<=2000:=by
 have h1:=AW x.e;have h2:=Db h;have h3:=ayv (n:=n) (s:=x.names.getD 0 []);unfold yc;rw[AS];split
 .simp;omega
 .rw[Pe];omega
def Qh:Ab->Prop×J:=fp tT UD eI λn bs i=>((dA n=true/\bs.length=n.eqs.length)/\0<=i/\i<n.eqs.length,.bool (tW (KH n) (Us n bs) i.toNat))
def ahn(n:kY)(bs:List Bool)(i:Int):=show Qh [.agg (fe n),.sl (bs.map BH),.int .i64 i]=_ from bW qT PX cF _ n bs i
theorem ard:aJ Tryz.prog 156 Qh:=by
 refine aJ.zP (ps:=[(171,ZG),(172,ZH)]) (I:=[]) ⟨ara,aJj,BB⟩ trivial aGY λn bs i h=>?_;obtain⟨⟨I,hb⟩,h0,h1⟩:=h;dsimp only;obtain⟨m,rfl⟩:=Cy h0;simp only[GC];have hm:m<n.eqs.length:=by omega
 have Y:=ahl n m;rw[lU (show dA n=true/\(0:Int)<=m/\(m:Int)<n.eqs.length from⟨I,by omega,by omega⟩),GC]at Y;have hz:tW (KH n) (Us n bs) m=((yc n (n.eqs.getD m default)).all (λs=> !iH (Us n bs) s)&& !bs.getD m true):=by unfold tW;rw[ayu hm,arb hb hm]
 rw[hz];have gb:(bs.map BH).getD m []=[.bool (bs.getD m true)]:=LM (by rw[BY,tx (by omega)];rfl);have gN:m<bs.length:=by omega
 have e2:=λs=>ahm n bs s;simp only[lU (show dA n=true/\bs.length=n.eqs.length from⟨I,hb⟩)]at e2;have _z:(yc n (n.eqs.getD m default)).length<=2000:=ama (((dz I).2.2.2.2.2 _ (ai8 I hm)).2);generalize yc n (n.eqs.getD m default)=l at*;generalize bs.getD m true=b at*;refine ao (fj @avF.eq_1 @UD.eq_1 @tT.eq_1 Y) (JJ ?_);refine aj l (λk (_:Unit)=>⟨[(1,.sl (bs.map BH)),(2,.int .i64 m),(3,.ref (fe n)),(7,.sl (cW l)),(8,.int .i64 k)],[]⟩) (λk r _=>(l.all λs=> !iH (Us n bs) s)=r.all λs=> !iH (Us n bs) s) () (AI _) CT rfl (λk s r _ d U Z E=>?_) (λk _ e E=>?_)
 .rw[MM]at E;have gs:=fN U;have e3:=e2 s;generalize iH (Us n bs) s=w at*;cases w
  .refine ao (fj @ak d gs e3) (JJ ?_);exact⟨(),CT,E⟩
  .refine ao (fj @ak d gs e3) (JJ ?_);all_goals(rw[E];rfl)
 .have E:_=true:=E;rw[E];exact ao (fj @ak e gb gN) zz;all_goals rfl
def I9(n:Nat):Ab:=[.int .i64 n]
abbrev azG:List Nat->J:=eL I9
def UR:BI->Int
 |some k=>k
 |none=> -1
theorem Gf{n j}(h:j<n):(List.range n).drop j=j::(List.range n).drop (j+1):=by rw[Hk (by simpa using h),List.getElem_range]
def TP:Ab->Prop×J:=bJ tT λn=>(dA n=true,.b9 [.sl ((yd n).1.map I9),.bool (yd n).2])
def adT(n):=show TP [.agg (fe n)]=_ from aI qT _ n
theorem aho:aJ Tryz.prog 130 TP:=by
 refine aJ.mS (ps:=[(156,Qh)]) (I:=[]) ⟨ard,BB⟩ trivial aGz λn h=>?_;dsimp only;have I:dA n=true:=h;obtain⟨_,_,_,h4,_,_⟩:=dz I;have BW:(n.eqs.map λx=>(x.names,false))=Us n (List.replicate n.eqs.length false):=by
  refine FX λj=>?_;simp only[Us,M9,List.zip,List.getElem?_zipWith,List.getElem?_replicate];cases hj:n.eqs[j]? with
  |none=>rfl
  |some x=>rw[gr (pc.1 hj).1];rfl
 have Ac:yd n=gM (KH n) n.eqs.length (Us n (List.replicate n.eqs.length false)):=by rw[<-BW];rfl
 have Ja:List.replicate n.eqs.length [J.bool false]=(List.replicate n.eqs.length false).map BH:=by rw[List.map_replicate]
 refine ao (bV @avr.eq_1 @tT.eq_1) (JJ ?_);refine iQ (λx:List Nat×List Bool=>⟨[(1,.ref (fe n)),(4,.own 0 n.eqs.length 0 n.eqs.length),(5,.own 1 x.1.length 0 x.1.length)],[⟨.aV,1,x.2.map BH⟩,⟨.aV,1,x.1.map I9⟩]⟩)
  (λx=>x.2.length=n.eqs.length/\x.1.length<=n.eqs.length/\yd n=(x.1++(gM (KH n) (n.eqs.length-x.1.length) (Us n x.2)).1,(gM (KH n) (n.eqs.length-x.1.length) (Us n x.2)).2)) (λx=>n.eqs.length-x.1.length) ([],List.replicate n.eqs.length false) (by decide) (CF @Ja) ⟨by simp,AI _,by rw[Ac];rfl⟩ λx U=>?_
 obtain⟨out,bs⟩:=x;obtain⟨hb,ED,E⟩:=U;dsimp only at hb ED E;by_cases mP:out.length<n.eqs.length;rotate_left
 .have he:n.eqs.length-out.length=0:=by omega
  rw[he,gM]at E;rw[E,xz];have ht:(out.map I9).take out.length=out.map I9:=vc (by simp);have FR:¬(out.length:Int)<n.eqs.length:=by omega
  exact ao (bV FR ht) zz;all_goals rfl
 have FR:(out.length:Int)<n.eqs.length:=by omega
 rw[show n.eqs.length-out.length=(n.eqs.length-out.length-1)+1 by omega,gM]at E;have a_:Rz (KH n) (Us n bs)=(List.range n.eqs.length).find? (tW (KH n) (Us n bs)):=by unfold Rz;rw[KH,Pe]
 rw[a_]at E;generalize ZO:tW (KH n) (Us n bs)=rd at*;have Y:∀j:Nat,j<n.eqs.length->Qh [.agg (fe n),.sl (bs.map BH),.int .i64 j]=(True,.bool (rd j)):=λj hj=>by have:=ahn n bs j;rw[lU (show(dA n=true/\bs.length=n.eqs.length)/\(0:Int)<=j/\(j:Int)<n.eqs.length from⟨⟨I,hb⟩,by omega,by omega⟩),GC,ZO]at this;exact this
 refine ao @FR (JJ ?_);have ayw:(List.range n.eqs.length).drop n.eqs.length=[]:=Z8 (by simp);refine iQ (λj:Nat=>⟨[(1,.ref (fe n)),(4,.own 0 n.eqs.length 0 n.eqs.length),(5,.own 1 out.length 0 out.length),(6,.int .i64 (UR (((List.range n.eqs.length).drop j).find? rd))),(7,.int .i64 ((j:Int)-1))],[⟨.aV,1,bs.map BH⟩,⟨.aV,1,out.map I9⟩]⟩) (λj=>j<=n.eqs.length) (λj=>j) n.eqs.length (by decide) (CF @ayw) (By _) λj hj=>?_;cases j with
 |zero=>
  rw[List.drop_zero];have hj0:¬(((0:Nat):Int)-1)≥0:=by decide
  have Hq:¬(0:Int)<=((0:Nat):Int)-1:=by decide
  cases hf:(List.range n.eqs.length).find? rd with
  |none=>
   rw[hf]at E;dsimp only at E;rw[xz]at E;rw[E];have ht:(out.map I9).take out.length=out.map I9:=vc (by simp);have ho:UR none= -1:=rfl;exact ao (bV ho ht) zz;all_goals rfl
  |some i=>
   rw[hf]at E;dsimp only at E;have Hb:i<n.eqs.length:=by have:=V3 hf;simpa using this
   have ho:UR (some i)=(i:Int):=rfl;have YW:¬(i:Int)<0:=by omega
   have FJ:(bs.map BH).set i [.bool true]=(bs.set i true).map BH:=by rw[List.map_set]
   have VK:out.map I9++[[J.int .i64 i]]=(out++[i]).map I9:=by simp[I9]
   have b_:i<bs.length:=by omega
   have d_:(i:Int)<n.eqs.length:=by omega
   have f_:(bs.map BH).getD i []=[.bool (bs.getD i true)]:=LM (by rw[BY,tx b_];rfl);refine ao (fF ho YW d_ hb f_) (JJ ?_);have hk:n.eqs.length-(out++[i]).length=n.eqs.length-out.length-1:=by simp;omega
   exact⟨(out++[i],bs.set i true),(CF (bV FJ VK)),⟨by simp[hb],by simp;omega,by dsimp only;rw[E,hk,auL hb Hb,AT];rfl⟩,by dsimp only;rw[hk];omega⟩
 |succ j=>
  have hj0:((j+1:Nat):Int)-1=j:=by omega
  have e2:=Y j (by omega);rw[hj0];have hjs:(j:Int)≥0:=by omega
  have gW:(bs.map BH).take n.eqs.length=bs.map BH:=vc (by simp;omega);have awa:UR (((List.range n.eqs.length).drop j).find? rd)=if rd j then(j:Int)else UR (((List.range n.eqs.length).drop (j+1)).find? rd):=by rw[Gf (by omega),Kb];cases rd j<;>rfl
  generalize rd j=b at*;cases b
  .refine ao (fF hjs e2 gW hb @By) (JJ ?_);exact⟨j,(CF (bV awa @AN)),by omega,by omega⟩
  .refine ao (fF hjs e2 gW hb @By) (JJ ?_);exact⟨j,(CF @awa),by omega,by omega⟩
def TQ:Ab->Prop×J:=bJ bA λp=>(bF p=true,.agg (mI (mi p)))
def adU(p):=show TQ [.agg (cE p)]=_ from aI dY _ p
theorem ahp{p:fc}(h:ke p=fk):mi p=bk Mk 0 p.nodes:=by unfold mi;rw[ba (by rw[h];simp)]
theorem aBF{p}(h:¬ke p=fk):mi p=ke p:=by unfold mi;rw[gr h]
def g_(l:List Nat)(k:Nat):Bool:=l.any (·==k)
theorem amb{n:kY}:(yd n).1.length<=n.eqs.length:=by
 have:∀(I:List BS) (k:Nat) (pl:List (BS×Bool)),(gM I k pl).1.length<=k:=by
  intro I k;induction k with
  |zero=>intro pl;simp[gM]
  |succ k ih=>
   intro pl;rw[gM];split
   .simp
   .have:=ih (place pl ‹Nat›);simpa using this
 exact this _ _ _
theorem aJk:aJ Tryz.prog 100 TQ:=by
 refine aJ.mS (ps:=[(129,RQ),(130,TP),(102,w7)]) (I:=[]) ⟨aJc,aho,fW,BB⟩ trivial aFX λp h=>?_;dsimp only;have hP:bF p=true:=h;have Y:=abw p;rw[lU hP]at Y;obtain⟨Ua,zR⟩:=fE hP;by_cases c1:ke p=fk;rotate_left
 .have Z:decide (ke p=fk)=false:=Z7 c1;rw[aBF c1];generalize ke p=f at*;exact ao (fF @pN.eq_1 @bA.eq_1 Y @O1 Z) zz;all_goals rfl
 rw[ahp c1];have Z:decide (ke p=fk)=true:=ON c1;refine ao (fF @pN.eq_1 @bA.eq_1 Y @O1 Z) (JJ ?_);refine aj p.nodes (λj (_:Unit)=>⟨[(1,.ref (cE p)),(2,.ptr 0 1 0 0),(4,.int .i64 j)],[⟨.loc,3,[mI fk]⟩,⟨.loc,3,[mI (ke p)]⟩]⟩) (λj r _=>bk Mk 0 p.nodes=bk Mk j r) () (by decide) CT rfl (λj n r _ d U Z E=>?_) (λj _ e E=>?_);rotate_left
 .have E:bk Mk 0 p.nodes=fk:=E;rw[E];refine ao @e (JJ ?_);all_goals rfl
 rw[bk]at E;have Uc:=zR n (ed U);have e2:=adT n;rw[lU Uc]at e2;have gn:=ag fe U;obtain⟨_,_,_,l4,_,_⟩:=dz Uc;have ED:=amb (n:=n);have hT:Mk j n=if(yd n).2 then fk else match (List.range n.eqs.length).find? (λk=> !g_ (yd n).1 k)with|some k=>((j:Int),(k:Int),9)|none=>fk:=rfl
 rw[hT]at E;generalize yd n=oo at*;obtain⟨out,ob⟩:=oo;dsimp only at E e2 ED;cases ob;rotate_left
 .simp only[Bp]at E;refine ao (cL d gn e2) (JJ ?_);exact⟨(),CT,E⟩
 simp only[AN,Bv]at E;refine ao (cL d gn e2) (JJ ?_);generalize JE:(λk=> !g_ out k)=pr at*;refine aj n.eqs (λk (_:Unit)=>⟨[(1,.ref (cE p)),(2,.ptr 0 1 0 0),(4,.int .i64 j),(5,.sl (out.map I9)),(7,.int .i64 k)],[⟨.loc,3,[mI fk]⟩,⟨.loc,3,[mI (ke p)]⟩]⟩) (λk q _=>(List.range n.eqs.length).find? pr=((List.range n.eqs.length).drop k).find? pr) () (by decide) CT rfl (λk x q _ dk US Q3 hq=>?_) (λk _ ek hq=>?_)
 .rw[Gf dk,Kb]at hq;refine ao (cL d gn dk) (JJ ?_);refine aj out (λm (b:Bool)=>⟨[(1,.ref (cE p)),(2,.ptr 0 1 0 0),(4,.int .i64 j),(5,.sl (out.map I9)),(7,.int .i64 k),(8,.bool b),(9,.int .i64 m)],[⟨.loc,3,[mI fk]⟩,⟨.loc,3,[mI (ke p)]⟩]⟩) (λm w b=>(b||w.any (·==k))=g_ out k) false (by decide) CT rfl (λm y w b dm hy hdm hw=>?_) (λm b em hw=>?_)
  .rw[Hl]at hw;have gy:=ag I9 hy;cases b
   .rw[Mc]at hw;by_cases hyk:y=k
    .subst hyk;refine ao (cL dm gy @I9.eq_1) (JJ ?_);all_goals exact⟨true,CT,by rw[<-hw];simp⟩
    .have aGd:¬(y:Int)=k:=by omega
     have hb:(y==k)=false:=by simpa using hyk
     have Ki:((y:Int)==(k:Int))=false:=by simpa using aGd
     rw[hb,Mc]at hw;refine ao (fj dm gy @I9.eq_1 Ki) (JJ ?_);all_goals exact⟨false,CT,hw⟩
   .refine ao @dm (JJ ?_);all_goals exact⟨true,CT,by rw[<-hw];simp⟩
  .rw[On,Bool.or_false]at hw;have zK:pr k= !b:=by rw[<-JE,hw]
   rw[zK]at hq;cases b
   .have hq:(List.range n.eqs.length).find? pr=some k:=hq;rw[hq]at E;have h9:¬(((j:Int),(k:Int),(9:Int)):L6)=fk:=by simp[fk]
    rw[ba h9]at E;refine ao (bV @iI em) (JJ ?_);all_goals exact NT E
   .have hq:(List.range n.eqs.length).find? pr=((List.range n.eqs.length).drop (k+1)).find? pr:=hq;refine ao @em (JJ ?_);all_goals exact⟨(),CT,hq⟩
 .have h_:(List.range n.eqs.length).drop k=[]:=Z8 (by simp;omega);rw[h_]at hq;have hq:(List.range n.eqs.length).find? pr=none:=hq;rw[hq,gr rfl]at E;refine ao (cL d gn ek) (JJ ?_);all_goals exact⟨(),CT,E⟩
def yo(N:Nat):Ab->Prop×J:=bJ gX λe=>((az e).length<N/\(az e).length<=1000,.b9 [.bool (nu e).1,.bool (nu e).2])
def Nl(N)(e):=show yo N [.agg (cO e)]=_ from aI gC _ e
def ZI(N:Nat):Ab->Prop×J:=bJ tq λl=>((∀x∈l,(az x).length<N/\(az x).length<=1000)/\l.length<=1000,.b9 [.bool (fX l).1,.bool (fX l).2])
def ahq(N)(l:List Ex):=show ZI N [.sl (l.map cO)]=_ from aI atd _ l
theorem ahr(x)(l):fX (x::l)=((nu x).1||(fX l).1,(nu x).2&&(fX l).2):=by rw[fX]
theorem arf(N)(hO:aJ Tryz.prog 101 (yo N)):aJ Tryz.prog 131 (ZI N):=by
 refine aJ.mS (ps:=[(101,yo N)]) (I:=[]) ⟨hO,BB⟩ trivial aGA λl h=>?_;obtain⟨h1,h2⟩:=h;dsimp only;have Y:∀x∈l,yo N [.agg (cO x)]=(True,.b9 [.bool (nu x).1,.bool (nu x).2]):=λx U=>by rw[Nl,lU (h1 x U)]
 refine ao (bV @avs.eq_1 @tq.eq_1) (JJ ?_);refine aj l (λk (y:Bool×Bool)=>⟨[(0,.sl (l.map cO)),(4,.bool y.1),(5,.bool y.2),(6,.int .i64 k)],[]⟩) (λk r y=>(y.1||(fX r).1,y.2&&(fX r).2)=fX l) (false,true) (AI _) CT (by simp) (λk x r y d U Z E=>?_) (λk y e E=>?_)
 .rw[ahr]at E;have e2:=Y x (ed U);have gx:=ag cO U;simp only[ai x]at e2 gx;obtain⟨y1,y2⟩:=y;generalize nu x=z at*;obtain⟨z1,z2⟩:=z;dsimp only at E e2;cases y1<;>cases y2<;>cases z1<;>cases z2;all_goals(refine ao (cL d gx e2) (JJ ?_))
  .exact⟨(false,false),CT,E⟩
  .exact⟨(false,false),CT,E⟩
  .exact⟨(true,false),CT,E⟩
  .exact⟨(true,false),CT,E⟩
  .exact⟨(false,false),CT,E⟩
  .exact⟨(false,true),CT,E⟩
  .exact⟨(true,false),CT,E⟩
  .exact⟨(true,true),CT,E⟩
  .exact⟨(true,false),CT,E⟩
  .exact⟨(true,false),CT,E⟩
  .exact⟨(true,false),CT,E⟩
  .exact⟨(true,false),CT,E⟩
  .exact⟨(true,false),CT,E⟩
  .exact⟨(true,true),CT,E⟩
  .exact⟨(true,false),CT,E⟩
  .exact⟨(true,true),CT,E⟩
 .obtain⟨y1,y2⟩:=y;have E:(y1,y2)=fX l:=by rw[<-E];show _=(y1||(fX []).1,y2&&(fX []).2);rw[fX];simp
  rw[<-E];exact ao @e zz;all_goals rfl
theorem arh(N)(hO:aJ Tryz.prog 101 (yo N)):aJ Tryz.prog 101 (yo (N+1)):=by
 refine aJ.mS (ps:=[(131,ZI N),(101,yo N)]) (I:=[]) ⟨arf N hO,hO,BB⟩ trivial ayj λe h=>?_;obtain⟨h1,h2⟩:=h;dsimp only;have I:=kf e;have h3:=jm e.ar;have h4:=jX e;have Y:=ahq N e.ar;rw[lU (show(∀x∈e.ar,(az x).length<N/\(az x).length<=1000)/\e.ar.length<=1000 from⟨λx U=>by have:=kK U;omega,by omega⟩)]at Y;have e2:∀x∈e.ar,yo N [.agg (cO x)]=(True,.b9 [.bool (nu x).1,.bool (nu x).2]):=λx U=>by have:=kK U;rw[Nl,lU (show(az x).length<N/\(az x).length<=1000 from⟨by omega,by omega⟩)]
 have hz:=ao5 e;rw[hz];generalize hL:fX e.ar=L at*;obtain⟨L1,aBG⟩:=L;dsimp only at Y|-;by_cases c9:e.kind=9
 .rw[ba (by omega),gr c9];by_cases B:0<e.ar.length
  .rw[gr B];have g0:=ag cO (iU B);have hm:=ed (iU B);have e3:=e2 _ hm;have h0:v5 e.ar=(nu (e.ar.getD 0 default)).1:=by
    revert B;cases e.ar with
    |nil=>intro B;simp at B
    |cons x l=>intro _;rw[v5];rfl
   rw[h0];generalize e.ar.getD 0 default=x at*;simp only[ai x]at g0 e3;have eZ:(0:Int)<e.ar.length:=by omega
   generalize nu x=z at*;obtain⟨z1,z2⟩:=z;exact ao (tM @mC.eq_1 @gX.eq_1 (ai e) c9 Y e3 g0 eZ) zz;all_goals(simp_all;done)
  .rw[ba B];have eZ:¬(0:Int)<e.ar.length:=by omega
   exact ao (jg @mC.eq_1 @gX.eq_1 (ai e) c9 Y eZ) zz;all_goals(simp_all;done)
 refine ao (fF @mC.eq_1 @gX.eq_1 (ai e) c9 Y) (tM ?_ ?_ ?_ ?_ ?_ ?_ ?_ (JJ ?_))<;>intros;all_goals(simp_all;done)
theorem adV:∀N,aJ Tryz.prog 101 (yo N)
 |0=>aJ.mS (ps:=[]) (I:=[]) trivial trivial ayj λe h=>absurd h.1 (S3 _)
 |N+1=>arh N (adV N)
def RC:Ab->Prop×J:=bJ bA λp=>(bF p=true,.agg (mI (pq p)))
def abq(p):=show RC [.agg (cE p)]=_ from aI dY _ p
theorem ahs{p:fc}(h:mi p=fk):pq p=bk Ml 0 p.nodes:=by unfold pq;rw[ba (by rw[h];simp)]
theorem aBI{p}(h:¬mi p=fk):pq p=mi p:=by unfold pq;rw[gr h]
def OS(j:Nat)(k:Nat)(x:xY):L6:=if(nu x.e).1|| !(nu x.e).2 then((j:Int),(k:Int),10)else fk
theorem aJm:aJ Tryz.prog 73 RC:=by
 refine aJ.mS (ps:=[(100,TQ),(101,yo 300),(102,w7)]) (I:=[]) ⟨aJk,adV 300,fW,BB⟩ trivial aEX λp h=>?_;dsimp only;have hP:bF p=true:=h;have Y:=adU p;rw[lU hP]at Y;obtain⟨Ua,zR⟩:=fE hP;by_cases c1:mi p=fk;rotate_left
 .have Z:=Z7 c1;rw[aBI c1];generalize mi p=f at*;exact ao (fF @pM.eq_1 @bA.eq_1 Y @O1 Z) zz;all_goals rfl
 rw[ahs c1];have Z:=ON c1;refine ao (fF @pM.eq_1 @bA.eq_1 Y @O1 Z) (JJ ?_);refine aj p.nodes (λj (_:Unit)=>⟨[(1,.ref (cE p)),(2,.ptr 0 1 0 0),(4,.int .i64 j)],[⟨.loc,3,[mI fk]⟩,⟨.loc,3,[mI (mi p)]⟩]⟩) (λj r _=>bk Ml 0 p.nodes=bk Ml j r) () (by decide) CT rfl (λj n r _ d U Z E=>?_) (λj _ e E=>?_);rotate_left
 .have E:bk Ml 0 p.nodes=fk:=E;rw[E];refine ao @e (JJ ?_);all_goals rfl
 rw[bk]at E;have Uc:=zR n (ed U);have gn:=ag fe U;obtain⟨_,_,_,l4,_,l6⟩:=dz Uc;have hT:Ml j n=bk (OS j) 0 n.eqs:=rfl;rw[hT]at E;refine ao @d (JJ ?_);refine aj n.eqs (λk (_:Unit)=>⟨[(1,.ref (cE p)),(2,.ptr 0 1 0 0),(4,.int .i64 j),(5,.int .i64 k)],[⟨.loc,3,[mI fk]⟩,⟨.loc,3,[mI (mi p)]⟩]⟩) (λk q _=>bk (OS j) 0 n.eqs=bk (OS j) k q) () (by decide) CT rfl (λk x q _ dk US Q3 hq=>?_) (λk _ ek hq=>?_)
 .rw[bk]at hq;have vD:=(l6 x (ed US)).2;have e5:=Nl 300 x.e;rw[lU (show(az x.e).length<300/\(az x.e).length<=1000 from⟨lZ vD,Db vD⟩)]at e5;simp only[ai x.e]at e5;have gx:=ag me US;have hl:OS j k x=if(nu x.e).1|| !(nu x.e).2 then((j:Int),(k:Int),10)else fk:=rfl;rw[hl]at hq;generalize nu x.e=z at*;obtain⟨z1,z2⟩:=z;have h7:¬(((j:Int),(k:Int),(10:Int)):L6)=fk:=by simp[fk]
  cases z1<;>cases z2;all_goals dsimp only at hq
  .rw[gr (show(false|| !false)=true from rfl),ba h7]at hq;rw[hq,ba h7]at E;refine ao (jg @iI d gn dk gx e5) (JJ ?_);all_goals exact NT E
  .rw[ba (show¬(false|| !true)=true from by decide),gr rfl]at hq;refine ao (fF d gn dk gx e5) (JJ ?_);all_goals exact⟨(),CT,hq⟩
  .rw[gr (show(true|| !false)=true from rfl),ba h7]at hq;rw[hq,ba h7]at E;refine ao (jg @iI d gn dk gx e5) (JJ ?_);all_goals exact NT E
  .rw[gr (show(true|| !true)=true from rfl),ba h7]at hq;rw[hq,ba h7]at E;refine ao (jg @iI d gn dk gx e5) (JJ ?_);all_goals exact NT E
 .have hq:_=fk:=hq;rw[hq,gr rfl]at E;refine ao (cL d gn ek) (JJ ?_);all_goals exact⟨(),CT,E⟩
end
end Go.Proofs.YtldnkkkooabaeaaGreat
