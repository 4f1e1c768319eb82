/- Flows: what equations read, their order: the walk (21, 22). -/
import Derived.Test.YtldnkkkooabaeaaGreatPgHb
set_option linter.all false
set_option maxRecDepth 20000
namespace Go.Proofs.YtldnkkkooabaeaaGreat
noncomputable section
open Go.Nk
def VO(q:Pl):BS:=if q.kind=5 then []else q.args.map (·.1)
def O0(q:Pl):BS:=VO q++(if q.reset then [q.ev]else [])++q.on.map (·.1)
theorem y7(q:Pl):gA q=(O0 q).filter (· !=[]):=rfl
def gu(q:Pl):Prop:=q.args.length<=1000/\q.on.length<=1000/\q.names.length<=1000
def Rv:Ab->Prop×J:=bJ J1 λq=>(gu q,.sl (cW (gA q)))
theorem abg(q):Rv [.agg (iK q)]=(gu q,.sl (cW (gA q))):=aI _E _ q
set_option maxHeartbeats 2000000 in
theorem aJt:aJ Tryz.prog 140 Rv:=by
 refine aJ.mS (ps:=[]) (I:=[]) trivial trivial aGI λq h=>?_;try dsimp only at h
 obtain⟨kind,names,op,args,init,node,rs,ev,en,on⟩:=q;obtain⟨ha,Ac,_⟩:=h;dsimp only at ha Ac;by_cases k5:kind=5
 .subst k5;have k5:(5:Int)=5:=rfl;refine ao (bV @pn.eq_1 @J1.eq_1) (JJ ?_);refine aj ([]:List Unit) (λk (_:Unit)=>⟨[(1,.ref (iK ⟨5,names,op,args,init,node,rs,ev,en,on⟩)),(3,.own 0 0 0 0),(4,.int .i64 k)],[⟨.aV,1,[]⟩]⟩) (λk r _=>True) () (by decide) CT trivial (λk x r o d U Z E=>absurd d (by simp)) (λk _ e E=>?_);have e:k=0:=e;subst e;cases rs
  .by_cases mP:(0:Int)<args.length;all_goals(refine ao @mP (JJ ?_))
   all_goals
    refine aj on (λk (o:BS)=>⟨[(1,.ref (iK ⟨5,names,op,args,init,node,false,ev,en,on⟩)),(3,.own 0 o.length 0 o.length),(5,.int .i64 k)],[⟨.aV,1,cW o⟩]⟩) (λk r o=>o++r.map (·.1)=O0 ⟨5,names,op,args,init,node,false,ev,en,on⟩/\o.length<=1001+k) [] (by decide) (CF @uH) ⟨by simp[O0,VO],by first|(simp;done)|omega|(simp;omega)⟩ (λk x r o d U Z E=>?_) (λk o e E=>?_)
    .obtain⟨r1,r2⟩:=E;have ga:=ag eD U;obtain⟨a1,a2⟩:=x;refine ao (fj @ak d ga @nc) (JJ ?_);exact⟨o++[a1],CT,by simpa using r1,by simp;omega⟩
    .obtain⟨r1,r2⟩:=E;rw[DD,xz]at r1;rw[y7,<-r1];refine ao @e (JJ ?_);refine aj o (λj (w:BS)=>⟨[(3,.own 0 o.length 0 o.length),(6,.own 1 w.length 0 w.length),(7,.int .i64 j)],[⟨.aV,1,cW o⟩,⟨.aV,1,cW w⟩]⟩) (λj r w=>w++r.filter (· !=[])=o.filter (· !=[])/\w.length<=j) [] (by decide) (CF @uH) ⟨rfl,By _⟩ (λj y r w dj hy Hs hw=>?_) (λj w ej hw=>?_)
     .obtain⟨w1,w2⟩:=hw;have gy:=fN hy;rw[Cw]at w1;by_cases Rw:y=[]
      .have Yj:(y !=[])=false:=by simp[Rw]
       rw[Yj]at w1;refine ao (fj @ak dj gy Rw) (JJ ?_);all_goals first
        |exact absurd Rw (by assumption)
        |exact⟨w,CT,by simpa using w1,by omega⟩
      .have Yj:(y !=[])=true:=by simp[Rw]
       rw[Yj]at w1;refine ao (fj @ak dj gy @nc) (bV ?_ (JJ ?_))<;>intros;all_goals first
        |exact absurd (by assumption) Rw
        |exact⟨w++[y],CT,by simpa using w1,by simp;omega⟩
     .obtain⟨w1,w2⟩:=hw;have w1:w=o.filter (· !=[]):=by simpa using w1
      have ht:(cW w).take w.length=cW w:=vc (by simp[cW]);refine ao (cL @ak ej ht) (JJ ?_);all_goals(rw[<-w1];done)
  .by_cases mP:(0:Int)<args.length;all_goals(refine ao @mP (JJ ?_))
   all_goals
    refine aj on (λk (o:BS)=>⟨[(1,.ref (iK ⟨5,names,op,args,init,node,true,ev,en,on⟩)),(3,.own 0 o.length 0 o.length),(5,.int .i64 k)],[⟨.aV,1,cW o⟩]⟩) (λk r o=>o++r.map (·.1)=O0 ⟨5,names,op,args,init,node,true,ev,en,on⟩/\o.length<=1001+k) [ev] (by decide) CT ⟨by simp[O0,VO],by first|(simp;done)|omega|(simp;omega)⟩ (λk x r o d U Z E=>?_) (λk o e E=>?_)
    .obtain⟨r1,r2⟩:=E;have ga:=ag eD U;obtain⟨a1,a2⟩:=x;refine ao (fj @ak d ga @nc) (JJ ?_);exact⟨o++[a1],CT,by simpa using r1,by simp;omega⟩
    .obtain⟨r1,r2⟩:=E;rw[DD,xz]at r1;rw[y7,<-r1];refine ao @e (JJ ?_);refine aj o (λj (w:BS)=>⟨[(3,.own 0 o.length 0 o.length),(6,.own 1 w.length 0 w.length),(7,.int .i64 j)],[⟨.aV,1,cW o⟩,⟨.aV,1,cW w⟩]⟩) (λj r w=>w++r.filter (· !=[])=o.filter (· !=[])/\w.length<=j) [] (by decide) (CF @uH) ⟨rfl,By _⟩ (λj y r w dj hy Hs hw=>?_) (λj w ej hw=>?_)
     .obtain⟨w1,w2⟩:=hw;have gy:=fN hy;rw[Cw]at w1;by_cases Rw:y=[]
      .have Yj:(y !=[])=false:=by simp[Rw]
       rw[Yj]at w1;refine ao (fj @ak dj gy Rw) (JJ ?_);all_goals first
        |exact absurd Rw (by assumption)
        |exact⟨w,CT,by simpa using w1,by omega⟩
      .have Yj:(y !=[])=true:=by simp[Rw]
       rw[Yj]at w1;refine ao (fj @ak dj gy @nc) (bV ?_ (JJ ?_))<;>intros;all_goals first
        |exact absurd (by assumption) Rw
        |exact⟨w++[y],CT,by simpa using w1,by simp;omega⟩
     .obtain⟨w1,w2⟩:=hw;have w1:w=o.filter (· !=[]):=by simpa using w1
      have ht:(cW w).take w.length=cW w:=vc (by simp[cW]);refine ao (cL @ak ej ht) (JJ ?_);all_goals(rw[<-w1];done)
 .refine ao (bV @pn.eq_1 @J1.eq_1) (JJ ?_);refine aj args (λk (o:BS)=>⟨[(1,.ref (iK ⟨kind,names,op,args,init,node,rs,ev,en,on⟩)),(3,.own 0 o.length 0 o.length),(4,.int .i64 k)],[⟨.aV,1,cW o⟩]⟩) (λk r o=>o++r.map (·.1)=args.map (·.1)/\o.length=k) [] (by decide) (CF @uH) ⟨rfl,rfl⟩ (λk x r o d U Z E=>?_) (λk o e E=>?_)
  .obtain⟨r1,r2⟩:=E;have ga:=ag eD U;obtain⟨a1,a2⟩:=x;refine ao (fj @ak d ga @nc) (JJ (λhn=>?_));exact⟨o++[a1],CT,by simpa using r1,by simp[r2]⟩
  obtain⟨r1,r2⟩:=E;rw[DD,xz]at r1;have hk:¬(k:Int)<args.length:=by omega
  have ED:o.length<=1000:=by omega
  cases rs
  .refine ao @hk (JJ ?_);all_goals
    refine aj on (λk (o:BS)=>⟨[(1,.ref (iK ⟨kind,names,op,args,init,node,false,ev,en,on⟩)),(3,.own 0 o.length 0 o.length),(5,.int .i64 k)],[⟨.aV,1,cW o⟩]⟩) (λk r o=>o++r.map (·.1)=O0 ⟨kind,names,op,args,init,node,false,ev,en,on⟩/\o.length<=1001+k) o (by decide) CT ⟨by simp[O0,VO,k5,<-r1],by first|(simp;done)|omega|(simp;omega)⟩ (λk x r o d U Z E=>?_) (λk o e E=>?_)
    .obtain⟨r1,r2⟩:=E;have ga:=ag eD U;obtain⟨a1,a2⟩:=x;refine ao (fj @ak d ga @nc) (JJ ?_);exact⟨o++[a1],CT,by simpa using r1,by simp;omega⟩
    .obtain⟨r1,r2⟩:=E;rw[DD,xz]at r1;rw[y7,<-r1];refine ao @e (JJ ?_);refine aj o (λj (w:BS)=>⟨[(3,.own 0 o.length 0 o.length),(6,.own 1 w.length 0 w.length),(7,.int .i64 j)],[⟨.aV,1,cW o⟩,⟨.aV,1,cW w⟩]⟩) (λj r w=>w++r.filter (· !=[])=o.filter (· !=[])/\w.length<=j) [] (by decide) (CF @uH) ⟨rfl,By _⟩ (λj y r w dj hy Hs hw=>?_) (λj w ej hw=>?_)
     .obtain⟨w1,w2⟩:=hw;have gy:=fN hy;rw[Cw]at w1;by_cases Rw:y=[]
      .have Yj:(y !=[])=false:=by simp[Rw]
       rw[Yj]at w1;refine ao (fj @ak dj gy Rw) (JJ ?_);all_goals first
        |exact absurd Rw (by assumption)
        |exact⟨w,CT,by simpa using w1,by omega⟩
      .have Yj:(y !=[])=true:=by simp[Rw]
       rw[Yj]at w1;refine ao (fj @ak dj gy @nc) (bV ?_ (JJ ?_))<;>intros;all_goals first
        |exact absurd (by assumption) Rw
        |exact⟨w++[y],CT,by simpa using w1,by simp;omega⟩
     .obtain⟨w1,w2⟩:=hw;have w1:w=o.filter (· !=[]):=by simpa using w1
      have ht:(cW w).take w.length=cW w:=vc (by simp[cW]);refine ao (cL @ak ej ht) (JJ ?_);all_goals(rw[<-w1];done)
  .refine ao (cL @ak hk @nc) (JJ ?_);all_goals
    refine aj on (λk (o:BS)=>⟨[(1,.ref (iK ⟨kind,names,op,args,init,node,true,ev,en,on⟩)),(3,.own 0 o.length 0 o.length),(5,.int .i64 k)],[⟨.aV,1,cW o⟩]⟩) (λk r o=>o++r.map (·.1)=O0 ⟨kind,names,op,args,init,node,true,ev,en,on⟩/\o.length<=1001+k) (o++[ev]) (by decide) CT ⟨by simp[O0,VO,k5,<-r1],by first|(simp;done)|omega|(simp;omega)⟩ (λk x r o d U Z E=>?_) (λk o e E=>?_)
    .obtain⟨r1,r2⟩:=E;have ga:=ag eD U;obtain⟨a1,a2⟩:=x;refine ao (fj @ak d ga @nc) (JJ ?_);exact⟨o++[a1],CT,by simpa using r1,by simp;omega⟩
    .obtain⟨r1,r2⟩:=E;rw[DD,xz]at r1;rw[y7,<-r1];refine ao @e (JJ ?_);refine aj o (λj (w:BS)=>⟨[(3,.own 0 o.length 0 o.length),(6,.own 1 w.length 0 w.length),(7,.int .i64 j)],[⟨.aV,1,cW o⟩,⟨.aV,1,cW w⟩]⟩) (λj r w=>w++r.filter (· !=[])=o.filter (· !=[])/\w.length<=j) [] (by decide) (CF @uH) ⟨rfl,By _⟩ (λj y r w dj hy Hs hw=>?_) (λj w ej hw=>?_)
     .obtain⟨w1,w2⟩:=hw;have gy:=fN hy;rw[Cw]at w1;by_cases Rw:y=[]
      .have Yj:(y !=[])=false:=by simp[Rw]
       rw[Yj]at w1;refine ao (fj @ak dj gy Rw) (JJ ?_);all_goals first
        |exact absurd Rw (by assumption)
        |exact⟨w,CT,by simpa using w1,by omega⟩
      .have Yj:(y !=[])=true:=by simp[Rw]
       rw[Yj]at w1;refine ao (fj @ak dj gy @nc) (bV ?_ (JJ ?_))<;>intros;all_goals first
        |exact absurd (by assumption) Rw
        |exact⟨w++[y],CT,by simpa using w1,by simp;omega⟩
     .obtain⟨w1,w2⟩:=hw;have w1:w=o.filter (· !=[]):=by simpa using w1
      have ht:(cW w).take w.length=cW w:=vc (by simp[cW]);refine ao (cL @ak ej ht) (JJ ?_);all_goals(rw[<-w1];done)
def UQ(f:Fl):Prop:=f.eqs.length<=100000/\∀q∈f.eqs,gu q
def T8(f:Fl)(bs:List Bool):List (BS×Bool):=(f.eqs.map (·.names)).zip bs
def Rx:Ab->Prop×J:=fp UC UD eS λf bs s=>(UQ f/\bs.length=f.eqs.length,.bool (iH (T8 f bs) s))
def abj(f:Fl)(bs:List Bool)(s):=show Rx [.agg (lf f),.sl (bs.map BH),.str s]=_ from bW BT PX kj _ f bs s
theorem aJv:aJ Tryz.prog 141 Rx:=by
 refine aJ.zP (ps:=[]) (I:=[]) trivial trivial aGJ λn bs s h=>?_;try dsimp only at h
 obtain⟨⟨h4,h6⟩,hb⟩:=h;refine ao (cL @avw.eq_1 @UD.eq_1 @UC.eq_1) (JJ ?_);refine aj n.eqs (λk (_:Unit)=>⟨[(1,.sl (bs.map BH)),(2,.str s),(3,.ref (lf n)),(7,.int .i64 k)],[]⟩) (λk r _=>iH (T8 n bs) s=iH ((r.map (·.names)).zip (bs.drop k)) s) () (AI _) CT rfl (λk x r _ d U Z E=>?_) (λk _ e E=>?_)
 .have dk:k<bs.length:=by omega
  obtain⟨b,q1,q2⟩:=eE bs dk;rw[q2,p0,V7,aBA]at E;have gx:=ag iK U;have gb:=LM q1;have aD4:=(h6 x (ed U)).2.2;refine ao @d (JJ ?_);refine aj x.names (λj (_:Unit)=>⟨[(1,.sl (bs.map BH)),(2,.str s),(3,.ref (lf n)),(7,.int .i64 k),(8,.int .i64 j)],[]⟩) (λj w _=>iH (T8 n bs) s=((!b&&w.any (·==s))||iH ((r.map (·.names)).zip (bs.drop (k+1))) s)) () (AI _) CT E (λj y w _ dj hy Hs hw=>?_) (λj _ ej hw=>?_)
  .rw[Hl]at hw;have gy:=fN hy;have gN:(k:Int)<bs.length:=by omega
   cases b
   .by_cases N8:y=s
    .subst N8;refine ao (rO @ak d dj gx gb gy hb) (JJ ?_);all_goals(rw[hw];simp;done)
    .have Yj:(y==s)=false:=by simpa using N8
     rw[Yj,Mc]at hw;refine ao (rO @ak d dj gx gb gy hb) (bV ?_ (JJ ?_))<;>intros;all_goals first|exact absurd (by assumption) N8|exact⟨(),CT,hw⟩
   .refine ao (jg @ak d dj gx gb hb) (JJ ?_);all_goals exact⟨(),CT,hw⟩
  .rw[On,Ma,Mc]at hw;refine ao (fj @ak d gx ej) (JJ ?_);all_goals exact⟨(),CT,hw⟩
 .have E:_=false:=E;rw[E];exact ao @e zz;all_goals rfl
theorem aos{n:Fl}{bs:List Bool}(h:bs.length=n.eqs.length){k}(hk:k<n.eqs.length):(T8 n bs).getD k ([],true)=((n.eqs.getD k default).names,bs.getD k true):=by
 have h1:=iU hk;have h2:bs[k]? =some (bs.getD k true):=by rw[BY,tx (by omega)];rfl
 rw[BY,T8,(List.getElem?_zip_eq_some (z:=((n.eqs.getD k default).names,bs.getD k true))).2 ⟨by rw[M9,h1];rfl,h2⟩];rfl
theorem asH{n:Fl}{bs:List Bool}(h:bs.length=n.eqs.length){k}(hk:k<n.eqs.length):T8 n (bs.set k true)=place (T8 n bs) k:=by
 unfold place;rw[aos h hk];refine FX λj=>?_;simp only[T8];rw[Fa];by_cases hj:k=j
 .subst hj;rw[gr rfl,gr (by simp[h,hk]),(List.getElem?_zip_eq_some (z:=((n.eqs.getD k default).names,true))).2 ⟨by rw[M9,iU hk];rfl,by rw[Fa,gr rfl,gr (by omega)]⟩]
 .rw[ba hj];simp only[List.zip,List.getElem?_zipWith,Fa,ba hj]
def KQ(n:Fl):List BS:=n.eqs.map gA
theorem aw0{n:Fl}{k}(hk:k<n.eqs.length):(KQ n).getD k []=gA (n.eqs.getD k default):=by rw[BY,KQ,M9,iU hk];rfl
theorem akc{q}(h:gu q):(gA q).length<=3000:=by
 have h1:(gA q).length<=(O0 q).length:=by rw[y7];exact List.length_filter_le ..
 have h2:(O0 q).length<=2001:=by
  unfold O0 VO;obtain⟨a,b,_⟩:=h;rw[AS,AS,Pe];have:(if q.kind=5 then([]:BS)else q.args.map (·.1)).length<=1000:=by split<;>simp;omega
  have:(if q.reset=true then [q.ev]else []).length<=1:=by split<;>simp
  omega
 omega
def I8:Ab->Prop×J:=fp UC UD eI λn bs i=>((UQ n/\bs.length=n.eqs.length)/\0<=i/\i<n.eqs.length,.bool (tW (KQ n) (T8 n bs) i.toNat))
def abk(n:Fl)(bs:List Bool)(i:Int):=show I8 [.agg (lf n),.sl (bs.map BH),.int .i64 i]=_ from bW BT PX cF _ n bs i
theorem aJw:aJ Tryz.prog 108 I8:=by
 refine aJ.zP (ps:=[(140,Rv),(141,Rx)]) (I:=[]) ⟨aJt,aJv,BB⟩ trivial aF5 λn bs i h=>?_;try dsimp only at h
 obtain⟨⟨I,hb⟩,h0,h1⟩:=h;obtain⟨m,rfl⟩:=Cy h0;simp only[GC];have hm:m<n.eqs.length:=by omega
 have vU:=I.2 _ (ed (iU hm));have gq:=ag iK (iU hm);have Y:=abg (n.eqs.getD m default);rw[lU vU]at Y;have hz:tW (KQ n) (T8 n bs) m=((gA (n.eqs.getD m default)).all (λs=> !iH (T8 n bs) s)&& !bs.getD m true):=by unfold tW;rw[aw0 hm,aos hb hm]
 rw[hz];have gb:(bs.map BH).getD m []=[.bool (bs.getD m true)]:=LM (by rw[BY,tx (by omega)];rfl);have gN:m<bs.length:=by omega
 have e2:=λs=>abj n bs s;simp only[lU (show UQ n/\bs.length=n.eqs.length from⟨I,hb⟩)]at e2;have _z:=akc vU;have Gd:(m:Int)<n.eqs.length:=by omega
 generalize n.eqs.getD m default=q at*;generalize gA q=l at*;generalize bs.getD m true=b at*;refine ao (jg @avb.eq_1 @UD.eq_1 @UC.eq_1 Y gq Gd) (JJ ?_);refine aj l (λk (_:Unit)=>⟨[(1,.sl (bs.map BH)),(2,.int .i64 m),(3,.ref (lf n)),(7,.sl (cW l)),(8,.int .i64 k)],[]⟩) (λk r _=>(l.all λs=> !iH (T8 n bs) s)=r.all λs=> !iH (T8 n bs) s) () (AI _) CT rfl (λk s r _ d U Z E=>?_) (λk _ e E=>?_)
 .rw[MM]at E;have gs:=fN U;have e3:=e2 s;generalize iH (T8 n bs) s=w at*;cases w
  .refine ao (fj @ak d gs e3) (JJ ?_);exact⟨(),CT,E⟩
  .refine ao (fj @ak d gs e3) (JJ ?_);all_goals(rw[E];rfl)
 .have E:_=true:=E;rw[E];exact ao (fj @ak e gb gN) zz;all_goals rfl
def Ry:Ab->Prop×J:=bJ UC λn=>(UQ n,.b9 [.sl ((fA n).1.map I9),.bool (fA n).2])
def abl(n):=show Ry [.agg (lf n)]=_ from aI BT _ n
theorem aJx:aJ Tryz.prog 77 Ry:=by
 refine aJ.mS (ps:=[(108,I8)]) (I:=[]) ⟨aJw,BB⟩ trivial aFd λn h=>?_;try dsimp only at h
 have I:UQ n:=h;have h4:=I.1;have BW:(n.eqs.map λx=>(x.names,false))=T8 n (List.replicate n.eqs.length false):=by
  refine FX λj=>?_;simp only[T8,M9,List.zip,List.getElem?_zipWith,List.getElem?_replicate];cases hj:n.eqs[j]? with
  |none=>rfl
  |some x=>rw[gr (pc.1 hj).1];rfl
 have Ac:fA n=gM (KQ n) n.eqs.length (T8 n (List.replicate n.eqs.length false)):=by rw[<-BW];rfl
 have Ja:List.replicate n.eqs.length [J.bool false]=(List.replicate n.eqs.length false).map BH:=by rw[List.map_replicate]
 refine ao (bV @atZ.eq_1 @UC.eq_1) (JJ ?_);refine iQ (λx:List Nat×List Bool=>⟨[(1,.ref (lf n)),(4,.own 0 n.eqs.length 0 n.eqs.length),(5,.own 1 x.1.length 0 x.1.length)],[⟨.aV,1,x.2.map BH⟩,⟨.aV,1,x.1.map I9⟩]⟩)
  (λx=>x.2.length=n.eqs.length/\x.1.length<=n.eqs.length/\fA n=(x.1++(gM (KQ n) (n.eqs.length-x.1.length) (T8 n x.2)).1,(gM (KQ n) (n.eqs.length-x.1.length) (T8 n x.2)).2)) (λx=>n.eqs.length-x.1.length) ([],List.replicate n.eqs.length false) (by decide) (CF @Ja) ⟨by simp,AI _,by rw[Ac];rfl⟩ λx U=>?_
 obtain⟨out,bs⟩:=x;obtain⟨hb,ED,E⟩:=U;dsimp only at hb ED E;by_cases mP:out.length<n.eqs.length;rotate_left
 .have he:n.eqs.length-out.length=0:=by omega
  rw[he,gM]at E;rw[E,xz];have ht:(out.map I9).take out.length=out.map I9:=vc (by simp);have FR:¬(out.length:Int)<n.eqs.length:=by omega
  exact ao (bV FR ht) zz;all_goals rfl
 have FR:(out.length:Int)<n.eqs.length:=by omega
 rw[show n.eqs.length-out.length=(n.eqs.length-out.length-1)+1 by omega,gM]at E;have a_:Rz (KQ n) (T8 n bs)=(List.range n.eqs.length).find? (tW (KQ n) (T8 n bs)):=by unfold Rz;rw[KQ,Pe]
 rw[a_]at E;generalize ZO:tW (KQ n) (T8 n bs)=rd at*;have Y:∀j:Nat,j<n.eqs.length->I8 [.agg (lf n),.sl (bs.map BH),.int .i64 j]=(True,.bool (rd j)):=λj hj=>by have:=abk n bs j;rw[lU (show(UQ n/\bs.length=n.eqs.length)/\(0:Int)<=j/\(j:Int)<n.eqs.length from⟨⟨I,hb⟩,by omega,by omega⟩),GC,ZO]at this;exact this
 have gW:(bs.map BH).take n.eqs.length=bs.map BH:=vc (by simp;omega);refine ao @FR (JJ ?_);refine iQ (λx:Nat×BI=>⟨[(1,.ref (lf n)),(4,.own 0 n.eqs.length 0 n.eqs.length),(5,.own 1 out.length 0 out.length),(6,.int .i64 (UR x.2)),(7,.int .i64 x.1)],[⟨.aV,1,bs.map BH⟩,⟨.aV,1,out.map I9⟩]⟩)
  (λx=>x.1<=n.eqs.length/\(x.2=none->(List.range n.eqs.length).find? rd=((List.range n.eqs.length).drop x.1).find? rd)/\∀j,x.2=some j->(List.range n.eqs.length).find? rd=some j) (λx=>n.eqs.length-x.1) (0,none) (by decide) (CF @UR.eq_def) ⟨AI _,λ_=>rfl,λj hj=>by cases hj⟩ λx U=>?_
 obtain⟨i,o⟩:=x;obtain⟨hi,wJ,vV⟩:=U;dsimp only at hi wJ vV;cases o with
 |some j=>
  have hf:=vV j rfl;rw[hf]at E;dsimp only at E;have Hb:j<n.eqs.length:=by have:=V3 hf;simpa using this
  have ho:UR (some j)=(j:Int):=rfl;have YW:¬(j:Int)<0:=by omega
  have FJ:(bs.map BH).set j [.bool true]=(bs.set j true).map BH:=by rw[List.map_set]
  have VK:out.map I9++[[J.int .i64 j]]=(out++[j]).map I9:=by simp[I9]
  have b_:j<bs.length:=by omega
  have d_:(j:Int)<n.eqs.length:=by omega
  have f_:(bs.map BH).getD j []=[.bool (bs.getD j true)]:=LM (by rw[BY,tx b_];rfl);have hk:n.eqs.length-(out++[j]).length=n.eqs.length-out.length-1:=by simp;omega
  by_cases NG:(i:Int)<n.eqs.length;all_goals(refine ao (jg NG ho YW d_ hb f_) (JJ ?_))
  all_goals exact⟨(out++[j],bs.set j true),(CF (bV FJ VK)),⟨by simp[hb],by simp;omega,by dsimp only;rw[E,hk,asH hb Hb,AT];rfl⟩,by dsimp only;rw[hk];omega⟩
 |none=>
  have KT:=wJ rfl;have ho:UR none= -1:=rfl;by_cases NG:i<n.eqs.length
  .have e2:=Y i NG;rw[Gf NG,Kb]at KT;have vW:(i:Int)<n.eqs.length:=by omega
   generalize hb0:rd i=b at*;cases b
   .refine ao (jg vW ho e2 gW hb @By) (JJ ?_);exact⟨(i+1,none),(CF @ho),⟨by dsimp only;omega,λ_=>KT,λj hj=>by cases hj⟩,by dsimp only;omega⟩
   .refine ao (jg vW ho e2 gW hb @By) (JJ ?_);have hos:UR (some i)=(i:Int):=rfl;exact⟨(i+1,some i),(CF @hos),⟨by dsimp only;omega,(λhh=>by cases hh),(λj hj=>by injection hj with hj;rw[<-hj];exact KT)⟩,by dsimp only;omega⟩
  .have h_:(List.range n.eqs.length).drop i=[]:=Z8 (by simp;omega);rw[h_]at KT;have KT:(List.range n.eqs.length).find? rd=none:=KT;rw[KT]at E;dsimp only at E;rw[xz]at E;rw[E];have ht:(out.map I9).take out.length=out.map I9:=vc (by simp);have vW:¬(i:Int)<n.eqs.length:=by omega
   exact ao (cL vW ho ht) zz;all_goals rfl
theorem aCg{I:List BS}:∀(k:Nat) (pl:List (BS×Bool)),∀i∈(gM I k pl).1,i<I.length
 |0,_,i,h=>by simp[gM]at h
 |k+1,pl,i,h=>by
  rw[gM]at h;split at h
  .simp at h
  .rename_i j hj;rcases NO.1 h with rfl|h
   .have:=V3 hj;simpa using this
   .exact aCg k _ i h
theorem aCi{I}:∀(k:Nat) (pl:List (BS×Bool)),(gM I k pl).1.length<=k
 |0,_=>by simp[gM]
 |k+1,pl=>by
  rw[gM];split
  .simp
  .have:=aCi (I:=I) k (place pl ‹Nat›);simpa using this
def flZ:Fl:=⟨[],[],[],[],[]⟩
def LN:Ab->Prop×J:=bJ UC λf=>(UQ f,.b9 [.agg (lf (if(fA f).2 then lB f else flZ)),.bool (fA f).2])
def aJy(f):=show LN [.agg (lf f)]=_ from aI BT _ f
theorem aJz:aJ Tryz.prog 46 LN:=by
 refine aJ.mS (ps:=[(77,Ry)]) (I:=[]) ⟨aJx,BB⟩ trivial aEI λf h=>?_;try dsimp only at h
 have I:UQ f:=h;have Y:=abl f;rw[lU I]at Y;have mP:∀i∈(fA f).1,i<f.eqs.length:=λi hi=>by have:=aCg _ _ i hi;simpa using this
 have hle:(fA f).1.length<=f.eqs.length:=aCi _ _;have h4:=I.1;have hsf:lB f=⟨f.name,f.ins,f.outs,f.vars,(fA f).1.map λi=>f.eqs.getD i default⟩:=rfl;rw[hsf];generalize fA f=o at*;obtain⟨l,b⟩:=o;dsimp only at Y mP hle|-;cases b
 .rw[ba (by simp)];refine ao (cL @qK.eq_1 @UC.eq_1 Y) (JJ ?_);all_goals rfl
 rw[gr rfl];refine ao (cL @qK.eq_1 @UC.eq_1 Y) (JJ ?_);refine aj l (λk (o:List Pl)=>⟨[(1,.ptr 0 1 0 0),(2,.ptr 1 1 0 0),(4,.sl (l.map I9)),(6,.own 2 o.length 0 o.length),(7,.int .i64 k)],[⟨.loc,5,[lf f]⟩,⟨.loc,5,[[.str [],.nil,.nil,.nil,.nil]]⟩,⟨.aV,10,o.map iK⟩]⟩) (λk r o=>o++r.map (λi=>f.eqs.getD i default)=l.map (λi=>f.eqs.getD i default)/\o.length=k) [] (by decide) CT ⟨rfl,rfl⟩ (λk i r o d U Z E=>?_) (λk o e E=>?_)
 .obtain⟨r1,r2⟩:=E;have hi:=mP i (ed U);have aJA:=ag I9 U;have gq:=ag iK (iU hi);have Hp:(i:Int)<f.eqs.length:=by omega
  rw[p0]at r1;generalize f.eqs.getD i default=q at*;refine ao (fF d aJA gq Hp @I9.eq_1) (JJ ?_);all_goals first
   |exact⟨o++[q],(CF @IN.{0,0}),by simpa using r1,by simp[r2]⟩
 .obtain⟨r1,r2⟩:=E;rw[DD,xz]at r1;rw[<-r1];have ht:(o.map iK).take l.length=o.map iK:=vc (by simp;omega);exact ao (cL e @r2 ht) zz;all_goals rfl
def Ci(st:Em):Prop:=∀q∈st.qs,gu q
theorem abm{first}{q:Pl}{nm:BS}{t}{on:List gT}{st:Em}(h:Ci st)(hq:q.args.length<=1000)(hn:nm.length<=1000)(ho:on.length<=1000):Ci (lT first q nm t on st).2:=by
 unfold lT;split
 .intro x U;rcases pt.1 U with U|U
  .exact h x U
  .simp at U;subst U;exact⟨hq,ho,by simp⟩
 .intro x U;rcases pt.1 U with U|U
  .exact h x U
  .simp at U;subst U;exact⟨hq,ho,hn⟩
theorem aou{first}{e}{on:List gT}{st:Em}(h:Ci st)(ho:on.length<=1000):Ci (kz first e on st):=by
 unfold kz;split
 .exact abm h (by simp[Bu]) (by simp) ho
 .exact h
theorem LO{p}{node}{first}{M}:∀(l:List Ex) (zS:List (Option (List gT))) (st:Em),(∀x∈l,∀on st,on.length+(az x).length<=1000->Ci st->Ci (iR p node first x on st).2)->(∀on,some on∈zS->on.length<=M)->(∀x∈l,M+(az x).length<=1000)->Ci st->Ci (bZ p node first l zS st).2
 |[],zS,st,_,_,_,h=>by rw[bZ];exact h
 |x::l,[],st,_,_,_,h=>by rw[bZ];exact h
 |x::l,none::r,st,hl,ho,hm,h=>by rw[bZ];exact LO l r st (λy hy=>hl y (XN _ hy)) (λon Ac=>ho on (XN _ Ac)) (λy hy=>hm y (XN _ hy)) h
 |x::l,some on::r,st,hl,ho,hm,h=>by rw[bZ];have h1:=ho on (KV ..);have h2:=hm x (KV ..);have h3:=hl x (KV ..) on st (by omega) h;exact LO l r _ (λy hy=>hl y (XN _ hy)) (λon Ac=>ho on (XN _ Ac)) (λy hy=>hm y (XN _ hy)) h3
theorem Gh{p}{node}{first}:∀(l:List Ex) (zS:List (Option (List gT))) (st:Em),(bZ p node first l zS st).1.length<=l.length
 |[],zS,st=>by rw[bZ];simp
 |x::l,[],st=>by rw[bZ];simp
 |x::l,none::r,st=>by rw[bZ];simpa using Gh l r st
 |x::l,some on::r,st=>by rw[bZ];simpa using Gh l r _
theorem aw2{p}{e}{on Lo:List gT}(h:some Lo∈oq p e on):Lo.length<=on.length+1:=by
 unfold oq at h;split at h
 .rcases NO.1 h with h|h
  .cases h
  .obtain⟨_,_,h⟩:=It.1 h;injection h with h;subst h;omega
 .split at h
  .simp at h;obtain⟨_,rfl⟩:=h;simp;omega
  .split at h
   .simp at h;obtain⟨c,_,rfl⟩:=h;simp
   .simp at h;obtain⟨_,rfl⟩:=h;omega
theorem asJ{p}{node}{first}{e}{BZ:List yI}{R}:(FH p node first e BZ R).args.length<=BZ.length+1:=by
 unfold FH;by_cases k5:e.kind=5
 .rw[gr k5];simp
 rw[ba k5];by_cases k6:e.kind=6
 .rw[gr k6];simp
 rw[ba k6];by_cases k7:e.kind=7
 .rw[gr k7];simp
 rw[ba k7];by_cases J2:e.kind=14
 .rw[gr J2];simp
 rw[ba J2];by_cases KM:e.kind=15
 .rw[gr KM];simp
 rw[ba KM];by_cases OJ:e.kind=16
 .rw[gr OJ];simp
 rw[ba OJ];by_cases Jc:e.kind=13
 .rw[gr Jc];by_cases n1:e.n=1
  .rw[gr n1];simp;omega
  .rw[ba n1];simp
 rw[ba Jc];by_cases k8:e.kind=8
 .rw[gr k8];simp;omega
 rw[ba k8];by_cases FK:e.kind=10
 .rw[gr FK];simp
 rw[ba FK];by_cases k9:e.kind=9
 .rw[gr k9];simp
 rw[ba k9];by_cases T9:e.kind=11
 .rw[gr T9];simp
 rw[ba T9];by_cases Gi:e.kind=12
 .rw[gr Gi];simp
 rw[ba Gi];simp
theorem aCk{p}{node}{first}(e:Ex)(h:∀x∈e.ar,∀on st,on.length+(az x).length<=1000->Ci st->Ci (iR p node first x on st).2)(nm:BS)(on:List gT)(st:Em)(hn:nm.length<=1000)(ho:on.length+(az e).length<=1000)(I:Ci st):Ci (fS p node first e nm on st).2:=by
 unfold fS ng;have Dk:=pY e;have WO:e.ar.length<=(bQ e.ar).length:=by
  have:∀l:List Ex,l.length<=(bQ l).length:=by
   intro l;induction l with
   |nil=>simp
   |cons y l ih=>rw[gZ,AS,jj];simp;omega
  exact this _
 have h1:=aou (first:=first) (e:=e) (on:=on) I (by omega);have h2:=LO (p:=p) (node:=node) (first:=first) (M:=on.length+1) e.ar (oq p e on) (kz first e on st) h (λLo h'=>aw2 h') (λx U=>by have:=kK U;omega) h1;have h3:=Gh (p:=p) (node:=node) (first:=first) e.ar (oq p e on) (kz first e on st);refine abm h2 ?_ hn (by omega);show(y8 p node first e (bZ p node first e.ar (oq p e on) (kz first e on st)).1 (kz first e on st).R).args.length<=1000;rw[<-aow];have:=asJ (p:=p) (node:=node) (first:=first) (e:=e) (BZ:=(bZ p node first e.ar (oq p e on) (kz first e on st)).1) (R:=(kz first e on st).R);show(FH p node first e _ _).args.length<=1000;omega
theorem aox{p}{node}{first}(e):∀(on:List gT) (st:Em),on.length+(az e).length<=1000->Ci st->Ci (iR p node first e on st).2:=by
 induction e using Ex.ind with
 |h e ih=>
  intro on st ho I;rw[tu];split
  .exact I
  .exact aCk e ih [] on st (by simp) ho I
theorem aw3{p}{i}{n}(I:dA n=true):UQ (gQ p i n):=by
 obtain⟨l1,l2,l3,l4,_,l6⟩:=dz I;have key:∀(l:List xY) (st:Em),(∀x∈l,x.names.length<=20/\eG x.e=true)->Ci st->Ci (l.foldl (xZ p i) st)/\(l.foldl (xZ p i) st).qs.length<=st.qs.length+600*l.length:=by
  intro l;induction l with
  |nil=>intro st _ h;exact⟨h,by simp⟩
  |cons x l ih=>
   intro st hl h;obtain⟨a1,a2⟩:=hl x (KV ..);have WZ:=lZ a2;have Mt:=uI (p:=p) (i:=i) (s:=x.names.getD 0 []);have h1:Ci (xZ p i st x):=aCk x.e (λy _=>aox y) x.names _ ⟨0,st.vs,st.qs⟩ (by omega) (by omega) h;have Ee:=(Rc (p:=p) (node:=i) (first:=x.names.getD 0 []) x.e x.names ((dU p i (x.names.getD 0 [])).getD []) ⟨0,st.vs,st.qs⟩).qs;have Hg:xZ p i st x=(fS p i (x.names.getD 0 []) x.e x.names ((dU p i (x.names.getD 0 [])).getD []) ⟨0,st.vs,st.qs⟩).2:=rfl;rw[<-Hg]at Ee;obtain⟨g1,g2⟩:=ih (xZ p i st x) (λy hy=>hl y (XN _ hy)) h1;rw[S2];refine⟨g1,?_⟩;dsimp only at Ee;rw[IS];omega
 obtain⟨k1,k2⟩:=key n.eqs ⟨0,n.vars.map (varOf p i),[]⟩ l6 (λq hq=>by simp at hq);refine⟨?_,k1⟩;have:(O9 p i n).qs.length<=600*n.eqs.length:=by unfold O9;simpa using k2
 show(O9 p i n).qs.length<=100000;omega
theorem aw4{p}(hP:bF p=true):∀f∈m5 p,UQ f:=by intro f hf;obtain⟨i,hi,rfl⟩:=List.mem_mapIdx.1 hf;exact aw3 ((fE hP).2 _ (MJ _))
theorem akg(p:fc):(m5 p).length=p.nodes.length:=by simp[m5]
def LA:Ab->Prop×J:=bJ bA λp=>(bF p=true,.b9 [.agg (cD (if x7 p then eK p else⟨[],[]⟩)),.bool (x7 p)])
def aJB(p):=show LA [.agg (cE p)]=_ from aI dY _ p
theorem afd:aJ Tryz.prog 22 LA:=by
 refine aJ.mS (ps:=[(45,LP),(46,LN)]) (I:=[]) ⟨afr,aJz,BB⟩ trivial aEm λp h=>?_;dsimp only;have hP:bF p=true:=h;have Y:=aJs p;rw[lU hP]at Y;have z0:x7 p=(wX p&&(m5 p).all λf=>(fA f).2):=rfl;have hsL:eK p=⟨p.en,(m5 p).map lB⟩:=rfl;rw[hsL,z0];have nT:=aw4 hP;have PH:=akg p;have Ua:=(fE hP).1;generalize wX p=nb at*;cases nb
 .rw[C4,ba (by simp)];exact ao (cL @po.eq_1 @bA.eq_1 Y) zz;all_goals rfl
 rw[gr rfl]at Y;rw[Pd];generalize m5 p=l at*;refine ao (cL @po.eq_1 @bA.eq_1 Y) (JJ ?_);refine sV ?_;refine ao trivial (JJ ?_);refine aj l (λk (o:List Fl)=>⟨[(2,.ptr 0 1 0 0),(4,.ptr 1 1 0 0),(6,.ptr 2 1 0 0),(7,.int .i64 k)],[⟨.loc,2,[[.nil,.nil]]⟩,⟨.loc,2,[cD ⟨p.en,l⟩]⟩,⟨.loc,2,[[.sl (p.en.map kF),.own 3 o.length 0 o.length]]⟩,⟨.aV,5,o.map lf⟩]⟩) (λk r o=>o++r.map lB=l.map lB/\o.length=k/\(l.all λf=>(fA f).2)=r.all λf=>(fA f).2) [] (by decide) CT ⟨rfl,rfl,rfl⟩ (λk f r o d U Z E=>?_) (λk o e E=>?_)
 .obtain⟨r1,r2,r3⟩:=E;rw[MM]at r3;have gf:=ag lf U;have e2:=aJy f;rw[lU (nT f (ed U))]at e2;rw[p0]at r1;generalize (fA f).2=b at*;cases b
  .rw[C4]at r3;rw[r3,ba (by simp)];rw[ba (by simp)]at e2;exact ao (cL d gf e2) zz;all_goals rfl
  .rw[Pd]at r3;rw[gr rfl]at e2;generalize lB f=f2 at*;refine ao (cL d gf e2) (JJ ?_);all_goals first
    |exact⟨o++[f2],(CF @IN.{0,0}),by simpa using r1,by simp[r2],r3⟩
 .obtain⟨r1,r2,r3⟩:=E;rw[DD,xz]at r1;have r3:(l.all λf=>(fA f).2)=true:=r3;rw[r3,gr rfl,<-r1];have ht:(o.map lf).take l.length=o.map lf:=vc (by simp;omega);exact ao (cL e @r2 ht) zz;all_goals rfl
end
end Go.Proofs.YtldnkkkooabaeaaGreat
