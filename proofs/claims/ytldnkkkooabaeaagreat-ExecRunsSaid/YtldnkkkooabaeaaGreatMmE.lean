/- Cells: paths and what they have. -/
import Derived.Test.YtldnkkkooabaeaaGreatVls
set_option linter.all false
set_option maxRecDepth 20000
namespace Go.Proofs.YtldnkkkooabaeaaGreat
noncomputable section
open Go.Nk
structure cG where
 path:B3
 dK:Ba
 deriving DecidableEq
instance:Inhabited cG:=⟨⟨[],[]⟩⟩
@[reducible] def bf(c:cG):Ab:=[.str c.path,.sl (cC c.dK)]
theorem s8:∀x y,bf x=bf y->x=y:=λx y h=>by obtain⟨a,b⟩:=x;obtain⟨c,d⟩:=y;simp only[bf,DO,J.str.injEq,J.sl.injEq,Xv]at h;obtain⟨rfl,h⟩:=h;rw[sO h]
abbrev aDK:cG->J:=eA bf
abbrev jL:List cG->J:=eL bf
theorem m6:ux jL:=yu s8
theorem ajN(l:List cG):(∀e∈l.map bf,e.length=2)=True:=lU (by simp)
theorem Dl(l:List cG):(l.map bf).take l.length=l.map bf:=vc (by simp_all)
def mh(l:List cG):Prop:=l.length<=1000000/\∀c∈l,c.dK.length<=17592186044416
def Ir:Ab->Prop×J:=cH jL jL λa b=>(mh a,.bool (decide (a=b)))
theorem zZ(a:List cG)(b:List cG):Ir [.sl (a.map bf),.sl (b.map bf)]=(mh a,.bool (decide (a=b))):=aY m6 m6 _ a b
theorem adF{a b:List cG}{k:Nat}{x y:cG}{r:List cG}(h:decide (x::r=y::b.drop (k+1))=decide (a=b))(U:x≠y):a≠b:=by simp_all
theorem ay6:aJ Tryz.prog 13 Ir:=by
 refine aJ.se (ps:=[(38,_A)]) (I:=[]) ⟨aIw,BB⟩ trivial aD9 λa b h=>?_;try dsimp only at h
 obtain⟨h1,h2⟩:=h;by_cases c:a.length=b.length;rotate_left
 .have c2:decide (a=b)=false:=by grind
  exact ao (cL @qX.eq_1 @jL.eq_1 c2) zz
 refine ao (bV @qX.eq_1 @jL.eq_1) (JJ (λhn=>?_));refine aj a (λk (_:Unit)=>⟨[(0,.sl (a.map bf)),(1,.sl (b.map bf)),(5,.int .i64 k)],[]⟩) (λk r _=>decide (r=b.drop k)=decide (a=b)) () (AI _) CT rfl (λk x r _ d U Z E=>?_) (λk _ e E=>?_)
 .obtain⟨y,hy,T7⟩:=eE b (k:=k) (by omega);rw[T7]at E;have d2:k<b.length:=by omega
  have hv:=h2 x (xF Z);refine ao (fF @alR d d2 (ag bf U) (ag bf hy)) (cL ?_ ?_ (JJ ?_))<;>intros;all_goals first
   |exact⟨(),CT,by rw[<-E];cases x;simp_all⟩
   |(have:=adF E (by rintro rfl;simp_all)
     simp[this])
 .rw[Z8 (by omega)]at E;exact ao (bV e (CD E)) zz
def C7:Ab->Prop×J:=bJ mH λv=>(v.length<=17592186044416,.sl (cC v))
theorem adG(v:Ba):C7 [.sl (cC v)]=(v.length<=17592186044416,.sl (cC v)):=aI nN _ v
theorem aIx:aJ Tryz.prog 82 C7:=by
 refine aJ.mS (ps:=[]) (I:=[]) trivial trivial aFm λv h=>?_;try dsimp only at h
 have h:v.length<=17592186044416:=h;have Z:List.drop v.length (cC (List.replicate v.length 0))=[]:=Z8 (by simp[aU]);exact ao (ey @aut.eq_1 @mH.eq_1 @aU @uR @PT @ati @Nat.min_self Z @xz.{0}) zz
def xW(s p:B3):Bool:=p.isPrefixOf s
theorem KN{s p:B3}:xW s p=true↔s.take p.length=p:=by rw[xW,List.isPrefixOf_iff_prefix,List.prefix_iff_eq_take];grind
theorem alS{s p:B3}(h:p.length<=s.length):(s.take p.length==p)=xW s p:=by rw[Bool.eq_iff_iff,KN,GO]
theorem ahb{s p:B3}(h:s.length<p.length):xW s p=false:=by rw[Bool.eq_false_iff];intro hh;have:=C2 List.length (KN.1 hh);grind
def TY(s p:B3):B3:=if xW s p then s.drop p.length else s
def under(name:B3):B3:=name++[47]
def C8(s name:B3):B3:=if xW s (under name)then s.drop (name.length+1)else []
def Zx:Ab->Prop×J:=cH eS eS λs name=>(s.length<=4503599627370496/\name.length<=1000000,.b9 [.str (C8 s name),.bool (xW s (under name))])
theorem ay7(s:B3)(name:B3):Zx [.str s,.str name]=(s.length<=4503599627370496/\name.length<=1000000,.b9 [.str (C8 s name),.bool (xW s (under name))]):=aY kj kj _ s name
theorem ay8:aJ Tryz.prog 165 Zx:=by
 refine aJ.se (ps:=[]) (I:=[]) trivial trivial aG7 λs name h=>?_;try dsimp only at h
 obtain⟨h1,h2⟩:=h;have hl:(under name).length=name.length+1:=by simp[under]
 by_cases q:name.length+1<=s.length;rotate_left
 .have e:=ahb (s:=s) (p:=under name) (by omega);exact ao (cL @mD.eq_1 e @C8.eq_1) zz
 have e:=alS (s:=s) (p:=under name) (by omega);rw[hl]at e;have e2:(List.take (name.length+1) s==name++[47])=xW s (under name):=e;have tk:s.take s.length=s:=VB;have i1:((name.length:Int)+1).toNat=name.length+1:=by omega
 cases qq:xW s (under name)
 .rw[qq]at e2;exact ao (tM @mD.eq_1 @xJ.eq_def @fy.eq_def e2 i1 @C8.eq_1 qq @gj.eq_1) zz
 .rw[qq]at e2;exact ao (ey @mD.eq_1 @xJ.eq_def @fy.eq_def e2 i1 @C8.eq_1 qq tk @gj.eq_1) zz
def vf:List cG->B3->Option Ba
 |[],_=>none
 |c::r,p=>if c.path=p then some c.dK else vf r p
def D7(m:List cG)(p:B3):Ba:=(vf m p).getD []
def UG(m:List cG)(p:B3):Bool:=(vf m p).isSome
def uo:Ab->Prop×J:=cH jL eS λm p=>(mh m,.b9 [.sl (cC (D7 m p)),.bool (UG m p)])
theorem abe(m:List cG)(p:B3):uo [.sl (m.map bf),.str p]=(mh m,.b9 [.sl (cC (D7 m p)),.bool (UG m p)]):=aY m6 kj _ m p
theorem ay9:aJ Tryz.prog 113 uo:=by
 refine aJ.se (ps:=[]) (I:=[]) trivial trivial aGf λm p h=>?_;try dsimp only at h
 obtain⟨h1,h2⟩:=h;refine ao (bV @avh.eq_1 @jL.eq_1) (JJ ?_);refine aj m (λk (_:Unit)=>⟨[(0,.sl (m.map bf)),(1,.str p),(6,.int .i64 k)],[]⟩) (λk r _=>vf r p=vf m p) () (AI _) CT rfl (λk x r _ d U Z E=>?_) (λk _ e E=>?_)
 .simp only[vf]at E;refine ao (bV d (ag bf U)) (bV (λhn=>?_) (JJ (λhn=>?_)));all_goals first
   |(rw[gr (by first|exact hn|simpa using hn)]at E
     simp[D7,UG,<-E];done)
   |(rw[ba (by omega)]at E
     exact⟨(),CT,E⟩)
 .simp only[vf]at E;refine ao (jg e @D7.eq_1 @UG.eq_1 (CD E) @Option.getD_none.{0} @GI.{0}) (JJ ?_);all_goals rfl
@[reducible] def uq(s:B3):J:= .ref [.str s]
theorem awV:ux uq:=λ_ _ h=>by simp_all
@[reducible] def azJ(s:Ba):J:= .ref [.sl (cC s)]
@[reducible] def awF(s:List cG):J:= .ref [.sl (s.map bf)]
inductive _B where
 |put (p:B3) (v:Ba)
 |over (name:B3) (sub:List cG)
def VF(name:B3)(sub:List cG)(c:cG):Ba:=if xW c.path (under name)&&UG sub (TY c.path (under name))then D7 sub (TY c.path (under name))else c.dK
def UF(p:B3)(v:Ba)(c:cG):Ba:=if c.path=p then v else c.dK
def Ta:_B->cG->Ba
 | .put p v=>UF p v
 | .over n s=>VF n s
def turn(t:_B)(m:List cG):List cG:=m.map λc=>⟨c.path,Ta t c⟩
theorem adH(t:_B):turn t []=[]:=rfl
def yL(m:List cG)(p:B3)(v:Ba):List cG:=turn (.put p v) m
def mY(m:List cG)(n:B3)(s:List cG):List cG:=turn (.over n s) m
def _C:Ab->Prop×J:=fp jL eS mH λm p v=>(mh m/\v.length<=1000000,.sl ((yL m p v).map bf))
theorem aog(m:List cG)(p:B3)(v:Ba):_C [.sl (m.map bf),.str p,.sl (cC v)]=(mh m/\v.length<=1000000,.sl ((yL m p v).map bf)):=bW m6 kj nN _ m p v
theorem aIy:aJ Tryz.prog 87 _C:=by
 refine aJ.zP (ps:=[]) (I:=[]) trivial trivial aFy λm p v h=>?_;try dsimp only at h
 obtain⟨⟨h1,h2⟩,h3⟩:=h;refine ao (cL @auE.eq_1 @jL.eq_1 @mH.eq_1) (JJ ?_);refine aj m (λk (o:List cG)=>⟨[(0,.sl (m.map bf)),(1,.str p),(2,.sl (cC v)),(7,.own 0 o.length 0 o.length),(8,.int .i64 k)],[⟨.aV,2,o.map bf⟩]⟩) (λk r o=>o++yL r p v=yL m p v/\o.length=k) [] (AI _) CT ⟨rfl,rfl⟩ (λk x r o d U Z E=>?_) (λk o e E=>?_)
 .obtain⟨g1,g2⟩:=E;have g3:o++[⟨x.path,UF p v x⟩]++yL r p v=yL m p v:=by simpa[yL,turn,Ta]using g1
  refine ao (bV d (ag bf U)) (bV (λhn=>?_) (JJ (λhn=>?_)));all_goals first
   |(have e:UF p v x=v:=by simp[UF,show x.path=p by first|exact hn|simpa using hn]
     rw[e]at g3;exact⟨o++[⟨x.path,v⟩],(CF @IN.{0,0}),g3,by simp[g2]⟩)
   |(have e:UF p v x=x.dK:=by simp_all[UF]
     rw[e]at g3;exact⟨o++[⟨x.path,x.dK⟩],(CF @IN.{0,0}),g3,by simp[g2]⟩)
 .obtain⟨g1,g2⟩:=E;simp only[yL,adH,xz]at g1;subst g1;refine ao (bV @Dl e) (JJ ?_);all_goals rfl
def Yb:Ab->Prop×J:=fp jL eS jL λm n s=>(mh m/\n.length<=1000000/\mh s/\(∀c∈m,c.path.length<=4503599627370496),.sl ((mY m n s).map bf))
theorem aj6(m:List cG)(n:B3)(s:List cG):Yb [.sl (m.map bf),.str n,.sl (s.map bf)]=(mh m/\n.length<=1000000/\mh s/\(∀c∈m,c.path.length<=4503599627370496),.sl ((mY m n s).map bf)):=bW m6 kj m6 _ m n s
theorem ahc(n:B3)(s:List cG)(c:cG):VF n s c=if xW c.path (under n)&&UG s (C8 c.path n)then D7 s (C8 c.path n)else c.dK:=by grind[VF,xW,under,TY,C8]
theorem aIz:aJ Tryz.prog 145 Yb:=by
 refine aJ.zP (ps:=[(165,Zx),(113,uo)]) (I:=[]) ⟨ay8,ay9,BB⟩ trivial aGN λm n s h=>?_;try dsimp only at h
 obtain⟨⟨h1,h2⟩,h3,h4,h5⟩:=h;refine ao (bV @avz.eq_1 @jL.eq_1) (JJ ?_);refine aj m (λk (o:List cG)=>⟨[(0,.sl (m.map bf)),(1,.str n),(2,.sl (s.map bf)),(7,.own 0 o.length 0 o.length),(8,.int .i64 k)],[⟨.aV,2,o.map bf⟩]⟩) (λk r o=>o++mY r n s=mY m n s/\o.length=k) [] (AI _) CT ⟨rfl,rfl⟩ (λk x r o d U Z E=>?_) (λk o e E=>?_)
 .obtain⟨g1,g2⟩:=E;have g3:o++[⟨x.path,VF n s x⟩]++mY r n s=mY m n s:=by simpa[mY,turn,Ta]using g1
  have Y:=ay7 x.path n;rw[lU (show x.path.length<=4503599627370496/\n.length<=1000000 from⟨h5 x (xF Z),h3⟩)]at Y;have e2:=abe s (C8 x.path n);rw[lU h4]at e2;rw[ahc]at g3;refine ao (fj d (ag bf U) Y e2) (cL ?_ ?_ (JJ ?_))<;>intros;all_goals first
   |(rw[gr (by grind)]at g3
     exact⟨o++[⟨x.path,D7 s (C8 x.path n)⟩],(CF @IN.{0,0}),g3,by simp[g2]⟩)
   |(rw[ba (by grind)]at g3
     exact⟨o++[⟨x.path,x.dK⟩],(CF @IN.{0,0}),g3,by simp[g2]⟩)
 .obtain⟨g1,g2⟩:=E;simp only[mY,adH,xz]at g1;subst g1;refine ao (bV @Dl e) (JJ ?_);all_goals rfl
def yn(n:B3)(c:cG):List cG:=if xW c.path (under n)then [⟨c.path.drop (n.length+1),c.dK⟩]else []
def gL(m:List cG)(n:B3):List cG:=m.flatMap (yn n)
def Ya:Ab->Prop×J:=cH jL eS λm n=>(mh m/\n.length<=1000000/\(∀c∈m,c.path.length<=4503599627370496),.sl ((gL m n).map bf))
theorem afk(m:List cG)(n:B3):Ya [.sl (m.map bf),.str n]=(mh m/\n.length<=1000000/\(∀c∈m,c.path.length<=4503599627370496),.sl ((gL m n).map bf)):=aY m6 kj _ m n
theorem aIA:aJ Tryz.prog 144 Ya:=by
 refine aJ.se (ps:=[(165,Zx)]) (I:=[]) ⟨ay8,BB⟩ trivial aGM λm n h=>?_;try dsimp only at h
 obtain⟨⟨h1,h2⟩,h3,h4⟩:=h;refine ao (bV @avy.eq_1 @jL.eq_1) (JJ ?_);refine aj m (λk (o:List cG)=>⟨[(0,.sl (m.map bf)),(1,.str n),(5,.own 0 o.length 0 o.length),(6,.int .i64 k)],[⟨.aV,2,o.map bf⟩]⟩) (λk r o=>o++gL r n=gL m n/\o.length<=k) [] (AI _) CT ⟨rfl,By _⟩ (λk x r o d U Z E=>?_) (λk o e E=>?_)
 .obtain⟨g1,g2⟩:=E;have g3:o++yn n x++gL r n=gL m n:=by simpa[gL]using g1
  have Y:=ay7 x.path n;rw[lU (show x.path.length<=4503599627370496/\n.length<=1000000 from⟨h4 x (xF Z),h3⟩)]at Y;cases q:xW x.path (under n)
  .simp only[yn,q,AN,Bv,xz]at g3;simp only[q]at Y;refine ao (cL d (ag bf U) Y) (JJ ?_);exact⟨o,CT,g3,by omega⟩
  .simp only[yn,q,Bp]at g3;simp only[q,C8,Bp]at Y;refine ao (cL d (ag bf U) Y) (JJ ?_);exact⟨o++[⟨x.path.drop (n.length+1),x.dK⟩],(CF @IN.{0,0}),g3,by simp;omega⟩
 .obtain⟨g1,g2⟩:=E;simp only[gL,List.flatMap_nil,xz]at g1;subst g1;refine ao (bV @Dl e) (JJ ?_);all_goals rfl
def WM(c:cG):Bool:=decide (c.path.length<=200)&&decide (c.dK.length<=20)
def Nv(m:List cG):Bool:=decide (m.length<=150)&&m.all WM
def _D:Ab->Prop×J:=bJ jL λm=>(True,.bool (Nv m))
theorem ajq(m:List cG):_D [.sl (m.map bf)]=(True,.bool (Nv m)):=aI m6 _ m
theorem aIB:aJ Tryz.prog 17 _D:=by
 refine aJ.mS (ps:=[]) (I:=[]) trivial trivial aEf λm _=>?_;refine ao (bV @atq.eq_1 @jL.eq_1) (JJ ?_);refine aj m (λk (_:Unit)=>⟨[(0,.sl (m.map bf)),(3,.int .i64 k)],[]⟩) (λk r _=>k<=200/\r.all WM=m.all WM) () (AI _) CT ⟨by omega,rfl⟩ (λk x r _ d U Z E=>?_) (λk _ e E=>?_)
 .obtain⟨hk,E⟩:=E;simp only[MM]at E;refine ao (cL @aU d (ag bf U)) (fj ?_ ?_ ?_ (JJ ?_))<;>intros;all_goals first
   |exact⟨(),CT,by omega,by grind[WM]⟩
   |grind[Nv,WM]
 .obtain⟨hk,E⟩:=E;simp only[C1]at E;refine ao @e (JJ ?_);all_goals grind[Nv]
theorem uz(m:List cG)(p:B3)(v:Ba):(yL m p v).length=m.length:=by simp[yL,turn]
theorem DC(m:List cG)(p:B3)(v:Ba):vf (yL m p v) p=if UG m p then some v else none:=by
 induction m with
 |nil=>rfl
 |cons c m ih=>
  have e:yL (c::m) p v=⟨c.path,UF p v c⟩::yL m p v:=rfl;rw[e];simp only[vf,UG];by_cases h:c.path=p
  .simp[h,UF]
  .simp only[h,Bv];exact ih
end
end Go.Proofs.YtldnkkkooabaeaaGreat
