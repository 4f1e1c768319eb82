/- What a Flow keeps at first: the program's. -/
import Derived.Test.YtldnkkkooabaeaaGreatMsF
set_option linter.all false
set_option maxRecDepth 20000
namespace Go.Proofs.YtldnkkkooabaeaaGreat
open Go.Nk
structure rB where
 n:Nat
 m:Nat
 v:List cG
 l:cT
 at_:Int
 ah:B3
@[reducible] def Vi(n:Nat):J:= .Bg 51 [.ptr n 1 0 0]
def w_(x:rB)(a:Ab)(B:List ae):Prop:=a=[.agg (cD x.l),.int .i64 x.at_,.str x.ah,Vi x.n]/\TD.is B x.n x.m x.v
theorem ari:∀x y a B,w_ x a B->w_ y a B->x=y:=by
 rintro⟨n,m,v,l,i,p⟩ ⟨n',m',v',l',i',p'⟩ a B ⟨h1,h2⟩ ⟨h3,h4⟩
 simp only at h1 h2 h3 h4;rw[h1]at h3;injection h3 with Y h3;injection h3 with e2 h3;injection h3 with e3 h3;injection h3 with e4 h3;injection Y with Y;injection e2 with _ e2;injection e3 with e3;injection e4 with _ e4;injection e4 with e4 _;injection e4 with e4 _ _ _;subst e2 e3 e4;have:=BO _ _ Y;subst this;obtain⟨rfl,rfl⟩:=aCl h2 h4;rfl
def okB(N:Nat)(x:rB):Prop:=dq x.l x.at_ N/\x.v.length+(bh x.l N x.at_).length<=1000/\x.ah.length+N*281474976710656<=1152921504606846976
def ZJ(N:Nat)(x:rB):List cG:=x.v++(bh x.l N x.at_).map (jh x.ah)
noncomputable def rD(N:Nat):Ab->List ae->o9:=iY w_ (λx=>(okB N x,.b9 [])) λx B=>TD.put B x.n x.m (ZJ N x)
theorem aht(N:Nat){B t:List ae}{n m:Nat}{v:List cG}(k:gU B n m)(l:cT)(at_:Int)(ah:B3):rD N [.agg (cD l),.int .i64 at_,.str ah,Vi n] (TD.put B n m v++t)=⟨okB N ⟨n,m,v,l,at_,ah⟩,.b9 [],TD.put B n m (ZJ N ⟨n,m,v,l,at_,ah⟩)++t⟩:=by have:=fh (f:=λx:rB=>(okB N x,J.b9 [])) (out:=λx B=>TD.put B x.n x.m (ZJ N x)) ari (x:=⟨n,m,v,l,at_,ah⟩) (a:=[.agg (cD l),.int .i64 at_,.str ah,Vi n]) (B:=TD.put B n m v++t) ⟨rfl,jJ.B_ k⟩;unfold rD;rw[this,jJ.PN k]
section
variable {B g t:List ae} {n m:Nat} {v:List cG} {b o o':ae}
theorem ai9:(TD.put B n m v++(b::(g++(o::t))))[B.length+(g.length+1)]? =some o:=by have:=jJ.axH (T:=TD) (B:=B) (n:=n) (m:=m) (v:=v) (t:=b::g) (o:=o) (t':=t);simp_all
theorem aja:(TD.put B n m v++(b::(g++(o::t)))).set (B.length+(g.length+1)) o'=TD.put B n m v++(b::(g++(o'::t))):=by have:=jJ.axI (T:=TD) (B:=B) (n:=n) (m:=m) (v:=v) (t:=b::g) (o:=o) (o':=o') (t':=t);simp_all
end
theorem arj(p q:B3)(c:cG):jh p (jh q c)=jh (p++q) c:=by simp[jh]
theorem adW:∀N,ez Tryz.prog 50 (rD N)
 |0=>λa B h=>by
  exfalso;unfold rD iY at h;split at h
  .obtain⟨⟨_,h1,h2,_⟩,_⟩:=h;omega
  .exact h.elim
 |N+1=>by
  refine ez.aEY (ps:=[(80,Da),(81,xO),(82,C7)]) (I:=[(51,TI),(50,rD N)]) (is:=[(109,xN),(110,tL)]) ⟨azv,azB,aIx,BB⟩ ⟨ayt,adW N,BB⟩ ⟨azq,azs,BB⟩ acb (λx a B h=>by rw[h.1];rfl) λx a B h bE=>?_;obtain⟨n,m,v,l,at_,ah⟩:=x;obtain⟨rfl,hi⟩:=h;obtain⟨⟨hw,h0,h1,h2,h3,h4⟩,h5,h6⟩:=bE;simp only at hi h0 h1 h2 h4 h5 h6 hw;dsimp only;have k:=jJ.SX hi;obtain⟨i,rfl⟩:∃i:Nat,at_=i:=⟨at_.toNat,by omega⟩;have hg:l.fs[i]? =some (ad l i):=by simp_all[ad]
  have UM:X6 (ad l i):=hw.1.2 _ (ed hg);have og:∀q∈(ad l i).eqs.filter (bt i),(bh l N q.node).length<=1000:=λq hq=>D0 (ai6 hq) h4;have Jw:∀q∈(ad l i).eqs,Ti q:=λq hq=>Qf hw hq;generalize Kp:ZJ (N+1) ⟨n,m,v,l,i,ah⟩=res;have TG:=Kp;simp only[ZJ,bh,IN,Ei,List.map_flatMap]at TG;have Mt:res.length<=1000:=by grind[ZJ,AS,Pe]
  generalize hf:ad l i=f at hg UM og Jw TG;have Hr:i<l.fs.length:=by omega
  have q1:(dJ.GU [(80,Da),(81,xO),(82,C7)] [(51,TI),(50,rD N)] [(109,xN),(110,tL)]).i 109 [.ref (lf f)]=(True,(f.eqs.filter gF).map zM):=by have:=azp f;rw[lU UM]at this;exact this
  have q2:(dJ.GU [(80,Da),(81,xO),(82,C7)] [(51,TI),(50,rD N)] [(109,xN),(110,tL)]).i 110 [.ref (cD l),.ref [.int .i64 i]]=(True,(f.eqs.filter (bt i)).map zM):=by have:=azr l i;rw[hf,lU (show vE (l,(i:Int)) from⟨by omega,by omega,by have:=hw.1.1;simp only[bN];omega,hw.1.2⟩)]at this;exact this
  have e0:(⟨aO 0 [.agg (cD l),.int .i64 i,.str ah,Vi n],B⟩:DS)=(⟨aO 0 [.agg (cD l),.int .i64 i,.str ah,Vi n],TD.put B n m v++[]⟩:DS):=by rw[jJ.XL hi,xz]
  rw[e0];refine tQ (fF @atA.eq_1 @azt @VA (ag lf hg) Hr) (JJ ?_);refine DB (f.eqs.filter gF) zM (λ_ (a:List cG×List ae)=>TD.put B n m a.1++(⟨.loc,1,[[Vi n]]⟩::a.2)) (λj r a=>a.1++(r.map (jh ah∘OX)++(f.eqs.filter (bt i)).flatMap λq=>(bh l N q.node).map (jh ah∘jh (aw q++[47])))=res) (v,[])
   [(1,.int .i64 i),(4,.ref (cD l)),(6,.ref [.str ah]),(7,.ptr B.length 1 0 0),(9,.undef),(32,.undef)] trivial rfl rfl q1 rfl CT ?_ (λj x r a U Z E=>⟨rfl,?_⟩) (λj a ej E=>?_)
  .exact TG
  .obtain⟨w,g⟩:=a;simp only at E|-;have UT:=PC.1 (ed U);have Lp:=Jw x UT.1;have D9:=C9 Lp;have Hb:x.init.length<=17592186044416:=by have:=Lp.1;simp only[bN]at this;omega
   have bP:0<x.names.length:=by simp_all[gF,ab,ir]
   have b1:(cW x.names).getD 0 []=[.str (aw x)]:=CG bP;have ev:=adG x.init;rw[lU Hb]at ev;simp only[bN]at D9;have x_:w.length<=1000:=by grind
   have ea:∀t,TI [.agg [.str (ah++aw x),.sl (cC x.init)],.ptr n 1 0 0] (TD.put B n m w++t)=⟨True,.b9 [],TD.put B n m (w++[jh ah (OX x)])++t⟩:=λt=>by have:=aq7 (t:=t) (v:=w) k (jh ah (OX x));rw[lU x_]at this;exact this
   refine tQ (ey @ak @VA @J_ @tg @jJ.qw @ai9 @aja @zM.eq_1 (jg @V7.{0,0} @List.zip_nil_right.{0,0} b1 @gj.eq_1 ev ea)) (JJ ?_);exact⟨(w++[jh ah (OX x)],g++[_]),rfl,by grind⟩
  .obtain⟨w,g⟩:=a;simp only[DD,Bz]at E|-;refine ao (bV @azA @VA) (JJ ?_);refine DB (f.eqs.filter (bt i)) zM (λ_ (a:List cG×List ae)=>TD.put B n m a.1++(⟨.loc,1,[[Vi n]]⟩::a.2)) (λj r a=>a.1++(r.flatMap λq=>(bh l N q.node).map (jh ah∘jh (aw q++[47])))=res) (w,g)
    [(4,.ref (cD l)),(6,.ref [.str ah]),(7,.ptr B.length 1 0 0)] trivial rfl rfl q2 rfl CT E (λj x r a U Z E=>⟨rfl,?_⟩) (λj a ej E=>?_)
   .obtain⟨w,g⟩:=a;simp only[Cq]at E|-;have UT:=PC.1 (ed U);have Lp:=Jw x UT.1;have D9:=C9 Lp;have hq:=UT.2;simp only[bt,ab,ir]at hq;obtain⟨_,bP,n0,n1⟩:=hq;have b1:(cW x.names).getD 0 []=[.str (aw x)]:=CG bP;simp only[bN]at D9;have x_:w.length+(bh l N x.node).length<=1000:=by grind
    have ea:∀t,rD N [.agg (cD l),.int .i64 x.node,.str (ah++(aw x++[47])),Vi n] (TD.put B n m w++t)=⟨True,.b9 [],TD.put B n m (w++(bh l N x.node).map (jh ah∘jh (aw x++[47])))++t⟩:=λt=>by have:=aht N (t:=t) (v:=w) k l x.node (ah++(aw x++[47]));rw[lU (show okB N ⟨n,m,w,l,x.node,ah++(aw x++[47])⟩ from⟨⟨hw,n0,by grind,by grind,by omega,og x (ed U)⟩,x_,by grind⟩)]at this;rw[this];have e9:(jh ah∘jh (aw x++[47]))=jh (ah++(aw x++[47])):=funext λc=>arj ah (aw x++[47]) c;rw[e9];rfl
    refine tQ (ey @ak @J_ @tg @jJ.qw @ai9 @aja @zM.eq_1 @V7.{0,0} (fj @List.zip_nil_right.{0,0} b1 @gj.eq_1 ea)) (JJ ?_);exact⟨(w++(bh l N x.node).map (jh ah∘jh (aw x++[47])),g++[_]),rfl,by grind⟩
   .obtain⟨w,g⟩:=a;simp only[List.flatMap_nil,xz]at E;subst E;refine tQ trivial (JJ ?_);exact jJ.XM (by simp[ae.cut,J.cut,J.qA,k.2.1]) aiB
theorem ark(c:cG):jh [] c=c:=rfl
theorem aCv:aJ Tryz.prog 24 oG:=by
 refine aJ.se (ps:=[(49,KS)]) (I:=[(50,rD 11)]) ⟨aIX,BB⟩ ⟨adW 11,BB⟩ ab9 λl at_ h=>?_;have hw:okW l:=h;have Y:=azE l at_;rw[lU hw.1]at Y;dsimp only;by_cases c:qt l at_=true
 .have hS:=e1 hw c;have e3:aQ l at_=bh l 11 at_:=by rw[aQ,gr c]
  have eb:rD 11 [.agg (cD l),.int .i64 at_,.str [],Vi 0] [⟨.loc,1,[[.own 1 0 0 0]]⟩,⟨.aV,2,[]⟩]=⟨True,.b9 [],[⟨.loc,1,[[.own 1 (bh l 11 at_).length 0 (bh l 11 at_).length]]⟩,⟨.aV,2,(bh l 11 at_).map bf⟩]⟩:=by
   have:=fh (f:=λx:rB=>(okB 11 x,J.b9 [])) (out:=λx B=>TD.put B x.n x.m (ZJ 11 x)) ari (x:=⟨0,1,[],l,at_,[]⟩) (a:=[.agg (cD l),.int .i64 at_,.str [],Vi 0]) (B:=[⟨.loc,1,[[.own 1 0 0 0]]⟩,⟨.aV,2,[]⟩]) ⟨rfl,rfl,rfl,Nat.zero_ne_one⟩;unfold rD;rw[this,lU (show okB 11 ⟨0,1,[],l,at_,[]⟩ from⟨hS.1,by grind,by simp⟩)];have e9:ZJ 11 ⟨0,1,[],l,at_,[]⟩=bh l 11 at_:=by have:jh []=id:=funext ark;simp only[ZJ,this,List.map_id,Bz]
   rw[e9];rfl
  rw[c,e3];simp only[qt,ab,aaa,ir]at c;obtain⟨c1,c2,c3⟩:=c;have HR:decide ((120:Int)<(gD l at_).1)=false:=by simp;omega
  have GD:decide ((120:Int)<(gD l at_).2)=false:=by simp;omega
  generalize bh l 11 at_=S at eb;refine ao (jg @CH.eq_1 @mc.eq_1 Y c1 HR GD) (JJ ?_);refine sV ?_;exact ao (bV @Dl eb) zz
 .have e3:aQ l at_=[]:=by rw[aQ,ba c]
  have c:qt l at_=false:=by simpa using c
  rw[c,e3];refine ao (cL @CH.eq_1 @mc.eq_1 Y) (JJ (λhn hn hn=>?_));all_goals(simp_all [qt];try omega)
theorem aju{l:cT}(hw:okW l)(at_:Int):mh (aQ l at_)/\(aQ l at_).length<=120:=by
 unfold aQ;split
 next c=>have:=e1 hw c;refine⟨⟨by omega,λx U=>?_⟩,this.2⟩;have:=(HZ hw 11 at_ x U).2;simp only[bN]at this;omega
 .exact⟨⟨by simp,by simp⟩,by simp⟩
end Go.Proofs.YtldnkkkooabaeaaGreat
