/- What fits a Flow; whether inputs are right; an instant of what fits (24). -/
import Derived.Test.YtldnkkkooabaeaaGreatPgM
import Derived.Test.YtldnkkkooabaeaaGreatStL
set_option maxHeartbeats 4000000
set_option linter.all false
set_option maxRecDepth 20000
namespace Go.Proofs.YtldnkkkooabaeaaGreat
noncomputable section
open Go.Nk
def PG(l:cT):Prop:=Lt l/\I' l/\E3 l
theorem an4{l}(h:PG l){at_}(hv:qt l at_=true):RY l 11 at_/\(oK l 11 at_).length=(aQ l at_).length/\aQ l at_=bh l 11 at_:=by
 obtain⟨h0,h1⟩:=kG hv;obtain⟨h2,h3⟩:=e1 h.1.1 hv;have h4:aQ l at_=bh l 11 at_:=by rw[aQ,gr hv]
 have h5:(oK l 11 at_).length=(bh l 11 at_).length:=by rw[oK,Pe,wP]
 have:=h.1.1.1.1;exact⟨⟨h.1,h.2.1,h0,by omega,h1,by omega⟩,by rw[h4,h5],h4⟩
def UW(l:cT)(at_:Int):List Ty:=if qt l at_ then oK l 11 at_ else []
def akr:Ab->Prop×J:=cH mc eI λl at_=>(PG l,.b9 [.sl ((aQ l at_).map bf),.sl ((UW l at_).map dE),.bool (qt l at_)])
def aa5(l)(at_):=show akr [.agg (cD l),.int .i64 at_]=_ from aY sR cF _ l at_
theorem aj2:aJ Tryz.prog 69 akr:=by
 refine aJ.se (ps:=[(23,oG),(95,ly 11)]) (I:=[]) ⟨iL,an5 11,BB⟩ trivial aEU λl at_ h=>?_;have h:PG l:=h;have Y:=mO l at_;rw[lU h.1.1]at Y;simp only[cD]at Y;by_cases c:qt l at_=true
 .have e2:=Af 11 l at_;rw[lU (an4 h c).1]at e2;simp only[cD]at e2;rw[show UW l at_=oK l 11 at_ by rw[UW,gr c]];rw[c]at Y;exact ao (fF @ph.eq_1 @mc.eq_1 Y e2 c) zz
 .have c2:qt l at_=false:=by simpa using c
  rw[show UW l at_=[] by rw[UW,ba c],show aQ l at_=[] by rw[aQ,ba c]];rw[c2]at Y;exact ao (fj @ph.eq_1 @mc.eq_1 Y c2) zz
def OY(en:List En):List cG->List Ty->List cG->Bool
 |c::s,t::ts,d::m=>decide (c.path=d.path)&&jo en t d.dK&&OY en s ts m
 |_,_,_=>true
def fI(l:cT)(at_:Int)(m:List cG):Bool:=qt l at_&&decide ((aQ l at_).length=m.length)&&OY l.enums (aQ l at_) (oK l 11 at_) m
def Le:Ab->Prop×J:=fp mc eI jL λl at_ m=>(PG l/\kE m,.bool (fI l at_ m))
theorem akt(l)(at_)(m:List cG):Le [.agg (cD l),.int .i64 at_,.sl (m.map bf)]=(PG l/\kE m,.bool (fI l at_ m)):=bW sR cF m6 _ l at_ m
theorem am8:aJ Tryz.prog 40 Le:=by
 refine aJ.zP (ps:=[(24,oG),(68,ly 11),(32,yQ)]) (I:=[]) ⟨aCv,an6 11,ayH,BB⟩ trivial aEy λl at_ m h=>?_;obtain⟨hG,hM⟩:=h;have Y:=mO l at_;rw[lU hG.1.1]at Y;have hb:fI l at_ m=(qt l at_&&decide ((aQ l at_).length=m.length)&&OY l.enums (aQ l at_) (oK l 11 at_) m):=rfl;by_cases c:qt l at_=true;rotate_left
 .have c2:qt l at_=false:=by simpa using c
  rw[c2]at Y hb;have hb:fI l at_ m=false:=hb;obtain⟨en,fs⟩:=l;simp only[cD]at Y;exact ao (fF @sS.eq_1 @jL.eq_1 @mc.eq_1 Y hb) zz
 obtain⟨hT,hl,I⟩:=an4 hG c;rw[c,Pd]at hb;rw[c]at Y;have e2:=Af 11 l at_;rw[lU hT]at e2;generalize aQ l at_=S at*;have WT:=hT.2.2.2.2.2;generalize oK l 11 at_=T at*;obtain⟨en,fs⟩:=l;simp only[cD]at Y e2;dsimp only at hb;by_cases c3:S.length=m.length;rotate_left
 .rw[Z7 c3,C4]at hb;exact ao (fF @sS.eq_1 @jL.eq_1 @mc.eq_1 Y hb) zz;all_goals exact absurd (by assumption) c3
 rw[ON c3,Pd]at hb;refine ao (jg @sS.eq_1 @jL.eq_1 @mc.eq_1 Y e2 c3) (JJ ?_);refine aj T (λj (_:Unit)=>⟨[(2,.sl (m.map bf)),(3,.ref [.sl (en.map kF),.sl (fs.map lf)]),(7,.sl (S.map bf)),(28,.sl (T.map dE)),(29,.int .i64 T.length),(30,.int .i64 j)],[]⟩) (λj r _=>OY en (S.drop j) r (m.drop j)=fI ⟨en,fs⟩ at_ m) () (by decide) CT (by rw[hb];rfl) (λj x r _ d U Z E=>?_) (λj _ e E=>?_)
 .obtain⟨y,hy,Hi⟩:=eE S (k:=j) (by omega);obtain⟨z,hz,hzd⟩:=eE m (k:=j) (by omega);rw[Hi,hzd,OY]at E;have gx:=ag dE U;have gy:=ag bf hy;have gz:=ag bf hz;have mf:=(hM.2 z (ed hz)).1;have e3:=ayG en x z.dK;rw[lU (show z.dK.length<=1000000000 by omega)]at e3;have Hq:j<S.length:=by omega
  have OM:j<m.length:=by omega
  obtain⟨akx,aJV⟩:=y;obtain⟨akR,zv⟩:=z;obtain⟨akS,akT,akU⟩:=x;simp only[dE]at e3;dsimp only at E e3;by_cases c4:akx=akR
  .rw[ON c4,Pd]at E;cases c5:jo en ⟨akS,akT,akU⟩ zv
   .rw[c5]at e3 E;have E:=E.symm;exact ao (ey d gx gy gz Hq OM e3 c4 E) zz
   .rw[c5]at e3 E;refine ao (tM d gx gy gz Hq OM e3 c4) (JJ ?_);all_goals exact⟨(),CT,by simpa using E⟩
  .rw[Z7 c4]at E;have E:fI ⟨en,fs⟩ at_ m=false:=by simpa using E.symm
   refine ao (tM d gx gy gz e3 Hq OM E) (JJ (λhn hn=>?_));all_goals exact absurd (by assumption) c4
 .have E:fI ⟨en,fs⟩ at_ m=true:=by rw[<-E];cases (List.drop j S)<;>rfl
  exact ao (bV e E) zz
theorem aap:aJ Tryz.prog 41 Le:=by
 refine aJ.zP (ps:=[(69,akr),(70,yQ)]) (I:=[]) ⟨aj2,ayI,BB⟩ trivial aEA λl at_ m h=>?_;obtain⟨hG,hM⟩:=h;have Y:=aa5 l at_;rw[lU hG]at Y;have hb:fI l at_ m=(qt l at_&&decide ((aQ l at_).length=m.length)&&OY l.enums (aQ l at_) (oK l 11 at_) m):=rfl;by_cases c:qt l at_=true;rotate_left
 .have c2:qt l at_=false:=by simpa using c
  rw[c2]at Y hb;have hb:fI l at_ m=false:=hb;obtain⟨en,fs⟩:=l;simp only[cD]at Y;exact ao (fF @mw.eq_1 @jL.eq_1 @mc.eq_1 Y hb) zz
 obtain⟨hT,hl,I⟩:=an4 hG c;rw[c,Pd]at hb;rw[c,show UW l at_=oK l 11 at_ by rw[UW,gr c]]at Y;generalize aQ l at_=S at*;have WT:=hT.2.2.2.2.2;generalize oK l 11 at_=T at*;obtain⟨en,fs⟩:=l;simp only[cD]at Y;dsimp only at hb;by_cases c3:S.length=m.length;rotate_left
 .rw[Z7 c3,C4]at hb;exact ao (fF @mw.eq_1 @jL.eq_1 @mc.eq_1 Y hb) zz;all_goals exact absurd (by assumption) c3
 rw[ON c3,Pd]at hb;refine ao (fF @mw.eq_1 @jL.eq_1 @mc.eq_1 Y c3) (JJ ?_);refine aj m (λj (_:Unit)=>⟨[(2,.sl (m.map bf)),(3,.ref [.sl (en.map kF),.sl (fs.map lf)]),(7,.sl (S.map bf)),(8,.sl (T.map dE)),(10,.int .i64 j)],[]⟩) (λj r _=>OY en (S.drop j) (T.drop j) r=fI ⟨en,fs⟩ at_ m) () (by decide) CT (by rw[hb];rfl) (λj z r _ d hz Z E=>?_) (λj _ e E=>?_)
 .obtain⟨y,hy,Hi⟩:=eE S (k:=j) (by omega);obtain⟨x,U,hxd⟩:=eE T (k:=j) (by omega);rw[Hi,hxd,OY]at E;have gx:=ag dE U;have gy:=ag bf hy;have gz:=ag bf hz;have mf:=(hM.2 z (ed hz)).1;have e3:=ayG en x z.dK;rw[lU (show z.dK.length<=1000000000 by omega)]at e3;have Hq:j<S.length:=by omega
  have OM:j<T.length:=by omega
  obtain⟨akx,aJV⟩:=y;obtain⟨akR,zv⟩:=z;obtain⟨akS,akT,akU⟩:=x;simp only[dE]at e3;dsimp only at E e3;by_cases c4:akR=akx
  .rw[ON c4.symm,Pd]at E;cases c5:jo en ⟨akS,akT,akU⟩ zv
   .rw[c5]at e3 E;have E:=E.symm;exact ao (ey d gx gy gz Hq OM e3 c4 E) zz
   .rw[c5]at e3 E;refine ao (tM d gx gy gz Hq OM e3 c4) (JJ ?_);all_goals exact⟨(),CT,by simpa using E⟩
  .rw[Z7 (λh=>c4 h.symm)]at E;have E:fI ⟨en,fs⟩ at_ m=false:=by simpa using E.symm
   refine ao (tM d gx gy gz e3 Hq OM E) (JJ (λhn hn=>?_));all_goals exact absurd (by assumption) c4
 .have E:fI ⟨en,fs⟩ at_ m=true:=by rw[<-E];cases (List.drop j S)<;>cases (List.drop j T)<;>rfl
  exact ao (bV e E) zz
def OL(en:List En):List Va->Bd->Bool
 |d::ds,y::ys=>jo en (z6 d) y&&OL en ds ys
 |_,_=>true
def uy(en:List En)(ds:List Va)(v:Bd):Bool:=decide (ds.length=v.length)&&OL en ds v
def Ux(_:Bd):Prop:=True
theorem aJ.azS{P}{F}{α β γ}{e:α->J}{e':β->J}{IZ:γ->J}{f g k:α->β->γ->Prop×J}(h:aJ P F (fp e e' IZ f))(h2:aJ P F (fp e e' IZ g))
 (hv:∀a b c,(k a b c).1->((f a b c).1/\(f a b c).2=(k a b c).2)\/((g a b c).1/\(g a b c).2=(k a b c).2)):aJ P F (fp e e' IZ k):=by
 intro l B;have a1:=h l;have a2:=h2 l;unfold fp at a1 a2 B|-;split at B
 .rename_i hh;rw[CV hh]at a1 a2|-;rcases hv _ _ _ B with⟨x,y⟩|⟨x,y⟩
  .rw[<-y];exact a1 x
  .rw[<-y];exact a2 x
 .exact B.elim
def an7:Ab->Prop×J:=fp ky sQ mH λl t v=>(¬(bg l t=true/\(v.length:Int)=cY t),.bool false)
def yD:Ab->Prop×J:=fp ky sQ mH λl t v=>(True,.bool (jo l t v))
def aCR(l:List En)(t)(v):=show yD [.sl (l.map kF),.agg (dE t),.sl (cC v)]=_ from bW my qI nN _ _ _ _
theorem aa6{f}(h1:aJ Tryz.prog f yQ)(h2:aJ Tryz.prog f an7):aJ Tryz.prog f yD:=aJ.azS h1 h2 λl t v _=>by
 by_cases q:bg l t=true/\(v.length:Int)=cY t
 .refine .inl ⟨?_,rfl⟩;have:=yF t;show v.length<=1000000000;omega
 .refine .inr ⟨q,?_⟩;have:jo l t v=false:=by
   unfold jo;cases c:bg l t
   .rfl
   .rw[show((v.length:Int)==cY t)=false from by simpa usingλh=>q ⟨c,h⟩];rfl
  rw[this]
theorem aez:aJ Tryz.prog 32 yD:=aa6 ayH<|by
 refine aJ.zP (ps:=[(60,l9),(61,pX)]) (I:=[]) ⟨FY,ayF,BB⟩ trivial axJ λl t v h=>?_;have h:¬(bg l t=true/\(v.length:Int)=cY t):=h;have Y:=jT l t;have e2:=nL t;simp only[dE]at Y e2;cases c:bg l t
 .rw[c]at Y;exact ao (fF @wQ.eq_1 @ky.eq_1 @mH.eq_1 @sQ.eq_1 Y) zz
 .rw[c]at Y;have n0:¬(v.length:Int)=cY t:=λe=>h ⟨c,e⟩;have n1:((v.length:Int)==cY t)=false:=by simpa using n0
  have n2:((v.length:Int) !=cY t)=true:=by simpa using n0
  exact ao (tM @wQ.eq_1 @ky.eq_1 @mH.eq_1 @sQ.eq_1 @aU Y e2 n1) zz
theorem aff:aJ Tryz.prog 70 yD:=aa6 ayI<|by
 refine aJ.zP (ps:=[(96,l9),(97,pX)]) (I:=[]) ⟨sU,x8,BB⟩ trivial ayd λl t v h=>?_;have h:¬(bg l t=true/\(v.length:Int)=cY t):=h;have Y:=jT l t;have e2:=nL t;simp only[dE]at Y e2;cases c:bg l t
 .rw[c]at Y;exact ao (fF @jr.eq_1 @ky.eq_1 @mH.eq_1 @sQ.eq_1 Y) zz
 .rw[c]at Y;have n0:¬(v.length:Int)=cY t:=λe=>h ⟨c,e⟩;have n1:((v.length:Int)==cY t)=false:=by simpa using n0
  have n2:((v.length:Int) !=cY t)=true:=by simpa using n0
  exact ao (tM @jr.eq_1 @ky.eq_1 @mH.eq_1 @sQ.eq_1 @aU Y e2 n2) zz
def akV:Ab->Prop×J:=fp ky Tv tf λl ds v=>(ds.length<=1000000/\Ux v,.bool (uy l ds v))
def aa7(l:List En)(ds:List Va)(v:Bd):=show akV [.sl (l.map kF),.sl (ds.map eu),.sl (v.map cy)]=_ from bW my ahO yR _ l ds v
theorem afg:aJ Tryz.prog 56 akV:=by
 refine aJ.zP (ps:=[(70,yD)]) (I:=[]) ⟨aff,BB⟩ trivial aEP λen ds v h=>?_;obtain⟨h1,_⟩:=h;have hb:uy en ds v=(decide (ds.length=v.length)&&OL en ds v):=rfl;by_cases c:ds.length=v.length;rotate_left
 .rw[Z7 c,C4]at hb;exact ao (fF @om.eq_1 @ky.eq_1 @tf.eq_1 @Tv.eq_1 hb) zz;all_goals exact absurd (by assumption) c
 rw[ON c,Pd]at hb;refine ao (fF @om.eq_1 @ky.eq_1 @tf.eq_1 @Tv.eq_1 c) (JJ ?_);refine aj ds (λj (_:Unit)=>⟨[(0,.sl (en.map kF)),(1,.sl (ds.map eu)),(2,.sl (v.map cy)),(7,.int .i64 j)],[]⟩) (λj r _=>OL en r (v.drop j)=uy en ds v) () (by decide) CT (by rw[hb];rfl) (λj x r _ d U Z E=>?_) (λj _ e E=>?_)
 .obtain⟨y,hy,Hi⟩:=eE v (k:=j) (by omega);rw[Hi,OL]at E;have gx:=ag eu U;have gy:=ag cy hy;have OM:j<v.length:=by omega
  obtain⟨dn,dk,de,dl,Wk⟩:=x;have e3:=aCR en ⟨dk,de,dl⟩ y;simp only[dE]at e3;cases c5:jo en ⟨dk,de,dl⟩ y
  .rw[c5]at e3;rw[show jo en (z6 ⟨dn,dk,de,dl,Wk⟩) y=false from c5]at E;have E:uy en ds v=false:=E.symm;exact ao (jg gx gy OM e3 E c) zz
  .rw[c5]at e3;rw[show jo en (z6 ⟨dn,dk,de,dl,Wk⟩) y=true from c5]at E;refine ao (fF gx gy OM e3 c) (JJ ?_);all_goals exact⟨(),CT,by simpa using E⟩
 .have E:uy en ds v=true:=E.symm;exact ao (cL e E c) zz
def bp(l:cT)(at_:Int)(m:List cG)(ins:Bd):Bd×List cG×Int:=
 if fI l at_ m=false then([],m,1)else if uy l.enums (ad l at_).ins ins=false then([],m,18)else bK l 11 at_ m ins
def okF(l:cT)(at_:Int)(m:List cG)(ins:Bd):Prop:=
 PG l/\kE m/\Ux ins/\(fI l at_ m=true->uy l.enums (ad l at_).ins ins=true->oZ l 11 at_ m ins/\(bK l 11 at_ m ins).2.1.length<=1000000)
def PL:Ab->Prop×J:=E4 mc eI jL tf λl at_ m ins=>(okF l at_ m ins,.b9 [.sl ((bp l at_ m ins).1.map cy),.sl ((bp l at_ m ins).2.1.map bf),.int .i64 (bp l at_ m ins).2.2])
theorem aCS(l)(at_)(m:List cG)(ins:Bd):PL [.agg (cD l),.int .i64 at_,.sl (m.map bf),.sl (ins.map cy)]=(okF l at_ m ins,.b9 [.sl ((bp l at_ m ins).1.map cy),.sl ((bp l at_ m ins).2.1.map bf),.int .i64 (bp l at_ m ins).2.2]):=yS sR cF m6 yR _ l at_ m ins
theorem aao:aJ Tryz.prog 29 PL:=by
 refine aJ.QI (ps:=[(41,Le),(56,akV),(57,uG 11)]) (I:=[]) ⟨aap,afg,an8 11,BB⟩ trivial aEq λl at_ m ins h=>?_;obtain⟨hG,hM,hR,hS⟩:=h;have Y:=akt l at_ m;rw[lU (And.intro hG hM)]at Y;dsimp only;cases c:fI l at_ m
 .have I:bp l at_ m ins=([],m,1):=by rw[bp,gr c]
  rw[I];rw[c]at Y;obtain⟨en,fs⟩:=l;simp only[cD]at Y;exact ao (fF @mz.eq_1 @jL.eq_1 @mc.eq_1 @tf.eq_1 Y) zz
 .have hS:=hS c;have hv:qt l at_=true:=by simp only[fI,ab]at c;exact c.1.1
  obtain⟨h0,h1⟩:=kG hv;obtain⟨fg,fm,fl⟩:=Rk (v:=⟨l,at_,[],[],[]⟩) ⟨hG.1.2,h0,h1⟩;have hw:=(hG.1.2 _ fm).1;dsimp only at fg fm fl hw;have e3:=aa7 l.enums (ad l at_).ins ins;rw[lU (show(ad l at_).ins.length<=1000000/\Ux ins from⟨hw,hR⟩)]at e3;have PK:bp l at_ m ins=if uy l.enums (ad l at_).ins ins=false then([],m,18)else bK l 11 at_ m ins:=by rw[bp,ba (by rw[c];decide)]
  rw[PK];rw[c]at Y;cases c2:uy l.enums (ad l at_).ins ins
  .rw[gr rfl];rw[c2]at e3;generalize ad l at_=f at*;obtain⟨fM,ie,cM,fvars,fG⟩:=f;obtain⟨en,fs⟩:=l;simp only[cD]at Y;dsimp only at h1 fg fl e3;exact ao (ey @mz.eq_1 @jL.eq_1 @mc.eq_1 @tf.eq_1 Y e3 h0 h1 fg) zz
  .rw[ba (by decide)];obtain⟨hS1,hS2⟩:=hS c2;rw[c2]at e3;have e4:=aCz 11 l at_ m ins;rw[lU (show(Lt l/\E3 l)/\oZ l 11 at_ m ins from⟨⟨hG.1,hG.2.2⟩,hS1⟩)]at e4;generalize bK l 11 at_ m ins=An at*;generalize ad l at_=f at*;obtain⟨fM,ie,cM,fvars,fG⟩:=f;obtain⟨en,fs⟩:=l;simp only[cD]at Y e4;dsimp only at h1 fg fl e3;exact ao (ey @mz.eq_1 @jL.eq_1 @mc.eq_1 @tf.eq_1 Y e3 e4 h0 (bV h1 fg)) zz
@[reducible] def nU(r:Bd):Ab:=[.sl (r.map cy)]
def aj3:=show∀x y,nU x=nU y->x=_ fromλx y h=>map_inj aa8 _ _ (by simpa using h)
abbrev J5:List Bd->J:=eL nU
theorem aep:ux J5:=yu aj3
def ta(l:cT)(at_:Int):List Bd->List cG->List Bd×Int
 |[],_=>([],0)
 |ins::r,m=>if(bp l at_ m ins).2.2=0 then((bp l at_ m ins).1::(ta l at_ r (bp l at_ m ins).2.1).1,(ta l at_ r (bp l at_ m ins).2.1).2)else([],(bp l at_ m ins).2.2)
def K9(l:cT)(at_:Int):List Bd->List cG->Prop
 |[],_=>True
 |ins::r,m=>okF l at_ m ins/\((bp l at_ m ins).2.2=0->K9 l at_ r (bp l at_ m ins).2.1)
def aet:Ab->Prop×J:=fp mc eI J5 λl at_ rows=>(PG l/\qt l at_=true/\rows.length<=1000/\K9 l at_ rows (aQ l at_),.b9 [.sl ((ta l at_ rows (aQ l at_)).1.map nU),.int .i64 (ta l at_ rows (aQ l at_)).2])
def ajr(l)(at_)(rows:List Bd):=show aet [.agg (cD l),.int .i64 at_,.sl (rows.map nU)]=_ from bW sR cF aep _ l at_ rows
theorem awL(o:List Bd)(x:Bd):o.map nU++[[.sl (x.map cy)]]=(o++[x]).map nU:=by simp
theorem an9(o:List Bd):(o.map nU).take o.length=o.map nU:=vc (by simp)
theorem asf:aJ Tryz.prog 9 aet:=by
 refine aJ.zP (ps:=[(23,oG),(29,PL)]) (I:=[]) ⟨iL,aao,BB⟩ trivial aD5 λl at_ rows h=>?_;obtain⟨hG,hv,hl,nT⟩:=h;have Y:=mO l at_;rw[lU hG.1.1,hv]at Y;have e2:=λm ins=>aCS l at_ m ins;generalize aQ l at_=S at*;simp only[cD]at Y e2;refine ao (fj @atl.eq_1 @mc.eq_1 @J5.eq_1 Y) (JJ ?_);refine aj rows (λj (x:List Bd×List cG)=>⟨[(1,.int .i64 at_),(2,.sl (rows.map nU)),(3,.ref [.sl (l.enums.map kF),.sl (l.fs.map lf)]),(8,.own 0 x.1.length 0 x.1.length),(9,.sl (x.2.map bf)),(11,.int .i64 j)],[⟨.aV,1,x.1.map nU⟩]⟩)
  (λj r x=>x.1++(ta l at_ r x.2).1=(ta l at_ rows S).1/\(ta l at_ r x.2).2=(ta l at_ rows S).2/\K9 l at_ r x.2/\x.1.length<=j) ([],S) (by decide) CT ⟨rfl,rfl,nT,By _⟩ (λj y r x d U Z E=>?_) (λj x e E=>?_)
 .obtain⟨o,m⟩:=x;obtain⟨r1,r2,⟨r3,r4⟩,r5⟩:=E;dsimp only at r1 r2 r3 r4 r5;rw[ta]at r1 r2;have gy:=ag nU U;have e3:=e2 m y;rw[lU r3]at e3;generalize bp l at_ m y=An at*;by_cases c:An.2.2=0
  .rw[gr c]at r1 r2;have r4:=r4 c;dsimp only at r1 r2;refine ao (fF d gy e3 c @awL) (JJ ?_);all_goals exact⟨(o++[An.1],An.2.1),CT,by simpa using r1,r2,r4,by simp;omega⟩
  .rw[ba c]at r1 r2;rw[xz]at r1;rw[<-r1,<-r2];exact ao (fj d gy e3 @an9) zz;all_goals exact absurd (by assumption) c
 .obtain⟨o,m⟩:=x;obtain⟨r1,r2,_,r5⟩:=E;dsimp only[ta]at r1 r2;rw[xz]at r1;rw[<-r1,<-r2];exact ao (bV e @an9) zz
def sb:Ab->Prop×J:=cH tf tf λa b=>(a.length<=1000000/\∀y∈a,y.length<=1000000,.bool (decide (a=b)))
theorem akX(a:Bd)(b:Bd):sb [.sl (a.map cy),.sl (b.map cy)]=(a.length<=1000000/\∀y∈a,y.length<=1000000,.bool (decide (a=b))):=aY yR yR _ a b
theorem akY:aJ Tryz.prog 12 sb:=by
 refine aJ.se (ps:=[]) (I:=[]) trivial trivial aD8 λa b h=>?_;try dsimp only at h
 obtain⟨h1,h2⟩:=h;by_cases c:a.length=b.length;rotate_left
 .have c2:decide (a=b)=false:=by simp;intro e;rw[e]at c;exact c rfl
  exact ao (cL @mg.eq_1 @tf.eq_1 c2) zz;all_goals exact absurd (by assumption) c
 refine ao (cL @mg.eq_1 @tf.eq_1 c) (JJ ?_);refine aj a (λk (_:Unit)=>⟨[(0,.sl (a.map cy)),(1,.sl (b.map cy)),(5,.int .i64 k)],[]⟩) (λk r _=>decide (r=b.drop k)=decide (a=b)) () (AI _) CT rfl (λk x r _ d U Z E=>?_) (λk _ e E=>?_)
 .obtain⟨y,hy,T7⟩:=eE b (k:=k) (by omega);rw[T7]at E;have d2:k<b.length:=by omega
  have gx:=ag cy U;have gy:=ag cy hy;have Vd:=h2 x (ed U);by_cases cl:x.length=y.length;rotate_left
  .have:decide (a=b)=false:=by rw[<-E];simp;intro e;rw[e]at cl;exact absurd rfl cl
   exact ao (jg @aU d d2 gx gy this) zz;all_goals exact absurd (by assumption) cl
  refine ao (jg @aU d d2 gx gy cl) (JJ ?_);refine aj x (λi (_:Unit)=>⟨[(0,.sl (a.map cy)),(1,.sl (b.map cy)),(5,.int .i64 k),(6,.int .i64 i)],[]⟩) (λi r2 _=>decide (r2=y.drop i)=decide (x=y)) () (AI _) CT rfl (λi u r2 _ di hu hdi GG=>?_) (λi _ ei GG=>?_)
  .obtain⟨w,hw,Lp⟩:=eE y (k:=i) (by omega);rw[Lp]at GG;have d3:i<y.length:=by omega
   have aCT:=LD hu;have aCU:=LD hw;by_cases cu:u=w
   .refine ao (ey @aU d d2 gx gy di d3 aCT (bV aCU cu)) (JJ ?_);all_goals exact⟨(),CT,by rw[<-GG];simp[cu]⟩
   .have:decide (a=b)=false:=by
     have:decide (x=y)=false:=by rw[<-GG];simp[cu]
     have bP:¬x=y:=by simpa using this
     rw[<-E];simp[bP]
    exact ao (ey @aU d d2 gx gy di d3 aCT (bV aCU this)) zz;all_goals exact absurd (by assumption) cu
  .rw[Z8 (by omega)]at GG;have hxy:x=y:=by simpa using GG.symm
   have KT:¬i<y.length:=by omega
   have aIC:¬i<x.length:=by omega
   refine ao (fj @aU d gx ei) (JJ ?_);all_goals exact⟨(),CT,by rw[<-E];simp[hxy]⟩
 .rw[Z8 (by omega)]at E;have R8:decide (a=b)=true:=by rw[<-E];simp
  exact ao (cL e c R8) zz
def Il:Ab->Prop×J:=bJ eI λe=>(True,.int .i64 e)
def akZ(e):=show Il [.int .i64 e]=_ from aI cF _ e
def PF(v:Bd):Bool:=(v.take 30).all (λy=>decide (y.length<=30))&&decide (v.length<=20)
def aer:Ab->Prop×J:=bJ tf λv=>(True,.bool (PF v))
def ajp(v:Bd):=show aer [.sl (v.map cy)]=_ from aI yR _ v
theorem aJW:aJ Tryz.prog 16 aer:=by
 refine aJ.mS (ps:=[]) (I:=[]) trivial trivial aEe λv _=>?_;refine ao (bV @atp.eq_1 @tf.eq_1) (JJ ?_);refine aj (v.take 30) (λk (_:Unit)=>⟨[(0,.sl (v.map cy)),(3,.int .i64 k)],[]⟩) (λk r _=>(r.all (λy=>decide (y.length<=30))&&decide (v.length<=20))=PF v) () (AI _) CT rfl (λk x r _ d U Z E=>?_) (λk _ e E=>?_)
 .rw[MM]at E;have d2:k<30/\k<v.length:=by simp at d;omega
  obtain⟨d3,d4⟩:=d2;have Ll:v[k]? =some x:=by rw[Rq]at U;simpa[d3]using U
  have gx:=ag cy Ll;have d5:(k:Int)<30:=by omega
  by_cases c:x.length<=30
  .rw[ON c,Pd]at E;have c2:¬(30:Int)<x.length:=by omega
   refine ao (fF @aU d4 d5 gx c2) (JJ ?_);all_goals exact⟨(),CT,E⟩
  .rw[Z7 c,C4,C4]at E;have c2:(30:Int)<x.length:=by omega
   exact ao (jg @aU d4 d5 gx c2 (CD E)) zz
 .rw[C1,Pd]at E;rw[<-E];have e:k=min 30 v.length:=by simpa using e
  by_cases c:v.length<30
  .have c2:¬k<v.length:=by omega
   have c3:¬(k:Int)<v.length:=by omega
   by_cases c4:v.length<=20
   .have c5:(v.length:Int)<=20:=by omega
    exact ao (cL c3 c4 c5) zz
   .have c5:¬(v.length:Int)<=20:=by omega
    exact ao (cL c3 c4 c5) zz
  .have c2:k=30:=by omega
   subst c2;have c3:(30:Int)<=v.length:=by omega
   have c4:¬v.length<=20:=by omega
   have c5:¬(v.length:Int)<=20:=by omega
   by_cases c6:30<v.length
   .have ak0:(30:Int)<v.length:=by omega
    exact ao (cL c4 c5 ak0) zz
   .have ak0:¬(30:Int)<v.length:=by omega
    exact ao (cL c4 c5 ak0) zz
end
end Go.Proofs.YtldnkkkooabaeaaGreat
