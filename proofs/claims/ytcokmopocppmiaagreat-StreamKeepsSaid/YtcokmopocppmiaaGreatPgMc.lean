/- What fits a Flow; whether inputs are right; an instant of what fits (24). -/
import Derived.Test.YtcokmopocppmiaaGreatPgM
import Derived.Test.YtcokmopocppmiaaGreatStL
set_option maxHeartbeats 4000000
set_option linter.all false
set_option maxRecDepth 20000
namespace Go.Proofs.YtcokmopocppmiaaGreat
noncomputable section
open Go.Nk
def aiK:List DV->Prop×DV:=bB cT λm=>(m.length<=1000000,.sl (m.map aT))
def W8(m:List cW):=show aiK [.sl (m.map aT)]=_ from aH gQ _ m
theorem aqU:aF Tryz.prog 23 aiK:=by
 refine aF.mo (ps:=[]) (hs:=[]) trivial trivial o8 λl hl=> ?_;have hl:l.length<=1000000:=hl;cases l with
 |nil=>(exact aq (A3 @eW.eq_1 @cT.eq_1 @Nat.add_zero) zz)
 |cons x r=>
  have hr:(∀e∈(x::r).map aT,e.length=2)=True:=Sm (x::r);have ht2:List.take r.length (r.map aT)=r.map aT:=List.take_of_length_le (by simp);simp only[cT,List.map_cons,List.length_cons]at hr hl|-;exact aq (A3 @eW.eq_1 @Sm ht2) zz
def okG(l:jw):Prop:=W9 l/\aiG l/\Dj l
theorem aiL{l}(h:okG l){at_}(hv:rH l at_=true):okT l 11 at_/\(nB l 11 at_).length=(b7 l at_).length/\b7 l at_=bH l 11 at_:=by
 obtain⟨h0,h1⟩:=mI hv;obtain⟨h2,h3⟩:=ad0 h.1.1 hv;have h4:b7 l at_=bH l 11 at_:=by rw[b7,if_pos hv]
 have h5:(nB l 11 at_).length=(bH l 11 at_).length:=by rw[nB,List.length_map,u4]
 have:=h.1.1.1.1;exact⟨⟨h.1,h.2.1,h0,by omega,h1,by omega⟩,by rw[h4,h5],h4⟩
def abf(l:jw)(at_:Int):List Ty:=if rH l at_ then nB l 11 at_ else []
def NY:List DV->Prop×DV:=b5 jz eI λl at_=>(okG l,.cy [.sl ((b7 l at_).map aT),.sl ((abf l at_).map cK),.bool (rH l at_)])
def Xa(l)(at_):=show NY [.agg (b8 l),.int .i64 at_]=_ from aO o9 b6 _ l at_
theorem afG:aF Tryz.prog 32 NY:=by
 refine aF.oU (ps:=[(19,lL),(58,j8 11)]) (hs:=[]) ⟨gP,aiM 11,trivial⟩ trivial DX λl at_ h=> ?_;have h:okG l:=h;have e1:=jV l at_;rw[eq_true h.1.1]at e1;simp only[b8]at e1;by_cases c:rH l at_=true
 ·have e2:=yn 11 l at_;rw[eq_true (aiL h c).1]at e2;simp only[b8]at e2;rw[show abf l at_=nB l 11 at_ by rw[abf,if_pos c]];rw[c]at e1;exact aq (A5 @nC.eq_1 @jz.eq_1 e1 e2 c) zz
 ·have c2:rH l at_=false:=by simpa using c
  rw[show abf l at_=[] by rw[abf,if_neg c],show b7 l at_=[] by rw[b7,if_neg c]];rw[c2]at e1;exact aq (A4 @nC.eq_1 @jz.eq_1 e1 c2) zz
def Mn(en:List En):List cW->List Ty->List cW->Bool
 |c::s,t::ts,d::m=>decide (c.path=d.path)&&lM en t d.dL&&Mn en s ts m
 |_,_,_=>true
def kA(l:jw)(at_:Int)(m:List cW):Bool:=rH l at_&&decide ((b7 l at_).length=m.length)&&Mn l.enums (b7 l at_) (nB l 11 at_) m
def wy:List DV->Prop×DV:=eR jz eI cT λl at_ m=>(okG l/\mD m,.bool (kA l at_ m))
theorem BL(l)(at_)(m:List cW):wy [.agg (b8 l),.int .i64 at_,.sl (m.map aT)]=(okG l/\mD m,.bool (kA l at_ m)):=bz o9 b6 gQ _ l at_ m
theorem NR:aF Tryz.prog 15 wy:=by
 refine aF.uR (ps:=[(30,lL),(31,j8 11),(25,tF)]) (hs:=[]) ⟨yo,aiN 11,Sn,trivial⟩ trivial Ry λl at_ m h=> ?_;obtain⟨hG,hM⟩:=h;have e1:=jV l at_;rw[eq_true hG.1.1]at e1;have hb:kA l at_ m=(rH l at_&&decide ((b7 l at_).length=m.length)&&Mn l.enums (b7 l at_) (nB l 11 at_) m):=rfl;by_cases c:rH l at_=true;rotate_left
 ·have c2:rH l at_=false:=by simpa using c
  rw[c2]at e1 hb;have hb:kA l at_ m=false:=hb;obtain⟨en,fs⟩:=l;simp only[b8]at e1;exact aq (A5 @qC.eq_1 @cT.eq_1 @jz.eq_1 e1 hb) zz
 obtain⟨hT,hl,hs⟩:=aiL hG c;rw[c,Bool.true_and]at hb;rw[c]at e1;have e2:=yn 11 l at_;rw[eq_true hT]at e2;generalize b7 l at_=S at*;have hTl:=hT.2.2.2.2.2;generalize nB l 11 at_=T at*;obtain⟨en,fs⟩:=l;simp only[b8]at e1 e2;dsimp only at hb;by_cases c3:S.length=m.length;rotate_left
 ·rw[decide_eq_false c3,Bool.false_and]at hb;exact aq (A5 @qC.eq_1 @cT.eq_1 @jz.eq_1 e1 hb) zz;all_goals exact absurd (by assumption) c3
 rw[decide_eq_true c3,Bool.true_and]at hb;refine aq (A6 @qC.eq_1 @cT.eq_1 @jz.eq_1 e1 e2 c3) (JJ ?_);refine ai T (λj (_:Unit)=>⟨[(2,.sl (m.map aT)),(3,.ref [.sl (en.map jQ),.sl (fs.map j0)]),(7,.sl (S.map aT)),(28,.sl (T.map cK)),(29,.int .i64 T.length),(30,.int .i64 j)],[]⟩) (λj r _=>Mn en (S.drop j) r (m.drop j)=kA ⟨en,fs⟩ at_ m) () (by decide) CT (by rw[hb];rfl) (λj x r _ d hx hd hr=> ?_) (λj _ e hr=> ?_)
 ·obtain⟨y,hy,hyd⟩:=dP S (k:=j) (by omega);obtain⟨z,hz,hzd⟩:=dP m (k:=j) (by omega);rw[hyd,hzd,Mn]at hr;have gx:=af cK hx;have gy:=af aT hy;have gz:=af aT hz;have hzl:=(hM.2 z (List.mem_of_getElem? hz)).1;have e3:=u6 en x z.dL;rw[eq_true (show z.dL.length<=1000000000 by omega)]at e3;have hj1:j<S.length:=by omega
  have Jj:j<m.length:=by omega
  obtain⟨yp,yv⟩:=y;obtain⟨zp,zv⟩:=z;obtain⟨xk,xe,xn⟩:=x;simp only[cK]at e3;dsimp only at hr e3;by_cases c4:yp=zp
  ·rw[decide_eq_true c4,Bool.true_and]at hr;cases c5:lM en ⟨xk,xe,xn⟩ zv
   ·rw[c5]at e3 hr;have hr:=hr.symm;exact aq (A9 d gx gy gz hj1 Jj e3 c4 hr) zz
   ·rw[c5]at e3 hr;refine aq (A8 d gx gy gz hj1 Jj e3 c4) (JJ ?_);all_goals exact⟨(),CT,by simpa using hr⟩
  ·rw[decide_eq_false c4]at hr;have hr:kA ⟨en,fs⟩ at_ m=false:=by simpa using hr.symm
   refine aq (A8 d gx gy gz e3 hj1 Jj hr) (JJ (λhn hn=> ?_));all_goals exact absurd (by assumption) c4
 ·have hr:kA ⟨en,fs⟩ at_ m=true:=by rw[<-hr];cases (List.drop j S)<;>rfl
  exact aq (A2 e hr) zz
theorem W6:aF Tryz.prog 16 wy:=by
 refine aF.uR (ps:=[(32,NY),(33,tF)]) (hs:=[]) ⟨afG,Gt,trivial⟩ trivial Gu λl at_ m h=> ?_;obtain⟨hG,hM⟩:=h;have e1:=Xa l at_;rw[eq_true hG]at e1;have hb:kA l at_ m=(rH l at_&&decide ((b7 l at_).length=m.length)&&Mn l.enums (b7 l at_) (nB l 11 at_) m):=rfl;by_cases c:rH l at_=true;rotate_left
 ·have c2:rH l at_=false:=by simpa using c
  rw[c2]at e1 hb;have hb:kA l at_ m=false:=hb;obtain⟨en,fs⟩:=l;simp only[b8]at e1;exact aq (A5 @lf.eq_1 @cT.eq_1 @jz.eq_1 e1 hb) zz
 obtain⟨hT,hl,hs⟩:=aiL hG c;rw[c,Bool.true_and]at hb;rw[c,show abf l at_=nB l 11 at_ by rw[abf,if_pos c]]at e1;generalize b7 l at_=S at*;have hTl:=hT.2.2.2.2.2;generalize nB l 11 at_=T at*;obtain⟨en,fs⟩:=l;simp only[b8]at e1;dsimp only at hb;by_cases c3:S.length=m.length;rotate_left
 ·rw[decide_eq_false c3,Bool.false_and]at hb;exact aq (A5 @lf.eq_1 @cT.eq_1 @jz.eq_1 e1 hb) zz;all_goals exact absurd (by assumption) c3
 rw[decide_eq_true c3,Bool.true_and]at hb;refine aq (A5 @lf.eq_1 @cT.eq_1 @jz.eq_1 e1 c3) (JJ ?_);refine ai m (λj (_:Unit)=>⟨[(2,.sl (m.map aT)),(3,.ref [.sl (en.map jQ),.sl (fs.map j0)]),(7,.sl (S.map aT)),(8,.sl (T.map cK)),(10,.int .i64 j)],[]⟩) (λj r _=>Mn en (S.drop j) (T.drop j) r=kA ⟨en,fs⟩ at_ m) () (by decide) CT (by rw[hb];rfl) (λj z r _ d hz hd hr=> ?_) (λj _ e hr=> ?_)
 ·obtain⟨y,hy,hyd⟩:=dP S (k:=j) (by omega);obtain⟨x,hx,hxd⟩:=dP T (k:=j) (by omega);rw[hyd,hxd,Mn]at hr;have gx:=af cK hx;have gy:=af aT hy;have gz:=af aT hz;have hzl:=(hM.2 z (List.mem_of_getElem? hz)).1;have e3:=u6 en x z.dL;rw[eq_true (show z.dL.length<=1000000000 by omega)]at e3;have hj1:j<S.length:=by omega
  have Jj:j<T.length:=by omega
  obtain⟨yp,yv⟩:=y;obtain⟨zp,zv⟩:=z;obtain⟨xk,xe,xn⟩:=x;simp only[cK]at e3;dsimp only at hr e3;by_cases c4:zp=yp
  ·rw[decide_eq_true c4.symm,Bool.true_and]at hr;cases c5:lM en ⟨xk,xe,xn⟩ zv
   ·rw[c5]at e3 hr;have hr:=hr.symm;exact aq (A9 d gx gy gz hj1 Jj e3 c4 hr) zz
   ·rw[c5]at e3 hr;refine aq (A8 d gx gy gz hj1 Jj e3 c4) (JJ ?_);all_goals exact⟨(),CT,by simpa using hr⟩
  ·rw[decide_eq_false (λh=>c4 h.symm)]at hr;have hr:kA ⟨en,fs⟩ at_ m=false:=by simpa using hr.symm
   refine aq (A8 d gx gy gz e3 hj1 Jj hr) (JJ (λhn hn=> ?_));all_goals exact absurd (by assumption) c4
 ·have hr:kA ⟨en,fs⟩ at_ m=true:=by rw[<-hr];cases (List.drop j S)<;>cases (List.drop j T)<;>rfl
  exact aq (A2 e hr) zz
def Mo(en:List En):List Va->List (List Int)->Bool
 |d::ds,y::ys=>lM en (z3 d) y&&Mo en ds ys
 |_,_=>true
def uO(en:List En)(ds:List Va)(v:List (List Int)):Bool:=decide (ds.length=v.length)&&Mo en ds v
def Uf(v:List (List Int)):Prop:=v.length<=1000/\∀y∈v,y.length<=1000
@[reducible] def aiO(l:jw):DV:= .ref (b8 l)
theorem aiP:rJ aiO:=λx y h=>by injection h with h;exact Aj x y h
@[reducible] def Gv(l:jw):DV:= .clo 24 [.ref (b8 l)]
theorem Xb:rJ Gv:=λx y h=>by injection h with _ h;injection h with h _;injection h with h;exact Aj x y h
def Ui:List DV->Prop×DV:=eR eVa m6 aiO λd v l=>(v.length<=1000,.bool (lM l.enums (z3 d) v))
def abg(d:Va)(v:List Int)(l:jw):=show Ui [.agg (dZ d),.sl (cX v),.ref (b8 l)]=_ from bz aiQ mq aiP _ d v l
theorem aiR:aF Tryz.prog 24 Ui:=by refine aF.uR (ps:=[(25,tF)]) (hs:=[]) ⟨Sn,trivial⟩ trivial Mq λd v l h=> ?_;have h:v.length<=1000:=h;obtain⟨en,fs⟩:=l;obtain⟨dn,dk,de,dl,don⟩:=d;have e3:=u6 en ⟨dk,de,dl⟩ v;rw[eq_true (show v.length<=1000000000 by omega)]at e3;simp only[cK]at e3;exact aq (A6 @zn.eq_1 @m6.eq_1 @aiO.eq_1 @eVa.eq_1 e3 @z3.eq_1) zz
def aiS:List DV->Prop×DV:=eR Uj iY Gv λds v l=>(ds.length<=1000000/\Uf v,.bool (uO l.enums ds v))
def aiT(ds:List Va)(v:List (List Int))(l:jw):=show aiS [.sl (ds.map dZ),.sl (v.map dG),.clo 24 [.ref (b8 l)]]=_ from bz Uk o6 Xb _ ds v l
theorem aqW:aF Tryz.prog 26 aiS:=by
 refine aF.uR (ps:=[(24,Ui)]) (hs:=[]) ⟨aiR,trivial⟩ trivial jh λds v l h=> ?_;obtain⟨h1,h2,h3⟩:=h;obtain⟨en,fs⟩:=l;have hb:uO en ds v=(decide (ds.length=v.length)&&Mo en ds v):=rfl;by_cases c:ds.length=v.length;rotate_left
 ·rw[decide_eq_false c,Bool.false_and]at hb;exact aq (A5 @b9.eq_1 @Gv.eq_1 @iY.eq_1 @Uj.eq_1 hb) zz;all_goals exact absurd (by assumption) c
 rw[decide_eq_true c,Bool.true_and]at hb;refine aq (A5 @b9.eq_1 @Gv.eq_1 @iY.eq_1 @Uj.eq_1 c) (JJ ?_);refine ai ds (λj (_:Unit)=>⟨[(1,.sl (v.map dG)),(2,.clo 24 [.ref [.sl (en.map jQ),.sl (fs.map j0)]]),(15,.sl (ds.map dZ)),(16,.int .i64 v.length),(17,.int .i64 j)],[]⟩) (λj r _=>Mo en r (v.drop j)=uO en ds v) () (by decide) CT (by rw[hb];rfl) (λj x r _ d hx hd hr=> ?_) (λj _ e hr=> ?_)
 ·obtain⟨y,hy,hyd⟩:=dP v (k:=j) (by omega);rw[hyd,Mo]at hr;have gx:=af dZ hx;have gy:=af dG hy;have e3:=abg x y ⟨en,fs⟩;rw[eq_true (h3 y (List.mem_of_getElem? hy))]at e3;have Jj:j<v.length:=by omega
  dsimp only at e3;obtain⟨dn,dk,de,dl,don⟩:=x;simp only[dZ,b8]at e3;cases c5:lM en (z3 ⟨dn,dk,de,dl,don⟩) y
  ·rw[c5]at e3 hr;have hr:uO en ds v=false:=hr.symm;exact aq (A6 d gx gy Jj e3 hr) zz
  ·rw[c5]at e3 hr;refine aq (A5 d gx gy Jj e3) (JJ ?_);all_goals exact⟨(),CT,by simpa using hr⟩
 ·have hr:uO en ds v=true:=hr.symm;exact aq (A3 e hr c) zz
def xa:List DV->Prop×DV:=eR lN Uj iY λl ds v=>(ds.length<=1000000/\Uf v,.bool (uO l ds v))
def Ld(l:List En)(ds:List Va)(v:List (List Int)):=show xa [.sl (l.map jQ),.sl (ds.map dZ),.sl (v.map dG)]=_ from bz mr Uk o6 _ l ds v
theorem NV:aF Tryz.prog 20 xa:=by
 refine aF.uR (ps:=[(33,tF)]) (hs:=[]) ⟨Gt,trivial⟩ trivial Cm λen ds v h=> ?_;obtain⟨h1,h2,h3⟩:=h;have hb:uO en ds v=(decide (ds.length=v.length)&&Mo en ds v):=rfl;by_cases c:ds.length=v.length;rotate_left
 ·rw[decide_eq_false c,Bool.false_and]at hb;exact aq (A5 @mL.eq_1 @lN.eq_1 @iY.eq_1 @Uj.eq_1 hb) zz;all_goals exact absurd (by assumption) c
 rw[decide_eq_true c,Bool.true_and]at hb;refine aq (A5 @mL.eq_1 @lN.eq_1 @iY.eq_1 @Uj.eq_1 c) (JJ ?_);refine ai ds (λj (_:Unit)=>⟨[(0,.sl (en.map jQ)),(1,.sl (ds.map dZ)),(2,.sl (v.map dG)),(7,.int .i64 j)],[]⟩) (λj r _=>Mo en r (v.drop j)=uO en ds v) () (by decide) CT (by rw[hb];rfl) (λj x r _ d hx hd hr=> ?_) (λj _ e hr=> ?_)
 ·obtain⟨y,hy,hyd⟩:=dP v (k:=j) (by omega);rw[hyd,Mo]at hr;have gx:=af dZ hx;have gy:=af dG hy;have Jj:j<v.length:=by omega
  have hyl:=h3 y (List.mem_of_getElem? hy);obtain⟨dn,dk,de,dl,don⟩:=x;have e3:=u6 en ⟨dk,de,dl⟩ y;rw[eq_true (show y.length<=1000000000 by omega)]at e3;simp only[cK]at e3;cases c5:lM en ⟨dk,de,dl⟩ y
  ·rw[c5]at e3;rw[show lM en (z3 ⟨dn,dk,de,dl,don⟩) y=false from c5]at hr;have hr:uO en ds v=false:=hr.symm;exact aq (A6 gx gy Jj e3 hr c) zz
  ·rw[c5]at e3;rw[show lM en (z3 ⟨dn,dk,de,dl,don⟩) y=true from c5]at hr;refine aq (A5 gx gy Jj e3 c) (JJ ?_);all_goals exact⟨(),CT,by simpa using hr⟩
 ·have hr:uO en ds v=true:=hr.symm;exact aq (A3 e hr c) zz
def dC(l:jw)(at_:Int)(m:List cW)(ins:List (List Int)):List (List Int)×List cW×Int:=
 if kA l at_ m=false then([],m,1)else if uO l.enums (ad l at_).ins ins=false then([],m,18)else aZ l 11 at_ m ins
def okF(l:jw)(at_:Int)(m:List cW)(ins:List (List Int)):Prop:=
 okG l/\mD m/\Uf ins/\(kA l at_ m=true->uO l.enums (ad l at_).ins ins=true->jX l 11 at_ m ins/\(aZ l 11 at_ m ins).2.1.length<=1000000)
def sC:List DV->Prop×DV:=Ak jz eI cT iY λl at_ m ins=>(okF l at_ m ins,.cy [.sl ((dC l at_ m ins).1.map dG),.sl ((dC l at_ m ins).2.1.map aT),.int .i64 (dC l at_ m ins).2.2])
theorem tD(l)(at_)(m:List cW)(ins:List (List Int)):sC [.agg (b8 l),.int .i64 at_,.sl (m.map aT),.sl (ins.map dG)]=(okF l at_ m ins,.cy [.sl ((dC l at_ m ins).1.map dG),.sl ((dC l at_ m ins).2.1.map aT),.int .i64 (dC l at_ m ins).2.2]):=tG o9 b6 gQ o6 _ l at_ m ins
theorem NQ:aF Tryz.prog 10 sC:=by
 refine aF.mk4 (ps:=[(15,wy),(23,aiK),(26,aiS),(27,sE 11)]) (hs:=[]) ⟨NR,aqU,aqW,aiV 11,trivial⟩ trivial Rz λl at_ m ins h=> ?_;obtain⟨hG,hM,hR,hS⟩:=h;have e1:=BL l at_ m;rw[eq_true (And.intro hG hM)]at e1;have e2:=W8 m;rw[eq_true (show m.length<=1000000 by have:=hM.1;omega)]at e2;dsimp only;cases c:kA l at_ m
 ·have hs:dC l at_ m ins=([],m,1):=by rw[dC,if_pos c]
  rw[hs];rw[c]at e1;obtain⟨en,fs⟩:=l;simp only[b8]at e1;exact aq (A6 @qD.eq_1 @cT.eq_1 @jz.eq_1 @iY.eq_1 e1 e2) zz
 ·have hS:=hS c;have hv:rH l at_=true:=by simp only[kA,Bool.and_eq_true]at c;exact c.1.1
  obtain⟨h0,h1⟩:=mI hv;obtain⟨fg,fm,fl⟩:=tE (v:=⟨l,at_,[],[],[]⟩) ⟨hG.1.2,h0,h1⟩;have hw:=(hG.1.2 _ fm).1;dsimp only at fg fm fl hw;have e3:=aiT (ad l at_).ins ins l;rw[eq_true (show(ad l at_).ins.length<=1000000/\Uf ins from⟨hw,hR⟩)]at e3;have Sj:dC l at_ m ins=if uO l.enums (ad l at_).ins ins=false then([],m,18)else aZ l 11 at_ m ins:=by rw[dC,if_neg (by rw[c];decide)]
  rw[Sj];rw[c]at e1;cases c2:uO l.enums (ad l at_).ins ins
  ·rw[if_pos rfl];rw[c2]at e3;generalize ad l at_=f at*;obtain⟨dr,eV,cB,fvars,cU⟩:=f;obtain⟨en,fs⟩:=l;simp only[b8]at e1 e3;dsimp only at h1 fg fl e3;exact aq (A9 @qD.eq_1 @cT.eq_1 @jz.eq_1 @iY.eq_1 e1 e2 e3 h0 (A2 h1 fg)) zz
  ·rw[if_neg (by decide)];obtain⟨hS1,hS2⟩:=hS c2;rw[c2]at e3;have e4:=NZ 11 l at_ m ins;rw[eq_true (And.intro hG.1 hS1)]at e4;have e5:=W8 (aZ l 11 at_ m ins).2.1;rw[eq_true hS2]at e5;generalize aZ l 11 at_ m ins=R at*;generalize ad l at_=f at*;obtain⟨dr,eV,cB,fvars,cU⟩:=f;obtain⟨en,fs⟩:=l;simp only[b8]at e1 e3 e4;dsimp only at h1 fg fl e3;exact aq (A9 @qD.eq_1 @cT.eq_1 @jz.eq_1 @iY.eq_1 e1 e3 e4 e5 (A3 h0 h1 fg)) zz
theorem W5:aF Tryz.prog 11 sC:=by
 refine aF.mk4 (ps:=[(16,wy),(20,xa),(28,sF 11)]) (hs:=[]) ⟨W6,NV,aiW 11,trivial⟩ trivial Gw λl at_ m ins h=> ?_;obtain⟨hG,hM,hR,hS⟩:=h;have e1:=BL l at_ m;rw[eq_true (And.intro hG hM)]at e1;dsimp only;cases c:kA l at_ m
 ·have hs:dC l at_ m ins=([],m,1):=by rw[dC,if_pos c]
  rw[hs];rw[c]at e1;obtain⟨en,fs⟩:=l;simp only[b8]at e1;exact aq (A5 @lg.eq_1 @cT.eq_1 @jz.eq_1 @iY.eq_1 e1) zz
 ·have hS:=hS c;have hv:rH l at_=true:=by simp only[kA,Bool.and_eq_true]at c;exact c.1.1
  obtain⟨h0,h1⟩:=mI hv;obtain⟨fg,fm,fl⟩:=tE (v:=⟨l,at_,[],[],[]⟩) ⟨hG.1.2,h0,h1⟩;have hw:=(hG.1.2 _ fm).1;dsimp only at fg fm fl hw;have e3:=Ld l.enums (ad l at_).ins ins;rw[eq_true (show(ad l at_).ins.length<=1000000/\Uf ins from⟨hw,hR⟩)]at e3;have Sj:dC l at_ m ins=if uO l.enums (ad l at_).ins ins=false then([],m,18)else aZ l 11 at_ m ins:=by rw[dC,if_neg (by rw[c];decide)]
  rw[Sj];rw[c]at e1;cases c2:uO l.enums (ad l at_).ins ins
  ·rw[if_pos rfl];rw[c2]at e3;generalize ad l at_=f at*;obtain⟨dr,eV,cB,fvars,cU⟩:=f;obtain⟨en,fs⟩:=l;simp only[b8]at e1;dsimp only at h1 fg fl e3;exact aq (A9 @lg.eq_1 @cT.eq_1 @jz.eq_1 @iY.eq_1 e1 e3 h0 h1 fg) zz
  ·rw[if_neg (by decide)];obtain⟨hS1,hS2⟩:=hS c2;rw[c2]at e3;have e4:=N0 11 l at_ m ins;rw[eq_true (show(W9 l/\Dj l)/\jX l 11 at_ m ins from⟨⟨hG.1,hG.2.2⟩,hS1⟩)]at e4;generalize aZ l 11 at_ m ins=R at*;generalize ad l at_=f at*;obtain⟨dr,eV,cB,fvars,cU⟩:=f;obtain⟨en,fs⟩:=l;simp only[b8]at e1 e4;dsimp only at h1 fg fl e3;exact aq (A9 @lg.eq_1 @cT.eq_1 @jz.eq_1 @iY.eq_1 e1 e3 e4 h0 (A2 h1 fg)) zz
@[reducible] def jU(r:List (List Int)):List DV:=[.sl (r.map dG)]
def afJ:=show∀x y,jU x=jU y->x=_ fromλx y h=>map_inj Xc _ _ (by simpa using h)
abbrev eR3:List (List (List Int))->DV:=eL jU
theorem abd:rJ eR3:=Al afJ
def tv(l:jw)(at_:Int):List (List (List Int))->List cW->List (List (List Int))×Int
 |[],_=>([],0)
 |ins::r,m=>if(dC l at_ m ins).2.2=0 then((dC l at_ m ins).1::(tv l at_ r (dC l at_ m ins).2.1).1,(tv l at_ r (dC l at_ m ins).2.1).2)else([],(dC l at_ m ins).2.2)
def Af(l:jw)(at_:Int):List (List (List Int))->List cW->Prop
 |[],_=>True
 |ins::r,m=>okF l at_ m ins/\((dC l at_ m ins).2.2=0->Af l at_ r (dC l at_ m ins).2.1)
def Ja:List DV->Prop×DV:=eR jz eI eR3 λl at_ rows=>(okG l/\rH l at_=true/\rows.length<=1000/\Af l at_ rows (b7 l at_),.cy [.sl ((tv l at_ rows (b7 l at_)).1.map jU),.int .i64 (tv l at_ rows (b7 l at_)).2])
def Sg(l)(at_)(rows:List (List (List Int))):=show Ja [.agg (b8 l),.int .i64 at_,.sl (rows.map jU)]=_ from bz o9 b6 abd _ l at_ rows
theorem aiX(o:List (List (List Int)))(x:List (List Int)):o.map jU++[[.sl (x.map dG)]]=(o++[x]).map jU:=by simp
theorem Ul(o:List (List (List Int))):(o.map jU).take o.length=o.map jU:=List.take_of_length_le (by simp)
theorem adY:aF Tryz.prog 17 Ja:=by
 refine aF.uR (ps:=[(30,lL),(10,sC)]) (hs:=[]) ⟨yo,NQ,trivial⟩ trivial Um λl at_ rows h=> ?_;obtain⟨hG,hv,hl,lI⟩:=h;have e1:=jV l at_;rw[eq_true hG.1.1,hv]at e1;have e2:=λm ins=>tD l at_ m ins;generalize b7 l at_=S at*;simp only[b8]at e1 e2;refine aq (A4 @Gx.eq_1 @jz.eq_1 @eR3.eq_1 e1) (JJ ?_);refine ai rows (λj (x:List (List (List Int))×List cW)=>⟨[(1,.int .i64 at_),(3,.ref [.sl (l.enums.map jQ),.sl (l.fs.map j0)]),(8,.own 0 x.1.length 0 x.1.length),(9,.sl (x.2.map aT)),(22,.sl (rows.map jU)),(23,.int .i64 rows.length),(24,.int .i64 j)],[⟨.aN,1,x.1.map jU⟩]⟩)
  (λj r x=>x.1++(tv l at_ r x.2).1=(tv l at_ rows S).1/\(tv l at_ r x.2).2=(tv l at_ rows S).2/\Af l at_ r x.2/\x.1.length<=j) ([],S) (by decide) CT ⟨rfl,rfl,lI,Nat.le_refl _⟩ (λj y r x d hx hd hr=> ?_) (λj x e hr=> ?_)
 ·obtain⟨o,m⟩:=x;obtain⟨r1,r2,⟨r3,r4⟩,r5⟩:=hr;dsimp only at r1 r2 r3 r4 r5;rw[tv]at r1 r2;have gy:=af jU hx;have e3:=e2 m y;rw[eq_true r3]at e3;generalize dC l at_ m y=R at*;by_cases c:R.2.2=0
  ·rw[if_pos c]at r1 r2;have r4:=r4 c;dsimp only at r1 r2;refine aq (A5 d gy e3 c @aiX) (JJ ?_);all_goals exact⟨(o++[R.1],R.2.1),CT,by simpa using r1,r2,r4,by simp;omega⟩
  ·rw[if_neg c]at r1 r2;rw[List.append_nil]at r1;rw[<-r1,<-r2];exact aq (A4 d gy e3 @Ul) zz;all_goals exact absurd (by assumption) c
 ·obtain⟨o,m⟩:=x;obtain⟨r1,r2,_,r5⟩:=hr;dsimp only[tv]at r1 r2;rw[List.append_nil]at r1;rw[<-r1,<-r2];exact aq (A2 e @Ul) zz
theorem anv:aF Tryz.prog 18 Ja:=by
 refine aF.uR (ps:=[(19,lL),(11,sC)]) (hs:=[]) ⟨gP,W5,trivial⟩ trivial Jk λl at_ rows h=> ?_;obtain⟨hG,hv,hl,lI⟩:=h;have e1:=jV l at_;rw[eq_true hG.1.1,hv]at e1;have e2:=λm ins=>tD l at_ m ins;generalize b7 l at_=S at*;simp only[b8]at e1 e2;refine aq (A4 @xc.eq_1 @jz.eq_1 @eR3.eq_1 e1) (JJ ?_);refine ai rows (λj (x:List (List (List Int))×List cW)=>⟨[(1,.int .i64 at_),(2,.sl (rows.map jU)),(3,.ref [.sl (l.enums.map jQ),.sl (l.fs.map j0)]),(8,.own 0 x.1.length 0 x.1.length),(9,.sl (x.2.map aT)),(11,.int .i64 j)],[⟨.aN,1,x.1.map jU⟩]⟩)
  (λj r x=>x.1++(tv l at_ r x.2).1=(tv l at_ rows S).1/\(tv l at_ r x.2).2=(tv l at_ rows S).2/\Af l at_ r x.2/\x.1.length<=j) ([],S) (by decide) CT ⟨rfl,rfl,lI,Nat.le_refl _⟩ (λj y r x d hx hd hr=> ?_) (λj x e hr=> ?_)
 ·obtain⟨o,m⟩:=x;obtain⟨r1,r2,⟨r3,r4⟩,r5⟩:=hr;dsimp only at r1 r2 r3 r4 r5;rw[tv]at r1 r2;have gy:=af jU hx;have e3:=e2 m y;rw[eq_true r3]at e3;generalize dC l at_ m y=R at*;by_cases c:R.2.2=0
  ·rw[if_pos c]at r1 r2;have r4:=r4 c;dsimp only at r1 r2;refine aq (A5 d gy e3 c @aiX) (JJ ?_);all_goals exact⟨(o++[R.1],R.2.1),CT,by simpa using r1,r2,r4,by simp;omega⟩
  ·rw[if_neg c]at r1 r2;rw[List.append_nil]at r1;rw[<-r1,<-r2];exact aq (A4 d gy e3 @Ul) zz;all_goals exact absurd (by assumption) c
 ·obtain⟨o,m⟩:=x;obtain⟨r1,r2,_,r5⟩:=hr;dsimp only[tv]at r1 r2;rw[List.append_nil]at r1;rw[<-r1,<-r2];exact aq (A2 e @Ul) zz
def tz:List DV->Prop×DV:=b5 iY iY λa b=>(a.length<=1000000/\∀y∈a,y.length<=1000000,.bool (decide (a=b)))
theorem wu(a:List (List Int))(b:List (List Int)):tz [.sl (a.map dG),.sl (b.map dG)]=(a.length<=1000000/\∀y∈a,y.length<=1000000,.bool (decide (a=b))):=aO o6 o6 _ a b
theorem jZ:aF Tryz.prog 12 tz:=by
 refine aF.oU (ps:=[]) (hs:=[]) trivial trivial zJ λa b h=> ?_;try dsimp only at h
 obtain⟨h1,h2⟩:=h;by_cases c:a.length=b.length;rotate_left
 ·have c2:decide (a=b)=false:=by simp;intro e;rw[e]at c;exact c rfl
  exact aq (A3 @kP.eq_1 @iY.eq_1 c2) zz;all_goals exact absurd (by assumption) c
 refine aq (A3 @kP.eq_1 @iY.eq_1 c) (JJ ?_);refine ai a (λk (_:Unit)=>⟨[(0,.sl (a.map dG)),(1,.sl (b.map dG)),(5,.int .i64 k)],[]⟩) (λk r _=>decide (r=b.drop k)=decide (a=b)) () (Nat.zero_le _) CT rfl (λk x r _ d hx hd hr=> ?_) (λk _ e hr=> ?_)
 ·obtain⟨y,hy,N1⟩:=dP b (k:=k) (by omega);rw[N1]at hr;have d2:k<b.length:=by omega
  have gx:=af dG hx;have gy:=af dG hy;have hxl:=h2 x (List.mem_of_getElem? hx);by_cases cl:x.length=y.length;rotate_left
  ·have:decide (a=b)=false:=by rw[<-hr];simp;intro e;rw[e]at cl;exact absurd rfl cl
   exact aq (A6 @aV d d2 gx gy this) zz;all_goals exact absurd (by assumption) cl
  refine aq (A6 @aV d d2 gx gy cl) (JJ ?_);refine ai x (λi (_:Unit)=>⟨[(0,.sl (a.map dG)),(1,.sl (b.map dG)),(5,.int .i64 k),(6,.int .i64 i)],[]⟩) (λi r2 _=>decide (r2=y.drop i)=decide (x=y)) () (Nat.zero_le _) CT rfl (λi u r2 _ di hu hdi hri=> ?_) (λi _ ei hri=> ?_)
  ·obtain⟨w,hw,hw2⟩:=dP y (k:=i) (by omega);rw[hw2]at hri;have d3:i<y.length:=by omega
   have gu:=Jl hu;have gw:=Jl hw;by_cases cu:u=w
   ·refine aq (A9 @aV d d2 gx gy di d3 gu (A2 gw cu)) (JJ ?_);all_goals exact⟨(),CT,by rw[<-hri];simp[cu]⟩
   ·have:decide (a=b)=false:=by
     have:decide (x=y)=false:=by rw[<-hri];simp[cu]
     have bw:¬x=y:=by simpa using this
     rw[<-hr];simp[bw]
    exact aq (A9 @aV d d2 gx gy di d3 gu (A2 gw this)) zz;all_goals exact absurd (by assumption) cu
  ·rw[List.drop_of_length_le (by omega)]at hri;have hxy:x=y:=by simpa using hri.symm
   have hno:¬i<y.length:=by omega
   have aB4:¬i<x.length:=by omega
   refine aq (A4 @aV d gx ei) (JJ ?_);all_goals exact⟨(),CT,by rw[<-hr];simp[hxy]⟩
 ·rw[List.drop_of_length_le (by omega)]at hr;have hab:decide (a=b)=true:=by rw[<-hr];simp
  exact aq (A3 e c hab) zz
def BK:List DV->Prop×DV:=bB eI λe=>(True,.int .i64 e)
def yl(e):=show BK [.int .i64 e]=_ from aH b6 _ e
theorem kX:aF Tryz.prog 14 BK:=by refine aF.mo (ps:=[]) (hs:=[]) trivial trivial Jm λe _=> ?_;exact aq @xd.eq_1 zz
def kY(v:List (List Int)):Bool:=(v.take 30).all (λy=>decide (y.length<=30))&&decide (v.length<=20)
theorem W0{v:List (List Int)}(h:kY v=true):v.length<=20/\∀y∈v,y.length<=30:=by simp only[kY,Bool.and_eq_true,decide_eq_true_eq,List.all_eq_true]at h;rw[List.take_of_length_le (by omega)]at h;exact⟨h.2,h.1⟩
def NP:List DV->Prop×DV:=bB iY λv=>(True,.bool (kY v))
def Je(v:List (List Int)):=show NP [.sl (v.map dG)]=_ from aH o6 _ v
theorem o7:aF Tryz.prog 8 NP:=by
 refine aF.mo (ps:=[]) (hs:=[]) trivial trivial Jn λv _=> ?_;refine aq (A2 @xf.eq_1 @iY.eq_1) (JJ ?_);refine ai (v.take 30) (λk (_:Unit)=>⟨[(0,.sl (v.map dG)),(3,.int .i64 k)],[]⟩) (λk r _=>(r.all (λy=>decide (y.length<=30))&&decide (v.length<=20))=kY v) () (Nat.zero_le _) CT rfl (λk x r _ d hx hd hr=> ?_) (λk _ e hr=> ?_)
 ·rw[List.all_cons]at hr;have d2:k<30/\k<v.length:=by simp at d;omega
  obtain⟨d3,d4⟩:=d2;have DW:v[k]? =some x:=by rw[List.getElem?_take]at hx;simpa[d3]using hx
  have gx:=af dG DW;have d5:(k:Int)<30:=by omega
  by_cases c:x.length<=30
  ·rw[decide_eq_true c,Bool.true_and]at hr;have c2:¬(30:Int)<x.length:=by omega
   refine aq (A5 @aV d4 d5 gx c2) (JJ ?_);all_goals exact⟨(),CT,hr⟩
  ·rw[decide_eq_false c,Bool.false_and,Bool.false_and]at hr;have c2:(30:Int)<x.length:=by omega
   exact aq (A6 @aV d4 d5 gx c2 (Eq.symm hr)) zz
 ·rw[List.all_nil,Bool.true_and]at hr;rw[<-hr];have e:k=min 30 v.length:=by simpa using e
  by_cases c:v.length<30
  ·have c2:¬k<v.length:=by omega
   have c3:¬(k:Int)<v.length:=by omega
   by_cases c4:v.length<=20
   ·have c5:(v.length:Int)<=20:=by omega
    exact aq (A3 c3 c4 c5) zz
   ·have c5:¬(v.length:Int)<=20:=by omega
    exact aq (A3 c3 c4 c5) zz
  ·have c2:k=30:=by omega
   subst c2;have c3:(30:Int)<=v.length:=by omega
   have c4:¬v.length<=20:=by omega
   have c5:¬(v.length:Int)<=20:=by omega
   by_cases c6:30<v.length
   ·have c7:(30:Int)<v.length:=by omega
    exact aq (A3 c4 c5 c7) zz
   ·have c7:¬(30:Int)<v.length:=by omega
    exact aq (A3 c4 c5 c7) zz
end
end Go.Proofs.YtcokmopocppmiaaGreat
