/- Programs: their plain equations: the walk (21). -/
import Derived.Test.YtcokmopocppmiaaGreatPgGe
set_option linter.all false
set_option maxRecDepth 20000
namespace Go.Proofs.YtcokmopocppmiaaGreat
open Go.Nk
structure rVs where
 q:Nat
 p:cY
 i:Nat
 rest:List DV
 l:List rN
 n:Nat
def ajJ(x:rVs)(a:List DV)(hp:List ak):Prop:=a=[.ptr x.q 1 0 0,.sl (x.l.map fR)]/\hp[x.q]? =some ⟨.loc,10,[[.sl (x.p.en.map jQ),.sl (x.p.nodes.map ef),.int .i64 x.i]++x.rest]⟩/\x.n=hp.length
theorem anO:∀x y a hp,ajJ x a hp->ajJ y a hp->x=y:=by
 rintro⟨q,⟨e1,n1⟩,i,r,l,n⟩ ⟨q',⟨e2,n2⟩,i',r',l',n'⟩ a hp ⟨h1,h2,h3⟩ ⟨h4,h5,h6⟩
 dsimp only at h1 h2 h3 h4 h5 h6;rw[h1]at h4;injection h4 with g1 g2;injection g2 with g2 _;injection g1 with g1;injection g2 with g2;subst g1;have g3:=map_inj xA _ _ g2;rw[h2]at h5;simp only[Option.some.injEq,ak.mk.injEq,List.cons.injEq,List.cons_append,List.nil_append,DV.sl.injEq,DV.int.injEq,and_true,true_and]at h5;obtain⟨k1,k2,k3,k4⟩:=h5;have k5:i=i':=by omega
 rw[map_inj vh _ _ k1,map_inj GU _ _ k2,k5,k4,g3,h3,h6]
noncomputable def UZ:List DV->List ak->sj:=m7 ajJ (λx=>(bx x.p=true/\x.l.length<=60,.own x.n x.l.length 0 x.l.length)) λx hp=>hp++[⟨.aN,5,(x.l.map (varOf x.p x.i)).map dZ⟩]
theorem abA{q:Nat}{p:cY}{i:Nat}{rest:List DV}{l:List rN}{hp:List ak}(h:hp[q]? =some ⟨.loc,10,[[.sl (p.en.map jQ),.sl (p.nodes.map ef),.int .i64 i]++rest]⟩):
 UZ [.ptr q 1 0 0,.sl (l.map fR)] hp=⟨bx p=true/\l.length<=60,.own hp.length l.length 0 l.length,hp++[⟨.aN,5,(l.map (varOf p i)).map dZ⟩]⟩:=
 jJ (x:=⟨q,p,i,rest,l,hp.length⟩) anO ⟨rfl,h,rfl⟩
theorem anP:g9 Tryz.prog 67 UZ:=by
 refine g9.anF (ps:=[(68,zr)]) (hs:=[]) ⟨eZ,trivial⟩ trivial Cz (by rintro x a hp ⟨rfl,_⟩;rfl) ?_
 rintro⟨q,p,i,rest,l,n⟩ a hp ⟨rfl,hq,rfl⟩ ⟨hP,hl⟩
 dsimp only at hq hP hl|-;have hql:=(List.getElem?_eq_some_iff.1 hq).1;have gq:∀t,(hp++t)[q]? =some ⟨.loc,10,[[.sl (p.en.map jQ),.sl (p.nodes.map ef),.int .i64 i]++rest]⟩:=λt=>by rw[List.getElem?_append_left hql];exact hq
 have e1:∀s,zr [.agg (bT p),.int .i64 i,.str s]=(True,.cy [.sl (((da p i s).getD []).map eD),.bool (da p i s).isSome]):=λs=>by rw[tP,eq_true (show bx p=true/\(0:Int)<=i from⟨hP,by omega⟩),Int.toNat_natCast]
 refine aq @sk.eq_1 (JJ ?_);refine ai l (λk (o:List Va)=>⟨[(0,.ptr q 1 0 0),(1,.sl (l.map fR)),(5,.own hp.length o.length 0 o.length),(6,.int .i64 k)],hp++[⟨.aN,5,o.map dZ⟩]⟩) (λk r o=>o.length=k/\o++r.map (varOf p i)=l.map (varOf p i)) [] trivial CT ⟨rfl,rfl⟩ (λk d r o dk hx hd hr=> ?_) (λk o ek hr=> ?_)
 ·obtain⟨r1,r2⟩:=hr;have gd:=af fR hx;have e2:=e1 d.name;have hv:varOf p i d=⟨d.name,d.ty.k,d.ty.e,d.ty.n,(da p i d.name).getD []⟩:=rfl;rw[List.map_cons,hv]at r2;obtain⟨d1,⟨d2,d3,d4⟩,d5,d6⟩:=d;dsimp only at r2 e2;generalize (da p i d1).getD []=row at*;generalize (da p i d1).isSome=rb at*;refine aq (A7 dk gd gq e2 @Nat.add_zero @lk @lp) (JJ ?_);exact⟨o++[⟨d1,d2,d3,d4,row⟩],(CF @List.map_append.{0,0}),by simp[r1],by simpa using r2⟩
 ·obtain⟨r1,r2⟩:=hr;rw[List.map_nil,List.append_nil]at r2;refine aq (A2 ek @r1) (JJ ?_);all_goals(rw[<-r2];done)
def flN(p:cY):Nat->List kZ->List Fl
 |_,[]=>[]
 |j,n::r=>fN p j n::flN p (j+1) r
theorem arn(p:cY):lK p=flN p 0 p.nodes:=by
 have:∀(l:List kZ) (j:Nat),l.mapIdx (λk n=>fN p (j+k) n)=flN p j l:=by
  intro l;induction l with
  |nil=>intro j;rfl
  |cons n l ih=>
   intro j;rw[List.mapIdx_cons,flN,<-ih (j+1)];congr 1;refine congrArg (λf=>List.mapIdx f l) ?_;funext k n;rw[show j+(k+1)=j+1+k by omega]
 have h:=this p.nodes 0;rw[<-h];unfold lK;refine congrArg (λf=>List.mapIdx f p.nodes) ?_;funext k n;rw[Nat.zero_add]
theorem af4{p}(h:vm p=true):fX p=eu:=by
 have h1:nJ p=eu:=by simpa[vm]using h
 have h2:kS p=eu:=by
  by_cases c:kS p=eu
  ·exact c
  ·rw[Sy c]at h1;exact h1
 have h3:iU p=eu:=by
  by_cases c:iU p=eu
  ·exact c
  ·rw[Sz c]at h2;exact h2
 have h4:iV p=eu:=by
  by_cases c:iV p=eu
  ·exact c
  ·rw[SA c]at h3;exact h3
 exact SB h4
theorem af5{n:kZ}(h:dH n=true):∀x∈n.eqs,∀s∈x.names,s.length<=100:=by
 simp only[dH,rM,Bool.and_eq_true,List.all_eq_true,decide_eq_true_eq]at h
 exactλx hx s hs=>(h.2 x hx).2 s hs
def oB(p:cY)(i:Nat)(f:List UInt8)(fr:Int)(nm:List UInt8)(il ol vl ql:Nat):ak:=⟨.loc,10,[[.sl (p.en.map jQ),.sl (p.nodes.map ef),.int .i64 i,.str f,.int .i64 fr,.str nm,.own 5 il 0 il,.own 6 ol 0 ol,.own 7 vl 0 vl,.own 8 ql 0 ql]]⟩
theorem aro{o0 o1 o2 o3 oi oo}{p}{i}{f nm}{il ol}{st:Em}(e)(names)(on:List dY)(h:okM 300 ⟨p,i,f,nm,5,il,6,ol,st⟩ e on):
 GV 300 [.ptr 4 1 0 0,.agg (cA e),.sl (dI names),.sl (on.map eD)] [o0,o1,o2,o3,oB p i f st.fr nm il ol st.vs.length st.qs.length,oi,oo,⟨.aN,5,st.vs.map dZ⟩,⟨.aN,10,st.qs.map fJ⟩]=
  ⟨True,.str (eX p i f e names on st).1,[o0,o1,o2,o3,oB p i f (eX p i f e names on st).2.fr nm il ol (eX p i f e names on st).2.vs.length (eX p i f e names on st).2.qs.length,oi,oo,⟨.aN,5,(eX p i f e names on st).2.vs.map dZ⟩,⟨.aN,10,(eX p i f e names on st).2.qs.map fJ⟩]⟩:=by
 have k:Re [o0,o1,o2,o3,oB p i f st.fr nm il ol st.vs.length st.qs.length,oi,oo,⟨.aN,5,st.vs.map dZ⟩,⟨.aN,10,st.qs.map fJ⟩] 4 7 8:=⟨by simp,by simp,by simp,by decide,by decide,by decide⟩;have:=Lj 300 (v:=⟨p,i,f,nm,5,il,6,ol,st⟩) (t:=[]) k (by simp) (by simp) e (some names) on;rw[eq_true h]at this;exact this
theorem XK(p:cY):vm p=decide (nJ p=eu):=rfl
theorem ev5{p:cY}{j:Nat}{l:List rN}(h:bx p=true/\l.length<=60)(o0 o1 o2 o3:ak)(t:List ak):
 UZ [.ptr 4 1 0 0,.sl (l.map fR)] (o0::o1::o2::o3::⟨.loc,10,[[.sl (p.en.map jQ),.sl (p.nodes.map ef),.int .i64 j,.str [],.int .i64 0,.str [],.nil,.nil,.nil,.nil]]⟩::t)=
  ⟨True,.own (t.length+5) l.length 0 l.length,o0::o1::o2::o3::⟨.loc,10,[[.sl (p.en.map jQ),.sl (p.nodes.map ef),.int .i64 j,.str [],.int .i64 0,.str [],.nil,.nil,.nil,.nil]]⟩::(t++[⟨.aN,5,(l.map (varOf p j)).map dZ⟩])⟩:=by
 have:=abA (q:=4) (p:=p) (i:=j) (rest:=[.str [],.int .i64 0,.str [],.nil,.nil,.nil,.nil]) (l:=l) (hp:=o0::o1::o2::o3::⟨.loc,10,[[.sl (p.en.map jQ),.sl (p.nodes.map ef),.int .i64 j,.str [],.int .i64 0,.str [],.nil,.nil,.nil,.nil]]⟩::t) rfl;rw[eq_true h]at this;exact this
theorem JC(k)(l)(x):Ot k l (l++[x]):=λh hl _=>List.getElem?_append_left hl
def auu(a b c d e f):=show Ot (some 4) [a,b,c,d,e] [a,b,c,d,e,f]=_ from eq_true (JC _ [a,b,c,d,e] f)
def auv(a b c d e f g):=show Ot (some 4) [a,b,c,d,e,f] [a,b,c,d,e,f,g]=_ from eq_true (JC _ [a,b,c,d,e,f] g)
def auw(a b c d e f g h):=show Ot (some 4) [a,b,c,d,e,f,g] [a,b,c,d,e,f,g,h]=_ from eq_true (JC _ [a,b,c,d,e,f,g] h)
noncomputable def JB:List DV->Prop×DV:=bB bj λp=>(bx p=true,.cy [.agg (b8 (if vm p then⟨p.en,lK p⟩else⟨[],[]⟩)),.bool (vm p)])
theorem UY(p:cY):JB [.agg (bT p)]=(bx p=true,.cy [.agg (b8 (if vm p then⟨p.en,lK p⟩else⟨[],[]⟩)),.bool (vm p)]):=aH dp _ p
set_option maxHeartbeats 2000000 in
theorem abz:aF Tryz.prog 39 JB:=by
 refine aF.mo (ps:=[(66,Ou),(68,zr)]) (hs:=[(67,UZ),(69,GV 300)]) ⟨CA,eZ,trivial⟩ ⟨anP,XL 300 (XM 300),trivial⟩ Ej λp h=> ?_;dsimp only;have hP:bx p=true:=h;have e1:=XO p;rw[eq_true hP]at e1;obtain⟨Rc,zS⟩:=eO hP;by_cases c1:nJ p=eu;rotate_left
 ·have hd:decide (nJ p=eu)=false:=decide_eq_false c1;rw[XK,hd];generalize nJ p=f at*;exact aq (A5 @nL.eq_1 @bj.eq_1 e1 @Ms hd) zz;all_goals rfl
 have hd:decide (nJ p=eu)=true:=decide_eq_true c1;have hnB:vm p=true:=by rw[XK,hd]
 rw[hnB,if_pos rfl,arn];have hS:=af4 hnB;have ayf:=abB hnB;have e8:∀(i:Nat) (s:List UInt8),zr [.agg (bT p),.int .i64 i,.str s]=(True,.cy [.sl (((da p i s).getD []).map eD),.bool (da p i s).isSome]):=λi s=>by rw[tP,eq_true (show bx p=true/\(0:Int)<=i from⟨hP,by omega⟩),Int.toNat_natCast]
 generalize nJ p=f at*;refine aq (A5 @nL.eq_1 @bj.eq_1 e1 @Ms hd) (JJ ?_);refine qF ?_;refine aq trivial (JJ ?_);refine ai p.nodes (λj (fs:List Fl)=>⟨[(1,.ref (bT p)),(2,.ptr 0 1 0 0),(4,.ptr 1 1 0 0),(5,.int .i64 j)],[⟨.loc,2,[[.nil,.nil]]⟩,⟨.loc,2,[[.sl (p.en.map jQ),.own 2 fs.length 0 fs.length]]⟩,⟨.aN,5,fs.map j0⟩]⟩) (λj r fs=>fs.length=j/\fs++flN p j r=flN p 0 p.nodes) [] (by decide) CT ⟨rfl,rfl⟩ (λj n r fs d hx hd hr=> ?_) (λj fs e hr=> ?_);rotate_left
 ·obtain⟨r1,r2⟩:=hr;rw[flN,List.append_nil]at r2;have ht:(fs.map j0).take p.nodes.length=fs.map j0:=List.take_of_length_le (by simp;omega);refine aq (A3 e @r1 ht) (JJ ?_);all_goals(rw[<-r2];done)
 obtain⟨r1,r2⟩:=hr;rw[flN]at r2;have M7:=zS n (List.mem_of_getElem? hx);have gn:=af ef hx;have hN:=abC ayf hx;obtain⟨l1,l2,l3,l4,_,l6⟩:=cO M7;have ayg:=af5 M7;have ev1:=ev5 (p:=p) (j:=j) (l:=n.ins) ⟨hP,by omega⟩;have ev2:=ev5 (p:=p) (j:=j) (l:=n.outs) ⟨hP,by omega⟩;have ev3:=ev5 (p:=p) (j:=j) (l:=n.vars) ⟨hP,by omega⟩;refine aq (A8 d gn ev1 ev2 ev3 @auu @auv @auw) (JJ ?_);refine qF ?_;refine aq trivial (JJ ?_);generalize XP:(n.ins.map (varOf p j))=ivs at*;generalize apO:(n.outs.map (varOf p j))=ovs at*;have hvl:(n.vars.map (varOf p j)).length=n.vars.length:=by simp
 refine ai n.eqs (λk (x:List UInt8×Em)=>⟨[(1,.ref (bT p)),(2,.ptr 0 1 0 0),(4,.ptr 1 1 0 0),(5,.int .i64 j),(6,.ptr 3 1 0 0),(7,.ptr 4 1 0 0),(8,.int .i64 k)],
  [⟨.loc,2,[[.nil,.nil]]⟩,⟨.loc,2,[[.sl (p.en.map jQ),.own 2 fs.length 0 fs.length]]⟩,⟨.aN,5,fs.map j0⟩,⟨.loc,5,[ef n]⟩,oB p j x.1 x.2.fr n.name n.ins.length n.outs.length x.2.vs.length x.2.qs.length,⟨.aN,5,ivs.map dZ⟩,⟨.aN,5,ovs.map dZ⟩,⟨.aN,5,x.2.vs.map dZ⟩,⟨.aN,10,x.2.qs.map fJ⟩]⟩)
  (λk r x=>r.foldl (uP p j) x.2=emN p j n/\x.2.vs.length<=20+600*k/\x.2.qs.length<=600*k) ([],⟨0,n.vars.map (varOf p j),[]⟩) (by decide) (CF (A2 @oB.eq_1 hvl)) ⟨rfl,by simp;omega,by simp⟩ (λk x r y dk RG hdk hq=> ?_) (λk y ek hq=> ?_)
 ·obtain⟨f0,st⟩:=y;obtain⟨q1,q2,q3⟩:=hq;dsimp only at q1 q2 q3;rw[List.foldl_cons]at q1;have Rf:=List.mem_of_getElem? RG;have hQ1:=aed hP hS hx Rf;obtain⟨⟨hX,hxn⟩,hx0⟩:=hQ1;have hcl:=hN.cl x Rf;have mK:c0 p j x.e ((da p j (x.names.getD 0 [])).getD [])=true:=by simp only[GW,Bool.and_eq_true]at hcl;exact hcl.2
  have hrl:=sJ (p:=p) (i:=j) (s:=x.names.getD 0 []);have hpa:=kL (l6 x Rf).2;have zK:(x.names.getD 0 []).length<=100:=ayg x Rf _ (List.mem_of_getElem? (by rw[List.getD_eq_getElem?_getD,List.getElem?_eq_getElem hx0];rfl));have ea:=aro (o0:=⟨.loc,2,[[.nil,.nil]]⟩) (o1:=⟨.loc,2,[[.sl (p.en.map jQ),.own 2 fs.length 0 fs.length]]⟩) (o2:=⟨.aN,5,fs.map j0⟩) (o3:=⟨.loc,5,[ef n]⟩) (oi:=⟨.aN,5,ivs.map dZ⟩) (oo:=⟨.aN,5,ovs.map dZ⟩)
   (p:=p) (i:=j) (f:=x.names.getD 0 []) (nm:=n.name) (il:=n.ins.length) (ol:=n.outs.length) (st:=⟨0,st.vs,st.qs⟩) x.e x.names ((da p j (x.names.getD 0 [])).getD [])
   ⟨hX,mK,by omega,by omega,by dsimp only;omega,by dsimp only;omega,by dsimp only;omega,by dsimp only;omega,by dsimp only;omega⟩
  have hgr:=NG (p:=p) (node:=j) (first:=x.names.getD 0 []) x.e x.names ((da p j (x.names.getD 0 [])).getD []) ⟨0,st.vs,st.qs⟩;have hem:uP p j st x=(eX p j (x.names.getD 0 []) x.e x.names ((da p j (x.names.getD 0 [])).getD []) ⟨0,st.vs,st.qs⟩).2:=rfl;rw[hem]at q1;have e9:=e8 j (x.names.getD 0 []);have gx:=af kO RG;have g0:(dI x.names).getD 0 []=[.str (x.names.getD 0 [])]:=fk (by rw[List.getD_eq_getElem?_getD,List.getElem?_eq_getElem hx0];rfl);have ayi:(0:Int)<x.names.length:=by omega
  generalize (da p j (x.names.getD 0 [])).getD []=row at*;generalize (da p j (x.names.getD 0 [])).isSome=rb at*;generalize x.names.getD 0 []=nm0 at*;generalize eX p j nm0 x.e x.names row ⟨0,st.vs,st.qs⟩=B at*;obtain⟨B1,B2⟩:=B;dsimp only at q1 hgr ea;simp only[ag x.e,oB]at ea;refine aq (A8 @aj @oB.eq_1 dk gx g0 ayi e9 ea) (JJ ?_);have g1:=hgr.vs;have g2:=hgr.qs;dsimp only at g1 g2;exact⟨(nm0,B2),CT,q1,by dsimp only;omega,by dsimp only;omega⟩
 ·obtain⟨f0,st⟩:=y;obtain⟨q1,q2,q3⟩:=hq;dsimp only at q1 q2 q3;have q1:st=emN p j n:=q1;have UI:fN p j n=⟨n.name,ivs,ovs,st.vs,st.qs⟩:=by rw[q1,<-XP,<-apO];rfl
  have hil:ivs.length=n.ins.length:=by rw[<-XP];simp
  have XC:ovs.length=n.outs.length:=by rw[<-apO];simp
  have t1:List.take n.ins.length (ivs.map dZ)=ivs.map dZ:=List.take_of_length_le (by simp;omega);have t2:List.take n.outs.length (ovs.map dZ)=ovs.map dZ:=List.take_of_length_le (by simp;omega);have t3:List.take st.vs.length (st.vs.map dZ)=st.vs.map dZ:=List.take_of_length_le (by simp);have t4:List.take st.qs.length (st.qs.map fJ)=st.qs.map fJ:=List.take_of_length_le (by simp);have abw:fs.map j0++[[.str n.name,.sl (ivs.map dZ),.sl (ovs.map dZ),.sl (st.vs.map dZ),.sl (st.qs.map fJ)]]=(fs++[fN p j n]).map j0:=by rw[UI];simp
  refine aq (A9 @oB.eq_1 ek t1 t2 t3 t4 hil XC @Nat.le_refl) (JJ ?_);all_goals first
   |exact⟨fs++[fN p j n],(CF @abw),by simp[r1],by rw[List.append_assoc];exact r2⟩
end Go.Proofs.YtcokmopocppmiaaGreat
