/- The Flows of programs that are right: instants of what fits tell what is right, and keep what fits (24). -/
import Derived.Test.YtldnkkkooabaeaaGreatPgMc
set_option linter.all false
set_option maxRecDepth 20000
namespace Go.Proofs.YtldnkkkooabaeaaGreat
open Go.Nk
theorem pU(l):∀(n:Nat) (at_:Int),(bh l n at_).map (·.path)=(aK l n at_).map (·.1)
 |0,_=>rfl
 |n+1,at_=>by simp only[bh,aK,IN,Ei,List.map_flatMap];congr 1;refine Ae λq _=>?_;have:=pU l n q.node;have h1:((λx:cG=>x.path)∘jh (aw q++[47]))=(λp=>(aw q++[47])++p)∘(λx:cG=>x.path):=rfl;have h2:((λx:B3×Ty=>x.1)∘B6 (aw q++[47]))=(λp=>(aw q++[47])++p)∘(λx=>x.1):=rfl;rw[h1,h2,<-Ei,<-Ei,this]
def Nr(m:List cG):Prop:=∀c∈m,∀n∈c.dK,ij n
theorem aa1{en}:∀(sh:Shape) (S m:List cG),S.map (·.path)=sh.map (·.1)->S.length=m.length->OY en S (sh.map (·.2)) m=true->Nr m->mb en sh m
 |[],[],[],_,_,_,_=>trivial
 |[],[],_::_,_,h,_,_=>by simp at h
 |[],_::_,_,h,_,_,_=>by simp at h
 |_::_,[],_,h,_,_,_=>by simp at h
 |_::_,_::_,[],_,h,_,_=>by simp at h
 |x::sh,c::S,d::m,h1,h2,h3,h4=>by simp only[p0,DO]at h1;simp only[p0,OY,ab,ir]at h3;exact⟨h3.1.1.symm.trans h1.1,⟨h3.1.2,h4 d (by simp)⟩,aa1 sh S m h1.2 (by simpa using h2) h3.2 λc hc=>h4 c (by simp[hc])⟩
theorem aa2{en}:∀(sh:Shape) (S m:List cG),S.map (·.path)=sh.map (·.1)->mb en sh m->OY en S (sh.map (·.2)) m=true
 |[],[],_,_,_=>rfl
 |[],_::_,_,h,_=>by simp at h
 |_::_,[],_,h,_=>by simp at h
 |_::_,_::_,[],_,h=>h.elim
 |x::sh,c::S,d::m,h1,h=>by simp only[p0,DO]at h1;simp only[p0,OY,ab,ir];exact⟨⟨h1.1.trans h.1.symm,h.2.1.1⟩,aa2 sh S m h1.2 h.2.2⟩
theorem ak1{l}{at_}{m}(h:fI l at_ m=true)(u6:Nr m):Fit l at_ m:=by simp only[fI,ab,ir]at h;obtain⟨⟨h1,h2⟩,h3⟩:=h;rw[aQ,gr h1]at h2 h3;exact aa1 _ _ _ (pU l 11 at_) h2 h3 u6
theorem am1{l}{at_}{m}(hv:qt l at_=true)(h:Fit l at_ m):fI l at_ m=true:=by simp only[fI,ab,ir];rw[aQ,gr hv];have:=Rb h;rw[wP]at this;exact⟨⟨hv,this⟩,aa2 _ _ _ (pU l 11 at_) h⟩
theorem wG{en}{s:Shape}{m}(h:mb en s m):Nr m:=λc hc=>by obtain⟨x,_,_,E⟩:=B9 h c hc;exact E.parts.2.2.2
def sZ(v:Bd):Prop:=∀y∈v,∀n∈y,ij n
theorem ahL{en}:∀(ds:List Va) (v:Bd),OL en ds v=true->sZ v->∀(j:Nat) (x:Va) (y:Ba),ds[j]? =some x->v[j]? =some y->RI en (z6 x) y
 |[],_,_,_,j,x,y,U,_=>by simp at U
 |_::_,[],_,_,j,x,y,_,hy=>by simp at hy
 |d::ds,z::v,h,u6,j,x,y,U,hy=>by
  simp only[OL,ab]at h;cases j with
  |zero=>
   simp at U hy;subst U hy;exact⟨h.1,u6 z (by simp)⟩
  |succ j=>exact ahL ds v h.2 (λy hy=>u6 y (by simp[hy])) j x y (by simpa using U) (by simpa using hy)
theorem am2{en}{ds}{v}(h:uy en ds v=true)(u6:sZ v):yM en ds v:=by simp only[uy,ab,ir]at h;exact⟨h.1.symm,ahL ds v h.2 u6⟩
theorem ak2{en}{ds:List Va}{v:Bd}(h:yM en ds v):v.length=ds.length/\(∀y∈v,y.length<=8)/\sZ v:=by
 have key:∀y∈v,∃t,RI en t y:=λy hy=>by
  obtain⟨j,hj⟩:=adm hy;have hl:j<ds.length:=by rw[<-h.1];exact(pc.1 hj).1
  exact⟨_,h.2 j ds[j] y (tx hl) hj⟩
 refine⟨h.1,λy hy=>?_,λy hy=>?_⟩
 .obtain⟨t,ht⟩:=key y hy;exact ht.len.2
 .obtain⟨t,ht⟩:=key y hy;exact ht.parts.2.2.2
theorem ae7{l}(h:lh l):I' l:=λi f hf=>by
 have hG:=h.xP i f hf;refine⟨by have:=hG.sz.2.2;omega,λq hq=>?_⟩;have hQ:=hG.eq q hq;have bP:=OT.2 hQ.ne;refine⟨λ_=>bP,λh7=>?_⟩;rcases hQ.body with⟨_,hb⟩|hb
 .exfalso;cases hb<;>omega
 .rw[ji];exact⟨h7,bP,hb.node⟩
theorem ae8{l}(h:lh l):E3 l:=λf hf q hq=>by
 obtain⟨i,hi⟩:=adm hf;rcases((h.xP i f hi).eq q hq).body with⟨_,hb⟩|hb
 .cases hb<;>omega
 .have:=hb.kind;omega
theorem aac{l}(h:lh l)(hw:Vy l):PG l:=⟨⟨h.cap,hw⟩,ae7 h,ae8 h⟩
theorem ahM{p}{i}:∀(qs:List xY) (st:Em),(∀x∈qs,(az x.e).length<300)->(qs.foldl (xZ p i) st).vs.length<=st.vs.length+600*qs.length
 |[],st,_=>by simp
 |x::qs,st,h=>by rw[S2];have h1:=ahM (p:=p) (i:=i) qs (xZ p i st x) λy hy=>h y (by simp[hy]);have h2:=(Rc (p:=p) (node:=i) (first:=x.names.getD 0 []) x.e x.names ((dU p i (x.names.getD 0 [])).getD []) ⟨0,st.vs,st.qs⟩).vs;have h3:=h x (by simp);have h4:(xZ p i st x).vs.length<=st.vs.length+2*(az x.e).length:=h2;simp only[IS];omega
theorem ae9{p}(I:bF p=true):Vy (eK p):=λf hf=>by
 simp only[eK,m5,It]at hf;obtain⟨g,hg,rfl⟩:=hf;obtain⟨i,hi⟩:=adm hg;rw[List.getElem?_mapIdx]at hi;cases hn:p.nodes[i]? with
 |none=>rw[hn]at hi;simp at hi
 |some n=>
  rw[hn]at hi;simp at hi;subst hi;simp only[bF,ab,BE]at I;have hN:=I.2 n (ed hn);simp only[dA,Lz,ab,ir,BE,tV]at hN;obtain⟨⟨⟨⟨⟨h1,h2⟩,h3⟩,h4⟩,h5⟩,h6⟩:=hN;have hv:=ahM (p:=p) (i:=i) n.eqs ⟨0,n.vars.map (varOf p i),[]⟩ λx U=>lZ (h6 x U).1.2;have h7:=h1.2;have h8:=h2.2;have h9:=h3.2;rw[Pe]at hv;refine⟨?_,?_,?_⟩
  .show(n.ins.map (varOf p i)).length<=1000000;rw[Pe];omega
  .show(n.outs.map (varOf p i)).length<=1000000;rw[Pe];omega
  .show(O9 p i n).vs.length<=1000000;have:(O9 p i n).vs.length<=n.vars.length+600*n.eqs.length:=hv;omega
structure an1(l:cT)(at_:Int)(m:List cG)(ins:Bd):Prop where
 ok:okF l at_ m ins
 xP:(bp l at_ m ins).2.2=0->yM l.enums (ad l at_).outs (bp l at_ m ins).1/\Fit l at_ (bp l at_ m ins).2.1
 bad:(bp l at_ m ins).2.2≠0->(bp l at_ m ins).1=[]/\(bp l at_ m ins).2.1=m
theorem wF{l}(hL:lh l)(hG:PG l){at_}(hv:qt l at_=true){m}(hM:kE m)(u6:Nr m){ins}(hR:Ux ins)(aDV:sZ ins):an1 l at_ m ins:=by
 have hS:fI l at_ m=true->uy l.enums (ad l at_).ins ins=true->oZ l 11 at_ m ins/\((bK l 11 at_ m ins).2.2=0->yM l.enums (ad l at_).outs (bK l 11 at_ m ins).1/\Fit l at_ (bK l 11 at_ m ins).2.1)/\((bK l 11 at_ m ins).2.2≠0->(bK l 11 at_ m ins).1=[]/\(bK l 11 at_ m ins).2.1=m):=λh1 h2=>by have:=(kG hv).2;have:=hG.1.1.1.1;exact Ly hL 11 at_ (by omega) hv m ins (ak1 h1 u6) (am2 h2 aDV)
 refine⟨⟨hG,hM,hR,λh1 h2=>?_⟩,?_,?_⟩
 .obtain⟨g1,g2,g3⟩:=hS h1 h2;refine⟨g1,?_⟩;by_cases c:(bK l 11 at_ m ins).2.2=0
  .have:=(Fit.mem hL hv (g2 c).2).1;omega
  .rw[(g3 c).2];have:=hM.1;omega
 all_goals
  unfold bp;cases c1:fI l at_ m
  .rw[gr rfl];simp
  .rw[ba (by decide)];cases c2:uy l.enums (ad l at_).ins ins
   .rw[gr rfl];simp
   .rw[ba (by decide)];obtain⟨g1,g2,g3⟩:=hS c1 c2;first|exact g2|exact g3
theorem amX{l}(hL:lh l)(hG:PG l){at_}(hv:qt l at_=true):∀(rows:List Bd) (m:List cG),Fit l at_ m->(∀r∈rows,Ux r/\sZ r)->K9 l at_ rows m/\(ta l at_ rows m).1.length<=rows.length/\∀r∈(ta l at_ rows m).1,r.length<=1000/\∀y∈r,y.length<=8
 |[],_,_,_=>⟨BB,by simp[ta],by simp[ta]⟩
 |ins::rows,m,hm,E=>by
  have I:=wF hL hG hv (Fit.mem hL hv hm) (wG hm) (E ins (by simp)).1 (E ins (by simp)).2;obtain⟨h0,h1⟩:=kG hv;obtain⟨i,hi,hf⟩:=iE h0 h1;have lP:=(hL.xP i _ hf).sz.2.1;simp only[K9,ta];by_cases c:(bp l at_ m ins).2.2=0
  .obtain⟨g1,g2⟩:=I.xP c;obtain⟨k1,k2,k3⟩:=amX hL hG hv rows _ g2 λr h=>E r (by simp[h]);obtain⟨w1,w2,_⟩:=ak2 g1;rw[gr c];refine⟨⟨I.ok,λ_=>k1⟩,by simp;omega,λr h=>?_⟩;rcases NO.1 h with rfl|h
   .exact⟨by omega,w2⟩
   .exact k3 r h
  .rw[ba c];exact⟨⟨I.ok,λh=>absurd h c⟩,by simp,by simp⟩
def j9:Pl:=⟨5,[[110]],0,[([110,46,49],0)],[0],0,false,[],0,[]⟩
def Wl:Pl:=⟨3,[[110,46,49]],3,[([110],0),([],1)],[],0,false,[],0,[]⟩
def Lw:Va:=⟨[110],1,0,0,[]⟩
def OQ:Va:=⟨[110,46,49],1,0,0,[]⟩
def f0:Fl:=⟨[102],[],[Lw],[OQ],[j9,Wl]⟩
def l0:cT:=⟨[],[f0]⟩
theorem afa:fO f0 [110]=some Lw:=rfl
theorem afb:fO f0 [110,46,49]=some OQ:=rfl
theorem aDW:uD f0 [110]=tI:=by unfold uD;rw[afa];rfl
theorem aDX:uD f0 [110,46,49]=tI:=by unfold uD;rw[afb];rfl
theorem au6:tl l0 0 f0:=by
 have su:fu f0=[Lw,OQ]:=rfl;have Hc:dI f0.eqs=[[110],[110,46,49]]:=rfl;refine⟨?_,?_,?_,?_,?_,?_,?_,?_,?_⟩
 .rw[su];simp[Lw,OQ]
 .rw[su];intro v hv;simp only[NO,List.not_mem_nil,or_false]at hv;rcases hv with rfl|rfl
  .exact⟨by decide+kernel,by decide,by unfold tj Lw;decide,by decide⟩
  .exact⟨by decide+kernel,by decide,by unfold tj OQ;decide,by decide⟩
 .intro v hv;have hv:v∈[Lw]:=hv;simp only[FW]at hv;rw[hv];rfl
 .intro q hq;have hq:q∈[j9,Wl]:=hq;simp only[NO,List.not_mem_nil,or_false]at hq;rcases hq with rfl|rfl
  .refine⟨by decide,?_,?_,by decide,⟨by decide,λ_=>rfl⟩,.inl ⟨rfl,?_⟩⟩
   .intro s I;have I:s∈[[110]]:=I;rw[FW.1 I];exact⟨Lw,afa,rfl⟩
   .intro c hc;have hc:c∈([]:List gT):=hc;simp at hc
   .have:uD f0 (aw j9)=tI:=aDW;rw[this];exact .Ln ([110,46,49],0) rfl rfl (.inr ⟨by decide,OQ,afb,rfl,rfl⟩) ⟨by decide+kernel,by
     intro n hn;have hn:n∈[(0:Int)]:=hn;rw[FW.1 hn];unfold ij;omega⟩
  .refine⟨by decide,?_,?_,by decide,⟨by decide,λh=>absurd rfl h⟩,.inl ⟨rfl,?_⟩⟩
   .intro s I;have I:s∈[[110,46,49]]:=I;rw[FW.1 I];exact⟨OQ,afb,rfl⟩
   .intro c hc;have hc:c∈([]:List gT):=hc;simp at hc
   .have:uD f0 (aw Wl)=tI:=aDX;rw[this];exact .bin ([110],0) ([],1) tI tI rfl rfl (.inr ⟨by decide,Lw,afa,rfl,rfl⟩) (.inl ⟨rfl,by decide+kernel,by
     intro n hn;rw[FW.1 hn];unfold ij;omega⟩) (by decide+kernel)
 .rw[Hc];decide
 .intro s _ d Z;have Z:d∈([]:List Va):=Z;simp at Z
 .intro v hv;have hv:v∈[Lw,OQ]:=hv;rw[Hc];simp only[NO,List.not_mem_nil,or_false]at hv;rcases hv with rfl|rfl<;>decide
 .intro k q hq s I;match k,hq with
  |0,hq=>
   have:j9=q:=abc hq;subst this;have I:s∈([]:BS):=I;simp at I
  |1,hq=>
   have:Wl=q:=abc hq;subst this;have E:gA Wl=[[110]]:=by decide+kernel
   rw[E]at I;rw[FW.1 I];exact .inr (by decide+kernel)
  |k+2,hq=>simp[f0]at hq
 .decide
theorem amP:lh l0:=by
 refine⟨λi f hf=>?_,⟨by decide,λf hf=>?_⟩,λf hf q hq=>?_⟩
 .match i,hf with
  |0,hf=>
   have:f0=f:=abc hf;subst this;exact au6
  |i+1,hf=>simp[l0]at hf
 .have hf:f∈[f0]:=hf;rw[FW.1 hf];unfold X6 bN;decide
 .have hf:f∈[f0]:=hf;rw[FW.1 hf]at hq;exact(tl.Bb au6).2 q hq
theorem azl:Vy l0:=λf hf=>by have hf:f∈[f0]:=hf;rw[FW.1 hf];decide
theorem aDz:qt l0 0=true:=by decide+kernel
def Nt(p:fc):Prop:=∀n∈p.nodes,∀x∈n.eqs,yO x.e
def Re(p:fc):Bool:=bF p&&x7 p
def zW(p:fc):cT:=if Re p then eK p else⟨[],[]⟩
def Ip(p:fc):Int:=if Re p then((eK p).fs.length:Int)-1 else 0
def FC(p:fc):Bool:=Re p&&qt (eK p) (((eK p).fs.length:Int)-1)
noncomputable def zX:Ab->Prop×J:=bJ bA λp=>(Te p/\Nt p,.b9 [.agg (cD (zW p)),.int .i64 (Ip p),.bool (FC p)])
def aCV(p):=show zX [.agg (cE p)]=_ from aI dY _ p
theorem ak3{p}(u6:Nt p)(h:Re p=true):lh (eK p)/\PG (eK p):=by simp only[Re,ab]at h;have hL:=afc (awI h.2 h.1 u6) h.2;exact⟨hL,aac hL (ae9 h.1)⟩
set_option maxHeartbeats 4000000 in
theorem aCW:aJ Tryz.prog 5 zX:=by
 refine aJ.mS (ps:=[(21,Rg),(22,LA),(23,oG)]) (I:=[]) ⟨aIG,afd,iL,BB⟩ trivial aD0 λp h=>?_;try dsimp only at h
 obtain⟨hc,u6⟩:=h;have e0:=aa3 p;rw[lU hc]at e0;by_cases c:bF p=true;rotate_left
 .have c1:bF p=false:=by simpa using c
  have c2:Re p=false:=by rw[Re,c1];rfl
  rw[show zW p=⟨[],[]⟩ by rw[zW,c2];rfl,show Ip p=0 by rw[Ip,c2];rfl,show FC p=false by rw[FC,c2];rfl];rw[c1]at e0;obtain⟨en,ns⟩:=p;simp only[cE]at e0;exact ao (fj @lv.eq_1 @bA.eq_1 e0 @cD.eq_1) zz
 have Y:=aJB p;rw[lU c]at Y;rw[c]at e0;by_cases cs:x7 p=true;rotate_left
 .have cs1:x7 p=false:=by simpa using cs
  have c2:Re p=false:=by rw[Re,cs1,Ma]
  rw[show zW p=⟨[],[]⟩ by rw[zW,c2];rfl,show Ip p=0 by rw[Ip,c2];rfl,show FC p=false by rw[FC,c2];rfl];rw[cs1,ba (by decide)]at Y;obtain⟨en,ns⟩:=p;simp only[cE,cD,DD]at e0 Y;exact ao (fF @lv.eq_1 @bA.eq_1 e0 Y @cD.eq_1) zz
 have c2:Re p=true:=by rw[Re,c,cs];rfl
 have hG:=(ak3 u6 c2).2;rw[show zW p=eK p by rw[zW,c2];rfl,show Ip p=((eK p).fs.length:Int)-1 by rw[Ip,c2];rfl,show FC p=qt (eK p) (((eK p).fs.length:Int)-1) by rw[FC,c2];rfl];rw[cs,gr rfl]at Y;have e2:=mO (eK p) (((eK p).fs.length:Int)-1);rw[lU hG.1.1]at e2;have hl:=hG.1.1.1.1;generalize eK p=l at*;obtain⟨ak4,hlw⟩:∃a,a=(l.fs.length:Int)-1:=⟨_,rfl⟩;have hw:IntKind.i64.wrap ((l.fs.length:Int)-1)=ak4:=by rw[hlw];exact df (by omega)
 rw[<-hlw]at e2|-;generalize aQ l ak4=S at*;generalize qt l ak4=b at*;obtain⟨en,ns⟩:=p;simp only[cE,cD]at e0 Y e2;exact ao (jg @lv.eq_1 @bA.eq_1 e0 Y e2 hw) zz
theorem awi{p}(u6:Nt p)(h:FC p=true):lh (zW p)/\PG (zW p)/\qt (zW p) (Ip p)=true:=by simp only[FC,ab]at h;rw[zW,Ip,gr h.1,gr h.1];exact⟨(ak3 u6 h.1).1,(ak3 u6 h.1).2,h.2⟩
theorem asd{m}(h:Nv m=true):kE m:=by simp only[Nv,WM,ab,ir,BE]at h;exact⟨by omega,λc hc=>by have:=h.2 c hc;omega⟩
theorem amV{l}{at_}{m}{ins}(hL:lh l)(hv:qt l at_=true)(hM:kE m)(h:an1 l at_ m ins):
 ((bp l at_ m ins).1.length<=1000000/\∀y∈(bp l at_ m ins).1,y.length<=1000000)/\kE (bp l at_ m ins).2.1:=by
 by_cases c:(bp l at_ m ins).2.2=0
 .obtain⟨g1,g2⟩:=h.xP c;obtain⟨w1,w2,_⟩:=ak2 g1;obtain⟨h0,h1⟩:=kG hv;obtain⟨i,hi,hf⟩:=iE h0 h1;have lP:=(hL.xP i _ hf).sz.2.1;exact⟨⟨by omega,λy hy=>by have:=w2 y hy;omega⟩,Fit.mem hL hv g2⟩
 .obtain⟨g1,g2⟩:=h.bad c;rw[g1,g2];exact⟨⟨by simp,by simp⟩,hM⟩
theorem aCX:∀{l:List Ex} {y:Ex},y∈bQ l->∃x∈l,y∈az x
 |[],y,h=>by simp[bQ]at h
 |a::l,y,h=>by
  rw[bQ]at h;rcases pt.1 h with h|h
  .exact⟨a,by simp,h⟩
  .obtain⟨x,h1,h2⟩:=aCX h;exact⟨x,by simp[h1],h2⟩
theorem an2{e:Ex}(h1:ij e.n)(h2:∀x∈e.ar,yO x):yO e:=λy hy=>by
 rw[jj]at hy;rcases NO.1 hy with rfl|hy
 .exact h1
 .obtain⟨x,U,hy⟩:=aCX hy;exact h2 x U y hy
theorem ajX:∀N,bS (yP Tryz.prog N) (.self 123) cO yO:=
 yP.reads (n:=9) (s:= .struct [.int .i64,.int .i64,.str,.int .i64,.slice .str,.slice (.self 123)]) (by kernel_rfl) rfl λAn h=>
  bS.as (bS.struct (bS.cons Reads.int.r (bS.cons Reads.int.r (bS.cons Reads.str.r (bS.cons Reads.int.r (bS.cons (Reads.slice Reads.str).r
   (bS.cons (bS.slice (c:=cO) (W:=yO) (λds Z=>by unfold uF at Z;exact h ds Z)) bS.nil)))))))
   (λx=>Ex.mk x.1 x.2.1 x.2.2.1 x.2.2.2.1 x.2.2.2.2.1 x.2.2.2.2.2.1) (λx=>by rw[ai];rfl) (λx U=>an2 U.2.1 U.2.2.2.2.2.1.2)
def vp:Sh:= .struct [.str,.struct [.int .i64,.int .i64,.int .i64],.str,.str]
theorem ak5:Reads vp gG (λ_=>True):=
 Reads.as (Reads.struct (Reads.cons Reads.str (Reads.cons (Reads.struct (Reads.cons Reads.int (Reads.cons Reads.int (Reads.cons Reads.int Reads.nil)))) (Reads.cons Reads.str (Reads.cons Reads.str Reads.nil)))))
  (λx=>(⟨x.1,⟨x.2.1.1,x.2.1.2.1,x.2.1.2.2.1⟩,x.2.2.1,x.2.2.2.1⟩:tN)) (λ_=>rfl) (λ_ _=>trivial)
def au7:Sh:= .struct [.slice .str,.self 123]
theorem ajY(N):bS (yP Tryz.prog N) au7 me (λx=>x.names.length<=bN/\yO x.e):=
 bS.as (bS.struct (bS.cons (Reads.slice Reads.str).r (bS.cons (ajX N) bS.nil))) (λx=>(⟨x.1,x.2.1⟩:xY)) (λx=>by simp only[me,ai];rfl) (λx U=>⟨U.1.1,U.2.1⟩)
def w5:Sh:= .struct [.str,.slice vp,.slice vp,.slice vp,.slice au7]
theorem ajZ(N):bS (yP Tryz.prog N) w5 fe (λn=>_L n/\∀x∈n.eqs,yO x.e):=
 bS.as (bS.struct (bS.cons Reads.str.r (bS.cons (Reads.slice ak5).r (bS.cons (Reads.slice ak5).r (bS.cons (Reads.slice ak5).r (bS.cons (bS.slice (ajY N)) bS.nil))))))
  (λx=>(⟨x.1,x.2.1,x.2.2.1,x.2.2.2.1,x.2.2.2.2.1⟩:kY)) (λ_=>rfl)
  (λx U=>⟨⟨U.2.1.1,U.2.2.1.1,U.2.2.2.1.1,U.2.2.2.2.1.1,λy hy=>(U.2.2.2.2.1.2 y hy).1⟩,λy hy=>(U.2.2.2.2.1.2 y hy).2⟩)
theorem aj0:Reads (.struct [.str,.slice .str]) kF (λ_=>True):=
 Reads.as (Reads.struct (Reads.cons Reads.str (Reads.cons (Reads.slice Reads.str) Reads.nil))) (λx=>(⟨x.1,x.2.1⟩:En)) (λ_=>rfl) (λ_ _=>trivial)
theorem aCY(N):bS (yP Tryz.prog N) (.struct [.slice (.struct [.str,.slice .str]),.slice w5]) cE (λp=>Te p/\Nt p):=
 bS.as (bS.struct (bS.cons (Reads.slice aj0).r (bS.cons (bS.slice (ajZ N)) bS.nil))) (λx=>(⟨x.1,x.2.1⟩:fc)) (λ_=>rfl)
  (λx U=>⟨⟨U.2.1.1,λn hn=>(U.2.1.2 n hn).1⟩,λn hn=>(U.2.1.2 n hn).2⟩)
theorem aeu:Reads (.struct [.str,.slice (.int .i64)]) bf (λc=>∀n∈c.dK,ij n):=
 Reads.as (Reads.struct (Reads.cons Reads.str (Reads.cons (Reads.slice Reads.int) Reads.nil))) (λx=>(⟨x.1,x.2.1⟩:cG)) (λ_=>rfl) (λ_ h=>h.2.1.2)
theorem aj1:Reads (.slice (.int .i64)) cy (λy=>∀n∈y,ij n):=
 Reads.as (Reads.slice Reads.int) (λl=>l) (λ_=>rfl) (λ_ h=>h.2)
theorem aCZ:Reads (.slice (.slice (.int .i64))) nU sZ:=
 Reads.as (Reads.slice aj1) (λl=>l) (λ_=>rfl) (λ_ h=>h.2)
end Go.Proofs.YtldnkkkooabaeaaGreat
