/- A Flow's variables, one behind the other; the one of a name (21). -/
import Derived.Test.YtcokmopocppmiaaGreatPgIc
set_option maxHeartbeats 4000000
set_option linter.all false
set_option maxRecDepth 20000
namespace Go.Proofs.YtcokmopocppmiaaGreat
open Go.Nk
abbrev eVa:Va->DV:=eA dZ
theorem aiQ:rJ eVa:=zq yr
abbrev Uj:List Va->DV:=eL dZ
theorem Uk:rJ Uj:=Al yr
@[reducible] def RC(b:List Va):List DV:=[.sl (b.map dZ)]
def aje:=show∀x y,RC x=RC y->x=_ fromλx y h=>map_inj yr _ _ (by simpa using h)
abbrev ajf:List (List Va)->DV:=eL RC
theorem ajg:rJ ajf:=Al aje
@[reducible] def UC(s:List UInt8):DV:= .clo 90 [.ref [.str s]]
theorem afQ:rJ UC:=λ_ _ h=>by simpa[UC]using h
def Xr(l:List Va):=show(∀e∈l.map dZ,e.length=5)=_ from eq_true (by simp)
def Lh(a b:List Va):=show a.map dZ++b.map dZ=_ from(List.map_append ..).symm
noncomputable def ajh:List DV->Prop×DV:=bB WC λf=>(f.ins.length<=1000000/\f.outs.length<=1000000/\f.vars.length<=1000000,.sl ((eQ f).map dZ))
def aji(f:Fl):=show ajh [.agg (j0 f)]=_ from aH D5 _ f
theorem GN:aF Tryz.prog 124 ajh:=by
 refine aF.mo (ps:=[]) (hs:=[]) trivial trivial Jt λf h=> ?_;try dsimp only at h
 obtain⟨name,ins,outs,vars,eqs⟩:=f;obtain⟨h1,h2,h3⟩:=h;dsimp only at h1 h2 h3;have t1:List.take ins.length (ins.map dZ)=ins.map dZ:=List.take_of_length_le (by simp);have t2:List.take outs.length (outs.map dZ)=outs.map dZ:=List.take_of_length_le (by simp);have t3:List.take vars.length (vars.map dZ)=vars.map dZ:=List.take_of_length_le (by simp);have t4:List.take (ins.length+outs.length+vars.length) (((ins++outs)++vars).map dZ)=((ins++outs)++vars).map dZ:=List.take_of_length_le (by simp;omega);exact aq (A6 @xr.eq_1 @WC.eq_1 @Xr @eQ.eq_1 @Lh t4) zz
noncomputable def abj:List DV->Prop×DV:=b5 WC eS λf s=>(f.ins.length<=1000000/\f.outs.length<=1000000/\f.vars.length<=1000000,.cy [.agg (dZ ((fp f s).getD vaZ)),.bool (fp f s).isSome])
def M1(f:Fl)(s):=show abj [.agg (j0 f),.str s]=_ from aO D5 ik _ f s
theorem u9:aF Tryz.prog 91 abj:=by
 refine aF.oU (ps:=[(124,ajh)]) (hs:=[]) ⟨GN,trivial⟩ trivial Ju λf s h=> ?_;try dsimp only at h
 obtain⟨h1,h2,h3⟩:=h;have e0:=aji f;rw[eq_true (⟨h1,h2,h3⟩:f.ins.length<=1000000/\f.outs.length<=1000000/\f.vars.length<=1000000)]at e0;have hl:(eQ f).length<=3000000:=by simp[eQ];omega
 refine aq (A3 @xu.eq_1 @WC.eq_1 e0) (JJ ?_);refine ai (eQ f) (λk (_:Unit)=>⟨[(1,.str s),(4,.ptr 0 1 0 0),(6,.sl ((eQ f).map dZ)),(7,.int .i64 k)],[⟨.loc,5,[[.str [],.int .i64 0,.int .i64 0,.int .i64 0,.nil]]⟩]⟩) (λk r _=>r.find? (λv=>v.name==s)=fp f s) () (by decide) CT rfl (λk x r _ d hx hd hr=> ?_) (λk _ e hr=> ?_)
 ·rw[List.find?_cons]at hr;have ga:=af dZ hx;by_cases c:x.name=s
  ·rw[show(x.name==s)=true by simp[c]]at hr;dsimp only at hr;rw[<-hr];exact aq (A5 d ga c @Option.getD_some.{0} @Option.isSome_some.{0}) zz
  ·rw[show(x.name==s)=false by simp[c]]at hr;dsimp only at hr;refine aq (A2 d ga) (A2 ?_ (JJ ?_))<;>intros;all_goals first
    |exact absurd (by assumption) c
    |exact⟨(),CT,hr⟩
 ·rw[List.find?_nil]at hr;rw[<-hr];exact aq (A4 e @Option.getD_none.{0} @Option.isSome_none.{0} @vaZ.eq_1) zz
def gV(n:Nat):List ak:=if n=0 then []else [⟨.dead,5,List.replicate n [.str [],.int .i64 0,.int .i64 0,.int .i64 0,.nil]⟩,⟨.dead,5,[]⟩]
noncomputable def UD:List DV->List ak->sj:=m7 (λ(x:Nat×Nat) a hp=>a=[.nil,.int .i64 x.1]/\x.2=hp.length) (λx=>(x.1<=100000000,.own (x.2+(gV x.1).length) 0 0 0)) λx hp=>hp++(gV x.1++[⟨.aN,5,[]⟩])
theorem Xt(n:Nat)(hp:List ak):UD [.nil,.int .i64 n] hp=⟨n<=100000000,.own (hp.length+(gV n).length) 0 0 0,hp++(gV n++[⟨.aN,5,[]⟩])⟩:=by
 refine jJ (x:=(n,hp.length)) ?_ ⟨rfl,rfl⟩
 rintro⟨x1,x2⟩ ⟨y1,y2⟩ a hp ⟨rfl,rfl⟩ ⟨h,rfl⟩
 simp only[List.cons.injEq,DV.int.injEq,true_and,and_true]at h;have:x1=y1:=by omega
 subst this;rfl
theorem Jv:g9 Tryz.prog 123 UD:=by
 refine g9.anF (ps:=[]) (hs:=[]) trivial trivial qP (by rintro x a hp ⟨rfl,_⟩;rfl) ?_
 rintro⟨n,L⟩ a hp ⟨rfl,rfl⟩ hl
 simp only at hl|-;by_cases q:n=0
 ·subst q;exact aq (A3 @fV.eq_1 @gV.eq_1 @Nat.add_zero) zz
 ·exact aq (A9 @fV.eq_1 @gV.eq_1 q @List.append_assoc.{0} @Nat.add_zero @lk @ajj @lp (A4 @ajk @nD.eq_def @eG.eq_def @Int.sub_zero)) zz
noncomputable def Jw:List DV->Prop×DV:=bB ajf λv=>(v.length<=1000000/\v.flatten.length<=100000000,.sl (v.flatten.map dZ))
def UE(v:List (List Va)):=show Jw [.sl (v.map RC)]=_ from aH ajg _ v
theorem D6:aF Tryz.prog 88 Jw:=by
 refine aF.mo (ps:=[]) (hs:=[(123,UD)]) trivial ⟨Jv,trivial⟩ pR λv h=> ?_;obtain⟨hl,hf⟩:=h;have aui:∀v:List (List Va),v.flatten.length=(v.map List.length).sum:=λv=>List.length_flatten;refine aq (A2 @jx.eq_1 @ajf.eq_1) (JJ ?_);refine ai v (λk (n:Nat)=>⟨[(0,.sl (v.map RC)),(3,.int .i64 n),(9,.sl (v.map RC)),(10,.int .i64 v.length),(11,.int .i64 k)],[]⟩) (λk r n=>n+r.flatten.length=v.flatten.length) 0 (Nat.le_refl _) CT (by simp) (λk x r n d hx hd hr=> ?_) (λk n e hr=> ?_)
 ·simp only[List.flatten_cons,List.length_append]at hr;refine aq (A2 d (af RC hx)) (JJ (λhn=> ?_));exact⟨n+x.length,CT,by omega⟩
 simp only[List.flatten_nil,List.length_nil,Nat.add_zero]at hr;subst hr;have e1:=Xt v.flatten.length [];simp only[List.length_nil,Nat.zero_add,List.nil_append]at e1;refine aq (A2 e e1) (JJ ?_);refine ai v (λk (o:List Va)=>⟨[(6,.own (gV v.flatten.length).length o.length 0 o.length),(25,.sl (v.map RC)),(26,.int .i64 v.length),(27,.int .i64 k)],gV v.flatten.length++[⟨.aN,5,o.map dZ⟩]⟩) (λk r o=>o++r.flatten=v.flatten) [] trivial CT rfl (λk x r o d hx hd hr=> ?_) (λk o e hr=> ?_)
 ·simp only[List.flatten_cons]at hr;have hb:o.length+x.length<=v.flatten.length:=by rw[<-hr];simp
  have t1:List.take x.length (x.map dZ)=x.map dZ:=List.take_of_length_le (by simp);refine aq (A6 @Xr d (af RC hx) @apK @auj @Lh) (JJ ?_);exact⟨o++x,CT,by simpa using hr⟩
 ·simp only[List.flatten_nil,List.append_nil]at hr;subst hr;have t1:List.take v.flatten.length (v.flatten.map dZ)=v.flatten.map dZ:=List.take_of_length_le (by rw[List.length_map];exact Nat.le_refl _);exact aq (A3 e @apK t1) zz
noncomputable def ajl:List DV->Prop×DV:=b5 eVa eRM λc p=>(True,.bool (decide (c.name=p)))
def ajm(c:Va)(p):=show ajl [.agg (dZ c),.ref [.str p]]=_ from aO aiQ UF _ c p
theorem RD:aF Tryz.prog 90 ajl:=by refine aF.oU (ps:=[]) (hs:=[]) trivial trivial UG λc p _=> ?_;refine aq (A3 @GP.eq_1 @eRM.eq_1 @eVa.eq_1) (JJ ?_);all_goals(rw[Bool.eq_iff_iff];simp)
def UH(m:List Va)(p:List UInt8):Option Nat:=m.findIdx? λc=>c.name==p
def ixV(m:List Va)(p:List UInt8):Int:=match UH m p with|some k=>k|none=> -1
noncomputable def ajn:List DV->Prop×DV:=b5 Uj UC λm p=>(m.length<=100000000,.int .i64 (ixV m p))
def ajo(m:List Va)(p):=show ajn [.sl (m.map dZ),.clo 90 [.ref [.str p]]]=_ from aO Uk afQ _ m p
theorem na:aF Tryz.prog 89 ajn:=by
 refine aF.oU (ps:=[(90,ajl)]) (hs:=[]) ⟨RD,trivial⟩ trivial nE λm p h=> ?_;try dsimp only at h
 have h:m.length<=100000000:=h;refine aq (A3 @iE.eq_1 @UC.eq_1 @Uj.eq_1) (JJ ?_);refine ai m (λk (_:Unit)=>⟨[(0,.sl (m.map dZ)),(1,.clo 90 [.ref [.str p]]),(7,.int .i64 m.length),(8,.int .i64 k)],[]⟩) (λk r _=>(r.findIdx? λc=>c.name==p).map (·+k)=UH m p) () (Nat.zero_le _) CT (by simp[UH]) (λk x r _ d hx hd hr=> ?_) (λk _ e hr=> ?_)
 ·rw[List.findIdx?_cons]at hr;have e1:=ajm x p;simp only[dZ]at e1;by_cases e:x.name=p
  ·rw[decide_eq_true e]at e1;simp[e]at hr;refine aq (A3 d (af dZ hx) e1) (JJ ?_);simp[ixV,<-hr]
  ·rw[decide_eq_false e]at e1;refine aq (A3 d (af dZ hx) e1) (JJ ?_);refine⟨(),CT,?_⟩;simp[e]at hr;rw[<-hr];congr 1;funext y;simp;omega
 ·simp only[List.findIdx?_nil,Option.map_none]at hr;exact aq (A3 e @ixV.eq_def (Eq.symm hr)) zz
theorem afR{m:List Va}{p}{k}(h:UH m p=some k):∃c,m[k]? =some c/\m.find? (λc=>c.name==p)=some c:=by
 induction m generalizing k with
 |nil=>simp[UH]at h
 |cons x r ih=>
  rw[UH,List.findIdx?_cons]at h;by_cases c:x.name==p
  ·rw[if_pos c]at h;cases h;exact⟨x,rfl,by rw[List.find?_cons,c]⟩
  ·rw[if_neg c]at h;cases hr:List.findIdx? (λc=>c.name==p) r with
   |none=>rw[hr]at h;cases h
   |some j=>
    rw[hr]at h;cases h;obtain⟨c',h1,h2⟩:=ih hr;exact⟨c',by simpa using h1,by rw[List.find?_cons,Bool.not_eq_true _|>.mp c];exact h2⟩
theorem afS{m:List Va}{p}(h:UH m p=none):m.find? (λc=>c.name==p)=none:=by
 rw[UH,List.findIdx?_eq_none_iff]at h;rw[List.find?_eq_none]
 exactλx hx=>by rw[h x hx];simp
theorem Lf:aF Tryz.prog 57 abj:=by
 refine aF.oU (ps:=[(88,Jw),(89,ajn)]) (hs:=[]) ⟨D6,na,trivial⟩ trivial abr λf s h=> ?_;try dsimp only at h
 obtain⟨name,ins,outs,vars,eqs⟩:=f;obtain⟨h1,h2,h3⟩:=h;dsimp only at h1 h2 h3;have UI:[ins,outs,vars].flatten=ins++outs++vars:=by simp
 have e0:=UE [ins,outs,vars];rw[UI]at e0;have e0:=e0;simp only[List.map_cons,List.map_nil,RC]at e0;have hl:(ins++outs++vars).length<=100000000:=by simp;omega
 rw[eq_true (show([ins,outs,vars].length<=1000000/\(ins++outs++vars).length<=100000000) from⟨by simp,hl⟩)]at e0;have e1:=ajo (ins++outs++vars) s;rw[eq_true hl]at e1;have hv:fp ⟨name,ins,outs,vars,eqs⟩ s=(ins++outs++vars).find? (λv=>v.name==s):=rfl;generalize ins++outs++vars=A at*;rw[hv];cases c:UH A s with
 |none=>
  have:=afS c;rw[this];have c2:ixV A s= -1:=by rw[ixV,c]
  rw[c2]at e1;exact aq (A7 @D7.eq_1 @WC.eq_1 e0 e1 @vaZ.eq_1 @Option.getD_none.{0} @Option.isSome_none.{0}) zz
 |some k=>
  obtain⟨v,g1,g2⟩:=afR c;rw[g2];have c2:ixV A s=k:=by rw[ixV,c]
  rw[c2]at e1;have hk:=(List.getElem?_eq_some_iff.1 g1).1;have ga:=af dZ g1;exact aq (A8 @D7.eq_1 @WC.eq_1 e0 e1 ga hk @Option.getD_some.{0} @Option.isSome_some.{0}) zz
abbrev eTn:dY->DV:=eA eD
theorem aq8:rJ eTn:=zq mu
structure gR where
 l:jw
 at_:Int
 m:List cW
 th:List cW
 env:kc
@[reducible] def rX(h:Nat)(v:gR):List DV:=[.sl (v.l.enums.map jQ),.sl (v.l.fs.map j0),.int .i64 v.at_,.sl (v.m.map aT),.sl (v.th.map aT),.mp h]
def TX:ij gR:=⟨λh v=>⟨.loc,6,[rX h v]⟩,λv=>⟨.mp (v.env.map lQ),0,[]⟩⟩
theorem ajp:∀x y,lQ x=lQ y->x=y:=by
 rintro⟨a,b⟩ ⟨a',b'⟩ h
 simp only[lQ,Prod.mk.injEq,DV.sl.injEq]at h;obtain⟨rfl,h⟩:=h;rw[sH h]
theorem fK:TX.ok where
 anG m v m' v' h:=by simp[TX,rX]at h;exact h.2.2.2.2.2
 anH m v v' h h2:=by obtain⟨⟨en,fs⟩,at_,mm,th,env⟩:=v;obtain⟨⟨en',fs'⟩,aCc,mm',th',anI⟩:=v';simp only[TX,rX,ak.mk.injEq,List.cons.injEq,DV.sl.injEq,DV.int.injEq,Kd.mp.injEq,true_and,and_true]at h h2;obtain⟨h3,h4,rfl,h5,h6⟩:=h;rw[map_inj vh _ _ h3,map_inj GL _ _ h4,map_inj qR _ _ h5,map_inj qR _ _ h6,List.map_inj_right (λx y=>ajp x y)|>.1 h2]
 auk m v k h:=by simp[TX,rX,ak.cut,DV.cut,DV.rR,h]
 aul v k:=by simp[TX,ak.cut]
section
variable {hp t:List ak} {n m:Nat} {v:gR}
theorem qO(k:fw hp n m):(TX.put hp n m v++t)[n]? =some ⟨.loc,6,[rX m v]⟩:=ij.ad8 k
theorem abp(k:fw hp n m):(TX.put hp n m v++t)[m]? =some ⟨.mp (v.env.map lQ),0,[]⟩:=ij.ajq k
def rO{o}:=show(TX.put hp n m v++(o::t))[hp.length]? =_ from ij.ajr
def lh{o o'}:=show(TX.put hp n m v++(o::t)).set hp.length o'=_ from ij.aum
theorem Dk(k:fw hp n m)(c:List cW):(TX.put hp n m v++t).set n ⟨.loc,6,[rX m ⟨v.l,v.at_,v.m,c,v.env⟩]⟩=TX.put hp n m ⟨v.l,v.at_,v.m,c,v.env⟩++t:=ij.aun (T:=TX) k rfl
theorem aja(k:fw hp n m)(e:kc):(TX.put hp n m v++t).set m ⟨.mp (e.map lQ),0,[]⟩=TX.put hp n m ⟨v.l,v.at_,v.m,v.th,e⟩++t:=ij.auo (T:=TX) (v':=⟨v.l,v.at_,v.m,v.th,e⟩) k rfl
end
theorem pb(env:kc)(s):(Au s (env.map lQ)).getD (.sl [])= .sl (cX (lP env s)):=by rw[Su,lP];cases ow s env<;>rfl
def afT(a:dY):DV:=if a.1=[]then .ifc 197 (.int .i64 a.2)else .ifc 199 (.str a.1)
noncomputable def UJ:List DV->Prop×DV:=bB eTn λa=>(True,afT a)
theorem abt(a:dY):UJ [.agg (eD a)]=(True,afT a):=aH aq8 _ a
theorem Ob:aF Tryz.prog 113 UJ:=by
 refine aF.mo (ps:=[]) (hs:=[]) trivial trivial RE λa _=> ?_;obtain⟨s,n⟩:=a;by_cases c:s=[]
 ·subst c;exact aq (A3 @wD.eq_1 @eTn.eq_1 @afT.eq_1) zz
 ·refine aq (A4 @wD.eq_1 @eTn.eq_1 @afT.eq_1 c) (JJ (λhn=> ?_));all_goals exact absurd (by assumption) c
noncomputable def UK:List DV->List ak->sj:=m7 (λ(x:Int×Nat) a _=>a=[.int .i64 x.1,.ptr x.2 1 0 0]) (λx=>(True,.sl (cX [x.1]))) λ_ hp=>hp
theorem Xu(i)(n)(hp):UK [.int .i64 i,.ptr n 1 0 0] hp=⟨True,.sl (cX [i]),hp⟩:=by
 refine jJ (x:=(i,n)) ?_ rfl
 rintro⟨x1,x2⟩ ⟨y1,y2⟩ a hp rfl h
 simp only[List.cons.injEq,DV.int.injEq,DV.ptr.injEq,true_and,and_true]at h;rw[h.1,h.2]
theorem ajs:g9 Tryz.prog 114 UK:=by refine g9.mkG (ps:=[]) (hs:=[]) trivial trivial Av (λx a hp h=>by rw[h];rfl) (λx a hp h nq=> ?_);obtain⟨i,n⟩:=x;subst h;refine aq (A2 @qS.eq_1 @cX.eq_1) (JJ ?_);all_goals exactλi o h=> .inl h
structure SI where
 s:List UInt8
 n:Nat
 m:Nat
 v:gR
noncomputable def UL:List DV->List ak->sj:=m7 (λ(x:SI) a hp=>a=[.str x.s,.ptr x.n 1 0 0]/\TX.is hp x.n x.m x.v) (λx=>(True,.sl (cX (lP x.v.env x.s)))) λ_ hp=>hp
theorem aup{hp}{n m m'}{v v'}(h:TX.is hp n m v)(h':TX.is hp n m' v'):m=m'/\v=v':=by have e1:=Option.some.inj (h.1.symm.trans h'.1);have e2:=fK.anG _ _ _ _ e1;subst e2;exact⟨rfl,fK.anH _ _ _ e1 (Option.some.inj (h.2.1.symm.trans h'.2.1))⟩
theorem Xv{hp t}{n m}{v:gR}(k:fw hp n m)(s):UL [.str s,.ptr n 1 0 0] (TX.put hp n m v++t)=⟨True,.sl (cX (lP v.env s)),TX.put hp n m v++t⟩:=by
 refine jJ (x:=(⟨s,n,m,v⟩:SI)) ?_ (And.intro rfl (ij.Oc k))
 rintro⟨x1,x2,x3,x4⟩ ⟨y1,y2,y3,y4⟩ a hp ⟨rfl,h1⟩ ⟨h,h2⟩
 simp only[List.cons.injEq,DV.str.injEq,DV.ptr.injEq,and_true]at h;obtain⟨rfl,rfl⟩:=h;obtain⟨rfl,rfl⟩:=aup h1 h2;rfl
theorem ajt:g9 Tryz.prog 115 UL:=by refine g9.mkG (ps:=[]) (hs:=[]) trivial trivial yt (λx a hp h=>by rw[h.1];rfl) (λx a hp h nq=> ?_);obtain⟨s,n,m,v⟩:=x;obtain⟨rfl,h1,h2,h3⟩:=h;have g1:hp[n]? =some ⟨.loc,6,[rX m v]⟩:=h1;have g2:hp[m]? =some ⟨.mp (v.env.map lQ),0,[]⟩:=h2;have hb:DV.rR hp.length (.sl (cX (lP v.env s)))=true:=rfl;refine aq (A5 @pf.eq_1 g1 g2 @Option.bind_some.{0,0} @pb) (JJ ?_);all_goals exactλi o h=> .inl h
theorem UM:GK (λx:dY=>[DV.agg (eD x)]):=λx y h=>by simp only[List.cons.injEq,DV.agg.injEq,and_true]at h;exact mu x y (by simp only[eD,List.cons.injEq,and_true];exact h)
noncomputable def xo:=mE TX (λa:dY=>[.agg (eD a)]) λv a=>(True,.sl (cX (aG v.env a)),v)
theorem kM{hp t:List ak}{n m:Nat}{v:gR}(k:fw hp n m)(s:List UInt8)(i:Int):xo [.ptr n 1 0 0,.agg [.str s,.int .i64 i]] (TX.put hp n m v++t)=⟨True,.sl (cX (aG v.env (s,i))),TX.put hp n m v++t⟩:=eM fK UM _ k (s,i)
theorem Js:g9 Tryz.prog 78 xo:=by
 refine g9.Xg (ps:=[(113,UJ)]) (hs:=[(114,UK),(115,UL)]) fK ⟨Ob,trivial⟩ ⟨ajs,ajt,trivial⟩ Cs (λ_=>rfl) (λ_ _ _=>rfl) λn m hp v a k h=> ?_;obtain⟨s,i⟩:=a;have e0:=abt (s,i);simp only[eD]at e0;by_cases c:s=[]
 ·subst c;have h2:aG v.env (([]:List UInt8),i)=[i]:=by simp[aG]
  refine lJ (A5 @mM.eq_1 e0 @afT.eq_1 @Xu h2) (JJ ?_);all_goals exact⟨_,_,rfl,rfl⟩
 ·have h2:aG v.env (s,i)=lP v.env s:=by simp[aG,c]
  ((have az:=Bool.and_self;refine aL.of ?_);(repeat' (first|((with_reducible refine aL.to ?_);(repeat(simp only[↓rP,rT,rU,aC,aw,aQ,bA,aI,aW,DR.val,fx,iq,hH,DV.aY,bh,bn,cn,bX,fy,bW,dE,tJ,cellsOf,Nat.reduceEqDiff,Nat.reduceAdd,↓reduceIte,reduceCtorEq,Nat.reduceLeDiff,Nat.reduceLT,mM,xp,e0,afT,c,Xv k,h2,az]))))))
  all_goals exact⟨_,_,rfl,rfl⟩
noncomputable def pd:=mE TX (λa:dY=>[.agg (eD a)]) λv a=>(aG v.env a≠[],.int .i64 (aP v.env a),v)
theorem Od{hp t:List ak}{n m:Nat}{v:gR}(k:fw hp n m)(s:List UInt8)(i:Int):pd [.ptr n 1 0 0,.agg [.str s,.int .i64 i]] (TX.put hp n m v++t)=⟨aG v.env (s,i)≠[],.int .i64 (aP v.env (s,i)),TX.put hp n m v++t⟩:=eM fK UM _ k (s,i)
theorem GJ:g9 Tryz.prog 104 pd:=by
 refine g9.Xg (ps:=[]) (hs:=[(78,xo)]) fK trivial ⟨Js,trivial⟩ Aw (λ_=>rfl) (λ_ _ _=>rfl) λn m hp v a k h=> ?_;obtain⟨s,i⟩:=a;have h:aG v.env (s,i)≠[]:=h;have hlen:=List.length_pos_iff.2 h;have g0:(cX (aG v.env (s,i))).getD 0 []=[.int .i64 (aP v.env (s,i))]:=by
  cases hv:aG v.env (s,i)with
  |nil=>exact absurd hv h
  |cons x r=>simp[cX,aP,hv]
 ((have az:=Bool.and_self;refine aL.of ?_);(repeat' (first|((with_reducible refine aL.to ?_);(repeat(simp only[↓rP,rT,rU,aC,aw,aQ,bA,aI,aW,DR.val,DV.aY,cellsOf,Nat.reduceEqDiff,Nat.reduceAdd,↓reduceIte,reduceCtorEq,Int.reduceToNat,Int.reduceLE,Nat.reduceLeDiff,qT,aV,xp,kM k,g0,aV,az])))|((with_reducible refine And.intro ?_ ?_); . omega)|fail)))
 all_goals exact⟨_,_,rfl,rfl⟩
noncomputable def wB:=mE TX (λa:dY=>[.agg (eD a)]) λv a=>(True,.sl (cX (aG v.env a)),v)
theorem cP{hp t:List ak}{n m:Nat}{v:gR}(k:fw hp n m)(s:List UInt8)(i:Int):wB [.ptr n 1 0 0,.agg [.str s,.int .i64 i]] (TX.put hp n m v++t)=⟨True,.sl (cX (aG v.env (s,i))),TX.put hp n m v++t⟩:=eM fK UM _ k (s,i)
theorem Gy:g9 Tryz.prog 53 wB:=by
 refine g9.Xg (ps:=[]) (hs:=[]) fK trivial trivial D8 (λ_=>rfl) (λ_ _ _=>rfl) λn m hp v a k h=> ?_;obtain⟨s,i⟩:=a;by_cases c:s=[]
 ·subst c;have h2:aG v.env (([]:List UInt8),i)=[i]:=by simp[aG]
  refine lJ (A3 @nG.eq_1 h2 @cX.eq_1) (JJ ?_);all_goals exact⟨_,_,rfl,rfl⟩
 ·have h2:aG v.env (s,i)=lP v.env s:=by simp[aG,c]
  refine lJ (A7 @nG.eq_1 @qO k @abp @Option.bind_some.{0,0} @pb h2) (A2 ?_ (JJ ?_))<;>intros;all_goals exact⟨_,_,rfl,rfl⟩
noncomputable def UN:List DV->Prop×DV:=b5 m6 m6 λa b=>(b.length<=1000,.bool (decide (a=b)))
def abu(a)(b:List Int):=show UN [.sl (cX a),.sl (cX b)]=_ from aO mq mq _ a b
theorem aju:aF Tryz.prog 74 UN:=by
 refine aF.oU (ps:=[]) (hs:=[]) trivial trivial tK λa b h=> ?_;have h:b.length<=1000:=h;by_cases c:a.length=b.length;rotate_left
 ·have c2:decide (a=b)=false:=by simp;intro e;rw[e]at c;exact c rfl
  exact aq (A4 @iF.eq_1 @m6.eq_1 @aV c2) zz
 refine aq (A4 @iF.eq_1 @m6.eq_1 @aV c) (JJ ?_);refine ai a (λk (_:Unit)=>⟨[(0,.sl (cX a)),(1,.sl (cX b)),(12,.int .i64 b.length),(13,.int .i64 k)],[]⟩) (λk r _=>decide (r=b.drop k)=decide (a=b)) () (Nat.zero_le _) CT rfl (λk x r _ d hx hd hr=> ?_) (λk _ e hr=> ?_)
 ·obtain⟨y,hy,N1⟩:=dP b (k:=k) (by omega);rw[N1]at hr;have d2:k<b.length:=by omega
  refine aq (A5 @aV d d2 (Jl hx) (Jl hy)) (A2 (λhn=> ?_) (JJ (λhn=> ?_)))
  ·have:=Oe hr (by simpa using hn);simp[this]
  ·have e:x=y:=by first|exact hn|simpa using hn
   exact⟨(),CT,by rw[<-hr];simp[e]⟩
 ·rw[List.drop_of_length_le (by omega)]at hr;exact aq (A3 e c (Eq.symm hr)) zz
@[reducible] def oX(n:Nat):ak:=⟨.loc,1,[[.ptr n 1 0 0]]⟩
def tL(env:kc)(c:dY):Bool:=decide (lP env c.1=[c.2])
structure BI(α:Type) where
 x:α
 b:Nat
 n:Nat
 m:Nat
 v:gR
def BX{α:Type}(hp:List ak)(x:BI α):Prop:=hp[x.b]? =some (oX x.n)/\TX.is hp x.n x.m x.v
theorem auq{α}{hp}{x y:BI α}(h:BX hp x)(h':BX hp y)(hx:x.x=y.x)(hb:x.b=y.b):x=y:=by obtain⟨x1,x2,x3,x4,x5⟩:=x;obtain⟨y1,y2,y3,y4,y5⟩:=y;obtain⟨h1,h2⟩:=h;obtain⟨h3,h4⟩:=h';dsimp only at hx hb h1 h2 h3 h4;subst hx hb;have:=Option.some.inj (h1.symm.trans h3);simp only[oX,ak.mk.injEq,List.cons.injEq,DV.ptr.injEq,true_and,and_true]at this;subst this;obtain⟨rfl,rfl⟩:=aup h2 h4;rfl
noncomputable def UO:List DV->List ak->sj:=m7 (λ(x:BI dY) a hp=>a=[.agg (eD x.x),.ptr x.b 1 0 0]/\BX hp x) (λx=>(True,.bool (!tL x.v.env x.x))) λ_ hp=>hp
theorem Xw{hp}{b n m}{v:gR}(s)(i)(h:BX hp ⟨(),b,n,m,v⟩):UO [.agg [.str s,.int .i64 i],.ptr b 1 0 0] hp=⟨True,.bool (!tL v.env (s,i)),hp⟩:=by
 refine jJ (x:=(⟨(s,i),b,n,m,v⟩:BI dY)) ?_ (And.intro rfl h)
 rintro x y a hp ⟨rfl,h1⟩ ⟨h,h2⟩
 simp only[List.cons.injEq,DV.agg.injEq,DV.str.injEq,DV.int.injEq,DV.ptr.injEq,true_and,and_true]at h;exact auq h1 h2 (Prod.ext h.1.1 h.1.2) h.2
theorem ajv:g9 Tryz.prog 73 UO:=by refine g9.mkG (ps:=[(74,UN)]) (hs:=[]) ⟨aju,trivial⟩ trivial wE (λx a hp h=>by rw[h.1];rfl) (λx a hp h nq=> ?_);obtain⟨⟨s,i⟩,b,n,m,v⟩:=x;obtain⟨rfl,h0,h1,h2,h3⟩:=h;have g0:hp[b]? =some (oX n):=h0;have g1:hp[n]? =some ⟨.loc,6,[rX m v]⟩:=h1;have g2:hp[m]? =some ⟨.mp (v.env.map lQ),0,[]⟩:=h2;have e1:=abu (lP v.env s) [i];have e2:decide (lP v.env s=[i])=tL v.env (s,i):=rfl;rw[e2]at e1;simp only[cX,List.map_cons,List.map_nil]at e1;generalize tL v.env (s,i)=w at*;refine aq (A8 @nc.eq_1 g0 g1 g2 @Option.bind_some.{0,0} @pb @cX.eq_1 e1) (JJ ?_);all_goals exactλi o h=> .inl h
def ixN(env:kc)(on:List dY):Int:=match on.findIdx? λc=> !tL env c with|some k=>k|none=> -1
noncomputable def ajw:List DV->List ak->sj:=m7 (λ(x:BI (List dY)) a hp=>a=[.sl (x.x.map eD),.clo 73 [.ptr x.b 1 0 0]]/\BX hp x) (λx=>(x.x.length<=1000,.int .i64 (ixN x.v.env x.x))) λ_ hp=>hp
theorem apL{f:Nat}{hp:List ak}{x y:BI (List dY)}{a:List DV}(h:a=[.sl (x.x.map eD),.clo f [.ptr x.b 1 0 0]]/\BX hp x)(h':a=[.sl (y.x.map eD),.clo f [.ptr y.b 1 0 0]]/\BX hp y):x=y:=by obtain⟨rfl,h1⟩:=h;obtain⟨h,h2⟩:=h';simp only[List.cons.injEq,DV.sl.injEq,DV.clo.injEq,DV.ptr.injEq,true_and,and_true]at h;exact auq h1 h2 (map_inj mu _ _ h.1) h.2
theorem afU{hp}{b n m}{v:gR}(on:List dY)(h:BX hp ⟨(),b,n,m,v⟩):ajw [.sl (on.map eD),.clo 73 [.ptr b 1 0 0]] hp=⟨on.length<=1000,.int .i64 (ixN v.env on),hp⟩:=by
 refine jJ (x:=(⟨on,b,n,m,v⟩:BI (List dY))) ?_ (And.intro rfl h)
 exactλ_ _ _ _ h h'=>apL h h'
theorem ara:g9 Tryz.prog 102 ajw:=by
 refine g9.mkG (ps:=[]) (hs:=[(73,UO)]) trivial ⟨ajv,trivial⟩ mN (λx a hp h=>by rw[h.1];rfl) (λx a hp h nq=> ?_);obtain⟨on,b,n,m,v⟩:=x;obtain⟨rfl,hb⟩:=h;have h:on.length<=1000:=nq;dsimp only;refine aq @gS.eq_1 (JJ ?_);refine ai on (λk (_:Unit)=>⟨[(0,.sl (on.map eD)),(1,.clo 73 [.ptr b 1 0 0]),(7,.int .i64 on.length),(8,.int .i64 k)],hp⟩) (λk r _=>(r.findIdx? λc=> !tL v.env c).map (·+k)=on.findIdx? λc=> !tL v.env c) () trivial CT (by simp) (λk x r _ d hx hd hr=> ?_) (λk _ e hr=> ?_)
 ·rw[List.findIdx?_cons]at hr;obtain⟨s,i⟩:=x;have e1:=Xw s i hb;cases c:tL v.env (s,i)
  ·rw[c]at e1 hr;simp at hr;have e2:ixN v.env on=k:=by rw[ixN,<-hr]
   refine aq (A4 d (af eD hx) e1 e2) (JJ ?_);all_goals exactλi o h=> .inl h
  ·rw[c]at e1 hr;refine aq (A3 d (af eD hx) e1) (JJ ?_);refine⟨(),CT,?_⟩;simp at hr;rw[<-hr];congr 1;funext y;simp;omega
 ·simp only[List.findIdx?_nil,Option.map_none]at hr;have e2:ixN v.env on= -1:=by rw[ixN,<-hr]
  refine aq (A2 e e2) (JJ ?_);all_goals exactλi o h=> .inl h
theorem afV(env)(on):decide (ixN env on≥0)= !bK env on:=by
 have key:bK env on=on.all (tL env):=rfl;rw[key,ixN];cases h:on.findIdx? λc=> !tL env c with
 |none=>
  rw[List.findIdx?_eq_none_iff]at h;have:on.all (tL env)=true:=List.all_eq_true.2 λx hx=>by simpa using h x hx
  rw[this];rfl
 |some k=>
  have hk:=List.findIdx?_eq_some_iff_getElem.1 h;obtain⟨h1,h2,_⟩:=hk;have:on.all (tL env)=false:=by rw[<-Bool.not_eq_true];intro hh;have:=List.all_eq_true.1 hh _ (List.getElem_mem h1);simp[this]at h2
  rw[this];simp
noncomputable def ajx:List DV->List ak->sj:=m7 (λ(x:BI (List dY)) a hp=>a=[.sl (x.x.map eD),.clo 73 [.ptr x.b 1 0 0]]/\BX hp x) (λx=>(x.x.length<=1000,.bool (!bK x.v.env x.x))) λ_ hp=>hp
theorem afW{hp}{b n m}{v:gR}(on:List dY)(h:BX hp ⟨(),b,n,m,v⟩):ajx [.sl (on.map eD),.clo 73 [.ptr b 1 0 0]] hp=⟨on.length<=1000,.bool (!bK v.env on),hp⟩:=by
 refine jJ (x:=(⟨on,b,n,m,v⟩:BI (List dY))) ?_ (And.intro rfl h)
 exactλ_ _ _ _ h h'=>apL h h'
theorem arb:g9 Tryz.prog 72 ajx:=by
 refine g9.mkG (ps:=[]) (hs:=[(102,ajw)]) trivial ⟨ara,trivial⟩ lD (λx a hp h=>by rw[h.1];rfl) (λx a hp h nq=> ?_);obtain⟨on,b,n,m,v⟩:=x;obtain⟨rfl,hb⟩:=h;have h:on.length<=1000:=nq;dsimp only;have e1:=afU on hb;rw[eq_true h]at e1;have e2:=afV v.env on;generalize bK v.env on=w at*;generalize ixN v.env on=z at*;cases w
 ·have c:0<=z:=by simpa using e2
  refine aq (A3 @dz.eq_1 e1 c) (JJ ?_);all_goals exactλi o h=> .inl h
 ·have c:¬0<=z:=by simpa using e2
  refine aq (A3 @dz.eq_1 e1 c) (JJ ?_);all_goals exactλi o h=> .inl h
theorem Og:GK (λx:List dY=>[DV.sl (x.map eD)]):=λx y h=>by simp only[List.cons.injEq,DV.sl.injEq,and_true]at h;exact map_inj mu x y h
noncomputable def xq:=mE TX (λon:List dY=>[.sl (on.map eD)]) λv on=>(on.length<=1000,.bool (bK v.env on),v)
theorem GM{hp t:List ak}{n m:Nat}{v:gR}(k:fw hp n m)(on:List dY):xq [.ptr n 1 0 0,.sl (on.map eD)] (TX.put hp n m v++t)=⟨on.length<=1000,.bool (bK v.env on),TX.put hp n m v++t⟩:=eM fK Og _ k on
theorem St:g9 Tryz.prog 46 xq:=by refine g9.Xg (ps:=[]) (hs:=[(72,ajx)]) fK trivial ⟨arb,trivial⟩ yu (λ_=>rfl) (λ_ _ _=>rfl) λn m hp v on k h=> ?_;have h:on.length<=1000:=h;have hb:BX (TX.put hp n m v++[oX n]) ⟨(),hp.length,n,m,v⟩:=⟨rO,ij.Oc k⟩;have e1:=afW on hb;rw[eq_true h]at e1;simp only[oX]at e1;dsimp only;generalize bK v.env on=w at*;refine lJ (A2 @pg.eq_1 e1) (JJ ?_);all_goals first|exact⟨_,_,rfl,rfl⟩|(cases w<;>exact⟨_,_,rfl,rfl⟩)
noncomputable def GH:=mE TX (λon:List dY=>[.sl (on.map eD)]) λv on=>(on.length<=1000,.bool (bK v.env on),v)
theorem Uv{hp t:List ak}{n m:Nat}{v:gR}(k:fw hp n m)(on:List dY):GH [.ptr n 1 0 0,.sl (on.map eD)] (TX.put hp n m v++t)=⟨on.length<=1000,.bool (bK v.env on),TX.put hp n m v++t⟩:=eM fK Og _ k on
theorem afO:g9 Tryz.prog 50 GH:=by
 refine g9.Xg (ps:=[]) (hs:=[]) fK trivial trivial Ax (λ_=>rfl) (λ_ _ _=>rfl) λn m hp v on k h=> ?_;have h:on.length<=1000:=h;have key:∀l,bK v.env l=l.all (tL v.env):=λ_=>rfl;dsimp only;refine aq @qU.eq_1 (JJ ?_);refine ai on (λj (_:Unit)=>⟨[(0,.ptr n 1 0 0),(1,.sl (on.map eD)),(5,.int .i64 j)],TX.put hp n m v++[]⟩) (λj r _=>r.all (tL v.env)=bK v.env on) () trivial CT rfl (λj x r _ d hx hd hr=> ?_) (λj _ e hr=> ?_)
 ·rw[List.all_cons]at hr;obtain⟨s,i⟩:=x;have ga:=af eD hx;have hh:tL v.env (s,i)=decide (lP v.env s=[i]):=rfl;generalize hV:lP v.env s=V at*;match V with
  |[]=>
   rw[hh,show decide ([]=[i])=false by simp,Bool.false_and]at hr;refine lJ (A9 d ga @qO k @abp @Option.bind_some.{0,0} @pb hV (A2 @cX.eq_1 (Eq.symm hr))) (JJ ?_);all_goals exact⟨_,_,rfl,rfl⟩
  |[y]=>
   by_cases c:y=i
   ·rw[hh,show decide ([y]=[i])=true by simp[c],Bool.true_and]at hr;refine aq (A9 d ga @qO k @abp @Option.bind_some.{0,0} @pb hV (A2 @cX.eq_1 c)) (JJ ?_);all_goals exact⟨(),CT,hr⟩
   ·rw[hh,show decide ([y]=[i])=false by simp[c],Bool.false_and]at hr;refine lJ (A9 d ga @qO k @abp @Option.bind_some.{0,0} @pb hV (A2 @cX.eq_1 (Eq.symm hr))) (JJ (λhn=> ?_));all_goals first|exact absurd (by assumption) c|exact⟨_,_,rfl,rfl⟩
  |y::z::w=>
   rw[hh,show decide (y::z::w=[i])=false by simp,Bool.false_and]at hr;have hl:¬((w.length:Int)+1+1=1):=by omega
   refine lJ (A9 d ga @qO k @abp @Option.bind_some.{0,0} @pb hV (A2 @cX.eq_1 (Eq.symm hr))) (JJ (λhn=> ?_));all_goals exact⟨_,_,rfl,rfl⟩
 ·rw[List.all_nil]at hr;refine lJ (A2 e (Eq.symm hr)) (JJ ?_);all_goals exact⟨_,_,rfl,rfl⟩
section
variable {hp t g:List ak} {n m:Nat} {v:gR} {o o' x y:ak}
theorem apI:(TX.put hp n m v++(x::(g++(o::t))))[hp.length+(g.length+1)]? =some o:=by rw[List.getElem?_append_right (by simp[ij.vi])];simp only[ij.vi,Nat.add_sub_cancel_left,List.getElem?_cons_succ];exact lk
theorem ai8:(TX.put hp n m v++(x::(g++(o::t)))).set (hp.length+(g.length+1)) o'=TX.put hp n m v++(x::(g++(o'::t))):=by rw[List.set_append_right _ _ (by simp[ij.vi])];simp only[ij.vi,Nat.add_sub_cancel_left,List.set_cons_succ];rw[lp]
end
def Xx(env:kc)(al:List dY):Prop:=al.length<=1000/\∀a∈al,aG env a≠[]
theorem Xh(o)(x):cX o++[[.int .i64 x]]=cX (o++[x]):=by simp[cX]
theorem ad3:cX ([]:List Int)=[]:=rfl
noncomputable def Jx:=mE TX (λal:List dY=>[.sl (al.map eD)]) λv al=>(Xx v.env al,.sl (cX (al.map (aP v.env))),v)
theorem D9{hp t:List ak}{n m:Nat}{v:gR}(k:fw hp n m)(al:List dY):Jx [.ptr n 1 0 0,.sl (al.map eD)] (TX.put hp n m v++t)=⟨Xx v.env al,.sl (cX (al.map (aP v.env))),TX.put hp n m v++t⟩:=eM fK Og _ k al
theorem aea:g9 Tryz.prog 107 Jx:=by
 refine g9.Xg (ps:=[]) (hs:=[(104,pd)]) fK trivial ⟨GJ,trivial⟩ Ay (λ_=>rfl) (λ_ _ _=>rfl) λn m hp v al k h=> ?_;obtain⟨h1,h2⟩:=h;dsimp only at h1 h2|-;refine lJ @qV.eq_1 (JJ ?_);refine ai al (λj (x:List Int×List ak)=>⟨[(0,.ptr n 1 0 0),(5,.own hp.length x.1.length 0 x.1.length),(8,.sl (al.map eD)),(9,.int .i64 al.length),(10,.int .i64 j)],TX.put hp n m v++(⟨.aN,1,cX x.1⟩::x.2)⟩) (λj r x=>x.1++r.map (aP v.env)=al.map (aP v.env)/\x.1.length<=j) ([],[]) trivial (CF @ad3) ⟨rfl,Nat.le_refl _⟩ (λj a r x d hx hd hr=> ?_) (λj x e hr=> ?_)
 ·obtain⟨o,g⟩:=x;obtain⟨r1,r2⟩:=hr;dsimp only at r1 r2;rw[List.map_cons]at r1;have ga:=af eD hx;have ha:=h2 a (List.mem_of_getElem? hx);obtain⟨s,i⟩:=a;have e1:∀t,pd [.ptr n 1 0 0,.agg [.str s,.int .i64 i]] (TX.put hp n m v++t)=⟨True,.int .i64 (aP v.env (s,i)),TX.put hp n m v++t⟩:=λt=>by rw[Od k,eq_true ha]
  refine lJ (A9 @aV d ga e1 @rO @lh @apI @ai8 @Xh) (JJ ?_);exact⟨(o++[aP v.env (s,i)],_),CT,by simpa using r1,by simp;omega⟩
 ·obtain⟨o,g⟩:=x;obtain⟨r1,r2⟩:=hr;dsimp only at r1 r2;rw[List.map_nil,List.append_nil]at r1;rw[<-r1];refine lJ (A5 @aV @Uo e @rO @lh) (JJ ?_);all_goals exact⟨_,_,rfl,rfl⟩
noncomputable def ajy:List DV->List ak->sj:=m7 (λ(x:List Int×Nat) a hp=>a=[.sl (cX x.1)]/\x.2=hp.length) (λx=>(x.1.length<=1000000,.own x.2 x.1.length 0 x.1.length)) λx hp=>hp++[⟨.aN,1,cX x.1⟩]
theorem afX(l:List Int)(hp:List ak):ajy [.sl (cX l)] hp=⟨l.length<=1000000,.own hp.length l.length 0 l.length,hp++[⟨.aN,1,cX l⟩]⟩:=by
 refine jJ (x:=(l,hp.length)) ?_ ⟨rfl,rfl⟩
 rintro⟨x1,x2⟩ ⟨y1,y2⟩ a hp ⟨rfl,rfl⟩ ⟨h,rfl⟩
 simp only[List.cons.injEq,DV.sl.injEq,and_true]at h;rw[sH h]
theorem arc:g9 Tryz.prog 49 ajy:=by
 refine g9.anF (ps:=[]) (hs:=[]) trivial trivial lR (by rintro x a hp ⟨rfl,_⟩;rfl) ?_
 rintro⟨l,L⟩ a hp ⟨rfl,rfl⟩ hl
 simp only at hl|-;cases l with
 |nil=>(exact aq (A5 @dJ.eq_1 @Nat.add_zero @lk @lp @cX.eq_1) zz)
 |cons x r=>
  have hr:=BN (x::r);simp only[cX,List.map_cons,List.length_cons]at hr hl|-;exact aq (A3 @dJ.eq_1 @lk @lp) zz
noncomputable def ad7:List DV->Prop×DV:=bB m6 λl=>(l.length<=1000000,.sl (cX l))
def ajd(l:List Int):=show ad7 [.sl (cX l)]=_ from aH mq _ l
theorem ajc:aF Tryz.prog 49 ad7:=by
 refine aF.mo (ps:=[]) (hs:=[]) trivial trivial lR λl hl=> ?_;have hl:l.length<=1000000:=hl;cases l with
 |nil=>(exact aq (A4 @dJ.eq_1 @m6.eq_1 @Nat.add_zero @cX.eq_1) zz)
 |cons x r=>
  have hr:=BN (x::r);have ht:∀l:List (List DV),List.take l.length l=l:=λl=>List.take_length;have ht2:List.take r.length (List.map (λn:Int=>[DV.int .i64 n]) r)=List.map (λn:Int=>[DV.int .i64 n]) r:=List.take_of_length_le (by simp);simp only[m6,cX,List.map_cons,List.length_cons]at hr hl|-;exact aq (A2 @dJ.eq_1 ht2) zz
theorem qE:GK (λx:Pl=>[DV.agg (fJ x)]):=λx y h=>by injection h with h _;injection h with h;exact M4 x y h
def WW(l:jw):Prop:=∀f∈l.fs,f.ins.length<=1000000/\f.outs.length<=1000000/\f.vars.length<=1000000
def Co(v:gR):Prop:=WW v.l/\0<=v.at_/\v.at_<v.l.fs.length
theorem sZ{hp t}{n m}{v:gR}(k:fw hp n m){s}{i}(h:¬aG v.env (s,i)=[]):pd [.ptr n 1 0 0,.agg [.str s,.int .i64 i]] (TX.put hp n m v++t)=⟨True,.int .i64 (aP v.env (s,i)),TX.put hp n m v++t⟩:=by rw[Od k,eq_true (show aG v.env (s,i)≠[] from h)]
theorem BM(x:Int):cX [x]=[[.int .i64 x]]:=rfl
def GQ(env:kc)(q:Pl):List Int×Int:=
 if 0<=aP env (bg q 1)/\aP env (bg q 1)<(aG env (bg q 0)).length then
  (if q.kind=9 then [(aG env (bg q 0)).getD (aP env (bg q 1)).toNat 0]else(aG env (bg q 0)).set (aP env (bg q 1)).toNat (aP env (bg q 2)),0)
 else([],16)
def Az(env:kc)(q:Pl):DV:=if 0<=aP env (bg q 1)/\aP env (bg q 1)<(aG env (bg q 0)).length then .sl (cX (GQ env q).1)else .nil
theorem ai3(l:List Int)(k)(x):(cX l).set k [.int .i64 x]=cX (l.set k x):=by simp[cX,List.map_set]
theorem Up{l:List Int}{k}(h:k<l.length):(cX l).getD k []=[.int .i64 (l.getD k 0)]:=by simp[cX,List.getD,h]
noncomputable def UQ:=mE TX (λq:Pl=>[.agg (fJ q)]) λv q=>((q.kind=9\/q.kind=10)/\aU (ad v.l v.at_) v.env q,.cy [Az v.env q,.int .i64 (GQ v.env q).2],v)
theorem ajz:g9 Tryz.prog 108 UQ:=by
 refine g9.Xg (ps:=[]) (hs:=[(78,xo),(104,pd),(49,ajy)]) fK trivial ⟨Js,GJ,arc,trivial⟩ zQ (λ_=>rfl) (λv q k=>by dsimp only;unfold Az;split<;>rfl) λn m hp v q k h=> ?_;obtain⟨kind,names,op,args,init,node,rs,ev,en,on⟩:=q;obtain⟨hk,h⟩:=h;dsimp only at hk h|-;rcases hk with rfl|rfl
 ·simp[aU]at h;obtain⟨ha,hv,bw⟩:=h;match args,ha with
  |[a,b],_=>
  obtain⟨s1,i1⟩:=a;obtain⟨s2,i2⟩:=b;simp only[bg,List.getD_cons_zero,List.getD_cons_succ]at hv bw;have e1:∀t,pd [.ptr n 1 0 0,.agg [.str s2,.int .i64 i2]] (TX.put hp n m v++t)=⟨True,.int .i64 (aP v.env (s2,i2)),TX.put hp n m v++t⟩:=λt=>sZ k bw;have e0:∀t,xo [.ptr n 1 0 0,.agg [.str s1,.int .i64 i1]] (TX.put hp n m v++t)=⟨True,.sl (cX (aG v.env (s1,i1))),TX.put hp n m v++t⟩:=λt=>kM k s1 i1;simp only[Az,GQ,bg,List.getD_cons_zero,List.getD_cons_succ];have hv:(aG v.env (s1,i1)).length<=1000:=hv;generalize aG v.env (s1,i1)=V at*;generalize aP v.env (s2,i2)=I at*;have k9:(9:Int)=9:=rfl;by_cases c:0<=I/\I<V.length
  ·obtain⟨c1,c2⟩:=c;obtain⟨i,rfl⟩:=Int.eq_ofNat_of_zero_le c1;have c3:i<V.length:=by omega
   refine lJ (A8 @df.eq_1 @aV e0 e1 c1 c2 (Up c3) @BM) (JJ (λhn hn=> ?_));all_goals exact⟨_,_,rfl,rfl⟩
  ·by_cases c1:I<0
   ·have c2:¬0<=I:=by omega
    refine lJ (A5 @df.eq_1 e0 e1 c1 c2) (JJ ?_);all_goals exact⟨_,_,rfl,rfl⟩
   ·have c2:(V.length:Int)<=I:=by omega
    refine lJ (A7 @df.eq_1 @aV e0 e1 c c1 c2) (JJ ?_);all_goals exact⟨_,_,rfl,rfl⟩
 ·simp[aU]at h;obtain⟨ha,hv,bw,Jq⟩:=h;match args,ha with
  |[a,b,d],_=>
  obtain⟨s1,i1⟩:=a;obtain⟨s2,i2⟩:=b;obtain⟨s3,i3⟩:=d;simp only[bg,List.getD_cons_zero,List.getD_cons_succ]at hv bw Jq;have e2:∀t,pd [.ptr n 1 0 0,.agg [.str s3,.int .i64 i3]] (TX.put hp n m v++t)=⟨True,.int .i64 (aP v.env (s3,i3)),TX.put hp n m v++t⟩:=λt=>sZ k Jq;have e1:∀t,pd [.ptr n 1 0 0,.agg [.str s2,.int .i64 i2]] (TX.put hp n m v++t)=⟨True,.int .i64 (aP v.env (s2,i2)),TX.put hp n m v++t⟩:=λt=>sZ k bw;have e0:∀t,xo [.ptr n 1 0 0,.agg [.str s1,.int .i64 i1]] (TX.put hp n m v++t)=⟨True,.sl (cX (aG v.env (s1,i1))),TX.put hp n m v++t⟩:=λt=>kM k s1 i1;simp only[Az,GQ,bg,List.getD_cons_zero,List.getD_cons_succ];have hv:(aG v.env (s1,i1)).length<=1000:=hv;generalize aG v.env (s1,i1)=V at*;generalize aP v.env (s2,i2)=I at*;generalize aP v.env (s3,i3)=X at*;have k9:¬(10:Int)=9:=by decide
  by_cases c:0<=I/\I<V.length
  ·obtain⟨c1,c2⟩:=c;obtain⟨i,rfl⟩:=Int.eq_ofNat_of_zero_le c1;have c3:i<V.length:=by omega
   have ht:List.take V.length (cX (V.set i X))=cX (V.set i X):=List.take_of_length_le (by simp[cX]);refine lJ (A9 @df.eq_1 @aV e0 e1 e2 c1 c2 c3 (A7 @afX @ai3 (Up c3) ht k9 @rO @lh)) (JJ (λhn hn=> ?_));all_goals exact⟨_,_,rfl,rfl⟩
  ·by_cases c1:I<0
   ·have c2:¬0<=I:=by omega
    refine lJ (A5 @df.eq_1 e0 e1 c1 c2) (JJ ?_);all_goals exact⟨_,_,rfl,rfl⟩
   ·have c2:(V.length:Int)<=I:=by omega
    refine lJ (A7 @df.eq_1 @aV e0 e1 c c1 c2) (JJ ?_);all_goals exact⟨_,_,rfl,rfl⟩
noncomputable def Oh:=mE TX (λq:Pl=>[.agg (fJ q)]) λv q=>(Co v/\q.kind=6/\aU (ad v.l v.at_) v.env q,.sl (cX (aG v.env (bg q ((gZ (ad v.l v.at_) v.env q).toNat+1)))),v)
theorem tE{v:gR}(h:Co v):(v.l.fs.map j0).getD v.at_.toNat []=j0 (ad v.l v.at_)/\ad v.l v.at_∈v.l.fs/\v.at_.toNat<v.l.fs.length:=by
 obtain⟨_,h1,h2⟩:=h;have h3:v.at_.toNat<v.l.fs.length:=by omega
 have:v.l.fs[v.at_.toNat]? =some (ad v.l v.at_):=by simp[ad,h3]
 exact⟨af j0 this,List.mem_of_getElem? this,h3⟩
theorem afY:g9 Tryz.prog 106 Oh:=by
 refine g9.Xg (ps:=[(57,abj)]) (hs:=[(104,pd),(78,xo)]) fK ⟨Lf,trivial⟩ ⟨GJ,Js,trivial⟩ yw (λ_=>rfl) (λ_ _ _=>rfl) λn m hp v q k h=> ?_;obtain⟨kind,names,op,args,init,node,rs,ev,en,on⟩:=q;obtain⟨hv,hk,h⟩:=h;dsimp only at hk h hv|-;subst hk;simp[aU]at h;obtain⟨bw,ha,zo,z5⟩:=h;obtain⟨fg,fm,fl⟩:=tE hv;have hw:=hv.1 _ fm;have Gz:=hv.2;generalize ad v.l v.at_=f at*;match args with
 |[]=>simp at z5;omega
 |a0::r=>
 obtain⟨s0,i0⟩:=a0;have e3:=M1 f s0;rw[eq_true hw]at e3;simp only[bg,List.getD_cons_zero,List.getD_cons_succ,gZ,sG]at bw zo z5|-;have e1:∀t,pd [.ptr n 1 0 0,.agg [.str s0,.int .i64 i0]] (TX.put hp n m v++t)=⟨True,.int .i64 (aP v.env (s0,i0)),TX.put hp n m v++t⟩:=λt=>sZ k bw;generalize (fp f s0).getD vaZ=w at*;generalize (fp f s0).isSome=wb at*;generalize aP v.env (s0,i0)=I at*;obtain⟨wn,wk,we,wl,won⟩:=w;dsimp only at zo z5|-;simp only[List.length_cons]at ha z5;by_cases c:wk=2
 ·subst c;have cb:((2:Int)==2)=true:=rfl;rw[cb,if_pos rfl]at zo z5|-;generalize hJ:IntKind.i64.wrap (1-I)=J at*;obtain⟨i,rfl⟩:=Int.eq_ofNat_of_zero_le zo;have hi:i<r.length:=by omega
  have ht:List.take r.length (r.map eD)=r.map eD:=List.take_of_length_le (by simp);have hro:(∀x∈r.map eD,x.length=2)=True:=eq_true λx hx=>by obtain⟨y,_,rfl⟩:=List.mem_map.1 hx;rfl
  have hr1:(1:Int)<=((r.length+1:Nat):Int):=by omega
  obtain⟨⟨s,j⟩,hx⟩:∃x,r[i]? =some x:=⟨r[i],List.getElem?_eq_getElem hi⟩;have gx:=af eD hx;have gy:r.getD (i:Int).toNat ([],0)=(s,j):=by simp[List.getD,hx]
  rw[gy];have e0:∀t,xo [.ptr n 1 0 0,.agg [.str s,.int .i64 j]] (TX.put hp n m v++t)=⟨True,.sl (cX (aG v.env (s,j))),TX.put hp n m v++t⟩:=λt=>kM k s j;refine lJ (A9 @ke.eq_1 @qO k Gz fg e3 e1 @rO (A9 @lh hJ hi gx e0 ht hro hr1 (A3 @Int.le_refl @Option.isSome_none.{0} @Bool.false_eq_true))) (JJ ?_);all_goals exact⟨_,_,rfl,rfl⟩
 ·have cb:(wk==2)=false:=by simpa using c
  rw[cb,if_neg (by decide)]at zo z5|-;obtain⟨i,rfl⟩:=Int.eq_ofNat_of_zero_le zo;have hi:i<r.length:=by omega
  have ht:List.take r.length (r.map eD)=r.map eD:=List.take_of_length_le (by simp);have hro:(∀x∈r.map eD,x.length=2)=True:=eq_true λx hx=>by obtain⟨y,_,rfl⟩:=List.mem_map.1 hx;rfl
  have hr1:(1:Int)<=((r.length+1:Nat):Int):=by omega
  obtain⟨⟨s,j⟩,hx⟩:∃x,r[i]? =some x:=⟨r[i],List.getElem?_eq_getElem hi⟩;have gx:=af eD hx;have gy:r.getD (i:Int).toNat ([],0)=(s,j):=by simp[List.getD,hx]
  rw[gy];have e0:∀t,xo [.ptr n 1 0 0,.agg [.str s,.int .i64 j]] (TX.put hp n m v++t)=⟨True,.sl (cX (aG v.env (s,j))),TX.put hp n m v++t⟩:=λt=>kM k s j;refine lJ (A9 @ke.eq_1 @qO k Gz fg e3 e1 @rO (A9 @lh hi gx e0 ht hro hr1 @Int.le_refl (A2 @Option.isSome_none.{0} @Bool.false_eq_true))) (JJ (λhn=> ?_));all_goals exact⟨_,_,rfl,rfl⟩
theorem UR{hp t:List ak}{n m:Nat}{v:gR}(k:fw hp n m)(q:Pl):Oh [.ptr n 1 0 0,.agg (fJ q)] (TX.put hp n m v++t)=⟨Co v/\q.kind=6/\aU (ad v.l v.at_) v.env q,.sl (cX (aG v.env (bg q ((gZ (ad v.l v.at_) v.env q).toNat+1)))),TX.put hp n m v++t⟩:=eM fK qE _ k q
theorem Xy{hp t:List ak}{n m:Nat}{v:gR}(k:fw hp n m)(q:Pl):UQ [.ptr n 1 0 0,.agg (fJ q)] (TX.put hp n m v++t)=⟨(q.kind=9\/q.kind=10)/\aU (ad v.l v.at_) v.env q,.cy [Az v.env q,.int .i64 (GQ v.env q).2],TX.put hp n m v++t⟩:=eM fK qE _ k q
def vj(env:kc)(q:Pl):List Int×Int:=
 if q.kind=2 then([(Sq q.op (aP env (bg q 0))).1],(Sq q.op (aP env (bg q 0))).2)
 else([(As q.op (aP env (bg q 0)) (aP env (bg q 1))).1],(As q.op (aP env (bg q 0)) (aP env (bg q 1))).2)
noncomputable def US:=mE TX (λq:Pl=>[.agg (fJ q)]) λv q=>((q.kind=2\/q.kind=3)/\aU (ad v.l v.at_) v.env q,.cy [.sl (cX (vj v.env q).1),.int .i64 (vj v.env q).2],v)
theorem Xz{hp t}{n m}{v:gR}(k:fw hp n m)(q:Pl):US [.ptr n 1 0 0,.agg (fJ q)] (TX.put hp n m v++t)=⟨(q.kind=2\/q.kind=3)/\aU (ad v.l v.at_) v.env q,.cy [.sl (cX (vj v.env q).1),.int .i64 (vj v.env q).2],TX.put hp n m v++t⟩:=eM fK qE _ k q
theorem ajA:g9 Tryz.prog 103 US:=by
 refine g9.Xg (ps:=[(138,ai4),(139,Xi)]) (hs:=[(107,Jx)]) fK ⟨XA,UT,trivial⟩ ⟨aea,trivial⟩ wF (λ_=>rfl) (λ_ _ _=>rfl) λn m hp v q k h=> ?_;obtain⟨kind,names,op,args,init,node,rs,ev,en,on⟩:=q;obtain⟨hk,h⟩:=h;dsimp only at hk h|-;rcases hk with rfl|rfl
 ·simp[aU]at h;obtain⟨ha,bw⟩:=h;match args,ha with
  |[a],_=>
  simp only[bg,List.getD_cons_zero]at bw;have hal:Xx v.env [a]:=⟨by simp,by simpa using bw⟩;have e1:∀t,Jx [.ptr n 1 0 0,.sl [eD a]] (TX.put hp n m v++t)=⟨True,.sl [[.int .i64 (aP v.env a)]],TX.put hp n m v++t⟩:=λt=>by have:=D9 (t:=t) (v:=v) k [a];rw[eq_true hal]at this;exact this
  simp only[vj,bg,List.getD_cons_zero,if_true];generalize aP v.env a=I at*;have e2:=ad5 op I;simp only[fUn]at e2;generalize Sq op I=R at*;obtain⟨s0,i0⟩:=a;refine lJ (A4 @jj.eq_1 e1 e2 @BM) (JJ ?_);all_goals exact⟨_,_,rfl,rfl⟩
 ·simp[aU]at h;obtain⟨ha,bw,Jq,w5,ai5⟩:=h;match args,ha with
  |[a,b],_=>
  simp only[bg,List.getD_cons_zero,List.getD_cons_succ]at bw Jq w5 ai5;have hal:Xx v.env [a,b]:=⟨by simp,by simp;exact⟨bw,Jq⟩⟩;have e1:∀t,Jx [.ptr n 1 0 0,.sl [eD a,eD b]] (TX.put hp n m v++t)=⟨True,.sl [[.int .i64 (aP v.env a)],[.int .i64 (aP v.env b)]],TX.put hp n m v++t⟩:=λt=>by have:=D9 (t:=t) (v:=v) k [a,b];rw[eq_true hal]at this;exact this
  have k3:¬(3:Int)=2:=by decide
  simp only[vj,bg,List.getD_cons_zero,List.getD_cons_succ,k3,if_false];generalize aP v.env a=I at*;generalize aP v.env b=J at*;have e2:=Xj op I J;simp only[abo]at e2;rw[eq_true (⟨w5,ai5⟩:gD I/\gD J)]at e2;generalize As op I J=R at*;obtain⟨s0,i0⟩:=a;obtain⟨s1,i1⟩:=b;refine lJ (A4 @jj.eq_1 e1 e2 @BM) (JJ ?_);all_goals exact⟨_,_,rfl,rfl⟩
def iZ(f:Fl)(m:List cW)(env:kc)(q:Pl):DV:=
 if(q.kind=9\/q.kind=10)/\¬(0<=aP env (bg q 1)/\aP env (bg q 1)<(aG env (bg q 0)).length)then .nil else .sl (cX (aM f m env q).1)
noncomputable def Uy:=mE TX (λq:Pl=>[.agg (fJ q)]) λv q=>(Co v/\q.kind≠7/\0<q.names.length/\mD v.m/\aU (ad v.l v.at_) v.env q,.cy [iZ (ad v.l v.at_) v.m v.env q,.int .i64 (aM (ad v.l v.at_) v.m v.env q).2],v)
theorem Xp{hp t:List ak}{n m:Nat}{v:gR}(k:fw hp n m)(q:Pl):Uy [.ptr n 1 0 0,.agg (fJ q)] (TX.put hp n m v++t)=⟨Co v/\q.kind≠7/\0<q.names.length/\mD v.m/\aU (ad v.l v.at_) v.env q,.cy [iZ (ad v.l v.at_) v.m v.env q,.int .i64 (aM (ad v.l v.at_) v.m v.env q).2],TX.put hp n m v++t⟩:=eM fK qE _ k q
theorem dV{m}(h:mD m):ji m/\∀c∈m,c.path.length<=4503599627370496:=
 ⟨⟨by have:=h.1;omega,λc hc=>by have:=(h.2 c hc).1;omega⟩,λc hc=>by have:=(h.2 c hc).2;omega⟩
theorem ai9:g9 Tryz.prog 75 Uy:=by
 refine g9.Xg (ps:=[(105,N9)]) (hs:=[(103,US),(104,pd),(78,xo),(106,Oh),(107,Jx),(108,UQ)]) fK ⟨Oi,trivial⟩ ⟨ajA,GJ,Js,afY,aea,ajz,trivial⟩ xv (λ_=>rfl) (λv q k=>by dsimp only;unfold iZ;split<;>rfl) λn m hp v q k h=> ?_;obtain⟨kind,names,op,args,init,node,rs,ev,en,on⟩:=q;obtain⟨hV,hk7,hnm,hM,h⟩:=h;have hV':=hV;dsimp only at hk7 hnm hM h hV hV'|-;have oR:=λt=>Xz (t:=t) (v:=v) k ⟨kind,names,op,args,init,node,rs,ev,en,on⟩;have mR:=λt=>UR (t:=t) (v:=v) k ⟨kind,names,op,args,init,node,rs,ev,en,on⟩;have cR:=λt=>Xy (t:=t) (v:=v) k ⟨kind,names,op,args,init,node,rs,ev,en,on⟩;simp only[fJ]at oR mR cR;rw[eq_true hV]at mR;by_cases k2:kind=2
 ·subst k2;have hs:∀q:Pl,q.kind=2->aM (ad v.l v.at_) v.m v.env q=vj v.env q/\iZ (ad v.l v.at_) v.m v.env q= .sl (cX (vj v.env q).1):=λq hq=>by simp[aM,iZ,vj,hq]
  obtain⟨kB,z6⟩:=hs ⟨2,names,op,args,init,node,rs,ev,en,on⟩ rfl;rw[z6,kB];have kk:((2:Int)=2\/(2:Int)=3)=True:=by simp
  rw[eq_true h]at oR;generalize vj v.env ⟨2,names,op,args,init,node,rs,ev,en,on⟩=R at*;refine lJ (A2 @bc.eq_1 oR) (JJ ?_);all_goals exact⟨_,_,rfl,rfl⟩
 by_cases k3:kind=3
 ·subst k3;have hs:∀q:Pl,q.kind=3->aM (ad v.l v.at_) v.m v.env q=vj v.env q/\iZ (ad v.l v.at_) v.m v.env q= .sl (cX (vj v.env q).1):=λq hq=>by simp[aM,iZ,vj,hq]
  obtain⟨kB,z6⟩:=hs ⟨3,names,op,args,init,node,rs,ev,en,on⟩ rfl;rw[z6,kB];have kk:((3:Int)=2\/(3:Int)=3)=True:=by simp
  rw[eq_true h]at oR;generalize vj v.env ⟨3,names,op,args,init,node,rs,ev,en,on⟩=R at*;refine lJ (A2 @bc.eq_1 oR) (JJ ?_);all_goals exact⟨_,_,rfl,rfl⟩
 by_cases k4:kind=4
 ·subst k4;simp[aU]at h;obtain⟨ha,bw⟩:=h;match args,ha with
  |[a,b,c],_=>
  obtain⟨s0,i0⟩:=a;obtain⟨s1,i1⟩:=b;obtain⟨s2,i2⟩:=c;simp only[bg,List.getD_cons_zero]at bw;have e0:∀t,pd [.ptr n 1 0 0,.agg [.str s0,.int .i64 i0]] (TX.put hp n m v++t)=⟨True,.int .i64 (aP v.env (s0,i0)),TX.put hp n m v++t⟩:=λt=>sZ k bw;have e1:=λt=>kM (t:=t) (v:=v) k s1 i1;have e2:=λt=>kM (t:=t) (v:=v) k s2 i2;have kB:aM (ad v.l v.at_) v.m v.env ⟨4,names,op,[(s0,i0),(s1,i1),(s2,i2)],init,node,rs,ev,en,on⟩=(if aP v.env (s0,i0)≠0 then aG v.env (s1,i1)else aG v.env (s2,i2),0):=rfl;have z6:iZ (ad v.l v.at_) v.m v.env ⟨4,names,op,[(s0,i0),(s1,i1),(s2,i2)],init,node,rs,ev,en,on⟩= .sl (cX (if aP v.env (s0,i0)≠0 then aG v.env (s1,i1)else aG v.env (s2,i2))):=rfl;rw[z6,kB];generalize aP v.env (s0,i0)=I at*;by_cases c:I=0
  ·subst c;have z0:(0:Int)=0:=rfl;refine lJ (A3 @bc.eq_1 e0 e2) (JJ ?_);all_goals exact⟨_,_,rfl,rfl⟩
  ·refine lJ (A4 @bc.eq_1 e0 e1 c) (JJ (λhn=> ?_));all_goals first|exact absurd (by assumption) c|exact⟨_,_,rfl,rfl⟩
 by_cases k5:kind=5
 ·subst k5;match names,hnm with
  |s::ns,_=>
  have e0:=GG v.m s;rw[eq_true (dV hM).1]at e0;have kB:aM (ad v.l v.at_) v.m v.env ⟨5,s::ns,op,args,init,node,rs,ev,en,on⟩=(zL v.m s,0):=rfl;have z6:iZ (ad v.l v.at_) v.m v.env ⟨5,s::ns,op,args,init,node,rs,ev,en,on⟩= .sl (cX (zL v.m s)):=rfl;rw[z6,kB];have gs:(dI (s::ns)).getD 0 []=[.str s]:=rfl;refine lJ (A6 @bc.eq_1 @aj @qO k e0 gs) (JJ ?_);all_goals exact⟨_,_,rfl,rfl⟩
 by_cases k6:kind=6
 ·subst k6;rw[eq_true h]at mR;have kB:aM (ad v.l v.at_) v.m v.env ⟨6,names,op,args,init,node,rs,ev,en,on⟩=(aG v.env (bg ⟨6,names,op,args,init,node,rs,ev,en,on⟩ ((gZ (ad v.l v.at_) v.env ⟨6,names,op,args,init,node,rs,ev,en,on⟩).toNat+1)),0):=rfl;have z6:iZ (ad v.l v.at_) v.m v.env ⟨6,names,op,args,init,node,rs,ev,en,on⟩= .sl (cX (aG v.env (bg ⟨6,names,op,args,init,node,rs,ev,en,on⟩ ((gZ (ad v.l v.at_) v.env ⟨6,names,op,args,init,node,rs,ev,en,on⟩).toNat+1)))):=rfl;rw[z6,kB];generalize aG v.env (bg ⟨6,names,op,args,init,node,rs,ev,en,on⟩ ((gZ (ad v.l v.at_) v.env ⟨6,names,op,args,init,node,rs,ev,en,on⟩).toNat+1))=V at*;have k66:((6:Int)=6)=True:=eq_true rfl;refine lJ (A2 @bc.eq_1 mR) (JJ ?_);all_goals exact⟨_,_,rfl,rfl⟩
 by_cases k8:kind=8
 ·subst k8;simp[aU]at h;have hal:Xx v.env args:=⟨h.1,λa ha=>h.2 a.1 a.2 ha⟩;have e1:=λt=>D9 (t:=t) (v:=v) k args;rw[eq_true hal]at e1;have kB:aM (ad v.l v.at_) v.m v.env ⟨8,names,op,args,init,node,rs,ev,en,on⟩=(args.map (aP v.env),0):=rfl;have z6:iZ (ad v.l v.at_) v.m v.env ⟨8,names,op,args,init,node,rs,ev,en,on⟩= .sl (cX (args.map (aP v.env))):=rfl;rw[z6,kB];generalize args.map (aP v.env)=V at*;refine lJ (A2 @bc.eq_1 e1) (JJ ?_);all_goals exact⟨_,_,rfl,rfl⟩
 by_cases k9:kind=9
 ·subst k9;rw[eq_true h]at cR;have kB:aM (ad v.l v.at_) v.m v.env ⟨9,names,op,args,init,node,rs,ev,en,on⟩=GQ v.env ⟨9,names,op,args,init,node,rs,ev,en,on⟩:=rfl;have z6:iZ (ad v.l v.at_) v.m v.env ⟨9,names,op,args,init,node,rs,ev,en,on⟩=Az v.env ⟨9,names,op,args,init,node,rs,ev,en,on⟩:=by
   rw[Az,iZ,kB];dsimp only;by_cases c:0<=aP v.env (bg ⟨9,names,op,args,init,node,rs,ev,en,on⟩ 1)/\aP v.env (bg ⟨9,names,op,args,init,node,rs,ev,en,on⟩ 1)<(aG v.env (bg ⟨9,names,op,args,init,node,rs,ev,en,on⟩ 0)).length
   ·rw[if_pos c,if_neg (λhh=>hh.2 c)]
   ·rw[if_neg c,if_pos ⟨.inl rfl,c⟩]
  rw[z6,kB];generalize Az v.env ⟨9,names,op,args,init,node,rs,ev,en,on⟩=V at*;generalize GQ v.env ⟨9,names,op,args,init,node,rs,ev,en,on⟩=W at*;have kk:((9:Int)=9\/(9:Int)=10)=True:=by simp
  refine lJ (A2 @bc.eq_1 cR) (JJ ?_);all_goals exact⟨_,_,rfl,rfl⟩
 by_cases WD:kind=10
 ·subst WD;rw[eq_true h]at cR;have kB:aM (ad v.l v.at_) v.m v.env ⟨10,names,op,args,init,node,rs,ev,en,on⟩=GQ v.env ⟨10,names,op,args,init,node,rs,ev,en,on⟩:=rfl;have z6:iZ (ad v.l v.at_) v.m v.env ⟨10,names,op,args,init,node,rs,ev,en,on⟩=Az v.env ⟨10,names,op,args,init,node,rs,ev,en,on⟩:=by
   rw[Az,iZ,kB];dsimp only;by_cases c:0<=aP v.env (bg ⟨10,names,op,args,init,node,rs,ev,en,on⟩ 1)/\aP v.env (bg ⟨10,names,op,args,init,node,rs,ev,en,on⟩ 1)<(aG v.env (bg ⟨10,names,op,args,init,node,rs,ev,en,on⟩ 0)).length
   ·rw[if_pos c,if_neg (λhh=>hh.2 c)]
   ·rw[if_neg c,if_pos ⟨.inr rfl,c⟩]
  rw[z6,kB];generalize Az v.env ⟨10,names,op,args,init,node,rs,ev,en,on⟩=V at*;generalize GQ v.env ⟨10,names,op,args,init,node,rs,ev,en,on⟩=W at*;have kk:((10:Int)=9\/(10:Int)=10)=True:=by simp
  refine lJ (A2 @bc.eq_1 cR) (JJ ?_);all_goals exact⟨_,_,rfl,rfl⟩
 ·simp only[aU,k2,k3,k4,k5,k6,k8,k9,WD,if_false]at h;match args,h with
  |a::r,_=>
  obtain⟨s0,i0⟩:=a;have e1:=λt=>kM (t:=t) (v:=v) k s0 i0;have kB:aM (ad v.l v.at_) v.m v.env ⟨kind,names,op,(s0,i0)::r,init,node,rs,ev,en,on⟩=(aG v.env (s0,i0),0):=by simp[aM,k2,k3,k4,k5,k6,k8,k9,WD,bg]
  have z6:iZ (ad v.l v.at_) v.m v.env ⟨kind,names,op,(s0,i0)::r,init,node,rs,ev,en,on⟩= .sl (cX (aG v.env (s0,i0))):=by rw[iZ,if_neg (by simp[k9,WD]),kB]
  rw[z6,kB];refine lJ (A2 @bc.eq_1 e1) (JJ (λhn hn hn hn hn hn hn hn=> ?_));all_goals first|exact⟨_,_,rfl,rfl⟩|exact absurd (by assumption) k2|exact absurd (by assumption) k3|exact absurd (by assumption) k4|exact absurd (by assumption) k5|exact absurd (by assumption) k6|exact absurd (by assumption) k8|exact absurd (by assumption) k9|exact absurd (by assumption) WD
end Go.Proofs.YtcokmopocppmiaaGreat
