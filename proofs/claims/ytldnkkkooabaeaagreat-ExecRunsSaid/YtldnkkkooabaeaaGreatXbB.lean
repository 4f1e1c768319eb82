/- Flows as statements; their statements in blocks (25). -/
import Derived.Test.YtldnkkkooabaeaaGreatXaB
set_option maxHeartbeats 4000000
set_option linter.all false
set_option maxRecDepth 20000
namespace Go.Proofs.YtldnkkkooabaeaaGreat
noncomputable section
open Go.Nk
@[reducible] def iF(s:qg):Ab:=[.int .i64 s.kind,.int .i64 s.q.kind,.sl (cW s.q.names),.int .i64 s.q.op,.sl (s.q.args.map eD),.sl (cC s.q.init),.int .i64 s.q.node,.bool s.q.reset,.str s.q.ev,.int .i64 s.q.en,.sl (s.q.on.map eD)]
theorem II:∀x y,iF x=iF y->x=y:=by
 rintro⟨a,q⟩ ⟨a',q'⟩ h
 grind[J9,z8]
abbrev jM:qg->J:=eA iF
theorem ahI:ux jM:=A0 II
abbrev QX:List qg->J:=eL iF
theorem aaM:ux QX:=yu II
structure w6 where
 name:B3
 ins:List Va
 outs:List Va
 vars:List Va
 body:List qg
@[reducible] def jU(c:w6):Ab:=[.str c.name,.sl (c.ins.map eu),.sl (c.outs.map eu),.sl (c.vars.map eu),.sl (c.body.map iF)]
theorem anG:∀x y,jU x=jU y->x=y:=by
 rintro⟨a,b,c,d,e⟩ ⟨a',b',c',d',e'⟩ hh
 simp only[jU,DO,J.str.injEq,J.sl.injEq,Xv]at hh;obtain⟨rfl,h1,h2,h3,h4⟩:=hh;rw[map_inj oY _ _ h1,map_inj oY _ _ h2,map_inj oY _ _ h3,map_inj II _ _ h4]
abbrev Rd:w6->J:=eA jU
theorem asr:ux Rd:=A0 anG
@[reducible] def Rf(b:ZN):Ab:=[.sl (b.on.map eD),.sl (b.body.map iF)]
def alT(l:List qg):=show(∀e∈l.map iF,e.length=11)=_ from lU λx U=>by obtain⟨y,_,rfl⟩:=It.1 U;rfl
def anH(l:List qg):=show(l.map iF).take l.length=_ from vc (by simp)
def amk:Ab->Prop×J:=bJ J1 λq=>(True,.int .i64 (kS q.kind))
def aC9(q:Pl):=show amk [.agg (iK q)]=_ from aI _E _ q
theorem aaN:aJ Tryz.prog 55 amk:=by
 refine aJ.mS (ps:=[]) (I:=[]) trivial trivial aeP λq _=>?_;by_cases h5:q.kind=5
 .have:kS 5=2:=rfl;exact ao (fj @Aa.eq_1 @J1.eq_1 h5 this) zz
 by_cases h7:q.kind=7
 .have:kS 7=4:=rfl;exact ao (fj @Aa.eq_1 @J1.eq_1 h7 this) zz
 .have:kS q.kind=1:=by simp[kS,h5,h7]
  exact ao (cL @Aa.eq_1 @J1.eq_1 this) zz;all_goals first|exact absurd (by assumption) h5|exact absurd (by assumption) h7
def UX(f:Fl):w6:=⟨f.name,f.ins,f.outs,f.vars,lg f⟩
theorem kS2(q:Pl):(kS q.kind==2)=wz q:=by grind[kS,wz]
def aml:Ab->Prop×J:=bJ UC λf=>(f.eqs.length<=1000000,Rd (UX f))
theorem aex(f:Fl):aml [.agg (lf f)]=(f.eqs.length<=1000000,Rd (UX f)):=aI BT _ f
theorem aJ0:aJ Tryz.prog 26 aml:=by
 refine aJ.mS (ps:=[(55,amk)]) (I:=[]) ⟨aaN,BB⟩ trivial aaO λf h=>?_;try dsimp only at h
 have h:f.eqs.length<=1000000:=h;obtain⟨name,ins,outs,vars,eqs⟩:=f;dsimp only at h
 ((refine aM.of ?_);(repeat' (first|((with_reducible refine aM.to ?_);(repeat(simp only[↓rP,rT,rU,eA,bC,aB,au,bw,aH,jN,J.one,alive,cellsOf,setFrom,J.D1,Nat.reduceEqDiff,Nat.reduceAdd,↓reduceIte,reduceCtorEq,Nat.reduceLeDiff,Nat.reduceLT,TO,BU,Rd,UC,↓Qr]))))))
 left;refine ao (ey @BU.eq_1 @aC9 @UD.eq_1 @aDK.eq_1 @jL.eq_1 @Q0.eq_1 @Rd.eq_1 @ur.eq_1 (ey @Vz.eq_1 @ky.eq_1 @Lq.eq_1 @gX.eq_1 @tq.eq_1 @UC.eq_1 @mc.eq_1 @aDL.eq_1 (ey @mH.eq_1 @aDM.eq_1 @azG.eq_1 @aDN.eq_1 @azH.eq_1 @tT.eq_1 @eNs.eq_1 @J1.eq_1 (ey @bA.eq_1 @aDO.eq_1 @azI.eq_1 @awF.eq_1 @azJ.eq_1 @uq.eq_1 @tf.eq_1 @Ec.eq_1 (ey @jM.eq_1 @QX.eq_1 @pd.eq_1 @sQ.eq_1 @rJ.eq_1 @vX.eq_1 @Tv.eq_1 @vY.eq_1 (ey @eY.eq_1 @ak @aU @uR @sr @PV @PT @VA (tM @J_ @tg @Dl @ajN @jT @nL @Q1 @Pe.{0,0}))))))) (JJ ?_);refine aj eqs (λk (x:List qg×List qg)=>⟨[(2,.ptr 1 1 0 0),(3,.ptr 2 1 0 0),(4,.own 4 x.2.length 0 x.2.length),(18,.sl (eqs.map iK)),(19,.int .i64 eqs.length),(20,.int .i64 k)],
  [⟨.loc,5,[[.str name,.sl (ins.map eu),.sl (outs.map eu),.sl (vars.map eu),.sl (eqs.map iK)]]⟩,⟨.loc,5,[[.str [],.nil,.nil,.nil,.nil]]⟩,⟨.loc,5,[[.str name,.sl (ins.map eu),.sl (outs.map eu),.sl (vars.map eu),.own 3 x.1.length 0 x.1.length]]⟩,
    ⟨.aV,11,x.1.map iF⟩,⟨.aV,11,x.2.map iF⟩]⟩) (λk r x=>x.1++r.map qG=eqs.map qG/\x.2++(r.filter wz).map BV=(eqs.filter wz).map BV/\x.1.length<=k/\x.2.length<=k) ([],[]) (AI _) CT ⟨rfl,rfl,By _,By _⟩ (λk q r x d U Z E=>?_) (λk x e E=>?_)
 .obtain⟨a,b⟩:=x;obtain⟨r1,r2,r3,r4⟩:=E;dsimp only at r1 r2 r3 r4;rw[p0]at r1;have Y:=aC9 q;have ek:=kS2 q;have gq:=ag iK U;rw[Cw]at r2;obtain⟨kind,names,op,args,init,node,rs,ev,en,on⟩:=q;dsimp only at Y ek;cases hf:wz ⟨kind,names,op,args,init,node,rs,ev,en,on⟩
  .rw[hf,ba (by simp)]at r2;rw[hf]at ek;refine ao (fj d gq Y ek) (JJ ?_);exact⟨(a++[qG ⟨kind,names,op,args,init,node,rs,ev,en,on⟩],b),(CF (bV @IN.{0,0} @qG.eq_1)),by simp_all,r2,by simp;omega,by grind⟩
  .rw[hf,gr rfl,p0]at r2;rw[hf]at ek;refine ao (fj d gq Y ek) (JJ ?_);exact⟨(a++[qG ⟨kind,names,op,args,init,node,rs,ev,en,on⟩],b++[BV ⟨kind,names,op,args,init,node,rs,ev,en,on⟩]),(CF (cL @IN.{0,0} @qG.eq_1 @BV.eq_1)),by simp_all,by simp_all,by simp;omega,by simp;omega⟩
 .obtain⟨a,b⟩:=x;obtain⟨r1,r2,r3,r4⟩:=E;dsimp only at r1 r2 r3 r4;simp only[DD,List.filter_nil,xz]at r1 r2;have w1:=alT b;have w2:=anH b;have hb:(UX ⟨name,ins,outs,vars,eqs⟩)=⟨name,ins,outs,vars,a++b⟩:=by rw[r1,r2];rfl
  have wt:(a.map iF++b.map iF).take (a.length+b.length)=(a++b).map iF:=by grind
  rw[hb];exact ao (fj e w1 w2 wt) zz
def aeR:Ab->Prop×J:=cH pd pd λa b=>(b.length<=1000,.bool (decide (a=b)))
def ajO(a:List gT)(b:List gT):=show aeR [.sl (a.map eD),.sl (b.map eD)]=_ from aY uC uC _ a b
theorem aJ1:aJ Tryz.prog 83 aeR:=by
 refine aJ.se (ps:=[]) (I:=[]) trivial trivial aFr λa b h=>?_;try dsimp only at h
 have h:b.length<=1000:=h;by_cases c:a.length=b.length;rotate_left
 .have c2:decide (a=b)=false:=by grind
  exact ao (cL @fP.eq_1 @pd.eq_1 c2) zz
 refine ao (cL @fP.eq_1 @pd.eq_1 c) (JJ ?_);refine aj a (λk (_:Unit)=>⟨[(0,.sl (a.map eD)),(1,.sl (b.map eD)),(12,.int .i64 b.length),(13,.int .i64 k)],[]⟩) (λk r _=>decide (r=b.drop k)=decide (a=b)) () (AI _) CT rfl (λk x r _ d U Z E=>?_) (λk _ e E=>?_)
 .obtain⟨y,hy,T7⟩:=eE b (k:=k) (by omega);rw[T7]at E;have d2:k<b.length:=by omega
  have gx:=ag eD U;have gy:=ag eD hy;obtain⟨s,i⟩:=x;obtain⟨s',i'⟩:=y;have hz:(s==s'&&i==i')=decide ((s,i)=(s',i')):=by grind
  have jl:eF [2,0] [.str s,.int .i64 i] [.str s',.int .i64 i']=some (s==s'&&i==i'):=by simp only[eF,Bp];grind
  rw[hz]at jl;by_cases Y:(s,i)=(s',i')
  .rw[ON Y]at jl;have Dj:decide (r=b.drop (k+1))=decide (a=b):=by simp_all
   refine ao (jg d d2 gx gy jl @Q2.eq_def) (JJ ?_);all_goals exact⟨(),CT,Dj⟩
  .rw[Z7 Y]at jl;have this:decide (a=b)=false:=by simp_all
   exact ao (rO d d2 gx gy jl this @Q2.eq_def) zz
 .rw[Z8 (by omega)]at E;exact ao (cL e c (CD E)) zz
def anK:Ab->Prop×J:=cH jM jM λa b=>(b.q.on.length<=1000,.bool (decide (a.q.on=b.q.on)))
def anL(a:qg)(b:qg):=show anK [.agg (iF a),.agg (iF b)]=_ from aY ahI ahI _ a b
theorem aJ2:aJ Tryz.prog 53 anK:=by
 refine aJ.se (ps:=[(83,aeR)]) (I:=[]) ⟨aJ1,BB⟩ trivial aEN λa b h=>?_;try dsimp only at h
 have h:b.q.on.length<=1000:=h;have Y:=ajO a.q.on b.q.on;rw[lU h]at Y;exact ao (cL @atD.eq_1 @jM.eq_1 Y) zz
abbrev amm:Unit->J:=λ_=> .Bg 53 []
theorem aeS:ux amm:=λ_ _ _=>rfl
def Lr:Ab->List ae->o9:=λa B=>
 ⟨∃l:List qg,a=[.sl (l.map iF)]/\l≠[]/\l.length<=1000000,match a with|[.sl es]=> .own B.length es.length 0 es.length|_=> .undef,match a with|[.sl es]=>B++[⟨.aV,11,es⟩]|_=>[]⟩
theorem aDa{l:List qg}(B:List ae)(h:l≠[])(hl:l.length<=1000000):Lr [.sl (l.map iF)] B=⟨True,.own B.length l.length 0 l.length,B++[⟨.aV,11,l.map iF⟩]⟩:=by unfold Lr;simp only[Pe,o9.mk.injEq,Xv];grind
theorem aeT(B):(Lr [.sl []] B).pre=False:=by simp_all[Lr,eq_iff_iff,iff_false,DO,J.sl.injEq,Xv,List.map_eq_nil_iff]
def aeU:Ab->Prop×J:=bJ (λ_:Unit=>J.sl []) λ_=>(True,.sl [])
def ajP:=show aeU [.sl []]=_ from aI (e:=λ_:Unit=>J.sl []) (λ_ _ _=>rfl) _ ()
theorem asu:aJ Tryz.prog 84 aeU:=by refine aJ.mS (ps:=[]) (I:=[]) trivial trivial ayg λ_ _=>?_;exact ao @fR.eq_1 zz
theorem asv:ez Tryz.prog 84 Lr:=by
 refine ez.mk (ps:=[]) (I:=[]) (n:=1) trivial trivial ayg λa B h=>?_;obtain⟨l,rfl,bP,hl⟩:=h;refine⟨rfl,?_⟩;have r:=alT l;have e0:=aDa B bP hl;cases l with
 |nil=>simp_all
 |cons x l=>
  simp only[p0,IS]at r hl e0;rw[p0,e0];exact sM @fR.eq_1 zz
def aeV:Ab->Prop×J:=cH QX pd λl on=>(l.length<=1000000,.sl ((l.map (kI on)).map iF))
theorem ajQ(l:List qg)(on:List gT):aeV [.sl (l.map iF),.sl (on.map eD)]=(l.length<=1000000,.sl ((l.map (kI on)).map iF)):=aY aaM uC _ l on
theorem asw:aJ Tryz.prog 54 aeV:=by
 refine aJ.se (ps:=[(84,aeU)]) (I:=[(84,Lr)]) ⟨asu,BB⟩ ⟨asv,BB⟩ aeW λl on h=>?_;have hl:l.length<=1000000:=h;by_cases bP:l=[]
 .subst bP;have n0:=aeT [];have n1:=ajP;refine ao (fF @FP.eq_1 @QX.eq_1 @pd.eq_1 n0 n1) (JJ ?_);refine aj ([]:List qg) (λk (_:Unit)=>⟨[(1,.sl (on.map eD)),(5,.sl []),(10,.int .i64 0),(11,.int .i64 k)],[]⟩) (λ_ _ _=>True) () (AI _) CT trivial (λk x r _ d U _ _=>by simp at U) (λk _ e _=>?_);have e2:k=0:=by simpa using e
  subst e2;exact ao trivial zz
 .have n1:=aDa (l:=l) [] bP (by omega);simp only[Bz,Cd]at n1;refine ao (fj @FP.eq_1 @QX.eq_1 @pd.eq_1 n1) (JJ ?_);refine aj l (λk (_:Unit)=>⟨[(1,.sl (on.map eD)),(5,.own 0 l.length 0 l.length),(10,.int .i64 l.length),(11,.int .i64 k)],[⟨.aV,11,((l.take k).map (kI on)++l.drop k).map iF⟩]⟩) (λ_ _ _=>True) () (AI _) (CF (bV @List.drop_zero.{0} @Bz.{0})) trivial (λk x r _ d U _ _=>?_) (λk _ e _=>?_)
  .have Z:l.drop k=x::l.drop (k+1):=by simp_all[Hk,tx]
   have XI:(((l.take k).map (kI on)).map iF).length=k:=by simp;omega
   have oe:(((l.take k).map (kI on)++l.drop k).map iF).getD k []=iF x:=by simp_all
   have FJ:∀row,(((l.take k).map (kI on)++l.drop k).map iF).set k row=((l.take k).map (kI on)).map iF++row::(l.drop (k+1)).map iF:=by simp_all
   have _z:(((l.take k).map (kI on)++l.drop k).map iF).length=l.length:=by simp;omega
   have t1:l.take (k+1)=l.take k++[x]:=by grind
   have azK:∀row,row=iF (kI on x)->((l.take k).map (kI on)).map iF++row::(l.drop (k+1)).map iF=((l.take (k+1)).map (kI on)++l.drop (k+1)).map iF:=λrow E=>by simp_all
   generalize ((l.take k).map (kI on)++l.drop k).map iF=L at*;refine ao (fj d oe FJ _z) (JJ ?_);all_goals(first|refine⟨(),?_,BB⟩|refine⟨(),?_⟩|skip)
   all_goals rw[<-azK _ rfl]
   all_goals exact CT
  .have t1:l.take k=l:=vc (by omega);have t2:l.drop k=[]:=Z8 (by omega);have t3:((l.map (kI on)).map iF).take l.length=(l.map (kI on)).map iF:=vc (by simp);rw[t1,t2,xz];exact ao (bV e t3) zz
def J7:qg:=⟨0,⟨0,[],0,[],[],0,false,[],0,[]⟩⟩
def UE(l:List qg)(k:Nat):Bool:=decide (k+1=l.length)|| !(decide ((l.getD k J7).q.on=(l.getD (k+1) J7).q.on))
def pf(l:List qg):Nat->Nat->Nat->List (List qg)->List (List qg)
 |0,_,_,G=>G
 |r+1,k,fm,G=>if UE l k then pf l r (k+1) (k+1) (G++[(l.take (k+1)).drop fm])else pf l r (k+1) fm G
def BX(l:List qg):List (List qg):=pf l l.length 0 0 []
@[reducible] def VC(g:List qg):Ab:=[.sl (g.map iF)]
def amn:Ab->Prop×J:=cH QX amm λl u=>(l.length<=1000000/\∀s∈l,s.q.on.length<=1000,.sl ((BX l).map VC))
def aaP(l:List qg)(u:Unit):=show amn [.sl (l.map iF),.Bg 53 []]=_ from aY aaM aeS _ l u
theorem amo(l):∀r k fm G,G.length<=(pf l r k fm G).length/\(pf l r k fm G).length<=G.length+r
 |0,_,_,_=>⟨By _,By _⟩
 |r+1,k,fm,G=>by
  unfold pf;split
  .have:=amo l r (k+1) (k+1) (G++[(l.take (k+1)).drop fm]);grind
  .have:=amo l r (k+1) fm G;omega
theorem anM(G:List (List qg)):(G.map VC).take G.length=G.map VC:=vc (by simp)
theorem aJ3:aJ Tryz.prog 52 amn:=by
 refine aJ.se (ps:=[(53,anK)]) (I:=[]) ⟨aJ2,BB⟩ trivial aEM λl u h=>?_;try dsimp only at h
 obtain⟨hl,Ac⟩:=h;refine ao (cL @atC.eq_1 @amm.eq_1 @QX.eq_1) (JJ ?_);refine aj l (λk (x:Nat×List (List qg))=>⟨[(0,.sl (l.map iF)),(1,.Bg 53 []),(5,.own 0 x.2.length 0 x.2.length),(6,.int .i64 x.1),(9,.int .i64 l.length),(10,.int .i64 k)],[⟨.aV,1,x.2.map VC⟩]⟩)
  (λk _ x=>x.1<=k/\x.2.length<=k/\pf l (l.length-k) k x.1 x.2=BX l) (0,[]) (AI _) CT ⟨By _,By _,rfl⟩ (λk x r a d U Z E=>?_) (λk a e E=>?_)
 .obtain⟨fm,G⟩:=a;obtain⟨hf,hG,hg⟩:=E;dsimp only at hf hG hg|-;have oe:=ag iF U;have wH:l.getD k J7=x:=by simp_all
  have og:l.length-k=(l.length-(k+1))+1:=by omega
  rw[og]at hg;unfold pf at hg;have gI:((k:Int)+1)=((k+1:Nat):Int):=by omega
  have yK:((k:Int)+1).toNat=k+1:=by omega
  have sl:∀H,jq H 11 (.sl (l.map iF)) (some (.int .i64 fm)) (some (.int .i64 ((k:Int)+1))) (some (.int .i64 ((k:Int)+1)))=(True,.sl (((l.take (k+1)).drop fm).map iF)):=λH=>by rw[gI];simp only[jq,fy,Pe,OV,GC,List.map_take,List.map_drop,Ce,Xv];refine lU ⟨of_eq_true (alT l),trivial,trivial,trivial,by simp,by omega,by omega,Ch _,by omega⟩
  have stop:UE l k=true->pf l (l.length-(k+1)) (k+1) (k+1) (G++[(l.take (k+1)).drop fm])=BX l:=λhb=>by simp_all
  have go:UE l k=false->pf l (l.length-(k+1)) (k+1) fm G=BX l:=λhb=>by simp_all
  by_cases au3:k+1=l.length
  .have hb:UE l k=true:=by simp[UE,au3]
   have hle:(k:Int)+1=(l.length:Int):=by omega
   rw[hle]at sl;refine ao (cL d hle sl) (JJ ?_);all_goals exact⟨(k+1,G++[(l.take (k+1)).drop fm]),(CF (bV hle @IN.{0,0})),By _,by simp;omega,stop hb⟩
  .have FR:k+1<l.length:=by omega
   obtain⟨y,hy⟩:∃x,l[k+1]? =some x:=⟨l[k+1],by simp[FR]⟩;have au4:=ag iF hy;have hgy:l.getD (k+1) J7=y:=by simp_all
   have et:=anL x y;rw[lU (Ac y (ed hy))]at et;have V':UE l k= !(decide (x.q.on=y.q.on)):=by simp only[UE,wH,hgy];simp[au3]
   generalize decide (x.q.on=y.q.on)=w at*;have bP:¬((k:Int)+1=(l.length:Int)):=by omega
   cases w
   .refine ao (jg d yK oe au4 et sl) (JJ (λhn=>?_));all_goals exact⟨(k+1,G++[(l.take (k+1)).drop fm]),(CF @IN.{0,0}),By _,by simp;omega,stop V'⟩
   .refine ao (fF d yK oe au4 et) (JJ (λhn=>?_));all_goals exact⟨(fm,G),CT,by omega,by grind,go V'⟩
 .obtain⟨fm,G⟩:=a;obtain⟨hf,hG,hg⟩:=E;dsimp only at hf hG hg|-;rw[show l.length-k=0 by omega]at hg;have hg:G=BX l:=hg;rw[<-hg];exact ao (bV e @anM) zz
theorem amp(l:List qg):∀r k fm G,k+r=l.length->fm<=k->(∀g∈G,g≠[]/\g.length<=l.length)->∀g∈pf l r k fm G,g≠[]/\g.length<=l.length
 |0,_,_,_,_,_,h=>h
 |r+1,k,fm,G,hk,hf,h=>by
  unfold pf;split
  .refine amp l r (k+1) (k+1) _ (by omega) (By _) λg hg=>?_;grind
  .exact amp l r (k+1) fm G (by omega) (by omega) h
def wM(g:List qg):ZN:=⟨(g.headD J7).q.on,g.map (kI [])⟩
theorem anN(G)(b:ZN)(s:qg)(h:b.on=s.q.on):Uz (G++[b]) s=G++[⟨b.on,b.body++[kI [] s]⟩]:=by simp_all[Uz,List.getLast?_append,List.getLast?_singleton]
theorem asx(G:List ZN)(s:qg)(h:∀b,G.getLast? =some b->b.on≠s.q.on):Uz G s=G++[⟨s.q.on,[kI [] s]⟩]:=by grind[Uz,List.getLast?_eq_none_iff]
theorem amq(l:List qg):∀r k fm G,k+r=l.length->fm<=k->
 (fm<k->k<l.length/\(l.getD fm J7).q.on=(l.getD k J7).q.on)->
 (fm=k->k<l.length->∀b,(G.map wM).getLast? =some b->b.on≠(l.getD k J7).q.on)->
 (pf l r k fm G).map wM=(l.drop k).foldl Uz ((G++if fm<k then [(l.take k).drop fm]else []).map wM)
 |0,k,fm,G,hk,hf,h1,_=>by simp_all[ba,Z8,pf]
 |r+1,k,fm,G,hk,hf,h1,h2=>by
  have mP:k<l.length:=by omega
  obtain⟨x,U⟩:∃x,l[k]? =some x:=⟨l[k],by simp[mP]⟩;have wH:l.getD k J7=x:=by simp_all
  have Z:l.drop k=x::l.drop (k+1):=by simp_all[Hk,tx]
  have t1:l.take (k+1)=l.take k++[x]:=by grind
  have ht:(l.take (k+1)).drop fm=(l.take k).drop fm++[x]:=by grind
  have Ac:(l.getD fm J7).q.on=x.q.on:=by grind
  have aGx:∀n,((l.take (n+1)).drop fm).headD J7=l.getD fm J7\/n<fm:=λn=>by
   rcases GK n fm with h|h
   .exact .inr h
   .left;have PH:fm<(l.take (n+1)).length\/l.length<=fm:=by simp;omega
    grind[Hk,List.getD,tx]
  have SQ:∀n,fm<=n->(wM ((l.take (n+1)).drop fm)).on=x.q.on:=λn hn=>by grind[wM]
  have step:Uz ((G++if fm<k then [(l.take k).drop fm]else []).map wM) x=(G++[(l.take (k+1)).drop fm]).map wM:=by
   rcases GK fm k with h|h
   .rw[gr h,IN,IN,List.map_singleton,List.map_singleton];have e:k=(k-1)+1:=by omega
    grind[wM,anN,IN,p0,DD]
   .have hfk:fm=k:=by omega
    rw[ba (by omega),xz,asx _ _ (λb hb=>by simp_all),IN];simp_all[Z8,wM,Bz,p0,DD,List.headD_cons]
  unfold pf;rw[Z,S2,step];cases hb:UE l k with
  |true=>
   rw[gr rfl,amq l r (k+1) (k+1) _ (by omega) (By _) (λh=>absurd h (Nat.lt_irrefl _)) ?_,ba (Nat.lt_irrefl _),xz];intro _ gI b Ki;rw[IN,List.map_singleton,List.getLast?_append,List.getLast?_singleton]at Ki;simp only[GB,Option.some_or]at Ki;subst Ki;rw[SQ k (by omega)];simp only[UE,CJ,ir,aaa,wH,Of]at hb;grind
  |false=>
   rw[ba (by simp),amq l r (k+1) fm G (by omega) (by omega) ?_ (λh=>by omega),gr (by omega)];intro _;simp only[UE,J8,Of,FU,wH,ir]at hb;grind
theorem anO(l):(BX l).map wM=qy l:=by simp_all[amq,By,absurd,Nat.lt_irrefl,qy,BX]
def anP(G:List ZN):=show(G.map Rf).take G.length=_ from vc (by simp)
def amr:Ab->Prop×J:=bJ Rd λc=>(c.body.length<=1000000/\∀s∈c.body,s.q.on.length<=1000,.sl ((qy c.body).map Rf))
theorem aai(c:w6):amr [.agg (jU c)]=(c.body.length<=1000000/\∀s∈c.body,s.q.on.length<=1000,.sl ((qy c.body).map Rf)):=aI asr _ c
theorem aJ4:aJ Tryz.prog 25 amr:=by
 refine aJ.mS (ps:=[(52,amn),(54,aeV)]) (I:=[]) ⟨aJ3,asw,BB⟩ trivial aEo λc h=>?_;have h:c.body.length<=1000000/\∀s∈c.body,s.q.on.length<=1000:=h;have aDb:=aaP c.body ();rw[lU h]at aDb;have hb:c.body.length<=1000000:=h.1;have gl:(BX c.body).length<=1000000:=by have:=amo c.body c.body.length 0 0 [];simp at this;unfold BX;omega
 have gok:∀g∈BX c.body,g≠[]/\g.length<=c.body.length:=amp c.body _ 0 0 [] (by omega) (By _) (by simp);have Ee:=anO c.body;obtain⟨name,ins,outs,vars,body⟩:=c;dsimp only at*;rw[<-Ee];clear Ee;generalize BX body=G at*;refine ao (cL @atr.eq_1 @Rd.eq_1 aDb) (JJ ?_);refine aj G (λk (o:List ZN)=>⟨[(3,.own 1 o.length 0 o.length),(8,.sl (G.map VC)),(9,.int .i64 G.length),(10,.int .i64 k)],[⟨.loc,5,[[.str name,.sl (ins.map eu),.sl (outs.map eu),.sl (vars.map eu),.sl (body.map iF)]]⟩,⟨.aV,2,o.map Rf⟩]⟩) (λk r o=>o++r.map wM=G.map wM/\o.length<=k) [] (AI _) CT ⟨rfl,By _⟩ (λk g r o d U Z E=>?_) (λk o e E=>?_)
 .obtain⟨r1,r2⟩:=E;rw[p0]at r1;have oe:=ag VC U;obtain⟨g1,g2⟩:=gok g (ed U);have eb:=ajQ g [];rw[lU (show g.length<=1000000 by omega)]at eb;simp only[DD]at eb;cases g with
  |nil=>simp_all
  |cons s g=>
   simp only[p0]at eb;refine ao (cL d oe eb) (JJ ?_);all_goals exact⟨o++[wM (s::g)],(CF (cL @IN.{0,0} @wM.eq_1 @List.headD_cons.{0})),by simp_all,by simp;omega⟩
 .obtain⟨r1,r2⟩:=E;rw[DD,xz]at r1;rw[<-r1];exact ao (bV e @anP) zz
end
end Go.Proofs.YtldnkkkooabaeaaGreat
