/- Every operation does what the data level says. -/
import Derived.Test.YtldnkkkooabaeaaGreatNkN
import Derived.Laws.LoneSync
set_option linter.all false
namespace Go.Nk
open Go.RowKit
section
variable {P:Program} {K F F':Nat->Prop} {σ Be:Nat->BI} {B cU:List ae} {w w':World} {R:List (Nat×J)} {a:Act} {o:Oper} {C:dJ}
theorem DH{xs:Array Operand}{y:DA}(h:fY xs.toList [y]=true):∃x,xs= #[x]/\cK x y=true:=by
 obtain⟨l⟩:=xs;match l,h with
 |[x],h=>exact⟨x,rfl,by simpa[fY]using h⟩
 |[],h=>simp[fY]at h
 |_::_::_,h=>simp[fY]at h
theorem uX{xs:Array Operand}{y z:DA}(h:fY xs.toList [y,z]=true):∃x u,xs= #[x,u]/\cK x y=true/\cK u z=true:=by
 obtain⟨l⟩:=xs;match l,h with
 |[x,u],h=>exact⟨x,u,rfl,by simpa[fY]using h⟩
 |[],h=>simp[fY]at h
 |[_],h=>simp[fY]at h
 |_::_::_::_,h=>simp[fY]at h
theorem AM{α:Type}{ts:Array α}{t:α}(h:ts.toList=[t]):ts= #[t]:=by grind
theorem HE{α:Type}{ts:Array α}{t u:α}(h:ts.toList=[t,u]):ts= #[t,u]:=by grind
theorem zF{h L i j:Nat}{v:Value}(hv:aC F σ B w (.ptr h L i j) v)(ha:alive B h L):∃ob g,B[h]? =some ob/\ob.k≠ .dead/\ob.es.length=L/\σ h=some g/\v= .pointer (some ⟨g,i*ob.z+j,none⟩):=by obtain⟨hl,eX⟩:=hv.DE;unfold alive at ha;simp_all
theorem apL{h L i j:Nat}{ob:ae}{g:Nat}(eX:B[h]? =some ob)(hL:ob.es.length=L)(hg:σ h=some g)(k:Nat):aC F σ B w (.ptr h L i (j+k)) (.pointer (some ⟨g,i*ob.z+j+k,none⟩)):=by refine .ptr _ _ _ _ _ rfl (er eX) λo ho=>?_;grind
theorem aiL{f:FuncId}{xs:Array Operand}{ts:Array TypeId}{v:Value}(ho:o.op= .call {callee:= .value (.func f),args:=xs,argTypes:=ts})(h:(callFunc f (xs.map a.eval)).run P w= .ok (.value v) w'):
 (execOp a.eval o).run P w= .ok (.value v) w':=by
 have U:a.eval (.func f)= .func (.func f) #[] #[]:=rfl;simp only[execOp,ho,resolve,U,Deferred.ofValue,Sem.run_bind,Sem.run_pure,Result.andThen_ok,invoke,Array.empty_append,Array.append_empty];exact h
theorem avS {x : At} {k : IntKind} {f : FuncId} (h : Ow P f x k = true) : ∃ fn n,P.funcs[f]? = some fn /\ Zm x k = some n /\ fn.name = n /\ fn.origin = "" /\ fn.body.isNone = true := by unfold Ow at h;grind
theorem DI {fn : Func} {n : String} (h1 : fn.name = n) (h2 : fn.origin = "") (hn : Extern.allNextRows.lookup n = none) : Extern.findNext fn = none := by
 have h3 : Extern.allNextRows.lookup "" = none := by kernel_rfl
 simp[Extern.findNext,h1,h2,hn,h3]
theorem DJ{fn:Func}{n:String}{e:Array Value->Sem Value}(h1:fn.name=n)(hg:Extern.allGenericRows.lookup n=none)(ht:Extern.allTypedRows.lookup n=none)(ha:Extern.allRows.lookup n=some e):Extern.find fn=some e:=by simp[Extern.find,h1,hg,ht,ha]
theorem at5{k:IntKind}{f:FuncId}(h:Ow P f .load k=true){p:Addr}{x:Int}(hc:w.cell? p=some (.int k x)):(callFunc f #[.pointer (some p)]).run P w= .ok (.value (.int k x)) w:=by
 obtain⟨fn,n,h1,h2,h3,h4,h5⟩:=avS h;cases k<;>simp only[Zm,GB,reduceCtorEq]at h2<;>subst h2
 .exact run_call_load h1 (by simp_all) h5 (DI h3 h4 (by kernel_rfl)) .i64 (DJ h3 (by kernel_rfl) (by kernel_rfl) (by kernel_rfl)) hc
 .exact run_call_load h1 (by simp_all) h5 (DI h3 h4 (by kernel_rfl)) .u32 (DJ h3 (by kernel_rfl) (by kernel_rfl) (by kernel_rfl)) hc
theorem axX{k:IntKind}{f:FuncId}(h:Ow P f .add k=true){p:Addr}{x y:Int}(hc:w.cell? p=some (.int k x))(hz:w.frozen? p=false):(callFunc f #[.pointer (some p),.int k y]).run P w= .ok (.value (.int k (k.wrap (x+y)))) (w.setCell p (.int k (k.wrap (x+y)))):=by
 obtain⟨fn,n,h1,h2,h3,h4,h5⟩:=avS h;cases k<;>simp only[Zm,GB,reduceCtorEq]at h2<;>subst h2
 .exact run_call_add h1 (by simp_all) h5 (DI h3 h4 (by kernel_rfl)) .i32 (DJ h3 (by kernel_rfl) (by kernel_rfl) (by kernel_rfl)) hc hz rfl
 .exact run_call_add h1 (by simp_all) h5 (DI h3 h4 (by kernel_rfl)) .i64 (DJ h3 (by kernel_rfl) (by kernel_rfl) (by kernel_rfl)) hc hz rfl
theorem adf [Inhabited Env](I:bH K F σ B w){d:J}{v:Value}(hv:aC F σ B w d v){r:Prop}{k:IntKind}{n:Int}(h:bw none (aH B d)=(r,.int k n))(E:r):∃p,v= .pointer (some p)/\w.cell? p=some (.int k n):=by
 simp only[bw,Ce]at h;obtain⟨h1,h2⟩:=h;rw[<-h1]at E;obtain⟨b,rfl,hb,hc⟩:=CU I hv E.1;have h0:(aH B d).2[0]? =some (.int k n):=by simp_all
 obtain⟨u,hu,tO⟩:=hc 0 _ h0;have:=tO.gE;subst this;obtain⟨bb,bo,bs⟩:=b;simp_all
theorem axY [Inhabited Env](I:bH K F σ B w){d e:J}{v u:Value}{dr:J}{vr:Value}(hv:aC F σ B w d v)(h:(VH B d e).pre)
 (he:∀(F:Nat->Prop) (σ:Nat->BI) (B:List ae) (w:World),aC F σ B w e u) (E:∀(F:Nat->Prop) (σ:Nat->BI) (B:List ae) (w:World),aC F σ B w dr vr):
 ∃p,v= .pointer (some p)/\(∃u,w.cell? p=some u)/\w.frozen? p=false/\dM K F σ B w dr (VH B d e).B vr (w.setCell p u):=by
 unfold VH at h|-;cases d<;>simp only[no]at h|- <;>try exact h.elim
 rename_i h' L i j;cases eX:B[h']? with
 |none=>simp_all
 |some ob=>
  simp only[eX]at h|-;obtain⟨hk,hL,hi,hj⟩:=h;obtain⟨Pc,g,h1,h2,h3,hg,Y⟩:=zF hv (by simp_all[alive]);rw[eX]at h1;injection h1 with h1;subst h1;rw[<-hL]at hi;obtain⟨q1,q2,q3⟩:=aBs I eX hk hg hi hj he E;simp_all
theorem at6 [Inhabited Env]{f:FuncId}{xs:Array Operand}{ts:Array TypeId}{x1:Operand}{p:DA}{k:IntKind}(I:bH K F σ B w)(ho:o.op= .call {callee:= .value (.func f),args:=xs,argTypes:=ts})(wy:xs= #[x1])(h1:Ow P f .load k=true)
 (hv:aC F σ B w (p.ev R) (a.eval x1)) (h:(au C (.SP k f p) ⟨R,B⟩).pre):KC P o a w (λv w'=>dM K F σ B w (au C (.SP k f p) ⟨R,B⟩).val (au C (.SP k f p) ⟨R,B⟩).B v w'):=by
 simp only[au]at h|-;split at h
 next r k' n e=>obtain⟨E,rfl⟩:=h;simp only[e];obtain⟨q,Y,e2⟩:=adf I hv e E;subst wy;exact bB ⟨_,w,aiL ho (by simpa[Y]using at5 h1 e2),dM.same I (.aV (.int _ _))⟩
 .exact h.elim
theorem axZ [Inhabited Env]{f:FuncId}{xs:Array Operand}{ts:Array TypeId}{x1 x2:Operand}{p v:DA}{k:IntKind}(I:bH K F σ B w)(ho:o.op= .call {callee:= .value (.func f),args:=xs,argTypes:=ts})(wy:xs= #[x1,x2])(h1:Ow P f .add k=true)
 (lO:aC F σ B w (p.ev R) (a.eval x1)) (Fc:aC F σ B w (v.ev R) (a.eval x2)) (h:(au C (.SA k f p v) ⟨R,B⟩).pre):KC P o a w (λu w'=>dM K F σ B w (au C (.SA k f p v) ⟨R,B⟩).val (au C (.SA k f p v) ⟨R,B⟩).B u w'):=by
 simp only[au]at h|-;split at h
 next r k1 x k2 y e e'=>obtain⟨E,Dj,rfl,rfl⟩:=h;simp only[e,e']at Fc|-;have e2:=Fc.gE;obtain⟨q',e3,e4⟩:=adf I lO e E;obtain⟨q,Y,⟨u,hu⟩,hz,hg⟩:=axY (K:=K) (u:= .int k2 (k2.wrap (x+y))) (dr:= .int k2 (k2.wrap (x+y))) (vr:= .int k2 (k2.wrap (x+y))) I lO Dj (λ_ _ _ _=> .aV (.int _ _)) (λ_ _ _ _=> .aV (.int _ _));grind[bB,aiL,axX]
 .exact h.elim
def Sound [Inhabited Env](P:Program)(K F:Nat->Prop)(σ:Nat->BI)(B:List ae)(w:World)(R:List (Nat×J))(a:Act)(C:dJ)(o:Oper)(d:aT):Prop:=
 (au C d ⟨R,B⟩).pre->KC P o a w (λv w'=>dM K F σ B w (au C d ⟨R,B⟩).val (au C d ⟨R,B⟩).B v w')
theorem aC.VR{d:J}{v:Value}(hb:d.bl=true)(h:aC F σ B w d v):cB F w d v:=by cases h<;>first|assumption|(simp[J.bl]at hb)
theorem apM{eZ:List ae}{k:Nat}{ob:ae}{d:J}{v:Value}(h1:B[k]? =some ob)(h2:eZ[k]? =some ob)(hb:Zn k d=true)(h:aC F σ B w d v):aC F σ eZ w d v:=by
 unfold Zn at hb;rw[CJ]at hb;rcases hb with hb|hb
 .exact .aV (h.VR hb)
 .split at hb
  .rename_i h' L i j;have e:h'=k:=by simp_all
   subst e;cases h with
   |aV h=>exact .aV h
   |ptr _ _ _ _ _ q1 q2 q3=>
    exact .ptr _ _ _ _ _ q1 (pc.1 h2).1 λo ho=>q3 o (by simp_all)
  .cases hb
theorem apN{eZ:List ae}{k:Nat}{ob:ae}{d:J}{v:Value}(h1:B[k]? =some ob)(h2:eZ[k]? =some ob)(hb:Zo k d=true)(h:aC F σ B w d v):aC F σ eZ w d v:=by
 unfold Zo at hb;rw[CJ]at hb;rcases hb with hb|hb
 .exact apM h1 h2 hb h
 .split at hb
  .rename_i cs;cases h with
   |aV h=>exact .aV h
   |agg _ vs hl vv hv E=>exact .agg _ vs hl vv hv λj d Z=>apM h1 h2 (BE.1 hb d (ed Z)) (E j d Z)
  .cases hb
theorem adg{eZ:List ae}{k:Nat}{ob:ae}{d:J}{v:Value}(h1:B[k]? =some ob)(h2:eZ[k]? =some ob)(hb:kq k d=true)(h:aC F σ B w d v):aC F σ eZ w d v:=by
 unfold kq at hb;rw[CJ]at hb;rcases hb with hb|hb
 .exact apN h1 h2 hb h
 .split at hb
  .rename_i f cs;cases h with
   |aV h=>exact .aV h
   |BD _ _ vs hl vv hv E=>exact .BD _ _ vs hl vv hv λj d Z=>apN h1 h2 (BE.1 hb d (ed Z)) (E j d Z)
  .cases hb
theorem aqt{DT:Nat->BI}{eZ:List ae}{d:J}{v:Value}(hb:kx d=true)(h:aC F σ B w d v):aC F DT eZ w d v:=by
 unfold kx at hb;rw[CJ]at hb;rcases hb with hb|hb
 .exact .aV (h.VR hb)
 .split at hb
  .rename_i cs;cases h with
   |aV h=>exact .aV h
   |agg _ vs hl vv hv E=>exact .agg _ vs hl vv hv λj d Z=> .aV ((E j d Z).VR (BE.1 hb d (ed Z)))
  .cases hb
def SS(K:Nat->Prop)(σ:Nat->BI)(B:List ae)(k b:Nat):Prop:=K b\/∃(h:Nat) (o:ae),B[h]? =some o/\h≠k/\o.k.mut/\σ h=some b
theorem adh [Inhabited Env](I:bH K F σ B w){k:Nat}{ob:ae}(eX:B[k]? =some ob)(hk:ob.k= .loc)(So:∀r∈ob.es,∀d∈r,d.bl=true):
 bH (SS K σ B k) F σ (List.replicate k ⟨.dead,0,[]⟩++[ob]) w:=by
 have sK:∀h:Nat,∀o':ae,(List.replicate k (⟨.dead,0,[]⟩:ae)++[ob])[h]? =some o'->(h<k/\o'=⟨.dead,0,[]⟩)\/(h=k/\o'=ob):=by grind
 refine⟨λh o' jP=>?_,λk1 k2 o1 o2 g Y m1 e2 m2 s1 s2=>?_,I.fb,λb hb=>?_,I.nH⟩
 .rcases sK h o' jP with⟨_,rfl⟩|⟨rfl,rfl⟩
  .unfold gv;trivial
  .have old:=I.obj _ _ eX;unfold gv at old|-;rw[hk]at old|-;dsimp only at old|-;obtain⟨g,hg,nF,nK,c,ty,hh,Ur,uY,DG⟩:=old;refine⟨g,hg,nF,λhO=>?_,c,ty,hh,Ur,uY,λi j d Z=>?_⟩
   .rcases hO with hO|⟨h',o2,q1,q2,q3,q4⟩
    .exact nK hO
    .exact q2 (I.inj h' h o2 o' g q1 q3 eX (mG hk) q4 hg)
   .obtain⟨u,hu,E⟩:=DG i j d Z;refine⟨u,hu,.aV (E.VR ?_)⟩;unfold cellAt at Z;cases hq:o'.es[i]? with
    |none=>simp_all
    |some row=>
     simp[hq]at Z;exact So row (ed hq) d (ed Z)
 .rcases sK k1 o1 Y with⟨_,rfl⟩|⟨rfl,rfl⟩
  .rcases m1 with m1|m1|⟨_,m1⟩<;>cases m1
  .rcases sK k2 o2 e2 with⟨_,rfl⟩|⟨rfl,rfl⟩
   .rcases m2 with m2|m2|⟨_,m2⟩<;>cases m2
   .rfl
 .rcases hb with hb|⟨h',o2,q1,_,q3,q4⟩
  .exact I.kb b hb
  .exact I.yj q1 (Td q3) q4
theorem aqu [Inhabited Env](I:bH K F σ B w){k:Nat}{ob o':ae}{val:J}{JE:List ae}{v:Value}(eX:B[k]? =some ob)(hk:ob.k= .loc)
 (jP:JE[k]? =some o') (Ih:o'.k= .loc) (hlen:o'.es.length=ob.es.length) (So:∀r∈o'.es,∀d∈r,d.bl=true) (hv:kx val=true)
 (hg:dM (SS K σ B k) F σ (List.replicate k ⟨.dead,0,[]⟩++[ob]) w val JE v w'):dM K F σ B w val (B.set k o') v w':=by
 obtain⟨F',Be,h1,h2,h3,h4⟩:=hg;have mP:=er eX;have SZ:(List.replicate k (⟨.dead,0,[]⟩:ae)++[ob])[k]? =some ob:=by simp_all
 obtain⟨o2,q1,_,q3⟩:=h3.ob k ob SZ;rw[jP]at q1;injection q1 with q1;subst q1;obtain⟨_,hz,m8,aFv⟩:=q3 (by simp_all) hlen;have xG:∀(h:Nat) (o2:ae) (g:Nat),h≠k->B[h]? =some o2->o2.k≠ .dead->σ h=some g->w'.heap[g]? =w.heap[g]? /\(F' g->F g):=by
  intro h o2 g bP xT Z hg;have Sp:o2.k.mut->w'.heap[g]? =w.heap[g]? /\(F' g->F g):=λhm=>by have hO:SS K σ B k g:= .inr ⟨h,o2,xT,bP,hm,hg⟩;exact⟨h2.sa g hO,λhF=>(h2.new g hF).elim id λhn=>absurd hO hn⟩
  have old:=I.obj h o2 xT;unfold gv at old;split at old
  .simp_all
  .exact Sp (.inl (by assumption))
  .rcases old with⟨_,h0⟩|⟨g2,Y,e2,_⟩
   .simp_all
   .rw[hg]at Y;injection Y with Y;subst Y;exact⟨h2.ck g e2,λ_=>e2⟩
  .exact Sp (mG (by assumption))
  .exact Sp (.inr (.inr ⟨_,by assumption⟩))
 have sK:∀h:Nat,(B.set k o')[h]? =if h=k then some o' else B[h]? :=by grind
 have hm:HM F σ B w F' σ (B.set k o') w':=by
  refine⟨h3.mono,h3.ck,by simp,λh o2 xT=>?_⟩;rw[sK];by_cases e:h=k
  .simp_all
  .rw[ba e];exact⟨o2,xT,By _,λZ _=>⟨Z,rfl,rfl,λg hg=>Tb (xG h o2 g e xT Z hg).1⟩⟩
 refine⟨F',σ,⟨λh o2 xT=>?_,λk1 k2 o1 o2 g Y m1 e2 m2 s1 s2=>?_,h1.fb,λb hb=>Ef (I.kb b hb) h2.size,h1.nH⟩,
  ⟨h2.os,h2.tape,h2.output,h2.size,λb hb=>h2.sa b (.inl hb),h2.ck,h2.mono,λb hb=>(h2.new b hb).imp id λhn hK=>hn (.inl hK)⟩,hm,aqt hv h4⟩
 .rw[sK]at xT;by_cases e:h=k
  .rw[gr e]at xT;injection xT with xT;subst xT;subst e;have new:=h1.obj _ _ jP;unfold gv at new|-;rw[Ih]at new|-;dsimp only at new|-;obtain⟨g,hg,nF,nK,c,ty,hh,Ur,uY,DG⟩:=new;rw[m8]at hg;refine⟨g,hg,nF,λhK=>nK (.inl hK),c,ty,hh,Ur,uY,λi j d Z=>?_⟩;obtain⟨u,hu,E⟩:=DG i j d Z;refine⟨u,hu,.aV (E.VR ?_)⟩;unfold cellAt at Z;cases hq:o'.es[i]? with
   |none=>simp_all
   |some row=>
    simp[hq]at Z;exact So row (ed hq) d (ed Z)
  .rw[ba e]at xT;have old:=I.obj _ _ xT;unfold gv at old|-;split
   .trivial
   .rename_i nC;rw[nC]at old;dsimp only at old;rcases old with h0|⟨g,Y,e2,e3,e4⟩
    .exact .inl h0
    .obtain⟨k1,k2⟩:=xG h o2 g e xT (by simp_all) Y;exact .inr ⟨g,Y,λhF=>e2 (k2 hF),e3,e4.mono k1 λd v E=>⟨E.1.mono hm.mono hm.ck,E.2⟩⟩
   .rename_i nC;rw[nC]at old;dsimp only at old;rcases old with h0|⟨g,Y,e2,e4⟩
    .exact .inl h0
    .obtain⟨k1,_⟩:=xG h o2 g e xT (by simp_all) Y;exact .inr ⟨g,Y,h2.mono g e2,e4.mono k1 λd v E=>⟨E.1.mono hm.mono hm.ck,E.2⟩⟩
   next nC=>rw[nC]at old;dsimp only at old;obtain⟨g,Y,e2,e3,e4⟩:=old;obtain⟨k1,k2⟩:=xG h o2 g e xT (by simp_all) Y;exact⟨g,Y,λhF=>e2 (k2 hF),e3,e4.mono k1 λd v E=>E.mono hm⟩
   next nC=>rw[nC]at old;dsimp only at old;obtain⟨xk,g,Y,e2,e3,e4⟩:=old;obtain⟨k1,k2⟩:=xG h o2 g e xT (by simp_all) Y;exact⟨xk,g,Y,λhF=>e2 (k2 hF),e3,e4.mono k1 λd v E=>⟨E.1.mono hm.mono hm.ck,E.2⟩⟩
 .have VS:∀(h:Nat) (o2:ae),(B.set k o')[h]? =some o2->o2.k.mut->∃o3,B[h]? =some o3/\o3.k.mut:=λh o2 e m=>by rw[sK]at e;grind
  obtain⟨p1,r1,t1⟩:=VS k1 o1 Y m1;obtain⟨p2,r2,t2⟩:=VS k2 o2 e2 m2;exact I.inj k1 k2 p1 p2 g r1 t1 r2 t2 s1 s2
theorem aua{DT:Nat->BI}{eZ:List ae}{n off:Nat}{ob:ae}{v:Value}(h:aC F σ B w (.own n 0 off 0) v)(ho:B[n]? =some ob)(hk:ob.k= .aV)(hL:ob.es.length=0):aC F DT eZ w (.sl []) v:=by obtain⟨A,cap,rfl,hc,_⟩:=(h.sX.2 ob ho).2 (by rw[hk];simp) hL;exact .aV (.sl [] A 0 cap ⟨0,0,none⟩ 0 (λ_ _=> .bool false) rfl hc (λh=>absurd rfl h) (by simp) (by simp[cellAt]) (by simp[cellAt]))
theorem aub [Inhabited Env](I:bH K F σ B w){k h n L off len:Nat}{ob o' od obj:ae}{JE:List ae}{v:Value}(eX:B[k]? =some ob)(hk:ob.k= .loc)
 (jP:JE[k]? =some o') (Ih:o'.k= .loc) (hlen:o'.es.length=ob.es.length) (So:∀r∈o'.es,∀d∈r,d.bl=true)
 (xl:B[h]? =some od) (Kj:od.k= .dead) (Ek:od.es=[]) (hkn:k<n) (hn:JE[n]? =some obj) (Hq:obj.k= .aV) (OM:obj.es.length=L) (hL:L≠0)
 (hg:dM (SS K σ B k) F σ (List.replicate k ⟨.dead,0,[]⟩++[ob]) w (.own n L off len) JE v w'):dM K F σ B w (.own h L off len) ((B.set k o').set h obj) v w':=by
 obtain⟨F',Be,h1,h2,h3,h4⟩:=hg;have mP:=er eX;have FR:=er xl;have bP:h≠k:=λe=>by simp_all
 have SZ:(List.replicate k (⟨.dead,0,[]⟩:ae)++[ob])[k]? =some ob:=by simp_all
 obtain⟨o2,q1,_,q3⟩:=h3.ob k ob SZ;rw[jP]at q1;injection q1 with q1;subst q1;obtain⟨_,hz,m8,aFv⟩:=q3 (by simp_all) hlen;have m9:=h1.obj _ _ hn;unfold gv at m9;rw[Hq]at m9;dsimp only at m9;have aFx:obj.es≠[]:=λe=>hL (by simp_all);obtain⟨gn,gn1,gn2,gn3,gn4⟩:=m9.resolve_left λe=>aFx e.1;have xG:∀(i:Nat) (o2:ae) (g:Nat),i≠k->B[i]? =some o2->o2.k≠ .dead->σ i=some g->w'.heap[g]? =w.heap[g]? /\(F' g->F g):=by
  intro h o2 g bP xT Z hg;have Sp:o2.k.mut->w'.heap[g]? =w.heap[g]? /\(F' g->F g):=λhm=>by have hO:SS K σ B k g:= .inr ⟨h,o2,xT,bP,hm,hg⟩;exact⟨h2.sa g hO,λhF=>(h2.new g hF).elim id λhn=>absurd hO hn⟩
  have old:=I.obj h o2 xT;unfold gv at old;split at old
  .simp_all
  .exact Sp (.inl (by assumption))
  .rcases old with⟨_,h0⟩|⟨g2,Y,e2,_⟩
   .simp_all
   .rw[hg]at Y;injection Y with Y;subst Y;exact⟨h2.ck g e2,λ_=>e2⟩
  .exact Sp (mG (by assumption))
  .exact Sp (.inr (.inr ⟨_,by assumption⟩))
 have sK:∀i:Nat,((B.set k o').set h obj)[i]? =if i=h then some obj else if i=k then some o' else B[i]? :=by grind
 let τ:Nat->BI:=λi=>if i=h then Be n else σ i;have τh:τ h=some gn:=by grind
 have VT:∀i,i≠h->τ i=σ i:=λi e=>ba e;have hm:HM F σ B w F' τ ((B.set k o').set h obj) w':=by
  refine⟨h3.mono,h3.ck,by simp,λi o2 xT=>?_⟩;rw[sK];by_cases e:i=h
  .simp_all
  .rw[ba e];by_cases e':i=k
   .simp_all
   .rw[ba e'];exact⟨o2,xT,By _,λZ _=>⟨Z,rfl,VT _ e,λg hg=>Tb (xG i o2 g e' xT Z hg).1⟩⟩
 obtain⟨_,hv4⟩:=h4.sX;have xB:=(hv4 obj hn).2 (by simp_all) OM;refine⟨F',τ,⟨λi o2 xT=>?_,λk1 k2 o1 o2 g Y m1 e2 m2 s1 s2=>?_,h1.fb,λb hb=>Ef (I.kb b hb) h2.size,h1.nH⟩,
  ⟨h2.os,h2.tape,h2.output,h2.size,λb hb=>h2.sa b (.inl hb),h2.ck,h2.mono,λb hb=>(h2.new b hb).imp id λhn hK=>hn (.inl hK)⟩,hm,?_⟩
 .rw[sK]at xT;by_cases e0:i=h
  .rw[gr e0]at xT;injection xT with xT;subst xT;subst e0;unfold gv;rw[Hq];dsimp only;exact .inr ⟨gn,τh,gn2,λhK=>gn3 (.inl hK),gn4⟩
  rw[ba e0]at xT;by_cases e:i=k
  .rw[gr e]at xT;injection xT with xT;subst xT;subst e;have new:=h1.obj _ _ jP;unfold gv at new|-;rw[Ih]at new|-;dsimp only at new|-;obtain⟨g,hg,nF,nK,c,ty,hh,Ur,uY,DG⟩:=new;rw[m8]at hg;refine⟨g,(VT _ e0).trans hg,nF,λhK=>nK (.inl hK),c,ty,hh,Ur,uY,λi j d Z=>?_⟩;obtain⟨u,hu,E⟩:=DG i j d Z;refine⟨u,hu,.aV (E.VR ?_)⟩;unfold cellAt at Z;cases hq:o'.es[i]? with
   |none=>simp_all
   |some row=>
    simp[hq]at Z;exact So row (ed hq) d (ed Z)
  .rw[ba e]at xT;have old:=I.obj _ _ xT;unfold gv at old|-;rw[VT _ e0];split
   .trivial
   .rename_i nC;rw[nC]at old;dsimp only at old;rcases old with h0|⟨g,Y,e2,e3,e4⟩
    .exact .inl h0
    .obtain⟨k1,k2⟩:=xG i o2 g e xT (by simp_all) Y;exact .inr ⟨g,Y,λhF=>e2 (k2 hF),e3,e4.mono k1 λd v E=>⟨E.1.mono hm.mono hm.ck,E.2⟩⟩
   .rename_i nC;rw[nC]at old;dsimp only at old;rcases old with h0|⟨g,Y,e2,e4⟩
    .exact .inl h0
    .obtain⟨k1,_⟩:=xG i o2 g e xT (by simp_all) Y;exact .inr ⟨g,Y,h2.mono g e2,e4.mono k1 λd v E=>⟨E.1.mono hm.mono hm.ck,E.2⟩⟩
   next nC=>rw[nC]at old;dsimp only at old;obtain⟨g,Y,e2,e3,e4⟩:=old;obtain⟨k1,k2⟩:=xG i o2 g e xT (by simp_all) Y;exact⟨g,Y,λhF=>e2 (k2 hF),e3,e4.mono k1 λd v E=>E.mono hm⟩
   next nC=>rw[nC]at old;dsimp only at old;obtain⟨xk,g,Y,e2,e3,e4⟩:=old;obtain⟨k1,k2⟩:=xG i o2 g e xT (by simp_all) Y;exact⟨xk,g,Y,λhF=>e2 (k2 hF),e3,e4.mono k1 λd v E=>⟨E.1.mono hm.mono hm.ck,E.2⟩⟩
 .have VS:∀(i:Nat) (o2:ae),i≠h->((B.set k o').set h obj)[i]? =some o2->o2.k.mut->∃o3,B[i]? =some o3/\o3.k.mut:=λi o2 e0 e m=>by rw[sK,ba e0]at e;by_cases q:i=k<;>grind
  have ma:∀(i:Nat) (o2:ae),i≠h->((B.set k o').set h obj)[i]? =some o2->o2.k.mut->τ i=some gn->False:=λi o2 e0 e m s=>by
   rw[VT _ e0]at s;by_cases q:i=k
   .subst q;have:=h1.inj i n o' obj gn jP (mG Ih) hn (.inl Hq) (m8.trans s) gn1;omega
   .obtain⟨p,r,t⟩:=VS i o2 e0 e m;exact gn3 (.inr ⟨i,p,r,q,t,s⟩)
  by_cases a1:k1=h
  .grind
  .by_cases a2:k2=h
   .grind
   .obtain⟨p1,r1,t1⟩:=VS k1 o1 a1 Y m1;obtain⟨p2,r2,t2⟩:=VS k2 o2 a2 e2 m2;rw[VT _ a1]at s1;rw[VT _ a2]at s2;exact I.inj k1 k2 p1 p2 g r1 t1 r2 t2 s1 s2
 .obtain⟨A,cap,rfl,hc,hb⟩:=xB;refine .own _ _ _ _ _ rfl (by simp_all) λo ho=>?_;rw[sK,gr rfl]at ho;injection ho with ho;subst ho;refine⟨Nat.le_of_eq OM.symm,λ_ _=>⟨A,cap,rfl,hc,hb.imp id λ⟨g,g1,g2⟩=>⟨g,?_,g2⟩⟩⟩;simp_all
theorem aqv [Inhabited Env](I:bH K F σ B w)(hf:jZ F σ B w R a.tmps){t:TypeId}{x i y:Operand}{m k z:DA}(ho:o.op= .mapUpdate t x i y\/o.op= .insert t x i y)
 (hm:(Tj P t&&cK x m&&cK i k&&cK y z)=true) (h:(au C (.Za m k z) ⟨R,B⟩).pre):
 KC P o a w (λv w'=>dM K F σ B w (au C (.Za m k z) ⟨R,B⟩).val (au C (.Za m k z) ⟨R,B⟩).B v w'):=by
 simp only[ab]at hm;obtain⟨⟨⟨h2,h3⟩,h4⟩,h5⟩:=hm;simp only[au]at h|-;cases Y:dH B (m.ev R)with
 |none=>simp[Y,no]at h
 |some es=>
  have v2:=aD hf h4;have v3:=aD hf h5;cases e2:k.ev R<;>simp only[Y,e2,no]at h v2|- <;>try exact h.elim
  cases e3:z.ev R<;>simp only[e3,GN]at h v3|- <;>try exact h.elim
  .refine AO (aqw I ho h2 (aD hf h3) v2.o8 Y ⟨?_,_,rfl⟩);rw[v3.lM];exact cB.Ov (z:=0) (by simp) (λi e he=>by simp at he) (λbP=>absurd rfl bP)
  .exact AO (aqw I ho h2 (aD hf h3) v2.o8 Y ⟨v3.ud,_,rfl⟩)
theorem oU [Inhabited Env](hC:C.ok P)(I:bH K F σ B w)(hf:jZ F σ B w R a.tmps){op:Op}{d:aT}(ho:o.op=op)(hm:Up P op d=true):Sound P K F σ B w R a C o d:=by
 intro h;unfold Up at hm;split at hm
 .exact(aBt (.inl ho) hf hm).meets I
 .exact(aBt (.inr ho) hf hm).meets I
 next x y=>obtain⟨F1,f1,r1⟩:=Ky I (aD hf hm) h;exact bB ⟨a.eval x,w,by simp[execOp,ho],.KD f1 (.same f1.1 r1.bare)⟩
 next x y=>obtain⟨F1,f1,r1⟩:=Ky I (aD hf hm) h;exact bB ⟨a.eval x,w,by simp[execOp,ho],.KD f1 (.same f1.1 r1.bare)⟩
 .rename_i x z y;have hv:=aD hf hm;simp only[au]at h|-;cases he:y.ev R<;>simp only[he,no]at h hv|- <;>try exact h.elim
  exact bB (Qb I (.inl ho) hv.lM)
 .rename_i x z y;have hv:=aD hf hm;simp only[au]at h|-;cases he:y.ev R<;>simp only[he,no]at h hv|- <;>try exact h.elim
  exact bB (Qb I (.inr ho) hv.lM)
 .rename_i xs ts y;simp only[ab]at hm;obtain⟨BG,ht⟩:=hm;obtain⟨x,wy,U⟩:=DH BG;split at ht;rotate_left
  .cases ht
  rename_i t zb;obtain rfl:=AM zb;split at ht
  .rename_i e Iw;have hv:=aD hf U;simp only[au]at h|-;cases he:y.ev R<;>simp only[he,no]at h hv|- <;>try exact h.elim
   exact(aBu ho wy Iw hv.lM).meets I
  .cases ht
 .rename_i c x y c' x' y';simp only[ab]at hm;simp only[au]at h|-;cases he:c'.ev R<;>simp only[he,no]at h|- <;>try exact h.elim
  rename_i b;cases b
  .exact(aqx ho hf hm.1.1 hm.1.2 hm.2 he).meets I
  .exact(aqx ho hf hm.1.1 hm.1.2 hm.2 he).meets I
 .simp only[ab,ir]at hm;obtain⟨⟨rfl,h1⟩,h2⟩:=hm;exact(aBv ho hf h1 h2 h).meets I
 .simp only[ab]at hm;obtain⟨⟨⟨h0,h1⟩,h2⟩,h3⟩:=hm;split at h3
  next ht=>exact(aBw ho h0 ht hf h1 h2 h).meets I
  .cases h3
 .simp only[ab]at hm;obtain⟨⟨⟨h0,h1⟩,h2⟩,h3⟩:=hm;split at h3
  .rename_i ht;simp only[au]at h|-;revert h;split
   next Y e2=>intro h;obtain⟨ob,g,_,_,_,_,ev⟩:=zF (by have:=aD hf h1;rw[Y]at this;exact this) h;have xn:=(by have:=aD hf h2;rw[e2]at this;exact this.zG);have:=(ax1 (F:=F) (σ:=σ) (B:=B) (w:=w) ho h0 ht ev xn (.inr rfl)).meets I;simp_all
   .intro h;exact(aBx ho h0 ht hf h1 h2 h).meets I
  .cases h3
 .simp only[ab]at hm;obtain⟨⟨⟨h0,h1⟩,h2⟩,h3⟩:=hm;exact(aBy ho h0 h3 hf h1 h2 h).meets I
 .rename_i op t x u n x';simp only[ab]at hm;obtain⟨⟨h0,h1⟩,h2⟩:=hm;have hh:(au C (.Pt n x') ⟨R,B⟩).B=B:=by simp only[au]at h|-;split at h<;>first|rfl|exact h.elim
  rw[hh];split at h2
  next e ht=>exact(ax2 ho h0 ht hf h1 h).meets I
  .cases h2
 .simp only[ab,ir]at hm;obtain⟨rfl,h1⟩:=hm;exact(aFz ho hf h1 h).meets I
 .rename_i s t x k y;simp only[ab]at hm;have hv:=aD hf hm.1.1;simp only[au]at h|-;cases he:y.ev R<;>simp only[he,no]at h hv|- <;>try exact h.elim
  exact(ax3 ho hm.1.2 (adi hm.2) hv.gE).meets I
 .rename_i s t x y;simp only[ab]at hm;obtain⟨⟨h0,h1⟩,h2⟩:=hm;have hv:=aD hf h0;simp only[au]at h|-;obtain⟨lO,eZ,El⟩:=h;have Ox:∀s,y.ev R≠ .str s:=by grind
  split at h2
  .rename_i e hse;obtain⟨A,c,z,Y,Fh,uY,hA,_⟩:=tH I hv lO Ox;refine(aBz ho hse (adi h2) (KE h1) Y El (λbP=>?_) (λ_ _ _=>trivial)).meets I;obtain⟨b,hb,Z3,_,hc⟩:=hA bP;refine⟨b,hb,Z3,λi j d Z=>?_⟩;obtain⟨u,hu,_,E⟩:=hc i j d Z;have hz1:z=1:=by obtain⟨e0,Oz⟩:=List.exists_mem_of_ne_nil _ bP;obtain⟨k0,Q8,rfl⟩:=Rm Oz;obtain⟨n,hn⟩:=El _ Oz;have:=uY k0 _ (tx Q8);simp_all
   simp_all
  .cases h2
 .rename_i xs ts y;simp only[ab]at hm;obtain⟨BG,ht⟩:=hm;obtain⟨x,wy,U⟩:=DH BG;split at ht;rotate_left
  .cases ht
  rename_i t zb;obtain rfl:=AM zb;split at ht
  .rename_i e Iw;have hv:=aD hf U;simp only[au]at h|-;cases he:y.ev R<;>simp only[he,no]at h hv|- <;>try exact h.elim
   .exact(x4 ho wy Iw hv.lM).meets I
   .obtain⟨A,c,z,Y,_⟩:=hv.ud.ud;exact(x4 ho wy Iw Y).meets I
   .rename_i h' L off n;obtain⟨hl,eX⟩:=hv.sX;unfold alive at h;cases JD:B[h']? with
    |none=>simp_all
    |some ob=>
     simp only[JD]at h;obtain⟨A,cap,Y,_⟩:=(eX ob JD).2 h.1 h.2;exact(x4 ho wy Iw Y).meets I
  .cases ht
 .rename_i xs ts y;simp only[ab]at hm;obtain⟨BG,ht⟩:=hm;obtain⟨x,wy,U⟩:=DH BG;split at ht;rotate_left
  .cases ht
  rename_i t zb;obtain rfl:=AM zb;have hv:=aD hf U;simp only[au]at h|-;cases he:y.ev R<;>simp only[he,no]at h hv|- <;>try exact h.elim
  exact(ax4 ho wy (KE ht) hv.o8).meets I
 .rename_i xs ts n;simp only[ab,GO]at hm;obtain⟨BG,ht⟩:=hm;split at ht;rotate_left
  .cases ht
  rename_i t zb;obtain rfl:=AM zb;obtain⟨x,wy⟩:∃x,xs= #[x]:=by
   obtain⟨l⟩:=xs;match l,BG with
   |[x],_=>simp_all
  subst wy;refine gS.meets I (zH ho (v:= .int .i64 n) (λcs=>?_) (.aV (.int _ _)));split at ht
  next m e Iw=>simp at ht;subst ht;cases a.eval x<;>simp[builtin,Builtin.len_,bO Iw,goInt]
  .rename_i e Iw;split at ht
   next m e' aFA=>simp at ht;subst ht;cases a.eval x<;>simp[builtin,Builtin.len_,bO Iw,bO aFA,goInt]
   .cases ht
  .cases ht
 .rename_i xs ts x y;obtain⟨x1,y1,wy,h1,h2⟩:=uX hm;have v1:=aD hf h1;have v2:=aD hf h2;simp only[au]at h|-;cases he:x.ev R<;>cases UI:y.ev R<;>simp only[he,UI,no]at h v1 v2|- <;>try exact h.elim
  subst h;exact(adk (mx:=true) rfl ho wy v1.gE v2.gE).meets I
 .rename_i xs ts x y;obtain⟨x1,y1,wy,h1,h2⟩:=uX hm;have v1:=aD hf h1;have v2:=aD hf h2;simp only[au]at h|-;cases he:x.ev R<;>cases UI:y.ev R<;>simp only[he,UI,no]at h v1 v2|- <;>try exact h.elim
  subst h;exact(adk (mx:=false) rfl ho wy v1.gE v2.gE).meets I
 .simp only[ab,ir]at hm;exact(ax5 I ho hm.2 hf hm.1 h).meets I
 .rename_i t p v n q u;simp only[ab]at hm;obtain⟨⟨h1,h2⟩,h3⟩:=hm;cases hi:P.info? t with
  |none=>simp_all
  |some i=>
   simp only[hi,GO]at h3;subst h3;simp only[au,jN]at h|-;cases he:q.ev R<;>simp only[he,no]at h|- <;>try exact h.elim
   rename_i h' L r j;cases eX:B[h']? with
   |none=>simp_all
   |some ob=>
    simp only[eX]at h|-;by_cases hk:ob.k= .loc
    .simp only[gr hk]at h|-;grind[AO,adl]
    .simp only[ba hk]at h|-;by_cases yK:ob.k= .aV
     .simp only[gr yK]at h|-;cases VP:(ug B (cellsOf (u.ev R))).B[h']?<;>grind[ug,cellsOf,AO,adn,ik,J.bl]
     simp_all
 .rename_i t p f off q;simp only[ab]at hm;obtain⟨h1,h2⟩:=hm;split at h2
  .rename_i fs zb;split at h2
   .rename_i fl PH;simp only[ab,GO]at h2;obtain⟨rfl,h2⟩:=h2;cases hi:P.info? fl.type with
    |none=>simp_all
    |some i=>
     simp only[hi,Kf]at h2;have hv:=aD hf h1;simp only[au]at h|-;cases he:q.ev R<;>simp only[he,no]at h hv|- <;>try exact h.elim
     next h' L r j=>obtain⟨ob,g,eX,hk,hL,hg,Y⟩:=zF hv h;exact(aiP ho zb PH hi h2 Y rfl (apL eX hL hg _)).meets I
     next cs=>obtain⟨b,Y,Z3,_⟩:=hv.kC.kC;have E:=hv.kC;rw[Y]at E;exact(aiP ho zb PH hi h2 Y Z3 (.aV (ado E _))).meets I
   .cases h2
  .cases h2
 .rename_i t x f off sz y;simp only[ab]at hm;obtain⟨h1,h2⟩:=hm;split at h2
  .rename_i fs zb;split at h2
   .rename_i fl PH;simp only[ab,GO,ir]at h2;obtain⟨rfl,h2⟩:=h2;simp only[au]at h|-;cases he:y.ev R<;>simp only[he,no]at h|- <;>try exact h.elim
    exact(aud ho zb PH h2 hf h1 he h).meets I
   .cases h2
  .cases h2
 .rename_i t x i z y k;simp only[ab]at hm;obtain⟨⟨h1,h2⟩,h3⟩:=hm;obtain⟨e,ti,zv,Iw,hi,WQ,rfl,uK,Z4,Zp⟩:=zI h3;have v1:=aD hf h1;have v2:=aD hf h2;simp only[au]at h|-;cases he:y.ev R<;>cases UI:k.ev R<;>simp only[he,UI,no]at h v1 v2|- <;>try exact h.elim
  .rename_i es kk n;obtain⟨hz,h0,hn⟩:=h;obtain⟨A,c,z,Y,Fh,hA,uY⟩:=v1.ud.ud;have mP:n.toNat<es.length:=by omega
   obtain⟨b,hb,Z3,hF,hc⟩:=hA (by grind);have oe:es.getD n.toNat []=es[n.toNat]:=by simp_all
   have hzi:z=ti.size:=by grind
   refine(aiQ ho Iw hi Y v2.gE hb Z3 h0 (by omega) (.aV (cB.wo rfl hF λj d Z=>?_))).meets I;simp_all[cellAt,Nat.add_assoc]
  .rename_i h' L off len kk n;cases eX:B[h']? with
   |none=>simp_all
   |some ob=>
    simp only[eX]at h|-;obtain⟨hk,hz,hL,h0,hn⟩:=h;obtain⟨A,cap,Y,hle,hA⟩:=(v1.sX.2 ob eX).2 hk hL;rcases hA with hA|⟨g,hg,rfl,Tk⟩
    .omega
    .refine(aiQ ho Iw hi Y v2.gE rfl rfl h0 hn (.ptr _ _ _ _ _ rfl (er eX) λo' jP=>?_)).meets I;grind
 .rename_i t x i n z y k;simp only[ab]at hm;obtain⟨⟨h1,h2⟩,h3⟩:=hm;split at h3
  .rename_i m e Iw;simp only[ab,GO]at h3;obtain⟨rfl,h3⟩:=h3;cases hi:P.info? e with
   |none=>simp_all
   |some ti=>
    simp only[hi,GO]at h3;subst h3;have v1:=aD hf h1;have v2:=aD hf h2;simp only[au]at h|-;cases he:y.ev R<;>cases UI:k.ev R<;>simp only[he,UI,no]at h v1 v2|- <;>try exact h.elim
    next h' L r j kk q=>obtain⟨ha,h0,hn⟩:=h;obtain⟨ob,g,eX,hk,hL,hg,Y⟩:=zF v1 ha;exact(adp ho Iw hi Y v2.gE rfl h0 hn (apL eX hL hg _)).meets I
    next cs kk q=>obtain⟨h0,hn⟩:=h;obtain⟨b,Y,Z3,_⟩:=v1.kC.kC;have E:=v1.kC;rw[Y]at E;exact(adp ho Iw hi Y v2.gE Z3 h0 hn (.aV (ado E _))).meets I
  .cases h3
 .rename_i t x i y k;simp only[ab]at hm;obtain⟨⟨h1,h2⟩,h3⟩:=hm;have v1:=aD hf h1;have v2:=aD hf h2;simp only[au]at h|-;cases he:y.ev R<;>cases UI:k.ev R<;>simp only[he,UI,no]at h v1 v2|- <;>try exact h.elim
  exact(aue ho (KE h3) v1.o8 v2.gE h.1 h.2).meets I
 next t x lo hi mx y l hh=>simp only[ab]at hm;obtain⟨⟨⟨⟨h1,h2⟩,h3⟩,h4⟩,h5⟩:=hm;exact(aqz ho (KE h5) (by simp_all) hf h1 h2 h3 h).meets I
 next t x lo hi mx z y l hh m=>simp only[ab]at hm;obtain⟨⟨⟨⟨h1,h2⟩,h3⟩,h4⟩,h5⟩:=hm;obtain⟨e,ti,zv,Iw,Lx,WQ,rfl,uK,Z4,Zp⟩:=zI h5;exact(auf ho Iw Lx hf h1 h2 h3 h4 h).meets I
 .rename_i t n c zero n' c';simp only[ab]at hm;obtain⟨⟨h1,h2⟩,h3⟩:=hm;split at h3
  .rename_i e Iw;have v1:=aD hf h1;have v2:=aD hf h2;simp only[au]at h|-;cases he:n'.ev R<;>cases UI:c'.ev R<;>simp only[he,UI,no]at h v1 v2|- <;>try exact h.elim
   exact bB (ax6 I ho Iw h3 v1.gE v2.gE h.1 h.2.1 h.2.2)
  .cases h3
 next t n ps aV zero parts=>simp only[ab,GO,ir]at hm;grind[bB,aqA]
 next t ps zero parts=>exact(aug ho (by simp only[Up];exact hm) hf h).meets I
 .rename_i e zero;cases hi:P.info? e with
  |none=>simp_all
  |some i=>
   simp only[hi]at hm;cases hz:i.zero with
   |none=>simp_all
   |some z=>
    simp only[hz]at hm;exact bB (auh I ho hi hz hm)
 .rename_i x z y;have hv:=aD hf hm;simp only[au]at h|-;cases he:y.ev R<;>simp only[he,no]at h hv|- <;>try exact h.elim
  .exact bB (Qb I (.inl ho) hv.lM)
  .rename_i h' L off len;cases eX:B[h']? with
   |none=>simp_all
   |some ob=>
    simp only[eX]at h|-;obtain⟨hk,rfl,rfl,hl⟩:=h;simp_all[bB,aqB]
 .rename_i x z y;have hv:=aD hf hm;simp only[au]at h|-;cases he:y.ev R<;>simp only[he,no]at h hv|- <;>try exact h.elim
  .exact bB (Qb I (.inr ho) hv.lM)
  .rename_i h' L off len;cases eX:B[h']? with
   |none=>simp_all
   |some ob=>
    simp only[eX]at h|-;obtain⟨hk,rfl,rfl,hl⟩:=h;simp_all[bB,aqB]
 .rename_i xs ts z zero s x;simp only[ab]at hm;obtain⟨BG,Gd⟩:=hm;obtain⟨s1,x1,wy,h1,h2⟩:=uX BG;split at Gd;rotate_left
  .cases Gd
  rename_i t u zb;obtain rfl:=HE zb;simp only[ab]at Gd;obtain⟨⟨h3,h4⟩,h5⟩:=Gd;obtain⟨e,ti,zv,Iw,hi,WQ,rfl,uK,Z4,Zp⟩:=zI h3;have v1:=aD hf h1;have v2:=aD hf h2;split at h4;rotate_left
  .cases h4
  rename_i k hu;rw[Iw]at h5;dsimp only at h5;obtain⟨i2,z2,Hp,KZ,Xk,lP,_,_,aBB,_⟩:=MZ h5;rw[hi]at Hp;injection Hp with Hp;subst Hp;rw[WQ]at KZ;injection KZ with KZ;subst KZ;have su:=λn=>M0 (F:=F) (w:=w) Xk aBB n;have hz3:∀n:Nat,Builtin.zeroCells zv.cells n=(Array.range (n*zero.length)).map (zv.cells[·%zv.cells.size]!):=λn=>by unfold Builtin.zeroCells;rw[aBB]
  simp only[au,N1]at h|-;cases UI:x.ev R<;>simp only[UI,no]at h v2|- <;>try exact h.elim
  rename_i kk m;cases kk<;>simp only[no]at h v2|- <;>try exact h.elim
  have Ll:a.eval x1= .int .i64 m:=v2.gE;have aBC:∀v∈(Builtin.zeroCells zv.cells m.toNat).toList,v.oneCell'=true:=by
   intro v hv;rw[hz3]at hv;obtain⟨k,hk,rfl⟩:=Rm hv;have Hr:k<m.toNat*zero.length:=by grind
   have mf:0<zero.length:=by omega
   obtain⟨u,hu,E⟩:=(su m.toNat).2.2 (k/zero.length) (k%zero.length) (zero[k%zero.length]'(Nat.mod_lt _ mf)) (by
    unfold cellAt;rw[List.getElem?_replicate,gr ((Nat.div_lt_iff_lt_mul mf).2 Hr)];simp_all)
   rw[show k/zero.length*zero.length+k%zero.length=k from by rw[Nat.mul_comm];exact Nat.div_add_mod _ _]at hu;have:(((Array.range (m.toNat*zero.length)).map (zv.cells[·%zv.cells.size]!)).toList)[k]? =some u:=by simp_all
   rw[tx hk]at this;injection this with this;rw[this];exact E.1.xH
  have rows:∀(k:Nat) (r:Ab),(List.replicate m.toNat zero)[k]? =some r->r.length=ti.size:=by grind
  have cells:∀k j r,cellAt (List.replicate m.toNat zero) k j=some r->∃x,(Builtin.zeroCells zv.cells m.toNat).toList[k*ti.size+j]? =some x/\CW F w r x:=by intro k j r E;obtain⟨u,hu,E⟩:=(su m.toNat).2.2 k j r E;grind
  cases he:s.ev R<;>simp only[he,no]at h v1|- <;>try exact h.elim
  .have hA:=App.aiR (P:=P) (w:=w) (ty:=o.type) Iw hu hi WQ uK Z4 Zp h.1 h.2 aBC;have E:=apB (es:=List.replicate m.toNat zero) I ho wy Z4 Zp v1.lM (by rw[Ll,XK];exact hA) rows cells (by grind);grind[XK,bB]
  .rename_i h' L off len;cases eX:B[h']? with
   |none=>grind
   |some ob=>
    simp only[eX]at h|-;obtain⟨h0,hk,GS,rfl,rfl,rfl,hlen⟩:=h;have hA:=App.aiR (P:=P) (w:=w) (ty:=o.type) Iw hu hi WQ uK Z4 Zp h0 (by omega) aBC;grind[apC,List.replicate,XK,bB]
 .rename_i e hh zero;simp only[au]at h|-;revert h;cases h0:B[hh]? with
  |none=>intro U;exact U.elim
  |some o0=>
   intro U;cases hi:P.info? e with
   |none=>simp_all
   |some i=>
    simp only[hi]at hm;cases hz:i.zero<;>simp_all[bB,aFB]
 .exact bB (aBD I ho hf hm h)
 .exact bB (ax7 I ho hf hm h)
 .rename_i xs ts z s x;simp only[ab]at hm;obtain⟨BG,Gd⟩:=hm;obtain⟨s1,x1,wy,h1,h2⟩:=uX BG;split at Gd;rotate_left
  .cases Gd
  rename_i t u zb;obtain rfl:=HE zb;simp only[ab]at Gd;obtain⟨h3,h4⟩:=Gd;obtain⟨e,ti,zv,Iw,hi,WQ,rfl,uK,Z4,Zp⟩:=zI h3;have v1:=aD hf h1;have D5:(∃e',P.underlying u=some (.slice e'))\/P.underlying u=some .string:=by grind
  simp only[au,qU]at h|-;cases he:s.ev R<;>simp only[he,no]at h v1|- <;>try exact h.elim
  .obtain⟨news,ES,pZ,yk⟩:=aqC (P:=P) I (aD hf h2) h.1 uK h.2.2 D5;exact bB (apB I ho wy Z4 Zp v1.lM (App.avV Iw hi WQ ES) pZ yk h.2.1)
  .rename_i h' L off len;cases eX:B[h']? with
   |none=>simp_all
   |some ob=>
    simp only[eX]at h|-;obtain⟨lO,hz,hk,GS,rfl,rfl,rfl,hlen⟩:=h;obtain⟨news,ES,pZ,yk⟩:=aqC (P:=P) I (aD hf h2) lO uK hz D5;exact bB (apC I ho wy Z4 Zp (App.avV Iw hi WQ ES) pZ yk eX hk GS v1 hlen)
 next f xs ts k g p=>simp only[ab,GO]at hm;obtain⟨⟨rfl,h1⟩,h2⟩:=hm;grind[DH,at6,aD]
 next f xs ts k g p v=>simp only[ab,GO]at hm;obtain⟨⟨rfl,h1⟩,h2⟩:=hm;grind[uX,axZ,aD]
 .rename_i xs ts z s x;simp only[ab]at hm;obtain⟨BG,Gd⟩:=hm;obtain⟨s1,x1,wy,h1,h2⟩:=uX BG;split at Gd;rotate_left
  .cases Gd
  rename_i t u zb;obtain rfl:=HE zb;simp only[ab]at Gd;obtain⟨h3,_⟩:=Gd;obtain⟨e,ti,zv,Iw,hi,WQ,rfl,uK,Z4,Zp⟩:=zI h3;have v1:=aD hf h1;simp only[au]at h|-;cases he:s.ev R<;>simp only[he,no]at h v1|- <;>try exact h.elim
  rename_i h' L off len;cases eX:B[h']? with
  |none=>simp_all
  |some ob=>
   simp only[eX]at h|-;obtain⟨Ox,lO,hz,hk,GS,rfl,NG⟩:=h;have Uc:∀b,x.ev R≠ .str b:=by grind
   obtain⟨news,l1,l2,l3,l4,l5⟩:=aqD (P:=P) I (aD hf h2) lO Uc uK hz (m:=min (bc B (x.ev R)).es.length len) (Nat.min_le_left _ _);grind[bB,ax8,ed]
 .rename_i x i i' y;simp only[ab,GO]at hm;obtain⟨rfl,h1⟩:=hm;simp only[au]at h|-;cases he:y.ev R<;>simp only[he,no]at h|- <;>try exact h.elim
  exact(alE ho hf h1 he h).meets I
 .rename_i x y;have hv:=aD hf hm;simp only[au]at h|-;cases he:y.ev R<;>simp only[he,no]at h hv|- <;>try exact h.elim
  .obtain⟨ob,g,eX,hk,hL,hg,Y⟩:=zF hv h;exact(Qc ho rfl (.inl ⟨_,Y⟩) hv).meets I
  .obtain⟨b,Y,_⟩:=hv.kC.kC;exact(Qc ho rfl (.inl ⟨_,Y⟩) hv).meets I
  .obtain⟨vs,Y,_⟩:=hv.DF;exact(Qc ho rfl (.inr ⟨_,_,_,Y⟩) hv).meets I
  .obtain⟨vs,Y,_⟩:=hv.Tl;exact(Qc ho rfl (.inr ⟨_,_,_,Y⟩) hv).meets I
 next f fst Bb g XX=>simp only[ab,GO]at hm;obtain⟨⟨rfl,h2⟩,h3⟩:=hm;exact(aui ho h2 hf h3).meets I
 next f xs ts g ys=>simp only[ab,GO]at hm;obtain⟨rfl,h1⟩:=hm;obtain⟨nT,hc⟩:=M1 hC I (lX hf h1) h;exact jG (by simpa using rn (P:=P) (w:=w) (x:= .func f) (Bb:= #[]) ho rfl nT) hc
 .exact h.elim
 next f xs ts g ys=>simp only[ab,GO]at hm;obtain⟨rfl,h1⟩:=hm;obtain⟨nT,hc⟩:=hC.h _ _ _ h;exact jG (by simpa using rn (P:=P) (w:=w) (x:= .func f) (Bb:= #[]) ho rfl nT) (hc K F σ w _ I (lX hf h1))
 next f xs ts g ys=>simp only[ab,GO]at hm;obtain⟨rfl,h1⟩:=hm;simp only[au]at h|-;obtain⟨nT,hc⟩:=hC.h _ _ _ h.1;exact jG (by simpa using rn (P:=P) (w:=w) (x:= .func f) (Bb:= #[]) ho rfl nT) (hc K F σ w _ I (lX hf h1))
 .rename_i f xs ts g ys;simp only[ab,GO]at hm;obtain⟨rfl,h1⟩:=hm;simp only[au]at h|-;have hh:=h B λ_ _ e _=>e;obtain⟨nT,hc⟩:=hC.h f (ys.map (·.ev R)) B (by grind);rw[hh]at hc;exact jG (by simpa using rn (P:=P) (w:=w) (x:= .func f) (Bb:= #[]) ho rfl nT) (hc K F σ w _ I (lX hf h1))
 .rename_i f xs ts b z g ys;simp only[ab,GO]at hm;obtain⟨rfl,h1⟩:=hm;simp only[au]at h|-;cases Y:vw (get b R)with
  |none=>simp[Y,no]at h
  |some n=>
   simp only[Y]at h|-;cases e2:B[n]? with
   |none=>simp[e2,no]at h
   |some ob=>
    simp only[e2]at h|-;cases e4:(C.h f (ys.map (·.ev R)) (List.replicate n ⟨.dead,0,[]⟩++[ob])).B[n]? with
    |none=>simp[e4,no]at h
    |some o'=>
     simp only[e4]at h|-;obtain⟨_,q1,q2,q3,q4,q5,q6,q7,q8⟩:=h;obtain⟨nT,hc⟩:=hC.h _ _ _ q2;have SZ:(List.replicate n (⟨.dead,0,[]⟩:ae)++[ob])[n]? =some ob:=by simp_all
     have lW:=lX hf h1;have xp:dX (aC F σ (List.replicate n ⟨.dead,0,[]⟩++[ob]) w) (ys.map (·.ev R)) (xs.map a.eval).toList:=
      ⟨lW.1,λj d Z=>let⟨u,hu,E⟩:=lW.2 j d Z;⟨u,hu,adg e2 SZ (BE.1 q1 d (ed Z)) E⟩⟩
     refine jG (by simpa using rn (P:=P) (w:=w) (x:= .func f) (Bb:= #[]) ho rfl nT) ((hc (SS K σ B n) F σ w _ (adh I e2 q3 q4) xp).mono λe w' hh=>?_);grind[aqu]
 .rename_i f xs ts hh b z g ys;simp only[ab,GO]at hm;obtain⟨rfl,h1⟩:=hm;simp only[au]at h|-;cases Y:vw (get b R)with
  |none=>simp[Y,no]at h
  |some k=>
   simp only[Y]at h|-;cases e2:B[k]? with
   |none=>simp[e2,no]at h
   |some ob=>
   cases e3:B[hh]? with
   |none=>simp[e2,e3,no]at h
   |some od=>
    simp only[e2,e3]at h|-;cases e5:(C.h f (ys.map (·.ev R)) (List.replicate k ⟨.dead,0,[]⟩++[ob])).val<;>simp only[e5,no]at h|- <;>try exact h.elim
    rename_i n L off len;cases e4:(C.h f (ys.map (·.ev R)) (List.replicate k ⟨.dead,0,[]⟩++[ob])).B[k]? with
    |none=>simp_all
    |some o'=>
    cases e6:(C.h f (ys.map (·.ev R)) (List.replicate k ⟨.dead,0,[]⟩++[ob])).B[n]? with
    |none=>simp_all
    |some oj=>
     simp only[e4,e6]at h|-;obtain⟨_,q1,q2,q3,q4,q5,q6,q7,q8,q9,q10,xq,xr,q13⟩:=h;obtain⟨nT,hc⟩:=hC.h _ _ _ q2;have SZ:(List.replicate k (⟨.dead,0,[]⟩:ae)++[ob])[k]? =some ob:=by simp_all
     have lW:=lX hf h1;have xp:dX (aC F σ (List.replicate k ⟨.dead,0,[]⟩++[ob]) w) (ys.map (·.ev R)) (xs.map a.eval).toList:=
      ⟨lW.1,λj d Z=>let⟨u,hu,E⟩:=lW.2 j d Z;⟨u,hu,adg e2 SZ (BE.1 q1 d (ed Z)) E⟩⟩
     refine jG (by simpa using rn (P:=P) (w:=w) (x:= .func f) (Bb:= #[]) ho rfl nT) ((hc (SS K σ B k) F σ w _ (adh I e2 q3 q4) xp).mono λe w' hh=>?_);obtain⟨v,hv,JF⟩:=hh;rw[e5]at JF;refine⟨v,hv,?_⟩;by_cases hL:L=0
     .rw[gr hL,gr hL];obtain rfl:=q13 hL;subst hL;obtain⟨F',Be,g1,g2,g3,g4⟩:=JF;exact aqu I e2 q3 e4 q5 q6 q7 rfl ⟨F',Be,g1,g2,g3,aua g4 e6 xq xr⟩
     .rw[ba hL,ba hL];exact aub I e2 q3 e4 q5 q6 q7 e3 q8 q9 q10 e6 xq xr hL JF
 .rename_i x xs ts g ys;simp only[ab]at hm;obtain⟨h0,h1⟩:=hm;have hv:=aD hf h0;simp only[au]at h|-;cases he:g.ev R<;>simp only[he,no]at h hv|- <;>try exact h.elim
  .rename_i f Bb;obtain⟨vs,Y,hl,E⟩:=hv.DF;have lW:dX (aC F σ B w) (ys.map (·.ev R)++Bb) (xs.map a.eval++vs).toList:=by rw[Array.toList_append];exact(lX hf h1).append ⟨by omega,λj d Z=>let⟨u,hu,E⟩:=E j d Z;⟨u,by simp_all,E⟩⟩
   obtain⟨nT,hc⟩:=M1 hC I lW h;exact jG (rn (P:=P) (w:=w) ho Y nT) hc
  .rename_i f fst;obtain⟨vs,Y,hl,E⟩:=hv.Tl;have lW:dX (aC F σ B w) (fst++ys.map (·.ev R)) (vs++xs.map a.eval).toList:=by rw[Array.toList_append];exact dX.append ⟨by omega,λj d Z=>let⟨u,hu,E⟩:=E j d Z;⟨u,by simp_all,E⟩⟩ (lX hf h1)
   obtain⟨nT,hc⟩:=M1 hC I lW h;exact jG (apG (P:=P) (w:=w) ho Y nT) hc
 .rename_i x xs ts g ys;simp only[ab]at hm;obtain⟨h0,h1⟩:=hm;have hv:=aD hf h0;simp only[au]at h|-;cases he:g.ev R<;>simp only[he,no]at h hv|- <;>try exact h.elim
  .rename_i f Bb;obtain⟨vs,Y,hl,E⟩:=hv.DF;have lW:dX (aC F σ B w) (ys.map (·.ev R)++Bb) (xs.map a.eval++vs).toList:=by rw[Array.toList_append];exact(lX hf h1).append ⟨by omega,λj d Z=>let⟨u,hu,E⟩:=E j d Z;⟨u,by simp_all,E⟩⟩
   obtain⟨nT,hc⟩:=hC.h _ _ _ h;exact jG (rn (P:=P) (w:=w) ho Y nT) (hc K F σ w _ I lW)
  .rename_i f fst;obtain⟨vs,Y,hl,E⟩:=hv.Tl;have lW:dX (aC F σ B w) (fst++ys.map (·.ev R)) (vs++xs.map a.eval).toList:=by rw[Array.toList_append];exact dX.append ⟨by omega,λj d Z=>let⟨u,hu,E⟩:=E j d Z;⟨u,by simp_all,E⟩⟩ (lX hf h1)
   obtain⟨nT,hc⟩:=hC.h _ _ _ h;exact jG (apG (P:=P) (w:=w) ho Y nT) (hc K F σ w _ I lW)
 next t=>exact bB (auj I ho)
 .rename_i t x i ok m k;simp only[ab,aaa]at hm;obtain⟨⟨⟨rfl,h2⟩,h3⟩,h4⟩:=hm;simp only[au]at h|-;cases Y:dH B (m.ev R)with
  |none=>simp[Y,no]at h
  |some es=>
   have v2:=aD hf h4;cases e2:k.ev R<;>simp only[Y,e2,no]at h v2|- <;>try exact h.elim
   exact bB (ax9 I ho h2 (aD hf h3) v2.o8 Y)
 .grind[aqv]
 next t x i y m k z=>exact aqv I hf (.inr ho) hm h
 next t x t' y=>simp only[ab,GO]at hm;obtain⟨⟨rfl,h2⟩,h3⟩:=hm;exact bB (aya I ho h2 (aD hf h3) h)
 .exact h.elim
 .cases hm
theorem apO [Inhabited Env](hC:C.ok P)(I:bH K F σ B w)(hf:jZ F σ B w R a.tmps){op:Op}{d:aT}(ho:o.op=op)(hm:Pw P op d=true):
 (aB C d ⟨R,B⟩).pre->KC P o a w (λv w'=>dM K F σ B w (aB C d ⟨R,B⟩).val (aB C d ⟨R,B⟩).B v w'):=by
 cases d;case im d=>
  intro h;simp only[Pw,ab,ir]at hm;simp only[aB]at h|-;obtain⟨Y,e2,e3⟩:=Zj C d R [] B hm.1 h.2;rw[Bz]at Y e2 e3;have:=oU (P:=P) (K:=K) hC I hf ho hm.2 Y;simp_all
 case rk lo d=>
  intro h;simp only[aB]at h|-;have:=oU (P:=P) (K:=K) hC I hf ho hm h.1;simp_all
 case tk b lo d=>
  intro h;simp only[aB]at h|-;exact oU (P:=P) (K:=K) hC I hf ho hm h.1
 case fz d=>
  intro h;simp only[aB]at h|-;have:=oU (P:=P) (K:=K) hC I hf ho hm h.1;intro Kn Q hK;refine this Kn Q λv w' hg=>?_;obtain⟨F',Be,s1,m1,h1,r1⟩:=hg;obtain⟨Kg,f,rr⟩:=Ky s1 r1 h.2;exact hK v w' ⟨Kg,Be,f.1,m1.trans f.2.1,h1.trans f.2.2,rr.bare⟩
 case rz z d=>
  intro h;simp only[Pw,ab,ir]at hm;simp only[aB]at h|-;have:=oU (P:=P) (K:=K) hC I hf ho hm.2 h.1;have e3:=(Zj C d R B [] hm.1 h.1).2.2;simp_all
 case rd d=>
  intro h;simp only[aB]at h|-;have:=oU (P:=P) (K:=K) hC I hf ho hm h.1;simp_all
 case ei f args=>
  intro h;simp only[Pw,ab]at hm;simp only[aB]at h|-;split at h
  next hc=>rw[gr hc];exact oU (P:=P) (K:=K) hC I hf ho hm.1 h
  next hc=>rw[ba hc];exact oU (P:=P) (K:=K) hC I hf ho hm.2 h
 case to b d=>
  intro h;simp only[aB]at h|-;exact oU (P:=P) (K:=K) hC I hf ho hm h.1
 all_goals exact oU hC I hf ho hm
end
end Go.Nk
set_option linter.all false
namespace Go.Nk
open Go.RowKit
def Marks(K0 K F:Nat->Prop)(w:World):List Deferred->Prop
 |[]=>True
 |d::ds=>(∃D,d={target:= .collected D,args:= #[]}/\K D/\¬F D/\w.heap[D]? =some (.deferred (some []))/\¬K0 D/\d∉ds)/\Marks K0 K F w ds
def Sr [Inhabited Env](K:Nat->Prop)(N:Nat)(F0:Nat->Prop)(Bc:Nat->BI)(BW:List ae)(w0:World)(K' F:Nat->Prop)(σ:Nat->BI)(s:DS)(a:Act)(w:World):Prop:=
 (∀b,K b->K' b)/\bH K' F σ s.B w/\jZ F σ s.B w s.R a.tmps/\a.tmps.size=N/\Marks K K' F w a.defers/\jd K F0 w0 F w/\HM F0 Bc BW w0 F σ s.B w
def wE [Inhabited Env](K:Nat->Prop)(N:Nat)(F0:Nat->Prop)(Bc:Nat->BI)(BW:List ae)(w0:World)(s:DS)(a:Act)(w:World):Prop:=
 ∃K' F σ,Sr K N F0 Bc BW w0 K' F σ s a w
theorem Marks.move{K0 K F F':Nat->Prop}{w w':World}(hm:jd K F w F' w'):∀{ds:List Deferred},Marks K0 K F w ds->Marks K0 K F' w' ds
 |[],_=>trivial
 |d::ds,h=>by obtain⟨⟨D,h1,h2,h3,h4,h5⟩,h6⟩:=h;exact⟨⟨D,h1,h2,λhF=>(hm.new D hF).elim h3 (λh=>h h2),(hm.sa D h2).trans h4,h5⟩,h6.move hm⟩
theorem jd.weak{K K' F F':Nat->Prop}{w w':World}(hK:∀b,K b->K' b)(h:jd K' F w F' w'):jd K F w F' w':=
 ⟨h.os,h.tape,h.output,h.size,λb hb=>h.sa b (hK b hb),h.ck,h.mono,λb hb=>(h.new b hb).imp id λh hk=>h (hK b hk)⟩
theorem bH.weak [Inhabited Env]{K K' F:Nat->Prop}{σ:Nat->BI}{B:List ae}{w:World}(hK:∀b,K b->K' b)(h:bH K' F σ B w):bH K F σ B w:=by refine⟨λi o ho=>?_,h.inj,h.fb,λb hb=>h.kb b (hK b hb),h.nH⟩;have old:=h.obj i o ho;unfold gv at old|-;split<;>grind
theorem adr{es:List Ab}{i j:Nat}{d:J}(h:cellAt es i j=some d):∃e,es[i]? =some e/\e[j]? =some d:=by unfold cellAt at h;grind
section
variable {P:Program} {K F0:Nat->Prop} {Bc:Nat->BI} {BW:List ae} {N:Nat} {w0:World} {C:dJ}
theorem jZ.put{F F':Nat->Prop}{σ Be:Nat->BI}{B cU:List ae}{w w':World}{R:List (Nat×J)}{a:Act}(hf:jZ F σ B w R a.tmps)(hm:HM F σ B w F' Be cU w')
 {dst:BI} {d:J} {v:Value} (Z:∀t,dst=some t->t<a.tmps.size) (hv:aC F' Be cU w' d v):jZ F' Be cU w' (DS.put ⟨R,B⟩ dst ⟨True,d,cU⟩).R (a.put dst v).tmps:=by
 intro n;cases dst with
 |none=>exact(hf n).mono hm
 |some t=>
  simp only[DS.put,cS,Act.put];by_cases hn:n=t
  .simp_all
  .rw[ba hn];have e:(a.tmps.setIfInBounds t v).getD n undef=a.tmps.getD n undef:=by simp[Array.getElem?_setIfInBounds_ne (Ne.symm hn)]
   rw[e];exact(hf n).mono hm
theorem wE.put [Inhabited Env]{s:DS}{a:Act}{w w':World}{K' F F':Nat->Prop}{σ Be:Nat->BI}{cU:List ae}{dst:BI}{d:J}{v:Value}(hK:∀b,K b->K' b)(hf:jZ F σ s.B w s.R a.tmps)(hN:a.tmps.size=N)(mQ:Marks K K' F w a.defers)(AD:jd K F0 w0 F w)(Bl:HM F0 Bc BW w0 F σ s.B w)
 (Z:∀t,dst=some t->t<N) (h1:bH K' F' Be cU w') (h2:jd K' F w F' w') (h3:HM F σ s.B w F' Be cU w') (h4:aC F' Be cU w' d v):wE K N F0 Bc BW w0 (s.put dst ⟨True,d,cU⟩) (a.put dst v) w':=by
 refine⟨K',F',Be,hK,?_,?_,?_,?_,AD.trans (h2.weak hK),?_⟩
 .cases dst<;>exact h1
 .have:=hf.put h3 (dst:=dst) (λt ht=>by simp_all) h4;cases dst<;>exact this
 .cases dst<;>simp[Act.put,hN]
 .cases dst<;>exact mQ.move h2
 .cases dst<;>exact Bl.trans h3
theorem aiF(s:DS)(dst:BI)(r:o9):s.put dst r=s.put dst ⟨True,r.val,r.B⟩:=by cases dst<;>rfl
theorem apP{F:Nat->Prop}{σ:Nat->BI}{B:List ae}{w:World}{R:List (Nat×J)}{a:Act}{ops:Array Oper}{j t:Nat}(hf:jZ F σ B w R a.tmps)(ht:(ops[j]?).bind (·.dst)=some t):
 (∀b,get t R= .bool b->yielded ops a.tmps j=some b)/\(get t R= .b9 []->yielded ops a.tmps j=none):=by
 have hv:=hf t;have sK:a.tmps.getD t undef=(a.tmps[t]?).getD undef:=by simp
 refine⟨λb hb=>?_,λhb=>?_⟩
 .rw[hb]at hv;have:=hv.jF;grind[yielded,undef]
 .rw[hb]at hv;obtain⟨vs,e,_⟩:=hv.Kx;grind[yielded]
theorem apQ [Inhabited Env](hC:C.ok P){ops:Array Oper}{o:Oper}{d:af}(hm:Ku P N ops o d=true){s:DS}{a:Act}{w:World}(rl:wE K N F0 Bc BW w0 s a w){Kd:DS->Prop}(h:rh C d s Kd)
 {Kn:Act->World->Prop} {Q:Exit->Act->World->Prop} (hK:∀s' a' w',wE K N F0 Bc BW w0 s' a' w'->Kd s'->Kn a' w'):
 if Region.wanted o (yielded ops a.tmps)=true then o.wp P a w Kn Q else Kn (a.put o.dst undef) w:=by
 simp only[Ku,ab,ir]at hm;obtain⟨⟨⟨DU,Pg⟩,mP⟩,hg⟩:=hm;have aBE:∀t,d.dst=some t->t<N:=λt ht=>by simp_all
 obtain⟨K',F,σ,EP,I,hf,hN,mQ,AD,Bl⟩:=rl;have run:(aB C d.op s).pre->(Kd (s.put d.dst (aB C d.op s)))->o.wp P a w Kn Q:=by intro B hk;have:=apO (P:=P) (K:=K') hC I hf (o:=o) rfl DU B;refine this Kn Q λv w' JF=>?_;obtain⟨F',Be,h1,h2,h3,h4⟩:=JF;rw[Pg];refine hK _ _ _ ?_ hk;rw[aiF];exact wE.put EP hf hN mQ AD Bl aBE h1 h2 h3 h4
 have skip:Kd (s.put d.dst ⟨True,.b9 [],s.B⟩)->Kn (a.put o.dst undef) w:=by intro hk;rw[Pg];exact hK _ _ _ (wE.put EP hf hN mQ AD Bl aBE I (.refl _ _ _) (.refl _ _ _ _) (.b9 [] #[] rfl (λ_=>undef) (λj d Z=>by simp at Z) (λj d Z=>by simp at Z))) hk
 unfold rh at h;cases Ph:d.guard with
 |none=>
  rw[Ph]at h hg;have ho:o.guard=none:=by grind[HB]
  simp_all[gr,Region.wanted]
 |some gb=>
  obtain⟨t,b⟩:=gb;rw[Ph]at h hg;cases hh:o.guard with
  |none=>rw[hh]at hg;simp[HB]at hg
  |some x=>
   obtain⟨j,b'⟩:=x;rw[hh]at hg;simp only[HB,ab,ir,GO]at hg;obtain⟨ht,rfl⟩:=hg;obtain⟨y1,y2⟩:=apP hf ht;dsimp only at h;cases Ud:get t s.R with
   |bool c=>
    simp only[Ud]at h;have hy:=y1 c Ud;simp only[Region.wanted,hh,hy];grind
   |b9 vs=>
    cases vs<;>simp_all[Region.wanted,ba]
   |_=>simp only[Ud]at h
theorem CX{m:Nat}:∀{cs:Ab},J.MB m cs=true->∀(j:Nat) (d:J),cs[j]? =some d->d.qA m=true
 |[],_,j,d,h=>by simp at h
 |c::cs,h,j,d,Z=>by
  simp only[J.MB,ab]at h;cases j with
  |zero=>simp_all
  |succ j=>exact CX h.2 j d (by simp_all)
theorem AJ{B:List ae}{m h:Nat}{o:ae}(ho:((B.take m).map (ae.cut m))[h]? =some o):h<m/\∃o0,B[h]? =some o0/\o=o0.cut m:=by grind
theorem pT(m:Nat)(o:ae):(o.cut m).k=o.k/\(o.cut m).z=o.z/\(o.cut m).es.length=o.es.length:=by unfold ae.cut;grind
theorem aC.cut{F:Nat->Prop}{σ:Nat->BI}{B:List ae}{w:World}{m:Nat}{d:J}{v:Value}(h:aC F σ B w d v):d.qA m=true->aC F σ ((B.take m).map (ae.cut m)) w d v:=by
 induction h with
 |undef v=>intro _;exact .undef v
 |aV h=>intro _;exact .aV h
 |own h L off len v h1 hh ho=>
  intro hi;simp only[J.qA,ir]at hi;refine .own h L off len v h1 (by simp;omega) λo eX=>?_;obtain⟨_,o0,Y,rfl⟩:=AJ eX;simp_all[pT]
 |ptr h L i j v h1 hh ho=>
  intro hi;simp only[J.qA,ir]at hi;refine .ptr h L i j v h1 (by simp;omega) λo eX=>?_;obtain⟨_,o0,Y,rfl⟩:=AJ eX;simp_all[pT]
 |mp h v h1 hh ho=>
  intro hi;simp only[J.qA,ir]at hi;refine .mp h v h1 (by simp;omega) λo eX=>?_;obtain⟨_,o0,Y,rfl⟩:=AJ eX;simp_all[pT]
 |agg cs vs hl vv hv E ih=>intro hi;exact .agg cs vs hl vv hv λj d Z=>ih j d Z (CX hi j d Z)
 |b9 cs vs hl vv hv E ih=>intro hi;exact .b9 cs vs hl vv hv λj d Z=>ih j d Z (CX hi j d Z)
 |Bg f cs vs hl vv hv E ih=>intro hi;exact .Bg f cs vs hl vv hv λj d Z=>ih j d Z (CX hi j d Z)
 |BD f cs vs hl vv hv E ih=>intro hi;exact .BD f cs vs hl vv hv λj d Z=>ih j d Z (CX hi j d Z)
theorem aC.xt{F:Nat->Prop}{σ:Nat->BI}{B:List ae}{w:World}{d:J}{v:Value}(h:aC F σ B w d v)(m:Nat):aC F σ ((B.take m).map (ae.cut m)) w (d.cut m) v:=by
 unfold J.cut;split
 next hi=>exact h.cut hi
 .exact .undef v
theorem bH.cut [Inhabited Env]{F:Nat->Prop}{σ:Nat->BI}{B:List ae}{w:World}(I:bH K F σ B w)(m:Nat):bH K F σ ((B.take m).map (ae.cut m)) w:=by
 refine⟨λh o ho=>?_,λh h' o o' g Y m1 e2 m2 s1 s2=>?_,I.fb,I.kb,I.nH⟩
 .obtain⟨hl,o0,Y,rfl⟩:=AJ ho;have old:=I.obj h o0 Y;obtain⟨c1,c2,c3⟩:=pT m o0;unfold gv at old|-;rw[c1,c2];by_cases hk:o0.k= .loc
  .rw[hk]at old|-;dsimp only at old|-;obtain⟨g,hg,nF,nK,c,ty,hh,Ur,uY,DG⟩:=old;have EH:(o0.cut m).es=o0.es.map λr=>r.map (J.cut m):=by simp[ae.cut,hk]
   refine⟨g,hg,nF,nK,c,ty,hh,by simp_all,λi e he=>?_,λi j d Z=>?_⟩
   .grind
   .rw[EH]at Z;unfold cellAt at Z;rw[M9]at Z;cases hi:o0.es[i]? with
    |none=>simp_all
    |some r=>
     simp[hi]at Z;obtain⟨d0,h0,rfl⟩:=Z;obtain⟨u,hu,E⟩:=DG i j d0 (by simp[cellAt,hi,h0]);exact⟨u,hu,E.xt m⟩
  .have EH:(o0.cut m).es=o0.es:=by simp[ae.cut,hk]
   rw[EH];grind
 .obtain⟨_,o0,f1,rfl⟩:=AJ Y;obtain⟨_,o0',f2,rfl⟩:=AJ e2;rw[(pT m o0).1]at m1;rw[(pT m o0').1]at m2;exact I.inj _ _ _ _ _ f1 m1 f2 m2 s1 s2
theorem get_map(f:Nat->J):∀(l:List Nat) (n:Nat),get n (l.map λt=>(t,f t))=if n∈l then f n else .undef
 |[],n=>by simp
 |t::l,n=>by simp only[p0,cS,get_map f l n,NO];grind
theorem HM.cut{F:Nat->Prop}{σ:Nat->BI}{B:List ae}{w:World}(Bl:HM F0 Bc BW w0 F σ B w){m:Nat}(hm:BW.length<=m):HM F0 Bc BW w0 F σ ((B.take m).map (ae.cut m)) w:=by
 have hl:=Bl.len;refine⟨Bl.mono,Bl.ck,by simp;omega,λh o ho=>?_⟩;obtain⟨o',h1,h2,h3⟩:=Bl.ob h o ho;have mP:=er ho;refine⟨o'.cut m,?_,?_,?_⟩
 .grind
 all_goals simp_all[pT]
theorem Sr.cut [Inhabited Env]{K' F:Nat->Prop}{σ:Nat->BI}{s:DS}{a:Act}{w:World}(h:Sr K N F0 Bc BW w0 K' F σ s a w)(live:List Nat)(m:BI)(hm:match m with|some k=>BW.length<=k|none=>True):Sr K N F0 Bc BW w0 K' F σ (s.cut live m) a w:=by
 obtain⟨EP,I,hf,hN,mQ,AD,Bl⟩:=h;cases m with
 |none=>
  refine⟨EP,I,λn=>?_,hN,mQ,AD,Bl⟩;simp only[DS.cut];rw[get_map];split
  .exact hf n
  .exact .undef _
 |some m=>
  refine⟨EP,I.cut m,λn=>?_,hN,mQ,AD,Bl.cut hm⟩;simp only[DS.cut];rw[get_map];split
  .exact(hf n).xt m
  .exact .undef _
theorem wE.cut [Inhabited Env]{s:DS}{a:Act}{w:World}(h:wE K N F0 Bc BW w0 s a w)(live:List Nat)(m:BI)(hm:match m with|some k=>BW.length<=k|none=>True):wE K N F0 Bc BW w0 (s.cut live m) a w:=
 let⟨K',F,σ,U⟩:=h;⟨K',F,σ,U.cut live m hm⟩
theorem wE.JC [Inhabited Env]{s:DS}{a:Act}{w:World}(rl:wE K N F0 Bc BW w0 s a w):wE K N F0 Bc BW w0 ⟨s.R,s.B++[⟨.dead,0,[]⟩]⟩ a w:=by
 obtain⟨K',F,σ,EP,I,hf,hN,mQ,AD,Bl⟩:=rl;have c1:FN K' F σ s.B w s.B.length (⟨.dead,0,[]⟩:ae) F (λx=>if x=s.B.length then none else σ x) (s.B++[(⟨.dead,0,[]⟩:ae)]) w:=
  {os:=rfl,tape:=rfl,output:=rfl,size:=By _,hF:=λ_ h=>h,newF:=λ_ h=> .inl h,OS:=I.fb,heap:=λb h _=>rfl,Dk:= .inr ⟨rfl,rfl⟩
   sig:=λh' bP=>by simp[bP],z7:=λg hg=>by simp at hg,grow:=λoh tR=>by simp at tR}
 have mU:=c1.D2 I trivial;have BG:=c1.hm I;exact⟨K',F,_,EP,mU,λn=>(hf n).mono BG,hN,mQ,AD.trans ((c1.vb I).weak EP),Bl.trans BG⟩
theorem wE.CK [Inhabited Env]{s:DS}{a:Act}{w:World}(rl:wE K N F0 Bc BW w0 s a w){h i j:Nat}{o:ae}(z:Nat)(eX:s.B[h]? =some o)(hk:o.k= .loc)(hi:i<o.es.length)(hcell:(o.es.getD i [])[j]? =some .nil):
 wE K N F0 Bc BW w0 ⟨s.R,s.B.set h {o with es:=o.es.set i ((o.es.getD i []).set j (.own s.B.length 0 0 0))}++[⟨.aV,z,[]⟩]⟩ a w:=by
 obtain⟨K',F,σ,EP,I,hf,hN,mQ,AD,Bl⟩:=rl;obtain⟨ok,oz,Pj⟩:=o;dsimp only at hk hi hcell;subst hk;have hl:=er eX;have c1:FN K' F σ s.B w s.B.length (⟨.aV,z,[]⟩:ae) F (λx=>if x=s.B.length then none else σ x) (s.B++[(⟨.aV,z,[]⟩:ae)]) w:=
  {os:=rfl,tape:=rfl,output:=rfl,size:=By _,hF:=λ_ h=>h,newF:=λ_ h=> .inl h,OS:=I.fb,heap:=λb h _=>rfl,Dk:= .inr ⟨rfl,rfl⟩
   sig:=λh' bP=>by simp[bP],z7:=λg hg=>by simp at hg,grow:=λoh tR=>by simp at tR}
 have mU:=c1.D2 I (.inl ⟨rfl,by simp⟩);have BG:=c1.hm I;generalize (λx=>if x=s.B.length then none else σ x)=N0 at mU BG c1;have xu:(s.B++[(⟨.aV,z,[]⟩:ae)])[h]? =some ⟨.loc,oz,Pj⟩:=by grind
 have sK:Pj[i]? =some (Pj.getD i []):=by simp_all
 generalize oe:Pj.getD i []=row at*;have hold:=mU.obj h _ xu;unfold gv at hold;dsimp only at hold;obtain⟨g,hg,nF,nK,c,ty,hh,Ur,uY,DG⟩:=hold;have c2:FN K' F N0 (s.B++[(⟨.aV,z,[]⟩:ae)]) w h ⟨.loc,oz,Pj.set i (row.set j (.own s.B.length 0 0 0))⟩ F N0 ((s.B++[(⟨.aV,z,[]⟩:ae)]).set h ⟨.loc,oz,Pj.set i (row.set j (.own s.B.length 0 0 0))⟩) w:=
  {os:=rfl,tape:=rfl,output:=rfl,size:=By _,hF:=λ_ h=>h,newF:=λ_ h=> .inl h,OS:=mU.fb,heap:=λb h _=>rfl,Dk:= .inl ⟨by simp;omega,rfl⟩
   sig:=λh' bP=>rfl,z7:=λg hg=> .inl ⟨hg,_,xu,mG rfl⟩
   grow:=λoh tR=>by rw[xu]at tR;injection tR with e;subst e;exact⟨.inl (mG rfl),by simp,λ_ _=>⟨rfl,rfl,λ_ _=>rfl⟩⟩}
 have Gd:=c2.hm mU;have bP:h≠s.B.length:=by omega
 have D6:=c2.D2 mU (by
  unfold gv;refine⟨g,hg,nF,nK,c,ty,hh,by simp_all,λr e he=>?_,λr k d Z=>?_⟩
  .grind
  .obtain⟨e,he,VU⟩:=adr Z;rw[Fa]at he;split at he
   .rename_i Y;subst Y;injection he with he;subst he;rw[Fa]at VU;split at VU
    .rename_i e2;subst e2;have Ss:j<row.length:=(pc.1 hcell).1;rw[gr Ss]at VU;injection VU with VU;subst VU;obtain⟨v,hv,E⟩:=DG i j .nil (by unfold cellAt;simp_all);refine⟨v,hv,?_⟩;rw[E.lM];refine .own _ _ _ _ _ rfl (by simp) λob hb=>?_;rw[MG bP]at hb;have:ob=(⟨.aV,z,[]⟩:ae):=by simp_all
     subst this;exact⟨by simp,λ_ _=>⟨none,0,rfl,By _,.inl rfl⟩⟩
    .obtain⟨v,hv,E⟩:=DG i k d (by unfold cellAt;simp_all);exact⟨v,hv,E.mono Gd⟩
   .obtain⟨v,hv,E⟩:=DG r k d (by unfold cellAt;simp_all);exact⟨v,hv,E.mono Gd⟩)
 have e:(s.B++[(⟨.aV,z,[]⟩:ae)]).set h ⟨.loc,oz,Pj.set i (row.set j (.own s.B.length 0 0 0))⟩=s.B.set h ⟨.loc,oz,Pj.set i (row.set j (.own s.B.length 0 0 0))⟩++[⟨.aV,z,[]⟩]:=by simp_all
 rw[e]at D6 Gd;exact⟨K',F,N0,EP,D6,λn=>((hf n).mono BG).mono Gd,hN,mQ,AD,(Bl.trans BG).trans Gd⟩
end
end Go.Nk
set_option linter.all false
namespace Go.Nk
open Go.RowKit
def DA.sl:DA->List Nat
 | .t n=>[n]
 | .c _=>[]
def Xp(l:List DA):List Nat:=l.flatMap DA.sl
def St(l:Option DA):List Nat:=match l with|some x=>x.sl|none=>[]
def aT.sl:aT->List Nat
 | .XS x| .S7 x| .home _ x| .mv x| .S5 x| .Ol _ x| .un _ x| .conv _ x| .Md x| .Pt _ x| .len x| .VD x| .load _ x| .q0 _ x| .field _ _ x| .box x| .extract _ x| .re x=>x.sl
 | .pick a b c| .Za a b c=>a.sl++(b.sl++c.sl)
 | .SP _ _ x| .VG _ x=>x.sl
 | .bin _ x y| .beq _ x y| .Ot _ x y| .XP _ _ x y| .Hw _ x y| .store _ x y| .ra _ x y| .mo _ _ x y| .index x y| .make _ x y| .append _ x y| .kn _ _ x y| .copy _ x y| .SA _ _ x y| .SL x y=>x.sl++y.sl
 | .slice _ x a b c=>x.sl++(St a++(St b++St c))
 | .CM x a b=>x.sl++(St a++St b)
 | .v7 _ _ ps=>ps.flatMap St
 | .build _ ps=>ps.flatMap λp=>p.2.2.sl
 | .alloc _| .bad| .aa _ _| .zB=>[]
 | .CL _ xs| .rY _ xs| .Fj _ xs| .ib _ xs| .ig _ xs| .Bm _ xs=>Xp xs
 | .cl b _ _ xs| .Bg _ b _ _ xs=>b::Xp xs
 | .oD f xs| .MT f xs=>f.sl++Xp xs
 | .im d| .rd d| .fz d=>d.sl
 | .rz _ d=>d.sl
 | .rk _ d=>d.sl
 | .tk b _ d=>b::d.sl
 | .to b d=>b::d.sl
 | .ei _ xs=>Xp xs
def af.looks(d:af):List Nat:=d.op.sl++(match d.guard with|some (g,_)=>[g]|none=>[])
def S6(x y:af):Bool:=
 (match x.dst with|some d=> !(y.looks).contains d&&y.dst !=some d|none=>true)&&
 (match y.dst with|some d=> !(x.looks).contains d|none=>true)
def xv(a b:Nat):Bool:=a==0||b==0||(a==1&&b==1)||(a==1&&b==2)||(a==2&&b==1)||(a==1&&(b==4||b==5))||(a==2&&b==4)||(a==7&&(b==7||b==1))||(a==1&&(b==7||b==10))
theorem kV{R yt:List (Nat×J)}{x:DA}(h:∀n∈x.sl,get n R=get n yt):x.ev R=x.ev yt:=by
 cases x with
 |t n=>exact h n (by simp[DA.sl])
 |c d=>rfl
theorem nS{R yt:List (Nat×J)}{xs:List DA}(h:∀n∈Xp xs,get n R=get n yt):xs.map (·.ev R)=xs.map (·.ev yt):=
 KU λx U=>kV λn hn=>h n (Eg.2 ⟨x,U,hn⟩)
theorem M3{R yt:List (Nat×J)}{x:Option DA}(h:∀n∈St x,get n R=get n yt):x.map (·.ev R)=x.map (·.ev yt):=by
 cases x with
 |none=>rfl
 |some x=>exact C2 some (kV h)
theorem ap1{R yt:List (Nat×J)}:∀(ps:List (Nat×Nat×DA)) (cells:Ab),(∀n∈ps.flatMap λp=>p.2.2.sl,get n R=get n yt)->bC cells R ps=bC cells yt ps
 |[],cells,_=>rfl
 |(off,n,x)::ps,cells,h=>by have U:x.ev R=x.ev yt:=kV λn hn=>h n (by simp[hn]);simp only[bC,U];rw[ap1 ps _ λn hn=>h n (by simp_all)]
theorem ki(C:dJ)(d:aT){R yt:List (Nat×J)}(B:List ae)(h:∀n∈d.sl,get n R=get n yt):au C d ⟨R,B⟩=au C d ⟨yt,B⟩:=by
 cases d;case v7 aV zero ps=>
  have e:∀p∈ps,p.map (·.ev R)=p.map (·.ev yt):=λp B=>M3 λn hn=>h n (Eg.2 ⟨p,B,hn⟩);have Y:ps.map (vN R zero)=ps.map (vN yt zero):=by refine KU λp B=>?_;have:=e p B;cases p<;>grind[vN]
  have e2:ps.all (bU R zero)=ps.all (bU yt zero):=by
   have:∀p∈ps,bU R zero p=bU yt zero p:=λp B=>by have:=e p B;cases p<;>grind[bU]
   grind
  simp only[au,Y,e2]
 case build zero ps=>simp only[au];rw[ap1 ps zero h]
 case CL f xs=>simp only[au];rw[nS h]
 case rY f xs=>simp only[au];rw[nS h]
 case Fj f xs=>simp only[au];rw[nS h]
 case ib f xs=>simp only[au];rw[nS h]
 case ig f xs=>simp only[au];rw[nS h]
 case cl b z f xs=>
  have h1:get b R=get b yt:=h b (by simp[aT.sl]);simp only[au,h1];rw[nS λn hn=>h n (by simp[aT.sl,hn])]
 case Bg hh b z f xs=>
  have h1:get b R=get b yt:=h b (by simp[aT.sl]);simp only[au,h1];rw[nS λn hn=>h n (by simp[aT.sl,hn])]
 case oD f xs=>
  grind[kV,aT.sl,au,nS]
 case MT f xs=>
  grind[kV,aT.sl,au,nS]
 case slice z x a b c=>
  grind[kV,aT.sl,au,M3]
 case CM x a b=>
  grind[kV,aT.sl,au,M3]
 case pick a b c=>
  grind[kV,aT.sl,au]
 case Za a b c=>
  grind[kV,aT.sl,au]
 case zB=>rfl
 case alloc zero=>rfl
 case im d=>rfl
 case rd d=>rfl
 case rz z d=>rfl
 case to b d=>rfl
 case rk lo d=>rfl
 case tk b lo d=>rfl
 case bad=>rfl
 case Bm f xs=>rfl
 case aa hh zero=>rfl
 case fz d=>rfl
 case ei f xs=>rfl
 all_goals
  first
  |(rename_i x y;have h1:x.ev R=x.ev yt:=kV λn hn=>h n (by simp[aT.sl,hn]);have h2:y.ev R=y.ev yt:=kV λn hn=>h n (by simp[aT.sl,hn]);simp only[au,h1,h2];done)
  |(rename_i x;have h1:x.ev R=x.ev yt:=kV λn hn=>h n (by simp[aT.sl,hn]);simp only[au,h1];done)
theorem aDx(lo:Nat)(d:aT){R yt:List (Nat×J)}(h:∀n∈d.sl,get n R=get n yt):sJ lo R d=sJ lo yt d:=by
 cases d<;>try rfl
 case load s x=>
  have h1:x.ev R=x.ev yt:=kV λn hn=>h n hn;cases s<;>simp only[sJ,h1]
theorem agW(z:Nat)(d:aT){R yt:List (Nat×J)}(B:List ae)(h:∀n∈d.sl,get n R=get n yt):O7 z ⟨R,B⟩ d=O7 z ⟨yt,B⟩ d:=by
 cases d<;>try rfl
 case load s x=>cases x<;>first|rfl|simp_all[O7,aT.sl,DA.sl]
 case q0 s x=>cases x<;>first|rfl|simp_all[O7,aT.sl,DA.sl]
 case re x=>cases x<;>first|rfl|simp_all[O7,aT.sl,DA.sl]
 case len x=>cases x<;>first|rfl|simp_all[O7,aT.sl,DA.sl]
 case ra n x y=>cases x<;>first|rfl|simp_all[O7,aT.sl,DA.sl]
 case mo n m x y=>cases x<;>first|rfl|simp_all[O7,aT.sl,DA.sl]
theorem acU(C:dJ)(d:aT){R yt:List (Nat×J)}(B:List ae)(h:∀n∈d.sl,get n R=get n yt):aB C d ⟨R,B⟩=aB C d ⟨yt,B⟩:=by
 cases d;case im d=>simp only[aB];rw[ki C d [] h]
 case rd d=>simp only[aB];rw[ki C d B h]
 case rz z d=>simp only[aB];rw[ki C d B h,agW z d B h]
 case fz d=>simp only[aB];rw[ki C d B h]
 case rk lo d=>simp only[aB];rw[ki C d B h,aDx lo d h]
 case tk b lo d=>grind[aB,ki,XN,aT.sl]
 case ei f xs=>simp only[aB];rw[ki C (.Fj f xs) B h,ki C (.rY f xs) B h]
 case to b d=>grind[aB,ki,XN,aT.sl]
 all_goals exact ki C _ B h
def aT.bT:aT->Nat
 | .im _=>0
 | .rd _=>7
 | .rz .. =>9
 | .to .. =>8
 | .ei .. =>9
 | .fz _| .rk .. | .tk .. =>9
 |d=>d.kind
theorem tG{C:dJ}{d:aT}{s:DS}(h:d.bT≠0/\d.bT≠7/\d.bT≠8/\d.bT≠9/\d.bT≠10):aB C d s=au C d s:=by cases d<;>first|rfl|exact absurd rfl h.1|exact absurd rfl h.2.1|exact absurd rfl h.2.2.1|exact absurd rfl h.2.2.2.1|exact absurd rfl h.2.2.2.2
theorem rp{d:aT}(h:d.bT≠0/\d.bT≠7/\d.bT≠8/\d.bT≠9/\d.bT≠10):d.bT=d.kind:=by cases d<;>first|rfl|exact absurd rfl h.1|exact absurd rfl h.2.1|exact absurd rfl h.2.2.1|exact absurd rfl h.2.2.2.1|exact absurd rfl h.2.2.2.2
def xw(x y:af):Bool:=S6 x y&&xv x.op.bT y.op.bT
def Fz(B cU:List ae):Prop:=
 B.length=cU.length/\∀(h:Nat) (o:ae),B[h]? =some o->∃o',cU[h]? =some o'/\o'.z=o.z/\o'.es=o.es/\(o'.k=o.k\/(o.k= .aV/\o'.k= .A6))
theorem Fz.refl(B:List ae):Fz B B:=⟨rfl,λ_ o ho=>⟨o,ho,rfl,rfl,.inl rfl⟩⟩
theorem Fz.trans{a b c:List ae}(h:Fz a b)(k:Fz b c):Fz a c:=⟨h.1.trans k.1,λi o ho=>by obtain⟨o',h1,h2,h3,h4⟩:=h.2 i o ho;obtain⟨XV,k1,k2,k3,k4⟩:=k.2 i o' h1;grind⟩
theorem Fz.get{B cU:List ae}(h:Fz B cU)(i:Nat):(B[i]? =none/\cU[i]? =none)\/∃o o',B[i]? =some o/\cU[i]? =some o'/\o'.z=o.z/\o'.es=o.es/\(o'.k= .dead↔o.k= .dead)/\(o'.k= .aV\/o'.k= .A6↔o.k= .aV\/o.k= .A6):=by
 cases hi:B[i]? with
 |none=>
  left;refine⟨rfl,?_⟩;rw[List.getElem?_eq_none_iff]at hi|-;have:=h.1;omega
 |some o=>
  obtain⟨o',h1,h2,h3,h4⟩:=h.2 i o hi;grind
theorem Fz.alive{B cU:List ae}(h:Fz B cU)(i L:Nat):alive cU i L↔alive B i L:=by unfold Nk.alive;rcases h.get i with⟨h1,h2⟩|⟨o,o',h1,h2,hz,he,Z,hk⟩<;>simp_all
theorem Fz.elems{B cU:List ae}(h:Fz B cU)(d:J):bc cU d=bc B d:=by
 unfold bc;split<;>try rfl
 rename_i i L off len;rcases h.get i with⟨h1,h2⟩|⟨o,o',h1,h2,hz,he,Z,hk⟩<;>simp_all
theorem Fz.cells{B cU:List ae}(h:Fz B cU)(d:J):aH cU d=aH B d:=by
 unfold aH;split<;>try rfl
 rename_i i L r j;rcases h.get i with⟨h1,h2⟩|⟨o,o',h1,h2,hz,he,Z,hk⟩<;>simp_all
theorem Fz.D4{B cU:List ae}(h:Fz B cU)(d:J):dH cU d=dH B d:=by
 unfold dH;cases d<;>try rfl
 rename_i i;dsimp only;cases hi:B[i]? with
 |none=>
  have:cU[i]? =none:=by rw[List.getElem?_eq_none_iff]at hi|-;have:=h.1;omega
  rw[this]
 |some o=>
  obtain⟨o',h1,h2,h3,h4⟩:=h.2 i o hi;rw[h1];simp only[C3];rcases h4 with h4|⟨h4,h5⟩
  .rw[h4]
  .rw[h4,h5];rfl
theorem aBH(C:dJ)(d:aT)(R:List (Nat×J))(B:List ae)(hk:d.kind=0)(h:(au C d ⟨R,B⟩).pre):
 (au C d ⟨R,B⟩).B=B/\∀eZ,(au C d ⟨R,eZ⟩).pre/\(au C d ⟨R,eZ⟩).val=(au C d ⟨R,B⟩).val/\(au C d ⟨R,eZ⟩).B=eZ:=by
 cases d<;>simp only[aT.kind,reduceCtorEq]at hk<;>simp only[au]at h|-;case pick a b c=>split at h<;>simp_all [no]
 case conv k x=>split at h<;>simp_all [no]
 case VD x=>split at h<;>simp_all [no]
 case S7 x=>split at h<;>simp_all [no]
 case Hw m x y=>split at h<;>simp_all [no]
 case field o s x=>split at h<;>simp_all [no]
 case index x y=>split at h<;>simp_all [no]
 case extract i x=>split at h<;>simp_all [no]
 all_goals first|(simp;done)|(simp only[Bt,Xv,TO];exact h)|exact⟨rfl,λ_=>⟨h,rfl,rfl⟩⟩|exact⟨BB,λ_=>⟨h,trivial,BB⟩⟩
theorem ap9(C:dJ)(d:aT)(R:List (Nat×J))(B:List ae)(hk:d.bT=0)(h:(aB C d ⟨R,B⟩).pre):
 (aB C d ⟨R,B⟩).B=B/\∀eZ,(aB C d ⟨R,eZ⟩).pre/\(aB C d ⟨R,eZ⟩).val=(aB C d ⟨R,B⟩).val/\(aB C d ⟨R,eZ⟩).B=eZ:=by
 cases d;case im d=>exact⟨rfl,λeZ=>⟨h,rfl,rfl⟩⟩
 case rd d=>cases hk
 case rz z d=>cases hk
 case to b d=>cases hk
 case rk lo d=>cases hk
 case tk b lo d=>cases hk
 case fz d=>cases hk
 case ei f xs=>cases hk
 all_goals exact aBH C _ R B hk h
theorem xx(C:dJ)(d:aT)(R:List (Nat×J))(B eZ:List ae)(hf:Fz B eZ)(hk:d.kind=1):
 (au C d ⟨R,eZ⟩).pre=(au C d ⟨R,B⟩).pre/\(au C d ⟨R,eZ⟩).val=(au C d ⟨R,B⟩).val/\((au C d ⟨R,B⟩).pre->(au C d ⟨R,B⟩).B=B/\(au C d ⟨R,eZ⟩).B=eZ):=by
 cases d<;>simp only[aT.kind,reduceCtorEq,Nat.reduceEqDiff]at hk<;>simp only[au];case Md x=>rw[hf.elems];simp
 case SL m k=>rw[hf.D4];cases dH B (m.ev R)<;>cases k.ev R<;>simp[no]
 case len x=>split<;>simp[hf.alive,no]
 case Pt x=>split<;>simp[hf.alive,no]
 case load s x=>rw[hf.cells];simp
 case Ot n x y=>split<;>simp[hf.alive]
 case q0 o x=>split<;>simp[hf.alive,no]
 case re x=>split<;>simp[hf.alive,no]
 case mo n z x i=>split<;>simp[hf.alive,no]
 case ra z x i=>
  split
  .simp
  next hh L off len k n Y e2=>rcases hf.get hh with⟨h1,h2⟩|⟨o,o',h1,h2,hz,he,Z,hk⟩<;>simp_all[no]
  .simp[no]
 case slice z x a b c=>
  unfold jq;split
  .simp
  next hh L off len Y=>rcases hf.get hh with⟨h1,h2⟩|⟨o,o',h1,h2,hz,he,Z,hk⟩<;>simp_all
  all_goals grind
theorem Fz.iS(B:List ae)(h:Nat)(hk:∀o,B[h]? =some o->o.k= .aV\/o.k= .A6):Fz B (iS B h):=by
 unfold Nk.iS;cases hh:B[h]? with
 |none=>exact .refl _
 |some o=>
  refine⟨by simp,λi o' jP=>?_⟩;grind
theorem xy(B:List ae)(d:J)(h:(ik B d).pre):Fz B (ik B d).B:=by
 unfold ik at h|-;split at h
 .grind[Fz.iS,bc]
 .exact .refl _
 .exact .refl _
 .split at h
  next hi=>rw[gr hi];exact .refl _
  simp_all
theorem y0:∀(ds:Ab) (B:List ae),(ug B ds).pre->Fz B (ug B ds).B
 |[],_,_=> .refl _
 |d::ds,B,h=>(xy B d h.1).trans (y0 ds _ h.2)
theorem y4(B:List ae)(d:J)(h:(iD B d).pre):Fz B (iD B d).B:=by unfold iD at h|-;grind[y0,xy]
theorem aiS:∀(ds:Ab) (B:List ae),(fH B ds).pre->Fz B (fH B ds).B
 |[],_,_=> .refl _
 |d::ds,B,h=>(y4 B d h.1).trans (aiS ds _ h.2)
theorem Tm(C:dJ)(B:List ae)(f:FuncId)(args:Ab)(h:(bj C B f args).pre):Fz B (bj C B f args).B:=by
 unfold bj at h|-;dsimp only at h|-;split at h
 next hn=>rw[gr hn];exact .refl _
 simp_all[ba,aiS]
theorem avJ(C:dJ)(d:aT)(R:List (Nat×J))(B:List ae)(hk:d.kind=2)(h:(au C d ⟨R,B⟩).pre):Fz B (au C d ⟨R,B⟩).B:=by
 cases d<;>simp only[aT.kind,reduceCtorEq,Nat.reduceEqDiff]at hk<;>simp only[au]at h|-;case rY f xs=>exact Tm C B f _ h
 case Bm f xs=>exact h.elim
 case S5 x=>exact y4 _ _ h
 case oD f xs=>
  split at h
  .exact Tm C B _ _ h
  .exact Tm C B _ _ h
  .exact h.elim
def Ex(B cU:List ae):Prop:=∃lO t,Fz B lO/\cU=lO++t
theorem Zr:∀(ds:List Ab) (B:List ae),(wA B ds).pre->Fz B (wA B ds).B
 |[],_,_=> .refl _
 |d::ds,B,h=>(y0 d B h.1).trans (Zr ds _ h.2)
theorem axR(C:dJ)(d:aT)(R:List (Nat×J))(B:List ae)(hk:d.kind=4\/d.kind=5)(h:(au C d ⟨R,B⟩).pre):Ex B (au C d ⟨R,B⟩).B:=by
 cases d<;>simp only[aT.kind,reduceCtorEq,Nat.reduceEqDiff,or_self,or_false,false_or]at hk<;>simp only[au]at h|-;case alloc z=>exact⟨B,_,.refl _,rfl⟩
 case zB=>exact⟨B,_,.refl _,rfl⟩
 case box x=>exact⟨B,_,.refl _,rfl⟩
 case make z a b=>
  split at h
  .exact⟨B,_,.refl _,rfl⟩
  .exact h.elim
 case Ol z x=>
  split at h
  .exact⟨B,_,.refl _,rfl⟩
  .exact h.elim
 case v7 aV z ps=>
  split at h
  next e=>rw[gr e];exact⟨_,[],Zr _ _ h.2.1,(xz _).symm⟩
  next e=>rw[ba e];exact⟨_,_,Zr _ _ h.2.1,rfl⟩
theorem aiT(t:List ae){B:List ae}{d:J}(h:(ik B d).pre):ik (B++t) d=⟨(ik B d).pre,(ik B d).val,(ik B d).B++t⟩:=by
 unfold ik at h|-;split at h
 next i L off len=>have he:=M4 t h;simp only[he,o9.mk.injEq,Bt];grind[Nk.iS,bc,Zs,FT,pc]
 all_goals grind
theorem aiU(t:List ae):∀{B:List ae} {ds:Ab},(ug B ds).pre->ug (B++t) ds=⟨(ug B ds).pre,(ug B ds).dK,(ug B ds).B++t⟩
 |_,[],_=>rfl
 |B,d::ds,h=>by simp only[ug]at h|-;rw[aiT t h.1];simp only;rw[aiU t h.2]
theorem aiV(t:List ae){B:List ae}{d:J}(h:(iD B d).pre):iD (B++t) d=⟨(iD B d).pre,(iD B d).val,(iD B d).B++t⟩:=by unfold iD at h|-;split at h<;>simp_all[aiU,aiT]
theorem ads(t:List ae):∀{B:List ae} {ds:Ab},(fH B ds).pre->fH (B++t) ds=⟨(fH B ds).pre,(fH B ds).dK,(fH B ds).B++t⟩
 |_,[],_=>rfl
 |B,d::ds,h=>by simp only[fH]at h|-;rw[aiV t h.1];simp only;rw[ads t h.2]
theorem aqE(t:List ae){B:List ae}{d:J}(h:(uN B d).1):uN (B++t) d=uN B d:=by unfold uN at h|-;grind
theorem aqq(t:List ae):∀{B:List ae} {ds:Ab},(kT B ds).1->kT (B++t) ds=kT B ds
 |_,[],_=>rfl
 |B,d::ds,h=>by simp only[kT]at h|-;rw[aqE t h.1,aqq t h.2]
theorem aq2{B:List ae}:∀{ds:Ab},ds.all J.bl=true->kT B ds=(True,ds)
 |[],_=>rfl
 |d::ds,h=>by
  simp only[MM,ab]at h;have e:uN B d=(True,d):=by unfold uN;grind[J.bl]
  simp only[kT,e,aq2 h.2,and_self]
theorem Fz.uN{B cU:List ae}(hf:Fz B cU)(d:J):Nk.uN cU d=Nk.uN B d:=by
 unfold Nk.uN;split
 next k L i j=>rcases hf.get k with⟨h1,h2⟩|⟨o,o',h1,h2,h3,h4,h5,h6⟩<;>simp_all
 .rfl
theorem Fz.kT{B cU:List ae}(hf:Fz B cU):∀ds:Ab,Nk.kT cU ds=Nk.kT B ds
 |[]=>rfl
 |d::ds=>by simp only[Nk.kT,hf.uN d,Fz.kT hf ds]
theorem aq6(t:List ae){B:List ae}{d:J}(h:(b8 B d).1):b8 (B++t) d=b8 B d:=by unfold b8 at h|-;grind[M4,aqq]
theorem arc(t:List ae):∀{B:List ae} {ds:Ab},(fK B ds).1->fK (B++t) ds=fK B ds
 |_,[],_=>rfl
 |B,d::ds,h=>by simp only[fK]at h|-;rw[aq6 t h.1,arc t h.2]
theorem alF(t:List ae){B:List ae}{d:J}(h:(cz B d).1):cz (B++t) d=cz B d:=by unfold cz at h|-;grind[arc,aq6]
theorem arx(t:List ae):∀{B:List ae} {ds:Ab},(bq B ds).1->bq (B++t) ds=bq B ds
 |_,[],_=>rfl
 |B,d::ds,h=>by simp only[bq]at h|-;rw[alF t h.1,arx t h.2]
theorem ary{B:List ae}{d:J}(h:(ik B d).pre):b8 B d=(True,(ik B d).val):=by
 unfold ik b8 at*;split at h
 .simp_all
 .rfl
 .simp only[aq2 h]
 grind
theorem arz:∀{ds:Ab} {B:List ae},(ug B ds).pre->fK B ds=(True,(ug B ds).dK)
 |[],_,_=>rfl
 |d::ds,B,h=>by
  simp only[ug,fK]at h|-;rw[ary h.1];have hv:fK B ds=fK (ik B d).B ds:=by
   have hf:=xy B d h.1;generalize (ik B d).B=cU at hf;clear h;have h1:∀x,b8 cU x=b8 B x:=λx=>by unfold b8;rw[hf.elems];cases x<;>simp only[hf.kT]
   induction ds<;>simp_all[fK]
  rw[hv,arz h.2];simp
theorem adt{B:List ae}{d:J}(h:(iD B d).pre):cz B d=(True,(iD B d).val):=by unfold iD cz at*;grind[arz,ary]
theorem arA:∀{ds:Ab} {B:List ae},(fH B ds).pre->bq B ds=(True,(fH B ds).dK)
 |[],_,_=>rfl
 |d::ds,B,h=>by
  simp only[fH,bq]at h|-;rw[adt h.1];have hv:bq B ds=bq (iD B d).B ds:=by
   have hf:=y4 B d h.1;generalize (iD B d).B=cU at hf;clear h;have h1:∀x,b8 cU x=b8 B x:=λx=>by unfold b8;rw[hf.elems];cases x<;>simp only[hf.kT]
   have h2:∀xs,fK cU xs=fK B xs:=λxs=>by induction xs<;>simp_all[fK]
   have h3:∀x,cz cU x=cz B x:=λx=>by unfold cz;simp_all
   induction ds<;>simp_all[bq]
  rw[hv,arA h.2];simp
theorem M5(C:dJ)(t:List ae){B:List ae}{f:FuncId}{args:Ab}(h:(bj C B f args).pre):
 (bj C (B++t) f args).pre/\(bj C (B++t) f args).val=(bj C B f args).val/\(bj C (B++t) f args).B=(bj C B f args).B++t:=by
 unfold bj at h|-;dsimp only at h|-;split at h<;>simp_all[arx,gr,trivial,bq,arA,ba,ads]
theorem aqh(C:dJ)(d:aT)(R:List (Nat×J))(B t:List ae)(hk:d.kind=2)(h:(au C d ⟨R,B⟩).pre):
 (au C d ⟨R,B++t⟩).pre/\(au C d ⟨R,B++t⟩).val=(au C d ⟨R,B⟩).val/\(au C d ⟨R,B++t⟩).B=(au C d ⟨R,B⟩).B++t:=by
 cases d<;>simp only[aT.kind,reduceCtorEq,Nat.reduceEqDiff]at hk<;>simp only[au]at h|-;case rY f xs=>exact M5 C t h
 case Bm f xs=>exact h.elim
 case S5 x=>rw[aiV t h];simp_all
 case oD f xs=>
  split at h
  .exact M5 C t h
  .exact M5 C t h
  .exact h.elim
theorem axS(C:dJ)(d:aT)(R:List (Nat×J))(B eZ:List ae)(hl:eZ.length=B.length)(hk:d.kind=4)(h:(au C d ⟨R,B⟩).pre):
 (au C d ⟨R,eZ⟩).pre/\(au C d ⟨R,eZ⟩).val=(au C d ⟨R,B⟩).val/\∃t,(au C d ⟨R,B⟩).B=B++t/\(au C d ⟨R,eZ⟩).B=eZ++t:=by
 cases d<;>simp only[aT.kind,reduceCtorEq,Nat.reduceEqDiff]at hk<;>simp only[au]at h|-;case alloc z=>simp_all
 case zB=>simp_all
 case box x=>simp_all
 case make z a b=>
  split at h
  .simp_all
  .exact h.elim
 case Ol z x=>
  split at h
  .simp_all
  .exact h.elim
end Go.Nk
