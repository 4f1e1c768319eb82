/- Freezing values; new blocks. -/
import Derived.Test.YtldnkkkooabaeaaGreatNkG
import Derived.MapKept
import Derived.RangeFuncOwn
import Derived.RangeFuncLeaves
import Derived.RangeFuncRecord
import Derived.OrdersIn
import Derived.TacticsIn
import Derived.Sort.LoopGhostIn
set_option linter.all false
namespace Go.Nk
open Go.RowKit
section
variable {P:Program} {K F F':Nat->Prop} {σ Be:Nat->BI} {B cU:List ae} {w w':World} {R:List (Nat×J)} {a:Act} {o:Oper}
theorem aC.HF{d:J}{v:Value}(h:aC F σ B w d v)(Z:d.bl=true):cB F w d v:=by cases h<;>first|assumption|simp[J.bl]at Z
theorem KI{d:J}(Z:d.bl=true):d.one=true:=by cases d<;>first|rfl|simp[J.bl]at Z
theorem ag0{es:List Ab}{i j:Nat}{d:J}(h:cellAt es i j=some d):∃e∈es,d∈e:=by
 unfold cellAt at h;cases he:es[i]? with
 |none=>simp_all
 |some e=>rw[he]at h;exact⟨e,ed he,ed h⟩
def Kw [Inhabited Env](K F:Nat->Prop)(σ:Nat->BI)(B:List ae)(w:World)(F':Nat->Prop)(cU:List ae):Prop:=
 bH K F' σ cU w/\jd K F w F' w/\HM F σ B w F' σ cU w
theorem Kw.refl [Inhabited Env](I:bH K F σ B w):Kw K F σ B w F B:=⟨I,.refl _ _ _,.refl _ _ _ _⟩
theorem Kw.trans [Inhabited Env]{Kg:Nat->Prop}{XT:List ae}(h:Kw K F σ B w F' cU)(k:Kw K F' σ cU w Kg XT):Kw K F σ B w Kg XT:=
 ⟨k.1,h.2.1.trans k.2.1,h.2.2.trans k.2.2⟩
theorem aye [Inhabited Env](I:bH K F σ B w){h:Nat}{ob:ae}(eX:B[h]? =some ob)(hk:ob.k= .aV\/ob.k= .A6):
 ∃F',Kw K F σ B w F' (iS B h)/\∀g,σ h=some g->F' g:=by
 unfold iS;simp only[eX];rcases hk with hk|hk
 .obtain⟨h1,h2,h3⟩:=I.freeze eX hk;exact⟨_,⟨h1,h2,h3⟩,λg hg=> .inr hg⟩
 .have hl:h<B.length:=by grind
  have e:B.set h {ob with k:= .A6}=B:=by
   have:({ob with k:= .A6}:ae)=ob:=by cases ob;simp_all
   rw[this];apply FX;grind
  rw[e];exact⟨F,.refl I,λg hg=>I.xU eX hk hg⟩
def dX(An:J->Value->Prop)(ds:Ab)(vs:List Value):Prop:=
 ds.length=vs.length/\∀(j:Nat) (d:J),ds[j]? =some d->∃u,vs[j]? =some u/\An d u
theorem aiW [Inhabited Env](I:bH K F σ B w){d:J}{v:Value}(hv:aC F σ B w d v)(h:(ik B d).pre):
 ∃F',Kw K F σ B w F' (ik B d).B/\cB F' w (ik B d).val v/\(ik B d).val.one=true:=by
 unfold ik at h|-;split at h
 .rename_i h' L off len;have eX:∃ob,B[h']? =some ob/\(ob.k= .aV\/ob.k= .A6):=by simp only[bc]at h;grind
  obtain⟨ob,eX,hk⟩:=eX;obtain⟨F',Mj,hF'⟩:=aye I eX hk;obtain⟨A,c,z,rfl,Fh,hz,hA,_⟩:=tH I hv h (by simp);refine⟨F',Mj,cB.Ov Fh hz λbP=>?_,rfl⟩;obtain⟨b,hb,Z3,hF,hc⟩:=hA bP;refine⟨b,hb,Z3,?_,λi j e he=>?_⟩
  .rcases hF with hF|⟨h1,L1,o1,l1,Y,e2⟩
   .exact Mj.2.1.mono _ hF
   simp_all
  .obtain⟨u,hu,h1,E⟩:=hc i j e he;exact⟨u,hu,h1,E.mono Mj.2.1.mono Mj.2.1.ck⟩
 .have:=hv.lM;subst this;exact⟨F,.refl I,cB.Ov (es:=[]) (z:=0) (By _) (λi e he=>by simp at he) (λh=>absurd rfl h),rfl⟩
 .obtain⟨vs,rfl,hl,E⟩:=hv.DF;refine⟨F,.refl I,?_,rfl⟩;obtain⟨vv,v1,v2⟩:=XW (vs:=vs) (An:=cB F w) λj d Z=>let⟨u,hu,tO⟩:=E j d Z;⟨u,hu,tO.HF (BE.1 h d (ed Z))⟩;exact .Bg _ _ vs hl vv v1 v2
 .split at h
  next hi=>rw[gr hi];exact⟨F,.refl I,hv.HF hi,KI hi⟩
  simp_all
theorem dX.cons{An:J->Value->Prop}{d:J}{ds:Ab}{vs:List Value}(h:dX An (d::ds) vs):∃v us,vs=v::us/\An d v/\dX An ds us:=by
 obtain⟨hl,E⟩:=h;cases vs with
 |nil=>simp at hl
 |cons v us=>
  obtain⟨u,hu,h0⟩:=E 0 d rfl;simp at hu;subst hu;exact⟨_,_,rfl,h0,by simp_all,λj e he=>by simpa using E (j+1) e (by simp_all)⟩
theorem dX.Xj{An:J->Value->Prop}{vs:List Value}(h:dX An [] vs):vs=[]:=ME h.1.symm
theorem dX.iC{An:J->Value->Prop}{d:J}{ds:Ab}{v:Value}{vs:List Value}(h:An d v)(k:dX An ds vs):dX An (d::ds) (v::vs):=
 ⟨by simp[k.1],λj e he=>by
  cases j with
  |zero=>simp_all
  |succ j=>simpa using k.2 j e (by simp_all)⟩
theorem dX.lL{An:J->Value->Prop}:dX An [] []:=⟨rfl,λj e he=>by simp at he⟩
theorem dX.imp{An R':J->Value->Prop}{ds:Ab}{vs:List Value}(h:dX An ds vs)(hR:∀d v,An d v->R' d v):dX R' ds vs:=
 ⟨h.1,λj d Z=>let⟨u,hu,E⟩:=h.2 j d Z;⟨u,hu,hR _ _ E⟩⟩
def CW(F:Nat->Prop)(w:World)(d:J)(v:Value):Prop:=cB F w d v/\d.one=true
theorem Qd [Inhabited Env]:∀{ds:Ab} {vs:List Value} {B:List ae} {F:Nat->Prop},bH K F σ B w->dX (aC F σ B w) ds vs->(ug B ds).pre->
 ∃F',Kw K F σ B w F' (ug B ds).B/\dX (CW F' w) (ug B ds).dK vs
 |[],vs,B,F,I,hv,_=>⟨F,.refl I,by rw[hv.Xj];exact .lL⟩
 |d::ds,vs,B,F,I,hv,h=>by obtain⟨v,us,rfl,h0,E⟩:=hv.cons;obtain⟨lO,eZ⟩:=h;obtain⟨F1,f1,r1,o1⟩:=aiW I h0 lO;obtain⟨F2,f2,r2⟩:=Qd f1.1 (E.imp λd v h=>h.mono f1.2.2) eZ;exact⟨F2,f1.trans f2,.iC ⟨r1.mono f2.2.1.mono f2.2.1.ck,o1⟩ r2⟩
def Zt(An:J->Value->Prop):List Ab->List (List Value)->Prop
 |[],[]=>True
 |e::es,v::vs=>dX An e v/\Zt An es vs
 |_,_=>False
theorem Zt.imp{An R':J->Value->Prop}(hR:∀d v,An d v->R' d v):∀{es:List Ab} {vs:List (List Value)},Zt An es vs->Zt R' es vs
 |[],[],_=>trivial
 |_::_,_::_,h=>⟨h.1.imp hR,h.2.imp hR⟩
 |[],_::_,h=>h.elim
 |_::_,[],h=>h.elim
theorem adv [Inhabited Env]:∀{es:List Ab} {vs:List (List Value)} {B:List ae} {F:Nat->Prop},bH K F σ B w->Zt (aC F σ B w) es vs->(wA B es).pre->
 ∃F',Kw K F σ B w F' (wA B es).B/\Zt (CW F' w) (wA B es).dK vs
 |[],[],B,F,I,_,_=>⟨F,.refl I,BB⟩
 |e::es,v::vs,B,F,I,hv,h=>by obtain⟨lO,eZ⟩:=h;obtain⟨F1,f1,r1⟩:=Qd I hv.1 lO;obtain⟨F2,f2,r2⟩:=adv f1.1 (hv.2.imp λd v h=>h.mono f1.2.2) eZ;exact⟨F2,f1.trans f2,r1.imp λd v h=>⟨h.1.mono f2.2.1.mono f2.2.1.ck,h.2⟩,r2⟩
 |[],_::_,_,_,_,h,_=>h.elim
 |_::_,[],_,_,_,h,_=>h.elim
theorem DK{d:J}{v:Value}(hv:aC F σ B w d v)(h1:∀e∈cellsOf d,e.one=true):dX (aC F σ B w) (cellsOf d) v.cells.toList:=by
 unfold cellsOf at h1|-;split
 .obtain⟨vs,rfl,hl,E⟩:=hv.rm;exact⟨by simpa[Value.cells]using hl,λj e he=>by simp_all[Value.cells]⟩
 .rename_i bP;have ho:d.one=true:=by simp_all
  have hc:v.cells= #[v]:=by have:=hv.xH ho;cases v<;>first|rfl|simp[Value.oneCell']at this
  rw[hc];exact .iC hv .lL
theorem HG{d:J}{v:Value}(hv:aC F σ B w d v)(Z:d≠ .undef):dX (aC F σ B w) (cellsOf d) v.cells.toList:=by
 by_cases ho:d.one=true
 .have hc:cellsOf d=[d]:=by cases d<;>first|rfl|simp[J.one]at ho
  exact DK hv (by simp_all)
 .cases d<;>first|exact absurd rfl ho|skip
  .simp_all
  next cs=>obtain⟨vs,rfl,hl,E⟩:=hv.rm;exact⟨by simpa[Value.cells,cellsOf]using hl,λj e he=>by obtain⟨u,hu,E⟩:=E j e he;exact⟨u,by simpa[Value.cells]using hu,E⟩⟩
  next cs=>obtain⟨vs,rfl,hl,E⟩:=hv.Kx;simp only[cellsOf,Value.cells];exact .iC hv .lL
theorem aov{z:Nat}:∀{es:List Ab} {vs:List (List Value)} {An:J->Value->Prop},Zt An es vs->(∀e∈es,e.length=z)->
 vs.flatten.length=es.length*z/\∀i j d,cellAt es i j=some d->∃u,vs.flatten[i*z+j]? =some u/\An d u
 |[],[],An,_,_=>⟨by simp,λi j d h=>by simp[cellAt]at h⟩
 |e::es,v::vs,An,h,hz=>by
  obtain⟨hl,E⟩:=aov h.2 (λx U=>hz x (by simp[U]));have he:=hz e (by simp);have hv:v.length=z:=by rw[<-h.1.1,he]
  refine⟨by grind,λi j d Z=>?_⟩;cases i with
  |zero=>
   simp[cellAt]at Z;obtain⟨u,hu,hR⟩:=h.1.2 j d Z;grind
  |succ i=>
   obtain⟨u,hu,hR⟩:=E i j d (by simpa[cellAt]using Z);grind
 |[],_::_,_,h,_=>h.elim
 |_::_,[],_,h,_=>h.elim
theorem aiX [Inhabited Env](I:bH K F σ B w){w':World}(os:w'.os=w.os)(tape:w'.tape=w.tape)(output:w'.output=w.output)(size:w'.heap.size=w.heap.size+1)(heap:∀b,b<w.heap.size->w'.heap[b]? =w.heap[b]?)
 (ob:ae) (hk:ob.k= .aV\/ob.k= .loc)
 (hb:HM F σ B w F (λx=>if x=B.length then some w.heap.size else σ x) (B++[ob]) w'->GQ w' w.heap.size ob.z ob.es (λd v=>if ob.k= .loc then aC F (λx=>if x=B.length then some w.heap.size else σ x) (B++[ob]) w' d v else cB F w' d v/\d.one=true)):
 bH K F (λx=>if x=B.length then some w.heap.size else σ x) (B++[ob]) w'/\jd K F w F w'/\HM F σ B w F (λx=>if x=B.length then some w.heap.size else σ x) (B++[ob]) w':=by
 have c:FN K F σ B w B.length ob F (λx=>if x=B.length then some w.heap.size else σ x) (B++[ob]) w':=
  {os:=os,tape:=tape,output:=output,size:=by omega,hF:=λ_ h=>h,newF:=λ_ h=> .inl h,OS:=λb h=>by have:=I.fb b h;omega
   heap:=λb h _=>heap b h,Dk:= .inr ⟨rfl,rfl⟩,sig:=λh' bP=>by simp[bP],z7:=λg hg=> .inr (by simp_all),grow:=λoh tR=>by simp at tR}
 have hm:=c.hm I;refine⟨c.D2 I ?_,c.vb I,hm⟩;have hb':=hb hm;have nF:¬F w.heap.size:=λh=>by have:=I.fb _ h;omega
 have nK:¬K w.heap.size:=λh=>by have:=I.kb _ h;omega
 unfold gv;rcases hk with hk|hk<;>simp_all
theorem auk{z:Nat}{es:List Ab}{k:Kd}{L:Nat}(hL:es.length=L):
 aC F (λx=>if x=B.length then some w.heap.size else σ x) (B++[⟨k,z,es⟩]) w' (.ptr B.length L 0 0) (.pointer (some ⟨w.heap.size,0,none⟩)):=by
 refine .ptr _ _ _ _ _ rfl (by simp) λo ho=>?_;grind
theorem aul{z:Nat}{es:List Ab}{k:Kd}{len cap:Nat}(hlen:len=es.length)(hc:len<=cap)(hb:cap*z<=WY w' w.heap.size):
 aC F (λx=>if x=B.length then some w.heap.size else σ x) (B++[⟨k,z,es⟩]) w' (.own B.length len 0 len) (.slice (some ⟨w.heap.size,0,none⟩) len cap):=by
 refine .own _ _ _ _ _ rfl (by simp) λo ho=>?_;have:o=⟨k,z,es⟩:=by simp_all
 subst this;exact⟨by simp[hlen],λ_ _=>⟨_,cap,rfl,hc,.inr ⟨w.heap.size,by simp,by simp,by simp_all⟩⟩⟩
theorem iZ(ob:Obj):∀b,b<w.heap.size->(w.alloc ob).heap[b]? =w.heap[b]? :=λb hb=>Below.heap_alloc w ob b hb
theorem aoD [Inhabited Env](I:bH K F σ B w)(t:TypeId){cs:Ab}{c:Array Value}(h:dX (aC F σ B w) cs c.toList):
 dM K F σ B w (.ptr B.length 1 0 0) (B++[⟨.loc,cs.length,[cs]⟩]) (.pointer (some ⟨w.heap.size,0,none⟩)) (w.alloc (.cells c t)):=by
 obtain⟨h1,h2,h3⟩:=aiX (w':=w.alloc (.cells c t)) I rfl rfl rfl (by simp) (iZ _) ⟨.loc,cs.length,[cs]⟩ (.inr rfl) (λhm=>by
  simp only[Bp];refine⟨c,t,heap_alloc_new w _,?_,λi e he=>?_,λi j d Z=>?_⟩
  .have:=h.1;simp_all
  .grind
  .cases i with
   |zero=>
    simp[cellAt]at Z;obtain⟨u,hu,E⟩:=h.2 j d Z;exact⟨u,by simp_all,E.mono hm⟩
   |succ i=>simp[cellAt]at Z)
 exact⟨F,_,h1,h2,h3,auk rfl⟩
theorem aFC [Inhabited Env](I:bH K F σ B w){h:Nat}{o0:ae}(h0:B[h]? =some o0)(Z:o0.k= .dead)(he:o0.es=[])(t:TypeId){cs:Ab}{c:Array Value}(hv:dX (aC F σ B w) cs c.toList):
 dM K F σ B w (.ptr h 1 0 0) (B.set h ⟨.loc,cs.length,[cs]⟩) (.pointer (some ⟨w.heap.size,0,none⟩)) (w.alloc (.cells c t)):=by
 have hl:h<B.length:=(pc.1 h0).1;have cg:FN K F σ B w h ⟨.loc,cs.length,[cs]⟩ F (λx=>if x=h then some w.heap.size else σ x) (B.set h ⟨.loc,cs.length,[cs]⟩) (w.alloc (.cells c t)):=
  {os:=rfl,tape:=rfl,output:=rfl,size:=by simp,hF:=λ_ h=>h,newF:=λ_ h=> .inl h,OS:=λb h=>by have:=I.fb b h;simp;omega
   heap:=λb hb _=>iZ _ b hb,Dk:= .inl ⟨hl,rfl⟩,sig:=λh' bP=>by simp[bP],z7:=λg hg=> .inr (by simp_all)
   grow:=λoh tR=>by simp_all}
 have hm:=cg.hm I;have nF:¬F w.heap.size:=λh=>by have:=I.fb _ h;omega
 have nK:¬K w.heap.size:=λh=>by have:=I.kb _ h;omega
 refine⟨F,_,cg.D2 I ?_,cg.vb I,hm,.ptr _ _ _ _ _ rfl (by simp_all) λo' jP=>?_⟩
 .unfold gv;dsimp only;refine⟨w.heap.size,by simp,nF,nK,c,t,heap_alloc_new w _,?_,λi e he=>?_,λi j d Z=>?_⟩
  .have:=hv.1;simp_all
  .grind
  .cases i with
   |zero=>
    simp[cellAt]at Z;obtain⟨u,hu,E⟩:=hv.2 j d Z;exact⟨u,by simp_all,E.mono hm⟩
   |succ i=>simp[cellAt]at Z
 grind
theorem aBD [Inhabited Env]{t:TypeId}{x:Operand}{x':DA}(I:bH K F σ B w)(ho:o.op= .box t x)(hf:jZ F σ B w R a.tmps)(U:cK x x'=true)(h1:∀d∈cellsOf (x'.ev R),d.one=true):
 ∃v w',(execOp a.eval o).run P w= .ok (.value v) w'/\dM K F σ B w (.ptr B.length 1 0 0) (B++[⟨.loc,(cellsOf (x'.ev R)).length,[cellsOf (x'.ev R)]⟩]) v w':=
 ⟨_,_,by simp[execOp,ho,Instr.box,newVar,newRow],aoD I t (DK (aD hf U) h1)⟩
theorem adw{vs:List Value}{ds:Ab}(h:ry vs ds=true):dX (CW F w) ds vs:=tJ h
theorem aFB [Inhabited Env]{t:TypeId}{i:TypeInfo}{z:Value}{zero:Ab}(I:bH K F σ B w)(ho:o.op= .alloc t)(hi:P.info? t=some i)(hz:i.zero=some z)(hm:sY z.cells.toList zero=true){h:Nat}{o0:ae}(h0:B[h]? =some o0)(Z:o0.k= .dead)(he:o0.es=[]):
 ∃v w',(execOp a.eval o).run P w= .ok (.value v) w'/\dM K F σ B w (.ptr h 1 0 0) (B.set h ⟨.loc,zero.length,[zero]⟩) v w':=
 ⟨_,_,by simp_all[execOp,Instr.alloc,newVar,newRow,zeroValue,typeInfo],aFC I h0 Z he t (xI hm)⟩
theorem auh [Inhabited Env]{t:TypeId}{i:TypeInfo}{z:Value}{zero:Ab}(I:bH K F σ B w)(ho:o.op= .alloc t)(hi:P.info? t=some i)(hz:i.zero=some z)(hm:sY z.cells.toList zero=true):
 ∃v w',(execOp a.eval o).run P w= .ok (.value v) w'/\dM K F σ B w (.ptr B.length 1 0 0) (B++[⟨.loc,zero.length,[zero]⟩]) v w':=
 ⟨_,_,by simp_all[execOp,Instr.alloc,newVar,newRow,zeroValue,typeInfo],aoD I t (xI hm)⟩
end
end Go.Nk
set_option linter.all false
namespace Go.Nk
open Go.RowKit
section
variable {P:Program} {K F F':Nat->Prop} {σ Be:Nat->BI} {B cU:List ae} {w w':World} {R:List (Nat×J)} {a:Act} {o:Oper}
theorem apc(off:Nat):∀(l:List Value) (s:Nat) (cs:Array Value),
 ((l.zipIdx s).foldl (λ(cs:Array Value) (x:Value×Nat)=>cs.setIfInBounds (off+x.2) x.1) cs).size=cs.size/\
 ∀k,((l.zipIdx s).foldl (λ(cs:Array Value) (x:Value×Nat)=>cs.setIfInBounds (off+x.2) x.1) cs)[k]? =if off+s<=k/\k<off+s+l.length/\k<cs.size then l[k-off-s]? else cs[k]?
 |[],s,cs=>⟨by simp,λk=>by simp;omega⟩
 |v::l,s,cs=>by obtain⟨h1,h2⟩:=apc off l (s+1) (cs.setIfInBounds (off+s) v);simp only[List.zipIdx_cons,S2];refine⟨by rw[h1];simp,λk=>?_⟩;rw[h2 k];simp only[Array.size_setIfInBounds,IS];by_cases hk:k=off+s<;>grind
def zJ(off:Nat)(v cs:Array Value):Array Value:=v.zipIdx.foldl (λcs (c,j)=>cs.setIfInBounds (off+j) c) cs
theorem apw(off:Nat)(v:Array Value)(cs:Array Value):
 (zJ off v cs).size=cs.size/\∀k,(zJ off v cs)[k]? =if off<=k/\k<off+v.size/\k<cs.size then v[k-off]? else cs[k]? :=by
 have e:zJ off v cs=((v.toList.zipIdx 0).foldl (λ(cs:Array Value) (x:Value×Nat)=>cs.setIfInBounds (off+x.2) x.1) cs):=by grind[zJ,Array.toList_zipIdx]
 simp_all[apc]
theorem AP:∀(cs row:Ab) (j:Nat),(setFrom row j cs).length=row.length/\
 ∀k,(setFrom row j cs)[k]? =if j<=k/\k<j+cs.length/\k<row.length then cs[k-j]? else row[k]?
 |[],row,j=>⟨rfl,λk=>by simp[setFrom];omega⟩
 |c::cs,row,j=>by obtain⟨h1,h2⟩:=AP cs (row.set j c) (j+1);simp only[setFrom];grind
theorem aqH{d:J}(h:d.D1=false):d≠ .undef:=by rintro rfl;simp[J.D1]at h
theorem HH(hf:jZ F σ B w R a.tmps)(place:Nat->Option (Nat×Nat)):∀(ps:List (Nat×Operand)) (parts:List (Nat×Nat×DA)) (ds:Ab) (cells:Array Value),
 HI place ps parts=true->dX (aC F σ B w) ds cells.toList->(bC ds R parts).1->
 ∃CY,Instr.fill place cells (ps.map λ(i,x)=>(i,a.eval x))=some CY/\dX (aC F σ B w) (bC ds R parts).2 CY.toList
 |[],[],ds,cells,_,h,_=>⟨cells,rfl,h⟩
 |(i,x)::ps,(off,n,y)::parts,ds,cells,hm,h,hb=>by
  simp only[HI,ab,ir]at hm;obtain⟨⟨PJ,U⟩,hm⟩:=hm;obtain⟨hu,hn,aKX,hb⟩:=hb;have hc:=HG (aD hf U) (aqH hu);have lP:(a.eval x).cells.size=n:=by rw[<-hn,hc.1];simp
  have hds:ds.length=cells.size:=by simpa using h.1
  obtain⟨f1,f2⟩:=apw off (a.eval x).cells cells;obtain⟨s1,s2⟩:=AP (cellsOf (y.ev R)) ds off;obtain⟨CY,Y,e2⟩:=HH hf place ps parts (setFrom ds off (cellsOf (y.ev R))) (zJ off (a.eval x).cells cells) hm
   (⟨by simp_all,λk d Z=>by
     rw[s2 k]at Z;split at Z
     next hk=>obtain⟨u,hu,E⟩:=hc.2 _ _ Z;grind
     next hk=>obtain⟨u,hu,E⟩:=h.2 _ _ Z;grind⟩) hb
  refine⟨CY,?_,e2⟩;simp only[p0,Instr.fill,PJ];rw[ba]
  .exact Y
  simp_all
 |[],_::_,_,_,hm,_,_=>by simp[HI]at hm
 |_::_,[],_,_,hm,_,_=>by simp[HI]at hm
theorem aqI(f:Field->Sem (Nat×Nat))(g:Field->Nat×Nat)(fs:Array Field)(h:∀x∈fs.toList,(f x).run P w= .ok (g x) w):(fs.mapM f).run P w= .ok (fs.map g) w:=by
 have key:∀l:List Field,(∀x∈l,(f x).run P w= .ok (g x) w)->(l.mapM f).run P w= .ok (l.map g) w:=by intro l;induction l<;>simp_all
 rw[Array.mapM_eq_mapM_toList];rw[Sem.run_map,key fs.toList h];simp only[Result.andThen_ok];congr 1;grind
theorem aug{t:TypeId}{ps:Array (Nat×Operand)}{zero:Ab}{parts:List (Nat×Nat×DA)}(ho:o.op= .build t ps)(hm:Up P (.build t ps) (.build zero parts)=true)(hf:jZ F σ B w R a.tmps)
 (h:(bC zero R parts).1):gS P F σ B w o a (.agg (bC zero R parts).2):=by
 simp only[Up,ab]at hm;obtain⟨hz,hm⟩:=hm;cases hi:P.info? t with
 |none=>simp_all
 |some i=>
  simp only[hi]at hz;cases uY:i.zero with
  |none=>simp_all
  |some z=>
   simp only[uY]at hz;have UJ:dX (aC F σ B w) zero z.cells.toList:=xI hz;have WQ:(zeroValue t).run P w= .ok z w:=by simp[zeroValue,typeInfo,hi,uY]
   have hl:(ps.map λx=>match x with|(i,x)=>(i,a.eval x)).toList=ps.toList.map λ(i,x)=>(i,a.eval x):=by simp
   split at hm
   .rename_i fs hu;simp only[ab,BE]at hm;obtain⟨su,hm⟩:=hm;obtain⟨CY,Y,e2⟩:=HH hf _ _ _ _ _ hm UJ h;have PJ:(fs.mapM λf=>do pure (f.offset,<-sizeOf f.type):Sem (Array (Nat×Nat))).run P w= .ok (fs.map λf=>(f.offset,P.cellsOf f.type)) w:=by refine aqI _ _ _ λx U=>?_;obtain⟨j,hj⟩:=Option.isSome_iff_exists.1 (su x U);simp[sizeOf,typeInfo,hj,Program.cellsOf]
    have aFD:(λ(i:Nat)=>(fs.map λf=>(f.offset,P.cellsOf f.type))[i]?)=λ(i:Nat)=>(fs[i]?).bind λ(f:Field)=>(P.info? f.type).map λj=>(f.offset,j.size):=by grind[Option.isSome_iff_exists,Array.mem_of_getElem?,Program.cellsOf]
    refine⟨.agg CY,?_,aC.wc (by simpa using e2.1) λj d Z=>by obtain⟨u,hu,E⟩:=e2.2 j d Z;simp_all⟩
    simp only[execOp,ho,Instr.build,Sem.run_bind,WQ,Result.andThen_ok,bO hu,PJ,aFD,hl,Y,Sem.run_pure]
   .rename_i n e hu;cases hj:P.info? e with
    |none=>simp_all
    |some j=>
     simp only[hj]at hm;obtain⟨CY,Y,e2⟩:=HH hf _ _ _ _ _ hm UJ h;refine⟨.agg CY,?_,aC.wc (by simpa using e2.1) λj d Z=>by obtain⟨u,hu,E⟩:=e2.2 j d Z;simp_all⟩
     have lP:(sizeOf e).run P w= .ok j.size w:=by simp[sizeOf,typeInfo,hj]
     simp only[execOp,ho,Instr.build,Sem.run_bind,WQ,Result.andThen_ok,bO hu,lP,hl,Y,Sem.run_pure]
   .cases hm
end
end Go.Nk
set_option linter.all false
namespace Go.Nk
open Go.RowKit
section
variable {P:Program} {K F F':Nat->Prop} {σ Be:Nat->BI} {B cU:List ae} {w w':World} {R:List (Nat×J)} {a:Act} {o:Oper}
def Rows(An:J->Value->Prop)(z:Nat)(es:List Ab)(c:Array Value):Prop:=
 c.size=es.length*z/\(∀(i:Nat) (e:Ab),es[i]? =some e->e.length=z)/\∀i j d,cellAt es i j=some d->∃u,c[i*z+j]? =some u/\An d u
theorem Rows.imp{An R':J->Value->Prop}{z:Nat}{es:List Ab}{c:Array Value}(h:Rows An z es c)(hR:∀d v,An d v->R' d v):Rows R' z es c:=
 ⟨h.1,h.2.1,λi j d Z=>let⟨u,hu,E⟩:=h.2.2 i j d Z;⟨u,hu,hR _ _ E⟩⟩
theorem aiY:∀{es:List Ab} {c:List Value} {An:J->Value->Prop} {z:Nat},c.length=es.length*z->(∀(i:Nat) (e:Ab),es[i]? =some e->e.length=z)->
 (∀i j d,cellAt es i j=some d->∃u,c[i*z+j]? =some u/\An d u)->∃vs,Zt An es vs/\vs.flatten=c
 |[],c,An,z,hl,_,_=>⟨[],trivial,by simp_all⟩
 |e::es,c,An,z,hl,hz,h=>by
  have he:=hz 0 e rfl;have hlen:z<=c.length:=by rw[hl,IS,GM];omega
  obtain⟨vs,h1,h2⟩:=aiY (es:=es) (c:=c.drop z) (An:=An) (z:=z) (by rw[S0,hl,IS,GM];omega) (λi e' he'=>hz (i+1) e' (by simp_all))
   (λi j d Z=>by obtain⟨u,hu,E⟩:=h (i+1) j d (by simpa[cellAt]using Z);grind)
  refine⟨c.take z::vs,⟨⟨by simp_all,λj d Z=>?_⟩,h1⟩,by simp[h2]⟩;obtain⟨u,hu,E⟩:=h 0 j d (by simpa[cellAt]using Z);grind
theorem aqJ{z i i' j:Nat}(hj:j<z)(h:i≠i'):¬(i*z<=i'*z+j/\i'*z+j<i*z+z):=by
 rintro⟨h1,h2⟩
 rcases Nat.lt_or_gt_of_ne h with h|h
 .have:(i+1)*z<=i'*z:=aba _ h;grind
 .have:(i'+1)*z<=i*z:=aba _ h;grind
theorem HJ(hf:jZ F σ B w R a.tmps)(z:Nat)(zero:Ab)(hz:zero.length=z):∀(parts:List (Option DA)) (i:Nat) (ps:List (Nat×Operand)) (pre:List Ab) (c:Array Value),
 AQ i ps parts=true->pre.length=i->Rows (aC F σ B w) z (pre++List.replicate parts.length zero) c->
 (parts.all (bU R zero))=true->
 ∃c',Instr.fill (λi=>some (i*z,z)) c (ps.map λ(i,x)=>(i,a.eval x))=some c'/\
  Rows (aC F σ B w) z (pre++parts.map (vN R zero)) c'
 |[],i,ps,pre,c,hm,bE,h,_=>by
  cases ps with
  |nil=>exact⟨c,rfl,by simpa using h⟩
  |cons p ps=>simp[AQ]at hm
 |none::parts,i,ps,pre,c,hm,bE,h,hu=>by obtain⟨c',Y,e2⟩:=HJ hf z zero hz parts (i+1) ps (pre++[zero]) c (by simpa[AQ]using hm) (by simp[bE]) (by grind) (by simp_all);simp_all[AT,vN]
 |some y::parts,i,ps,pre,c,hm,bE,h,hu=>by
  cases ps with
  |nil=>simp[AQ]at hm
  |cons p ps=>
   obtain⟨k,x⟩:=p;simp only[AQ,ab,GO]at hm;obtain⟨⟨rfl,U⟩,hm⟩:=hm;simp only[MM,bU,ab,aaa,GO]at hu;obtain⟨⟨hu1,hu2⟩,hu3⟩:=hu;have hc:=HG (aD hf U) (aqH hu1);have lP:(a.eval x).cells.size=z:=by rw[<-hz,<-hu2,hc.1];simp
   obtain⟨f1,f2⟩:=apw (k*z) (a.eval x).cells c;simp only[IS]at h;have hcs:=h.1;simp only[AS,XK,bE]at hcs;have hkz:k*z+z<=c.size:=by grind
   obtain⟨c',Y,e2⟩:=HJ hf z zero hz parts (k+1) ps (pre++[cellsOf (y.ev R)]) (zJ (k*z) (a.eval x).cells c) hm (by simp[bE])
    ⟨by simp_all,λi e he=>by
     by_cases xc:i=k
     .simp_all
     .refine h.2.1 i e ?_;grind,λi j d Z=>by
     by_cases xc:i=k
     .subst xc;have xo:(cellsOf (y.ev R))[j]? =some d:=by simp_all[cellAt,AT,IF]
      obtain⟨u,hu,E⟩:=hc.2 _ _ xo;grind
     .have xo:cellAt (pre++List.replicate (parts.length+1) zero) i j=some d:=by unfold cellAt at Z|-;grind
      obtain⟨u,hu,E⟩:=h.2.2 _ _ _ xo;have hjz:j<z:=by
       unfold cellAt at xo;cases he:(pre++List.replicate (parts.length+1) zero)[i]? with
       |none=>simp_all
       |some e=>
        simp[he]at xo;rw[<-h.2.1 i e he];grind
      refine⟨u,?_,E⟩;rw[f2,ba (by rw[lP];intro h3;exact aqJ hjz (Ne.symm xc) ⟨h3.1,h3.2.1⟩)];exact hu⟩ hu3
   refine⟨c',?_,by simpa[AT,vN]using e2⟩;simp only[p0,Instr.fill];rw[ba]
   .exact Y
   simp_all
theorem MZ{e:TypeId}{zero:Ab}(h:HK P e zero=true):
 ∃i z,P.info? e=some i/\i.zero=some z/\ry z.cells.toList zero=true/\i.size=zero.length/\0<i.size/\i.bytes<=32768/\z.cells.size=zero.length/\qW zero*i.bytes<=281474976710656:=by
 unfold HK at h;split at h
 .rename_i i hi;split at h
  next z hz=>simp only[ab,GO,ir]at h;obtain⟨⟨⟨⟨h1,h2⟩,h3⟩,h4⟩,h5⟩:=h;exact⟨i,z,hi,hz,h1,h2,h3,h4,by have:=(tJ (F:=λ_=>False) (w:=default) h1).1;simp_all,h5⟩
  .cases h
 .cases h
theorem M0{z:Value}{zero:Ab}(hm:ry z.cells.toList zero=true)(lP:z.cells.size=zero.length)(n:Nat):
 Rows (CW F w) zero.length (List.replicate n zero) ((Array.range (n*zero.length)).map (z.cells[·%z.cells.size]!)):=by
 refine⟨by simp,λi e he=>?_,λi j d Z=>?_⟩
 .grind
 .unfold cellAt at Z;rw[List.getElem?_replicate]at Z;split at Z
  .rename_i hi;simp at Z;obtain⟨u,hu,E⟩:=(adw (F:=F) (w:=w) hm).2 j d Z;have hj:j<zero.length:=(pc.1 Z).1;refine⟨u,?_,E⟩;have mP:i*zero.length+j<n*zero.length:=by have:(i+1)*zero.length<=n*zero.length:=aba _ hi;grind
   simp_all[Nat.mul_comm,Nat.mul_add_mod,Nat.mod_eq_of_lt,Array.getElem?_map,Array.getElem?_range,gr,Ka,getElem!_def]
  .simp at Z
theorem alH [Inhabited Env](I:bH K F σ B w){es:List Ab}{z cap:Nat}{c:Array Value}{t:TypeId}{mk:Nat×Nat}{w':World}(os:w'.os=w.os)(tape:w'.tape=w.tape)(output:w'.output=w.output)
 (size:w'.heap.size=w.heap.size+1) (heap:∀b,b<w.heap.size->w'.heap[b]? =w.heap[b]?) (hg:w'.heap[w.heap.size]? =some (.cells c t mk)) (hz:∀(i:Nat) (e:Ab),es[i]? =some e->e.length=z)
 (hc:∀i j d,cellAt es i j=some d->∃u,c[i*z+j]? =some u/\CW F w d u) (Tk:es.length<=cap):
 dM K F σ B w (.sl es) B (.slice (some ⟨w.heap.size,0,none⟩) es.length cap) w':=by
 obtain⟨h1,h2,h3⟩:=I.ext (w':=w') (F':=λb=>F b\/b=w.heap.size) os tape output (by omega) heap (λb h=> .inl h) (λb h=>h.imp id λe=>by omega) (λb h=>h.elim (λh=>by have:=I.fb b h;omega) λe=>by omega);refine⟨_,σ,h1,h2,h3,.aV (cB.Ov Tk hz λ_=>⟨_,rfl,rfl,.inr rfl,λi j d Z=>?_⟩)⟩;obtain⟨u,hu,E,Pa⟩:=hc i j d Z;exact⟨u,by rw[tK hg];simp_all,Pa,E.mono h3.mono h3.ck⟩
theorem ax7 [Inhabited Env]{t:TypeId}{x:Operand}{x':DA}(I:bH K F σ B w)(ho:o.op= .box t x)(hf:jZ F σ B w R a.tmps)(U:cK x x'=true)(h0:(cellsOf (x'.ev R)).all J.bl=true):
 ∃v w',(execOp a.eval o).run P w= .ok (.value v) w'/\dM K F σ B w (.ref (cellsOf (x'.ev R))) B v w':=by
 have h1:∀d∈cellsOf (x'.ev R),d.bl=true:=by simp_all
 have hv:=DK (aD hf U) (λd Z=>KI (h1 d Z));refine⟨.pointer (some ⟨w.heap.size,0,none⟩),w.alloc (.cells (a.eval x).cells t),by simp[execOp,ho,Instr.box,newVar,newRow],?_⟩;obtain⟨k1,k2,k3⟩:=I.ext (w':=w.alloc (.cells (a.eval x).cells t)) (F':=λb=>F b\/b=w.heap.size) rfl rfl rfl (by simp) (iZ _) (λb h=> .inl h) (λb h=>h.imp id λe=>by omega) (λb h=>h.elim (λh=>by have:=I.fb b h;simp;omega) λe=>by simp;omega);refine⟨_,σ,k1,k2,k3,.aV (.ref _ _ (λj=>((a.eval x).cells[j]?).getD undef) rfl (.inr rfl) (λj d Z=>?_) (λj d Z=>?_))⟩
 .obtain⟨u,hu,E⟩:=hv.2 j d Z;grind[KI,ed,tK,heap_alloc_new]
 .obtain⟨u,hu,E⟩:=hv.2 j d Z;have Ej:(a.eval x).cells[j]? =some u:=by simp_all
  rw[Ej];exact(E.HF (h1 d (ed Z))).mono k3.mono k3.ck
theorem M6 [Inhabited Env](I:bH K F σ B w){es:List Ab}{z cap:Nat}{c:Array Value}{t:TypeId}{w':World}(os:w'.os=w.os)(tape:w'.tape=w.tape)(output:w'.output=w.output)
 (size:w'.heap.size=w.heap.size+1) (heap:∀b,b<w.heap.size->w'.heap[b]? =w.heap[b]?) (hg:w'.heap[w.heap.size]? =some (.cells c t (0,0))) (hz:∀(i:Nat) (e:Ab),es[i]? =some e->e.length=z)
 (hc:∀i j d,cellAt es i j=some d->∃u,c[i*z+j]? =some u/\CW F w d u) (Tk:es.length<=cap) (Ur:cap*z<=c.size):
 dM K F σ B w (.own B.length es.length 0 es.length) (B++[⟨.aV,z,es⟩]) (.slice (some ⟨w.heap.size,0,none⟩) es.length cap) w':=by
 obtain⟨h1,h2,h3⟩:=aiX (w':=w') I os tape output size heap ⟨.aV,z,es⟩ (.inl rfl) (λhm=>by simp only[reduceCtorEq,Bv];refine⟨c,t,hg,D0 (aba _ Tk) Ur,hz,λi j d Z=>?_⟩;obtain⟨u,hu,E,Pa⟩:=hc i j d Z;exact⟨u,hu,E.mono hm.mono hm.ck,Pa⟩)
 refine⟨F,_,h1,h2,h3,aul rfl Tk ?_⟩;unfold WY;simp_all
theorem dM.KD [Inhabited Env]{F1:Nat->Prop}{lO eZ:List ae}{w1:World}{d:J}{v:Value}(f:Kw K F σ B w F1 lO)(h:dM K F1 σ lO w d eZ v w1):dM K F σ B w d eZ v w1:=by obtain⟨F',Be,h1,h2,h3,h4⟩:=h;exact⟨F',Be,h1,f.2.1.trans h2,f.2.2.trans h3,h4⟩
theorem aqA [Inhabited Env]{t e:TypeId}{n:Nat}{ps:Array (Nat×Operand)}{aV:Bool}{zero:Ab}{parts:List (Option DA)}(I:bH K F σ B w)(ho:o.op= .buildSlice t n ps)(ht:P.underlying t=some (.slice e))(xd:HK P e zero=true)
 (hn:n=parts.length) (hm:AQ 0 ps.toList parts=true) (O3:n*zero.length<=16777216) (hf:jZ F σ B w R a.tmps) (C:dJ)
 (h:(au C (.v7 aV zero parts) ⟨R,B⟩).pre):
 ∃v w',(execOp a.eval o).run P w= .ok (.value v) w'/\dM K F σ B w (au C (.v7 aV zero parts) ⟨R,B⟩).val (au C (.v7 aV zero parts) ⟨R,B⟩).B v w':=by
 obtain⟨i,z,hi,hz,Xk,lP,uK,Z4,Zp,hcp⟩:=MZ xd;have aBJ:0<zero.length:=by omega
 have pZ:=M0 (F:=F) (w:=w) Xk Zp parts.length;have hu:(parts.all (bU R zero))=true:=by cases aV<;>exact h.1
 obtain⟨c',Y,e2⟩:=HJ hf zero.length zero rfl parts 0 ps.toList [] _ hm rfl (by simpa using pZ.imp λd v h=> .aV h.1) hu;simp only[Bz]at e2;have hl:(ps.map λx=>match x with|(i,x)=>(i,a.eval x)).toList=ps.toList.map λ(i,x)=>(i,a.eval x):=by simp
 have z3:(execOp a.eval o).run P w= .ok (.value (.slice (some ⟨w.heap.size,0,none⟩) n n)) (w.alloc (.cells c' e)):=by
  have avY:¬(n*zero.length>2^24):=by omega
  have Dk:List.map (λx:Nat×Operand=>(x.fst,a.eval x.snd)) ps.toList=ps.toList.map λ(i,x)=>(i,a.eval x):=rfl;by_cases h0:n*zero.length=0
  .have xe:Instr.fill (λi=>some (i*zero.length,zero.length)) ((Array.range (n*zero.length)).map ((#[]:Array Value)[·%(#[]:Array Value).size]!)) (ps.toList.map λ(i,x)=>(i,a.eval x))=some c':=by grind
   simp only[execOp,ho,Instr.buildSlice,Sem.run_bind,bO ht,Result.andThen_ok,sizeOf,typeInfo,run_program,hi,lP,avY,Bv,Sem.run_pure,gr h0,hl,Dk,xe,newRow,run_newObj];rfl
  .have xe:Instr.fill (λi=>some (i*zero.length,zero.length)) ((Array.range (n*zero.length)).map (z.cells[·%z.cells.size]!)) (ps.toList.map λ(i,x)=>(i,a.eval x))=some c':=by simp_all
   have WQ:(zeroValue e).run P w= .ok z w:=by simp[zeroValue,typeInfo,hi,hz]
   simp only[execOp,ho,Instr.buildSlice,Sem.run_bind,bO ht,Result.andThen_ok,sizeOf,typeInfo,run_program,hi,lP,avY,Bv,Sem.run_pure,ba h0,WQ,hl,Dk,xe,newRow,run_newObj];rfl
 refine⟨_,_,z3,?_⟩;have hrw:∃vs,Zt (aC F σ B w) (parts.map (vN R zero)) vs/\vs.flatten=c'.toList:=
  aiY (by simpa using e2.1) e2.2.1 (λi j d Z=>by obtain⟨u,hu,E⟩:=e2.2.2 i j d Z;simp_all)
 obtain⟨vs,su,Mo⟩:=hrw;have bE:(wA B (parts.map (vN R zero))).pre/\∀e∈(wA B (parts.map (vN R zero))).dK,e.length=zero.length:=by cases aV<;>exact h.2
 obtain⟨F1,f1,r1⟩:=adv I su bE.1;obtain⟨g1,g2⟩:=aov r1 bE.2;have hlen:(wA B (parts.map (vN R zero))).dK.length=n:=by
  have h1:(wA B (parts.map (vN R zero))).dK.length*zero.length=parts.length*zero.length:=by rw[<-g1,Mo];simpa using e2.1
  grind[Nat.eq_of_mul_eq_mul_right]
 rw[Mo]at g1 g2;refine dM.KD f1 ?_;have uY:∀(i:Nat) (e:Ab),(wA B (parts.map (vN R zero))).dK[i]? =some e->e.length=zero.length:=λi e he=>bE.2 e (ed he);have DG:∀i j d,cellAt (wA B (parts.map (vN R zero))).dK i j=some d->∃u,c'[i*zero.length+j]? =some u/\CW F1 w d u:=λi j d Z=>by simp_all
 have aBK:n*zero.length<=c'.size:=by simp_all
 have ev:Value.slice (some ⟨w.heap.size,0,none⟩) n n= .slice (some ⟨w.heap.size,0,none⟩) (wA B (parts.map (vN R zero))).dK.length n:=by rw[hlen]
 rw[ev];cases aV
 .exact M6 f1.1 (w':=w.alloc (.cells c' e)) (cap:=n) rfl rfl rfl (by simp) (iZ _) (heap_alloc_new w _) uY DG (Nat.le_of_eq hlen) aBK
 .exact alH f1.1 (w':=w.alloc (.cells c' e)) (cap:=n) (t:=e) rfl rfl rfl (by simp) (iZ _) (heap_alloc_new w _) uY DG (Nat.le_of_eq hlen)
theorem ax6 [Inhabited Env]{t e:TypeId}{x y:Operand}{zero:Ab}{k k':IntKind}{m n:Int}(I:bH K F σ B w)(ho:o.op= .makeSlice t x y)(ht:P.underlying t=some (.slice e))(xd:HK P e zero=true)
 (U:a.eval x= .int k m) (hy:a.eval y= .int k' n) (h0:0<=m) (h1:m<=n) (h2:n<=qW zero):
 ∃v w',(execOp a.eval o).run P w= .ok (.value v) w'/\dM K F σ B w (.own B.length m.toNat 0 m.toNat) (B++[⟨.aV,zero.length,List.replicate m.toNat zero⟩]) v w':=by
 obtain⟨i,z,hi,hz,Xk,lP,uK,Z4,Zp,hcp⟩:=MZ xd;have hb:(i.bytes:Int)*n<=281474976710656:=by
  calc (i.bytes:Int)*n<=(i.bytes:Int)*(qW zero:Int):=Int.mul_le_mul_of_nonneg_left h2 (by omega)
   _=((qW zero*i.bytes:Nat):Int):=by grind
   _<=281474976710656:=by omega
 have Fh:qW zero<=17592186044416:=by unfold qW;grind
 have SZ:=run_make (P:=P) w t e i z ht hi hz k k' m n h0 h1 hb (by omega);have pZ:=M0 (F:=F) (w:=w) Xk Zp n.toNat;refine⟨_,_,by simp only[execOp,ho,U,hy,Sem.run_bind,SZ,Result.andThen_ok];rfl,?_⟩;have Dj:∀i j d,cellAt (List.replicate m.toNat zero) i j=some d->∃u,(madeCells z.cells (n.toNat*i*0+n.toNat*zero.length))[i*zero.length+j]? =some u/\CW F w d u:=by
  intro i j d Z;have xo:cellAt (List.replicate n.toNat zero) i j=some d:=by unfold cellAt at Z|-;grind
  obtain⟨u,hu,E⟩:=pZ.2.2 _ _ _ xo;exact⟨u,by simpa[madeCells]using hu,E⟩
 have:=M6 I (es:=List.replicate m.toNat zero) (z:=zero.length) (cap:=n.toNat) (w':=w.alloc (.cells (madeCells z.cells (n.toNat*i.size)) e)) rfl rfl rfl (by simp) (iZ _) (heap_alloc_new w _)
  (λi e he=>by
   grind) (λi' j d Z=>by
   simp_all) (by simp;omega) (by simp[madeCells,lP])
 simp_all
theorem Qb [Inhabited Env]{x:Operand}{z:Nat}(I:bH K F σ B w)(ho:o.op= .move x\/o.op= .assign x)(U:a.eval x= .slice none 0 0):
 ∃v w',(execOp a.eval o).run P w= .ok (.value v) w'/\dM K F σ B w (.own B.length 0 0 0) (B++[⟨.aV,z,[]⟩]) v w':=by
 refine⟨_,_,by rcases ho with ho|ho<;>simp only[execOp,ho,U]<;>rfl,?_⟩;have c:FN K F σ B w B.length ⟨.aV,z,[]⟩ F (λx=>if x=B.length then none else σ x) (B++[⟨.aV,z,[]⟩]) w:=
  {os:=rfl,tape:=rfl,output:=rfl,size:=By _,hF:=λ_ h=>h,newF:=λ_ h=> .inl h,OS:=I.fb,heap:=λb h _=>rfl,Dk:= .inr ⟨rfl,rfl⟩
   sig:=λh' bP=>by simp[bP],z7:=λg hg=>by simp at hg,grow:=λoh tR=>by simp at tR}
 refine⟨F,_,c.D2 I (.inl ⟨rfl,by simp⟩),c.vb I,c.hm I,.own _ _ _ _ _ rfl (by simp) λob eX=>?_⟩;have:ob=⟨.aV,z,[]⟩:=by simp_all
 subst this;exact⟨by simp,λ_ _=>⟨none,0,rfl,By _,.inl rfl⟩⟩
end
end Go.Nk
set_option linter.all false
namespace Go.Nk
open Go.RowKit
section
variable {P:Program} {K F F':Nat->Prop} {σ Be:Nat->BI} {B cU:List ae} {w w':World} {R:List (Nat×J)} {a:Act} {o:Oper}
theorem zI{t:TypeId}{z:Nat}(h:(HL P t z).isSome=true):∃e i zv,P.underlying t=some (.slice e)/\P.info? e=some i/\i.zero=some zv/\i.size=z/\0<z/\i.bytes<=32768/\zv.cells.size=z:=by grind[HL]
theorem yl{a:Addr}{n:Nat}(h:∀k,k<n->∃u,w.cell? (a.add k)=some u):
 ∀(j:Nat) (v:Value),((List.range n).map λk=>(w.cell? (a.add k)).getD undef)[j]? =some v->w.cell? (a.add j)=some v:=by
 grind
theorem aqC [Inhabited Env](I:bH K F σ B w){d:J}{v:Value}(hv:aC F σ B w d v)(h:(bc B d).pre){z:Nat}(uK:0<z)(hz:∀e∈(bc B d).es,e.length=z){u:TypeId}
 (D5:(∃e',P.underlying u=some (.slice e'))\/P.underlying u=some .string):
 ∃news,Src P z u v (bc B d).es.length news w/\(∀(i:Nat) (e:Ab),(bc B d).es[i]? =some e->e.length=z)/\
  ∀i j e,cellAt (bc B d).es i j=some e->∃x,news[i*z+j]? =some x/\CW F w e x:=by
 by_cases Ox:∃s,d= .str s
 .obtain⟨s,rfl⟩:=Ox;have D8:=hv.o8;subst D8;simp only[bc]at hz|-;have hz1:z=1\/s=[]:=by cases s<;>simp_all
  have ES:Src P 1 u (.string ⟨s.toArray⟩) (⟨s.toArray⟩:ByteArray).size (byteCells ⟨s.toArray⟩) w:=
   ⟨D5,λ_=>rfl,firstCells_string _ w,firstCells_string _ w.drew,by rw[byteCells_length,Nat.mul_one],λu hu=>by obtain⟨_,_,rfl⟩:=It.1 hu;rfl⟩
  rcases hz1 with rfl|rfl
  .refine⟨_,by simpa[ByteArray.size]using ES,λi e he=>?_,λi j e he=>?_⟩
   .grind
   .unfold cellAt at he;rw[M9]at he;cases hb:s[i]? with
    |none=>simp_all
    |some x=>
     simp[hb]at he;cases j with
     |zero=>simp at he;subst he;exact⟨_,by simp[byteCells,hb],.int _ _,rfl⟩
     |succ j=>simp at he
  .refine⟨[],⟨ES.kind,λ_=>rfl,?_,?_,by simp,λ_ h=>by cases h⟩,λi e he=>by simp at he,λi j e he=>by simp[cellAt]at he⟩;all_goals simp_all[Builtin.firstCells]
 .have aBL:∀s,d≠ .str s:=λs I=>Ox ⟨s,I⟩;obtain⟨A,c,z',rfl,Fh,uY,hA,hAn⟩:=tH I hv h aBL;generalize (bc B d).es=es at*;by_cases bP:es=[]
  .subst bP;refine⟨[],⟨D5,λ_=>rfl,?_,?_,by simp,λ_ h=>by cases h⟩,λi e he=>by simp at he,λi j e he=>by simp[cellAt]at he⟩
   .cases A<;>simp[Builtin.firstCells,loadCells,loadCellsFrom]
   .cases A<;>simp[Builtin.firstCells,loadCells,loadCellsFrom]
  .have UJ:z'=z:=by obtain⟨e0,Oz⟩:=List.exists_mem_of_ne_nil es bP;obtain⟨k0,Q8,rfl⟩:=Rm Oz;rw[<-uY k0 _ (tx Q8)];simp_all
   subst UJ;obtain⟨b,rfl,Mh,_,hc⟩:=hA bP;have hcell:∀k,k<es.length*z'->∃e u,w.cell? (b.add k)=some u/\CW F w e u:=by
    intro k hk;have hi:k/z'<es.length:=(Nat.div_lt_iff_lt_mul uK).2 hk;have oe:=uY (k/z') es[k/z'] (by simp[hi]);have hj:k%z'<es[k/z'].length:=by rw[oe];exact Nat.mod_lt _ uK
    obtain⟨u,hu,h1,E⟩:=hc (k/z') (k%z') (es[k/z'][k%z']) (by simp[cellAt,hi,hj]);refine⟨_,u,?_,E,h1⟩;simp_all[lY,Nat.mul_comm,Nat.div_add_mod]
   refine⟨(List.range (es.length*z')).map λk=>(w.cell? (b.add k)).getD undef,
    ⟨D5,λ_=>rfl,run_firstCells_some w _ _ _ _ c _ (by simp) (yl λk hk=>let⟨_,u,hu,_⟩:=hcell k hk;⟨u,hu⟩),run_firstCells_some w.drew _ _ _ _ c _ (by simp) (yl λk hk=>let⟨_,u,hu,_⟩:=hcell k hk;⟨u,hu⟩),by simp,λu hu=>?_⟩,uY,λi j e he=>?_⟩
   .obtain⟨k,hk,rfl⟩:=It.1 hu;obtain⟨e,u,hu,E⟩:=hcell k (by simp_all);rw[hu];exact E.1.xH
   .obtain⟨u,hu,h1,E⟩:=hc i j e he;have mP:i*z'+j<es.length*z':=by
     unfold cellAt at he;cases EH:es[i]? with
     |none=>simp_all
     |some row=>
      simp[EH]at he;have hi:=(pc.1 EH).1;have hj:=(pc.1 he).1;rw[uY i row EH]at hj;have:(i+1)*z'<=es.length*z':=aba _ hi;grind
    refine⟨u,?_,E,h1⟩;simp_all[M9,List.getElem?_range,lY]
theorem apy{xs ys:List Ab}{i j:Nat}{d:J}(h:cellAt (xs++ys) i j=some d):(i<xs.length/\cellAt xs i j=some d)\/(xs.length<=i/\cellAt ys (i-xs.length) j=some d):=by grind[cellAt,GK,OR,IF]
theorem uI{z:Nat}{es:List Ab}(hz:∀(i:Nat) (e:Ab),es[i]? =some e->e.length=z){i j:Nat}{d:J}(h:cellAt es i j=some d):i<es.length/\j<z/\i*z+j<es.length*z:=by
 unfold cellAt at h;cases he:es[i]? with
 |none=>simp_all
 |some e=>
  simp[he]at h;have hi:=(pc.1 he).1;have hj:=(pc.1 h).1;rw[hz i e he]at hj;have:(i+1)*z<=es.length*z:=aba _ hi;grind
theorem apz{z:Nat}{xs ys:List Ab}(U:∀(i:Nat) (e:Ab),xs[i]? =some e->e.length=z)(hy:∀(i:Nat) (e:Ab),ys[i]? =some e->e.length=z):
 ∀(i:Nat) (e:Ab),(xs++ys)[i]? =some e->e.length=z:=by
 grind
theorem apA{n b c:Nat}(h:c<n)(hn:n<=kM)(hb:b<=32768):Builtin.nextslicecap n c*b<=281474976710656:=by
 refine growslice_fits h ?_;have h1:n<=4294967296:=hn
 calc n*b<=4294967296*32768:=Nat.mul_le_mul h1 hb
  _=140737488355328:=by decide
theorem rA{xs:Array Operand}{t u:TypeId}{s x:Operand}{v:Value}{w':World}(ho:o.op= .call {callee:= .builtin .append,args:=xs,argTypes:= #[t,u]})(wy:xs= #[s,x])
 (h:(Builtin.append_ #[t,u] o.type #[a.eval s,a.eval x]).run P w= .ok v w'):(execOp a.eval o).run P w= .ok (.value v) w':=by
 simp_all[execOp,resolve,invoke,builtin]
theorem adx{g n:Nat}{cur:Array Value}{t:TypeId}{vs:List Value}(hg:w.heap[g]? =some (.cells cur t (0,0)))(uJ:n+vs.length<=cur.size)(h1:∀v∈vs,v.oneCell'=true):
 w.setCells g n vs=w.setRow g (cur.toList.take n++vs++cur.toList.drop (n+vs.length)).toArray:=by
 have Y:=run_storeCells_cells (P:=default) g n vs 0 w (λj hj=>by rw[tK hg];simp;omega) (λj hj=>by simp[World.frozen?,hg]) h1;have e2:=run_storeCells_at default g n t vs 0 cur w hg (by omega) h1;simp_all
theorem alI{c:Array Value}(k:Nat):c.toList[k]? =c[k]? :=by simp
theorem DL{cur:Array Value}{n:Nat}{vs:List Value}(uJ:n+vs.length<=cur.size)(k:Nat):
 ((cur.toList.take n++vs++cur.toList.drop (n+vs.length)).toArray)[k]? =if n<=k/\k<n+vs.length then vs[k-n]? else cur[k]? :=by
 rw[List.getElem?_toArray];have hl:(cur.toList.take n).length=n:=by simp;omega
 grind
structure App(P:Program)(i:TypeInfo)(zv:Value)(t u ty e:TypeId)(x:Value)(n:Nat)(news:List Value)(w:World):Prop where
 newsLen:news.length=n*i.size
 one:∀v∈news,v.oneCell'=true
 zero:n=0->∀A c,(Builtin.append_ #[t,u] ty #[.slice A 0 c,x]).run P w= .ok (.slice A 0 c) w
 room:∀b off sL BF:Nat,sL+n<=BF->(∀j,j<news.length->(w.cell? ⟨b,off+sL*i.size+j,none⟩).isSome=true)->(∀j,j<news.length->w.frozen? ⟨b,off+sL*i.size+j,none⟩=false)->
  (Builtin.append_ #[t,u] ty #[.slice (some ⟨b,off,none⟩) sL BF,x]).run P w= .ok (.slice (some ⟨b,off,none⟩) (sL+n) BF) (w.setCells b (off+sL*i.size) news)
 grow:∀(base:Option Addr) (sL BF:Nat) (ET:List Value),(Builtin.firstCells i.size sL (.slice base sL BF)).run P w.drew= .ok ET.toArray w.drew->BF<sL+n->((sL+n:Nat):Int)<=9223372036854775807->Builtin.nextslicecap (sL+n) BF*i.bytes<=281474976710656->
  (Builtin.append_ #[t,u] ty #[.slice base sL BF,x]).run P w=
   .ok (.slice (some ⟨w.heap.size,0,none⟩) (sL+n) (grownCap w (sL+n) BF e))
    (w.drew.alloc (.cells ((ET++news).toArray++Builtin.zeroCells zv.cells (grownCap w (sL+n) BF e-(sL+n))) e))
theorem App.avV{i:TypeInfo}{zv:Value}{t u ty e:TypeId}{x:Value}{n:Nat}{news:List Value}(ht:P.underlying t=some (.slice e))(hi:P.info? e=some i)(WQ:i.zero=some zv)(I:Src P i.size u x n news w):App P i zv t u ty e x n news w:=by refine⟨I.newsLen,I.one,λh0 A c=>?_,λb off sL BF h1 h2 h3=>run_append_room_src (P:=P) w t u ty e i ht hi b off sL BF x n news I h1 h2 h3,λbase sL BF ET h1 h2 h3 h4=>run_append_grow_src (P:=P) w t u ty e i zv ht hi WQ base sL BF ET h1 x n news I h2 h3 h4⟩;subst h0;have ls:news=[]:=ME (by simpa using I.newsLen);have h1:=I.cells;have h2:=I.len;rcases I.kind with⟨e',Ih⟩|Ih<;>cases A<;>simp[Builtin.append_,run_underlying ht,run_underlying Ih,sizeOf,typeInfo,hi,h2,h1,ls,storeCells]
theorem App.aiR{i:TypeInfo}{zv:Value}{t u ty e:TypeId}{k:IntKind}{m:Int}(ht:P.underlying t=some (.slice e))(hu:P.underlying u=some (.int k))(hi:P.info? e=some i)(WQ:i.zero=some zv)(uK:0<i.size)(Z4:i.bytes<=32768)(Zp:zv.cells.size=i.size)(h0:0<=m)(hm:m.toNat<=kM)
 (h1:∀v∈(Builtin.zeroCells zv.cells m.toNat).toList,v.oneCell'=true):App P i zv t u ty e (.int .i64 m) m.toNat (Builtin.zeroCells zv.cells m.toNat).toList w:=by
 have Mq:m<=4294967296:=by simp only[kM]at hm;omega
 have hw:IntKind.i64.wrap m=m:=by rw[IntKind.wrap_i64];omega
 have hb:¬281474976710656<m*(i.bytes:Int):=by have:m*(i.bytes:Int)<=4294967296*32768:=Int.mul_le_mul Mq (by omega) (by omega) (by omega);omega
 have hn:¬m<0:=by omega
 refine⟨by simp[size_zeroCells,Zp],h1,λhz A c=>?_,λb off sL BF h2 h3 h4=>?_,λbase sL BF ET h2 h3 h4 h5=>?_⟩
 .have AZ:m=0:=by omega
  subst AZ;cases A<;>simp[Builtin.append_,run_underlying ht,run_underlying hu,sizeOf,typeInfo,hi,asInt,asIntOf,hw,storeCells]
 .have PK:=run_storeCells_cells (P:=P) b (off+sL*i.size) (Builtin.zeroCells zv.cells m.toNat).toList 0 w (by omega) (by omega) h1;simp only[UP]at PK;by_cases hz:m.toNat*i.size=0
  .have AZ:m.toNat=0:=by rcases Nat.mul_eq_zero.1 hz with h|h<;>omega
   have KZ:(Builtin.zeroCells zv.cells m.toNat).toList=[]:=by rw[AZ];simp[Builtin.zeroCells]
   rw[KZ]at PK|-;simp[Builtin.append_,run_underlying ht,run_underlying hu,sizeOf,typeInfo,hi,asInt,asIntOf,hw,hn,hb,h2,hz,Addr.add_lit,PK]
  .simp[Builtin.append_,run_underlying ht,run_underlying hu,sizeOf,typeInfo,zeroValue,WQ,hi,asInt,asIntOf,hw,hn,hb,h2,hz,Addr.add_lit,PK]
 .have hn2:¬(sL+m.toNat<=BF):=by omega
  have aBM:¬(9223372036854775807<((sL:Int)+max m 0)):=by omega
  have aBN:¬(281474976710656<Builtin.nextslicecap (sL+m.toNat) BF*i.bytes):=by omega
  by_cases hz:m.toNat*i.size=0
  .have AZ:m.toNat=0:=by rcases Nat.mul_eq_zero.1 hz with h|h<;>omega
   have KZ:(Builtin.zeroCells zv.cells m.toNat).toList=[]:=by rw[AZ];simp[Builtin.zeroCells]
   rw[KZ];simp[Builtin.append_,run_underlying ht,run_underlying hu,sizeOf,typeInfo,zeroValue,hi,WQ,asInt,asIntOf,hw,hn,hb,hn2,hz,aBM,aBN,Question.forced,h2,newRow,grownCap]
  .simp[Builtin.append_,run_underlying ht,run_underlying hu,sizeOf,typeInfo,zeroValue,hi,WQ,asInt,asIntOf,hw,hn,hb,hn2,hz,aBM,aBN,Question.forced,h2,newRow,grownCap];congr 2;grind
theorem apB [Inhabited Env]{xs:Array Operand}{t u e:TypeId}{s x:Operand}{i:TypeInfo}{zv:Value}{es:List Ab}{news:List Value}(I:bH K F σ B w)(ho:o.op= .call {callee:= .builtin .append,args:=xs,argTypes:= #[t,u]})(wy:xs= #[s,x])
 (Z4:i.bytes<=32768) (Zp:zv.cells.size=i.size) (VL:a.eval s= .slice none 0 0) (ES:App P i zv t u o.type e (a.eval x) es.length news w)
 (pZ:∀(k:Nat) (r:Ab),es[k]? =some r->r.length=i.size) (yk:∀k j r,cellAt es k j=some r->∃x,news[k*i.size+j]? =some x/\CW F w r x) (hlen:es.length<=kM):
 ∃v w',(execOp a.eval o).run P w= .ok (.value v) w'/\dM K F σ B w (.own B.length es.length 0 es.length) (B++[⟨.aV,i.size,es⟩]) v w':=by
 by_cases h0:es=[]
 .subst h0;have z3:=ES.zero rfl none 0;refine⟨_,_,rA ho wy (by rw[VL];exact z3),?_⟩;have c:FN K F σ B w B.length ⟨.aV,i.size,[]⟩ F (λx=>if x=B.length then none else σ x) (B++[⟨.aV,i.size,[]⟩]) w:=
   {os:=rfl,tape:=rfl,output:=rfl,size:=By _,hF:=λ_ h=>h,newF:=λ_ h=> .inl h,OS:=I.fb,heap:=λb h _=>rfl,Dk:= .inr ⟨rfl,rfl⟩
    sig:=λh' bP=>by simp[bP],z7:=λg hg=>by simp at hg,grow:=λoh tR=>by simp at tR}
  refine⟨F,_,c.D2 I (.inl ⟨rfl,by simp⟩),c.vb I,c.hm I,.own _ _ _ _ _ rfl (by simp) λob eX=>?_⟩;have:ob=⟨.aV,i.size,[]⟩:=by simp_all
  subst this;exact⟨by simp,λ_ _=>⟨none,0,rfl,By _,.inl rfl⟩⟩
 .have aBJ:0<es.length:=OT.2 h0;have z3:=ES.grow none 0 0 [] (by simp[Builtin.firstCells]) (by omega) (by simp only[kM]at hlen;omega) (apA (by omega) (by omega) Z4);refine⟨_,_,rA ho wy (by rw[VL];exact z3),?_⟩;have Xi:=grownCap_ge w (0+es.length) 0 e;have:=M6 I (es:=es) (z:=i.size) (cap:=grownCap w (0+es.length) 0 e) (w':=w.drew.alloc (.cells (([]++news).toArray++Builtin.zeroCells zv.cells (grownCap w (0+es.length) 0 e-(0+es.length))) e)) (t:=e)
   rfl rfl rfl (by simp) (λb hb=>Below.heap_alloc w.drew _ b hb) (heap_alloc_new w.drew _) pZ (λi' j d Z=>by
    grind) (by omega) (by
    simp only[Array.size_append,size_zeroCells,List.size_toArray,Bz,ES.newsLen,Zp,<-GM];simp_all)
  simp_all
theorem er{h:Nat}{ob:ae}(eX:B[h]? =some ob):h<B.length:=by grind
theorem apC [Inhabited Env]{xs:Array Operand}{t u e:TypeId}{s x:Operand}{i:TypeInfo}{zv:Value}{h:Nat}{ob:ae}{es:List Ab}{news:List Value}(I:bH K F σ B w)(ho:o.op= .call {callee:= .builtin .append,args:=xs,argTypes:= #[t,u]})(wy:xs= #[s,x])
 (Z4:i.bytes<=32768) (Zp:zv.cells.size=i.size) (ES:App P i zv t u o.type e (a.eval x) es.length news w)
 (pZ:∀(k:Nat) (r:Ab),es[k]? =some r->r.length=i.size) (yk:∀k j r,cellAt es k j=some r->∃x,news[k*i.size+j]? =some x/\CW F w r x)
 (eX:B[h]? =some ob) (hk:ob.k= .aV) (GS:ob.z=i.size) (VL:aC F σ B w (.own h ob.es.length 0 ob.es.length) (a.eval s)) (hlen:ob.es.length+es.length<=kM):
 ∃v w',(execOp a.eval o).run P w= .ok (.value v) w'/\dM K F σ B w (.own h (ob.es.length+es.length) 0 (ob.es.length+es.length)) (B.set h ⟨.aV,i.size,ob.es++es⟩) v w':=by
 have hl:=er eX;have D5:ob.k≠ .dead:=by rw[hk];simp
 have hold:=I.obj h ob eX;unfold gv at hold;rw[hk]at hold;dsimp only at hold;obtain⟨A,cap,hv,hle,hA⟩:=(VL.sX.2 ob eX).2 D5 rfl;have one:∀v∈news,v.oneCell'=true:=ES.one;have aqL:=ES.newsLen;by_cases xf:ob.es.length+es.length<=cap
 .rcases hA with Ms|⟨g,hg,rfl,Tk⟩
  .
   have Y:ob.es=[]:=ME (by omega);have e2:es=[]:=ME (by omega);subst e2;have ls:news=[]:=ME (by simp_all);have z3:(Builtin.append_ #[t,u] o.type #[a.eval s,a.eval x]).run P w= .ok (.slice A 0 cap) w:=by rw[hv,Y,Ms];exact ES.zero rfl A 0
   refine⟨_,_,rA ho wy z3,?_⟩;have c:FN K F σ B w h ⟨.aV,i.size,ob.es++[]⟩ F σ (B.set h ⟨.aV,i.size,ob.es++[]⟩) w:=
    {os:=rfl,tape:=rfl,output:=rfl,size:=By _,hF:=λ_ h=>h,newF:=λ_ h=> .inl h,OS:=I.fb,heap:=λb h _=>rfl,Dk:= .inl ⟨hl,rfl⟩
     sig:=λh' bP=>rfl,z7:=λg hg=> .inl ⟨hg,ob,eX,.inl hk⟩
     grow:=λoh tR=>by rw[eX]at tR;injection tR with e;subst e;exact⟨.inl (.inl hk),by simp,λ_ _=>⟨GS.symm,rfl,λ_ _=>rfl⟩⟩}
   refine⟨F,σ,c.D2 I ?_,c.vb I,c.hm I,.own _ _ _ _ _ rfl (by simp_all) λo' jP=>?_⟩
   .simp_all[gv,xz]
   .rw[c.get]at jP;injection jP with jP;subst jP;exact⟨by simp[Y],λ_ _=>⟨A,cap,by simp[Y],by simp[Y],.inl Ms⟩⟩
  .
   rcases hold with⟨_,h0⟩|⟨g',oT,nF,nK,c,ty,hh,Ur,uY,DG⟩
   .simp_all
   .rw[hg]at oT;injection oT with oT;subst oT;have hbs:WY w g=c.size:=by unfold WY;rw[hh]
    have uJ:ob.es.length*i.size+news.length<=c.size:=by rw[aqL,<-GM];refine D0 (aba _ xf) ?_;simp_all
    have z3:=ES.room g (0*ob.z) ob.es.length cap xf
     (λj hj=>by rw[tK hh];simp;omega) (λj hj=>by simp[World.frozen?,hh])
    refine⟨_,_,rA ho wy (by rw[hv];exact z3),?_⟩;simp only[Nat.zero_mul,GL];rw[adx hh (by omega) one];have sK:=setRow_heap w g c (c.toList.take (ob.es.length*i.size)++news++c.toList.drop (ob.es.length*i.size+news.length)).toArray ty (0,0) hh;generalize hcd:(c.toList.take (ob.es.length*i.size)++news++c.toList.drop (ob.es.length*i.size+news.length)).toArray=c' at*;have FG:∀k:Nat,c'[k]? =if ob.es.length*i.size<=k/\k<ob.es.length*i.size+news.length then news[k-ob.es.length*i.size]? else c[k]? :=λk=>by rw[<-hcd];exact DL uJ k
    have lP:c'.size=c.size:=by grind
    have cg:FN K F σ B w h ⟨.aV,i.size,ob.es++es⟩ F σ (B.set h ⟨.aV,i.size,ob.es++es⟩) (w.setRow g c'):=
     {os:=rfl,tape:=rfl,output:=rfl,size:=by simp,hF:=λ_ h=>h,newF:=λ_ h=> .inl h,OS:=λb hb=>by simpa using I.fb b hb
      heap:=λb hb bP=>setRow_other _ _ _ _ (λe=>bP ob eX (.inl hk) (by rw[hg,e])),Dk:= .inl ⟨hl,rfl⟩
      sig:=λh' bP=>rfl,z7:=λg hg=> .inl ⟨hg,ob,eX,.inl hk⟩
      grow:=λoh tR=>by rw[eX]at tR;injection tR with e;subst e;refine⟨.inl (.inl hk),by simp,λ_ _=>⟨GS.symm,rfl,λg1 D3=>?_⟩⟩;simp_all[WY]}
    have hm:=cg.hm I;refine⟨F,σ,cg.D2 I ?_,cg.vb I,hm,.own _ _ _ _ _ rfl (by simp_all) λo' jP=>?_⟩
    .unfold gv;dsimp only;refine .inr ⟨g,hg,nF,nK,c',ty,sK,?_,apz (by grind) pZ,λi' j d Z=>?_⟩
     .simp_all[AS,GM]
     .rcases apy Z with⟨mP,Z⟩|⟨Xi,Z⟩
      .obtain⟨u,hu,E⟩:=DG _ _ _ Z;obtain⟨_,hj,FR⟩:=uI uY Z;rw[GS]at hu FR;exact⟨u,by grind,E.1.mono hm.mono hm.ck,E.2⟩
      .obtain⟨u,hu,E⟩:=yk _ _ _ Z;obtain⟨_,hj,FR⟩:=uI pZ Z;have e:i'*i.size+j=ob.es.length*i.size+((i'-ob.es.length)*i.size+j):=by rw[<-Nat.add_assoc,<-GM];simp_all
       exact⟨u,by simp_all,E.1.mono hm.mono hm.ck,E.2⟩
    .rw[cg.get]at jP;injection jP with jP;subst jP;refine⟨by simp,λ_ _=>⟨_,cap,rfl,xf,.inr ⟨g,hg,by simp,?_⟩⟩⟩;simp_all[WY]
 .
  have hn:0<es.length:=by omega
  obtain⟨ET,holds,aBP,aBQ⟩:∃ET:List Value,(Builtin.firstCells i.size ob.es.length (.slice A ob.es.length cap)).run P w.drew= .ok ET.toArray w.drew/\
   (∀i' j d,cellAt ob.es i' j=some d->∃u,ET[i'*i.size+j]? =some u/\CW F w d u)/\ET.length=ob.es.length*i.size:=by
   rcases hA with Ms|⟨g,hg,rfl,Tk⟩
   .have Y:ob.es=[]:=ME (by omega);refine⟨[],?_,λi' j d Z=>by rw[Y]at Z;simp[cellAt]at Z,by simp[Y]⟩;rw[Y];cases A<;>simp[Builtin.firstCells,loadCells,loadCellsFrom]
   .rcases hold with⟨_,h0⟩|⟨g',oT,nF,nK,c,ty,hh,Ur,uY,DG⟩
    .simp_all
    .rw[hg]at oT;injection oT with oT;subst oT;rw[GS]at Ur uY DG;refine⟨c.toList.take (ob.es.length*i.size),?_,λi' j d Z=>?_,by simp;omega⟩
     .refine run_firstCells_some w.drew i.size ob.es.length _ ob.es.length cap _ (by simp;omega) λj v hj=>?_;rw[Rq]at hj;split at hj
      .rw[alI]at hj;show w.cell? _=_;rw[lY rfl,tK hh];simp_all
      .cases hj
     .obtain⟨u,hu,E⟩:=DG _ _ _ Z;obtain⟨_,_,mP⟩:=uI uY Z;exact⟨u,by grind,E⟩
  have z3:=ES.grow A ob.es.length cap ET holds (by omega) (by simp only[kM]at hlen;omega) (apA (by omega) hlen Z4);refine⟨_,_,rA ho wy (by rw[hv];exact z3),?_⟩;have Xi:=grownCap_ge w (ob.es.length+es.length) cap e;generalize aHI:grownCap w (ob.es.length+es.length) cap e=VN at*;have aBR:=heap_alloc_new w.drew (.cells ((ET++news).toArray++Builtin.zeroCells zv.cells (VN-(ob.es.length+es.length))) e);have lP:((ET++news).toArray++Builtin.zeroCells zv.cells (VN-(ob.es.length+es.length))).size=VN*i.size:=by simp only[Array.size_append,size_zeroCells,List.size_toArray,AS,aqL,aBQ,Zp,<-GM];simp_all
  have FG:∀k u,(ET++news)[k]? =some u->((ET++news).toArray++Builtin.zeroCells zv.cells (VN-(ob.es.length+es.length)))[k]? =some u:=λk u hk=>by have mP:=(pc.1 hk).1;rw[Array.getElem?_append_left (by omega)];simp_all
  generalize (ET++news).toArray++Builtin.zeroCells zv.cells (VN-(ob.es.length+es.length))=c' at*;have nF:¬F w.heap.size:=λh=>by have:=I.fb _ h;omega
  have nK:¬K w.heap.size:=λh=>by have:=I.kb _ h;omega
  have cg:FN K F σ B w h ⟨.aV,i.size,ob.es++es⟩ F (λx=>if x=h then some w.heap.size else σ x) (B.set h ⟨.aV,i.size,ob.es++es⟩) (w.drew.alloc (.cells c' e)):=
   {os:=rfl,tape:=rfl,output:=rfl,size:=by simp,hF:=λ_ h=>h,newF:=λ_ h=> .inl h,OS:=λb hb=>by have:=I.fb b hb;simp;omega
    heap:=λb hb bP=>Below.heap_alloc w.drew _ b hb,Dk:= .inl ⟨hl,rfl⟩
    sig:=λh' bP=>by simp[bP],z7:=λg hg=> .inr (by simp_all)
    grow:=λoh tR=>by rw[eX]at tR;injection tR with e;subst e;exact⟨.inl (.inl hk),by simp,λhe=>by simp_all⟩}
  have hm:=cg.hm I;refine⟨F,_,cg.D2 I ?_,cg.vb I,hm,.own _ _ _ _ _ rfl (by simp_all) λo' jP=>?_⟩
  .unfold gv;dsimp only;have hzo:∀(i':Nat) (r:Ab),ob.es[i']? =some r->r.length=i.size:=by intro i' r E;rcases hold with⟨h0,_⟩|⟨g',oT,_,_,c,ty,hh,Ur,uY,DG⟩<;>grind
   refine .inr ⟨w.heap.size,by simp,nF,nK,c',e,aBR,?_,apz hzo pZ,λi' j d Z=>?_⟩
   .simp_all[AS,aba]
   .rcases apy Z with⟨mP,Z⟩|⟨aK6,Z⟩
    .obtain⟨u,hu,E⟩:=aBP _ _ _ Z;refine⟨u,FG _ _ ?_,E.1.mono hm.mono hm.ck,E.2⟩;grind
    .obtain⟨u,hu,E⟩:=yk _ _ _ Z;refine⟨u,FG _ _ ?_,E.1.mono hm.mono hm.ck,E.2⟩;have e:i'*i.size+j=ob.es.length*i.size+((i'-ob.es.length)*i.size+j):=by rw[<-Nat.add_assoc,<-GM];simp_all
     simp_all[IF,V5]
  .rw[cg.get]at jP;injection jP with jP;subst jP;refine⟨by simp,λ_ _=>⟨_,VN,rfl,Xi,.inr ⟨w.heap.size,by simp,by simp,?_⟩⟩⟩;simp_all[WY]
theorem aqD [Inhabited Env](I:bH K F σ B w){d:J}{v:Value}(hv:aC F σ B w d v)(h:(bc B d).pre)(Ox:∀s,d≠ .str s){z:Nat}(uK:0<z)(hz:∀e∈(bc B d).es,e.length=z){m:Nat}(hm:m<=(bc B d).es.length):
 ∃news:List Value,(Builtin.lenOf v).run P w= .ok (bc B d).es.length w/\(Builtin.firstCells z m v).run P w= .ok news.toArray w/\news.length=m*z/\(∀u∈news,u.oneCell'=true)/\
  ∀i j e,i<m->cellAt (bc B d).es i j=some e->∃x,news[i*z+j]? =some x/\CW F w e x:=by
 obtain⟨A,c,z',rfl,Fh,uY,hA,hAn⟩:=tH I hv h Ox;generalize (bc B d).es=es at*;by_cases bP:es=[]
 .subst bP;have:m=0:=by simp_all
  subst this;refine⟨[],rfl,?_,by simp,(λ_ h=>by cases h),λi j e hi=>by omega⟩;cases A<;>simp[Builtin.firstCells,loadCells,loadCellsFrom]
 .have UJ:z'=z:=by obtain⟨e0,Oz⟩:=List.exists_mem_of_ne_nil es bP;obtain⟨k0,Q8,rfl⟩:=Rm Oz;rw[<-uY k0 _ (tx Q8)];simp_all
  subst UJ;obtain⟨b,rfl,Mh,_,hc⟩:=hA bP;have hcell:∀k,k<m*z'->∃e u,w.cell? (b.add k)=some u/\CW F w e u:=by
   intro k hk;have hi:k/z'<m:=(Nat.div_lt_iff_lt_mul uK).2 hk;have Lx:k/z'<es.length:=by omega
   have oe:=uY (k/z') es[k/z'] (by simp[Lx]);have hj:k%z'<es[k/z'].length:=by rw[oe];exact Nat.mod_lt _ uK
   obtain⟨u,hu,h1,E⟩:=hc (k/z') (k%z') (es[k/z'][k%z']) (by simp[cellAt,Lx,hj]);refine⟨_,u,?_,E,h1⟩;simp_all[lY,Nat.mul_comm,Nat.div_add_mod]
  refine⟨(List.range (m*z')).map λk=>(w.cell? (b.add k)).getD undef,rfl,
   run_firstCells_some w _ _ _ _ c _ (by simp) (yl λk hk=>let⟨_,u,hu,_⟩:=hcell k hk;⟨u,hu⟩),by simp,λu hu=>?_,λi j e lw he=>?_⟩
  .obtain⟨k,hk,rfl⟩:=It.1 hu;obtain⟨e,u,hu,E⟩:=hcell k (by simp_all);rw[hu];exact E.1.xH
  .obtain⟨u,hu,h1,E⟩:=hc i j e he;have mP:i*z'+j<m*z':=by
    unfold cellAt at he;cases EH:es[i]? with
    |none=>simp_all
    |some row=>
     simp[EH]at he;have hj:=(pc.1 he).1;rw[uY i row EH]at hj;have:(i+1)*z'<=m*z':=aba _ lw;grind
   refine⟨u,?_,E,h1⟩;simp_all[M9,List.getElem?_range,lY]
theorem apD{xs:Array Operand}{t u:TypeId}{s x:Operand}{v:Value}{w':World}(ho:o.op= .call {callee:= .builtin .copy,args:=xs,argTypes:= #[t,u]})(wy:xs= #[s,x])
 (h:(Builtin.copy_ #[t,u] o.type #[a.eval s,a.eval x]).run P w= .ok v w'):(execOp a.eval o).run P w= .ok (.value v) w':=by
 simp_all[execOp,resolve,invoke,builtin]
theorem ax8 [Inhabited Env]{xs:Array Operand}{t u e:TypeId}{s x:Operand}{i:TypeInfo}{h off len:Nat}{ob:ae}{es:List Ab}{news:List Value}(I:bH K F σ B w)(ho:o.op= .call {callee:= .builtin .copy,args:=xs,argTypes:= #[t,u]})(wy:xs= #[s,x])
 (ht:P.underlying t=some (.slice e)) (hi:P.info? e=some i)
 (hlen:(Builtin.lenOf (a.eval x)).run P w= .ok es.length w) (yk:(Builtin.firstCells i.size (min es.length len) (a.eval x)).run P w= .ok news.toArray w) (D9:news.length=min es.length len*i.size) (one:∀u∈news,u.oneCell'=true)
 (pZ:∀(k:Nat) (r:Ab),es[k]? =some r->r.length=i.size) (hc:∀k j r,k<min es.length len->cellAt es k j=some r->∃x,news[k*i.size+j]? =some x/\CW F w r x)
 (eX:B[h]? =some ob) (hk:ob.k= .aV) (GS:ob.z=i.size) (VL:aC F σ B w (.own h ob.es.length off len) (a.eval s)) (NG:off+len<=ob.es.length):
 ∃v w',(execOp a.eval o).run P w= .ok (.value v) w'/\dM K F σ B w (.int .i64 (min es.length len:Nat)) (B.set h ⟨.aV,ob.z,ob.es.take off++es.take len++ob.es.drop (off+min es.length len)⟩) v w':=by
 have hl:=er eX;have D5:ob.k≠ .dead:=by rw[hk];simp
 have hold:=I.obj h ob eX;unfold gv at hold;rw[hk]at hold;dsimp only at hold;obtain⟨A,cap,hv,hle,hA⟩:=(VL.sX.2 ob eX).2 D5 rfl;have aBS:Nat.min es.length len=min es.length len:=rfl;by_cases wJ:min es.length len=0
 .
  have ls:news=[]:=ME (by simp_all);have z3:(Builtin.copy_ #[t,u] o.type #[a.eval s,a.eval x]).run P w= .ok (goInt ((min es.length len:Nat):Int)) w:=by rw[hv];cases A<;>simp[Builtin.copy_,run_underlying ht,sizeOf,typeInfo,hi,hlen,aBS,yk,ls,storeCells]
  have Xl:ob.es.take off++es.take len++ob.es.drop (off+min es.length len)=ob.es:=by
   have:es.take len=[]:=by grind
   rw[this,wJ,xz,UP,List.take_append_drop]
  refine⟨_,_,apD ho wy z3,?_⟩;rw[Xl,<-hk];have:B.set h {k:=ob.k,z:=ob.z,es:=ob.es}=B:=by refine FX λk=>?_;grind
  rw[this];exact dM.same I (.aV (.int _ _))
 .rcases hA with Ms|⟨g,hg,rfl,Tk⟩
  .omega
  rcases hold with⟨_,h0⟩|⟨g',oT,nF,nK,c,ty,hh,Ur,uY,DG⟩
  .simp_all
  rw[hg]at oT;injection oT with oT;subst oT;have uJ:off*i.size+news.length<=c.size:=by rw[D9,<-GM,<-GS];refine D0 (aba _ ?_) Ur;omega
  have PK:=run_storeCells_at P g (off*i.size) ty news 0 c w hh (by omega) one;simp only[UP]at PK;have z3:(Builtin.copy_ #[t,u] o.type #[a.eval s,a.eval x]).run P w= .ok (goInt ((min es.length len:Nat):Int)) (w.setRow g (c.toList.take (off*i.size)++news++c.toList.drop (off*i.size+news.length)).toArray):=by rw[hv,GS];simp[Builtin.copy_,run_underlying ht,sizeOf,typeInfo,hi,hlen,aBS,yk,PK]
  refine⟨_,_,apD ho wy z3,?_⟩;have FG:=DL (cur:=c) (n:=off*i.size) (vs:=news) uJ;have sK:=setRow_heap w g c (c.toList.take (off*i.size)++news++c.toList.drop (off*i.size+news.length)).toArray ty (0,0) hh;have hcs:(c.toList.take (off*i.size)++news++c.toList.drop (off*i.size+news.length)).toArray.size=c.size:=by grind
  generalize (c.toList.take (off*i.size)++news++c.toList.drop (off*i.size+news.length)).toArray=c' at*;have hL:(ob.es.take off++es.take len++ob.es.drop (off+min es.length len)).length=ob.es.length:=by grind
  generalize hE:ob.es.take off++es.take len++ob.es.drop (off+min es.length len)=CE at*;have aBT:∀k:Nat,CE[k]? =if k<off then ob.es[k]? else if k<off+min es.length len then es[k-off]? else ob.es[k]? :=by
   intro k;rw[<-hE];have l1:(ob.es.take off).length=off:=by simp;omega
   have l2:(es.take len).length=min es.length len:=by simp;omega
   by_cases a1:k<off
   .grind
   .rw[ba a1];by_cases a2:k<off+min es.length len
    .grind
    .rw[ba a2,IF (by simp_all),AS,l1,l2,List.getElem?_drop];simp_all
  have cg:FN K F σ B w h ⟨.aV,ob.z,CE⟩ F σ (B.set h ⟨.aV,ob.z,CE⟩) (w.setRow g c'):=
   {os:=rfl,tape:=rfl,output:=rfl,size:=by simp,hF:=λ_ h=>h,newF:=λ_ h=> .inl h,OS:=λb hb=>by simpa using I.fb b hb
    heap:=λb hb bP=>setRow_other _ _ _ _ (λe=>bP ob eX (.inl hk) (by rw[hg,e])),Dk:= .inl ⟨hl,rfl⟩
    sig:=λh' bP=>rfl,z7:=λg hg=> .inl ⟨hg,ob,eX,.inl hk⟩
    grow:=λoh tR=>by rw[eX]at tR;injection tR with e;subst e;refine⟨.inl (.inl hk),by simp_all,λ_ _=>⟨rfl,rfl,λg1 D3=>?_⟩⟩;grind[WY]}
  have hm:=cg.hm I;refine⟨F,σ,cg.D2 I ?_,cg.vb I,hm,.aV (.int _ _)⟩;unfold gv;dsimp only;refine .inr ⟨g,hg,nF,nK,c',ty,sK,by simp_all,λk r E=>?_,λk j d Z=>?_⟩
  .grind
  .obtain⟨row,h1,h2⟩:=(by unfold cellAt at Z;cases hq:CE[k]?<;>grind:∃row,CE[k]? =some row/\row[j]? =some d);have hj:j<ob.z:=by
    have Mt:row.length=ob.z:=by
     rw[aBT]at h1;split at h1
     .grind
     .split at h1<;>grind
    grind
   rw[aBT]at h1;by_cases a1:k<off
   .rw[gr a1]at h1;obtain⟨u,hu,E⟩:=DG k j d (by simp[cellAt,h1,h2]);refine⟨u,?_,E.1.mono hm.mono hm.ck,E.2⟩;rw[FG,ba]
    .exact hu
    .intro hh2;have:(k+1)*ob.z<=off*ob.z:=aba _ a1;grind
   .rw[ba a1]at h1;by_cases a2:k<off+min es.length len
    .rw[gr a2]at h1;obtain⟨u,hu,E⟩:=hc (k-off) j d (by omega) (by simp[cellAt,h1,h2]);refine⟨u,?_,E.1.mono hm.mono hm.ck,E.2⟩;have ek:k*i.size=off*i.size+(k-off)*i.size:=by rw[<-GM];grind
     have mP:(k-off)*i.size+j<news.length:=(pc.1 hu).1;rw[FG,gr (by rw[GS];omega),<-hu];congr 1;rw[GS];omega
    .rw[ba a2]at h1;obtain⟨u,hu,E⟩:=DG k j d (by simp[cellAt,h1,h2]);refine⟨u,?_,E.1.mono hm.mono hm.ck,E.2⟩;rw[FG,ba]
     .exact hu
     .intro hh2;have:(off+min es.length len)*i.size<=k*i.size:=aba _ (by omega);grind
theorem aqB [Inhabited Env]{x:Operand}{h len:Nat}{ob:ae}(I:bH K F σ B w)(ho:o.op= .move x\/o.op= .assign x)(eX:B[h]? =some ob)(hk:ob.k= .aV)(hl:len<=ob.es.length)(hv:aC F σ B w (.own h ob.es.length 0 len) (a.eval x)):
 ∃v w',(execOp a.eval o).run P w= .ok (.value v) w'/\dM K F σ B w (.own B.length len 0 len) (B.set h ⟨.dead,ob.z,ob.es⟩++[⟨.aV,ob.z,ob.es.take len⟩]) v w':=by
 have mP:=er eX;have D5:ob.k≠ .dead:=by rw[hk];simp
 have X4:∀k:Nat,(B.set h (⟨.dead,ob.z,ob.es⟩:ae)++[(⟨.aV,ob.z,ob.es.take len⟩:ae)])[k]? =if k=B.length then some ⟨.aV,ob.z,ob.es.take len⟩else if k=h then some ⟨.dead,ob.z,ob.es⟩else B[k]? :=by grind
 generalize aE8:(B.set h (⟨.dead,ob.z,ob.es⟩:ae)++[(⟨.aV,ob.z,ob.es.take len⟩:ae)])=eZ at*;have Xh:eZ.length=B.length+1:=by grind
 obtain⟨DT,xg,Xm⟩:∃DT:Nat->BI,DT B.length=σ h/\∀k,k≠B.length->DT k=σ k:=⟨λx=>if x=B.length then σ h else σ x,gr rfl,λk hk=>ba hk⟩;have hm:HM F σ B w F DT eZ w:=by refine⟨λ_ h=>h,λ_ _=>rfl,by omega,λk o' jP=>?_⟩;grind
 have hold:=I.obj h ob eX;unfold gv at hold;rw[hk]at hold;dsimp only at hold;refine⟨a.eval x,w,by rcases ho with ho|ho<;>simp only[execOp,ho]<;>rfl,F,DT,⟨λk o' jP=>?_,λk1 k2 o1 o2 g Y m1 e2 m2 s1 s2=>?_,I.fb,I.kb,I.nH⟩,.refl _ _ _,hm,?_⟩
 .rw[X4]at jP;by_cases h1:k=B.length
  .subst h1;rw[gr rfl]at jP;injection jP with jP;subst jP;unfold gv;dsimp only;rcases hold with⟨h0,h1⟩|⟨g,hg,nF,nK,c,ty,hh,Ur,uY,DG⟩
   .simp_all
   .refine .inr ⟨g,xg.trans hg,nF,nK,c,ty,hh,?_,λi e he=>?_,λi j d Z=>?_⟩
    .exact D0 (aba _ (by simp;omega)) Ur
    .grind
    .have:cellAt ob.es i j=some d:=by grind[cellAt,Rq]
     simp_all
  .rw[ba h1]at jP;by_cases h2:k=h
   .rw[gr h2]at jP;injection jP with jP;subst jP;exact trivial
   .rw[ba h2]at jP;have old:=I.obj k o' jP;unfold gv at old|-;split
    .trivial
    .simp_all
    .simp_all
    next nC=>rw[nC]at old;dsimp only at old;obtain⟨g,hg,q1,q2,hb⟩:=old;rw[Xm k h1];exact⟨g,hg,q1,q2,hb.mono rfl λd v h=>h.mono hm⟩
    simp_all
 .rw[X4]at Y e2;have key:∀{k:Nat} {o':ae},(if k=B.length then some (⟨.aV,ob.z,ob.es.take len⟩:ae)else if k=h then some ⟨.dead,ob.z,ob.es⟩else B[k]?)=some o'->o'.k.mut->(k=B.length\/(k≠h/\k≠B.length/\B[k]? =some o')):=by
   intro k o' he hmu;by_cases h1:k=B.length
   .exact .inl h1
   .rw[ba h1]at he;by_cases h2:k=h
    .rw[gr h2]at he;injection he with he;subst he;rcases hmu with e|e|⟨_,e⟩<;>cases e
    simp_all
  rcases key Y m1 with r1|⟨r1,lA,aBV⟩<;>rcases key e2 m2 with r2|⟨r2,lb,aBW⟩
  .rw[r1,r2]
  .exfalso;rw[r1,xg]at s1;rw[Xm _ lb]at s2;exact r2 (I.inj _ _ _ _ _ aBW m2 eX (.inl hk) s2 s1)
  .exfalso;rw[r2,xg]at s2;rw[Xm _ lA]at s1;exact r1 (I.inj _ _ _ _ _ aBV m1 eX (.inl hk) s1 s2)
  .rw[Xm _ lA]at s1;rw[Xm _ lb]at s2;exact I.inj _ _ _ _ _ aBV m1 aBW m2 s1 s2
 .obtain⟨A,cap,Y,hle,hA⟩:=(hv.sX.2 ob eX).2 D5 rfl;refine .own _ _ _ _ _ (by rw[Y];rfl) (by omega) λo' jP=>?_;rw[X4,gr rfl]at jP;injection jP with jP;subst jP;refine⟨by simp;omega,λ_ _=>⟨A,cap,Y,hle,?_⟩⟩;simp_all
end
end Go.Nk
set_option linter.all false
namespace Go.Nk
open Go.RowKit
section
variable {P:Program} {K F F':Nat->Prop} {σ Be:Nat->BI} {B cU:List ae} {w w':World} {R:List (Nat×J)} {a:Act} {o:Oper}
end
end Go.Nk
set_option linter.all false
namespace Go.Nk
open Go.RowKit
section
variable {P:Program} {K F F':Nat->Prop} {σ Be:Nat->BI} {B cU:List ae} {w w':World} {R:List (Nat×J)} {a:Act} {o:Oper}
theorem apE{t:TypeId}{p v:Operand}{i:TypeInfo}{g n:Nat}{c:Array Value}{ty:TypeId}(ho:o.op= .store t p v)(hi:P.info? t=some i)(cU:a.eval p= .pointer (some ⟨g,n,none⟩))(lP:(a.eval v).cells.size=i.size)
 (hh:w.heap[g]? =some (.cells c ty (0,0))) (uJ:n+(a.eval v).cells.size<=c.size) (h1:∀u∈(a.eval v).cells.toList,u.oneCell'=true):
 (execOp a.eval o).run P w= .ok .skip (w.setRow g (c.toList.take n++(a.eval v).cells.toList++c.toList.drop (n+(a.eval v).cells.toList.length)).toArray):=by
 have PK:=run_storeCells_at P g n ty (a.eval v).cells.toList 0 c w hh (by omega) h1;simp only[UP]at PK;simp only[execOp,ho,Instr.storeAt,cU,Instr.sureAddr,storeVar,Sem.run_bind,Sem.run_pure,Result.andThen_ok,sizeOf,typeInfo,run_program,hi,lP,Br,not_true,Bv,PK]
theorem HN{z i j:Nat}{es:List Ab}{An R':J->Value->Prop}{cs:Ab}{vs:List Value}{c c':Array Value}(uY:∀(i:Nat) (e:Ab),es[i]? =some e->e.length=z)
 (DG:∀i j d,cellAt es i j=some d->∃v,c[i*z+j]? =some v/\An d v) (hi:i<es.length) (hj:j+cs.length<=(es.getD i []).length) (hv:dX R' cs vs) (hR:∀d v,An d v->R' d v)
 (FG:∀k:Nat,c'[k]? =if i*z+j<=k/\k<i*z+j+vs.length then vs[k-(i*z+j)]? else c[k]?):
 (∀(k:Nat) (e:Ab),(es.set i (setFrom (es.getD i []) j cs))[k]? =some e->e.length=z)/\
 ∀k l d,cellAt (es.set i (setFrom (es.getD i []) j cs)) k l=some d->∃v,c'[k*z+l]? =some v/\R' d v:=by
 have oe:es.getD i []=es[i]:=by simp_all
 rw[oe]at hj|-;have hrz:=uY i es[i] (by simp[hi]);obtain⟨s1,s2⟩:=AP cs es[i] j;have lx:=hv.1;refine⟨λk e he=>?_,λk l d Z=>?_⟩
 .grind
 .by_cases hk:k=i
  .subst hk;have xo:(setFrom es[k] j cs)[l]? =some d:=by simp_all[cellAt,List.getElem?_set_self]
   rw[s2]at xo;split at xo
   next hl=>obtain⟨u,hu,E⟩:=hv.2 _ _ xo;grind
   next hl=>have mP:l<es[k].length:=(pc.1 xo).1;obtain⟨u,hu,E⟩:=DG k l d (by simp[cellAt,hi,xo]);grind
  .have xo:cellAt es k l=some d:=by simp_all[cellAt,MG,Ne.symm]
   obtain⟨u,hu,E⟩:=DG _ _ _ xo;obtain⟨_,hl,_⟩:=uI uY xo;refine⟨u,?_,hR _ _ E⟩;rw[FG,ba]
   .exact hu
   .intro h;exact aqJ hl (Ne.symm hk) ⟨by omega,by omega⟩
theorem adl [Inhabited Env]{t:TypeId}{p v:Operand}{p' v':DA}{i:TypeInfo}{h r j:Nat}{ob:ae}(I:bH K F σ B w)(ho:o.op= .store t p v)(hi:P.info? t=some i)(hf:jZ F σ B w R a.tmps)(lO:cK p p'=true)(Fc:cK v v'=true)
 (eX:B[h]? =some ob) (hk:ob.k= .loc) (xh:p'.ev R= .ptr h ob.es.length r j) (hn:(cellsOf (v'.ev R)).length=i.size) (E:r<ob.es.length) (hj:j+(cellsOf (v'.ev R)).length<=(ob.es.getD r []).length)
 (h1:∀d∈cellsOf (v'.ev R),d.one=true):
 ∃w',(execOp a.eval o).run P w= .ok .skip w'/\dM K F σ B w (.b9 []) (B.set h {ob with es:=ob.es.set r (setFrom (ob.es.getD r []) j (cellsOf (v'.ev R)))}) undef w':=by
 have Xn:=aD hf lO;rw[xh]at Xn;have D5:ob.k≠ .dead:=by rw[hk];simp
 have hl:=er eX;obtain⟨g,hg,xi⟩:=(Xn.DE.2 ob eX).2 D5 rfl;have hold:=I.obj h ob eX;unfold gv at hold;rw[hk]at hold;dsimp only at hold;obtain⟨g',oT,nF,nK,c,ty,hh,Ur,uY,DG⟩:=hold;rw[hg]at oT;injection oT with oT;subst oT;have hc:=DK (aD hf Fc) h1;have lP:(a.eval v).cells.size=i.size:=by rw[<-hn,hc.1];simp
 have oe:(ob.es.getD r []).length=ob.z:=uY r _ (by simp_all);have uJ:r*ob.z+j+(a.eval v).cells.toList.length<=c.size:=by rw[<-hc.1];have:(r+1)*ob.z<=ob.es.length*ob.z:=aba _ E;grind
 have one:∀u∈(a.eval v).cells.toList,u.oneCell'=true:=by
  intro u hu;obtain⟨k,Ih,rfl⟩:=Rm hu;have yK:k<(cellsOf (v'.ev R)).length:=by grind
  obtain⟨u',Ej,tO⟩:=hc.2 k (cellsOf (v'.ev R))[k] (by simp[yK]);rw[tx Ih]at Ej;injection Ej with Ej;rw[Ej];exact tO.xH (h1 _ (MJ _))
 refine⟨_,apE ho hi xi lP hh (by omega) one,?_⟩;have FG:=DL (cur:=c) (n:=r*ob.z+j) (vs:=(a.eval v).cells.toList) uJ;have sK:=setRow_heap w g c (c.toList.take (r*ob.z+j)++(a.eval v).cells.toList++c.toList.drop (r*ob.z+j+(a.eval v).cells.toList.length)).toArray ty (0,0) hh;have hcs:(c.toList.take (r*ob.z+j)++(a.eval v).cells.toList++c.toList.drop (r*ob.z+j+(a.eval v).cells.toList.length)).toArray.size=c.size:=by grind
 generalize (c.toList.take (r*ob.z+j)++(a.eval v).cells.toList++c.toList.drop (r*ob.z+j+(a.eval v).cells.toList.length)).toArray=c' at*;have cg:FN K F σ B w h {ob with es:=ob.es.set r (setFrom (ob.es.getD r []) j (cellsOf (v'.ev R)))} F σ (B.set h {ob with es:=ob.es.set r (setFrom (ob.es.getD r []) j (cellsOf (v'.ev R)))}) (w.setRow g c'):=
  {os:=rfl,tape:=rfl,output:=rfl,size:=by simp,hF:=λ_ h=>h,newF:=λ_ h=> .inl h,OS:=λb hb=>by simpa using I.fb b hb
   heap:=λb hb bP=>setRow_other _ _ _ _ (λe=>bP ob eX (mG hk) (by rw[hg,e])),Dk:= .inl ⟨hl,rfl⟩
   sig:=λh' bP=>rfl,z7:=λg hg=> .inl ⟨hg,ob,eX,mG hk⟩
   grow:=λoh tR=>by rw[eX]at tR;injection tR with e;subst e;refine⟨.inl (mG hk),by simp,λ_ _=>⟨rfl,rfl,λg1 D3=>?_⟩⟩;simp_all[WY]}
 have hm:=cg.hm I;refine⟨F,σ,cg.D2 I ?_,cg.vb I,hm,.b9 [] #[] rfl (λ_=>undef) (λj d Z=>by simp at Z) (λj d Z=>by simp at Z)⟩;unfold gv;simp only[hk];obtain⟨q1,q2⟩:=HN (R':=aC F σ (B.set h {ob with es:=ob.es.set r (setFrom (ob.es.getD r []) j (cellsOf (v'.ev R)))}) (w.setRow g c')) uY DG E hj (hc.imp λd v h=>h.mono hm) (λd v h=>h.mono hm) FG;simp only[hk]at q2;exact⟨g,hg,nF,nK,c',ty,sK,by grind,q1,q2⟩
theorem adn [Inhabited Env]{t:TypeId}{p v:Operand}{p' v':DA}{i:TypeInfo}{h r j:Nat}{ob Pc:ae}(I:bH K F σ B w)(ho:o.op= .store t p v)(hi:P.info? t=some i)(hf:jZ F σ B w R a.tmps)(lO:cK p p'=true)(Fc:cK v v'=true)
 (eX:B[h]? =some ob) (hk:ob.k= .aV) (xh:p'.ev R= .ptr h ob.es.length r j) (hn:(cellsOf (v'.ev R)).length=i.size) (E:r<ob.es.length) (hj:j+(cellsOf (v'.ev R)).length<=(ob.es.getD r []).length)
 (bE:(ug B (cellsOf (v'.ev R))).pre) (VP:(ug B (cellsOf (v'.ev R))).B[h]? =some Pc) (Ih:Pc.k= .aV) (hu:v'.ev R≠ .undef):
 ∃w',(execOp a.eval o).run P w= .ok .skip w'/\dM K F σ B w (.b9 []) ((ug B (cellsOf (v'.ev R))).B.set h {ob with es:=ob.es.set r (setFrom (ob.es.getD r []) j (ug B (cellsOf (v'.ev R))).dK)}) undef w':=by
 have Ms:=HG (aD hf Fc) hu;obtain⟨F1,f1,r1⟩:=Qd I Ms bE;obtain⟨mU,mv1,BG⟩:=f1;have Xn:=aD hf lO;rw[xh]at Xn;have D5:ob.k≠ .dead:=by rw[hk];simp
 obtain⟨g,hg,xi⟩:=(Xn.DE.2 ob eX).2 D5 rfl;have m0:Pc.es=ob.es/\Pc.z=ob.z:=by
  have key:∀(ds:Ab) (BW:List ae),BW[h]? =some ob->∃o2,(ug BW ds).B[h]? =some o2/\o2.es=ob.es/\o2.z=ob.z:=by
   have one:∀(d:J) (BW:List ae) (o1:ae),BW[h]? =some o1->∃o2,(ik BW d).B[h]? =some o2/\o2.es=o1.es/\o2.z=o1.z:=by
    intro d BW o1 h0;unfold ik;split
    next h' L off len=>show∃o2,(iS BW h')[h]? =some o2/\_;unfold iS;grind
    all_goals grind
   have gen:∀(ds:Ab) (BW:List ae) (o1:ae),BW[h]? =some o1->∃o2,(ug BW ds).B[h]? =some o2/\o2.es=o1.es/\o2.z=o1.z:=by
    intro ds;induction ds with
    |nil=>intro BW o1 h0;exact⟨o1,h0,rfl,rfl⟩
    |cons d ds ih=>
     intro BW o1 h0;obtain⟨o2,Y,e2,e3⟩:=one d BW o1 h0;obtain⟨o3,e4,e5,e6⟩:=ih _ o2 Y;exact⟨o3,e4,e5.trans e2,e6.trans e3⟩
   simp_all
  obtain⟨o2,Y,e2,e3⟩:=key (cellsOf (v'.ev R)) B eX;simp_all
 have hl:=er VP;have hold:=mU.obj h Pc VP;unfold gv at hold;rw[Ih]at hold;dsimp only at hold;rw[m0.1,m0.2]at hold;rcases hold with⟨h0,_⟩|⟨g',oT,nF,nK,c,ty,hh,Ur,uY,DG⟩
 .simp_all
 rw[hg]at oT;injection oT with oT;subst oT;have hlen:(ug B (cellsOf (v'.ev R))).dK.length=(cellsOf (v'.ev R)).length:=by rw[r1.1,Ms.1]
 have lP:(a.eval v).cells.size=i.size:=by rw[<-hn,Ms.1];simp
 have oe:(ob.es.getD r []).length=ob.z:=uY r _ (by simp_all);have uJ:r*ob.z+j+(a.eval v).cells.toList.length<=c.size:=by rw[<-Ms.1];have:(r+1)*ob.z<=ob.es.length*ob.z:=aba _ E;grind
 have one:∀u∈(a.eval v).cells.toList,u.oneCell'=true:=by
  intro u hu;obtain⟨k,Ih,rfl⟩:=Rm hu;have yK:k<(ug B (cellsOf (v'.ev R))).dK.length:=by grind
  obtain⟨u',Ej,tO⟩:=r1.2 k (ug B (cellsOf (v'.ev R))).dK[k] (by simp[yK]);rw[tx Ih]at Ej;injection Ej with Ej;rw[Ej];exact tO.1.xH
 refine⟨_,apE ho hi xi lP hh (by omega) one,?_⟩;have FG:=DL (cur:=c) (n:=r*ob.z+j) (vs:=(a.eval v).cells.toList) uJ;have sK:=setRow_heap w g c (c.toList.take (r*ob.z+j)++(a.eval v).cells.toList++c.toList.drop (r*ob.z+j+(a.eval v).cells.toList.length)).toArray ty (0,0) hh;have hcs:(c.toList.take (r*ob.z+j)++(a.eval v).cells.toList++c.toList.drop (r*ob.z+j+(a.eval v).cells.toList.length)).toArray.size=c.size:=by grind
 generalize (c.toList.take (r*ob.z+j)++(a.eval v).cells.toList++c.toList.drop (r*ob.z+j+(a.eval v).cells.toList.length)).toArray=c' at*;refine dM.KD ⟨mU,mv1,BG⟩ ?_;generalize (ug B (cellsOf (v'.ev R))).dK=cs at*;generalize (ug B (cellsOf (v'.ev R))).B=aBY at*;have cg:FN K F1 σ aBY w h {ob with es:=ob.es.set r (setFrom (ob.es.getD r []) j cs)} F1 σ (aBY.set h {ob with es:=ob.es.set r (setFrom (ob.es.getD r []) j cs)}) (w.setRow g c'):=
  {os:=rfl,tape:=rfl,output:=rfl,size:=by simp,hF:=λ_ h=>h,newF:=λ_ h=> .inl h,OS:=λb hb=>by simpa using mU.fb b hb
   heap:=λb hb bP=>setRow_other _ _ _ _ (λe=>bP Pc VP (.inl Ih) (by rw[hg,e])),Dk:= .inl ⟨hl,rfl⟩
   sig:=λh' bP=>rfl,z7:=λg hg=> .inl ⟨hg,Pc,VP,.inl Ih⟩
   grow:=λoh tR=>by rw[VP]at tR;injection tR with e;subst e;refine⟨.inl (.inl Ih),by simp[m0.1],λ_ _=>⟨m0.2.symm,rfl,λg1 D3=>?_⟩⟩;simp_all[WY]}
 have hm:=cg.hm mU;refine⟨F1,σ,cg.D2 mU ?_,cg.vb mU,hm,.b9 [] #[] rfl (λ_=>undef) (λj d Z=>by simp at Z) (λj d Z=>by simp at Z)⟩;unfold gv;simp only[hk];obtain⟨q1,q2⟩:=HN (R':=λd v=>cB F1 (w.setRow g c') d v/\d.one=true) uY DG E (by omega) (r1.imp λd v h=>⟨h.1.mono hm.mono hm.ck,h.2⟩) (λd v h=>⟨h.1.mono hm.mono hm.ck,h.2⟩) FG;exact .inr ⟨g,hg,nF,nK,c',ty,sK,by grind,q1,q2⟩
theorem aBs [Inhabited Env]{h i j:Nat}{ob:ae}{g:Nat}{d:J}{v:Value}{dr:J}{vr:Value}(I:bH K F σ B w)(eX:B[h]? =some ob)(hk:ob.k= .loc)(hg:σ h=some g)(hi:i<ob.es.length)(hj:j<(ob.es.getD i []).length)
 (Z:∀(F:Nat->Prop) (σ:Nat->BI) (B:List ae) (w:World),aC F σ B w d v) (E:∀(F:Nat->Prop) (σ:Nat->BI) (B:List ae) (w:World),aC F σ B w dr vr):
 (∃u,w.cell? ⟨g,i*ob.z+j,none⟩=some u)/\w.frozen? ⟨g,i*ob.z+j,none⟩=false/\
  dM K F σ B w dr (B.set h {ob with es:=ob.es.set i ((ob.es.getD i []).set j d)}) vr (w.setCell ⟨g,i*ob.z+j,none⟩ v):=by
 have hl:=er eX;have hold:=I.obj h ob eX;unfold gv at hold;rw[hk]at hold;dsimp only at hold;obtain⟨g',oT,nF,nK,c,ty,hh,Ur,uY,DG⟩:=hold;rw[hg]at oT;injection oT with oT;subst oT;have oe:(ob.es.getD i []).length=ob.z:=uY i _ (by simp_all);have uJ:i*ob.z+j<c.size:=by have:(i+1)*ob.z<=ob.es.length*ob.z:=aba _ hi;grind
 refine⟨⟨c[i*ob.z+j],by rw[tK hh];simp[uJ]⟩,by simp[World.frozen?,hh],?_⟩;rw[setCell_eq_setRow w g (i*ob.z+j) c ty (0,0) v hh];have sK:=setRow_heap w g c (c.setIfInBounds (i*ob.z+j) v) ty (0,0) hh;have hcs:(c.setIfInBounds (i*ob.z+j) v).size=c.size:=by simp
 have FG:∀k:Nat,(c.setIfInBounds (i*ob.z+j) v)[k]? =if i*ob.z+j<=k/\k<i*ob.z+j+[v].length then [v][k-(i*ob.z+j)]? else c[k]? :=by grind
 have FJ:setFrom (ob.es.getD i []) j [d]=(ob.es.getD i []).set j d:=rfl;generalize (c.setIfInBounds (i*ob.z+j) v)=c' at*;have cg:FN K F σ B w h {ob with es:=ob.es.set i ((ob.es.getD i []).set j d)} F σ (B.set h {ob with es:=ob.es.set i ((ob.es.getD i []).set j d)}) (w.setRow g c'):=
  {os:=rfl,tape:=rfl,output:=rfl,size:=by simp,hF:=λ_ h=>h,newF:=λ_ h=> .inl h,OS:=λb hb=>by simpa using I.fb b hb
   heap:=λb hb bP=>setRow_other _ _ _ _ (λe=>bP ob eX (mG hk) (by rw[hg,e])),Dk:= .inl ⟨hl,rfl⟩
   sig:=λh' bP=>rfl,z7:=λg hg=> .inl ⟨hg,ob,eX,mG hk⟩
   grow:=λoh tR=>by rw[eX]at tR;injection tR with e;subst e;refine⟨.inl (mG hk),by simp,λ_ _=>⟨rfl,rfl,λg1 D3=>?_⟩⟩;simp_all[WY]}
 have hm:=cg.hm I;refine⟨F,σ,cg.D2 I ?_,cg.vb I,hm,E _ _ _ _⟩;unfold gv;simp only[hk];obtain⟨q1,q2⟩:=HN (R':=aC F σ (B.set h {ob with es:=ob.es.set i ((ob.es.getD i []).set j d)}) (w.setRow g c')) uY DG hi (cs:=[d]) (vs:=[v]) (by grind) (dX.iC (Z _ _ _ _) dX.lL) (λd v h=>h.mono hm) FG;rw[FJ]at q1 q2;simp only[hk]at q2;exact⟨g,hg,nF,nK,c',ty,sK,by grind,q1,q2⟩
end
end Go.Nk
set_option linter.all false
namespace Go.Nk
open Go.RowKit
section
variable {P:Program} {K F:Nat->Prop} {σ:Nat->BI} {B:List ae} {w:World} {a:Act} {o:Oper} {R:List (Nat×J)}
theorem find_spec{An:J->Value->Prop}(k:B3):∀(es:List (B3×J)) (c:List MapEntry) (i:Nat),c.length=es.length->
 (∀(j:Nat) (x:B3×J),es[j]? =some x->∃e,c[j]? =some e/\e.key= .string ⟨x.1.toArray⟩/\An x.2 e.val)->
 (Instr.findNow .string (.string ⟨k.toArray⟩) c i=some none/\Cg k es=none/\∀d,HO k d es=es++[(k,d)])\/
 ∃j e x,Instr.findNow .string (.string ⟨k.toArray⟩) c i=some (some (i+j,e.val))/\c[j]? =some e/\e.key= .string ⟨k.toArray⟩/\Cg k es=some x/\An x e.val/\j<es.length/\∀d,HO k d es=es.set j (k,d)
 |[],c,i,hl,_=>by obtain rfl:c=[]:=ME hl;exact .inl ⟨rfl,rfl,λ_=>rfl⟩
 |x::es,[],i,hl,_=>by simp at hl
 |x::es,e::c,i,hl,h=>by
  obtain⟨e',he,hk,E⟩:=h 0 x rfl;injection he with he;subst he;by_cases nC:k=x.1
  .refine .inr ⟨0,e,x.2,?_,rfl,by rw[hk,nC],by simp[Cg,nC],E,by simp,λd=>by simp[HO,nC]⟩;grind[MapKept.bytes_beq,Instr.findNow,Instr.sameNow]
  .have bP:((⟨k.toArray⟩:ByteArray)==⟨x.1.toArray⟩)=false:=by grind[MapKept.bytes_beq,absurd]
   have ih:=find_spec (An:=An) k es c (i+1) (by simp_all) (λj y hy=>h (j+1) y (by simp_all));rcases ih with⟨h1,h2,h3⟩|⟨j,e',y,h1,h2,h3,h4,h5,h6,h7⟩
   .simp_all[Instr.findNow,Instr.sameNow,Cg,HO]
   .exact .inr ⟨j+1,e',y,by grind[Instr.findNow,Instr.sameNow],by simp_all,h3,by simp[Cg,nC,h4],h5,by simp;omega,λd=>by simp[HO,nC,h7]⟩
theorem ady{t:TypeId}(h:Tj P t=true):∃k e i,P.underlying t=some (.map k e)/\P.underlying k=some .string/\P.info? e=some i/\i.zero=some (.slice none 0 0):=by
 unfold Tj at h;split at h
 next k e ht=>simp only[ab]at h;grind[isStr]
 .cases h
theorem auj [Inhabited Env]{t:TypeId}(I:bH K F σ B w)(ho:o.op= .makeMap t none):
 ∃v w',(execOp a.eval o).run P w= .ok (.value v) w'/\dM K F σ B w (.mp B.length) (B++[⟨.mp [],0,[]⟩]) v w':=by
 refine⟨.map (some w.heap.size),w.alloc (.map #[] 0),by simp[execOp,ho,Instr.makeMap],?_⟩;have c:FN K F σ B w B.length ⟨.mp [],0,[]⟩ F (λx=>if x=B.length then some w.heap.size else σ x) (B++[⟨.mp [],0,[]⟩]) (w.alloc (.map #[] 0)):=
  {os:=rfl,tape:=rfl,output:=rfl,size:=by simp,hF:=λ_ h=>h,newF:=λ_ h=> .inl h,OS:=λb h=>by have:=I.fb b h;simp;omega
   heap:=λb h _=>iZ _ b h,Dk:= .inr ⟨rfl,rfl⟩,sig:=λh' bP=>by simp[bP],z7:=λg hg=> .inr (by simp_all),grow:=λoh tR=>by simp at tR}
 have nF:¬F w.heap.size:=λh=>by have:=I.fb _ h;omega
 have nK:¬K w.heap.size:=λh=>by have:=I.kb _ h;omega
 refine⟨F,_,c.D2 I ?_,c.vb I,c.hm I,.mp _ _ rfl (by simp) λob eX _ _=>⟨w.heap.size,by simp,rfl⟩⟩;unfold gv;exact⟨⟨rfl,rfl⟩,w.heap.size,by simp,nF,nK,#[],0,heap_alloc_new _ _,rfl,λi x U=>by simp at U⟩
theorem xj [Inhabited Env](I:bH K F σ B w){d:J}{v:Value}{es:List (B3×J)}(hv:aC F σ B w d v)(h:dH B d=some es):
 ∃n ob g c q,d= .mp n/\B[n]? =some ob/\ob.k= .mp es/\(ob.es=[]/\ob.z=0)/\σ n=some g/\¬F g/\¬K g/\v= .map (some g)/\w.heap[g]? =some (.map c q)/\c.size=es.length/\
  ∀(i:Nat) (x:B3×J),es[i]? =some x->∃e,c[i]? =some e/\e.key= .string ⟨x.1.toArray⟩/\(cB F w x.2 e.val/\∃l,x.2= .sl l):=by
 unfold dH at h;cases d<;>simp only[reduceCtorEq]at h;rename_i n;cases eX:B[n]? with
 |none=>simp_all
 |some ob=>
  rw[eX]at h;simp only[C3]at h;have hk:ob.k= .mp es:=by cases hk:ob.k<;>rw[hk]at h<;>simp only[Kd.D4,reduceCtorEq,GB]at h;rw[h]
  have old:=I.obj n ob eX;unfold gv at old;rw[hk]at old;dsimp only at old;obtain⟨e0,g,hg,nF,nK,c,q,h1,h2,h3⟩:=old;obtain⟨g',oT,D8⟩:=hv.ayf.2 ob eX (by rw[hk];simp) (by simp_all);grind
theorem ax9 [Inhabited Env]{t:TypeId}{x y:Operand}{d:J}{b:B3}{es:List (B3×J)}(I:bH K F σ B w)(ho:o.op= .lookup t x y false)(ht:Tj P t=true)
 (hv:aC F σ B w d (a.eval x)) (hk:a.eval y= .string ⟨b.toArray⟩) (h:dH B d=some es):
 ∃v w',(execOp a.eval o).run P w= .ok (.value v) w'/\dM K F σ B w ((Cg b es).getD (.sl [])) B v w':=by
 obtain⟨kt,et,ti,h1,h2,h3,h4⟩:=ady ht;obtain⟨n,ob,g,c,q,rfl,eX,D5,e0,hg,nF,nK,U,hh,lP,hc⟩:=xj I hv h;have Xo:∀e,(Instr.checkKey e 10000 kt (.string ⟨b.toArray⟩)).run P w= .ok () w:=λe=>MapKept.run_checkKey (k:= .string ⟨b.toArray⟩) h2 (by simp[MapKept.IsKey]) e 9999;rcases find_spec (An:=λd v=>cB F w d v/\∃l,d= .sl l) b es c.toList 0 (by omega) (λj x U=>by simp_all)with⟨f1,f2,f3⟩|⟨j,e,y',f1,f2,f3,f4,f5,f6,apF⟩
 .refine⟨.slice none 0 0,w,?_,?_⟩
  .simp[execOp,ho,U,hk,Instr.lookup,run_underlying h1,MapKept.run_getObj_map hh,Xo,MapKept.run_findKey h2 f1,Result.andThen,zeroValue,typeInfo,h3,h4]
  .rw[f2];exact dM.same I (.aV (cB.Ov (z:=0) (by simp) (λi e he=>by simp at he) (λbP=>absurd rfl bP)))
 .refine⟨e.val,w,?_,?_⟩
  .simp[execOp,ho,U,hk,Instr.lookup,run_underlying h1,MapKept.run_getObj_map hh,Xo,MapKept.run_findKey h2 f1,Result.andThen]
  .rw[f4];exact dM.same I (.aV f5.1)
theorem aqw [Inhabited Env]{t:TypeId}{x y z:Operand}{d e:J}{b:B3}{es:List (B3×J)}(I:bH K F σ B w)(ho:o.op= .mapUpdate t x y z\/o.op= .insert t x y z)(ht:Tj P t=true)
 (hv:aC F σ B w d (a.eval x)) (hk:a.eval y= .string ⟨b.toArray⟩) (h:dH B d=some es) (he:cB F w e (a.eval z)/\∃l,e= .sl l):
 ∃w',(execOp a.eval o).run P w= .ok .skip w'/\dM K F σ B w (.b9 []) (B.set (Hn d) ⟨.mp (HO b e es),0,[]⟩) undef w':=by
 obtain⟨kt,et,ti,h1,h2,h3,h4⟩:=ady ht;obtain⟨n,ob,g,c,q,rfl,eX,D5,e0,hg,nF,nK,U,hh,lP,hc⟩:=xj I hv h;have hl:=er eX;have Xo:∀e,(Instr.checkKey e 10000 kt (.string ⟨b.toArray⟩)).run P w= .ok () w:=λe=>MapKept.run_checkKey (k:= .string ⟨b.toArray⟩) h2 (by simp[MapKept.IsKey]) e 9999;have key:∀(c':Array MapEntry) (q':Nat),c'.size=(HO b e es).length->(∀(i:Nat) (x:B3×J),(HO b e es)[i]? =some x->∃e',c'[i]? =some e'/\e'.key= .string ⟨x.1.toArray⟩/\(cB F w x.2 e'.val/\∃l,x.2= .sl l))->
  dM K F σ B w (.b9 []) (B.set n ⟨.mp (HO b e es),0,[]⟩) undef {w with heap:=w.heap.setIfInBounds g (.map c' q')}:=by
  intro c' q' Me kX;obtain⟨aFJ,VQ⟩:=MapKept.heap_set (o':= .map c' q') hh;have cg:FN K F σ B w n ⟨.mp (HO b e es),0,[]⟩ F σ (B.set n ⟨.mp (HO b e es),0,[]⟩) {w with heap:=w.heap.setIfInBounds g (.map c' q')}:=
   {os:=rfl,tape:=rfl,output:=rfl,size:=by simp,hF:=λ_ h=>h,newF:=λ_ h=> .inl h,OS:=λb hb=>by simpa using I.fb b hb
    heap:=λb hb bP=>VQ b (λe=>bP ob eX (.inr (.inr ⟨_,D5⟩)) (by rw[hg,e])),Dk:= .inl ⟨hl,rfl⟩
    sig:=λh' bP=>rfl,z7:=λg hg=> .inl ⟨hg,ob,eX,.inr (.inr ⟨_,D5⟩)⟩
    grow:=λoh tR=>by rw[eX]at tR;injection tR with tR;subst tR;refine⟨.inl (.inr (.inr ⟨_,D5⟩)),by simp[e0.1],λ_ _=>⟨e0.2.symm,rfl,λg1 D3=>?_⟩⟩;grind[WY]}
  have hm:=cg.hm I;refine⟨F,σ,cg.D2 I ?_,cg.vb I,hm,.b9 [] #[] rfl (λ_=>undef) (λj d Z=>by simp at Z) (λj d Z=>by simp at Z)⟩;unfold gv;exact⟨⟨rfl,rfl⟩,g,hg,nF,nK,c',q',aFJ,Me,λi x U=>let⟨e',a1,a2,a3⟩:=kX i x U;⟨e',a1,a2,a3.1.mono hm.mono hm.ck,a3.2⟩⟩
 rcases find_spec (An:=λd v=>cB F w d v/\∃l,d= .sl l) b es c.toList 0 (by omega) (λj x U=>by grind)with⟨f1,f2,f3⟩|⟨j,Y,y',f1,f2,f3,f4,f5,f6,apF⟩
 .refine⟨_,?_,key (c.push {key:= .string ⟨b.toArray⟩,val:=a.eval z,born:=q}) (q+1) (by grind) ?_⟩
  .rcases ho with ho|ho<;>simp[execOp,ho,U,hk,Instr.mapUpdate,run_underlying h1,MapKept.run_getObj_map hh,Xo,MapKept.run_findKey h2 f1,MapKept.run_setObj_map _ hh,Result.andThen]
  .intro i x A3;rw[f3]at A3;rcases GK i es.length with hi|hi
   .grind
   .rw[IF hi]at A3;have Hp:i=es.length:=by grind
    subst Hp;simp at A3;subst A3;exact⟨_,by rw[Array.getElem?_push,gr lP.symm],rfl,he⟩
 .have f2':c[j]? =some Y:=by grind
  refine⟨_,?_,key (c.modify j λe=>{e with key:= .string ⟨b.toArray⟩,val:=a.eval z}) q (by grind) ?_⟩
  .have Xl:(Instr.keyThatStays Y.key (.string ⟨b.toArray⟩)).run P w= .ok (.string ⟨b.toArray⟩) w:=by
    have:Instr.sameBits 10000 Y.key (.string ⟨b.toArray⟩)=true:=by rw[f3];simp only[Instr.sameBits];exact(MapKept.bytes_beq _ _).2 rfl
    simp[Instr.keyThatStays,this]
   rw[GL]at f1;rcases ho with ho|ho<;>simp[execOp,ho,U,hk,Instr.mapUpdate,run_underlying h1,MapKept.run_getObj_map hh,Xo,MapKept.run_findKey h2 f1,MapKept.run_setObj_map _ hh,Result.andThen,f2',Xl]
  .intro i x A3;rw[apF,Fa]at A3;grind
theorem adz{t:TypeId}(h:concrete P t=true):∃d,P.underlying t=some d/\∀m,d≠ .interface m:=by grind[concrete]
theorem aya [Inhabited Env]{t:TypeId}{x:Operand}{d:J}(I:bH K F σ B w)(ho:o.op= .makeInterface t x)(ht:concrete P t=true)(hv:aC F σ B w d (a.eval x))(Z:d.bl=true):
 ∃v w',(execOp a.eval o).run P w= .ok (.value v) w'/\dM K F σ B w (.Oq t d) B v w':=by
 obtain⟨u,h1,h2⟩:=adz ht;refine⟨.iface t (a.eval x),w,?_,dM.same I (.aV (.Oq t _ _ (hv.HF Z)))⟩;cases u<;>first|exact absurd rfl (h2 _)|simp[execOp,ho,Instr.makeInterface,run_underlying h1,Result.andThen]
end
end Go.Nk
set_option linter.all false
namespace Go.Nk
open Go.RowKit
def none_:Nat->BI:=λ_=>none
def iX(P:Program)(f:FuncId):Bool:=
 match P.funcs[f]? with
 | some fn => !(fn.name == "runtime.NumGoroutine") && fn.body.isSome
 |none=>false
def FD [Inhabited Env](P:Program)(f:FuncId)(je:Ab)(r:J):Prop:=
 ∀(K F:Nat->Prop) (w:World) (args:Array Value),(∀b,F b->b<w.heap.size)->(∀b,K b->b<w.heap.size)->XF F w->dX (aC F none_ [] w) je args.toList->
  Calls P f args w λe w'=>∃v F',e= .returned v/\jd K F w F' w'/\(∀b,F' b->b<w'.heap.size)/\aC F' none_ [] w' r v
def SU [Inhabited Env](P:Program)(f:FuncId)(je:Ab)(B:List ae)(r:J)(cU:List ae):Prop:=
 ∀(K F:Nat->Prop) (σ:Nat->BI) (w:World) (args:Array Value),bH K F σ B w->dX (aC F σ B w) je args.toList->
  Calls P f args w λe w'=>∃v,e= .returned v/\dM K F σ B w r cU v w'
structure aB0(F BQ:Nat->Prop)(W:World)(F' B':Nat->Prop)(W':World):Prop where
 os:W'.os=W.os
 tape:W'.tape=W.tape
 output:W'.output=W.output
 size:W.heap.size<=W'.heap.size
 heap:∀b,b<W.heap.size->¬BQ b->W'.heap[b]? =W.heap[b]?
 ck:∀b,F b->W'.heap[b]? =W.heap[b]?
 mono:∀b,F b->F' b
 new:∀b,F' b->F b\/BQ b\/W.heap.size<=b
 own:∀b,B' b->BQ b\/W.heap.size<=b
 fb:∀b,F' b->b<W'.heap.size
 bb:∀b,B' b->b<W'.heap.size
def yh(Bf:BI->(Nat->Prop)->(Nat->Prop)->World->Prop):Prop:=
 ∀k F BQ W F' B' W',Bf k F BQ W->aB0 F BQ W F' B' W'->Bf k F' B' W'
def AF(P:Program)(l:Nat)(xs:List Ab)(Bf:BI->(Nat->Prop)->(Nat->Prop)->World->Prop):Prop:=
 ∀k F BQ W x vs,Bf (some k) F BQ W->(∀b,F b->b<W.heap.size)->(∀b,BQ b->b<W.heap.size)->xs[k]? =some x->dX (aC F none_ [] W) x vs->
  ∃fn tmps assign body,(Instr.yield l vs.toArray).run P W= .ok (.round l fn tmps assign body) W/\
   RoundIn Fence.wide 0 P l fn tmps assign body W λe W'=>∃b F',e= .returned (.bool b)/\(∀c,F c->F' c)/\(∀c,F' c->F c\/¬BQ c)/\(∀c,F' c->c<W'.heap.size)/\W.heap.size<=W'.heap.size/\
    (∀c,F c->W'.heap[c]? =W.heap[c]?)/\(∀c,BQ c->W'.heap[c]? =W.heap[c]?)/\Bf (if b then some (k+1)else none) F' BQ W'
def Zd [Inhabited Env](P:Program)(f:FuncId)(Bb:Ab)(xs:List Ab):Prop:=
 ∀(l:Nat) (Bf:BI->(Nat->Prop)->(Nat->Prop)->World->Prop) (F BQ:Nat->Prop) (σ:Nat->BI) (W:World) (cv:Array Value),yh Bf->AF P l xs Bf->(∀b,BQ b->b<W.heap.size)->bH (λb=>b<W.heap.size/\¬BQ b) F σ (kv Bb).2 W->
  dX (aC F σ (kv Bb).2 W) (kv Bb).1 cv.toList->Bf (some 0) F BQ W->
  CallsIn Fence.wide 0 P f (#[.func (.yield l) #[] #[]]++cv) W λe W'=>(∃v,e= .returned v)/\∃F' B' k,Bf k F' B' W'/\(k=none\/k=some xs.length)
def J.Mv:J->J
 | .P9 _=> .P9 0
 |d=>d
def J.SF(l:Nat):J->J
 | .P9 _=> .P9 l
 |d=>d
def Ze [Inhabited Env](P:Program)(f:FuncId)(args:Ab)(ys:List Ab):Prop:=
 ∀(l:Nat) (Bf:BI->(Nat->Prop)->(Nat->Prop)->World->Prop) (K F BQ:Nat->Prop) (W:World) (cv:Array Value),yh Bf->AF P l ys Bf->(∀b,BQ b->b<W.heap.size)->(∀b,b<W.heap.size->K b)->bH K F none_ [] W->
  dX (aC F none_ [] W) (args.map (J.SF l)) cv.toList->Bf (some 0) F BQ W->
  CallsIn Fence.wide 0 P f cv W λe W'=>∃b F',e= .returned (.bool b)/\(∀c,F c->F' c)/\(∀c,F' c->F c\/¬BQ c)/\(∀c,F' c->c<W'.heap.size)/\W.heap.size<=W'.heap.size/\
   (∀c,F c->W'.heap[c]? =W.heap[c]?)/\(∀c,BQ c->W'.heap[c]? =W.heap[c]?)/\Bf (if b then some ys.length else none) F' BQ W'
structure dJ.ok [Inhabited Env](P:Program)(C:dJ):Prop where
 p:∀f args,(C.p f args).1->iX P f=true/\FD P f args (C.p f args).2
 h:∀f args B,(C.h f args B).pre->iX P f=true/\SU P f args B (C.h f args B).val (C.h f args B).B
 i:∀f Bb,(C.i f Bb).1->iX P f=true/\Zd P f Bb (C.i f Bb).2
 w:∀f args,(C.w f args).1->iX P f=true/\Ze P f args (C.w f args).2
section
variable {P:Program} {K F F':Nat->Prop} {σ Be:Nat->BI} {B cU:List ae} {w w':World} {R:List (Nat×J)} {a:Act} {o:Oper} {C:dJ}
def KC(P:Program)(o:Oper)(a:Act)(w:World)(An:Value->World->Prop):Prop:=
 ∀(Kn:Act->World->Prop) (Q:Exit->Act->World->Prop),(∀v w',An v w'->Kn (a.put o.dst v) w')->o.wp P a w Kn Q
theorem bB{An:Value->World->Prop}(h:∃v w',(execOp a.eval o).run P w= .ok (.value v) w'/\An v w'):KC P o a w An:=by obtain⟨v,w',h1,h2⟩:=h;intro Kn Q hK;unfold Oper.wp;rw[h1];exact hK v w' h2
theorem AO{An:Value->World->Prop}(h:∃w',(execOp a.eval o).run P w= .ok .skip w'/\An undef w'):KC P o a w An:=by obtain⟨w',h1,h2⟩:=h;intro Kn Q hK;unfold Oper.wp;rw[h1];exact hK undef w' h2
theorem jG{An:Value->World->Prop}{f:FuncId}{args:Array Value}(h1:(execOp a.eval o).run P w= .ok (.enter f args) w)(h2:Calls P f args w λe w'=>∃v,e= .returned v/\An v w'):KC P o a w An:=by intro Kn Q hK;unfold Oper.wp;rw[h1];exact h2.mono λe w' ⟨v,he,E⟩=>by simp_all
theorem gS.meets [Inhabited Env](I:bH K F σ B w){d:J}(h:gS P F σ B w o a d):KC P o a w (λv w'=>dM K F σ B w d B v w'):=by obtain⟨v,h1,h2⟩:=h;exact bB ⟨v,w,h1,.same I h2⟩
theorem AK{f:FuncId}(h:iX P f=true)(args:Array Value):(callFunc f args).run P w= .ok (.enter f args) w:=by
 unfold iX at h;cases hf:P.funcs[f]? with
 |none=>simp_all
 |some fn=>
  simp only[hf,ab,aaa]at h;have hb:fn.body.isNone=false:=by simp_all
  simp only[callFunc,Sem.run_bind,run_program,Result.andThen_ok,hf,h.1,hb,AN,Bv,Sem.run_pure]
theorem rn{f:FuncId}{x:Operand}{xs:Array Operand}{ts:Array TypeId}{Bb:Array Value}(ho:o.op= .call {callee:= .value x,args:=xs,argTypes:=ts})(U:a.eval x= .func (.func f) #[] Bb)(h:iX P f=true):
 (execOp a.eval o).run P w= .ok (.enter f (xs.map a.eval++Bb)) w:=by
 simp only[execOp,ho,resolve,U,Deferred.ofValue,Sem.run_bind,Sem.run_pure,Result.andThen_ok,invoke,Array.empty_append];exact AK h _
theorem apG{f:FuncId}{x:Operand}{xs:Array Operand}{ts:Array TypeId}{fst:Array Value}(ho:o.op= .call {callee:= .value x,args:=xs,argTypes:=ts})(U:a.eval x= .func (.func f) fst #[])(h:iX P f=true):
 (execOp a.eval o).run P w= .ok (.enter f (fst++xs.map a.eval)) w:=by
 simp only[execOp,ho,resolve,U,Deferred.ofValue,Sem.run_bind,Sem.run_pure,Result.andThen_ok,invoke,Array.append_empty];exact AK h _
def Pf(F:Nat->Prop)(σ:Nat->BI)(B:List ae):Nat->Prop:=λb=>F b\/∃h o,B[h]? =some o/\o.k≠ .dead/\σ h=some b
theorem auo [Inhabited Env](I:bH K F σ B w):∀b,Pf F σ B b->b<w.heap.size:=λb hb=>hb.elim (I.fb b) λ⟨_,_,ho,Z,hg⟩=>I.yj ho Z hg
theorem alK [Inhabited Env](I:bH K F σ B w){d:J}{v:Value}(hv:aC F σ B w d v)(h:(uN B d).1):cB (Pf F σ B) w (uN B d).2 v:=by
 unfold uN at*;split at h
 .rename_i k L i j;cases eX:B[k]? with
  |none=>simp_all
  |some ob=>
   simp only[eX]at h|-;obtain⟨h1,h2,h3,h4⟩:=h;obtain⟨_,eZ⟩:=hv.DE;obtain⟨g,hg,rfl⟩:=(eZ ob eX).2 h1 h2;have SQ:∃c ty,w.heap[g]? =some (.cells c ty (0,0))/\∀i j d,cellAt ob.es i j=some d->∃v,c[i*ob.z+j]? =some v/\cB F w d v/\d.one=true:=by
    have old:=I.obj k ob eX;unfold gv at old;rcases nC:ob.k with _|_|_|_<;>rw[nC]at old<;>dsimp only at old
    .rcases old with⟨Y,_⟩|⟨g',oT,_,_,c,ty,b1,b2,b3,b4⟩<;>simp_all
    .obtain⟨g',oT,_,_,c,ty,b1,b2,b3,b4⟩:=old;have:g'=g:=abc (oT.symm.trans hg);subst this;refine⟨c,ty,b1,λi j d Z=>?_⟩;obtain⟨v,v1,v2⟩:=b4 i j d Z;obtain⟨e,he,xo⟩:=ag0 Z;have hi:=h4 e he d xo;exact⟨v,v1,v2.HF hi,KI hi⟩
    .rcases old with⟨Y,_⟩|⟨g',oT,_,c,ty,b1,b2,b3,b4⟩<;>simp_all
    all_goals grind
   obtain⟨c,ty,b1,b4⟩:=SQ;refine cB.wo rfl (.inr ⟨k,ob,eX,h1,hg⟩) λn d Z=>?_;have hc:cellAt ob.es i (j+n)=some d:=anX Z;obtain⟨v,v1,v2,v3⟩:=b4 i (j+n) d hc;refine⟨v,?_,v3,v2.mono (λb hb=> .inl hb) λ_ _=>rfl⟩;grind[Nat.add_assoc,tK]
 .exact(hv.HF h).mono (λb hb=> .inl hb) λ_ _=>rfl
theorem apH [Inhabited Env](I:bH K F σ B w):∀{cs:Ab} {vs:List Value},dX (aC F σ B w) cs vs->(kT B cs).1->dX (cB (Pf F σ B) w) (kT B cs).2 vs
 |[],vs,hv,_=>by rw[hv.Xj];exact .lL
 |d::ds,vs,hv,h=>by obtain⟨v,us,rfl,h0,E⟩:=hv.cons;exact .iC (alK I h0 h.1) (apH I E h.2)
theorem apI [Inhabited Env](I:bH K F σ B w){d:J}{v:Value}(hv:aC F σ B w d v)(h:(b8 B d).1):cB (Pf F σ B) w (b8 B d).2 v:=by
 unfold b8 at h|-;split at h
 .rename_i h' L off len;obtain⟨A,c,z,rfl,Fh,hz,hA,_⟩:=tH I hv h (by simp);refine cB.Ov Fh hz λbP=>?_;obtain⟨b,hb,Z3,hF,hc⟩:=hA bP;refine⟨b,hb,Z3,?_,λi j e he=>?_⟩
  .rcases hF with hF|⟨h1,L1,o1,l1,Y,e2⟩
   .exact .inl hF
   .injection Y with Y;subst Y;have eX:∃ob,B[h']? =some ob/\(ob.k= .aV\/ob.k= .A6):=by simp only[bc]at h;grind
    obtain⟨ob,eX,hk⟩:=eX;exact .inr ⟨h',ob,eX,by grind,e2⟩
  .obtain⟨u,hu,h1,E⟩:=hc i j e he;exact⟨u,hu,h1,E.mono (λb hb=> .inl hb) λ_ _=>rfl⟩
 .have:=hv.lM;subst this;exact cB.Ov (es:=[]) (z:=0) (By _) (λi e he=>by simp at he) (λh=>absurd rfl h)
 .obtain⟨vs,rfl,hl,E⟩:=hv.DF;obtain⟨l1,l2⟩:=apH I ⟨by omega,λj d Z=>let⟨u,hu,tO⟩:=E j d Z;⟨u,by simp_all,tO⟩⟩ h (vs:=vs.toList);obtain⟨vv,v1,v2⟩:=XW (vs:=vs) λj d Z=>let⟨u,hu,tO⟩:=l2 j d Z;⟨u,by simp_all,tO⟩;exact .Bg _ _ vs (by omega) vv v1 v2
 .split at h
  next hi=>rw[gr hi];exact(hv.HF hi).mono (λb hb=> .inl hb) λ_ _=>rfl
  simp_all
theorem apJ [Inhabited Env](I:bH K F σ B w):∀{ds:Ab} {vs:List Value},dX (aC F σ B w) ds vs->(fK B ds).1->dX (λd v=>aC (Pf F σ B) none_ [] w d v) (fK B ds).2 vs
 |[],vs,hv,_=>by rw[hv.Xj];exact .lL
 |d::ds,vs,hv,h=>by obtain⟨v,us,rfl,h0,E⟩:=hv.cons;exact .iC (.aV (apI I h0 h.1)) (apJ I E h.2)
theorem aqN{cs:Ab}{vs:Array Value}(h:dX (aC F σ B w) cs vs.toList):aC F σ B w (.agg cs) (.agg vs):=
 aC.wc (by simpa using h.1) λj d Z=>let⟨u,hu,E⟩:=h.2 j d Z;⟨u,by simp_all,E⟩
theorem alL [Inhabited Env](I:bH K F σ B w){d:J}{v:Value}(hv:aC F σ B w d v)(h:(cz B d).1):aC (Pf F σ B) none_ [] w (cz B d).2 v:=by
 unfold cz at h|-;split at h
 .obtain⟨vs,rfl,hl,E⟩:=hv.rm;exact aqN (apJ I ⟨by omega,λj d Z=>let⟨u,hu,E⟩:=E j d Z;⟨u,by simp_all,E⟩⟩ h)
 .exact .aV (apI I hv h)
theorem apK [Inhabited Env](I:bH K F σ B w):∀{ds:Ab} {vs:List Value},dX (aC F σ B w) ds vs->(bq B ds).1->dX (aC (Pf F σ B) none_ [] w) (bq B ds).2 vs
 |[],vs,hv,_=>by rw[hv.Xj];exact .lL
 |d::ds,vs,hv,h=>by obtain⟨v,us,rfl,h0,E⟩:=hv.cons;exact .iC (alL I h0 h.1) (apK I E h.2)
theorem aC.bare{d:J}{v:Value}(h:aC F none_ [] w d v):aC F σ B w d v:=by refine h.mono ⟨λ_ h=>h,λ_ _=>rfl,by simp,λh o ho=>by simp at ho⟩
theorem Ky [Inhabited Env](I:bH K F σ B w){d:J}{v:Value}(hv:aC F σ B w d v)(h:(iD B d).pre):
 ∃F',Kw K F σ B w F' (iD B d).B/\aC F' none_ [] w (iD B d).val v:=by
 unfold iD at h|-;split at h
 .obtain⟨vs,rfl,hl,E⟩:=hv.rm;obtain⟨F',f,r⟩:=Qd I (vs:=vs.toList) ⟨by omega,λj d Z=>let⟨u,hu,E⟩:=E j d Z;⟨u,by simp_all,E⟩⟩ h;exact⟨F',f,aqN (r.imp λd v h=> .aV h.1)⟩
 .obtain⟨F',f,r,_⟩:=aiW I hv h;exact⟨F',f,.aV r⟩
theorem Th [Inhabited Env]:∀{ds:Ab} {vs:List Value} {B:List ae} {F:Nat->Prop},bH K F σ B w->dX (aC F σ B w) ds vs->(fH B ds).pre->
 ∃F',Kw K F σ B w F' (fH B ds).B/\dX (aC F' none_ [] w) (fH B ds).dK vs
 |[],vs,B,F,I,hv,_=>⟨F,.refl I,by rw[hv.Xj];exact .lL⟩
 |d::ds,vs,B,F,I,hv,h=>by obtain⟨v,us,rfl,h0,E⟩:=hv.cons;obtain⟨lO,eZ⟩:=h;obtain⟨F1,f1,r1⟩:=Ky I h0 lO;obtain⟨F2,f2,r2⟩:=Th f1.1 (E.imp λd v h=>h.mono f1.2.2) eZ;refine⟨F2,f1.trans f2,.iC (r1.mono ⟨f2.2.1.mono,f2.2.1.ck,by simp,λh o ho=>by simp at ho⟩) r2⟩
theorem M7{F0:Nat->Prop}{w0:World}{d:J}{v:Value}(h:aC F none_ [] w d v)(Z:dC d=true):aC F0 σ B w0 d v:=by
 cases d<;>simp only[dC,AN]at Z
 .rw[h.gE];exact .aV (.int _ _)
 .rw[h.jF];exact .aV (.bool _)
 .rw[h.o8];exact .aV (.str _)
 .rw[h.zG];exact .aV .rf
theorem ag2{F0:Nat->Prop}{w0:World}{d:J}{v:Value}(h:aC F none_ [] w d v)(Z:bX d=true):aC F0 σ B w0 d v:=by
 unfold bX at Z;split at Z
 .obtain⟨vs,rfl,hl,E⟩:=h.Kx;grind[aC.Zl,M7,BE,ed]
 .obtain⟨vs,rfl,hl,E⟩:=h.rm;grind[aC.wc,M7,BE,ed]
 .exact M7 h Z
theorem M1 [Inhabited Env](hC:C.ok P)(I:bH K F σ B w){f:FuncId}{je:Ab}{args:Array Value}(ha:dX (aC F σ B w) je args.toList)(h:(bj C B f je).pre):
 iX P f=true/\Calls P f args w λe w'=>∃v,e= .returned v/\dM K F σ B w (bj C B f je).val (bj C B f je).B v w':=by
 unfold bj at h|-;dsimp only at h|-;split at h
 .rename_i hn;rw[gr hn];obtain⟨hv,E⟩:=h;obtain⟨nT,ht⟩:=hC.p _ _ E;refine⟨nT,(ht (λb=>b<w.heap.size) (Pf F σ B) w args (auo I) (λ_ h=>h) (I.nH.mono (λ_ _=>rfl) λ_ h=> .inl h) (apK I ha hv)).mono ?_⟩
  rintro e w' ⟨v,F',rfl,hm,mP,D8⟩
  obtain⟨s1,s2,s3⟩:=I.ext (w':=w') (F':=F) hm.os hm.tape hm.output hm.size hm.sa (λ_ h=>h) (λ_ h=> .inl h) (λb hb=>Ef (I.fb b hb) hm.size);exact⟨v,rfl,F,σ,s1,s2,s3,ag2 D8 hn⟩
 .rename_i hn;rw[ba hn];obtain⟨hz,E⟩:=h;obtain⟨nT,ht⟩:=hC.p _ _ E;obtain⟨F1,f1,r1⟩:=Th I ha hz;refine⟨nT,(ht (λb=>b<w.heap.size) F1 w args f1.1.fb (λ_ h=>h) f1.1.nH r1).mono ?_⟩
  rintro e w' ⟨v,F',rfl,hm,mP,D8⟩
  obtain⟨s1,s2,s3⟩:=f1.1.ext (w':=w') (F':=F') hm.os hm.tape hm.output hm.size hm.sa hm.mono (λb hb=>(hm.new b hb).imp id λh=>by omega) mP;exact⟨v,rfl,.KD f1 ⟨F',σ,s1,s2,s3,D8.bare⟩⟩
theorem lX(hf:jZ F σ B w R a.tmps){xs:Array Operand}{ys:List DA}(h:fY xs.toList ys=true):dX (aC F σ B w) (ys.map (·.ev R)) (xs.map a.eval).toList:=by obtain⟨hl,E⟩:=M8 hf h;exact⟨by simp_all,λj d Z=>by grind⟩
theorem dX.append{An:J->Value->Prop}{d1 d2:Ab}{v1 v2:List Value}(h1:dX An d1 v1)(h2:dX An d2 v2):dX An (d1++d2) (v1++v2):=
 ⟨by simp[h1.1,h2.1],λj d Z=>by
  rcases GK j d1.length with hl|hl
  .rw[OR hl]at Z;obtain⟨u,hu,E⟩:=h1.2 j d Z;grind
  .rw[IF hl]at Z;obtain⟨u,hu,E⟩:=h2.2 _ d Z;exact⟨u,by rw[IF (by rw[<-h1.1];exact hl),<-h1.1];exact hu,E⟩⟩
end
theorem Zs{B t:List ae}{h:Nat}{o:ae}(e:B[h]? =some o):(B++t)[h]? =some o:=by grind
theorem M4(t:List ae){B:List ae}{d:J}(h:(bc B d).pre):bc (B++t) d=bc B d:=by unfold bc at h|-;grind
theorem alM(t:List ae){B:List ae}{d:J}(h:(aH B d).1):aH (B++t) d=aH B d:=by unfold aH at h|-;grind
theorem uZ(t:List ae){B:List ae}{h L:Nat}(k:alive B h L):alive (B++t) h L:=by grind[Nk.alive,Zs]
theorem aqO(t:List ae){B:List ae}{sz:BI}{d:J}(h:(bw sz (aH B d)).1):bw sz (aH (B++t) d)=bw sz (aH B d):=by
 have:(aH B d).1:=by cases sz<;>exact h.1
 rw[alM t this]
theorem aqP(t:List ae){B:List ae}{d:J}{es:List (B3×J)}(h:dH B d=some es):dH (B++t) d=some es:=by unfold dH at h|-;grind
theorem Zj(C:dJ)(d:aT)(R:List (Nat×J))(B t:List ae)(hk:d.kind=1)(h:(au C d ⟨R,B⟩).pre):
 (au C d ⟨R,B++t⟩).pre/\(au C d ⟨R,B++t⟩).val=(au C d ⟨R,B⟩).val/\(au C d ⟨R,B++t⟩).B=B++t:=by
 cases d<;>simp only[aT.kind,reduceCtorEq,Nat.reduceEqDiff]at hk<;>simp only[au]at h|-;case Md x=>simp_all[M4]
 case SL m k=>
  cases he:dH B (m.ev R)with
  |none=>simp[he,no]at h
  |some es=>
   rw[he]at h;rw[aqP t he];cases yK:k.ev R<;>simp only[yK,no]at h|- <;>first|exact h.elim|simp_all
 case len x=>
  split at h
  .simp_all
  .simp_all
  .exact⟨uZ t h,rfl,rfl⟩
  .exact h.elim
 case Pt x=>
  split at h
  .simp_all
  .simp_all
  .simp_all
  .exact⟨uZ t h,rfl,rfl⟩
  .exact h.elim
 case Ot n x y=>
  revert h;split
  .intro h;exact⟨uZ t h,rfl,rfl⟩
  simp_all
 case load s x=>simp_all[aqO]
 case q0 o x=>
  split at h
  .simp_all
  .exact⟨uZ t h,rfl,rfl⟩
  .exact h.elim
 case re x=>
  split at h
  .exact⟨uZ t h,rfl,rfl⟩
  .simp_all
  .simp_all
  .simp_all
  .exact h.elim
 case mo n z x i=>
  split at h
  .simp_all
  .exact⟨⟨uZ t h.1,h.2⟩,rfl,rfl⟩
  .exact h.elim
 case ra z x i=>
  split at h
  .grind
  next hh L off len k n Y e2=>cases hi:B[hh]?<;>simp_all[no,Zs,trivial]
  .exact h.elim
 case slice z x a b c=>
  unfold jq at h|-;grind
end Go.Nk
