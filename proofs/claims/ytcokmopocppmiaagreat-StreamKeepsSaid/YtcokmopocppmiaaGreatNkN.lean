/- Freezing values; new blocks. -/
import Derived.Test.YtcokmopocppmiaaGreatNkG
import Derived.MapKept
import Derived.RangeFuncOwn
import Derived.RangeFuncLeaves
import Derived.RangeFuncRecord
import Derived.OrdersIn
import Derived.TacticsIn
import Derived.Sort.LoopGhostIn
set_option linter.all false
namespace Go.Nk
open Go.RowKit
section
variable {P:Program} {K F F':Nat->Prop} {σ σ':Nat->Option Nat} {hp cJ:List ak} {w w':World} {fr:List (Nat×DV)} {a:Act} {o:Oper}
theorem aB.FJ{d:DV}{v}(h:aB F σ hp w d v)(hd:d.aY=true):bY F w d v:=by cases h<;>first|assumption|simp[DV.aY]at hd
theorem Iu{d:DV}(hd:d.aY=true):d.one=true:=by cases d<;>first|rfl|simp[DV.aY]at hd
theorem ac4{es}{i j}{d}(h:cellAt es i j=some d):∃e∈es,d∈e:=by
 unfold cellAt at h;cases he:es[i]? with
 |none=>simp[he]at h
 |some e=>rw[he]at h;exact⟨e,List.mem_of_getElem? he,List.mem_of_getElem? h⟩
def Ij [Inhabited Env](K F:Nat->Prop)(σ:Nat->Option Nat)(hp:List ak)(w:World)(F':Nat->Prop)(cJ:List ak):Prop:=
 bF K F' σ cJ w/\iw K F w F' w/\HM F σ hp w F' σ cJ w
theorem Ij.refl [Inhabited Env](hs:bF K F σ hp w):Ij K F σ hp w F hp:=⟨hs,.refl _ _ _,.refl _ _ _ _⟩
theorem Ij.trans [Inhabited Env]{F''}{alM}(h:Ij K F σ hp w F' cJ)(k:Ij K F' σ cJ w F'' alM):Ij K F σ hp w F'' alM:=
 ⟨k.1,h.2.1.trans k.2.1,h.2.2.trans k.2.2⟩
theorem asG [Inhabited Env](hs:bF K F σ hp w){h}{ob:ak}(cD:hp[h]? =some ob)(hk:ob.k= .aN\/ob.k= .sY):
 ∃F',Ij K F σ hp w F' (je hp h)/\∀g,σ h=some g->F' g:=by
 unfold je;simp only[cD];rcases hk with hk|hk
 ·obtain⟨h1,h2,h3⟩:=hs.freeze cD hk;exact⟨_,⟨h1,h2,h3⟩,λg hg=> .inr hg⟩
 ·have hl:h<hp.length:=by
   rcases Nat.lt_or_ge h hp.length with h'|h'
   ·exact h'
   ·rw[List.getElem?_eq_none h']at cD;cases cD
  have e:hp.set h {ob with k:= .sY}=hp:=by
   have:({ob with k:= .sY}:ak)=ob:=by cases ob;simp at hk;subst hk;rfl
   rw[this];apply List.ext_getElem?;intro n;by_cases hn:n=h
   ·subst hn;rw[List.getElem?_set_self hl,cD]
   ·rw[List.getElem?_set_ne (Ne.symm hn)]
  rw[e];exact⟨F,.refl hs,λg hg=>hs.alr cD hk hg⟩
def dS(R:DV->Value->Prop)(ds:List DV)(vs:List Value):Prop:=
 ds.length=vs.length/\∀(j:Nat) (d:DV),ds[j]? =some d->∃u,vs[j]? =some u/\R d u
theorem ae8 [Inhabited Env](hs:bF K F σ hp w){d}{v}(hv:aB F σ hp w d v)(h:(hH hp d).pre):
 ∃F',Ij K F σ hp w F' (hH hp d).hp/\bY F' w (hH hp d).val v/\(hH hp d).val.one=true:=by
 unfold hH at h|-;split at h
 ·rename_i h' L off len;have cD:∃ob,hp[h']? =some ob/\(ob.k= .aN\/ob.k= .sY):=by
   simp only[bf]at h;cases cD:hp[h']? with
   |none=>simp[cD]at h
   |some ob=>
    simp only[cD]at h;split at h
    ·rename_i hk;exact⟨ob,rfl,hk⟩
    ·exact h.elim
  obtain⟨ob,cD,hk⟩:=cD;obtain⟨F',hfr,hF'⟩:=asG hs cD hk;obtain⟨A,c,z,rfl,hlc,hz,hA,_⟩:=rq hs hv h (by simp);refine⟨F',hfr,bY.LZ hlc hz λbw=> ?_,rfl⟩;obtain⟨b,hb,WK,hF,hc⟩:=hA bw;refine⟨b,hb,WK,?_,λi j e he=> ?_⟩
  ·rcases hF with hF|⟨h1,L1,o1,l1,e1,e2⟩
   ·exact hfr.2.1.mono _ hF
   ·injection e1 with e1;subst e1;exact hF' _ e2
  ·obtain⟨u,hu,h1,hr⟩:=hc i j e he;exact⟨u,hu,h1,hr.mono hfr.2.1.mono hfr.2.1.bS⟩
 ·have:=hv.kx;subst this;exact⟨F,.refl hs,bY.LZ (es:=[]) (z:=0) (Nat.le_refl _) (λi e he=>by simp at he) (λh=>absurd rfl h),rfl⟩
 ·obtain⟨vs,rfl,hl,hr⟩:=hv.B8;refine⟨F,.refl hs,?_,rfl⟩;obtain⟨vv,v1,v2⟩:=ZT (vs:=vs) (R:=bY F w) λj d hd=>let⟨u,hu,qB⟩:=hr j d hd;⟨u,hu,qB.FJ (List.all_eq_true.1 h d (List.mem_of_getElem? hd))⟩;exact .clo _ _ vs hl vv v1 v2
 ·split at h
  ·rename_i hi;rw[if_pos hi];exact⟨F,.refl hs,hv.FJ hi,Iu hi⟩
  ·exact h.elim
theorem dS.cons{R}{d}{ds}{vs}(h:dS R (d::ds) vs):∃v us,vs=v::us/\R d v/\dS R ds us:=by
 obtain⟨hl,hr⟩:=h;cases vs with
 |nil=>simp at hl
 |cons v us=>
  obtain⟨u,hu,h0⟩:=hr 0 d rfl;simp at hu;subst hu;exact⟨_,_,rfl,h0,by simpa using hl,λj e he=>by simpa using hr (j+1) e (by simpa using he)⟩
def dS.ag5{R}{vs}(h:dS R [] vs):=show vs=_ from List.eq_nil_of_length_eq_zero h.1.symm
theorem dS.ic{R}{d}{ds}{v}{vs}(h:R d v)(k:dS R ds vs):dS R (d::ds) (v::vs):=
 ⟨by simp[k.1],λj e he=>by
  cases j with
  |zero=>simp at he;subst he;exact⟨v,rfl,h⟩
  |succ j=>simpa using k.2 j e (by simpa using he)⟩
theorem dS.kV{R}:dS R [] []:=⟨rfl,λj e he=>by simp at he⟩
theorem dS.imp{R R'}{ds}{vs}(h:dS R ds vs)(hR:∀d v,R d v->R' d v):dS R' ds vs:=
 ⟨h.1,λj d hd=>let⟨u,hu,hr⟩:=h.2 j d hd;⟨u,hu,hR _ _ hr⟩⟩
def Br(F:Nat->Prop)(w:World)(d:DV)(v:Value):Prop:=bY F w d v/\d.one=true
theorem Nx [Inhabited Env]:∀{ds:List DV} {vs:List Value} {hp:List ak} {F:Nat->Prop},bF K F σ hp w->dS (aB F σ hp w) ds vs->(tJ hp ds).pre->
 ∃F',Ij K F σ hp w F' (tJ hp ds).hp/\dS (Br F' w) (tJ hp ds).dL vs
 |[],vs,hp,F,hs,hv,_=>⟨F,.refl hs,by rw[hv.ag5];exact .kV⟩
 |d::ds,vs,hp,F,hs,hv,h=>by obtain⟨v,us,rfl,h0,hr⟩:=hv.cons;obtain⟨nq,gh⟩:=h;obtain⟨F1,f1,r1,o1⟩:=ae8 hs h0 nq;obtain⟨F2,f2,r2⟩:=Nx f1.1 (hr.imp λd v h=>h.mono f1.2.2) gh;exact⟨F2,f1.trans f2,.ic ⟨r1.mono f2.2.1.mono f2.2.1.bS,o1⟩ r2⟩
def V7(R:DV->Value->Prop):List (List DV)->List (List Value)->Prop
 |[],[]=>True
 |e::es,v::vs=>dS R e v/\V7 R es vs
 |_,_=>False
theorem V7.imp{R R'}(hR:∀d v,R d v->R' d v):∀{es:List (List DV)} {vs:List (List Value)},V7 R es vs->V7 R' es vs
 |[],[],_=>trivial
 |_::_,_::_,h=>⟨h.1.imp hR,h.2.imp hR⟩
 |[],_::_,h=>h.elim
 |_::_,[],h=>h.elim
theorem ZU [Inhabited Env]:∀{es:List (List DV)} {vs:List (List Value)} {hp:List ak} {F:Nat->Prop},bF K F σ hp w->V7 (aB F σ hp w) es vs->(xJ hp es).pre->
 ∃F',Ij K F σ hp w F' (xJ hp es).hp/\V7 (Br F' w) (xJ hp es).dL vs
 |[],[],hp,F,hs,_,_=>⟨F,.refl hs,trivial⟩
 |e::es,v::vs,hp,F,hs,hv,h=>by obtain⟨nq,gh⟩:=h;obtain⟨F1,f1,r1⟩:=Nx hs hv.1 nq;obtain⟨F2,f2,r2⟩:=ZU f1.1 (hv.2.imp λd v h=>h.mono f1.2.2) gh;exact⟨F2,f1.trans f2,r1.imp λd v h=>⟨h.1.mono f2.2.1.mono f2.2.1.bS,h.2⟩,r2⟩
 |[],_::_,_,_,_,h,_=>h.elim
 |_::_,[],_,_,_,h,_=>h.elim
theorem B9{d}{v:Value}(hv:aB F σ hp w d v)(h1:∀e∈cellsOf d,e.one=true):dS (aB F σ hp w) (cellsOf d) v.cells.toList:=by
 unfold cellsOf at h1|-;split
 ·obtain⟨vs,rfl,hl,hr⟩:=hv.pN;exact⟨by simpa[Value.cells]using hl,λj e he=>by obtain⟨u,hu,hr⟩:=hr j e he;exact⟨u,by simpa[Value.cells]using hu,hr⟩⟩
 ·rename_i bw;have ho:d.one=true:=by
   split at h1
   ·rename_i cs;exact absurd rfl (bw cs)
   ·exact h1 d (by simp)
  have hc:v.cells= #[v]:=by have:=hv.vZ ho;cases v<;>first|rfl|simp[Value.oneCell']at this
  rw[hc];exact .ic hv .kV
theorem FK{d}{v:Value}(hv:aB F σ hp w d v)(hd:d≠ .undef):dS (aB F σ hp w) (cellsOf d) v.cells.toList:=by
 by_cases ho:d.one=true
 ·have hc:cellsOf d=[d]:=by cases d<;>first|rfl|simp[DV.one]at ho
  exact B9 hv (by rw[hc];simpa using ho)
 ·cases d<;>first|exact absurd rfl ho|skip
  ·exact absurd rfl hd
  ·rename_i cs;obtain⟨vs,rfl,hl,hr⟩:=hv.pN;exact⟨by simpa[Value.cells,cellsOf]using hl,λj e he=>by obtain⟨u,hu,hr⟩:=hr j e he;exact⟨u,by simpa[Value.cells]using hu,hr⟩⟩
  ·rename_i cs;obtain⟨vs,rfl,hl,hr⟩:=hv.Ik;simp only[cellsOf,Value.cells];exact .ic hv .kV
theorem DK{z:Nat}:∀{es:List (List DV)} {vs:List (List Value)} {R:DV->Value->Prop},V7 R es vs->(∀e∈es,e.length=z)->
 vs.flatten.length=es.length*z/\∀i j d,cellAt es i j=some d->∃u,vs.flatten[i*z+j]? =some u/\R d u
 |[],[],R,_,_=>⟨by simp,λi j d h=>by simp[cellAt]at h⟩
 |e::es,v::vs,R,h,hz=>by
  obtain⟨hl,hr⟩:=DK h.2 (λx hx=>hz x (by simp[hx]));have he:=hz e (by simp);have hv:v.length=z:=by rw[<-h.1.1,he]
  refine⟨by simp[hl,hv,Nat.add_mul];omega,λi j d hd=> ?_⟩;cases i with
  |zero=>
   simp[cellAt]at hd;obtain⟨u,hu,hR⟩:=h.1.2 j d hd;refine⟨u,?_,hR⟩;have hj:=(List.getElem?_eq_some_iff.1 hu).1;simp[List.getElem?_append_left hj,hu]
  |succ i=>
   obtain⟨u,hu,hR⟩:=hr i j d (by simpa[cellAt]using hd);refine⟨u,?_,hR⟩;rw[List.flatten_cons,List.getElem?_append_right (by rw[hv,Nat.add_mul];omega),<-hu];congr 1;rw[hv,Nat.add_mul];omega
 |[],_::_,_,h,_=>h.elim
 |_::_,[],_,h,_=>h.elim
theorem ae9 [Inhabited Env](hs:bF K F σ hp w){w':World}(os:w'.os=w.os)(tape:w'.tape=w.tape)(output:w'.output=w.output)(size:w'.heap.size=w.heap.size+1)(heap:∀b,b<w.heap.size->w'.heap[b]? =w.heap[b]?)
 (ob:ak) (hk:ob.k= .aN\/ob.k= .loc)
 (hb:HM F σ hp w F (λx=>if x=hp.length then some w.heap.size else σ x) (hp++[ob]) w'->Blk w' w.heap.size ob.z ob.es (λd v=>if ob.k= .loc then aB F (λx=>if x=hp.length then some w.heap.size else σ x) (hp++[ob]) w' d v else bY F w' d v/\d.one=true)):
 bF K F (λx=>if x=hp.length then some w.heap.size else σ x) (hp++[ob]) w'/\iw K F w F w'/\HM F σ hp w F (λx=>if x=hp.length then some w.heap.size else σ x) (hp++[ob]) w':=by
 have c:Ir K F σ hp w hp.length ob F (λx=>if x=hp.length then some w.heap.size else σ x) (hp++[ob]) w':=
  {os:=os,tape:=tape,output:=output,size:=by omega,hF:=λ_ h=>h,newF:=λ_ h=> .inl h,Qh:=λb h=>by have:=hs.fb b h;omega
   heap:=λb h _=>heap b h,z8:= .inr ⟨rfl,rfl⟩,sig:=λh' bw=>by simp[bw],Bt:=λg hg=> .inr (by simp at hg;omega),grow:=λoh tg=>by simp at tg}
 have hm:=c.hm hs;refine⟨c.sim hs ?_,c.yb hs,hm⟩;have hb':=hb hm;have nF:¬F w.heap.size:=λh=>by have:=hs.fb _ h;omega
 have nK:¬K w.heap.size:=λh=>by have:=hs.kb _ h;omega
 unfold fT;rcases hk with hk|hk
 ·rw[hk];dsimp only;simp only[hk,reduceCtorEq,if_false]at hb';exact .inr ⟨w.heap.size,by simp,nF,nK,hb'⟩
 ·rw[hk];dsimp only;simp only[hk,if_true]at hb';exact⟨w.heap.size,by simp,nF,nK,hb'⟩
theorem ao1{z}{es:List (List DV)}{k}{L}(hL:es.length=L):
 aB F (λx=>if x=hp.length then some w.heap.size else σ x) (hp++[⟨k,z,es⟩]) w' (.ptr hp.length L 0 0) (.pointer (some ⟨w.heap.size,0,none⟩)):=by
 refine .ptr _ _ _ _ _ rfl (by simp) λo ho=> ?_;have:o=⟨k,z,es⟩:=by simpa using ho.symm
 subst this;exact⟨by simp[hL],λ_ _=>⟨w.heap.size,by simp,by simp⟩⟩
theorem ao2{z}{es:List (List DV)}{k}{len cap}(hlen:len=es.length)(hc:len<=cap)(hb:cap*z<=Sa w' w.heap.size):
 aB F (λx=>if x=hp.length then some w.heap.size else σ x) (hp++[⟨k,z,es⟩]) w' (.own hp.length len 0 len) (.slice (some ⟨w.heap.size,0,none⟩) len cap):=by
 refine .own _ _ _ _ _ rfl (by simp) λo ho=> ?_;have:o=⟨k,z,es⟩:=by simpa using ho.symm
 subst this;exact⟨by simp[hlen],λ_ _=>⟨_,cap,rfl,hc,.inr ⟨w.heap.size,by simp,by simp,by simpa using hb⟩⟩⟩
theorem jt(ob:Obj):∀b,b<w.heap.size->(w.alloc ob).heap[b]? =w.heap[b]? :=λb hb=>Below.heap_alloc w ob b hb
theorem Tw [Inhabited Env](hs:bF K F σ hp w)(t){cs:List DV}{c:Array Value}(h:dS (aB F σ hp w) cs c.toList):
 dM K F σ hp w (.ptr hp.length 1 0 0) (hp++[⟨.loc,cs.length,[cs]⟩]) (.pointer (some ⟨w.heap.size,0,none⟩)) (w.alloc (.cells c t)):=by
 obtain⟨h1,h2,h3⟩:=ae9 (w':=w.alloc (.cells c t)) hs rfl rfl rfl (by simp) (jt _) ⟨.loc,cs.length,[cs]⟩ (.inr rfl) (λhm=>by
  simp only[if_true];refine⟨c,t,heap_alloc_new w _,?_,λi e he=> ?_,λi j d hd=> ?_⟩
  ·have:=h.1;simp at this;simp[this]
  ·cases i<;>simp at he;subst he;rfl
  ·cases i with
   |zero=>
    simp[cellAt]at hd;obtain⟨u,hu,hr⟩:=h.2 j d hd;exact⟨u,by simpa using hu,hr.mono hm⟩
   |succ i=>simp[cellAt]at hd)
 exact⟨F,_,h1,h2,h3,ao1 rfl⟩
theorem azx [Inhabited Env](hs:bF K F σ hp w){h}{o0:ak}(h0:hp[h]? =some o0)(hd:o0.k= .dead)(he:o0.es=[])(t){cs:List DV}{c:Array Value}(hv:dS (aB F σ hp w) cs c.toList):
 dM K F σ hp w (.ptr h 1 0 0) (hp.set h ⟨.loc,cs.length,[cs]⟩) (.pointer (some ⟨w.heap.size,0,none⟩)) (w.alloc (.cells c t)):=by
 have hl:=(List.getElem?_eq_some_iff.1 h0).1;have cg:Ir K F σ hp w h ⟨.loc,cs.length,[cs]⟩ F (λx=>if x=h then some w.heap.size else σ x) (hp.set h ⟨.loc,cs.length,[cs]⟩) (w.alloc (.cells c t)):=
  {os:=rfl,tape:=rfl,output:=rfl,size:=by simp,hF:=λ_ h=>h,newF:=λ_ h=> .inl h,Qh:=λb h=>by have:=hs.fb b h;simp;omega
   heap:=λb hb _=>jt _ b hb,z8:= .inl ⟨hl,rfl⟩,sig:=λh' bw=>by simp[bw],Bt:=λg hg=> .inr (by simp at hg;omega)
   grow:=λoh tg=>by rw[h0]at tg;injection tg with e;subst e;exact⟨.inr ⟨he,by simp⟩,by simp[he],λhx=>by simp[he]at hx⟩}
 have hm:=cg.hm hs;have nF:¬F w.heap.size:=λh=>by have:=hs.fb _ h;omega
 have nK:¬K w.heap.size:=λh=>by have:=hs.kb _ h;omega
 refine⟨F,_,cg.sim hs ?_,cg.yb hs,hm,.ptr _ _ _ _ _ rfl (by simpa using hl) λo' ey=> ?_⟩
 ·unfold fT;dsimp only;refine⟨w.heap.size,by simp,nF,nK,c,t,heap_alloc_new w _,?_,λi e he=> ?_,λi j d hd=> ?_⟩
  ·have:=hv.1;simp at this;simp[this]
  ·cases i<;>simp at he;subst he;rfl
  ·cases i with
   |zero=>
    simp[cellAt]at hd;obtain⟨u,hu,hr⟩:=hv.2 j d hd;exact⟨u,by simpa using hu,hr.mono hm⟩
   |succ i=>simp[cellAt]at hd
 ·rw[cg.get]at ey;injection ey with ey;subst ey;exact⟨by simp,λ_ _=>⟨w.heap.size,by simp,by simp⟩⟩
theorem avS [Inhabited Env]{t:TypeId}{x:Operand}{x':DA}(hs:bF K F σ hp w)(ho:o.op= .box t x)(hf:jq F σ hp w fr a.tmps)(hx:cF x x'=true)(h1:∀d∈cellsOf (x'.ev fr),d.one=true):
 ∃v w',(execOp a.eval o).run P w= .ok (.value v) w'/\dM K F σ hp w (.ptr hp.length 1 0 0) (hp++[⟨.loc,(cellsOf (x'.ev fr)).length,[cellsOf (x'.ev fr)]⟩]) v w':=
 ⟨_,_,by simp[execOp,ho,Instr.box,newVar,newRow],Tw hs t (B9 (aE hf hx) h1)⟩
theorem v5{vs}{ds}(h:jH vs ds=true):dS (Br F w) ds vs:=rA h
theorem azv [Inhabited Env]{t:TypeId}{i:TypeInfo}{z:Value}{zero:List DV}(hs:bF K F σ hp w)(ho:o.op= .alloc t)(hi:P.info? t=some i)(hz:i.zero=some z)(hm:jH z.cells.toList zero=true){h:Nat}{o0:ak}(h0:hp[h]? =some o0)(hd:o0.k= .dead)(he:o0.es=[]):
 ∃v w',(execOp a.eval o).run P w= .ok (.value v) w'/\dM K F σ hp w (.ptr h 1 0 0) (hp.set h ⟨.loc,zero.length,[zero]⟩) v w':=
 ⟨_,_,by simp[execOp,ho,Instr.alloc,newVar,newRow,zeroValue,typeInfo,hi,hz],azx hs h0 hd he t ((v5 hm).imp λd v h=> .aN h.1)⟩
theorem aoY [Inhabited Env]{t}{i:TypeInfo}{z:Value}{zero:List DV}(hs:bF K F σ hp w)(ho:o.op= .alloc t)(hi:P.info? t=some i)(hz:i.zero=some z)(hm:jH z.cells.toList zero=true):
 ∃v w',(execOp a.eval o).run P w= .ok (.value v) w'/\dM K F σ hp w (.ptr hp.length 1 0 0) (hp++[⟨.loc,zero.length,[zero]⟩]) v w':=
 ⟨_,_,by simp[execOp,ho,Instr.alloc,newVar,newRow,zeroValue,typeInfo,hi,hz],Tw hs t ((v5 hm).imp λd v h=> .aN h.1)⟩
end
end Go.Nk
set_option linter.all false
namespace Go.Nk
open Go.RowKit
section
variable {P:Program} {K F F':Nat->Prop} {σ σ':Nat->Option Nat} {hp cJ:List ak} {w w':World} {fr:List (Nat×DV)} {a:Act} {o:Oper}
theorem Tx(off:Nat):∀(l:List Value) (s:Nat) (cs:Array Value),
 ((l.zipIdx s).foldl (λ(cs:Array Value) (x:Value×Nat)=>cs.setIfInBounds (off+x.2) x.1) cs).size=cs.size/\
 ∀k,((l.zipIdx s).foldl (λ(cs:Array Value) (x:Value×Nat)=>cs.setIfInBounds (off+x.2) x.1) cs)[k]? =if off+s<=k/\k<off+s+l.length/\k<cs.size then l[k-off-s]? else cs[k]?
 |[],s,cs=>⟨by simp,λk=>by simp;intro h1 h2;omega⟩
 |v::l,s,cs=>by
  obtain⟨h1,h2⟩:=Tx off l (s+1) (cs.setIfInBounds (off+s) v);simp only[List.zipIdx_cons,List.foldl_cons];refine⟨by rw[h1];simp,λk=> ?_⟩;rw[h2 k];simp only[Array.size_setIfInBounds,List.length_cons];by_cases hk:k=off+s
  ·subst hk;rw[if_neg (by omega)];by_cases hb:off+s<cs.size
   ·rw[if_pos (by omega)];simp[hb]
   ·rw[if_neg (by omega)];simp[hb]
  ·by_cases hc:off+(s+1)<=k/\k<off+(s+1)+l.length/\k<cs.size
   ·rw[if_pos hc,if_pos (by omega)];rw[show k-off-s=(k-off-(s+1))+1 by omega];simp
   ·rw[if_neg hc,if_neg (by omega)];rw[Array.getElem?_setIfInBounds_ne (by omega)]
def yc(off:Nat)(v cs:Array Value):Array Value:=v.zipIdx.foldl (λcs (c,j)=>cs.setIfInBounds (off+j) c) cs
theorem Qj(off:Nat)(v:Array Value)(cs:Array Value):
 (yc off v cs).size=cs.size/\∀k,(yc off v cs)[k]? =if off<=k/\k<off+v.size/\k<cs.size then v[k-off]? else cs[k]? :=by
 have e:yc off v cs=((v.toList.zipIdx 0).foldl (λ(cs:Array Value) (x:Value×Nat)=>cs.setIfInBounds (off+x.2) x.1) cs):=by unfold yc;rw[<-Array.foldl_toList];rw[Array.toList_zipIdx]
 rw[e];obtain⟨h1,h2⟩:=Tx off v.toList 0 cs;refine⟨h1,λk=> ?_⟩;rw[h2 k];simp
theorem y9:∀(cs row:List DV) (j:Nat),(setFrom row j cs).length=row.length/\
 ∀k,(setFrom row j cs)[k]? =if j<=k/\k<j+cs.length/\k<row.length then cs[k-j]? else row[k]?
 |[],row,j=>⟨rfl,λk=>by simp[setFrom];intro h1 h2;omega⟩
 |c::cs,row,j=>by
  obtain⟨h1,h2⟩:=y9 cs (row.set j c) (j+1);simp only[setFrom];refine⟨by rw[h1];simp,λk=> ?_⟩;rw[h2 k];simp only[List.length_set,List.length_cons];by_cases hk:k=j
  ·subst hk;rw[if_neg (by omega)];by_cases hb:k<row.length
   ·rw[if_pos (by omega)];simp[hb]
   ·rw[if_neg (by omega)];rw[List.getElem?_eq_none (by simp;omega),List.getElem?_eq_none (by omega)]
  ·by_cases hc:j+1<=k/\k<j+1+cs.length/\k<row.length
   ·rw[if_pos hc,if_pos (by omega)];rw[show k-j=(k-(j+1))+1 by omega];simp
   ·rw[if_neg hc,if_neg (by omega)];rw[List.getElem?_set_ne (by omega)]
theorem alN{d:DV}(h:d.isU=false):d≠ .undef:=by rintro rfl;simp[DV.isU]at h
theorem FL(hf:jq F σ hp w fr a.tmps)(place:Nat->Option (Nat×Nat)):∀(ps:List (Nat×Operand)) (parts:List (Nat×Nat×DA)) (ds:List DV) (cells:Array Value),
 FM place ps parts=true->dS (aB F σ hp w) ds cells.toList->(bZ ds fr parts).1->
 ∃Bu,Instr.fill place cells (ps.map λ(i,x)=>(i,a.eval x))=some Bu/\dS (aB F σ hp w) (bZ ds fr parts).2 Bu.toList
 |[],[],ds,cells,_,h,_=>⟨cells,rfl,h⟩
 |(i,x)::ps,(off,n,y)::parts,ds,cells,hm,h,hb=>by
  simp only[FM,Bool.and_eq_true,decide_eq_true_eq]at hm;obtain⟨⟨RH,hx⟩,hm⟩:=hm;obtain⟨hu,hn,aEc,hb⟩:=hb;have hc:=FK (aE hf hx) (alN hu);have iP:(a.eval x).cells.size=n:=by rw[<-hn,hc.1];simp
  have hds:ds.length=cells.size:=by simpa using h.1
  obtain⟨f1,f2⟩:=Qj off (a.eval x).cells cells;obtain⟨s1,s2⟩:=y9 (cellsOf (y.ev fr)) ds off;obtain⟨Bu,e1,e2⟩:=FL hf place ps parts (setFrom ds off (cellsOf (y.ev fr))) (yc off (a.eval x).cells cells) hm
   (⟨by rw[s1,hds,Array.length_toList,f1],λk d hd=>by
     rw[s2 k]at hd;split at hd
     ·rename_i hk;obtain⟨u,hu,hr⟩:=hc.2 _ _ hd;refine⟨u,?_,hr⟩;rw[Array.getElem?_toList];refine(f2 k).trans ?_;rw[if_pos (by omega)];simpa using hu
     ·rename_i hk;obtain⟨u,hu,hr⟩:=h.2 _ _ hd;refine⟨u,?_,hr⟩;rw[Array.getElem?_toList];refine(f2 k).trans ?_;rw[if_neg (by omega)];simpa using hu⟩) hb
  refine⟨Bu,?_,e2⟩;simp only[List.map_cons,Instr.fill,RH];rw[if_neg]
  ·exact e1
  ·simp[iP];omega
 |[],_::_,_,_,hm,_,_=>by simp[FM]at hm
 |_::_,[],_,_,hm,_,_=>by simp[FM]at hm
theorem alO(f:Field->Sem (Nat×Nat))(g:Field->Nat×Nat)(fs:Array Field)(h:∀x∈fs.toList,(f x).run P w= .ok (g x) w):(fs.mapM f).run P w= .ok (fs.map g) w:=by
 have key:∀l:List Field,(∀x∈l,(f x).run P w= .ok (g x) w)->(l.mapM f).run P w= .ok (l.map g) w:=by
  intro l;induction l with
  |nil=>intro _;simp
  |cons x l ih=>
   intro h;simp[List.mapM_cons,h x (by simp),ih (λy hy=>h y (by simp[hy]))]
 rw[Array.mapM_eq_mapM_toList];rw[Sem.run_map,key fs.toList h];simp only[Result.andThen_ok];congr 1;apply Array.ext';simp
theorem aoX{t:TypeId}{ps:Array (Nat×Operand)}{zero:List DV}{parts:List (Nat×Nat×DA)}(ho:o.op= .build t ps)(hm:Tn P (.build t ps) (.build zero parts)=true)(hf:jq F σ hp w fr a.tmps)
 (h:(bZ zero fr parts).1):gX P F σ hp w o a (.agg (bZ zero fr parts).2):=by
 simp only[Tn,Bool.and_eq_true]at hm;obtain⟨hz,hm⟩:=hm;cases hi:P.info? t with
 |none=>simp[hi]at hz
 |some i=>
  simp only[hi]at hz;cases o5:i.zero with
  |none=>simp[o5]at hz
  |some z=>
   simp only[o5]at hz;have WN:dS (aB F σ hp w) zero z.cells.toList:=L5 hz;have To:(zeroValue t).run P w= .ok z w:=by simp[zeroValue,typeInfo,hi,o5]
   have hl:(ps.map λx=>match x with|(i,x)=>(i,a.eval x)).toList=ps.toList.map λ(i,x)=>(i,a.eval x):=by simp
   split at hm
   ·rename_i fs hu;simp only[Bool.and_eq_true,List.all_eq_true]at hm;obtain⟨mn,hm⟩:=hm;obtain⟨Bu,e1,e2⟩:=FL hf _ _ _ _ _ hm WN h;have RH:(fs.mapM λf=>do pure (f.offset,<-sizeOf f.type):Sem (Array (Nat×Nat))).run P w= .ok (fs.map λf=>(f.offset,P.cellsOf f.type)) w:=by refine alO _ _ _ λx hx=> ?_;obtain⟨j,hj⟩:=Option.isSome_iff_exists.1 (mn x hx);simp[sizeOf,typeInfo,hj,Program.cellsOf]
    have azy:(λ(i:Nat)=>(fs.map λf=>(f.offset,P.cellsOf f.type))[i]?)=λ(i:Nat)=>(fs[i]?).bind λ(f:Field)=>(P.info? f.type).map λj=>(f.offset,j.size):=by
     funext i;rw[Array.getElem?_map];cases hfi:fs[i]? with
     |none=>simp
     |some f=>
      obtain⟨j,hj⟩:=Option.isSome_iff_exists.1 (mn f (by simpa using Array.mem_of_getElem? hfi));simp[hj,Program.cellsOf]
    refine⟨.agg Bu,?_,aB.uB (by simpa using e2.1) λj d hd=>by obtain⟨u,hu,hr⟩:=e2.2 j d hd;exact⟨u,by simpa using hu,hr⟩⟩
    simp only[execOp,ho,Instr.build,Sem.run_bind,To,Result.andThen_ok,bO hu,RH,azy,hl,e1,Sem.run_pure]
   ·rename_i n e hu;cases hj:P.info? e with
    |none=>simp[hj]at hm
    |some j=>
     simp only[hj]at hm;obtain⟨Bu,e1,e2⟩:=FL hf _ _ _ _ _ hm WN h;refine⟨.agg Bu,?_,aB.uB (by simpa using e2.1) λj d hd=>by obtain⟨u,hu,hr⟩:=e2.2 j d hd;exact⟨u,by simpa using hu,hr⟩⟩
     have iP:(sizeOf e).run P w= .ok j.size w:=by simp[sizeOf,typeInfo,hj]
     simp only[execOp,ho,Instr.build,Sem.run_bind,To,Result.andThen_ok,bO hu,iP,hl,e1,Sem.run_pure]
   ·cases hm
end
end Go.Nk
set_option linter.all false
namespace Go.Nk
open Go.RowKit
section
variable {P:Program} {K F F':Nat->Prop} {σ σ':Nat->Option Nat} {hp cJ:List ak} {w w':World} {fr:List (Nat×DV)} {a:Act} {o:Oper}
def Rows(R:DV->Value->Prop)(z:Nat)(es:List (List DV))(c:Array Value):Prop:=
 c.size=es.length*z/\(∀(i:Nat) (e:List DV),es[i]? =some e->e.length=z)/\∀i j d,cellAt es i j=some d->∃u,c[i*z+j]? =some u/\R d u
theorem Rows.imp{R R'}{z}{es}{c:Array Value}(h:Rows R z es c)(hR:∀d v,R d v->R' d v):Rows R' z es c:=
 ⟨h.1,h.2.1,λi j d hd=>let⟨u,hu,hr⟩:=h.2.2 i j d hd;⟨u,hu,hR _ _ hr⟩⟩
theorem afa:∀{es:List (List DV)} {c:List Value} {R:DV->Value->Prop} {z:Nat},c.length=es.length*z->(∀(i:Nat) (e:List DV),es[i]? =some e->e.length=z)->
 (∀i j d,cellAt es i j=some d->∃u,c[i*z+j]? =some u/\R d u)->∃vs,V7 R es vs/\vs.flatten=c
 |[],c,R,z,hl,_,_=>⟨[],trivial,by simp at hl;subst hl;rfl⟩
 |e::es,c,R,z,hl,hz,h=>by
  have he:=hz 0 e rfl;have hlen:z<=c.length:=by rw[hl,List.length_cons,Nat.add_mul];omega
  obtain⟨vs,h1,h2⟩:=afa (es:=es) (c:=c.drop z) (R:=R) (z:=z) (by rw[List.length_drop,hl,List.length_cons,Nat.add_mul];omega) (λi e' he'=>hz (i+1) e' (by simpa using he'))
   (λi j d hd=>by obtain⟨u,hu,hr⟩:=h (i+1) j d (by simpa[cellAt]using hd);refine⟨u,?_,hr⟩;rw[List.getElem?_drop,<-hu];congr 1;rw[Nat.add_mul];omega)
  refine⟨c.take z::vs,⟨⟨by simp[he];omega,λj d hd=> ?_⟩,h1⟩,by simp[h2]⟩;obtain⟨u,hu,hr⟩:=h 0 j d (by simpa[cellAt]using hd);refine⟨u,?_,hr⟩;have:j<z:=by rw[<-he];exact(List.getElem?_eq_some_iff.1 hd).1
  rw[List.getElem?_take,if_pos this];simpa using hu
theorem alP{z i i' j:Nat}(hj:j<z)(h:i≠i'):¬(i*z<=i'*z+j/\i'*z+j<i*z+z):=by
 rintro⟨h1,h2⟩
 rcases Nat.lt_or_gt_of_ne h with h|h
 ·have:(i+1)*z<=i'*z:=Nat.mul_le_mul_right _ h;rw[Nat.add_mul]at this;omega
 ·have:(i'+1)*z<=i*z:=Nat.mul_le_mul_right _ h;rw[Nat.add_mul]at this;omega
theorem FN(hf:jq F σ hp w fr a.tmps)(z)(zero:List DV)(hz:zero.length=z):∀(parts:List (Option DA)) (i:Nat) (ps:List (Nat×Operand)) (pre:List (List DV)) (c:Array Value),
 za i ps parts=true->pre.length=i->Rows (aB F σ hp w) z (pre++List.replicate parts.length zero) c->
 (parts.all (bU fr zero))=true->
 ∃c',Instr.fill (λi=>some (i*z,z)) c (ps.map λ(i,x)=>(i,a.eval x))=some c'/\
  Rows (aB F σ hp w) z (pre++parts.map (wL fr zero)) c'
 |[],i,ps,pre,c,hm,bG,h,_=>by
  cases ps with
  |nil=>exact⟨c,rfl,by simpa using h⟩
  |cons p ps=>simp[za]at hm
 |none::parts,i,ps,pre,c,hm,bG,h,hu=>by obtain⟨c',e1,e2⟩:=FN hf z zero hz parts (i+1) ps (pre++[zero]) c (by simpa[za]using hm) (by simp[bG]) (by simpa[List.replicate_succ,List.append_assoc]using h) (by simpa[bU]using hu);exact⟨c',e1,by simpa[List.append_assoc,wL]using e2⟩
 |some y::parts,i,ps,pre,c,hm,bG,h,hu=>by
  cases ps with
  |nil=>simp[za]at hm
  |cons p ps=>
   obtain⟨k,x⟩:=p;simp only[za,Bool.and_eq_true,beq_iff_eq]at hm;obtain⟨⟨rfl,hx⟩,hm⟩:=hm;simp only[List.all_cons,bU,Bool.and_eq_true,Bool.not_eq_true',beq_iff_eq]at hu;obtain⟨⟨hu1,hu2⟩,hu3⟩:=hu;have hc:=FK (aE hf hx) (alN hu1);have iP:(a.eval x).cells.size=z:=by rw[<-hz,<-hu2,hc.1];simp
   obtain⟨f1,f2⟩:=Qj (k*z) (a.eval x).cells c;simp only[List.length_cons]at h;have hcs:=h.1;simp only[List.length_append,List.length_replicate,bG]at hcs;have hkz:k*z+z<=c.size:=by rw[hcs,show k+(parts.length+1)=(k+1)+parts.length by omega,Nat.add_mul,Nat.add_mul];omega
   obtain⟨c',e1,e2⟩:=FN hf z zero hz parts (k+1) ps (pre++[cellsOf (y.ev fr)]) (yc (k*z) (a.eval x).cells c) hm (by simp[bG])
    ⟨by rw[f1,hcs];simp[bG],λi e he=>by
     by_cases hik:i=k
     ·subst hik;rw[List.append_assoc,List.getElem?_append_right (by omega),bG]at he;simp at he;subst he;omega
     ·refine h.2.1 i e ?_;rcases Nat.lt_or_ge i k with fM|hge
      ·rw[List.append_assoc,List.getElem?_append_left (by omega)]at he;rw[List.getElem?_append_left (by omega)];exact he
      ·rw[List.append_assoc,List.getElem?_append_right (by omega),List.getElem?_append_right (by simp;omega)]at he;rw[List.getElem?_append_right (by omega),List.replicate_succ,List.getElem?_cons];rw[if_neg (by omega)];simpa[Nat.sub_sub]using he,λi j d hd=>by
     by_cases hik:i=k
     ·subst hik;have oF:(cellsOf (y.ev fr))[j]? =some d:=by unfold cellAt at hd;rw[List.append_assoc,List.getElem?_append_right (by omega),bG]at hd;simpa using hd
      obtain⟨u,hu,hr⟩:=hc.2 _ _ oF;have hjz:j<z:=by have:=(List.getElem?_eq_some_iff.1 oF).1;omega
      refine⟨u,?_,hr⟩;rw[f2,if_pos (by omega)];simpa using hu
     ·have oF:cellAt (pre++List.replicate (parts.length+1) zero) i j=some d:=by
       unfold cellAt at hd|-;rcases Nat.lt_or_ge i k with fM|hge
       ·rw[List.append_assoc,List.getElem?_append_left (by omega)]at hd;rw[List.getElem?_append_left (by omega)];exact hd
       ·rw[List.append_assoc,List.getElem?_append_right (by omega),List.getElem?_append_right (by simp;omega)]at hd;rw[List.getElem?_append_right (by omega),List.replicate_succ,List.getElem?_cons];rw[if_neg (by omega)];simpa[Nat.sub_sub]using hd
      obtain⟨u,hu,hr⟩:=h.2.2 _ _ _ oF;have hjz:j<z:=by
       unfold cellAt at oF;cases he:(pre++List.replicate (parts.length+1) zero)[i]? with
       |none=>simp[he]at oF
       |some e=>
        simp[he]at oF;rw[<-h.2.1 i e he];exact(List.getElem?_eq_some_iff.1 oF).1
      refine⟨u,?_,hr⟩;rw[f2,if_neg (by rw[iP];intro h3;exact alP hjz (Ne.symm hik) ⟨h3.1,h3.2.1⟩)];exact hu⟩ hu3
   refine⟨c',?_,by simpa[List.append_assoc,wL]using e2⟩;simp only[List.map_cons,Instr.fill];rw[if_neg]
   ·exact e1
   ·simp[iP];omega
theorem KL{e}{zero:List DV}(h:FO P e zero=true):
 ∃i z,P.info? e=some i/\i.zero=some z/\jH z.cells.toList zero=true/\i.size=zero.length/\0<i.size/\i.bytes<=32768/\z.cells.size=zero.length/\rZ zero*i.bytes<=281474976710656:=by
 unfold FO at h;split at h
 ·rename_i i hi;split at h
  ·rename_i z hz;simp only[Bool.and_eq_true,beq_iff_eq,decide_eq_true_eq]at h;obtain⟨⟨⟨⟨h1,h2⟩,h3⟩,h4⟩,h5⟩:=h;exact⟨i,z,hi,hz,h1,h2,h3,h4,by have:=(rA (F:=λ_=>False) (w:=default) h1).1;simpa using this.symm,h5⟩
  ·cases h
 ·cases h
theorem KM{z:Value}{zero:List DV}(hm:jH z.cells.toList zero=true)(iP:z.cells.size=zero.length)(n):
 Rows (Br F w) zero.length (List.replicate n zero) ((Array.range (n*zero.length)).map (z.cells[·%z.cells.size]!)):=by
 refine⟨by simp,λi e he=> ?_,λi j d hd=> ?_⟩
 ·rw[List.getElem?_replicate]at he;split at he
  ·injection he with he;rw[<-he]
  ·cases he
 ·unfold cellAt at hd;rw[List.getElem?_replicate]at hd;split at hd
  ·rename_i hi;simp at hd;obtain⟨u,hu,hr⟩:=(v5 (F:=F) (w:=w) hm).2 j d hd;have hj:=(List.getElem?_eq_some_iff.1 hd).1;refine⟨u,?_,hr⟩;have fM:i*zero.length+j<n*zero.length:=by have:(i+1)*zero.length<=n*zero.length:=Nat.mul_le_mul_right _ hi;rw[Nat.add_mul]at this;omega
   have azz:(i*zero.length+j)%z.cells.size=j:=by rw[iP,Nat.mul_comm,Nat.mul_add_mod,Nat.mod_eq_of_lt hj]
   rw[Array.getElem?_map,Array.getElem?_range,if_pos fM];simp only[Option.map_some,azz];rw[getElem!_def];simp at hu;rw[hu]
  ·simp at hd
theorem ahd [Inhabited Env](hs:bF K F σ hp w){es:List (List DV)}{z cap}{c:Array Value}{t}{mk}{w':World}(os:w'.os=w.os)(tape:w'.tape=w.tape)(output:w'.output=w.output)
 (size:w'.heap.size=w.heap.size+1) (heap:∀b,b<w.heap.size->w'.heap[b]? =w.heap[b]?) (hg:w'.heap[w.heap.size]? =some (.cells c t mk)) (hz:∀(i:Nat) (e:List DV),es[i]? =some e->e.length=z)
 (hc:∀i j d,cellAt es i j=some d->∃u,c[i*z+j]? =some u/\Br F w d u) (Db:es.length<=cap):
 dM K F σ hp w (.sl es) hp (.slice (some ⟨w.heap.size,0,none⟩) es.length cap) w':=by
 obtain⟨h1,h2,h3⟩:=hs.ext (w':=w') (F':=λb=>F b\/b=w.heap.size) os tape output (by omega) heap (λb h=> .inl h) (λb h=>h.imp id λe=>by omega) (λb h=>h.elim (λh=>by have:=hs.fb b h;omega) λe=>by omega);refine⟨_,σ,h1,h2,h3,.aN (bY.LZ Db hz λ_=>⟨_,rfl,rfl,.inr rfl,λi j d hd=> ?_⟩)⟩;obtain⟨u,hu,hr,h1'⟩:=hc i j d hd;exact⟨u,by rw[uF hg];simpa using hu,h1',hr.mono h3.mono h3.bS⟩
theorem asx [Inhabited Env]{t}{x}{x':DA}(hs:bF K F σ hp w)(ho:o.op= .box t x)(hf:jq F σ hp w fr a.tmps)(hx:cF x x'=true)(h0:(cellsOf (x'.ev fr)).all DV.aY=true):
 ∃v w',(execOp a.eval o).run P w= .ok (.value v) w'/\dM K F σ hp w (.ref (cellsOf (x'.ev fr))) hp v w':=by
 have h1:∀d∈cellsOf (x'.ev fr),d.aY=true:=by simpa using h0
 have hv:=B9 (aE hf hx) (λd hd=>Iu (h1 d hd));refine⟨.pointer (some ⟨w.heap.size,0,none⟩),w.alloc (.cells (a.eval x).cells t),by simp[execOp,ho,Instr.box,newVar,newRow],?_⟩;obtain⟨k1,k2,k3⟩:=hs.ext (w':=w.alloc (.cells (a.eval x).cells t)) (F':=λb=>F b\/b=w.heap.size) rfl rfl rfl (by simp) (jt _) (λb h=> .inl h) (λb h=>h.imp id λe=>by omega) (λb h=>h.elim (λh=>by have:=hs.fb b h;simp;omega) λe=>by simp;omega);refine⟨_,σ,k1,k2,k3,.aN (.ref _ _ (λj=>((a.eval x).cells[j]?).getD undef) rfl (.inr rfl) (λj d hd=> ?_) (λj d hd=> ?_))⟩
 ·obtain⟨u,hu,hr⟩:=hv.2 j d hd;have Ny:(a.eval x).cells[j]? =some u:=by simpa using hu
  refine⟨?_,Iu (h1 d (List.mem_of_getElem? hd))⟩;rw[uF (heap_alloc_new w _)];simp[Ny]
 ·obtain⟨u,hu,hr⟩:=hv.2 j d hd;have Ny:(a.eval x).cells[j]? =some u:=by simpa using hu
  rw[Ny];exact(hr.FJ (h1 d (List.mem_of_getElem? hd))).mono k3.mono k3.bS
theorem KQ [Inhabited Env](hs:bF K F σ hp w){es:List (List DV)}{z cap}{c:Array Value}{t}{w':World}(os:w'.os=w.os)(tape:w'.tape=w.tape)(output:w'.output=w.output)
 (size:w'.heap.size=w.heap.size+1) (heap:∀b,b<w.heap.size->w'.heap[b]? =w.heap[b]?) (hg:w'.heap[w.heap.size]? =some (.cells c t (0,0))) (hz:∀(i:Nat) (e:List DV),es[i]? =some e->e.length=z)
 (hc:∀i j d,cellAt es i j=some d->∃u,c[i*z+j]? =some u/\Br F w d u) (Db:es.length<=cap) (KK:cap*z<=c.size):
 dM K F σ hp w (.own hp.length es.length 0 es.length) (hp++[⟨.aN,z,es⟩]) (.slice (some ⟨w.heap.size,0,none⟩) es.length cap) w':=by
 obtain⟨h1,h2,h3⟩:=ae9 (w':=w') hs os tape output size heap ⟨.aN,z,es⟩ (.inl rfl) (λhm=>by simp only[reduceCtorEq,if_false];refine⟨c,t,hg,Nat.le_trans (Nat.mul_le_mul_right _ Db) KK,hz,λi j d hd=> ?_⟩;obtain⟨u,hu,hr,h1'⟩:=hc i j d hd;exact⟨u,hu,hr.mono hm.mono hm.bS,h1'⟩)
 refine⟨F,_,h1,h2,h3,ao2 rfl Db ?_⟩;unfold Sa;rw[hg];exact KK
theorem dM.Im [Inhabited Env]{F1}{nq gh}{w1}{d}{v}(f:Ij K F σ hp w F1 nq)(h:dM K F1 σ nq w d gh v w1):dM K F σ hp w d gh v w1:=by obtain⟨F',σ',h1,h2,h3,h4⟩:=h;exact⟨F',σ',h1,f.2.1.trans h2,f.2.2.trans h3,h4⟩
theorem alH [Inhabited Env]{t e}{n}{ps:Array (Nat×Operand)}{aN}{zero:List DV}{parts:List (Option DA)}(hs:bF K F σ hp w)(ho:o.op= .buildSlice t n ps)(ht:P.underlying t=some (.slice e))(hze:FO P e zero=true)
 (hn:n=parts.length) (hm:za 0 ps.toList parts=true) (Mu:n*zero.length<=16777216) (hf:jq F σ hp w fr a.tmps) (C)
 (h:(aw C (.ux aN zero parts) ⟨fr,hp⟩).pre):
 ∃v w',(execOp a.eval o).run P w= .ok (.value v) w'/\dM K F σ hp w (aw C (.ux aN zero parts) ⟨fr,hp⟩).val (aw C (.ux aN zero parts) ⟨fr,hp⟩).hp v w':=by
 obtain⟨i,z,hi,hz,hmz,iP,sK,VU,Tp,hcp⟩:=KL hze;have aqs:0<zero.length:=by omega
 have mF:=KM (F:=F) (w:=w) hmz Tp parts.length;have hu:(parts.all (bU fr zero))=true:=by cases aN<;>exact h.1
 obtain⟨c',e1,e2⟩:=FN hf zero.length zero rfl parts 0 ps.toList [] _ hm rfl (by simpa using mF.imp λd v h=> .aN h.1) hu;simp only[List.nil_append]at e2;have hl:(ps.map λx=>match x with|(i,x)=>(i,a.eval x)).toList=ps.toList.map λ(i,x)=>(i,a.eval x):=by simp
 have x7:(execOp a.eval o).run P w= .ok (.value (.slice (some ⟨w.heap.size,0,none⟩) n n)) (w.alloc (.cells c' e)):=by
  have aqt:¬(n*zero.length>2^24):=by omega
  have z8:List.map (λx:Nat×Operand=>(x.fst,a.eval x.snd)) ps.toList=ps.toList.map λ(i,x)=>(i,a.eval x):=rfl;by_cases h0:n*zero.length=0
  ·have alQ:Instr.fill (λi=>some (i*zero.length,zero.length)) ((Array.range (n*zero.length)).map ((#[]:Array Value)[·%(#[]:Array Value).size]!)) (ps.toList.map λ(i,x)=>(i,a.eval x))=some c':=by
    have e0:∀f:Nat->Value,Array.map f (Array.range 0)= #[]:=λf=>by apply Array.ext';simp
    rw[<-e1,<-hn,h0,e0,e0]
   simp only[execOp,ho,Instr.buildSlice,Sem.run_bind,bO ht,Result.andThen_ok,sizeOf,typeInfo,run_program,hi,iP,aqt,if_false,Sem.run_pure,if_pos h0,hl,z8,alQ,newRow,run_newObj];rfl
  ·have alQ:Instr.fill (λi=>some (i*zero.length,zero.length)) ((Array.range (n*zero.length)).map (z.cells[·%z.cells.size]!)) (ps.toList.map λ(i,x)=>(i,a.eval x))=some c':=by rw[<-e1,<-hn]
   have To:(zeroValue e).run P w= .ok z w:=by simp[zeroValue,typeInfo,hi,hz]
   simp only[execOp,ho,Instr.buildSlice,Sem.run_bind,bO ht,Result.andThen_ok,sizeOf,typeInfo,run_program,hi,iP,aqt,if_false,Sem.run_pure,if_neg h0,To,hl,z8,alQ,newRow,run_newObj];rfl
 refine⟨_,_,x7,?_⟩;have hrw:∃vs,V7 (aB F σ hp w) (parts.map (wL fr zero)) vs/\vs.flatten=c'.toList:=
  afa (by simpa using e2.1) e2.2.1 (λi j d hd=>by obtain⟨u,hu,hr⟩:=e2.2.2 i j d hd;exact⟨u,by simpa using hu,hr⟩)
 obtain⟨vs,mn,hvs⟩:=hrw;have bG:(xJ hp (parts.map (wL fr zero))).pre/\∀e∈(xJ hp (parts.map (wL fr zero))).dL,e.length=zero.length:=by cases aN<;>exact h.2
 obtain⟨F1,f1,r1⟩:=ZU hs mn bG.1;obtain⟨g1,g2⟩:=DK r1 bG.2;have hlen:(xJ hp (parts.map (wL fr zero))).dL.length=n:=by
  have h1:(xJ hp (parts.map (wL fr zero))).dL.length*zero.length=parts.length*zero.length:=by rw[<-g1,hvs];simpa using e2.1
  rw[hn];exact Nat.eq_of_mul_eq_mul_right aqs h1
 rw[hvs]at g1 g2;refine dM.Im f1 ?_;have o5:∀(i:Nat) (e:List DV),(xJ hp (parts.map (wL fr zero))).dL[i]? =some e->e.length=zero.length:=λi e he=>bG.2 e (List.mem_of_getElem? he);have Da:∀i j d,cellAt (xJ hp (parts.map (wL fr zero))).dL i j=some d->∃u,c'[i*zero.length+j]? =some u/\Br F1 w d u:=λi j d hd=>by obtain⟨u,hu,hr⟩:=g2 i j d hd;exact⟨u,by simpa using hu,hr⟩
 have avY:n*zero.length<=c'.size:=by rw[e2.1];simp[hn]
 have ev:Value.slice (some ⟨w.heap.size,0,none⟩) n n= .slice (some ⟨w.heap.size,0,none⟩) (xJ hp (parts.map (wL fr zero))).dL.length n:=by rw[hlen]
 rw[ev];cases aN
 ·exact KQ f1.1 (w':=w.alloc (.cells c' e)) (cap:=n) rfl rfl rfl (by simp) (jt _) (heap_alloc_new w _) o5 Da (Nat.le_of_eq hlen) avY
 ·exact ahd f1.1 (w':=w.alloc (.cells c' e)) (cap:=n) (t:=e) rfl rfl rfl (by simp) (jt _) (heap_alloc_new w _) o5 Da (Nat.le_of_eq hlen)
theorem asw [Inhabited Env]{t e}{x y}{zero:List DV}{k k':IntKind}{m n:Int}(hs:bF K F σ hp w)(ho:o.op= .makeSlice t x y)(ht:P.underlying t=some (.slice e))(hze:FO P e zero=true)
 (hx:a.eval x= .int k m) (hy:a.eval y= .int k' n) (h0:0<=m) (h1:m<=n) (h2:n<=rZ zero):
 ∃v w',(execOp a.eval o).run P w= .ok (.value v) w'/\dM K F σ hp w (.own hp.length m.toNat 0 m.toNat) (hp++[⟨.aN,zero.length,List.replicate m.toNat zero⟩]) v w':=by
 obtain⟨i,z,hi,hz,hmz,iP,sK,VU,Tp,hcp⟩:=KL hze;have hb:(i.bytes:Int)*n<=281474976710656:=by
  calc (i.bytes:Int)*n<=(i.bytes:Int)*(rZ zero:Int):=Int.mul_le_mul_of_nonneg_left h2 (by omega)
   _=((rZ zero*i.bytes:Nat):Int):=by rw[Int.natCast_mul,Int.mul_comm]
   _<=281474976710656:=by omega
 have hlc:rZ zero<=17592186044416:=by unfold rZ;split<;>omega
 have Nu:=run_make (P:=P) w t e i z ht hi hz k k' m n h0 h1 hb (by omega);have mF:=KM (F:=F) (w:=w) hmz Tp n.toNat;refine⟨_,_,by simp only[execOp,ho,hx,hy,Sem.run_bind,Nu,Result.andThen_ok];rfl,?_⟩;have IW:∀i j d,cellAt (List.replicate m.toNat zero) i j=some d->∃u,(madeCells z.cells (n.toNat*i*0+n.toNat*zero.length))[i*zero.length+j]? =some u/\Br F w d u:=by
  intro i j d hd;have oF:cellAt (List.replicate n.toNat zero) i j=some d:=by
   unfold cellAt at hd|-;rw[List.getElem?_replicate]at hd|-;split at hd
   ·rw[if_pos (by omega)];exact hd
   ·simp at hd
  obtain⟨u,hu,hr⟩:=mF.2.2 _ _ _ oF;exact⟨u,by simpa[madeCells]using hu,hr⟩
 have:=KQ hs (es:=List.replicate m.toNat zero) (z:=zero.length) (cap:=n.toNat) (w':=w.alloc (.cells (madeCells z.cells (n.toNat*i.size)) e)) rfl rfl rfl (by simp) (jt _) (heap_alloc_new w _)
  (λi e he=>by
   rw[List.getElem?_replicate]at he;split at he
   ·injection he with he;rw[<-he]
   ·cases he) (λi' j d hd=>by
   obtain⟨u,hu,hr⟩:=IW i' j d hd;exact⟨u,by rw[iP];simpa using hu,hr⟩) (by simp;omega) (by simp[madeCells,iP])
 simpa using this
theorem Nv [Inhabited Env]{x}{z}(hs:bF K F σ hp w)(ho:o.op= .move x\/o.op= .assign x)(hx:a.eval x= .slice none 0 0):
 ∃v w',(execOp a.eval o).run P w= .ok (.value v) w'/\dM K F σ hp w (.own hp.length 0 0 0) (hp++[⟨.aN,z,[]⟩]) v w':=by
 refine⟨_,_,by rcases ho with ho|ho<;>simp only[execOp,ho,hx]<;>rfl,?_⟩;have c:Ir K F σ hp w hp.length ⟨.aN,z,[]⟩ F (λx=>if x=hp.length then none else σ x) (hp++[⟨.aN,z,[]⟩]) w:=
  {os:=rfl,tape:=rfl,output:=rfl,size:=Nat.le_refl _,hF:=λ_ h=>h,newF:=λ_ h=> .inl h,Qh:=hs.fb,heap:=λb h _=>rfl,z8:= .inr ⟨rfl,rfl⟩
   sig:=λh' bw=>by simp[bw],Bt:=λg hg=>by simp at hg,grow:=λoh tg=>by simp at tg}
 refine⟨F,_,c.sim hs (.inl ⟨rfl,by simp⟩),c.yb hs,c.hm hs,.own _ _ _ _ _ rfl (by simp) λob cD=> ?_⟩;have:ob=⟨.aN,z,[]⟩:=by simpa using cD.symm
 subst this;exact⟨by simp,λ_ _=>⟨none,0,rfl,Nat.le_refl _,.inl rfl⟩⟩
end
end Go.Nk
set_option linter.all false
namespace Go.Nk
open Go.RowKit
section
variable {P:Program} {K F F':Nat->Prop} {σ σ':Nat->Option Nat} {hp cJ:List ak} {w w':World} {fr:List (Nat×DV)} {a:Act} {o:Oper}
theorem ya{t}{z}(h:(FP P t z).isSome=true):∃e i zv,P.underlying t=some (.slice e)/\P.info? e=some i/\i.zero=some zv/\i.size=z/\0<z/\i.bytes<=32768/\zv.cells.size=z:=by
 unfold FP at h;split at h
 ·rename_i e he;split at h
  ·rename_i i hi;split at h
   ·rename_i zv hz;split at h
    ·rename_i hh;exact⟨e,i,zv,he,hi,hz,hh⟩
    ·simp at h
   ·simp at h
  ·simp at h
 ·simp at h
theorem wX{a:Addr}{n}(h:∀k,k<n->∃u,w.cell? (a.add k)=some u):
 ∀(j:Nat) (v:Value),((List.range n).map λk=>(w.cell? (a.add k)).getD undef)[j]? =some v->w.cell? (a.add j)=some v:=by
 intro j v hj;rw[List.getElem?_map]at hj;rcases Nat.lt_or_ge j n with hl|hl
 ·rw[List.getElem?_range hl]at hj;obtain⟨u,hu⟩:=h j hl;simp[hu]at hj;rw[hu,hj]
 ·rw[List.getElem?_eq_none (by simpa using hl)]at hj;simp at hj
theorem alJ [Inhabited Env](hs:bF K F σ hp w){d}{v}(hv:aB F σ hp w d v)(h:(bf hp d).pre){z}(sK:0<z)(hz:∀e∈(bf hp d).es,e.length=z){u}
 (Dc:(∃e',P.underlying u=some (.slice e'))\/P.underlying u=some .string):
 ∃news,Src P z u v (bf hp d).es.length news w/\(∀(i:Nat) (e:List DV),(bf hp d).es[i]? =some e->e.length=z)/\
  ∀i j e,cellAt (bf hp d).es i j=some e->∃x,news[i*z+j]? =some x/\Br F w e x:=by
 by_cases R0:∃s,d= .str s
 ·obtain⟨s,rfl⟩:=R0;have zb:=hv.ny;subst zb;simp only[bf]at hz|-;have hz1:z=1\/s=[]:=by
   cases s with
   |nil=>exact .inr rfl
   |cons b s=>exact .inl (by have:=hz [.int .u8 b.toNat] (by simp);simpa using this.symm)
  have Dd:Src P 1 u (.string ⟨s.toArray⟩) (⟨s.toArray⟩:ByteArray).size (byteCells ⟨s.toArray⟩) w:=
   ⟨Dc,λ_=>rfl,firstCells_string _ w,firstCells_string _ w.drew,by rw[byteCells_length,Nat.mul_one],λu hu=>by obtain⟨_,_,rfl⟩:=List.mem_map.1 hu;rfl⟩
  rcases hz1 with rfl|rfl
  ·refine⟨_,by simpa[ByteArray.size]using Dd,λi e he=> ?_,λi j e he=> ?_⟩
   ·rw[List.getElem?_map]at he;cases hb:s[i]? <;>simp[hb]at he;subst he;rfl
   ·unfold cellAt at he;rw[List.getElem?_map]at he;cases hb:s[i]? with
    |none=>simp[hb]at he
    |some x=>
     simp[hb]at he;cases j with
     |zero=>simp at he;subst he;exact⟨_,by simp[byteCells,hb],.int _ _,rfl⟩
     |succ j=>simp at he
  ·refine⟨[],⟨Dd.kind,λ_=>rfl,?_,?_,by simp,λ_ h=>by cases h⟩,λi e he=>by simp at he,λi j e he=>by simp[cellAt]at he⟩
   ·simp[Builtin.firstCells]
   ·simp[Builtin.firstCells]
 ·have avZ:∀s,d≠ .str s:=λs hs=>R0 ⟨s,hs⟩;obtain⟨A,c,z',rfl,hlc,o5,hA,hAn⟩:=rq hs hv h avZ;generalize (bf hp d).es=es at*;by_cases bw:es=[]
  ·subst bw;refine⟨[],⟨Dc,λ_=>rfl,?_,?_,by simp,λ_ h=>by cases h⟩,λi e he=>by simp at he,λi j e he=>by simp[cellAt]at he⟩
   ·cases A<;>simp[Builtin.firstCells,loadCells,loadCellsFrom]
   ·cases A<;>simp[Builtin.firstCells,loadCells,loadCellsFrom]
  ·have WN:z'=z:=by obtain⟨e0,he0⟩:=List.exists_mem_of_ne_nil es bw;obtain⟨k0,z9,rfl⟩:=List.getElem_of_mem he0;rw[<-o5 k0 _ (List.getElem?_eq_getElem z9)];exact hz _ he0
   subst WN;obtain⟨b,rfl,hb1,_,hc⟩:=hA bw;have hcell:∀k,k<es.length*z'->∃e u,w.cell? (b.add k)=some u/\Br F w e u:=by
    intro k hk;have hi:=(Nat.div_lt_iff_lt_mul sK).2 hk;have pJ:=o5 (k/z') es[k/z'] (by simp[hi]);have hj:k%z'<es[k/z'].length:=by rw[pJ];exact Nat.mod_lt _ sK
    obtain⟨u,hu,h1,hr⟩:=hc (k/z') (k%z') (es[k/z'][k%z']) (by simp[cellAt,hi,hj]);refine⟨_,u,?_,hr,h1⟩;rw[kK hb1,<-hu];congr 2;rw[Nat.mul_comm,Nat.div_add_mod]
   refine⟨(List.range (es.length*z')).map λk=>(w.cell? (b.add k)).getD undef,
    ⟨Dc,λ_=>rfl,run_firstCells_some w _ _ _ _ c _ (by simp) (wX λk hk=>let⟨_,u,hu,_⟩:=hcell k hk;⟨u,hu⟩),run_firstCells_some w.drew _ _ _ _ c _ (by simp) (wX λk hk=>let⟨_,u,hu,_⟩:=hcell k hk;⟨u,hu⟩),by simp,λu hu=> ?_⟩,o5,λi j e he=> ?_⟩
   ·obtain⟨k,hk,rfl⟩:=List.mem_map.1 hu;obtain⟨e,u,hu,hr⟩:=hcell k (by simpa using hk);rw[hu];exact hr.1.vZ
   ·obtain⟨u,hu,h1,hr⟩:=hc i j e he;have fM:i*z'+j<es.length*z':=by
     unfold cellAt at he;cases VV:es[i]? with
     |none=>simp[VV]at he
     |some row=>
      simp[VV]at he;have hi:=(List.getElem?_eq_some_iff.1 VV).1;have hj:=(List.getElem?_eq_some_iff.1 he).1;rw[o5 i row VV]at hj;have:(i+1)*z'<=es.length*z':=Nat.mul_le_mul_right _ hi;rw[Nat.add_mul]at this;omega
    refine⟨u,?_,hr,h1⟩;rw[List.getElem?_map,List.getElem?_range fM];simp[kK hb1,hu]
theorem DL{xs ys:List (List DV)}{i j}{d}(h:cellAt (xs++ys) i j=some d):(i<xs.length/\cellAt xs i j=some d)\/(xs.length<=i/\cellAt ys (i-xs.length) j=some d):=by
 unfold cellAt at h|-;rcases Nat.lt_or_ge i xs.length with hl|hl
 ·rw[List.getElem?_append_left hl]at h;exact .inl ⟨hl,h⟩
 ·rw[List.getElem?_append_right hl]at h;exact .inr ⟨hl,h⟩
theorem sJ{z}{es:List (List DV)}(hz:∀(i:Nat) (e:List DV),es[i]? =some e->e.length=z){i j}{d}(h:cellAt es i j=some d):i<es.length/\j<z/\i*z+j<es.length*z:=by
 unfold cellAt at h;cases he:es[i]? with
 |none=>simp[he]at h
 |some e=>
  simp[he]at h;have hi:=(List.getElem?_eq_some_iff.1 he).1;have hj:=(List.getElem?_eq_some_iff.1 h).1;rw[hz i e he]at hj;have:(i+1)*z<=es.length*z:=Nat.mul_le_mul_right _ hi;rw[Nat.add_mul]at this;exact⟨hi,hj,by omega⟩
theorem L6{z:Nat}{xs ys:List (List DV)}(hx:∀(i:Nat) (e:List DV),xs[i]? =some e->e.length=z)(hy:∀(i:Nat) (e:List DV),ys[i]? =some e->e.length=z):
 ∀(i:Nat) (e:List DV),(xs++ys)[i]? =some e->e.length=z:=by
 intro i e he;rcases Nat.lt_or_ge i xs.length with hl|hl
 ·rw[List.getElem?_append_left hl]at he;exact hx _ _ he
 ·rw[List.getElem?_append_right hl]at he;exact hy _ _ he
theorem L7{n b c}(h:c<n)(hn:n<=kT)(hb:b<=32768):Builtin.nextslicecap n c*b<=281474976710656:=by
 refine growslice_fits h ?_;have h1:n<=4294967296:=hn
 calc n*b<=4294967296*32768:=Nat.mul_le_mul h1 hb
  _=140737488355328:=by decide
theorem pO{xs:Array Operand}{t u}{s x}{v}{w'}(ho:o.op= .call {callee:= .builtin .append,args:=xs,argTypes:= #[t,u]})(sS:xs= #[s,x])
 (h:(Builtin.append_ #[t,u] o.type #[a.eval s,a.eval x]).run P w= .ok v w'):(execOp a.eval o).run P w= .ok (.value v) w':=by
 subst sS;simp[execOp,ho,resolve,invoke,builtin,h]
theorem ZV{g n}{cur:Array Value}{t}{vs:List Value}(hg:w.heap[g]? =some (.cells cur t (0,0)))(mK:n+vs.length<=cur.size)(h1:∀v∈vs,v.oneCell'=true):
 w.setCells g n vs=w.setRow g (cur.toList.take n++vs++cur.toList.drop (n+vs.length)).toArray:=by
 have e1:=run_storeCells_cells (P:=default) g n vs 0 w (λj hj=>by rw[uF hg];simp;omega) (λj hj=>by simp[World.frozen?,hg]) h1;have e2:=run_storeCells_at default g n t vs 0 cur w hg (by omega) h1;simp only[Nat.add_zero]at e1 e2;rw[e1]at e2;injection e2
theorem Ca{c:Array Value}(k:Nat):c.toList[k]? =c[k]? :=by simp
theorem Cb{cur:Array Value}{n}{vs:List Value}(mK:n+vs.length<=cur.size)(k):
 ((cur.toList.take n++vs++cur.toList.drop (n+vs.length)).toArray)[k]? =if n<=k/\k<n+vs.length then vs[k-n]? else cur[k]? :=by
 rw[List.getElem?_toArray];have hl:(cur.toList.take n).length=n:=by simp;omega
 by_cases h1:k<n
 ·rw[if_neg (by omega),List.append_assoc,List.getElem?_append_left (by omega),List.getElem?_take,if_pos h1,Ca]
 ·by_cases h2:k<n+vs.length
  ·rw[if_pos ⟨by omega,h2⟩,List.append_assoc,List.getElem?_append_right (by omega),hl,List.getElem?_append_left (by omega)]
  ·rw[if_neg (by omega),List.getElem?_append_right (by simp;omega),List.length_append,hl,List.getElem?_drop,Ca];congr 1;omega
structure App(P:Program)(i:TypeInfo)(zv:Value)(t u ty e:TypeId)(x:Value)(n:Nat)(news:List Value)(w:World):Prop where
 newsLen:news.length=n*i.size
 one:∀v∈news,v.oneCell'=true
 zero:n=0->∀A c,(Builtin.append_ #[t,u] ty #[.slice A 0 c,x]).run P w= .ok (.slice A 0 c) w
 room:∀b off qx zZ:Nat,qx+n<=zZ->(∀j,j<news.length->(w.cell? ⟨b,off+qx*i.size+j,none⟩).isSome=true)->(∀j,j<news.length->w.frozen? ⟨b,off+qx*i.size+j,none⟩=false)->
  (Builtin.append_ #[t,u] ty #[.slice (some ⟨b,off,none⟩) qx zZ,x]).run P w= .ok (.slice (some ⟨b,off,none⟩) (qx+n) zZ) (w.setCells b (off+qx*i.size) news)
 grow:∀(base:Option Addr) (qx zZ:Nat) (De:List Value),(Builtin.firstCells i.size qx (.slice base qx zZ)).run P w.drew= .ok De.toArray w.drew->zZ<qx+n->((qx+n:Nat):Int)<=9223372036854775807->Builtin.nextslicecap (qx+n) zZ*i.bytes<=281474976710656->
  (Builtin.append_ #[t,u] ty #[.slice base qx zZ,x]).run P w=
   .ok (.slice (some ⟨w.heap.size,0,none⟩) (qx+n) (grownCap w (qx+n) zZ e))
    (w.drew.alloc (.cells ((De++news).toArray++Builtin.zeroCells zv.cells (grownCap w (qx+n) zZ e-(qx+n))) e))
theorem App.aqn{i:TypeInfo}{zv}{t u ty e}{x}{n}{news}(ht:P.underlying t=some (.slice e))(hi:P.info? e=some i)(To:i.zero=some zv)(hs:Src P i.size u x n news w):App P i zv t u ty e x n news w:=by refine⟨hs.newsLen,hs.one,λh0 A c=> ?_,λb off qx zZ h1 h2 h3=>run_append_room_src (P:=P) w t u ty e i ht hi b off qx zZ x n news hs h1 h2 h3,λbase qx zZ De h1 h2 h3 h4=>run_append_grow_src (P:=P) w t u ty e i zv ht hi To base qx zZ De h1 x n news hs h2 h3 h4⟩;subst h0;have afb:=List.eq_nil_of_length_eq_zero (by simpa using hs.newsLen);have h1:=hs.cells;have h2:=hs.len;rcases hs.kind with⟨e',wS⟩|wS<;>cases A<;>simp[Builtin.append_,run_underlying ht,run_underlying wS,sizeOf,typeInfo,hi,h2,h1,afb,storeCells]
theorem App.ae2{i:TypeInfo}{zv:Value}{t u ty e}{k:IntKind}{m:Int}(ht:P.underlying t=some (.slice e))(hu:P.underlying u=some (.int k))(hi:P.info? e=some i)(To:i.zero=some zv)(sK:0<i.size)(VU:i.bytes<=32768)(Tp:zv.cells.size=i.size)(h0:0<=m)(hm:m.toNat<=kT)
 (h1:∀v∈(Builtin.zeroCells zv.cells m.toNat).toList,v.oneCell'=true):App P i zv t u ty e (.int .i64 m) m.toNat (Builtin.zeroCells zv.cells m.toNat).toList w:=by
 have hmm:m<=4294967296:=by simp only[kT]at hm;omega
 have hw:IntKind.i64.wrap m=m:=by rw[IntKind.wrap_i64];omega
 have hb:¬281474976710656<m*(i.bytes:Int):=by have:m*(i.bytes:Int)<=4294967296*32768:=Int.mul_le_mul hmm (by omega) (by omega) (by omega);omega
 have hn:¬m<0:=by omega
 refine⟨by simp[size_zeroCells,Tp],h1,λhz A c=> ?_,λb off qx zZ h2 h3 h4=> ?_,λbase qx zZ De h2 h3 h4 h5=> ?_⟩
 ·have zo:m=0:=by omega
  subst zo;cases A<;>simp[Builtin.append_,run_underlying ht,run_underlying hu,sizeOf,typeInfo,hi,asInt,asIntOf,hw,storeCells]
 ·have Sj:=run_storeCells_cells (P:=P) b (off+qx*i.size) (Builtin.zeroCells zv.cells m.toNat).toList 0 w (by simpa using h3) (by simpa using h4) h1;simp only[Nat.add_zero]at Sj;by_cases hz:m.toNat*i.size=0
  ·have zo:m.toNat=0:=by rcases Nat.mul_eq_zero.1 hz with h|h<;>omega
   have JM:(Builtin.zeroCells zv.cells m.toNat).toList=[]:=by rw[zo];simp[Builtin.zeroCells]
   rw[JM]at Sj|-;simp[Builtin.append_,run_underlying ht,run_underlying hu,sizeOf,typeInfo,hi,asInt,asIntOf,hw,hn,hb,h2,hz,Addr.add_lit,Sj]
  ·simp[Builtin.append_,run_underlying ht,run_underlying hu,sizeOf,typeInfo,zeroValue,To,hi,asInt,asIntOf,hw,hn,hb,h2,hz,Addr.add_lit,Sj]
 ·have hn2:¬(qx+m.toNat<=zZ):=by omega
  have av0:¬(9223372036854775807<((qx:Int)+max m 0)):=by omega
  have av1:¬(281474976710656<Builtin.nextslicecap (qx+m.toNat) zZ*i.bytes):=by omega
  by_cases hz:m.toNat*i.size=0
  ·have zo:m.toNat=0:=by rcases Nat.mul_eq_zero.1 hz with h|h<;>omega
   have JM:(Builtin.zeroCells zv.cells m.toNat).toList=[]:=by rw[zo];simp[Builtin.zeroCells]
   rw[JM];simp[Builtin.append_,run_underlying ht,run_underlying hu,sizeOf,typeInfo,zeroValue,hi,To,asInt,asIntOf,hw,hn,hb,hn2,hz,av0,av1,Question.forced,h2,newRow,grownCap]
  ·simp[Builtin.append_,run_underlying ht,run_underlying hu,sizeOf,typeInfo,zeroValue,hi,To,asInt,asIntOf,hw,hn,hb,hn2,hz,av0,av1,Question.forced,h2,newRow,grownCap];congr 2;apply Array.ext';simp[List.append_assoc]
theorem Ip [Inhabited Env]{xs:Array Operand}{t u e}{s x}{i:TypeInfo}{zv:Value}{es:List (List DV)}{news}(hs:bF K F σ hp w)(ho:o.op= .call {callee:= .builtin .append,args:=xs,argTypes:= #[t,u]})(sS:xs= #[s,x])
 (VU:i.bytes<=32768) (Tp:zv.cells.size=i.size) (hsv:a.eval s= .slice none 0 0) (Dd:App P i zv t u o.type e (a.eval x) es.length news w)
 (mF:∀(k:Nat) (r:List DV),es[k]? =some r->r.length=i.size) (uE:∀k j r,cellAt es k j=some r->∃x,news[k*i.size+j]? =some x/\Br F w r x) (hlen:es.length<=kT):
 ∃v w',(execOp a.eval o).run P w= .ok (.value v) w'/\dM K F σ hp w (.own hp.length es.length 0 es.length) (hp++[⟨.aN,i.size,es⟩]) v w':=by
 by_cases h0:es=[]
 ·subst h0;have x7:=Dd.zero rfl none 0;refine⟨_,_,pO ho sS (by rw[hsv];exact x7),?_⟩;have c:Ir K F σ hp w hp.length ⟨.aN,i.size,[]⟩ F (λx=>if x=hp.length then none else σ x) (hp++[⟨.aN,i.size,[]⟩]) w:=
   {os:=rfl,tape:=rfl,output:=rfl,size:=Nat.le_refl _,hF:=λ_ h=>h,newF:=λ_ h=> .inl h,Qh:=hs.fb,heap:=λb h _=>rfl,z8:= .inr ⟨rfl,rfl⟩
    sig:=λh' bw=>by simp[bw],Bt:=λg hg=>by simp at hg,grow:=λoh tg=>by simp at tg}
  refine⟨F,_,c.sim hs (.inl ⟨rfl,by simp⟩),c.yb hs,c.hm hs,.own _ _ _ _ _ rfl (by simp) λob cD=> ?_⟩;have:ob=⟨.aN,i.size,[]⟩:=by simpa using cD.symm
  subst this;exact⟨by simp,λ_ _=>⟨none,0,rfl,Nat.le_refl _,.inl rfl⟩⟩
 ·have aqs:=List.length_pos_iff.2 h0;have x7:=Dd.grow none 0 0 [] (by simp[Builtin.firstCells]) (by omega) (by simp only[kT]at hlen;omega) (L7 (by omega) (by omega) VU);refine⟨_,_,pO ho sS (by rw[hsv];exact x7),?_⟩;have hge:=grownCap_ge w (0+es.length) 0 e;have:=KQ hs (es:=es) (z:=i.size) (cap:=grownCap w (0+es.length) 0 e) (w':=w.drew.alloc (.cells (([]++news).toArray++Builtin.zeroCells zv.cells (grownCap w (0+es.length) 0 e-(0+es.length))) e)) (t:=e)
   rfl rfl rfl (by simp) (λb hb=>Below.heap_alloc w.drew _ b hb) (heap_alloc_new w.drew _) mF (λi' j d hd=>by
    obtain⟨x,re,hr⟩:=uE i' j d hd;refine⟨x,?_,hr⟩;have fM:=(List.getElem?_eq_some_iff.1 re).1;rw[Array.getElem?_append_left (by simpa using fM)];simpa using re) (by omega) (by
    simp only[Array.size_append,size_zeroCells,List.size_toArray,List.nil_append,Dd.newsLen,Tp,<-Nat.add_mul];exact Nat.mul_le_mul_right _ (by omega))
  simpa using this
theorem ck{h}{ob}(cD:hp[h]? =some ob):h<hp.length:=by
 rcases Nat.lt_or_ge h hp.length with h'|h'
 ·exact h'
 ·rw[List.getElem?_eq_none h']at cD;cases cD
theorem Iq [Inhabited Env]{xs:Array Operand}{t u e}{s x}{i:TypeInfo}{zv:Value}{h}{ob:ak}{es:List (List DV)}{news}(hs:bF K F σ hp w)(ho:o.op= .call {callee:= .builtin .append,args:=xs,argTypes:= #[t,u]})(sS:xs= #[s,x])
 (VU:i.bytes<=32768) (Tp:zv.cells.size=i.size) (Dd:App P i zv t u o.type e (a.eval x) es.length news w)
 (mF:∀(k:Nat) (r:List DV),es[k]? =some r->r.length=i.size) (uE:∀k j r,cellAt es k j=some r->∃x,news[k*i.size+j]? =some x/\Br F w r x)
 (cD:hp[h]? =some ob) (hk:ob.k= .aN) (MU:ob.z=i.size) (hsv:aB F σ hp w (.own h ob.es.length 0 ob.es.length) (a.eval s)) (hlen:ob.es.length+es.length<=kT):
 ∃v w',(execOp a.eval o).run P w= .ok (.value v) w'/\dM K F σ hp w (.own h (ob.es.length+es.length) 0 (ob.es.length+es.length)) (hp.set h ⟨.aN,i.size,ob.es++es⟩) v w':=by
 have hl:=ck cD;have Dc:ob.k≠ .dead:=by rw[hk];simp
 have hold:=hs.obj h ob cD;unfold fT at hold;rw[hk]at hold;dsimp only at hold;obtain⟨A,cap,hv,hle,hA⟩:=(hsv.qL.2 ob cD).2 Dc rfl;have one:∀v∈news,v.oneCell'=true:=Dd.one;have V8:=Dd.newsLen;by_cases alR:ob.es.length+es.length<=cap
 ·rcases hA with hc0|⟨g,hg,rfl,Db⟩
  .
   have e1:ob.es=[]:=List.eq_nil_of_length_eq_zero (by omega);have e2:es=[]:=List.eq_nil_of_length_eq_zero (by omega);subst e2;have afb:news=[]:=List.eq_nil_of_length_eq_zero (by simpa using V8);have x7:(Builtin.append_ #[t,u] o.type #[a.eval s,a.eval x]).run P w= .ok (.slice A 0 cap) w:=by rw[hv,e1,hc0];exact Dd.zero rfl A 0
   refine⟨_,_,pO ho sS x7,?_⟩;have c:Ir K F σ hp w h ⟨.aN,i.size,ob.es++[]⟩ F σ (hp.set h ⟨.aN,i.size,ob.es++[]⟩) w:=
    {os:=rfl,tape:=rfl,output:=rfl,size:=Nat.le_refl _,hF:=λ_ h=>h,newF:=λ_ h=> .inl h,Qh:=hs.fb,heap:=λb h _=>rfl,z8:= .inl ⟨hl,rfl⟩
     sig:=λh' bw=>rfl,Bt:=λg hg=> .inl ⟨hg,ob,cD,.inl hk⟩
     grow:=λoh tg=>by rw[cD]at tg;injection tg with e;subst e;exact⟨.inl (.inl hk),by simp,λ_ _=>⟨MU.symm,rfl,λ_ _=>rfl⟩⟩}
   refine⟨F,σ,c.sim hs ?_,c.yb hs,c.hm hs,.own _ _ _ _ _ rfl (by simpa using hl) λo' ey=> ?_⟩
   ·unfold fT;dsimp only;rw[List.append_nil,<-MU];rcases hold with h0|⟨g,hg,h1,h2,hb⟩
    ·exact .inl h0
    ·exact .inr ⟨g,hg,h1,h2,hb⟩
   ·rw[c.get]at ey;injection ey with ey;subst ey;exact⟨by simp[e1],λ_ _=>⟨A,cap,by simp[e1],by simp[e1],.inl hc0⟩⟩
  .
   rcases hold with⟨_,h0⟩|⟨g',kz,nF,nK,c,ty,hh,KK,o5,Da⟩
   ·rw[hg]at h0;cases h0
   ·rw[hg]at kz;injection kz with kz;subst kz;have hbs:Sa w g=c.size:=by unfold Sa;rw[hh]
    have mK:ob.es.length*i.size+news.length<=c.size:=by rw[V8,<-Nat.add_mul];refine Nat.le_trans (Nat.mul_le_mul_right _ alR) ?_;rw[hbs,MU]at Db;simpa using Db
    have x7:=Dd.room g (0*ob.z) ob.es.length cap alR
     (λj hj=>by rw[uF hh];simp;omega) (λj hj=>by simp[World.frozen?,hh])
    refine⟨_,_,pO ho sS (by rw[hv];exact x7),?_⟩;simp only[Nat.zero_mul,Nat.zero_add];rw[ZV hh (by omega) one];have lH:=setRow_heap w g c (c.toList.take (ob.es.length*i.size)++news++c.toList.drop (ob.es.length*i.size+news.length)).toArray ty (0,0) hh;generalize hcd:(c.toList.take (ob.es.length*i.size)++news++c.toList.drop (ob.es.length*i.size+news.length)).toArray=c' at*;have Gz:∀k:Nat,c'[k]? =if ob.es.length*i.size<=k/\k<ob.es.length*i.size+news.length then news[k-ob.es.length*i.size]? else c[k]? :=λk=>by rw[<-hcd];exact Cb mK k
    have iP:c'.size=c.size:=by rw[<-hcd];simp;omega
    have cg:Ir K F σ hp w h ⟨.aN,i.size,ob.es++es⟩ F σ (hp.set h ⟨.aN,i.size,ob.es++es⟩) (w.setRow g c'):=
     {os:=rfl,tape:=rfl,output:=rfl,size:=by simp,hF:=λ_ h=>h,newF:=λ_ h=> .inl h,Qh:=λb hb=>by simpa using hs.fb b hb
      heap:=λb hb bw=>setRow_other _ _ _ _ (λe=>bw ob cD (.inl hk) (by rw[hg,e])),z8:= .inl ⟨hl,rfl⟩
      sig:=λh' bw=>rfl,Bt:=λg hg=> .inl ⟨hg,ob,cD,.inl hk⟩
      grow:=λoh tg=>by rw[cD]at tg;injection tg with e;subst e;refine⟨.inl (.inl hk),by simp,λ_ _=>⟨MU.symm,rfl,λg1 BP=> ?_⟩⟩;rw[hg]at BP;injection BP with BP;subst BP;unfold Sa;rw[lH,hh];exact iP}
    have hm:=cg.hm hs;refine⟨F,σ,cg.sim hs ?_,cg.yb hs,hm,.own _ _ _ _ _ rfl (by simpa using hl) λo' ey=> ?_⟩
    ·unfold fT;dsimp only;refine .inr ⟨g,hg,nF,nK,c',ty,lH,?_,L6 (by rw[<-MU];exact o5) mF,λi' j d hd=> ?_⟩
     ·rw[iP,List.length_append,Nat.add_mul,<-V8];exact mK
     ·rcases DL hd with⟨fM,hd⟩|⟨hge,hd⟩
      ·obtain⟨u,hu,hr⟩:=Da _ _ _ hd;obtain⟨_,hj,AA⟩:=sJ o5 hd;rw[MU]at hu AA;exact⟨u,by rw[Gz,if_neg (by omega)];exact hu,hr.1.mono hm.mono hm.bS,hr.2⟩
      ·obtain⟨u,hu,hr⟩:=uE _ _ _ hd;obtain⟨_,hj,AA⟩:=sJ mF hd;have e:i'*i.size+j=ob.es.length*i.size+((i'-ob.es.length)*i.size+j):=by rw[<-Nat.add_assoc,<-Nat.add_mul];congr 2;omega
       exact⟨u,by rw[Gz,if_pos (by omega),e,Nat.add_sub_cancel_left];exact hu,hr.1.mono hm.mono hm.bS,hr.2⟩
    ·rw[cg.get]at ey;injection ey with ey;subst ey;refine⟨by simp,λ_ _=>⟨_,cap,rfl,alR,.inr ⟨g,hg,by simp,?_⟩⟩⟩;have:Sa (w.setRow g c') g=c.size:=by unfold Sa;rw[lH];exact iP
     rw[this];rw[hbs,MU]at Db;exact Db
 .
  have hn:0<es.length:=by omega
  obtain⟨De,holds,av2,aqu⟩:∃De:List Value,(Builtin.firstCells i.size ob.es.length (.slice A ob.es.length cap)).run P w.drew= .ok De.toArray w.drew/\
   (∀i' j d,cellAt ob.es i' j=some d->∃u,De[i'*i.size+j]? =some u/\Br F w d u)/\De.length=ob.es.length*i.size:=by
   rcases hA with hc0|⟨g,hg,rfl,Db⟩
   ·have e1:ob.es=[]:=List.eq_nil_of_length_eq_zero (by omega);refine⟨[],?_,λi' j d hd=>by rw[e1]at hd;simp[cellAt]at hd,by simp[e1]⟩;rw[e1];cases A<;>simp[Builtin.firstCells,loadCells,loadCellsFrom]
   ·rcases hold with⟨_,h0⟩|⟨g',kz,nF,nK,c,ty,hh,KK,o5,Da⟩
    ·rw[hg]at h0;cases h0
    ·rw[hg]at kz;injection kz with kz;subst kz;rw[MU]at KK o5 Da;refine⟨c.toList.take (ob.es.length*i.size),?_,λi' j d hd=> ?_,by simp;omega⟩
     ·refine run_firstCells_some w.drew i.size ob.es.length _ ob.es.length cap _ (by simp;omega) λj v hj=> ?_;rw[List.getElem?_take]at hj;split at hj
      ·rw[Ca]at hj;show w.cell? _=_;rw[kK rfl,uF hh];simpa using hj
      ·cases hj
     ·obtain⟨u,hu,hr⟩:=Da _ _ _ hd;obtain⟨_,_,fM⟩:=sJ o5 hd;exact⟨u,by rw[List.getElem?_take,if_pos fM,Ca];exact hu,hr⟩
  have x7:=Dd.grow A ob.es.length cap De holds (by omega) (by simp only[kT]at hlen;omega) (L7 (by omega) hlen VU);refine⟨_,_,pO ho sS (by rw[hv];exact x7),?_⟩;have hge:=grownCap_ge w (ob.es.length+es.length) cap e;generalize aBt:grownCap w (ob.es.length+es.length) cap e=ahe at*;have aqv:=heap_alloc_new w.drew (.cells ((De++news).toArray++Builtin.zeroCells zv.cells (ahe-(ob.es.length+es.length))) e);have iP:((De++news).toArray++Builtin.zeroCells zv.cells (ahe-(ob.es.length+es.length))).size=ahe*i.size:=by simp only[Array.size_append,size_zeroCells,List.size_toArray,List.length_append,V8,aqu,Tp,<-Nat.add_mul];congr 1;omega
  have Gz:∀k u,(De++news)[k]? =some u->((De++news).toArray++Builtin.zeroCells zv.cells (ahe-(ob.es.length+es.length)))[k]? =some u:=λk u hk=>by have fM:=(List.getElem?_eq_some_iff.1 hk).1;rw[Array.getElem?_append_left (by simpa using fM)];simpa using hk
  generalize (De++news).toArray++Builtin.zeroCells zv.cells (ahe-(ob.es.length+es.length))=c' at*;have nF:¬F w.heap.size:=λh=>by have:=hs.fb _ h;omega
  have nK:¬K w.heap.size:=λh=>by have:=hs.kb _ h;omega
  have cg:Ir K F σ hp w h ⟨.aN,i.size,ob.es++es⟩ F (λx=>if x=h then some w.heap.size else σ x) (hp.set h ⟨.aN,i.size,ob.es++es⟩) (w.drew.alloc (.cells c' e)):=
   {os:=rfl,tape:=rfl,output:=rfl,size:=by simp,hF:=λ_ h=>h,newF:=λ_ h=> .inl h,Qh:=λb hb=>by have:=hs.fb b hb;simp;omega
    heap:=λb hb bw=>Below.heap_alloc w.drew _ b hb,z8:= .inl ⟨hl,rfl⟩
    sig:=λh' bw=>by simp[bw],Bt:=λg hg=> .inr (by simp at hg;omega)
    grow:=λoh tg=>by rw[cD]at tg;injection tg with e;subst e;exact⟨.inl (.inl hk),by simp,λhe=>by simp at he;rw[he]at hn;simp at hn⟩}
  have hm:=cg.hm hs;refine⟨F,_,cg.sim hs ?_,cg.yb hs,hm,.own _ _ _ _ _ rfl (by simpa using hl) λo' ey=> ?_⟩
  ·unfold fT;dsimp only;have hzo:∀(i':Nat) (r:List DV),ob.es[i']? =some r->r.length=i.size:=by
    intro i' r hr;rcases hold with⟨h0,_⟩|⟨g',kz,_,_,c,ty,hh,KK,o5,Da⟩
    ·rw[h0]at hr;simp at hr
    ·rw[<-MU];exact o5 _ _ hr
   refine .inr ⟨w.heap.size,by simp,nF,nK,c',e,aqv,?_,L6 hzo mF,λi' j d hd=> ?_⟩
   ·rw[iP,List.length_append];exact Nat.mul_le_mul_right _ hge
   ·rcases DL hd with⟨fM,hd⟩|⟨aEl,hd⟩
    ·obtain⟨u,hu,hr⟩:=av2 _ _ _ hd;refine⟨u,Gz _ _ ?_,hr.1.mono hm.mono hm.bS,hr.2⟩;rw[List.getElem?_append_left (List.getElem?_eq_some_iff.1 hu).1];exact hu
    ·obtain⟨u,hu,hr⟩:=uE _ _ _ hd;refine⟨u,Gz _ _ ?_,hr.1.mono hm.mono hm.bS,hr.2⟩;have e:i'*i.size+j=ob.es.length*i.size+((i'-ob.es.length)*i.size+j):=by rw[<-Nat.add_assoc,<-Nat.add_mul];congr 2;omega
     rw[e,List.getElem?_append_right (by omega),aqu,Nat.add_sub_cancel_left];exact hu
  ·rw[cg.get]at ey;injection ey with ey;subst ey;refine⟨by simp,λ_ _=>⟨_,ahe,rfl,hge,.inr ⟨w.heap.size,by simp,by simp,?_⟩⟩⟩;have:Sa (w.drew.alloc (.cells c' e)) w.heap.size=c'.size:=by unfold Sa;rw[show(w.drew.alloc (.cells c' e)).heap[w.heap.size]? =_ from aqv]
   rw[this,iP];simp
theorem alK [Inhabited Env](hs:bF K F σ hp w){d}{v}(hv:aB F σ hp w d v)(h:(bf hp d).pre)(R0:∀s,d≠ .str s){z}(sK:0<z)(hz:∀e∈(bf hp d).es,e.length=z){m}(hm:m<=(bf hp d).es.length):
 ∃news:List Value,(Builtin.lenOf v).run P w= .ok (bf hp d).es.length w/\(Builtin.firstCells z m v).run P w= .ok news.toArray w/\news.length=m*z/\(∀u∈news,u.oneCell'=true)/\
  ∀i j e,i<m->cellAt (bf hp d).es i j=some e->∃x,news[i*z+j]? =some x/\Br F w e x:=by
 obtain⟨A,c,z',rfl,hlc,o5,hA,hAn⟩:=rq hs hv h R0;generalize (bf hp d).es=es at*;by_cases bw:es=[]
 ·subst bw;have:m=0:=by simpa using hm
  subst this;refine⟨[],rfl,?_,by simp,(λ_ h=>by cases h),λi j e hi=>by omega⟩;cases A<;>simp[Builtin.firstCells,loadCells,loadCellsFrom]
 ·have WN:z'=z:=by obtain⟨e0,he0⟩:=List.exists_mem_of_ne_nil es bw;obtain⟨k0,z9,rfl⟩:=List.getElem_of_mem he0;rw[<-o5 k0 _ (List.getElem?_eq_getElem z9)];exact hz _ he0
  subst WN;obtain⟨b,rfl,hb1,_,hc⟩:=hA bw;have hcell:∀k,k<m*z'->∃e u,w.cell? (b.add k)=some u/\Br F w e u:=by
   intro k hk;have hi:=(Nat.div_lt_iff_lt_mul sK).2 hk;have Gk:k/z'<es.length:=by omega
   have pJ:=o5 (k/z') es[k/z'] (by simp[Gk]);have hj:k%z'<es[k/z'].length:=by rw[pJ];exact Nat.mod_lt _ sK
   obtain⟨u,hu,h1,hr⟩:=hc (k/z') (k%z') (es[k/z'][k%z']) (by simp[cellAt,Gk,hj]);refine⟨_,u,?_,hr,h1⟩;rw[kK hb1,<-hu];congr 2;rw[Nat.mul_comm,Nat.div_add_mod]
  refine⟨(List.range (m*z')).map λk=>(w.cell? (b.add k)).getD undef,rfl,
   run_firstCells_some w _ _ _ _ c _ (by simp) (wX λk hk=>let⟨_,u,hu,_⟩:=hcell k hk;⟨u,hu⟩),by simp,λu hu=> ?_,λi j e him he=> ?_⟩
  ·obtain⟨k,hk,rfl⟩:=List.mem_map.1 hu;obtain⟨e,u,hu,hr⟩:=hcell k (by simpa using hk);rw[hu];exact hr.1.vZ
  ·obtain⟨u,hu,h1,hr⟩:=hc i j e he;have fM:i*z'+j<m*z':=by
    unfold cellAt at he;cases VV:es[i]? with
    |none=>simp[VV]at he
    |some row=>
     simp[VV]at he;have hj:=(List.getElem?_eq_some_iff.1 he).1;rw[o5 i row VV]at hj;have:(i+1)*z'<=m*z':=Nat.mul_le_mul_right _ him;rw[Nat.add_mul]at this;omega
   refine⟨u,?_,hr,h1⟩;rw[List.getElem?_map,List.getElem?_range fM];simp[kK hb1,hu]
theorem Qk{xs:Array Operand}{t u}{s x}{v}{w'}(ho:o.op= .call {callee:= .builtin .copy,args:=xs,argTypes:= #[t,u]})(sS:xs= #[s,x])
 (h:(Builtin.copy_ #[t,u] o.type #[a.eval s,a.eval x]).run P w= .ok v w'):(execOp a.eval o).run P w= .ok (.value v) w':=by
 subst sS;simp[execOp,ho,resolve,invoke,builtin,h]
theorem asy [Inhabited Env]{xs:Array Operand}{t u e:TypeId}{s x}{i:TypeInfo}{h off len}{ob:ak}{es:List (List DV)}{news:List Value}(hs:bF K F σ hp w)(ho:o.op= .call {callee:= .builtin .copy,args:=xs,argTypes:= #[t,u]})(sS:xs= #[s,x])
 (ht:P.underlying t=some (.slice e)) (hi:P.info? e=some i)
 (hlen:(Builtin.lenOf (a.eval x)).run P w= .ok es.length w) (uE:(Builtin.firstCells i.size (min es.length len) (a.eval x)).run P w= .ok news.toArray w) (Ut:news.length=min es.length len*i.size) (one:∀u∈news,u.oneCell'=true)
 (mF:∀(k:Nat) (r:List DV),es[k]? =some r->r.length=i.size) (hc:∀k j r,k<min es.length len->cellAt es k j=some r->∃x,news[k*i.size+j]? =some x/\Br F w r x)
 (cD:hp[h]? =some ob) (hk:ob.k= .aN) (MU:ob.z=i.size) (hsv:aB F σ hp w (.own h ob.es.length off len) (a.eval s)) (Lg:off+len<=ob.es.length):
 ∃v w',(execOp a.eval o).run P w= .ok (.value v) w'/\dM K F σ hp w (.int .i64 (min es.length len:Nat)) (hp.set h ⟨.aN,ob.z,ob.es.take off++es.take len++ob.es.drop (off+min es.length len)⟩) v w':=by
 have hl:=ck cD;have Dc:ob.k≠ .dead:=by rw[hk];simp
 have hold:=hs.obj h ob cD;unfold fT at hold;rw[hk]at hold;dsimp only at hold;obtain⟨A,cap,hv,hle,hA⟩:=(hsv.qL.2 ob cD).2 Dc rfl;have av3:Nat.min es.length len=min es.length len:=rfl;by_cases zK:min es.length len=0
 .
  have afb:=List.eq_nil_of_length_eq_zero (by rw[Ut,zK,Nat.zero_mul]);have x7:(Builtin.copy_ #[t,u] o.type #[a.eval s,a.eval x]).run P w= .ok (goInt ((min es.length len:Nat):Int)) w:=by rw[hv];cases A<;>simp[Builtin.copy_,run_underlying ht,sizeOf,typeInfo,hi,hlen,av3,uE,afb,storeCells]
  have Tg:ob.es.take off++es.take len++ob.es.drop (off+min es.length len)=ob.es:=by
   have:es.take len=[]:=by
    rcases Nat.eq_zero_or_pos len with h0|h0
    ·simp[h0]
    ·have:es=[]:=List.eq_nil_of_length_eq_zero (by omega);simp[this]
   rw[this,zK,List.append_nil,Nat.add_zero,List.take_append_drop]
  refine⟨_,_,Qk ho sS x7,?_⟩;rw[Tg,<-hk];have:hp.set h {k:=ob.k,z:=ob.z,es:=ob.es}=hp:=by
   refine List.ext_getElem? λk=> ?_;rw[List.getElem?_set];split
   ·rename_i e;subst e;rw[cD]
   ·rfl
  rw[this];exact dM.same hs (.aN (.int _ _))
 ·rcases hA with hc0|⟨g,hg,rfl,Db⟩
  ·omega
  rcases hold with⟨_,h0⟩|⟨g',kz,nF,nK,c,ty,hh,KK,o5,Da⟩
  ·rw[hg]at h0;cases h0
  rw[hg]at kz;injection kz with kz;subst kz;have mK:off*i.size+news.length<=c.size:=by rw[Ut,<-Nat.add_mul,<-MU];refine Nat.le_trans (Nat.mul_le_mul_right _ ?_) KK;omega
  have Sj:=run_storeCells_at P g (off*i.size) ty news 0 c w hh (by simpa using mK) one;simp only[Nat.add_zero]at Sj;have x7:(Builtin.copy_ #[t,u] o.type #[a.eval s,a.eval x]).run P w= .ok (goInt ((min es.length len:Nat):Int)) (w.setRow g (c.toList.take (off*i.size)++news++c.toList.drop (off*i.size+news.length)).toArray):=by rw[hv,MU];simp[Builtin.copy_,run_underlying ht,sizeOf,typeInfo,hi,hlen,av3,uE,Sj]
  refine⟨_,_,Qk ho sS x7,?_⟩;have Gz:=Cb (cur:=c) (n:=off*i.size) (vs:=news) mK;have lH:=setRow_heap w g c (c.toList.take (off*i.size)++news++c.toList.drop (off*i.size+news.length)).toArray ty (0,0) hh;have hcs:(c.toList.take (off*i.size)++news++c.toList.drop (off*i.size+news.length)).toArray.size=c.size:=by simp at mK|-;omega
  generalize (c.toList.take (off*i.size)++news++c.toList.drop (off*i.size+news.length)).toArray=c' at*;have hL:(ob.es.take off++es.take len++ob.es.drop (off+min es.length len)).length=ob.es.length:=by simp only[List.length_append,List.length_take,List.length_drop];omega
  generalize hE:ob.es.take off++es.take len++ob.es.drop (off+min es.length len)=E at*;have asH:∀k:Nat,E[k]? =if k<off then ob.es[k]? else if k<off+min es.length len then es[k-off]? else ob.es[k]? :=by
   intro k;rw[<-hE];have l1:(ob.es.take off).length=off:=by simp;omega
   have l2:(es.take len).length=min es.length len:=by simp;omega
   by_cases a1:k<off
   ·rw[if_pos a1,List.append_assoc,List.getElem?_append_left (by omega),List.getElem?_take,if_pos a1]
   ·rw[if_neg a1];by_cases a2:k<off+min es.length len
    ·rw[if_pos a2,List.append_assoc,List.getElem?_append_right (by omega),l1,List.getElem?_append_left (by omega),List.getElem?_take,if_pos (by omega)]
    ·rw[if_neg a2,List.getElem?_append_right (by rw[List.length_append];omega),List.length_append,l1,l2,List.getElem?_drop];congr 1;omega
  have cg:Ir K F σ hp w h ⟨.aN,ob.z,E⟩ F σ (hp.set h ⟨.aN,ob.z,E⟩) (w.setRow g c'):=
   {os:=rfl,tape:=rfl,output:=rfl,size:=by simp,hF:=λ_ h=>h,newF:=λ_ h=> .inl h,Qh:=λb hb=>by simpa using hs.fb b hb
    heap:=λb hb bw=>setRow_other _ _ _ _ (λe=>bw ob cD (.inl hk) (by rw[hg,e])),z8:= .inl ⟨hl,rfl⟩
    sig:=λh' bw=>rfl,Bt:=λg hg=> .inl ⟨hg,ob,cD,.inl hk⟩
    grow:=λoh tg=>by rw[cD]at tg;injection tg with e;subst e;refine⟨.inl (.inl hk),by dsimp only;omega,λ_ _=>⟨rfl,rfl,λg1 BP=> ?_⟩⟩;rw[hg]at BP;injection BP with BP;subst BP;unfold Sa;rw[lH,hh];exact hcs}
  have hm:=cg.hm hs;refine⟨F,σ,cg.sim hs ?_,cg.yb hs,hm,.aN (.int _ _)⟩;unfold fT;dsimp only;refine .inr ⟨g,hg,nF,nK,c',ty,lH,by rw[hcs,hL];exact KK,λk r hr=> ?_,λk j d hd=> ?_⟩
  ·rw[asH]at hr;split at hr
   ·exact o5 k r hr
   ·split at hr
    ·rw[MU];exact mF _ r hr
    ·exact o5 k r hr
  ·obtain⟨row,h1,h2⟩:=(by unfold cellAt at hd;cases hq:E[k]? with
    |none=>simp[hq]at hd
    |some row=>exact⟨row,rfl,by simpa[hq]using hd⟩:∃row,E[k]? =some row/\row[j]? =some d)
   have hj:j<ob.z:=by
    have hrl:row.length=ob.z:=by
     rw[asH]at h1;split at h1
     ·exact o5 k row h1
     ·split at h1
      ·rw[MU];exact mF _ row h1
      ·exact o5 k row h1
    have:=(List.getElem?_eq_some_iff.1 h2).1;omega
   rw[asH]at h1;by_cases a1:k<off
   ·rw[if_pos a1]at h1;obtain⟨u,hu,hr⟩:=Da k j d (by simp[cellAt,h1,h2]);refine⟨u,?_,hr.1.mono hm.mono hm.bS,hr.2⟩;rw[Gz,if_neg]
    ·exact hu
    ·intro hh2;have:(k+1)*ob.z<=off*ob.z:=Nat.mul_le_mul_right _ a1;rw[Nat.add_mul,MU]at this;rw[MU]at hh2 hj;omega
   ·rw[if_neg a1]at h1;by_cases a2:k<off+min es.length len
    ·rw[if_pos a2]at h1;obtain⟨u,hu,hr⟩:=hc (k-off) j d (by omega) (by simp[cellAt,h1,h2]);refine⟨u,?_,hr.1.mono hm.mono hm.bS,hr.2⟩;have ek:k*i.size=off*i.size+(k-off)*i.size:=by rw[<-Nat.add_mul];congr 1;omega
     have fM:=(List.getElem?_eq_some_iff.1 hu).1;rw[Gz,if_pos (by rw[MU];omega),<-hu];congr 1;rw[MU];omega
    ·rw[if_neg a2]at h1;obtain⟨u,hu,hr⟩:=Da k j d (by simp[cellAt,h1,h2]);refine⟨u,?_,hr.1.mono hm.mono hm.bS,hr.2⟩;rw[Gz,if_neg]
     ·exact hu
     ·intro hh2;have:(off+min es.length len)*i.size<=k*i.size:=Nat.mul_le_mul_right _ (by omega);rw[Nat.add_mul,<-Ut]at this;rw[MU]at hh2;omega
theorem alI [Inhabited Env]{x}{h len}{ob:ak}(hs:bF K F σ hp w)(ho:o.op= .move x\/o.op= .assign x)(cD:hp[h]? =some ob)(hk:ob.k= .aN)(hl:len<=ob.es.length)(hv:aB F σ hp w (.own h ob.es.length 0 len) (a.eval x)):
 ∃v w',(execOp a.eval o).run P w= .ok (.value v) w'/\dM K F σ hp w (.own hp.length len 0 len) (hp.set h ⟨.dead,ob.z,ob.es⟩++[⟨.aN,ob.z,ob.es.take len⟩]) v w':=by
 have fM:=ck cD;have Dc:ob.k≠ .dead:=by rw[hk];simp
 have ZW:∀k:Nat,(hp.set h (⟨.dead,ob.z,ob.es⟩:ak)++[(⟨.aN,ob.z,ob.es.take len⟩:ak)])[k]? =if k=hp.length then some ⟨.aN,ob.z,ob.es.take len⟩else if k=h then some ⟨.dead,ob.z,ob.es⟩else hp[k]? :=by
  intro k;by_cases h1:k=hp.length
  ·subst h1;rw[if_pos rfl,List.getElem?_append_right (by simp)];simp
  ·rw[if_neg h1];by_cases h2:k=h
   ·subst h2;rw[if_pos rfl,List.getElem?_append_left (by simpa using fM)];simp[fM]
   ·rw[if_neg h2];rcases Nat.lt_or_ge k hp.length with h3|h3
    ·rw[List.getElem?_append_left (by simpa using h3),List.getElem?_set_ne (Ne.symm h2)]
    ·rw[List.getElem?_eq_none h3,List.getElem?_eq_none (by simp;omega)]
 generalize asi:(hp.set h (⟨.dead,ob.z,ob.es⟩:ak)++[(⟨.aN,ob.z,ob.es.take len⟩:ak)])=gh at*;have hl2:gh.length=hp.length+1:=by rw[<-asi];simp
 obtain⟨σ2,sg1,sg2⟩:∃σ2:Nat->Option Nat,σ2 hp.length=σ h/\∀k,k≠hp.length->σ2 k=σ k:=⟨λx=>if x=hp.length then σ h else σ x,if_pos rfl,λk hk=>if_neg hk⟩;have hm:HM F σ hp w F σ2 gh w:=by
  refine⟨λ_ h=>h,λ_ _=>rfl,by omega,λk o' ey=> ?_⟩;have hkl:=ck ey;rw[ZW,if_neg (by omega)];by_cases h2:k=h
  ·subst h2;rw[cD]at ey;injection ey with ey;subst ey;rw[if_pos rfl];exact⟨_,rfl,Nat.le_refl _,λhd=>absurd rfl hd⟩
  ·rw[if_neg h2];exact⟨o',ey,Nat.le_refl _,λhd _=>⟨hd,rfl,sg2 k (by omega),λ_ _=>rfl⟩⟩
 have hold:=hs.obj h ob cD;unfold fT at hold;rw[hk]at hold;dsimp only at hold;refine⟨a.eval x,w,by rcases ho with ho|ho<;>simp only[execOp,ho]<;>rfl,F,σ2,⟨λk o' ey=> ?_,λk1 k2 o1 o2 g e1 m1 e2 m2 s1 s2=> ?_,hs.fb,hs.kb,hs.mf⟩,.refl _ _ _,hm,?_⟩
 ·rw[ZW]at ey;by_cases h1:k=hp.length
  ·subst h1;rw[if_pos rfl]at ey;injection ey with ey;subst ey;unfold fT;dsimp only;rcases hold with⟨h0,h1⟩|⟨g,hg,nF,nK,c,ty,hh,KK,o5,Da⟩
   ·exact .inl ⟨by rw[h0];simp,sg1.trans h1⟩
   ·refine .inr ⟨g,sg1.trans hg,nF,nK,c,ty,hh,?_,λi e he=> ?_,λi j d hd=> ?_⟩
    ·exact Nat.le_trans (Nat.mul_le_mul_right _ (by simp;omega)) KK
    ·rw[List.getElem?_take]at he;split at he
     ·exact o5 i e he
     ·cases he
    ·have:cellAt ob.es i j=some d:=by
      unfold cellAt at hd|-;rw[List.getElem?_take]at hd;split at hd
      ·exact hd
      ·cases hd
     exact Da i j d this
  ·rw[if_neg h1]at ey;by_cases h2:k=h
   ·rw[if_pos h2]at ey;injection ey with ey;subst ey;exact trivial
   ·rw[if_neg h2]at ey;have old:=hs.obj k o' ey;unfold fT at old|-;split
    ·trivial
    ·rename_i fE;rw[fE]at old;dsimp only at old;rw[sg2 k h1];exact old
    ·rename_i fE;rw[fE]at old;dsimp only at old;rw[sg2 k h1];exact old
    ·rename_i fE;rw[fE]at old;dsimp only at old;obtain⟨g,hg,q1,q2,hb⟩:=old;rw[sg2 k h1];exact⟨g,hg,q1,q2,hb.mono rfl λd v h=>h.mono hm⟩
    ·rename_i fE;rw[fE]at old;dsimp only at old;rw[sg2 k h1];exact old
 ·rw[ZW]at e1 e2;have key:∀{k:Nat} {o':ak},(if k=hp.length then some (⟨.aN,ob.z,ob.es.take len⟩:ak)else if k=h then some ⟨.dead,ob.z,ob.es⟩else hp[k]?)=some o'->o'.k.mut->(k=hp.length\/(k≠h/\k≠hp.length/\hp[k]? =some o')):=by
   intro k o' he hmu;by_cases h1:k=hp.length
   ·exact .inl h1
   ·rw[if_neg h1]at he;by_cases h2:k=h
    ·rw[if_pos h2]at he;injection he with he;subst he;rcases hmu with e|e|⟨_,e⟩<;>cases e
    ·rw[if_neg h2]at he;exact .inr ⟨h2,h1,he⟩
  rcases key e1 m1 with r1|⟨r1,r1',av5⟩<;>rcases key e2 m2 with r2|⟨r2,r2',av6⟩
  ·rw[r1,r2]
  ·exfalso;rw[r1,sg1]at s1;rw[sg2 _ r2']at s2;exact r2 (hs.inj _ _ _ _ _ av6 m2 cD (.inl hk) s2 s1)
  ·exfalso;rw[r2,sg1]at s2;rw[sg2 _ r1']at s1;exact r1 (hs.inj _ _ _ _ _ av5 m1 cD (.inl hk) s1 s2)
  ·rw[sg2 _ r1']at s1;rw[sg2 _ r2']at s2;exact hs.inj _ _ _ _ _ av5 m1 av6 m2 s1 s2
 ·obtain⟨A,cap,e1,hle,hA⟩:=(hv.qL.2 ob cD).2 Dc rfl;refine .own _ _ _ _ _ (by rw[e1];rfl) (by omega) λo' ey=> ?_;rw[ZW,if_pos rfl]at ey;injection ey with ey;subst ey;refine⟨by simp;omega,λ_ _=>⟨A,cap,e1,hle,?_⟩⟩;rcases hA with hA|⟨g,hg,q1,q2⟩
  ·exact .inl hA
  ·exact .inr ⟨g,sg1.trans hg,q1,q2⟩
end
end Go.Nk
set_option linter.all false
namespace Go.Nk
open Go.RowKit
section
variable {P:Program} {K F F':Nat->Prop} {σ σ':Nat->Option Nat} {hp cJ:List ak} {w w':World} {fr:List (Nat×DV)} {a:Act} {o:Oper}
end
end Go.Nk
set_option linter.all false
namespace Go.Nk
open Go.RowKit
section
variable {P:Program} {K F F':Nat->Prop} {σ σ':Nat->Option Nat} {hp cJ:List ak} {w w':World} {fr:List (Nat×DV)} {a:Act} {o:Oper}
theorem L8{t}{p v}{i:TypeInfo}{g n}{c:Array Value}{ty}(ho:o.op= .store t p v)(hi:P.info? t=some i)(cJ:a.eval p= .pointer (some ⟨g,n,none⟩))(iP:(a.eval v).cells.size=i.size)
 (hh:w.heap[g]? =some (.cells c ty (0,0))) (mK:n+(a.eval v).cells.size<=c.size) (h1:∀u∈(a.eval v).cells.toList,u.oneCell'=true):
 (execOp a.eval o).run P w= .ok .skip (w.setRow g (c.toList.take n++(a.eval v).cells.toList++c.toList.drop (n+(a.eval v).cells.toList.length)).toArray):=by
 have Sj:=run_storeCells_at P g n ty (a.eval v).cells.toList 0 c w hh (by simpa using mK) h1;simp only[Nat.add_zero]at Sj;simp only[execOp,ho,Instr.storeAt,cJ,Instr.sureAddr,storeVar,Sem.run_bind,Sem.run_pure,Result.andThen_ok,sizeOf,typeInfo,run_program,hi,iP,ne_eq,not_true,if_false,Sj]
theorem Ql{z i j:Nat}{es:List (List DV)}{R R':DV->Value->Prop}{cs:List DV}{vs:List Value}{c c':Array Value}(o5:∀(i:Nat) (e:List DV),es[i]? =some e->e.length=z)
 (Da:∀i j d,cellAt es i j=some d->∃v,c[i*z+j]? =some v/\R d v) (hi:i<es.length) (hj:j+cs.length<=(es.getD i []).length) (hv:dS R' cs vs) (hR:∀d v,R d v->R' d v)
 (Gz:∀k:Nat,c'[k]? =if i*z+j<=k/\k<i*z+j+vs.length then vs[k-(i*z+j)]? else c[k]?):
 (∀(k:Nat) (e:List DV),(es.set i (setFrom (es.getD i []) j cs))[k]? =some e->e.length=z)/\
 ∀k l d,cellAt (es.set i (setFrom (es.getD i []) j cs)) k l=some d->∃v,c'[k*z+l]? =some v/\R' d v:=by
 have pJ:es.getD i []=es[i]:=by simp[List.getD,hi]
 rw[pJ]at hj|-;have hrz:=o5 i es[i] (by simp[hi]);obtain⟨s1,s2⟩:=y9 cs es[i] j;have hvl:=hv.1;refine⟨λk e he=> ?_,λk l d hd=> ?_⟩
 ·by_cases hk:k=i
  ·subst hk;rw[List.getElem?_set_self hi]at he;injection he with he;rw[<-he,s1,hrz]
  ·rw[List.getElem?_set_ne (Ne.symm hk)]at he;exact o5 _ _ he
 ·by_cases hk:k=i
  ·subst hk;have oF:(setFrom es[k] j cs)[l]? =some d:=by unfold cellAt at hd;rw[List.getElem?_set_self hi]at hd;simpa using hd
   rw[s2]at oF;split at oF
   ·rename_i hl;obtain⟨u,hu,hr⟩:=hv.2 _ _ oF;refine⟨u,?_,hr⟩;rw[Gz,if_pos (by omega),<-hu];congr 1;omega
   ·rename_i hl;have fM:l<es[k].length:=(List.getElem?_eq_some_iff.1 oF).1;obtain⟨u,hu,hr⟩:=Da k l d (by simp[cellAt,hi,oF]);exact⟨u,by rw[Gz,if_neg (by omega)];exact hu,hR _ _ hr⟩
  ·have oF:cellAt es k l=some d:=by unfold cellAt at hd|-;rwa[List.getElem?_set_ne (Ne.symm hk)]at hd
   obtain⟨u,hu,hr⟩:=Da _ _ _ oF;obtain⟨_,hl,_⟩:=sJ o5 oF;refine⟨u,?_,hR _ _ hr⟩;rw[Gz,if_neg]
   ·exact hu
   ·intro h;exact alP hl (Ne.symm hk) ⟨by omega,by omega⟩
theorem ZJ [Inhabited Env]{t:TypeId}{p v:Operand}{p' v':DA}{i:TypeInfo}{h r j:Nat}{ob:ak}(hs:bF K F σ hp w)(ho:o.op= .store t p v)(hi:P.info? t=some i)(hf:jq F σ hp w fr a.tmps)(nq:cF p p'=true)(hv1:cF v v'=true)
 (cD:hp[h]? =some ob) (hk:ob.k= .loc) (hpp:p'.ev fr= .ptr h ob.es.length r j) (hn:(cellsOf (v'.ev fr)).length=i.size) (hr:r<ob.es.length) (hj:j+(cellsOf (v'.ev fr)).length<=(ob.es.getD r []).length)
 (h1:∀d∈cellsOf (v'.ev fr),d.one=true):
 ∃w',(execOp a.eval o).run P w= .ok .skip w'/\dM K F σ hp w (.cy []) (hp.set h {ob with es:=ob.es.set r (setFrom (ob.es.getD r []) j (cellsOf (v'.ev fr)))}) undef w':=by
 have hvp:=aE hf nq;rw[hpp]at hvp;have Dc:ob.k≠ .dead:=by rw[hk];simp
 have hl:=ck cD;obtain⟨g,hg,hpv⟩:=(hvp.B7.2 ob cD).2 Dc rfl;have hold:=hs.obj h ob cD;unfold fT at hold;rw[hk]at hold;dsimp only at hold;obtain⟨g',kz,nF,nK,c,ty,hh,KK,o5,Da⟩:=hold;rw[hg]at kz;injection kz with kz;subst kz;have hc:=B9 (aE hf hv1) h1;have iP:(a.eval v).cells.size=i.size:=by rw[<-hn,hc.1];simp
 have pJ:(ob.es.getD r []).length=ob.z:=o5 r _ (by simp[List.getD,hr]);have mK:r*ob.z+j+(a.eval v).cells.toList.length<=c.size:=by rw[<-hc.1];have:(r+1)*ob.z<=ob.es.length*ob.z:=Nat.mul_le_mul_right _ hr;rw[Nat.add_mul]at this;omega
 have one:∀u∈(a.eval v).cells.toList,u.oneCell'=true:=by
  intro u hu;obtain⟨k,wS,rfl⟩:=List.getElem_of_mem hu;have si:k<(cellsOf (v'.ev fr)).length:=by rw[hc.1];exact wS
  obtain⟨u',Ny,qB⟩:=hc.2 k (cellsOf (v'.ev fr))[k] (by simp[si]);rw[List.getElem?_eq_getElem wS]at Ny;injection Ny with Ny;rw[Ny];exact qB.vZ (h1 _ (List.getElem_mem _))
 refine⟨_,L8 ho hi hpv iP hh (by simpa using mK) one,?_⟩;have Gz:=Cb (cur:=c) (n:=r*ob.z+j) (vs:=(a.eval v).cells.toList) mK;have lH:=setRow_heap w g c (c.toList.take (r*ob.z+j)++(a.eval v).cells.toList++c.toList.drop (r*ob.z+j+(a.eval v).cells.toList.length)).toArray ty (0,0) hh;have hcs:(c.toList.take (r*ob.z+j)++(a.eval v).cells.toList++c.toList.drop (r*ob.z+j+(a.eval v).cells.toList.length)).toArray.size=c.size:=by simp at mK|-;omega
 generalize (c.toList.take (r*ob.z+j)++(a.eval v).cells.toList++c.toList.drop (r*ob.z+j+(a.eval v).cells.toList.length)).toArray=c' at*;have cg:Ir K F σ hp w h {ob with es:=ob.es.set r (setFrom (ob.es.getD r []) j (cellsOf (v'.ev fr)))} F σ (hp.set h {ob with es:=ob.es.set r (setFrom (ob.es.getD r []) j (cellsOf (v'.ev fr)))}) (w.setRow g c'):=
  {os:=rfl,tape:=rfl,output:=rfl,size:=by simp,hF:=λ_ h=>h,newF:=λ_ h=> .inl h,Qh:=λb hb=>by simpa using hs.fb b hb
   heap:=λb hb bw=>setRow_other _ _ _ _ (λe=>bw ob cD (mA hk) (by rw[hg,e])),z8:= .inl ⟨hl,rfl⟩
   sig:=λh' bw=>rfl,Bt:=λg hg=> .inl ⟨hg,ob,cD,mA hk⟩
   grow:=λoh tg=>by rw[cD]at tg;injection tg with e;subst e;refine⟨.inl (mA hk),by simp,λ_ _=>⟨rfl,rfl,λg1 BP=> ?_⟩⟩;rw[hg]at BP;injection BP with BP;subst BP;unfold Sa;rw[lH,hh];exact hcs}
 have hm:=cg.hm hs;refine⟨F,σ,cg.sim hs ?_,cg.yb hs,hm,.cy [] #[] rfl (λ_=>undef) (λj d hd=>by simp at hd) (λj d hd=>by simp at hd)⟩;unfold fT;simp only[hk];obtain⟨q1,q2⟩:=Ql (R':=aB F σ (hp.set h {ob with es:=ob.es.set r (setFrom (ob.es.getD r []) j (cellsOf (v'.ev fr)))}) (w.setRow g c')) o5 Da hr hj (hc.imp λd v h=>h.mono hm) (λd v h=>h.mono hm) Gz;simp only[hk]at q2;exact⟨g,hg,nF,nK,c',ty,lH,by rw[hcs];simpa using KK,q1,q2⟩
theorem ZK [Inhabited Env]{t:TypeId}{p v:Operand}{p' v':DA}{i:TypeInfo}{h r j:Nat}{ob ob':ak}(hs:bF K F σ hp w)(ho:o.op= .store t p v)(hi:P.info? t=some i)(hf:jq F σ hp w fr a.tmps)(nq:cF p p'=true)(hv1:cF v v'=true)
 (cD:hp[h]? =some ob) (hk:ob.k= .aN) (hpp:p'.ev fr= .ptr h ob.es.length r j) (hn:(cellsOf (v'.ev fr)).length=i.size) (hr:r<ob.es.length) (hj:j+(cellsOf (v'.ev fr)).length<=(ob.es.getD r []).length)
 (bG:(tJ hp (cellsOf (v'.ev fr))).pre) (R9:(tJ hp (cellsOf (v'.ev fr))).hp[h]? =some ob') (wS:ob'.k= .aN) (hu:v'.ev fr≠ .undef):
 ∃w',(execOp a.eval o).run P w= .ok .skip w'/\dM K F σ hp w (.cy []) ((tJ hp (cellsOf (v'.ev fr))).hp.set h {ob with es:=ob.es.set r (setFrom (ob.es.getD r []) j (tJ hp (cellsOf (v'.ev fr))).dL)}) undef w':=by
 have hc0:=FK (aE hf hv1) hu;obtain⟨F1,f1,r1⟩:=Nx hs hc0 bG;obtain⟨kB,mv1,z5⟩:=f1;have hvp:=aE hf nq;rw[hpp]at hvp;have Dc:ob.k≠ .dead:=by rw[hk];simp
 obtain⟨g,hg,hpv⟩:=(hvp.B7.2 ob cD).2 Dc rfl;have ao5:ob'.es=ob.es/\ob'.z=ob.z:=by
  have key:∀(ds:List DV) (hp0:List ak),hp0[h]? =some ob->∃o2,(tJ hp0 ds).hp[h]? =some o2/\o2.es=ob.es/\o2.z=ob.z:=by
   have one:∀(d:DV) (hp0:List ak) (o1:ak),hp0[h]? =some o1->∃o2,(hH hp0 d).hp[h]? =some o2/\o2.es=o1.es/\o2.z=o1.z:=by
    intro d hp0 o1 h0;unfold hH;split
    ·rename_i h' L off len;show∃o2,(je hp0 h')[h]? =some o2/\_;unfold je;cases hh:hp0[h']? with
     |none=>exact⟨o1,h0,rfl,rfl⟩
     |some q=>
      by_cases e:h=h'
      ·subst e;rw[h0]at hh;injection hh with hh;subst hh;exact⟨{o1 with k:= .sY},by simp[ck h0],rfl,rfl⟩
      ·exact⟨o1,by dsimp only;rw[List.getElem?_set_ne (Ne.symm e)];exact h0,rfl,rfl⟩
    ·exact⟨o1,h0,rfl,rfl⟩
    ·exact⟨o1,h0,rfl,rfl⟩
    ·split
     ·exact⟨o1,h0,rfl,rfl⟩
     ·exact⟨o1,h0,rfl,rfl⟩
   have gen:∀(ds:List DV) (hp0:List ak) (o1:ak),hp0[h]? =some o1->∃o2,(tJ hp0 ds).hp[h]? =some o2/\o2.es=o1.es/\o2.z=o1.z:=by
    intro ds;induction ds with
    |nil=>intro hp0 o1 h0;exact⟨o1,h0,rfl,rfl⟩
    |cons d ds ih=>
     intro hp0 o1 h0;obtain⟨o2,e1,e2,e3⟩:=one d hp0 o1 h0;obtain⟨o3,e4,e5,e6⟩:=ih _ o2 e1;exact⟨o3,e4,e5.trans e2,e6.trans e3⟩
   intro ds hp0 h0;exact gen ds hp0 ob h0
  obtain⟨o2,e1,e2,e3⟩:=key (cellsOf (v'.ev fr)) hp cD;rw[R9]at e1;injection e1 with e1;subst e1;exact⟨e2,e3⟩
 have hl:=ck R9;have hold:=kB.obj h ob' R9;unfold fT at hold;rw[wS]at hold;dsimp only at hold;rw[ao5.1,ao5.2]at hold;rcases hold with⟨h0,_⟩|⟨g',kz,nF,nK,c,ty,hh,KK,o5,Da⟩
 ·rw[h0]at hr;simp at hr
 rw[hg]at kz;injection kz with kz;subst kz;have hlen:(tJ hp (cellsOf (v'.ev fr))).dL.length=(cellsOf (v'.ev fr)).length:=by rw[r1.1,hc0.1]
 have iP:(a.eval v).cells.size=i.size:=by rw[<-hn,hc0.1];simp
 have pJ:(ob.es.getD r []).length=ob.z:=o5 r _ (by simp[List.getD,hr]);have mK:r*ob.z+j+(a.eval v).cells.toList.length<=c.size:=by rw[<-hc0.1];have:(r+1)*ob.z<=ob.es.length*ob.z:=Nat.mul_le_mul_right _ hr;rw[Nat.add_mul]at this;omega
 have one:∀u∈(a.eval v).cells.toList,u.oneCell'=true:=by
  intro u hu;obtain⟨k,wS,rfl⟩:=List.getElem_of_mem hu;have si:k<(tJ hp (cellsOf (v'.ev fr))).dL.length:=by rw[r1.1];exact wS
  obtain⟨u',Ny,qB⟩:=r1.2 k (tJ hp (cellsOf (v'.ev fr))).dL[k] (by simp[si]);rw[List.getElem?_eq_getElem wS]at Ny;injection Ny with Ny;rw[Ny];exact qB.1.vZ
 refine⟨_,L8 ho hi hpv iP hh (by simpa using mK) one,?_⟩;have Gz:=Cb (cur:=c) (n:=r*ob.z+j) (vs:=(a.eval v).cells.toList) mK;have lH:=setRow_heap w g c (c.toList.take (r*ob.z+j)++(a.eval v).cells.toList++c.toList.drop (r*ob.z+j+(a.eval v).cells.toList.length)).toArray ty (0,0) hh;have hcs:(c.toList.take (r*ob.z+j)++(a.eval v).cells.toList++c.toList.drop (r*ob.z+j+(a.eval v).cells.toList.length)).toArray.size=c.size:=by simp at mK|-;omega
 generalize (c.toList.take (r*ob.z+j)++(a.eval v).cells.toList++c.toList.drop (r*ob.z+j+(a.eval v).cells.toList.length)).toArray=c' at*;refine dM.Im ⟨kB,mv1,z5⟩ ?_;generalize (tJ hp (cellsOf (v'.ev fr))).dL=cs at*;generalize (tJ hp (cellsOf (v'.ev fr))).hp=av8 at*;have cg:Ir K F1 σ av8 w h {ob with es:=ob.es.set r (setFrom (ob.es.getD r []) j cs)} F1 σ (av8.set h {ob with es:=ob.es.set r (setFrom (ob.es.getD r []) j cs)}) (w.setRow g c'):=
  {os:=rfl,tape:=rfl,output:=rfl,size:=by simp,hF:=λ_ h=>h,newF:=λ_ h=> .inl h,Qh:=λb hb=>by simpa using kB.fb b hb
   heap:=λb hb bw=>setRow_other _ _ _ _ (λe=>bw ob' R9 (.inl wS) (by rw[hg,e])),z8:= .inl ⟨hl,rfl⟩
   sig:=λh' bw=>rfl,Bt:=λg hg=> .inl ⟨hg,ob',R9,.inl wS⟩
   grow:=λoh tg=>by rw[R9]at tg;injection tg with e;subst e;refine⟨.inl (.inl wS),by simp[ao5.1],λ_ _=>⟨ao5.2.symm,rfl,λg1 BP=> ?_⟩⟩;rw[hg]at BP;injection BP with BP;subst BP;unfold Sa;rw[lH,hh];exact hcs}
 have hm:=cg.hm kB;refine⟨F1,σ,cg.sim kB ?_,cg.yb kB,hm,.cy [] #[] rfl (λ_=>undef) (λj d hd=>by simp at hd) (λj d hd=>by simp at hd)⟩;unfold fT;simp only[hk];obtain⟨q1,q2⟩:=Ql (R':=λd v=>bY F1 (w.setRow g c') d v/\d.one=true) o5 Da hr (by rw[hlen];exact hj) (r1.imp λd v h=>⟨h.1.mono hm.mono hm.bS,h.2⟩) (λd v h=>⟨h.1.mono hm.mono hm.bS,h.2⟩) Gz;exact .inr ⟨g,hg,nF,nK,c',ty,lH,by rw[hcs];simpa using KK,q1,q2⟩
end
end Go.Nk
set_option linter.all false
namespace Go.Nk
open Go.RowKit
section
variable {P:Program} {K F:Nat->Prop} {σ:Nat->Option Nat} {hp:List ak} {w:World} {a:Act} {o:Oper} {fr:List (Nat×DV)}
theorem find_spec{R:DV->Value->Prop}(k:List UInt8):∀(es:List (List UInt8×DV)) (c:List MapEntry) (i:Nat),c.length=es.length->
 (∀(j:Nat) (x:List UInt8×DV),es[j]? =some x->∃e,c[j]? =some e/\e.key= .string ⟨x.1.toArray⟩/\R x.2 e.val)->
 (Instr.findNow .string (.string ⟨k.toArray⟩) c i=some none/\Au k es=none/\∀d,FQ k d es=es++[(k,d)])\/
 ∃j e x,Instr.findNow .string (.string ⟨k.toArray⟩) c i=some (some (i+j,e.val))/\c[j]? =some e/\e.key= .string ⟨k.toArray⟩/\Au k es=some x/\R x e.val/\j<es.length/\∀d,FQ k d es=es.set j (k,d)
 |[],c,i,hl,_=>by obtain rfl:c=[]:=List.eq_nil_of_length_eq_zero hl;exact .inl ⟨rfl,rfl,λ_=>rfl⟩
 |x::es,[],i,hl,_=>by simp at hl
 |x::es,e::c,i,hl,h=>by
  obtain⟨e',he,hk,hr⟩:=h 0 x rfl;injection he with he;subst he;by_cases fE:k=x.1
  ·refine .inr ⟨0,e,x.2,?_,rfl,by rw[hk,fE],by simp[Au,fE],hr,by simp,λd=>by simp[FQ,fE]⟩;have:((⟨k.toArray⟩:ByteArray)==⟨x.1.toArray⟩)=true:=(MapKept.bytes_beq _ _).2 (by rw[fE]);simp[Instr.findNow,Instr.sameNow,hk,this]
  ·have bw:((⟨k.toArray⟩:ByteArray)==⟨x.1.toArray⟩)=false:=by
    cases hq:((⟨k.toArray⟩:ByteArray)==⟨x.1.toArray⟩)with
    |false=>rfl
    |true=>
     have:=(MapKept.bytes_beq _ _).1 hq;injection this with this;exact absurd (by simpa using this) fE
   have ih:=find_spec (R:=R) k es c (i+1) (by simpa using hl) (λj y hy=>h (j+1) y (by simpa using hy));rcases ih with⟨h1,h2,h3⟩|⟨j,e',y,h1,h2,h3,h4,h5,h6,h7⟩
   ·exact .inl ⟨by simp[Instr.findNow,Instr.sameNow,hk,bw,h1],by simp[Au,fE,h2],λd=>by simp[FQ,fE,h3]⟩
   ·exact .inr ⟨j+1,e',y,by simp[Instr.findNow,Instr.sameNow,hk,bw,h1];omega,by simpa using h2,h3,by simp[Au,fE,h4],h5,by simp;omega,λd=>by simp[FQ,fE,h7]⟩
theorem ZX{t}(h:Qd P t=true):∃k e i,P.underlying t=some (.map k e)/\P.underlying k=some .string/\P.info? e=some i/\i.zero=some (.slice none 0 0):=by
 unfold Qd at h;split at h
 ·rename_i k e ht;simp only[Bool.and_eq_true]at h;obtain⟨h1,h2⟩:=h;split at h2
  ·rename_i i hi;split at h2
   ·rename_i hz;exact⟨k,e,i,ht,by revert h1;unfold isStr;split<;>simp_all,hi,hz⟩
   ·cases h2
  ·cases h2
 ·cases h
theorem ao0 [Inhabited Env]{t}(hs:bF K F σ hp w)(ho:o.op= .makeMap t none):
 ∃v w',(execOp a.eval o).run P w= .ok (.value v) w'/\dM K F σ hp w (.mp hp.length) (hp++[⟨.mp [],0,[]⟩]) v w':=by
 refine⟨.map (some w.heap.size),w.alloc (.map #[] 0),by simp[execOp,ho,Instr.makeMap],?_⟩;have c:Ir K F σ hp w hp.length ⟨.mp [],0,[]⟩ F (λx=>if x=hp.length then some w.heap.size else σ x) (hp++[⟨.mp [],0,[]⟩]) (w.alloc (.map #[] 0)):=
  {os:=rfl,tape:=rfl,output:=rfl,size:=by simp,hF:=λ_ h=>h,newF:=λ_ h=> .inl h,Qh:=λb h=>by have:=hs.fb b h;simp;omega
   heap:=λb h _=>jt _ b h,z8:= .inr ⟨rfl,rfl⟩,sig:=λh' bw=>by simp[bw],Bt:=λg hg=> .inr (by simp at hg;omega),grow:=λoh tg=>by simp at tg}
 have nF:¬F w.heap.size:=λh=>by have:=hs.fb _ h;omega
 have nK:¬K w.heap.size:=λh=>by have:=hs.kb _ h;omega
 refine⟨F,_,c.sim hs ?_,c.yb hs,c.hm hs,.mp _ _ rfl (by simp) λob cD _ _=>⟨w.heap.size,by simp,rfl⟩⟩;unfold fT;exact⟨⟨rfl,rfl⟩,w.heap.size,by simp,nF,nK,#[],0,heap_alloc_new _ _,rfl,λi x hx=>by simp at hx⟩
theorem alT [Inhabited Env](hs:bF K F σ hp w){d}{v}{es:List (List UInt8×DV)}(hv:aB F σ hp w d v)(h:fG hp d=some es):
 ∃n ob g c q,d= .mp n/\hp[n]? =some ob/\ob.k= .mp es/\(ob.es=[]/\ob.z=0)/\σ n=some g/\¬F g/\¬K g/\v= .map (some g)/\w.heap[g]? =some (.map c q)/\c.size=es.length/\
  ∀(i:Nat) (x:List UInt8×DV),es[i]? =some x->∃e,c[i]? =some e/\e.key= .string ⟨x.1.toArray⟩/\(bY F w x.2 e.val/\∃l,x.2= .sl l):=by
 unfold fG at h;cases d<;>simp only[reduceCtorEq]at h;rename_i n;cases cD:hp[n]? with
 |none=>rw[cD]at h;cases h
 |some ob=>
  rw[cD]at h;simp only[Option.bind_some]at h;have hk:ob.k= .mp es:=by cases hk:ob.k<;>rw[hk]at h<;>simp only[Kd.Uz,reduceCtorEq,Option.some.injEq]at h;rw[h]
  have old:=hs.obj n ob cD;unfold fT at old;rw[hk]at old;dsimp only at old;obtain⟨e0,g,hg,nF,nK,c,q,h1,h2,h3⟩:=old;obtain⟨g',kz,zb⟩:=hv.asI.2 ob cD (by rw[hk];simp) (by rw[e0.1];rfl);rw[hg]at kz;injection kz with kz;subst kz;exact⟨n,ob,g,c,q,rfl,cD,hk,e0,hg,nF,nK,zb,h1,h2,h3⟩
theorem asz [Inhabited Env]{t:TypeId}{x y:Operand}{d:DV}{b:List UInt8}{es:List (List UInt8×DV)}(hs:bF K F σ hp w)(ho:o.op= .lookup t x y false)(ht:Qd P t=true)
 (hv:aB F σ hp w d (a.eval x)) (hk:a.eval y= .string ⟨b.toArray⟩) (h:fG hp d=some es):
 ∃v w',(execOp a.eval o).run P w= .ok (.value v) w'/\dM K F σ hp w ((Au b es).getD (.sl [])) hp v w':=by
 obtain⟨kt,et,ti,h1,h2,h3,h4⟩:=ZX ht;obtain⟨n,ob,g,c,q,rfl,cD,Dc,e0,hg,nF,nK,hx,hh,iP,hc⟩:=alT hs hv h;have hck:∀e,(Instr.checkKey e 10000 kt (.string ⟨b.toArray⟩)).run P w= .ok () w:=λe=>MapKept.run_checkKey (k:= .string ⟨b.toArray⟩) h2 (by simp[MapKept.IsKey]) e 9999;rcases find_spec (R:=λd v=>bY F w d v/\∃l,d= .sl l) b es c.toList 0 (by simpa using iP) (λj x hx=>by simpa using hc j x hx)with⟨f1,f2,f3⟩|⟨j,e,y',f1,f2,f3,f4,f5,f6,f7⟩
 ·refine⟨.slice none 0 0,w,?_,?_⟩
  ·simp[execOp,ho,hx,hk,Instr.lookup,run_underlying h1,MapKept.run_getObj_map hh,hck,MapKept.run_findKey h2 f1,Result.andThen,zeroValue,typeInfo,h3,h4]
  ·rw[f2];exact dM.same hs (.aN (bY.LZ (z:=0) (by simp) (λi e he=>by simp at he) (λbw=>absurd rfl bw)))
 ·refine⟨e.val,w,?_,?_⟩
  ·simp[execOp,ho,hx,hk,Instr.lookup,run_underlying h1,MapKept.run_getObj_map hh,hck,MapKept.run_findKey h2 f1,Result.andThen]
  ·rw[f4];exact dM.same hs (.aN f5.1)
theorem alC [Inhabited Env]{t:TypeId}{x y z:Operand}{d e:DV}{b:List UInt8}{es:List (List UInt8×DV)}(hs:bF K F σ hp w)(ho:o.op= .mapUpdate t x y z\/o.op= .insert t x y z)(ht:Qd P t=true)
 (hv:aB F σ hp w d (a.eval x)) (hk:a.eval y= .string ⟨b.toArray⟩) (h:fG hp d=some es) (he:bY F w e (a.eval z)/\∃l,e= .sl l):
 ∃w',(execOp a.eval o).run P w= .ok .skip w'/\dM K F σ hp w (.cy []) (hp.set (mpH d) ⟨.mp (FQ b e es),0,[]⟩) undef w':=by
 obtain⟨kt,et,ti,h1,h2,h3,h4⟩:=ZX ht;obtain⟨n,ob,g,c,q,rfl,cD,Dc,e0,hg,nF,nK,hx,hh,iP,hc⟩:=alT hs hv h;have hl:=ck cD;have hck:∀e,(Instr.checkKey e 10000 kt (.string ⟨b.toArray⟩)).run P w= .ok () w:=λe=>MapKept.run_checkKey (k:= .string ⟨b.toArray⟩) h2 (by simp[MapKept.IsKey]) e 9999;have key:∀(c':Array MapEntry) (q':Nat),c'.size=(FQ b e es).length->(∀(i:Nat) (x:List UInt8×DV),(FQ b e es)[i]? =some x->∃e',c'[i]? =some e'/\e'.key= .string ⟨x.1.toArray⟩/\(bY F w x.2 e'.val/\∃l,x.2= .sl l))->
  dM K F σ hp w (.cy []) (hp.set n ⟨.mp (FQ b e es),0,[]⟩) undef {w with heap:=w.heap.setIfInBounds g (.map c' q')}:=by
  intro c' q' hl' jg;obtain⟨awa,hg2⟩:=MapKept.heap_set (o':= .map c' q') hh;have cg:Ir K F σ hp w n ⟨.mp (FQ b e es),0,[]⟩ F σ (hp.set n ⟨.mp (FQ b e es),0,[]⟩) {w with heap:=w.heap.setIfInBounds g (.map c' q')}:=
   {os:=rfl,tape:=rfl,output:=rfl,size:=by simp,hF:=λ_ h=>h,newF:=λ_ h=> .inl h,Qh:=λb hb=>by simpa using hs.fb b hb
    heap:=λb hb bw=>hg2 b (λe=>bw ob cD (.inr (.inr ⟨_,Dc⟩)) (by rw[hg,e])),z8:= .inl ⟨hl,rfl⟩
    sig:=λh' bw=>rfl,Bt:=λg hg=> .inl ⟨hg,ob,cD,.inr (.inr ⟨_,Dc⟩)⟩
    grow:=λoh tg=>by rw[cD]at tg;injection tg with tg;subst tg;refine⟨.inl (.inr (.inr ⟨_,Dc⟩)),by simp[e0.1],λ_ _=>⟨e0.2.symm,rfl,λg1 BP=> ?_⟩⟩;rw[hg]at BP;injection BP with BP;subst BP;unfold Sa;rw[awa,hh]}
  have hm:=cg.hm hs;refine⟨F,σ,cg.sim hs ?_,cg.yb hs,hm,.cy [] #[] rfl (λ_=>undef) (λj d hd=>by simp at hd) (λj d hd=>by simp at hd)⟩;unfold fT;exact⟨⟨rfl,rfl⟩,g,hg,nF,nK,c',q',awa,hl',λi x hx=>let⟨e',a1,a2,a3⟩:=jg i x hx;⟨e',a1,a2,a3.1.mono hm.mono hm.bS,a3.2⟩⟩
 rcases find_spec (R:=λd v=>bY F w d v/\∃l,d= .sl l) b es c.toList 0 (by simpa using iP) (λj x hx=>by simpa using hc j x hx)with⟨f1,f2,f3⟩|⟨j,e1,y',f1,f2,f3,f4,f5,f6,f7⟩
 ·refine⟨_,?_,key (c.push {key:= .string ⟨b.toArray⟩,val:=a.eval z,born:=q}) (q+1) (by rw[f3];simp[iP]) ?_⟩
  ·rcases ho with ho|ho<;>simp[execOp,ho,hx,hk,Instr.mapUpdate,run_underlying h1,MapKept.run_getObj_map hh,hck,MapKept.run_findKey h2 f1,MapKept.run_setObj_map _ hh,Result.andThen]
  ·intro i x re;rw[f3]at re;rcases Nat.lt_or_ge i es.length with hi|hi
   ·rw[List.getElem?_append_left hi]at re;obtain⟨e',a1,a2⟩:=hc i x re;exact⟨e',by rw[Array.getElem?_push];rw[if_neg (by omega)];exact a1,a2⟩
   ·rw[List.getElem?_append_right hi]at re;have hi2:i=es.length:=by
     rcases Nat.lt_or_ge es.length i with h'|h'
     ·rw[List.getElem?_eq_none (by simp;omega)]at re;cases re
     ·omega
    subst hi2;simp at re;subst re;exact⟨_,by rw[Array.getElem?_push,if_pos iP.symm],rfl,he⟩
 ·have f2':c[j]? =some e1:=by simpa using f2
  refine⟨_,?_,key (c.modify j λe=>{e with key:= .string ⟨b.toArray⟩,val:=a.eval z}) q (by rw[f7];simp[iP]) ?_⟩
  ·have Tg:(Instr.keyThatStays e1.key (.string ⟨b.toArray⟩)).run P w= .ok (.string ⟨b.toArray⟩) w:=by
    have:Instr.sameBits 10000 e1.key (.string ⟨b.toArray⟩)=true:=by rw[f3];simp only[Instr.sameBits];exact(MapKept.bytes_beq _ _).2 rfl
    simp[Instr.keyThatStays,this]
   rw[Nat.zero_add]at f1;rcases ho with ho|ho<;>simp[execOp,ho,hx,hk,Instr.mapUpdate,run_underlying h1,MapKept.run_getObj_map hh,hck,MapKept.run_findKey h2 f1,MapKept.run_setObj_map _ hh,Result.andThen,f2',Tg]
  ·intro i x re;rw[f7,List.getElem?_set]at re;by_cases hij:j=i
   ·subst hij;rw[if_pos rfl,if_pos f6]at re;injection re with re;subst re;exact⟨_,by rw[Array.getElem?_modify,if_pos rfl,f2'];rfl,rfl,he⟩
   ·rw[if_neg hij]at re;obtain⟨e',a1,a2⟩:=hc i x re;exact⟨e',by rw[Array.getElem?_modify,if_neg hij];exact a1,a2⟩
theorem L9{t}(h:concrete P t=true):∃d,P.underlying t=some d/\∀m,d≠ .interface m:=by
 unfold concrete at h;split at h
 ·cases h
 ·rename_i d hn hd;exact⟨d,hd,λm e=>hn m e⟩
 ·cases h
theorem asA [Inhabited Env]{t}{x}{d:DV}(hs:bF K F σ hp w)(ho:o.op= .makeInterface t x)(ht:concrete P t=true)(hv:aB F σ hp w d (a.eval x))(hd:d.aY=true):
 ∃v w',(execOp a.eval o).run P w= .ok (.value v) w'/\dM K F σ hp w (.ifc t d) hp v w':=by
 obtain⟨u,h1,h2⟩:=L9 ht;refine⟨.iface t (a.eval x),w,?_,dM.same hs (.aN (.ifc t _ _ (hv.FJ hd)))⟩;cases u<;>first|exact absurd rfl (h2 _)|simp[execOp,ho,Instr.makeInterface,run_underlying h1,Result.andThen]
theorem asB [Inhabited Env]{t xt}{x}{i:TypeInfo}{zv}{t'}{d z}(hs:bF K F σ hp w)(ho:o.op= .typeAssert x xt t true)(ht:concrete P t=true)(hi:P.info? t=some i)(hz:i.zero=some zv)
 (hzr:aB F σ hp w z zv) (hv:aB F σ hp w (.ifc t' d) (a.eval x)):
 ∃v w',(execOp a.eval o).run P w= .ok (.value v) w'/\dM K F σ hp w (if t'=t then .cy [d,.bool true]else .cy [z,.bool false]) hp v w':=by
 obtain⟨u,h1,h2⟩:=L9 ht;obtain⟨v,e1,hr⟩:=hv.ao6;by_cases B5:t'=t
 ·subst B5;refine⟨.tuple #[v,.bool true],w,?_,?_⟩
  ·cases u<;>first|exact absurd rfl (h2 _)|simp[execOp,ho,Instr.typeAssert,run_underlying h1,Result.andThen,e1]
  ·rw[if_pos rfl];refine dM.same hs (.KH rfl λj d' oF=> ?_);rcases j with _|_|j
   ·simp at oF;subst oF;exact⟨v,rfl,.aN hr⟩
   ·simp at oF;subst oF;exact⟨_,rfl,.aN (.bool true)⟩
   ·simp at oF
 ·refine⟨.tuple #[zv,.bool false],w,?_,?_⟩
  ·cases u<;>first|exact absurd rfl (h2 _)|simp[execOp,ho,Instr.typeAssert,run_underlying h1,Result.andThen,e1,B5,zeroValue,typeInfo,hi,hz]
  ·rw[if_neg B5];refine dM.same hs (.KH rfl λj d' oF=> ?_);rcases j with _|_|j
   ·simp at oF;subst oF;exact⟨zv,rfl,hzr⟩
   ·simp at oF;subst oF;exact⟨_,rfl,.aN (.bool false)⟩
   ·simp at oF
end
end Go.Nk
set_option linter.all false
namespace Go.Nk
open Go.RowKit
def none_:Nat->Option Nat:=λ_=>none
def ie(P:Program)(f:FuncId):Bool:=
 match P.funcs[f]? with
 | some fn => !(fn.name == "runtime.NumGoroutine") && fn.body.isSome
 |none=>false
def Ai [Inhabited Env](P:Program)(f:FuncId)(iy:List DV)(r:DV):Prop:=
 ∀(K F:Nat->Prop) (w:World) (args:Array Value),(∀b,F b->b<w.heap.size)->(∀b,K b->b<w.heap.size)->XF F w->dS (aB F none_ [] w) iy args.toList->
  Calls P f args w λe w'=>∃v F',e= .returned v/\iw K F w F' w'/\(∀b,F' b->b<w'.heap.size)/\aB F' none_ [] w' r v
def PS [Inhabited Env](P:Program)(f:FuncId)(iy:List DV)(hp:List ak)(r:DV)(cJ:List ak):Prop:=
 ∀(K F:Nat->Prop) (σ:Nat->Option Nat) (w:World) (args:Array Value),bF K F σ hp w->dS (aB F σ hp w) iy args.toList->
  Calls P f args w λe w'=>∃v,e= .returned v/\dM K F σ hp w r cJ v w'
structure awb(F B:Nat->Prop)(W:World)(F' B':Nat->Prop)(W':World):Prop where
 os:W'.os=W.os
 tape:W'.tape=W.tape
 output:W'.output=W.output
 size:W.heap.size<=W'.heap.size
 heap:∀b,b<W.heap.size->¬B b->W'.heap[b]? =W.heap[b]?
 bS:∀b,F b->W'.heap[b]? =W.heap[b]?
 mono:∀b,F b->F' b
 new:∀b,F' b->F b\/B b\/W.heap.size<=b
 own:∀b,B' b->B b\/W.heap.size<=b
 fb:∀b,F' b->b<W'.heap.size
 bb:∀b,B' b->b<W'.heap.size
def wW(J:Option Nat->(Nat->Prop)->(Nat->Prop)->World->Prop):Prop:=
 ∀k F B W F' B' W',J k F B W->awb F B W F' B' W'->J k F' B' W'
def zc(P:Program)(l:Nat)(xs:List (List DV))(J:Option Nat->(Nat->Prop)->(Nat->Prop)->World->Prop):Prop:=
 ∀k F B W x vs,J (some k) F B W->(∀b,F b->b<W.heap.size)->(∀b,B b->b<W.heap.size)->xs[k]? =some x->dS (aB F none_ [] W) x vs->
  ∃fn tmps assign body,(Instr.yield l vs.toArray).run P W= .ok (.round l fn tmps assign body) W/\
   RoundIn Fence.wide 0 P l fn tmps assign body W λe W'=>∃b F',e= .returned (.bool b)/\(∀c,F c->F' c)/\(∀c,F' c->F c\/¬B c)/\(∀c,F' c->c<W'.heap.size)/\W.heap.size<=W'.heap.size/\
    (∀c,F c->W'.heap[c]? =W.heap[c]?)/\(∀c,B c->W'.heap[c]? =W.heap[c]?)/\J (if b then some (k+1)else none) F' B W'
def VX [Inhabited Env](P:Program)(f:FuncId)(caps:List DV)(xs:List (List DV)):Prop:=
 ∀(l:Nat) (J:Option Nat->(Nat->Prop)->(Nat->Prop)->World->Prop) (F B:Nat->Prop) (σ:Nat->Option Nat) (W:World) (cv:Array Value),wW J->zc P l xs J->(∀b,B b->b<W.heap.size)->bF (λb=>b<W.heap.size/\¬B b) F σ (jy caps).2 W->
  dS (aB F σ (jy caps).2 W) (jy caps).1 cv.toList->J (some 0) F B W->
  CallsIn Fence.wide 0 P f (#[.func (.yield l) #[] #[]]++cv) W λe W'=>(∃v,e= .returned v)/\∃F' B' k,J k F' B' W'/\(k=none\/k=some xs.length)
def DV.unY:DV->DV
 | .Qm _=> .Qm 0
 |d=>d
def DV.reY(l:Nat):DV->DV
 | .Qm _=> .Qm l
 |d=>d
def VZ [Inhabited Env](P:Program)(f:FuncId)(args:List DV)(ys:List (List DV)):Prop:=
 ∀(l:Nat) (J:Option Nat->(Nat->Prop)->(Nat->Prop)->World->Prop) (K F B:Nat->Prop) (W:World) (cv:Array Value),wW J->zc P l ys J->(∀b,B b->b<W.heap.size)->(∀b,b<W.heap.size->K b)->bF K F none_ [] W->
  dS (aB F none_ [] W) (args.map (DV.reY l)) cv.toList->J (some 0) F B W->
  CallsIn Fence.wide 0 P f cv W λe W'=>∃b F',e= .returned (.bool b)/\(∀c,F c->F' c)/\(∀c,F' c->F c\/¬B c)/\(∀c,F' c->c<W'.heap.size)/\W.heap.size<=W'.heap.size/\
   (∀c,F c->W'.heap[c]? =W.heap[c]?)/\(∀c,B c->W'.heap[c]? =W.heap[c]?)/\J (if b then some ys.length else none) F' B W'
structure jL.ok [Inhabited Env](P:Program)(C:jL):Prop where
 p:∀f args,(C.p f args).1->ie P f=true/\Ai P f args (C.p f args).2
 h:∀f args hp,(C.h f args hp).pre->ie P f=true/\PS P f args hp (C.h f args hp).val (C.h f args hp).hp
 i:∀f caps,(C.i f caps).1->ie P f=true/\VX P f caps (C.i f caps).2
 w:∀f args,(C.w f args).1->ie P f=true/\VZ P f args (C.w f args).2
section
variable {P:Program} {K F F':Nat->Prop} {σ σ':Nat->Option Nat} {hp cJ:List ak} {w w':World} {fr:List (Nat×DV)} {a:Act} {o:Oper} {C:jL}
def Qc(P:Program)(o:Oper)(a:Act)(w:World)(R:Value->World->Prop):Prop:=
 ∀(Kn:Act->World->Prop) (Q:Exit->Act->World->Prop),(∀v w',R v w'->Kn (a.put o.dst v) w')->o.wp P a w Kn Q
theorem bu{R}(h:∃v w',(execOp a.eval o).run P w= .ok (.value v) w'/\R v w'):Qc P o a w R:=by obtain⟨v,w',h1,h2⟩:=h;intro Kn Q hK;unfold Oper.wp;rw[h1];exact hK v w' h2
theorem y8{R}(h:∃w',(execOp a.eval o).run P w= .ok .skip w'/\R undef w'):Qc P o a w R:=by obtain⟨w',h1,h2⟩:=h;intro Kn Q hK;unfold Oper.wp;rw[h1];exact hK undef w' h2
theorem jr{R}{f}{args:Array Value}(h1:(execOp a.eval o).run P w= .ok (.enter f args) w)(h2:Calls P f args w λe w'=>∃v,e= .returned v/\R v w'):Qc P o a w R:=by intro Kn Q hK;unfold Oper.wp;rw[h1];exact h2.mono λe w' ⟨v,he,hr⟩=>by subst he;exact hK v w' hr
theorem gX.meets [Inhabited Env](hs:bF K F σ hp w){d}(h:gX P F σ hp w o a d):Qc P o a w (λv w'=>dM K F σ hp w d hp v w'):=by obtain⟨v,h1,h2⟩:=h;exact bu ⟨v,w,h1,.same hs h2⟩
theorem yZ{f}(h:ie P f=true)(args:Array Value):(callFunc f args).run P w= .ok (.enter f args) w:=by
 unfold ie at h;cases hf:P.funcs[f]? with
 |none=>simp[hf]at h
 |some fn=>
  simp only[hf,Bool.and_eq_true,Bool.not_eq_true']at h;have hb:fn.body.isNone=false:=by cases hh:fn.body<;>simp_all
  simp only[callFunc,Sem.run_bind,run_program,Result.andThen_ok,hf,h.1,hb,Bool.false_eq_true,if_false,Sem.run_pure]
theorem ry{f}{x}{xs:Array Operand}{ts:Array TypeId}{caps:Array Value}(ho:o.op= .call {callee:= .value x,args:=xs,argTypes:=ts})(hx:a.eval x= .func (.func f) #[] caps)(h:ie P f=true):
 (execOp a.eval o).run P w= .ok (.enter f (xs.map a.eval++caps)) w:=by
 simp only[execOp,ho,resolve,hx,Deferred.ofValue,Sem.run_bind,Sem.run_pure,Result.andThen_ok,invoke,Array.empty_append];exact yZ h _
theorem Tq{f}{x}{xs:Array Operand}{ts:Array TypeId}{fst:Array Value}(ho:o.op= .call {callee:= .value x,args:=xs,argTypes:=ts})(hx:a.eval x= .func (.func f) fst #[])(h:ie P f=true):
 (execOp a.eval o).run P w= .ok (.enter f (fst++xs.map a.eval)) w:=by
 simp only[execOp,ho,resolve,hx,Deferred.ofValue,Sem.run_bind,Sem.run_pure,Result.andThen_ok,invoke,Array.append_empty];exact yZ h _
def ZY(F:Nat->Prop)(σ:Nat->Option Nat)(hp:List ak):Nat->Prop:=λb=>F b\/∃h o,hp[h]? =some o/\o.k≠ .dead/\σ h=some b
theorem ao8 [Inhabited Env](hs:bF K F σ hp w):∀b,ZY F σ hp b->b<w.heap.size:=λb hb=>hb.elim (hs.fb b) λ⟨_,_,ho,hd,hg⟩=>hs.wV ho hd hg
theorem ahf [Inhabited Env](hs:bF K F σ hp w){d}{v}(hv:aB F σ hp w d v)(h:(uW hp d).1):bY (ZY F σ hp) w (uW hp d).2 v:=by
 unfold uW at*;split at h
 ·rename_i k L i j;cases cD:hp[k]? with
  |none=>simp[cD]at h
  |some ob=>
   simp only[cD]at h|-;obtain⟨h1,h2,h3,h4⟩:=h;obtain⟨_,gh⟩:=hv.B7;obtain⟨g,hg,rfl⟩:=(gh ob cD).2 h1 h2;have ar7:∃c ty,w.heap[g]? =some (.cells c ty (0,0))/\∀i j d,cellAt ob.es i j=some d->∃v,c[i*ob.z+j]? =some v/\bY F w d v/\d.one=true:=by
    have old:=hs.obj k ob cD;unfold fT at old;rcases fE:ob.k with _|_|_|_<;>rw[fE]at old<;>dsimp only at old
    ·rcases old with⟨e1,_⟩|⟨g',kz,_,_,c,ty,b1,b2,b3,b4⟩
     ·rw[e1]at h2;simp at h2;omega
     ·have:g'=g:=Option.some.inj (kz.symm.trans hg);subst this;exact⟨c,ty,b1,b4⟩
    ·obtain⟨g',kz,_,_,c,ty,b1,b2,b3,b4⟩:=old;have:g'=g:=Option.some.inj (kz.symm.trans hg);subst this;refine⟨c,ty,b1,λi j d hd=> ?_⟩;obtain⟨v,v1,v2⟩:=b4 i j d hd;obtain⟨e,he,oF⟩:=ac4 hd;have hi:=h4 e he d oF;exact⟨v,v1,v2.FJ hi,Iu hi⟩
    ·rcases old with⟨e1,_⟩|⟨g',kz,_,c,ty,b1,b2,b3,b4⟩
     ·rw[e1]at h2;simp at h2;omega
     ·have:g'=g:=Option.some.inj (kz.symm.trans hg);subst this;exact⟨c,ty,b1,b4⟩
    ·exact absurd fE h1
    ·rw[old.1.1]at h2;simp at h2;omega
   obtain⟨c,ty,b1,b4⟩:=ar7;refine bY.acX rfl (.inr ⟨k,ob,cD,h1,hg⟩) λn d hd=> ?_;have hc:=Ma hd;obtain⟨v,v1,v2,v3⟩:=b4 i (j+n) d hc;refine⟨v,?_,v3,v2.mono (λb hb=> .inl hb) λ_ _=>rfl⟩;rw[show(⟨g,i*ob.z+j+n,none⟩:Addr)=⟨g,i*ob.z+(j+n),none⟩ by rw[Nat.add_assoc]];rw[uF b1];exact v1
 ·exact(hv.FJ h).mono (λb hb=> .inl hb) λ_ _=>rfl
theorem Tz [Inhabited Env](hs:bF K F σ hp w):∀{cs:List DV} {vs:List Value},dS (aB F σ hp w) cs vs->(kI hp cs).1->dS (bY (ZY F σ hp) w) (kI hp cs).2 vs
 |[],vs,hv,_=>by rw[hv.ag5];exact .kV
 |d::ds,vs,hv,h=>by obtain⟨v,us,rfl,h0,hr⟩:=hv.cons;exact .ic (ahf hs h0 h.1) (Tz hs hr h.2)
theorem TA [Inhabited Env](hs:bF K F σ hp w){d}{v}(hv:aB F σ hp w d v)(h:(bX hp d).1):bY (ZY F σ hp) w (bX hp d).2 v:=by
 unfold bX at h|-;split at h
 ·rename_i h' L off len;obtain⟨A,c,z,rfl,hlc,hz,hA,_⟩:=rq hs hv h (by simp);refine bY.LZ hlc hz λbw=> ?_;obtain⟨b,hb,WK,hF,hc⟩:=hA bw;refine⟨b,hb,WK,?_,λi j e he=> ?_⟩
  ·rcases hF with hF|⟨h1,L1,o1,l1,e1,e2⟩
   ·exact .inl hF
   ·injection e1 with e1;subst e1;have cD:∃ob,hp[h']? =some ob/\(ob.k= .aN\/ob.k= .sY):=by
     simp only[bf]at h;cases cD:hp[h']? with
     |none=>simp[cD]at h
     |some ob=>
      simp only[cD]at h;split at h
      ·rename_i hk;exact⟨ob,rfl,hk⟩
      ·exact h.elim
    obtain⟨ob,cD,hk⟩:=cD;exact .inr ⟨h',ob,cD,by rcases hk with e|e<;>rw[e]<;>simp,e2⟩
  ·obtain⟨u,hu,h1,hr⟩:=hc i j e he;exact⟨u,hu,h1,hr.mono (λb hb=> .inl hb) λ_ _=>rfl⟩
 ·have:=hv.kx;subst this;exact bY.LZ (es:=[]) (z:=0) (Nat.le_refl _) (λi e he=>by simp at he) (λh=>absurd rfl h)
 ·obtain⟨vs,rfl,hl,hr⟩:=hv.B8;obtain⟨l1,l2⟩:=Tz hs ⟨by simpa using hl,λj d hd=>let⟨u,hu,qB⟩:=hr j d hd;⟨u,by simpa using hu,qB⟩⟩ h (vs:=vs.toList);obtain⟨vv,v1,v2⟩:=ZT (vs:=vs) λj d hd=>let⟨u,hu,qB⟩:=l2 j d hd;⟨u,by simpa using hu,qB⟩;exact .clo _ _ vs (by simpa using l1) vv v1 v2
 ·split at h
  ·rename_i hi;rw[if_pos hi];exact(hv.FJ hi).mono (λb hb=> .inl hb) λ_ _=>rfl
  ·exact h.elim
theorem TB [Inhabited Env](hs:bF K F σ hp w):∀{ds:List DV} {vs:List Value},dS (aB F σ hp w) ds vs->(fy hp ds).1->dS (λd v=>aB (ZY F σ hp) none_ [] w d v) (fy hp ds).2 vs
 |[],vs,hv,_=>by rw[hv.ag5];exact .kV
 |d::ds,vs,hv,h=>by obtain⟨v,us,rfl,h0,hr⟩:=hv.cons;exact .ic (.aN (TA hs h0 h.1)) (TB hs hr h.2)
theorem alU{cs}{vs:Array Value}(h:dS (aB F σ hp w) cs vs.toList):aB F σ hp w (.agg cs) (.agg vs):=
 aB.uB (by simpa using h.1) λj d hd=>let⟨u,hu,hr⟩:=h.2 j d hd;⟨u,by simpa using hu,hr⟩
theorem ahg [Inhabited Env](hs:bF K F σ hp w){d}{v}(hv:aB F σ hp w d v)(h:(cn hp d).1):aB (ZY F σ hp) none_ [] w (cn hp d).2 v:=by
 unfold cn at h|-;split at h
 ·obtain⟨vs,rfl,hl,hr⟩:=hv.pN;exact alU (TB hs ⟨by simpa using hl,λj d hd=>let⟨u,hu,hr⟩:=hr j d hd;⟨u,by simpa using hu,hr⟩⟩ h)
 ·exact .aN (TA hs hv h)
theorem Qn [Inhabited Env](hs:bF K F σ hp w):∀{ds:List DV} {vs:List Value},dS (aB F σ hp w) ds vs->(bn hp ds).1->dS (aB (ZY F σ hp) none_ [] w) (bn hp ds).2 vs
 |[],vs,hv,_=>by rw[hv.ag5];exact .kV
 |d::ds,vs,hv,h=>by obtain⟨v,us,rfl,h0,hr⟩:=hv.cons;exact .ic (ahg hs h0 h.1) (Qn hs hr h.2)
theorem aB.bare{d}{v}(h:aB F none_ [] w d v):aB F σ hp w d v:=by refine h.mono ⟨λ_ h=>h,λ_ _=>rfl,by simp,λh o ho=>by simp at ho⟩
theorem Il [Inhabited Env](hs:bF K F σ hp w){d}{v}(hv:aB F σ hp w d v)(h:(iq hp d).pre):
 ∃F',Ij K F σ hp w F' (iq hp d).hp/\aB F' none_ [] w (iq hp d).val v:=by
 unfold iq at h|-;split at h
 ·obtain⟨vs,rfl,hl,hr⟩:=hv.pN;obtain⟨F',f,r⟩:=Nx hs (vs:=vs.toList) ⟨by simpa using hl,λj d hd=>let⟨u,hu,hr⟩:=hr j d hd;⟨u,by simpa using hu,hr⟩⟩ h;exact⟨F',f,alU (r.imp λd v h=> .aN h.1)⟩
 ·obtain⟨F',f,r,_⟩:=ae8 hs hv h;exact⟨F',f,.aN r⟩
theorem Qb [Inhabited Env]:∀{ds:List DV} {vs:List Value} {hp:List ak} {F:Nat->Prop},bF K F σ hp w->dS (aB F σ hp w) ds vs->(fx hp ds).pre->
 ∃F',Ij K F σ hp w F' (fx hp ds).hp/\dS (aB F' none_ [] w) (fx hp ds).dL vs
 |[],vs,hp,F,hs,hv,_=>⟨F,.refl hs,by rw[hv.ag5];exact .kV⟩
 |d::ds,vs,hp,F,hs,hv,h=>by obtain⟨v,us,rfl,h0,hr⟩:=hv.cons;obtain⟨nq,gh⟩:=h;obtain⟨F1,f1,r1⟩:=Il hs h0 nq;obtain⟨F2,f2,r2⟩:=Qb f1.1 (hr.imp λd v h=>h.mono f1.2.2) gh;refine⟨F2,f1.trans f2,.ic (r1.mono ⟨f2.2.1.mono,f2.2.1.bS,by simp,λh o ho=>by simp at ho⟩) r2⟩
theorem KR{F0}{w0}{d}{v}(h:aB F none_ [] w d v)(hd:dE d=true):aB F0 σ hp w0 d v:=by
 cases d<;>simp only[dE,Bool.false_eq_true]at hd
 ·rw[h.gJ];exact .aN (.int _ _)
 ·rw[h.iO];exact .aN (.bool _)
 ·rw[h.ny];exact .aN (.str _)
 ·rw[h.alV];exact .aN .Ia
theorem ac5{F0}{w0}{d}{v}(h:aB F none_ [] w d v)(hd:bW d=true):aB F0 σ hp w0 d v:=by
 unfold bW at hd;split at hd
 ·obtain⟨vs,rfl,hl,hr⟩:=h.Ik;exact aB.KH hl λj e he=>by obtain⟨u,hu,hr⟩:=hr j e he;exact⟨u,hu,KR hr (List.all_eq_true.1 hd e (List.mem_of_getElem? he))⟩
 ·obtain⟨vs,rfl,hl,hr⟩:=h.pN;exact aB.uB hl λj e he=>by obtain⟨u,hu,hr⟩:=hr j e he;exact⟨u,hu,KR hr (List.all_eq_true.1 hd e (List.mem_of_getElem? he))⟩
 ·exact KR h hd
theorem KN [Inhabited Env](hC:C.ok P)(hs:bF K F σ hp w){f}{iy}{args:Array Value}(ha:dS (aB F σ hp w) iy args.toList)(h:(bh C hp f iy).pre):
 ie P f=true/\Calls P f args w λe w'=>∃v,e= .returned v/\dM K F σ hp w (bh C hp f iy).val (bh C hp f iy).hp v w':=by
 unfold bh at h|-;dsimp only at h|-;split at h
 ·rename_i hn;rw[if_pos hn];obtain⟨hv,hr⟩:=h;obtain⟨lI,ht⟩:=hC.p _ _ hr;refine⟨lI,(ht (λb=>b<w.heap.size) (ZY F σ hp) w args (ao8 hs) (λ_ h=>h) (hs.mf.mono (λ_ _=>rfl) λ_ h=> .inl h) (Qn hs ha hv)).mono ?_⟩
  rintro e w' ⟨v,F',rfl,hm,fM,zb⟩
  obtain⟨s1,s2,s3⟩:=hs.ext (w':=w') (F':=F) hm.os hm.tape hm.output hm.size hm.qa (λ_ h=>h) (λ_ h=> .inl h) (λb hb=>Nat.lt_of_lt_of_le (hs.fb b hb) hm.size);exact⟨v,rfl,F,σ,s1,s2,s3,ac5 zb hn⟩
 ·rename_i hn;rw[if_neg hn];obtain⟨hz,hr⟩:=h;obtain⟨lI,ht⟩:=hC.p _ _ hr;obtain⟨F1,f1,r1⟩:=Qb hs ha hz;refine⟨lI,(ht (λb=>b<w.heap.size) F1 w args f1.1.fb (λ_ h=>h) f1.1.mf r1).mono ?_⟩
  rintro e w' ⟨v,F',rfl,hm,fM,zb⟩
  obtain⟨s1,s2,s3⟩:=f1.1.ext (w':=w') (F':=F') hm.os hm.tape hm.output hm.size hm.qa hm.mono (λb hb=>(hm.new b hb).imp id λh=>by omega) fM;exact⟨v,rfl,.Im f1 ⟨F',σ,s1,s2,s3,zb.bare⟩⟩
theorem mg(hf:jq F σ hp w fr a.tmps){xs:Array Operand}{ys:List DA}(h:gp xs.toList ys=true):dS (aB F σ hp w) (ys.map (·.ev fr)) (xs.map a.eval).toList:=by obtain⟨hl,hr⟩:=KS hf h;exact⟨by simpa using hl,λj d hd=>by simpa using hr j d hd⟩
theorem dS.append{R}{d1 d2}{v1 v2}(h1:dS R d1 v1)(h2:dS R d2 v2):dS R (d1++d2) (v1++v2):=
 ⟨by simp[h1.1,h2.1],λj d hd=>by
  rcases Nat.lt_or_ge j d1.length with hl|hl
  ·rw[List.getElem?_append_left hl]at hd;obtain⟨u,hu,hr⟩:=h1.2 j d hd;exact⟨u,by rw[List.getElem?_append_left (by rw[<-h1.1];exact hl)];exact hu,hr⟩
  ·rw[List.getElem?_append_right hl]at hd;obtain⟨u,hu,hr⟩:=h2.2 _ d hd;exact⟨u,by rw[List.getElem?_append_right (by rw[<-h1.1];exact hl),<-h1.1];exact hu,hr⟩⟩
end
theorem v8{hp t:List ak}{h:Nat}{o:ak}(e:hp[h]? =some o):(hp++t)[h]? =some o:=by rw[List.getElem?_append_left (List.getElem?_eq_some_iff.1 e).1,e]
theorem KO(t){hp}{d}(h:(bf hp d).pre):bf (hp++t) d=bf hp d:=by
 unfold bf at h|-;split at h<;>try rfl
 ·rename_i i L off len;cases hi:hp[i]? with
  |none=>simp[hi]at h
  |some o=>simp only[v8 hi]
theorem ahh(t){hp}{d}(h:(aI hp d).1):aI (hp++t) d=aI hp d:=by
 unfold aI at h|-;split at h<;>try rfl
 ·rename_i i L r j;cases hi:hp[i]? with
  |none=>simp[hi]at h
  |some o=>simp only[v8 hi]
theorem yd(t){hp}{h L}(k:alive hp h L):alive (hp++t) h L:=by
 unfold Nk.alive at k|-;cases hi:hp[h]? with
 |none=>simp[hi]at k
 |some o=>simpa only[v8 hi,hi]using k
theorem alW(t){hp}{sz}{d}(h:(bA sz (aI hp d)).1):bA sz (aI (hp++t) d)=bA sz (aI hp d):=by
 have:(aI hp d).1:=by cases sz<;>exact h.1
 rw[ahh t this]
theorem alX(t){hp}{d}{es}(h:fG hp d=some es):fG (hp++t) d=some es:=by
 unfold fG at h|-;cases d<;>simp only[reduceCtorEq]at h|-;rename_i k;cases hi:hp[k]? with
 |none=>simp[hi]at h
 |some o=>rw[v8 hi];rw[hi]at h;exact h
theorem V1(C)(d:aS)(fr)(hp t)(hk:d.kind=1)(h:(aw C d ⟨fr,hp⟩).pre):
 (aw C d ⟨fr,hp++t⟩).pre/\(aw C d ⟨fr,hp++t⟩).val=(aw C d ⟨fr,hp⟩).val/\(aw C d ⟨fr,hp++t⟩).hp=hp++t:=by
 cases d<;>simp only[aS.kind,reduceCtorEq,Nat.reduceEqDiff]at hk<;>simp only[aw]at h|-;case b2s x=>rw[KO t h.1];exact⟨h,by first|rfl|trivial,by first|rfl|trivial⟩
 case Fx m k=>
  cases he:fG hp (m.ev fr)with
  |none=>simp[he,no]at h
  |some es=>
   rw[he]at h;rw[alX t he];cases si:k.ev fr<;>simp only[si,no]at h|- <;>first|exact h.elim|exact⟨trivial,trivial,trivial⟩
 case len x=>
  split at h
  ·exact⟨trivial,rfl,rfl⟩
  ·exact⟨trivial,rfl,rfl⟩
  ·exact⟨yd t h,rfl,rfl⟩
  ·exact h.elim
 case PL x=>
  split at h
  ·exact⟨trivial,rfl,rfl⟩
  ·exact⟨trivial,rfl,rfl⟩
  ·exact⟨trivial,rfl,rfl⟩
  ·exact⟨yd t h,rfl,rfl⟩
  ·exact h.elim
 case load s x=>rw[alW t h];exact⟨h,by first|rfl|trivial,by first|rfl|trivial⟩
 case pY o x=>
  split at h
  ·exact⟨trivial,rfl,rfl⟩
  ·exact⟨yd t h,rfl,rfl⟩
  ·exact h.elim
 case p9 x=>
  split at h
  ·exact⟨yd t h,rfl,rfl⟩
  ·exact⟨trivial,rfl,rfl⟩
  ·exact⟨trivial,rfl,rfl⟩
  ·exact⟨trivial,rfl,rfl⟩
  ·exact h.elim
 case me n z x i=>
  split at h
  ·exact⟨h,rfl,rfl⟩
  ·exact⟨⟨yd t h.1,h.2⟩,rfl,rfl⟩
  ·exact h.elim
 case pZ z x i=>
  split at h
  ·exact⟨h,rfl,rfl⟩
  ·rename_i hh L off len k n e1 e2;cases hi:hp[hh]? with
   |none=>simp[hi,no]at h
   |some o=>simp only[hi,v8 hi]at h|-;exact⟨h,trivial,trivial⟩
  ·exact h.elim
 case slice z x a b c=>
  unfold nD at h|-;split at h
  ·exact⟨h,by first|rfl|trivial,by first|rfl|trivial⟩
  ·rename_i hh L off len e1;cases hi:hp[hh]? with
   |none=>simp[hi]at h
   |some o=>simp only[hi,v8 hi]at h|-;exact⟨h,trivial,trivial⟩
  ·exact⟨h,by first|rfl|trivial,by first|rfl|trivial⟩
  ·exact h.elim
end Go.Nk
