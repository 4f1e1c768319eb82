/- Arguments: what a reading of them says at the data level; that they read the same behind the call. -/
import Derived.Test.YtcokmopocppmiaaGreatNkQ
import Derived.Below
import Derived.ChangeSame
import Derived.ChangeReads
import Derived.ChangeArms
import Derived.Deep.Slices
import Derived.OpenShut
import Derived.Handed
import Derived.JoinedCond
import Derived.Calls
import Derived.Laws.BitsAllLaws
import Derived.Laws.Bits64
set_option linter.all false
namespace Go.Nk
open Go.RowKit Go.WideShapes Go.ChangeShapes Go.Deep
mutual
def DV.sz:DV->Nat
 | .str s=>s.length+1
 | .sl es=>Yn es+1
 | .ref cs=>ta cs+1
 | .agg cs=>ta cs+1
 |_=>1
def ta:List DV->Nat
 |[]=>0
 |d::r=>d.sz+ta r
def Yn:List (List DV)->Nat
 |[]=>0
 |d::r=>ta d+Yn r
end
theorem Fy:∀(a b:List DV),ta (a++b)=ta a+ta b
 |[],b=>by simp[ta]
 |x::a,b=>by simp[ta,Fy a b];omega
def RW:List (List DV)->Nat
 |[.int .i64 n]::es=>8*(es.length+1)
 |es=>es.length
theorem VT(es:List (List DV)):es.length<=RW es:=by unfold RW;split<;>(try simp only[List.length_cons])<;>omega
theorem acB:∀{es:List (List DV)},(∀r∈es,∀n,r≠[.int .i64 n])->RW es=es.length
 |[],_=>rfl
 |r::es,h=>by
  unfold RW;split
  ·rename_i n es' e;exact absurd (List.cons.inj e).1 (h r (by simp) n)
  ·rfl
theorem aoz(es:List (List DV)):RW es<=8*es.length:=by unfold RW;split<;>(try simp only[List.length_cons])<;>omega
mutual
def DV.lens:DV->List Nat
 | .str s=>[s.length]
 | .sl es=>RW es::Bk es
 | .ref cs=>fO cs
 | .agg cs=>fO cs
 |_=>[]
def fO:List DV->List Nat
 |[]=>[]
 |d::r=>d.lens++fO r
def Bk:List (List DV)->List Nat
 |[]=>[]
 |d::r=>fO d++Bk r
end
theorem pH:∀(a b:List DV),fO (a++b)=fO a++fO b
 |[],b=>by simp[fO]
 |x::a,b=>by simp[fO,pH a b]
theorem PM:∀{es:List (List DV)} {L:Nat},L∈Bk es->∃e∈es,L∈fO e
 |[],L,h=>by simp[Bk]at h
 |e::es,L,h=>by
  simp only[Bk,List.mem_append]at h;rcases h with h|h
  ·exact⟨e,by simp,h⟩
  ·obtain⟨e',h1,h2⟩:=PM h;exact⟨e',by simp[h1],h2⟩
def Fits(ls ws:List Nat):Prop:=∀L∈ls,L=0\/∃w∈ws,L<=w
theorem Fits.nil{ws}:Fits [] ws:=λ_ h=>by simp at h
theorem Fits.append{a b ws}(h1:Fits a ws)(h2:Fits b ws):Fits (a++b) ws:=λL h=>(List.mem_append.1 h).elim (h1 L) (h2 L)
theorem Fits.sub{a ws ws'}(h1:Fits a ws)(h:∀w∈ws,w∈ws'):Fits a ws':=λL hl=>(h1 L hl).imp id λ⟨w,a,b⟩=>⟨w,h w a,b⟩
def H9(P:Program):Nat->List Field->Bool
 |_,[]=>true
 |k,f::r=>f.offset==k&&H9 P (k+P.cellsOf f.type) r
def pI(P:Program):List Field->Nat
 |[]=>0
 |f::r=>P.cellsOf f.type+pI P r
def Zb(P:Program)(Ls:List TypeId)(t:TypeId):Bool:=
 match P.underlying t with
 |some (.int _)|some .bool|some .string=>true
 |some (.slice e)=>decide (0<P.cellsOf e)&&Ls.contains e&&decide (0<P.bytesOf e)&&(decide (8<=P.bytesOf e)||(match P.underlying e with|some (.int k)=>k != .i64|some .bool=>true|_=>false))
 |some (.pointer e)=>decide (0<P.cellsOf e)&&Ls.contains e
 |some (.array k e)=>decide (P.cellsOf t=k*P.cellsOf e)&&Ls.contains e
 |some (.struct fs)=>fs.toList.all (λf=>Ls.contains f.type)&&H9 P 0 fs.toList&&P.cellsOf t==pI P fs.toList
 |_=>false
def FB(P:Program)(Ls:List TypeId):Prop:=∀t∈Ls,Zb P Ls t=true
def au7(P:Program)(t:TypeId):List TypeId:=
 match P.underlying t with
 |some (.slice e)|some (.pointer e)|some (.array _ e)=>[e]
 |some (.struct fs)=>fs.toList.map (·.type)
 |_=>[]
def acC(P:Program):Nat->List TypeId->List TypeId->List TypeId
 |0,_,l=>l
 |_+1,[],l=>l
 |n+1,t::r,l=>if l.contains t then acC P n r l else acC P n (au7 P t++r) (t::l)
def agT(R:TypeId->List DV->Prop):List Field->List DV->Prop
 |[],ds=>ds=[]
 |f::fs,ds=>∃a b,ds=a++b/\R f.type a/\agT R fs b
def agU(R:List DV->Prop):Nat->List DV->Prop
 |0,ds=>ds=[]
 |k+1,ds=>∃a b,ds=a++b/\R a/\agU R k b
def Has(P:Program):Nat->TypeId->List DV->Prop
 |0,_,_=>False
 |n+1,t,ds=>
  match P.underlying t with
  |some (.int k)=>∃i,ds=[.int k i]/\(Lit.int k i).wf=true
  |some .bool=>∃b,ds=[.bool b]
  |some .string=>∃s,ds=[.str s]/\s.length<=maxLen
  |some (.slice e)=>∃es,ds=[.sl es]/\es.length<=maxLen/\∀x∈es,Has P n e x
  |some (.pointer e)=>ds=[.Ia]\/∃r,ds=[.ref r]/\Has P n e r
  |some (.struct fs)=>agT (Has P n) fs.toList ds
  |some (.array k e)=>agU (Has P n e) k ds
  |_=>False
structure aaY{H:Type}(B:DataW H->Nat)(BA:List (DataW H)->Nat):Prop where
 lit:∀l,1<=B (.lit l)
 str:∀s,s.length+1<=B (.lit (.string s))
 nil:1<=B .nil
 ptr:∀d,B d+1<=B (.ptr d)
 slice:∀a b,BA a+1<=B (.slice a b)
 agg:∀a,BA a<=B (.agg a)
 cons:∀d r,B d+BA r=BA (d::r)
section
variable {H:Type} {enc:TypeId×Value->H} {P:Program} {w:World} {B:DataW H->Nat} {BA:List (DataW H)->Nat}
abbrev MS(w:World):Nat->Prop:=λb=>b<w.heap.size
abbrev zH:Nat->Bool:=λ_=>true
theorem acD{es}{i j}{d}(h:cellAt es i j=some d):∃e,es[i]? =some e/\e[j]? =some d:=by
 unfold cellAt at h;cases he:es[i]? with
 |none=>simp[he]at h
 |some e=>exact⟨e,rfl,by simpa[he]using h⟩
theorem yR:∀(n:Nat) (t:TypeId) (ds:List DV),Has P n t ds->∀d∈ds,d.one=true
 |0,_,_,h=>h.elim
 |n+1,t,ds,h=>by
  unfold Has at h;split at h
  ·obtain⟨i,rfl,_⟩:=h;intro d hd;simp at hd;subst hd;rfl
  ·obtain⟨i,rfl⟩:=h;intro d hd;simp at hd;subst hd;rfl
  ·obtain⟨i,rfl,_⟩:=h;intro d hd;simp at hd;subst hd;rfl
  ·obtain⟨i,rfl,_⟩:=h;intro d hd;simp at hd;subst hd;rfl
  ·rcases h with rfl|⟨i,rfl,_⟩<;>intro d hd<;>simp at hd<;>subst hd<;>rfl
  ·rename_i fs _;have key:∀(fs:List Field) (ds:List DV),agT (Has P n) fs ds->∀d∈ds,d.one=true:=by
    intro fs;induction fs with
    |nil=>intro ds h d hd;simp only[agT]at h;subst h;simp at hd
    |cons f fs ih=>
     rintro ds ⟨a,b,rfl,ha,hb⟩ d hd
     rcases List.mem_append.1 hd with hd|hd
     ·exact yR n _ a ha d hd
     ·exact ih b hb d hd
   exact key _ _ h
  ·rename_i k e _;have key:∀(k:Nat) (ds:List DV),agU (Has P n e) k ds->∀d∈ds,d.one=true:=by
    intro k;induction k with
    |zero=>intro ds h d hd;simp only[agU]at h;subst h;simp at hd
    |succ k ih=>
     rintro ds ⟨a,b,rfl,ha,hb⟩ d hd
     rcases List.mem_append.1 hd with hd|hd
     ·exact yR n _ a ha d hd
     ·exact ih b hb d hd
   exact key _ _ h
  ·exact h.elim
def Rd(P:Program)(w:World)(n:Nat)(t:TypeId)(cs:List Value)(ds:List DV):Prop:=Has P n t ds/\dS (bY (MS w) w) ds cs
theorem xX{a:Addr}{n}{cs:List Value}(h:w.cells? 0 a n=some cs)(hn:0<n):a.spot=none/\a.block<w.heap.size/\cs.length=n/\∀i v,cs[i]? =some v->w.cell? ⟨a.block,a.off+i,none⟩=some v:=by
 obtain⟨_,hl,hc⟩:=World.cells?_some h;have h0:=hc 0 hn;rw[List.getElem?_eq_getElem (by omega)]at h0;have hs:a.spot=none:=by simpa[Addr.add]using World.cell?_spot h0
 refine⟨hs,World.cells?_block h hn,hl,λi v hv=> ?_⟩;have hi:=(List.getElem?_eq_some_iff.1 hv).1;have:=hc i (by omega);rw[hv]at this;rw[<-this];congr 1;obtain⟨b,o,sp⟩:=a;simp only at hs;subst hs;unfold Addr.add;split<;>simp_all
theorem Bl{e}{x}:∀{l:List (DataW H)} {d:DataW H},d∈l->x∈DataW.weights P e d->x∈DataW.weightsAll P e l
 |[],d,h,_=>by simp at h
 |a::l,d,h,hx=>by
  unfold DataW.weightsAll;rcases List.mem_cons.1 h with rfl|h
  ·exact List.mem_append.2 (.inl hx)
  ·exact List.mem_append.2 (.inr (Bl h hx))
theorem Zc{t e}{n}{cs}{x:DataW H×List MemPlace}(ht:P.underlying t=some (.slice e))(h:DataW.trod enc P w 0 zH true (n+1) t cs=some x):
 (cs=[.slice none 0 0]/\x=(.nil,[]))\/
 ∃(a:Addr) (len cap:Nat) (D:Nat->DataW H) (Pl:Nat->List MemPlace) (rest:List (DataW H×List MemPlace)) (ps:List MemPlace),cs=[.slice (some a) len cap]/\len<=cap/\cap<=maxLen/\rest.length=cap-len/\
  x=(.slice ((List.range len).map D) (rest.map (·.1)),ps)/\
  ∀i,i<len->∃PN,w.cells? 0 (a.add (i*P.cellsOf e)) (P.cellsOf e)=some PN/\DataW.trod enc P w 0 zH true n e PN=some (D i,Pl i):=by
 rcases DataW.trod_slice ht h with h0|⟨a,len,cap,elems,rest,m,hm,rfl,rfl,_,hl,hc,hlen,hel,WK,_⟩
 ·exact .inl h0
 have zX:n=m:=by omega
 subst zX;refine .inr ⟨a,len,cap,λi=>((elems[i]?).getD (.nil,[])).1,λi=>((elems[i]?).getD (.nil,[])).2,rest,_,rfl,hl,hc,(WK rfl).1,Prod.ext ?_ rfl,λi hi=> ?_⟩
 ·show DataW.slice (elems.map (·.1)) _=_;congr 1;refine List.ext_getElem (by simp[hlen]) λi h1 h2=> ?_;have:i<elems.length:=by simpa using h1
  simp[this]
 ·have h1:=hel i hi;have h2:i<elems.length:=by omega
  rw[List.getElem?_eq_getElem h2]at h1;obtain⟨PN,h3,h4⟩:=Option.bind_eq_some_iff.1 h1;exact⟨PN,h3,by rw[h4];simp[h2]⟩
theorem Bm(hB:aaY B BA){Ls}(hL:FB P Ls):∀(n:Nat) (t:TypeId) (cs:List Value) (x:DataW H×List MemPlace),t∈Ls->DataW.trod enc P w 0 zH true n t cs=some x->
 ∃ds,Rd P w n t cs ds/\ta ds<=B x.1/\Fits (fO ds) (DataW.weights P t x.1)
 |0,_,_,_,_,hx=>by simp[DataW.trod]at hx
 |n+1,t,cs,x,Lg,hx=>by
  have h:=hL t Lg;unfold Zb at h;split at h
  ·rename_i k hk
   ·unfold DataW.trod at hx;rw[hk]at hx;split at hx<;>simp_all;rename_i i _;obtain⟨⟨e1,e2⟩,e3⟩:=hx;subst e1;subst e3;refine⟨[.int _ i],⟨by unfold Has;rw[hk];exact⟨i,rfl,e2⟩,.ic (.int _ _) .kV⟩,by simpa[ta,DV.sz]using hB.lit _,by simpa[fO,DV.lens]using Fits.nil⟩
  ·rename_i hk
   ·unfold DataW.trod at hx;rw[hk]at hx;split at hx<;>simp_all;rename_i b;subst hx;exact⟨[.bool b],⟨by unfold Has;rw[hk];exact⟨b,rfl⟩,.ic (.bool _) .kV⟩,by simpa[ta,DV.sz]using hB.lit _,by simpa[fO,DV.lens]using Fits.nil⟩
  ·rename_i hk
   ·unfold DataW.trod at hx;rw[hk]at hx;split at hx<;>simp_all;rename_i s;obtain⟨e1,e3⟩:=hx;subst e3;refine⟨[.str s.data.toList],⟨by unfold Has;rw[hk];exact⟨_,rfl,(by show s.data.toList.length<=maxLen;rw[Array.length_toList];exact e1)⟩,.ic ?_ .kV⟩,by have:=hB.str s.data.toList;simp only[ta,DV.sz];omega,λL hL=> .inr ⟨L,by simpa[fO,DV.lens,DataW.weights]using hL,Nat.le_refl _⟩⟩;have:=bY.str (F:=MS w) (w:=w) s.data.toList;simpa using this
  ·rename_i e hk;simp only[Bool.and_eq_true,Bool.or_eq_true,decide_eq_true_eq]at h;obtain⟨⟨⟨h1q,he⟩,VU⟩,hb8⟩:=h;replace he:e∈Ls:=by simpa using he
   rcases Zc hk hx with⟨rfl,rfl⟩|⟨a,len,m,D,Pl,rest,ps,rfl,hl,hcm,Td,rfl,hi⟩
   ·refine⟨[.sl []],⟨by unfold Has;rw[hk];exact⟨[],rfl,by simp,by simp⟩,.ic ?_ .kV⟩,by simpa[ta,Yn,DV.sz]using hB.nil,λL hL=> .inl (by simpa[fO,DV.lens,Bk,RW]using hL)⟩;exact .sl [] none 0 0 ⟨0,0,none⟩ 0 (λ_ _=> .nilFunc) rfl (Nat.le_refl _) (by simp) (by simp) (by simp[cellAt]) (by simp[cellAt])
   ·have key:∀i:Nat,∃r:List Value×List DV,i<len->w.cells? 0 (a.add (i*P.cellsOf e)) (P.cellsOf e)=some r.1/\Rd P w n e r.1 r.2/\ta r.2<=B (D i)/\Fits (fO r.2) (DataW.weights P e (D i)):=by
     intro i;by_cases fM:i<len
     ·obtain⟨PN,h1,h2⟩:=hi i fM;obtain⟨ds,h3,h4,h5⟩:=Bm hB hL n e _ _ he h2;exact⟨(PN,ds),λ_=>⟨h1,h3,h4,h5⟩⟩
     ·exact⟨([],[]),λh=>absurd h fM⟩
    obtain⟨r,hr⟩:=Classical.axiomOfChoice key;let es:List (List DV):=(List.range len).map λi=>(r i).2;have VV:∀i e,es[i]? =some e->i<len/\e=(r i).2:=by intro i e he;simp only[es,List.getElem?_map,Option.map_eq_some_iff]at he;obtain⟨j,hj,rfl⟩:=he;obtain⟨fM,hj⟩:=List.getElem?_eq_some_iff.1 hj;simp at fM hj;exact⟨fM,by rw[<-hj]⟩
    have hcell:∀i j d,cellAt es i j=some d->∃u,(r i).1[j]? =some u/\bY (MS w) w d u/\w.cell? ⟨a.block,a.off+(i*P.cellsOf e+j),none⟩=some u/\d.one=true/\a.spot=none/\a.block<w.heap.size:=by
     intro i j d hd;obtain⟨row,h1,h2⟩:=acD hd;obtain⟨fM,rfl⟩:=VV i row h1;obtain⟨h3,⟨h4,h5⟩,_⟩:=hr i fM;obtain⟨u,hu,Cx⟩:=h5.2 j d h2;obtain⟨c1,c2,c3,c4⟩:=xX h3 h1q;obtain⟨hs,ar7⟩:a.spot=none/\a.block<w.heap.size:=by
      unfold Addr.add at c1 c2;split at c1
      ·rename_i h0;simp only[h0]at c2;exact⟨c1,c2⟩
      ·rename_i h0;have au8:0<m:=by omega
       obtain⟨_,g1,g2⟩:=hr 0 (by omega);obtain⟨k1,k2,_⟩:=xX (hr 0 (by omega)).1 h1q;simpa[Addr.add]using And.intro k1 k2
     refine⟨u,hu,Cx,?_,yR n e _ h4 d (List.mem_of_getElem? h2),hs,ar7⟩;have:=c4 j u hu;rw[<-this];obtain⟨ab,ao,asp⟩:=a;simp only at hs;subst hs;unfold Addr.add;split<;>simp_all [Nat.add_assoc]
    refine⟨[.sl es],⟨by
     unfold Has;rw[hk];refine⟨es,rfl,by simp[es];omega,λy hy=> ?_⟩;obtain⟨i,Gk,rfl⟩:=List.mem_map.1 hy;exact(hr i (by simpa using Gk)).2.1.1,.ic ?_ .kV⟩,?_,?_⟩
    ·refine .sl es (some a) len m a (P.cellsOf e) (λi j=>((r i).1[j]?).getD .nilFunc) (by simp[es]) hl (λbw=> ?_) (λi row pJ=> ?_) (λi j d hd=> ?_) (λi j d hd=> ?_)
     ·have sK:0<len:=by
       rcases Nat.eq_zero_or_pos len with h0|h0
       ·exfalso;apply bw;simp[es,h0]
       ·exact h0
      have hg:=(hr 0 sK).1;obtain⟨k1,k2,_⟩:=xX hg h1q;exact⟨rfl,by simpa[Addr.add]using k1,by simpa[Addr.add]using k2⟩
     ·obtain⟨fM,rfl⟩:=VV i row pJ;obtain⟨h3,⟨_,h5⟩,_⟩:=hr i fM;rw[h5.1];exact(xX h3 h1q).2.2.1
     ·obtain⟨u,hu,_,hc,ho,_⟩:=hcell i j d hd;exact⟨by rw[hc,hu];rfl,ho⟩
     ·obtain⟨u,hu,Cx,_⟩:=hcell i j d hd;rw[hu];exact Cx
    ·have aui:∀l:List Nat,(∀i∈l,i<len)->Yn (l.map λi=>(r i).2)<=BA (l.map D):=by
      intro l;induction l with
      |nil=>intro _;simp[Yn]
      |cons i l ih=>
       intro hl';have h1:=(hr i (hl' i (by simp))).2.2.1;have h2:=ih λj hj=>hl' j (by simp[hj]);have h3:=hB.cons (D i) (l.map D);simp only[List.map_cons,Yn];omega
     have:=aui (List.range len) (by simp);have h2:=hB.slice ((List.range len).map D) (rest.map (·.1));simp only[ta,DV.sz,es];omega
    ·intro L hL;simp only[fO,DV.lens,List.append_nil,List.mem_cons]at hL;unfold DataW.weights;simp only[hk];rcases hL with rfl|hL
     ·refine .inr ⟨_,by simp only[List.mem_cons];exact .inl rfl,?_⟩;simp only[List.length_map,List.length_range];have hel:es.length=len:=by simp[es]
      have hle:RW es<=len*P.bytesOf e:=by
       rcases hb8 with h8|h8
       ·refine Nat.le_trans (aoz es) ?_;rw[hel,Nat.mul_comm];exact Nat.mul_le_mul_left _ h8
       ·rw[acB,hel]
        ·exact Nat.le_trans (by omega) (Nat.mul_le_mul_left _ VU)
        ·intro r qB n' e';obtain⟨i,Gk,rfl⟩:=List.mem_map.1 qB;have hh:=(hr i (by simpa using Gk)).2.1.1;rw[e']at hh;cases n with
         |zero=>simp[Has]at hh
         |succ n=>
          unfold Has at hh;split at h8
          ·rename_i k' wS;simp only[wS]at hh;obtain⟨j,hj,_⟩:=hh;injection hj with hj _;injection hj with hj _;subst hj;simp at h8
          ·rename_i wS;simp only[wS]at hh;obtain⟨j,hj⟩:=hh;injection hj with hj _;cases hj
          ·cases h8
      exact Nat.le_trans hle (Nat.mul_le_mul_right _ (by omega))
     ·obtain⟨row,h1,h2⟩:=PM hL;obtain⟨i,Gk,rfl⟩:=List.mem_map.1 h1;have hi2:i<len:=by simpa using Gk
      rcases(hr i hi2).2.2.2 L h2 with h3|⟨x,h3,h4⟩
      ·exact .inl h3
      ·refine .inr ⟨x,List.mem_cons_of_mem _ (List.mem_append.2 (.inl (Bl (List.mem_map.2 ⟨i,Gk,rfl⟩) h3))),h4⟩
  ·rename_i e hk;simp only[Bool.and_eq_true,decide_eq_true_eq]at h;have he:e∈Ls:=by simpa using h.2
   rcases DataW.trod_pointer hk hx with⟨rfl,rfl⟩|⟨a,PN,y,m,zX,rfl,rfl,hc,hy⟩
   ·exact⟨[.Ia],⟨by unfold Has;rw[hk];exact .inl rfl,.ic .Ia .kV⟩,by simpa[ta,DV.sz]using hB.nil,by simpa[fO,DV.lens]using Fits.nil⟩
   ·have Ed:n=m:=by omega
    subst Ed;obtain⟨ds,⟨h1,h2⟩,h3,h4⟩:=Bm hB hL _ e _ _ he hy;obtain⟨c1,c2,c3,c4⟩:=xX hc h.1;refine⟨[.ref ds],⟨by unfold Has;rw[hk];exact .inr ⟨ds,rfl,h1⟩,.ic ?_ .kV⟩,by have:=hB.ptr y.1;simp only[ta,DV.sz];omega,by unfold DataW.weights;simp only[hk,fO,DV.lens,List.append_nil];exact h4⟩;refine .ref ds a (λj=>(PN[j]?).getD .nilFunc) c1 c2 (λj d hd=> ?_) (λj d hd=> ?_)
    ·obtain⟨u,hu,hr⟩:=h2.2 j d hd;exact⟨by rw[c4 j u hu,hu];rfl,yR n e _ h1 d (List.mem_of_getElem? hd)⟩
    ·obtain⟨u,hu,hr⟩:=h2.2 j d hd;rw[hu];exact hr
  ·rename_i k e hk;simp only[Bool.and_eq_true,decide_eq_true_eq]at h;have he:e∈Ls:=by simpa using h.2
   obtain⟨xs,m,zX,rfl,hcl,hxl,hf⟩:=DataW.trod_array hk hx;have Ed:n=m:=by omega
   subst Ed;have key:∀(j k:Nat) (ys:List (DataW H×List MemPlace)) (cs:List Value),ys.length=k->(j+k)*P.cellsOf e<=cs.length->
    (∀(i:Nat),i<k->DataW.trod enc P w 0 zH true n e ((cs.drop ((j+i)*P.cellsOf e)).take (P.cellsOf e))=ys[i]?)->
    ∃ds,agU (Has P n e) k ds/\dS (bY (MS w) w) ds ((cs.drop (j*P.cellsOf e)).take (k*P.cellsOf e))/\ta ds<=BA (ys.map (·.1))/\Fits (fO ds) (DataW.weightsAll P e (ys.map (·.1))):=by
    intro j k;induction k generalizing j with
    |zero=>intro ys cs _ _ _;exact⟨[],rfl,by simpa using dS.kV,by simp[ta],by simpa[fO]using Fits.nil⟩
    |succ k ih=>
     intro ys cs h3 h4 h5;match ys,h3 with
     |y::ys,h3=>
      have g:=h5 0 (by omega);simp only[List.getElem?_cons_zero,Nat.add_zero]at g;obtain⟨ds,⟨r1,r2⟩,r3,r7⟩:=Bm hB hL _ e _ _ he g;obtain⟨ds',r4,r5,r6,r8⟩:=ih (j+1) ys cs (by simpa using h3) (by rw[show j+1+k=j+(k+1) by omega];exact h4) (λi hi=>by have:=h5 (i+1) (by omega);rw[show j+1+i=j+(i+1) by omega];simpa using this)
      refine⟨ds++ds',⟨ds,ds',rfl,r1,r4⟩,?_,?_,by
       rw[pH];simp only[List.map_cons];unfold DataW.weightsAll;exact Fits.append (r7.sub λw hw=>List.mem_append.2 (.inl hw)) (r8.sub λw hw=>List.mem_append.2 (.inr hw))⟩
      ·have e:(cs.drop (j*P.cellsOf e)).take ((k+1)*P.cellsOf e)=(cs.drop (j*P.cellsOf e)).take (P.cellsOf e)++(cs.drop ((j+1)*P.cellsOf e)).take (k*P.cellsOf e):=by rw[show(k+1)*P.cellsOf e=P.cellsOf e+k*P.cellsOf e by rw[Nat.succ_mul,Nat.add_comm],List.take_add,List.drop_drop,show j*P.cellsOf e+P.cellsOf e=(j+1)*P.cellsOf e by rw[Nat.succ_mul]]
       rw[e];exact r2.append r5
      ·have:=hB.cons y.1 (ys.map (·.1));rw[Fy];simp only[List.map_cons];omega
   obtain⟨ds,r1,r2,r3,r9⟩:=key 0 k xs cs hxl (by rw[Nat.zero_add,hcl,h.1];exact Nat.le_refl _) (λi hi=>by rw[Nat.zero_add];exact hf i hi);refine⟨ds,⟨by unfold Has;rw[hk];exact r1,?_⟩,?_,by unfold DataW.weights;simp only[hk];exact r9⟩
   ·rw[Nat.zero_mul,List.drop_zero,List.take_of_length_le (by rw[hcl,h.1];exact Nat.le_refl _)]at r2;exact r2
   ·have:=hB.agg (xs.map (·.1));simp only;omega
  ·rename_i fs hk;simp only[Bool.and_eq_true,List.all_eq_true,beq_iff_eq]at h;have hfs:∀f∈fs.toList,f.type∈Ls:=λf hf=>by simpa using h.1.1 f hf
   obtain⟨xs,m,zX,rfl,hcl,hxl,hf⟩:=DataW.trod_struct hk hx;have Ed:n=m:=by omega
   subst Ed;have key:∀(fl:List Field) (k:Nat) (ys:List (DataW H×List MemPlace)) (cs:List Value),(∀f∈fl,f.type∈Ls)->H9 P k fl=true->ys.length=fl.length->k+pI P fl<=cs.length->
    (∀(i:Nat) (f:Field),fl[i]? =some f->DataW.trod enc P w 0 zH true n f.type ((cs.drop f.offset).take (P.cellsOf f.type))=ys[i]?)->
    ∃ds,agT (Has P n) fl ds/\dS (bY (MS w) w) ds ((cs.drop k).take (pI P fl))/\ta ds<=BA (ys.map (·.1))/\Fits (fO ds) (DataW.weightsEach P (fl.map (·.type)) (ys.map (·.1))):=by
    intro fl;induction fl with
    |nil=>intro k ys cs _ _ _ _ _;exact⟨[],rfl,by simpa[pI]using dS.kV,by simp[ta],by simpa[fO]using Fits.nil⟩
    |cons f fl ih=>
     intro k ys cs h1 h2 h3 h4 h5;match ys,h3 with
     |y::ys,h3=>
      simp only[H9,Bool.and_eq_true,beq_iff_eq]at h2;simp only[pI]at h4;have g:=h5 0 f rfl;simp only[List.getElem?_cons_zero]at g;rw[h2.1]at g;obtain⟨ds,⟨r1,r2⟩,r3,r7⟩:=Bm hB hL _ f.type _ _ (h1 f (by simp)) g;obtain⟨ds',r4,r5,r6,r8⟩:=ih (k+P.cellsOf f.type) ys cs (λf' Zd=>h1 f' (by simp[Zd])) h2.2 (by simpa using h3) (by omega) (λi f' Zd=>by simpa using h5 (i+1) f' (by simpa using Zd));refine⟨ds++ds',⟨ds,ds',rfl,r1,r4⟩,?_,?_,by
       rw[pH];simp only[List.map_cons];unfold DataW.weightsEach;exact Fits.append (r7.sub λw hw=>List.mem_append.2 (.inl hw)) (r8.sub λw hw=>List.mem_append.2 (.inr hw))⟩
      ·have e:(cs.drop k).take (pI P (f::fl))=(cs.drop k).take (P.cellsOf f.type)++(cs.drop (k+P.cellsOf f.type)).take (pI P fl):=by simp only[pI];rw[List.take_add,List.drop_drop]
       rw[e];exact r2.append r5
      ·have:=hB.cons y.1 (ys.map (·.1));rw[Fy];simp only[List.map_cons];omega
   obtain⟨ds,r1,r2,r3,r9⟩:=key fs.toList 0 xs cs hfs h.1.2 (by simpa using hxl) (by omega) (λi f hi=>hf i f (by simpa using hi));refine⟨ds,⟨by unfold Has;rw[hk];exact r1,?_⟩,?_,by unfold DataW.weights;simp only[hk];exact r9⟩
   ·rw[List.drop_zero,List.take_of_length_le (by omega)]at r2;exact r2
   ·have:=hB.agg (xs.map (·.1));simp only;omega
  ·cases h
end
end Go.Nk
set_option linter.all false
namespace Go.Nk
open Go.RowKit Go.WideShapes Go.ChangeShapes Go.Deep
section
variable {H:Type} {enc:TypeId×Value->H} {P:Program} {w w':World}
theorem uA{sp}{Ls}(hL:FB P Ls):∀(fuel:Nat) (t:TypeId) (cs:List Value) (x:DataW H×List MemPlace),t∈Ls->DataW.trod enc P w 0 zH true fuel t cs=some x->
 (∀p∈x.2,sp p.block=true)->DataW.trod enc P w 0 sp true fuel t cs=some x
 |0,t,cs,x,_,hx,_=>by simp[DataW.trod]at hx
 |m+1,t,cs,x,Lg,hx,hs=>by
  have h:=hL t Lg;unfold Zb at h;rw[DataW.trod_step]at hx|-;unfold DataW.trodStep at hx|-;split at h
  ·rename_i k hk;rw[hk]at hx|-;split at hx<;>simp_all
  ·rename_i hk;rw[hk]at hx|-;split at hx<;>simp_all
  ·rename_i hk;rw[hk]at hx|-;split at hx<;>simp_all
  ·rename_i e hk;simp only[Bool.and_eq_true,decide_eq_true_eq]at h;have heL:e∈Ls:=by simpa using h.1.1.2
   rw[hk]at hx|-;split at hx<;>rename_i wS<;>try(first|(cases wS;done)|(cases hx;done))
   ·cases wS;exact hx
   ·rename_i e' a len cap;cases wS;simp only at hx|-;split at hx
    ·rename_i hc;rw[if_pos hc];simp only[if_true,Option.map_eq_some_iff,Option.bind_eq_some_iff]at hx|-;obtain⟨elems,he,rest,Td,rfl⟩:=hx;have one:∀(i:Nat) (y:DataW H×List MemPlace),y∈elems++rest->
      (w.cells? 0 (a.add (i*P.cellsOf e)) (P.cellsOf e)).bind (DataW.trod enc P w 0 zH true m e)=some y->(w.cells? 0 (a.add (i*P.cellsOf e)) (P.cellsOf e)).bind (DataW.trod enc P w 0 sp true m e)=some y:=by
      intro i y hy hv;simp only[Option.bind_eq_some_iff]at hv|-;obtain⟨PN,jg,hy'⟩:=hv;refine⟨PN,jg,uA hL m e PN y heL hy' λp hp=>hs p ?_⟩;simp only[List.mem_append,List.mem_flatMap];right;exact⟨y,by simpa using hy,hp⟩
     refine⟨elems,mapM_carry he (λi y hi hy=>one i y (by simp[hy])),rest,?_,rfl⟩;by_cases WK:sp a.block=true
     ·rw[if_pos WK];exact mapM_carry Td (λj y hj hy=>one (len+j) y (by simp[hy]))
     ·rw[if_neg WK];have h0:(elems.length+rest.length)*P.cellsOf e=0:=by
       rcases Nat.eq_zero_or_pos ((elems.length+rest.length)*P.cellsOf e)with h0|h0
       ·exact h0
       ·exact absurd (hs (.cell a.block (a.off+0)) (by simp only[List.mem_append];left;exact MemPlace.mem_row.2 ⟨0,h0,rfl⟩)) WK
      have:elems.length+rest.length=0:=by
       rcases Nat.mul_eq_zero.1 h0 with h1|h1
       ·exact h1
       ·omega
      have:rest=[]:=List.eq_nil_of_length_eq_zero (by omega);rw[this]
    ·cases hx
  ·rename_i e hk;simp only[Bool.and_eq_true,decide_eq_true_eq]at h;have he:e∈Ls:=by simpa using h.2
   rw[hk]at hx|-;split at hx<;>rename_i wS<;>try(first|(cases wS;done)|(cases hx;done))
   ·cases wS;exact hx
   ·rename_i e' a;cases wS;simp only[Option.map_eq_some_iff,Option.bind_eq_some_iff]at hx|-;obtain⟨y,⟨PN,hc,hy⟩,rfl⟩:=hx;exact⟨y,⟨PN,hc,uA hL m e PN y he hy (λp hp=>hs p (by simp[hp]))⟩,rfl⟩
  ·rename_i k e hk;simp only[Bool.and_eq_true,decide_eq_true_eq]at h;have he:e∈Ls:=by simpa using h.2
   rw[hk]at hx|-;simp only at hx|-;split at hx
   ·rename_i hc;simp only[if_pos hc,Option.map_eq_some_iff]at hx|-;obtain⟨xs,hx,rfl⟩:=hx;exact⟨xs,mapM_carry hx (λf y hf hy hv=>uA hL m e _ y he hv (λp hp=>hs p (List.mem_flatMap.2 ⟨y,hy,hp⟩))),rfl⟩
   ·cases hx
  ·rename_i fs hk;simp only[Bool.and_eq_true,List.all_eq_true,beq_iff_eq]at h;have hfs:∀f∈fs.toList,f.type∈Ls:=λf hf=>by simpa using h.1.1 f hf
   rw[hk]at hx|-;simp only at hx|-;split at hx
   ·rename_i hc;simp only[if_pos hc,Option.map_eq_some_iff]at hx|-;obtain⟨xs,hx,rfl⟩:=hx;exact⟨xs,mapM_carry hx (λf y hf hy hv=>uA hL m f.type _ y (hfs f hf) hv (λp hp=>hs p (List.mem_flatMap.2 ⟨y,hy,hp⟩))),rfl⟩
   ·cases hx
  ·cases h
theorem acE{sp}{Ls}(hL:FB P Ls){t}{v}{d:DataW H}{ps}(lI:t∈Ls)(h:DataW.Trod enc P w 0 zH true t v d ps)
 (hb:Below w.heap.size w w') (hs:∀p∈ps,sp p.block=true):DataW.Trod enc P w' 0 sp true t v d ps:=by
 obtain⟨m,hm⟩:=h;refine⟨m,?_⟩;have fM:=DataW.trod_lt _ _ _ _ hm;exact DataW.trod_carry _ _ _ _ (uA hL m t _ _ lI hm hs) λp hp=>hb.same (fM p hp)
def akZ(P:Program)(ts:List TypeId):Bool:=(λLs=>ts.all (λt=>Ls.contains t)&&Ls.all λt=>Zb P Ls t) (acC P 300 ts [])
theorem ak0{ts}(h:akZ P ts=true):∃Ls,FB P Ls/\∀t∈ts,t∈Ls:=by simp only[akZ,Bool.and_eq_true,List.all_eq_true]at h;exact⟨_,λt ht=>h.2 t ht,λt ht=>by simpa using h.1 t ht⟩
theorem DI{sp}{Ls}(hL:FB P Ls)(hb:Below w.heap.size w w'):∀{ts:List TypeId} {vs:List Value} {ds:List (DataW H)} {ps:List MemPlace},(∀t∈ts,t∈Ls)->DataW.TrodAll enc P w 0 zH true ts vs ds ps->
 (∀p∈ps,sp p.block=true)->DataW.TrodAll enc P w' 0 sp true ts vs ds ps
 |[],_,_,_,_,h,_=>by obtain⟨rfl,rfl,rfl⟩:=trodAll_nil h;exact trodAll_mk0
 |t::ts,_,_,_,hk,h,hs=>by obtain⟨v,vs,d,ds,a,b,rfl,rfl,rfl,h1,h2⟩:=trodAll_cons h;exact trodAll_cons_mk (acE hL (hk t (by simp)) h1 hb λp hp=>hs p (by simp[hp])) (DI hL hb (λu hu=>hk u (by simp[hu])) h2 λp hp=>hs p (by simp[hp]))
def ak1(P:Program)(t:TypeId)(d:DV):Prop:=
 match P.underlying t with
 |some (.struct _)=>∃ds,d= .agg ds/\∃n,Has P n t ds
 |some (.array _ _)=>∃ds,d= .agg ds/\∃n,Has P n t ds
 |_=>∃n,Has P n t [d]
def bI:Nat:=140737488355328
def Small(d:DV):Prop:=∀L∈d.lens,L<=bI
def acF(P:Program)(t:TypeId)(d:DV):Prop:=ak1 P t d/\Small d
def Jh(P:Program):List TypeId->List DV->Prop
 |[],ds=>ds=[]
 |t::ts,ds=>∃d r,ds=d::r/\acF P t d/\Jh P ts r
theorem ar8{B:DataW H->Nat}{BA:List (DataW H)->Nat}(hB:aaY B BA){Ls:List TypeId}(hL:FB P Ls){t:TypeId}{v:Value}{d:DataW H}{ps:List MemPlace}{base:Nat}(hval:Value.okWide P w .any base t v)(lI:t∈Ls)(h:DataW.Trod enc P w 0 zH true t v d ps)(hw:∀x∈DataW.weights P t d,x<=reachBytes):
 ∃dv,acF P t dv/\aB (MS w) none_ [] w dv v/\dv.sz<=B d+1:=by
 obtain⟨m,hm⟩:=h;obtain⟨ds,⟨h1,h2⟩,h3,h4⟩:=Bm hB hL m t _ _ lI hm;have zS:∀L∈fO ds,L<=bI:=by
  intro L hL;rcases h4 L hL with rfl|⟨x,h5,h6⟩
  ·exact Nat.zero_le _
  ·have:=hw x h5;simp only[reachBytes,bI]at this|-;omega
 unfold acF ak1;split
 ·rename_i fs hk;simp only[Value.okWide,hk]at hval;obtain⟨cs,rfl,_,_⟩:=hval;refine⟨.agg ds,⟨⟨ds,rfl,m,h1⟩,by simpa[Small,DV.lens]using zS⟩,aB.uB (by simpa[Value.cells]using h2.1) λj d hd=> ?_,by simp only[DV.sz]at h3|-;omega⟩;obtain⟨u,hu,hr⟩:=h2.2 j d hd;exact⟨u,by simpa[Value.cells]using hu,.aN hr⟩
 ·rename_i k e hk;simp only[Value.okWide,hk]at hval;obtain⟨cs,rfl,_,_⟩:=hval;refine⟨.agg ds,⟨⟨ds,rfl,m,h1⟩,by simpa[Small,DV.lens]using zS⟩,aB.uB (by simpa[Value.cells]using h2.1) λj d hd=> ?_,by simp only[DV.sz]at h3|-;omega⟩;obtain⟨u,hu,hr⟩:=h2.2 j d hd;exact⟨u,by simpa[Value.cells]using hu,.aN hr⟩
 ·rename_i hk si;have one:ds.length=1/\v.cells.toList=[v]:=by
   have hc:∀cs,v≠ .agg cs:=by intro cs hv;subst hv;have lI:=hL t lI;unfold Zb at lI;split at lI<;>rename_i wS<;>simp_all [Value.okWide,Cell.okWide,Cell.ok]
   have hl:v.cells.toList=[v]:=by cases v<;>first|rfl|exact absurd rfl (hc _)
   exact⟨by rw[h2.1,hl];rfl,hl⟩
  match ds,one.1 with
  |[dv],_=>
   rw[one.2]at h2;obtain⟨u,us,e,hr,_⟩:=h2.cons;cases e;exact⟨dv,⟨⟨m,h1⟩,by simpa[Small,fO]using zS⟩,.aN hr,by simp only[ta]at h3;omega⟩
theorem aeP{B:DataW H->Nat}{BA}(hB:aaY B BA){Ls}(hL:FB P Ls){base}:∀{ts:List TypeId} {vs:List Value} {ds:List (DataW H)} {ps:List MemPlace},
 (∀(j:Nat) t v,ts[j]? =some t->vs[j]? =some v->Value.okWide P w .any base t v)->(∀t∈ts,t∈Ls)->DataW.TrodAll enc P w 0 zH true ts vs ds ps->(∀x∈DataW.weightsEach P ts ds,x<=reachBytes)->
 ∃I7,Jh P ts I7/\dS (aB (MS w) none_ [] w) I7 vs/\ta I7<=BA ds+ts.length
 |[],_,_,_,_,_,h,_=>by obtain⟨rfl,rfl,rfl⟩:=trodAll_nil h;exact⟨[],rfl,.kV,by simp[ta]⟩
 |t::ts,_,_,_,hv,hk,h,hw=>by obtain⟨v,vs,d,ds,a,b,rfl,rfl,rfl,h1,h2⟩:=trodAll_cons h;unfold DataW.weightsEach at hw;obtain⟨dv,r1,r2,r3⟩:=ar8 hB hL (hv 0 t v rfl rfl) (hk t (by simp)) h1 λx hx=>hw x (List.mem_append.2 (.inl hx));obtain⟨I7,r4,r5,r6⟩:=aeP hB hL (λj t v h h'=>hv (j+1) t v h h') (λu hu=>hk u (by simp[hu])) h2 λx hx=>hw x (List.mem_append.2 (.inr hx));exact⟨dv::I7,⟨dv,I7,rfl,r1,r4⟩,.ic r2 r5,by have:=hB.cons d ds;simp only[ta,List.length_cons];omega⟩
theorem PO{F'}(h:iw (MS w) (MS w) w F' w'):Below w.heap.size w w':=⟨h.os,h.tape,h.output,h.size,λk hk=>h.qa k hk⟩
theorem RX{f:Func}{s:ChangeSpec}{apart fresh handsOn again}{W W':World}{args:Array Value}{v:Value}{ds gs}{before pa pv}
 (hW:DataW.Whole enc P f.params.toList s.vars apart W args.toList ds gs before)
 (KD:∀(b:Nat) (sp:Nat->Bool) (hd:Bool),DataW.TrodAll enc P W' b sp hd f.resultTypes.toList (v.resultList f.resultTypes.size) (s.fn H (ds++gs)).results [])
 (kJ:∀sp:Nat->Bool,(∀p∈before,sp p.block=true)->DataW.TrodAll enc P W' 0 sp true f.params.toList args.toList (s.fn H (ds++gs)).args pa)
 (Te:∀sp:Nat->Bool,(∀p∈before,sp p.block=true)->DataW.TrodVars enc P W' sp s.vars (s.fn H (ds++gs)).vars pv)
 (z8:before=pa++pv) (hb:Below W.heap.size W W')
 (lI:∀(j:Nat) (t:TypeId) (r:Value),f.resultTypes[j]? =some t->(v.resultList f.resultTypes.size)[j]? =some r->Value.okWide P W' .any 0 t r):
 s.post enc P f apart fresh handsOn again W args v W':=by
 have fM:∀p∈before,p.block<W.heap.size:=λp hp=>hW.lt p hp;have hold:∀p∈before,(λb=>decide (b<W.heap.size)) p.block=true:=λp hp=>by simpa using fM p hp
 refine⟨ds,gs,before,[],pa,pv,hW,KD _ _ _,kJ _ hold,Te _ hold,World.keptBut_mono (λp hp=>⟨hp,?_⟩) (hb.frame (·∈before)),λ_=> ?_⟩
 ·rw[z8,List.mem_append]at hp;exact Or.inr hp
 ·obtain⟨_,_,_,_,_,hz,hn⟩:=hW;refine⟨lI,_,_,([]++pa)++pv,⟨[]++pa,pv,trodAll_append (kJ _ (λ_ _=>rfl)) (KD _ _ _),Te _ (λ_ _=>rfl),rfl,?_,?_⟩,?_⟩
  ·intro b off hp;have Lg:MemPlace.cell b off∈before:=by rw[z8];simpa using hp
   rw[hb.frozen (fM _ Lg)];exact hz b off Lg
  ·intro ha;have:=hn ha;rw[z8]at this;simpa using this
  ·intro p hp _;rw[z8];simpa using hp
theorem yj [Inhabited Env]{f}{fn:Func}{s:ChangeSpec}{apart fresh handsOn again}{tb}{B:DataW H->Nat}{BA}(hB:aaY B BA)
 (hp:akZ P fn.params.toList=true) (hr:fn.resultTypes= #[tb]) (hb:P.underlying tb=some .bool) (Te:s.vars=[])
 {W} {base} {args:Array Value} {ds gs} {before}
 (hs:∀l:List (DataW H),l.length=fn.params.size->(s.fn H l).results=[.lit (.bool true)]/\(s.fn H l).args=l/\(s.fn H l).vars=[])
 (hval:∀(j:Nat) t v,fn.params[j]? =some t->args[j]? =some v->Value.okWide P W .any base t v)
 (hW:DataW.Whole enc P fn.params.toList s.vars apart W args.toList ds gs before)
 (iP:(DataW.weightsEach P (fn.params.toList++s.plain.varTypes P) (ds++gs)).all (·<=reachBytes)=true)
 (hX:XF (MS W) W)
 (law:∀I7,Jh P fn.params.toList I7->ta I7<=BA (ds++gs)+fn.params.size->Ai P f I7 (.bool true)):
 Calls P f args W λe W'=>∃v,e= .returned v/\s.post enc P fn apart fresh handsOn again W args v W':=by
 have hW':=hW;obtain⟨p,q,hA,hV,rfl,hfz,hnd⟩:=hW;rw[Te]at hV;obtain⟨rfl,rfl⟩:=trodVars_none hV;have hvt:s.plain.varTypes P=[]:=by have:s.plain.vars=[]:=Te;simp[DataSpec.varTypes,this]
 rw[hvt,List.append_nil,List.append_nil]at iP;simp only[List.all_eq_true,decide_eq_true_eq]at iP;obtain⟨Ls,hL,hp⟩:=ak0 hp;obtain⟨I7,h1,h2,h3⟩:=aeP hB hL (λj t v a b=>hval j t v (by simpa using a) (by simpa using b)) hp hA iP;have hlen:∀{ts:List TypeId} {vs:List Value} {ds:List (DataW H)} {ps:List MemPlace},DataW.TrodAll enc P W 0 zH true ts vs ds ps->ds.length=ts.length:=by
  intro ts;induction ts with
  |nil=>intro vs ds ps h;obtain⟨rfl,rfl,rfl⟩:=trodAll_nil h;rfl
  |cons t ts ih=>intro vs ds ps h;obtain⟨v,vs,d,ds,a,b,rfl,rfl,rfl,h1,h2⟩:=trodAll_cons h;simp[ih h2]
 have hl:=hlen hA;obtain⟨s1,s2,s3⟩:=hs (ds++[]) (by simpa using hl);refine(law I7 h1 (by simpa using h3) (MS W) (MS W) W args (λ_ h=>h) (λ_ h=>h) hX h2).mono ?_
 rintro e W' ⟨v,F',rfl,hm,_,hv⟩
 have e1:=hv.iO;subst e1;have au9:=PO hm;refine⟨_,rfl,RX (pa:=p) (pv:=[]) hW' (λb sp hd=> ?_) (λsp h=> ?_) (λsp _=> ?_) (by simp) au9 (ok_one hr rfl (okWide_bool_mk hb _))⟩
 ·rw[hr,s1];exact trodAll_cons_mk (shut_bool hb _) trodAll_mk0
 ·rw[s2,List.append_nil];exact DI hL au9 hp hA λp hp=>h p (by simpa using hp)
 ·rw[Te,s3];exact rfl
end
end Go.Nk
set_option linter.all false
namespace Go.Nk
def jL.nil:jL:=⟨λ_ _=>(False,.undef),λ_ _ _=>no,λ_ _=>(False,[]),λ_ _=>(False,[])⟩
theorem qv{C}{h0}:∀(c:au) (Q Q':cq->DS->Prop) (s:DS),(∀e s,Q e s->Q' e s)->gO C h0 c Q s->gO C h0 c Q' s:=by
 have ak2:∀(l:List ae) (s:DS) (K K':DS->Prop),(∀s,K s->K' s)->lG C l s K->lG C l s K':=by
  intro l;induction l with
  |nil=>intro s K K' h hk;exact h _ hk
  |cons o r ih=>
   intro s K K' h hk;unfold lG pK at hk|-;split at hk
   ·exact⟨hk.1,ih _ _ _ h hk.2⟩
   ·split at hk
    ·split at hk
     ·rename_i e;rw[if_pos e];exact⟨hk.1,ih _ _ _ h hk.2⟩
     ·rename_i e;rw[if_neg e];exact ih _ _ _ h hk
    ·exact ih _ _ _ h hk
    ·exact hk.elim
 intro c;induction c generalizing h0 with
 |skip=>intro Q Q' s h hq;exact h _ _ hq
 |ops d l=>intro Q Q' s h hq;exact ak2 l s _ _ (h .normal) hq
 |MR gg l=>intro Q Q' s h hq;exact⟨hq.1,ak2 _ s _ _ (h .normal) hq.2⟩
 |MQ l=>intro Q Q' s h hq;exact ak2 _ s _ _ (h .normal) hq
 |seq a b iha ihb=>
  intro Q Q' s h hq;refine iha _ _ s (λe s' hh=> ?_) hq;cases e with
  |normal=>exact ihb _ _ s' h hh
  |exit id=>exact h _ _ hh
  |ret=>exact h _ _ hh
 |cond x a b iha ihb=>
  intro Q Q' s h hq;unfold gO at hq|-;split at hq
  ·exact⟨λe=>iha _ _ s h (hq.1 e),λe=>ihb _ _ s h (hq.2 e)⟩
  ·exact⟨iha _ _ s h hq.1,ihb _ _ s h hq.2⟩
  ·exact hq.elim
 |block id c ih=>
  intro Q Q' s h hq;refine ih _ _ s (λe s' hh=> ?_) hq;cases e with
  |normal=>exact h _ _ hh
  |exit k=>
   simp only[cq.inBlock]at hh|-;split at hh
   ·rename_i e;rw[if_pos e];exact h _ _ hh
   ·rename_i e;rw[if_neg e];exact h _ _ hh
  |ret=>exact h _ _ hh
 |loop live m c ih=>
  intro Q Q' s h hq;obtain⟨h1,I,μ,h2,h3⟩:=hq;refine⟨h1,I,μ,h2,λs' um=>ih _ _ s' (λe Tf hh=> ?_) (h3 s' um)⟩;cases e with
  |normal=>exact hh
  |exit id=>exact h _ _ hh
  |ret=>exact h _ _ hh
 |H7 t off z c ih=>
  intro Q Q' s h hq;unfold gO at hq|-;split at hq
  ·split at hq
   ·exact hq.elim (λx=> .inl ⟨x.1,ih _ _ _ h x.2⟩) (λx=> .inr (ih _ _ _ h x))
   ·exact hq.elim
  ·exact hq.elim
 |scope c ih=>intro Q Q' s h hq;exact ih _ _ _ h hq
 |rsv c ih=>intro Q Q' s h hq;exact ih _ _ _ h hq
 |bad=>intro Q Q' s h hq;exact hq.elim
 |qu live m g ps Ib c ihA ih=>
  intro Q Q' s h hq;unfold gO at hq|-;obtain⟨h1,hq⟩:=hq;refine⟨h1,?_⟩;split at hq
  ·obtain⟨h2,h3,I,h4,h5,h6⟩:=hq;refine⟨h2,h3,I,h4,λk x hp hi hx=>⟨(h5 k x hp hi hx).1,ihA _ _ _ (λe s1 hA=> ?_) (h5 k x hp hi hx).2⟩,λhp hi=>h _ _ (h6 hp hi)⟩;cases e with
   |exit id=>exact hA
   |ret=>exact hA
   |normal=>
   refine ih _ _ _ (λe s' hh=> ?_) hA;cases e with
   |normal=>exact hh
   |exit id=>exact h _ _ hh
   |ret=>exact h _ _ hh
  ·exact hq.elim
 |cut live m c ih=>intro Q Q' s h hq;exact⟨hq.1,ih _ _ _ h hq.2⟩
 |exit id=>intro Q Q' s h hq;exact h _ _ hq
 |ret=>intro Q Q' s h hq;exact h _ _ hq
theorem gT{C}{h0}{live}{m}{c}{Q}{s:DS}{α}(st:α->DS)(Inv:α->Prop)(μ:α->Nat)(a0:α)
 (hm:match m with|some k=>h0<=k|none=>True) (hs:s.cut live m=st a0) (hi:Inv a0)
 (step:∀a,Inv a->gO C h0 c (cq.then (λs'=>∃a',s'.cut live m=st a'/\Inv a'/\μ a'<μ a) Q) (st a)):gO C h0 (.loop live m c) Q s:=by
 classical
 have ava:= @qv C h0;let has:DS->Nat->Prop:=λs n=>∃a,s=st a/\Inv a/\μ a=n;have yS:∀s:DS,∃k,(∃n,has s n)->has s k/\∀m,has s m->k<=m:=by
  intro s;by_cases hx:∃n,has s n
  ·obtain⟨n,hn⟩:=hx;induction n using Nat.strongRecOn with
   |_ n ih=>
    by_cases hy:∃m,m<n/\has s m
    ·obtain⟨m,h1,h2⟩:=hy;exact ih m h1 h2
    ·exact⟨n,λ_=>⟨hn,λm hm=>by
      rcases Nat.lt_or_ge m n with h|h
      ·exact absurd ⟨m,h,hm⟩ hy
      ·exact h⟩⟩
  ·exact⟨0,λh=>absurd h hx⟩
 obtain⟨least,yS⟩:=Classical.axiomOfChoice yS;refine⟨hm,λs=>∃n,has s n,least,⟨μ a0,a0,hs,hi,rfl⟩,λs' um=> ?_⟩;have hl:has s' (least s'):=(yS s' um).1;obtain⟨a,rfl,h1,h2⟩:=hl;refine ava c _ _ _ (λe Tf hh=> ?_) (step a h1);cases e with
 |normal=>
  obtain⟨a',e1,e2,e3⟩:=hh;have hx:∃n,has (Tf.cut live m) n:=⟨μ a',a',e1,e2,rfl⟩;refine⟨hx,?_⟩;have:least (Tf.cut live m)<=μ a':=(yS _ hx).2 _ ⟨a',e1,e2,rfl⟩;omega
 |exit id=>exact hh
 |ret=>exact hh
section
variable {C:jL} {h0:Nat} {Q:cq->DS->Prop} {s:DS}
theorem YR:gO C h0 .skip Q s=Q .normal s:=rfl
theorem aex{b:Bool}{l:List ae}:gO C h0 (.ops b l) Q s=lG C l s (Q .normal):=rfl
theorem YQ{gg:List (Nat×Nat)}{l:List (Nat×ae)}:gO C h0 (.MR gg l) Q s=(Lz gg s.fr/\lG C (l.map (·.2)) s (Q .normal)):=rfl
theorem YP{l:List (Nat×ae)}:gO C h0 (.MQ l) Q s=lG C (l.map (·.2)) s (Q .normal):=rfl
theorem aeA{a b:au}:gO C h0 (.seq a b) Q s=gO C h0 a (cq.then (gO C h0 b Q) Q) s:=rfl
theorem S3{id:Nat}{c:au}:gO C h0 (.block id c) Q s=gO C h0 c (cq.inBlock id Q) s:=rfl
theorem agV{c:au}:gO C h0 (.scope c) Q s=gO C h0 c Q s:=rfl
theorem aez{c:au}:gO C h0 (.rsv c) Q s=gO C h0 c Q ⟨s.fr,s.hp++[⟨.dead,0,[]⟩]⟩:=rfl
theorem yI{live:List Nat}{m:Option Nat}{c:au}:gO C h0 (.cut live m c) Q s=((match m with|some k=>h0<=k|none=>True)/\gO C h0 c Q (s.cut live m)):=rfl
theorem ak3{t off z}{c}:gO C h0 (.H7 t off z c) Q s=(match get t s.fr with
 | .ptr h L i j=>match s.hp[h]? with
   |some o=>((o.k= .loc/\o.es.length=L/\i<L/\(o.es.getD i [])[j+off]? =some .nil)/\
    gO C h0 c Q ⟨s.fr,s.hp.set h {o with es:=o.es.set i ((o.es.getD i []).set (j+off) (.own s.hp.length 0 0 0))}++[⟨.aN,z,[]⟩]⟩)\/gO C h0 c Q s
   |none=>False
 |_=>False):=rfl
theorem qF{t off z}{c}(h:match get t s.fr with
 | .ptr h L i j=>match s.hp[h]? with
   |some o=>(o.k= .loc/\o.es.length=L/\i<L/\(o.es.getD i [])[j+off]? =some .nil)/\
    gO C h0 c Q ⟨s.fr,s.hp.set h {o with es:=o.es.set i ((o.es.getD i []).set (j+off) (.own s.hp.length 0 0 0))}++[⟨.aN,z,[]⟩]⟩
   |none=>False
 |_=>False):gO C h0 (.H7 t off z c) Q s:=by
 rw[ak3];split at h
 ·split at h
  ·exact .inl h
  ·exact h.elim
 ·exact h.elim
theorem YO{id:Nat}:gO C h0 (.exit id) Q s=Q (.exit id) s:=rfl
theorem aey:gO C h0 .ret Q s=Q .ret s:=rfl
theorem br{c:DA}{a b}:gO C h0 (.cond c a b) Q s=(match c.ev s.fr with
 | .bool t=>if t=true then gO C h0 a Q s else gO C h0 b Q s
 | .FC=>gO C h0 a Q s/\gO C h0 b Q s
 |_=>False):=by
 simp only[gO];generalize c.ev s.fr=d;cases d with
 |bool t=>cases t<;>simp
 |_=>rfl
theorem YI{K:DS->Prop}:lG C [] s K=K s:=rfl
theorem S0{dst:Option Nat}{op:aS}{r:List ae}{K:DS->Prop}:lG C (⟨dst,op,none⟩::r) s K=((aC C op s).pre/\lG C r (s.put dst (aC C op s)) K):=rfl
theorem xL{dst}{op}{g}{b}{r}{K}:lG C (⟨dst,op,some (g,b)⟩::r) s K=(match get g s.fr with
 | .bool b'=>if b'=b then(aC C op s).pre/\lG C r (s.put dst (aC C op s)) K else lG C r (s.put dst ⟨True,.cy [],s.hp⟩) K
 | .cy []=>lG C r (s.put dst ⟨True,.cy [],s.hp⟩) K
 |_=>False):=rfl
theorem LM{next:DS->Prop}:cq.then next Q .normal s=next s:=rfl
theorem S4{next:DS->Prop}{id:Nat}:cq.then next Q (.exit id) s=Q (.exit id) s:=rfl
theorem YS{next:DS->Prop}:cq.then next Q .ret s=Q .ret s:=rfl
theorem Bi{id:Nat}:cq.inBlock id Q .normal s=Q .normal s:=rfl
theorem HZ{id k:Nat}:cq.inBlock id Q (.exit k) s=if k=id then Q .normal s else Q (.exit k) s:=rfl
theorem LL{id:Nat}:cq.inBlock id Q .ret s=Q .ret s:=rfl
theorem YL{d:Nat}{r:sj}:s.put (some d) r=⟨(d,r.val)::s.fr,r.hp⟩:=rfl
theorem YK{r:sj}:s.put none r=⟨s.fr,r.hp⟩:=rfl
theorem auZ{n:Nat}{fr:List (Nat×DV)}:(DA.t n).ev fr=get n fr:=rfl
theorem auY{d:DV}{fr:List (Nat×DV)}:(DA.c d).ev fr=d:=rfl
theorem dK{live:List Nat}{m:Nat}:s.cut live (some m)=⟨live.map λt=>(t,(get t s.fr).cut m),(s.hp.take m).map (ak.cut m)⟩:=rfl
theorem Yz{live:List Nat}:s.cut live none=⟨live.map λt=>(t,get t s.fr),s.hp⟩:=rfl
theorem LH{res:List DR}{r:DV}:yH res r .normal s=((aW s res).1/\(jB s.hp (aW s res).2).pre/\(jB s.hp (aW s res).2).val=r):=rfl
theorem YJ{res:List DR}{r:DV}:yH res r .ret s=((aW s res).1/\(jB s.hp (aW s res).2).pre/\(jB s.hp (aW s res).2).val=r):=rfl
theorem LG{res:List DR}{r:DV}{cJ:List ak}:ak4 res r cJ .normal s=((aW s res).1/\(aW s res).2=r/\s.hp=cJ):=rfl
theorem Pv{res}{r}{cJ}:ak4 res r cJ .ret s=((aW s res).1/\(aW s res).2=r/\s.hp=cJ):=rfl
end
theorem ig{n}(h: -9223372036854775808<=n/\n<9223372036854775808):IntKind.i64.wrap n=n:=by rw[IntKind.wrap_i64];omega
theorem Ze{n}(h:0<=n/\n<18446744073709551616):IntKind.u64.wrap n=n:=by rw[IntKind.wrap_u64];omega
theorem acG{n}(h:0<=n/\n<256):IntKind.u8.wrap n=n:=by rw[IntKind.wrap_u8];omega
def KE(l:List UInt8):List (List DV):=l.map λb=>[.int .u8 b.toNat]
def unb:List (List DV)->Option (List UInt8)
 |[]=>some []
 |[.int .u8 n]::r=>if 0<=n/\n<256 then(unb r).map (UInt8.ofNat n.toNat::·)else none
 |_=>none
theorem Ic:∀l:List UInt8,unb (KE l)=some l
 |[]=>rfl
 |b::l=>by have h:=Ic l;unfold KE at h|-;have h1:=b.toNat_lt;simp only[List.map_cons,unb];rw[if_pos (by omega),h];simp
theorem ou(l:List UInt8):(KE l).length=l.length:=by simp[KE]
theorem Zf(l:List UInt8)(n):(KE l).drop n=KE (l.drop n):=by simp[KE]
theorem Zg(l:List UInt8)(n):(KE l).take n=KE (l.take n):=by simp[KE]
theorem PQ{l}:∀e∈KE l,e.length=1:=by intro e he;simp only[KE,List.mem_map]at he;obtain⟨b,_,rfl⟩:=he;rfl
end Go.Nk
namespace Go.Nk
def VW(f:List UInt8->Prop×DV):List DV->Prop×DV
 |[.sl es]=>match unb es with
  |some l=>f l
  |none=>(False,.undef)
 |_=>(False,.undef)
def Bn(f:List UInt8->List UInt8->Prop×DV):List DV->Prop×DV
 |[.sl es,.sl es']=>match unb es,unb es' with
  |some l,some l'=>f l l'
  |_,_=>(False,.undef)
 |_=>(False,.undef)
theorem S1(f)(l):VW f [.sl (KE l)]=f l:=by simp[VW,Ic]
theorem S2(f)(l l'):Bn f [.sl (KE l),.sl (KE l')]=f l l':=by simp[Bn,Ic]
end Go.Nk
namespace Go.Nk
theorem Yx(a b:UInt8):((a.toNat:Int) !=(b.toNat:Int))=(a !=b):=by
 have:(a.toNat:Int)=(b.toNat:Int)↔a=b:=by rw[Int.natCast_inj];exact UInt8.toNat_inj
 by_cases h:a=b
 ·simp[h]
 ·have h2:¬(a.toNat:Int)=(b.toNat:Int):=λe=>h (this.1 e);simp[bne,h,beq_eq_false_iff_ne.2 h2]
theorem Zh(a b:UInt8):((a.toNat:Int)==(b.toNat:Int))=(a==b):=by have:=Yx a b;simp only[bne]at this;cases h1:((a.toNat:Int)==(b.toNat:Int))<;>cases h2:(a==b)<;>simp_all
end Go.Nk
namespace Go.Nk
theorem YN{hp}{l:List UInt8}{k:IntKind}{a:Int}:nD hp 1 (.sl (KE l)) (some (.int k a)) none none=(0<=a/\a<=l.length,.sl (KE (l.drop a.toNat))):=by simp only[nD,eG,ou,Option.isSome_none,Int.toNat_natCast,Prod.mk.injEq];refine⟨propext ⟨λh=>⟨h.2.2.2.2.2.1,h.2.2.2.2.2.2.1⟩,λh=>⟨PQ,trivial,trivial,trivial,by simp,h.1,h.2,Int.le_refl _,Int.le_refl _⟩⟩,?_⟩;rw[List.take_of_length_le (by simp[ou]),Zf]
theorem YM{hp}{l:List UInt8}{k:IntKind}{a:Int}:nD hp 1 (.sl (KE l)) none (some (.int k a)) none=(0<=a/\a<=l.length,.sl (KE (l.take a.toNat))):=by simp only[nD,eG,ou,Option.isSome_none,Prod.mk.injEq];refine⟨propext ⟨λh=>⟨h.2.2.2.2.2.2.1,h.2.2.2.2.2.2.2.2⟩,λh=>⟨PQ,trivial,trivial,trivial,by simp,Int.le_refl _,h.1,Int.le_refl _,h.2⟩⟩,?_⟩;rw[Zg];rfl
theorem Py{hp}{l:List UInt8}{k k':IntKind}{a b:Int}:nD hp 1 (.sl (KE l)) (some (.int k a)) (some (.int k' b)) none=(0<=a/\a<=b/\b<=l.length,.sl (KE ((l.take b.toNat).drop a.toNat))):=by simp only[nD,eG,ou,Option.isSome_none,Prod.mk.injEq];refine⟨propext ⟨λh=>⟨h.2.2.2.2.2.1,h.2.2.2.2.2.2.1,h.2.2.2.2.2.2.2.2⟩,λh=>⟨PQ,trivial,trivial,trivial,by simp,h.1,h.2.1,Int.le_refl _,h.2.2⟩⟩,?_⟩;rw[Zg,Zf]
end Go.Nk
set_option linter.all false
namespace Go.Nk
section
variable {P:Program} {t e:TypeId} {d:DV}
theorem PR:∀es:List (List DV),(∀x∈es,∃i,x=[.int .u8 i]/\(Lit.int .u8 i).wf=true)->∃l,es=KE l
 |[],_=>⟨[],rfl⟩
 |x::es,h=>by
  obtain⟨l,rfl⟩:=PR es λy hy=>h y (by simp[hy]);obtain⟨i,rfl,hw⟩:=h x (by simp);have hi:0<=i/\i<=255:=by simpa[Lit.wf,IntKind.min,IntKind.max,IntKind.signed,IntKind.bits]using hw
  refine⟨UInt8.ofNat i.toNat::l,?_⟩;simp only[KE,List.map_cons,List.cons.injEq,DV.int.injEq,true_and,and_true];rw[UInt8.toNat_ofNat'];omega
end
end Go.Nk
set_option linter.all false
namespace Go.Nk
def aF [Inhabited Env](P:Program)(f:FuncId)(s:List DV->Prop×DV):Prop:=∀a,(s a).1->ie P f=true/\Ai P f a (s a).2
def g9 [Inhabited Env](P:Program)(f:FuncId)(s:List DV->List ak->sj):Prop:=∀a hp,(s a hp).pre->ie P f=true/\PS P f a hp (s a hp).val (s a hp).hp
def pOf:List (FuncId×(List DV->Prop×DV))->FuncId->List DV->Prop×DV
 |[],_,_=>(False,.undef)
 |(f,s)::r,g,a=>if g=f then s a else pOf r g a
def hOf:List (FuncId×(List DV->List ak->sj))->FuncId->List DV->List ak->sj
 |[],_,_,_=>no
 |(f,s)::r,g,a,hp=>if g=f then s a hp else hOf r g a hp
def iOf:List (FuncId×(List DV->Prop×List (List DV)))->FuncId->List DV->Prop×List (List DV)
 |[],_,_=>(False,[])
 |(f,s)::r,g,a=>if g=f then s a else iOf r g a
def jL.ofW(ps:List (FuncId×(List DV->Prop×DV)))(hs:List (FuncId×(List DV->List ak->sj)))(is ws:List (FuncId×(List DV->Prop×List (List DV)))):jL:=⟨pOf ps,hOf hs,iOf is,iOf ws⟩
def jL.ofI(ps:List (FuncId×(List DV->Prop×DV)))(hs:List (FuncId×(List DV->List ak->sj)))(is:List (FuncId×(List DV->Prop×List (List DV)))):jL:=jL.ofW ps hs is []
def jL.of(ps:List (FuncId×(List DV->Prop×DV)))(hs:List (FuncId×(List DV->List ak->sj))):jL:=jL.ofI ps hs []
theorem au1(ps hs)(f:FuncId)(a:List DV):(jL.of ps hs).p f a=pOf ps f a:=rfl
theorem au0(ps hs)(f:FuncId)(a:List DV)(hp:List ak):(jL.of ps hs).h f a hp=hOf hs f a hp:=rfl
theorem Px(f:FuncId)(s:List DV->Prop×DV)(r)(g:FuncId)(a:List DV):pOf ((f,s)::r) g a=if g=f then s a else pOf r g a:=rfl
theorem Pw(f:FuncId)(s:List DV->List ak->sj)(r)(g:FuncId)(a:List DV)(hp:List ak):hOf ((f,s)::r) g a hp=if g=f then s a hp else hOf r g a hp:=rfl
def uU [Inhabited Env](P:Program):List (FuncId×(List DV->Prop×DV))->Prop
 |[]=>True
 |(f,s)::r=>aF P f s/\uU P r
def uV [Inhabited Env](P:Program):List (FuncId×(List DV->List ak->sj))->Prop
 |[]=>True
 |(f,s)::r=>g9 P f s/\uV P r
def OkI [Inhabited Env](P:Program)(f:FuncId)(s:List DV->Prop×List (List DV)):Prop:=∀a,(s a).1->ie P f=true/\VX P f a (s a).2
def VY [Inhabited Env](P:Program):List (FuncId×(List DV->Prop×List (List DV)))->Prop
 |[]=>True
 |(f,s)::r=>OkI P f s/\VY P r
def OkW [Inhabited Env](P:Program)(f:FuncId)(s:List DV->Prop×List (List DV)):Prop:=∀a,(s a).1->ie P f=true/\VZ P f a (s a).2
def ar9 [Inhabited Env](P:Program):List (FuncId×(List DV->Prop×List (List DV)))->Prop
 |[]=>True
 |(f,s)::r=>OkW P f s/\ar9 P r
theorem ak5 [Inhabited Env]{P:Program}{ps hs is ws}(h1:uU P ps)(h2:uV P hs)(h3:VY P is)(h4:ar9 P ws):(jL.ofW ps hs is ws).ok P:=by
 refine⟨?_,?_,?_,?_⟩
 ·intro f a h;change (pOf ps f a).1 at h;change ie P f=true/\Ai P f a (pOf ps f a).2;induction ps with
  |nil=>exact h.elim
  |cons x r ih=>
   obtain⟨g,s⟩:=x;simp only[Px]at h|-ih;by_cases e:f=g
   ·simp only[if_pos e]at h|-;subst e;exact h1.1 a h
   ·simp only[if_neg e]at h|-;exact ih h1.2 h
 ·intro f a hp h;change (hOf hs f a hp).pre at h;change ie P f=true/\PS P f a hp (hOf hs f a hp).val (hOf hs f a hp).hp;induction hs with
  |nil=>exact h.elim
  |cons x r ih=>
   obtain⟨g,s⟩:=x;simp only[Pw]at h|-ih;by_cases e:f=g
   ·simp only[if_pos e]at h|-;subst e;exact h2.1 a hp h
   ·simp only[if_neg e]at h|-;exact ih h2.2 h
 ·intro f a h;change (iOf is f a).1 at h;change ie P f=true/\VX P f a (iOf is f a).2;induction is with
  |nil=>exact h.elim
  |cons x r ih=>
   obtain⟨g,s⟩:=x;simp only[iOf]at h|-ih;by_cases e:f=g
   ·simp only[if_pos e]at h|-;subst e;exact h3.1 a h
   ·simp only[if_neg e]at h|-;exact ih h3.2 h
 ·intro f a h;change (iOf ws f a).1 at h;change ie P f=true/\VZ P f a (iOf ws f a).2;induction ws with
  |nil=>exact h.elim
  |cons x r ih=>
   obtain⟨g,s⟩:=x;simp only[iOf]at h|-ih;by_cases e:f=g
   ·simp only[if_pos e]at h|-;subst e;exact h4.1 a h
   ·simp only[if_neg e]at h|-;exact ih h4.2 h
theorem PT [Inhabited Env]{P}{ps hs is}(h1:uU P ps)(h2:uV P hs)(h3:VY P is):(jL.ofI ps hs is).ok P:=ak5 h1 h2 h3 trivial
theorem aeQ [Inhabited Env]{P}{ps hs}(h1:uU P ps)(h2:uV P hs):(jL.of ps hs).ok P:=PT h1 h2 trivial
theorem aF.mk [Inhabited Env]{P}{ps hs}{f}{s}{d:ay}{n}(h1:uU P ps)(h2:uV P hs)(hm:qe P f n d=true)
 (h:∀args,(s args).1->args.length=n/\gO (jL.of ps hs) 0 d.code (yH d.res (s args).2) ⟨aQ 0 args,[]⟩):aF P f s:=by
 intro a ha;obtain⟨e,hw⟩:=h a ha;exact KF (aeQ h1 h2) (by rw[e];exact hm) hw
theorem g9.mk [Inhabited Env]{P}{ps hs}{f}{s}{d:ay}{n}(h1:uU P ps)(h2:uV P hs)(hm:qe P f n d=true)
 (h:∀args hp,(s args hp).pre->args.length=n/\gO (jL.of ps hs) hp.length d.code (ak4 d.res (s args hp).val (s args hp).hp) ⟨aQ 0 args,hp⟩):g9 P f s:=by
 intro a hp ha;obtain⟨e,hw⟩:=h a hp ha;exact agX (aeQ h1 h2) (by rw[e];exact hm) hw
def rJ{α:Type}(e:α->DV):Prop:=∀x y,e x=e y->x=y
open Classical in
noncomputable def Sf(r:Prop×DV):List DV->Prop×DV:=λargs=>if args=[]then r else(False,.undef)
open Classical in
noncomputable def bB{α:Type}(e:α->DV)(f:α->Prop×DV):List DV->Prop×DV:=λargs=>
 if h:∃a,args=[e a]then f h.choose else(False,.undef)
open Classical in
noncomputable def b5{α β:Type}(e:α->DV)(e':β->DV)(f:α->β->Prop×DV):List DV->Prop×DV:=λargs=>
 if h:∃x:α×β,args=[e x.1,e' x.2]then f h.choose.1 h.choose.2 else(False,.undef)
open Classical in
noncomputable def eR{α β γ:Type}(e:α->DV)(e':β->DV)(MT:γ->DV)(f:α->β->γ->Prop×DV):List DV->Prop×DV:=λargs=>
 if h:∃x:α×β×γ,args=[e x.1,e' x.2.1,MT x.2.2]then f h.choose.1 h.choose.2.1 h.choose.2.2 else(False,.undef)
open Classical in
noncomputable def Ak{α β γ δ:Type}(e:α->DV)(e':β->DV)(MT:γ->DV)(e3:δ->DV)(f:α->β->γ->δ->Prop×DV):List DV->Prop×DV:=λargs=>
 if h:∃x:α×β×γ×δ,args=[e x.1,e' x.2.1,MT x.2.2.1,e3 x.2.2.2]then f h.choose.1 h.choose.2.1 h.choose.2.2.1 h.choose.2.2.2 else(False,.undef)
theorem Gq(r:Prop×DV):Sf r []=r:=by simp[Sf]
theorem aH{α}{e:α->DV}(h:rJ e)(f:α->Prop×DV)(a:α):bB e f [e a]=f a:=by unfold bB;have hx:∃b,[e a]=[e b]:=⟨a,rfl⟩;rw[dif_pos hx];have hy:=hx.choose_spec;generalize hx.choose=x at hy|-;rw[h _ _ (List.cons.inj hy).1]
theorem aO{α β}{e:α->DV}{e':β->DV}(h:rJ e)(h':rJ e')(f:α->β->Prop×DV)(a:α)(b:β):b5 e e' f [e a,e' b]=f a b:=by unfold b5;have hx:∃x:α×β,[e a,e' b]=[e x.1,e' x.2]:=⟨(a,b),rfl⟩;rw[dif_pos hx];have hy:=hx.choose_spec;generalize hx.choose=x at hy|-;have h1:=List.cons.inj hy;rw[h _ _ h1.1,h' _ _ (List.cons.inj h1.2).1]
theorem bz{α β γ}{e:α->DV}{e':β->DV}{MT:γ->DV}(h:rJ e)(h':rJ e')(h'':rJ MT)(f:α->β->γ->Prop×DV)(a:α)(b:β)(c:γ):eR e e' MT f [e a,e' b,MT c]=f a b c:=by unfold eR;have hx:∃x:α×β×γ,[e a,e' b,MT c]=[e x.1,e' x.2.1,MT x.2.2]:=⟨(a,b,c),rfl⟩;rw[dif_pos hx];have hy:=hx.choose_spec;generalize hx.choose=x at hy|-;have h1:=List.cons.inj hy;have h2:=List.cons.inj h1.2;rw[h _ _ h1.1,h' _ _ h2.1,h'' _ _ (List.cons.inj h2.2).1]
theorem tG{α β γ δ}{e:α->DV}{e':β->DV}{MT:γ->DV}{e3:δ->DV}(h:rJ e)(h':rJ e')(h'':rJ MT)(h3:rJ e3)(f:α->β->γ->δ->Prop×DV)(a:α)(b:β)(c:γ)(d:δ):Ak e e' MT e3 f [e a,e' b,MT c,e3 d]=f a b c d:=by unfold Ak;have hx:∃x:α×β×γ×δ,[e a,e' b,MT c,e3 d]=[e x.1,e' x.2.1,MT x.2.2.1,e3 x.2.2.2]:=⟨(a,b,c,d),rfl⟩;rw[dif_pos hx];have hy:=hx.choose_spec;generalize hx.choose=x at hy|-;have h1:=List.cons.inj hy;have h2:=List.cons.inj h1.2;have h4:=List.cons.inj h2.2;rw[h _ _ h1.1,h' _ _ h2.1,h'' _ _ h4.1,h3 _ _ (List.cons.inj h4.2).1]
section
variable {P:Program} {ps:List (FuncId×(List DV->Prop×DV))} {hs:List (FuncId×(List DV->List ak->sj))} {g:FuncId} {d:ay}
theorem aF.mk0 [Inhabited Env]{r:Prop×DV}(h1:uU P ps)(h2:uV P hs)(hm:qe P g 0 d=true)
 (k:r.1->gO (jL.of ps hs) 0 d.code (yH d.res r.2) ⟨[],[]⟩):aF P g (Sf r):=by
 refine aF.mk h1 h2 hm λargs hp=> ?_;unfold Sf at hp|-;split at hp
 ·rename_i h;subst h;rw[if_pos rfl];exact⟨rfl,k hp⟩
 ·exact hp.elim
theorem aF.mo [Inhabited Env]{α}{e:α->DV}{f:α->Prop×DV}(h1:uU P ps)(h2:uV P hs)(hm:qe P g 1 d=true)
 (k:∀a,(f a).1->gO (jL.of ps hs) 0 d.code (yH d.res (f a).2) ⟨[(0,e a)],[]⟩):aF P g (bB e f):=by
 refine aF.mk h1 h2 hm λargs hp=> ?_;unfold bB at hp|-;split at hp
 ·rename_i h;rw[dif_pos h];have hx:=h.choose_spec;have:=k _ hp;generalize h.choose=a at*;subst hx;exact⟨rfl,this⟩
 ·exact hp.elim
theorem aF.oU [Inhabited Env]{α β}{e:α->DV}{e':β->DV}{f:α->β->Prop×DV}(h1:uU P ps)(h2:uV P hs)(hm:qe P g 2 d=true)
 (k:∀a b,(f a b).1->gO (jL.of ps hs) 0 d.code (yH d.res (f a b).2) ⟨[(0,e a),(1,e' b)],[]⟩):aF P g (b5 e e' f):=by
 refine aF.mk h1 h2 hm λargs hp=> ?_;unfold b5 at hp|-;split at hp
 ·rename_i h;rw[dif_pos h];have hx:=h.choose_spec;have:=k _ _ hp;generalize h.choose=a at*;subst hx;exact⟨rfl,this⟩
 ·exact hp.elim
theorem aF.uR [Inhabited Env]{α β γ}{e:α->DV}{e':β->DV}{MT:γ->DV}{f:α->β->γ->Prop×DV}(h1:uU P ps)(h2:uV P hs)(hm:qe P g 3 d=true)
 (k:∀a b c,(f a b c).1->gO (jL.of ps hs) 0 d.code (yH d.res (f a b c).2) ⟨[(0,e a),(1,e' b),(2,MT c)],[]⟩):aF P g (eR e e' MT f):=by
 refine aF.mk h1 h2 hm λargs hp=> ?_;unfold eR at hp|-;split at hp
 ·rename_i h;rw[dif_pos h];have hx:=h.choose_spec;have:=k _ _ _ hp;generalize h.choose=a at*;subst hx;exact⟨rfl,this⟩
 ·exact hp.elim
theorem aF.mk4 [Inhabited Env]{α β γ δ}{e:α->DV}{e':β->DV}{MT:γ->DV}{e3:δ->DV}{f:α->β->γ->δ->Prop×DV}(h1:uU P ps)(h2:uV P hs)(hm:qe P g 4 d=true)
 (k:∀a b c d',(f a b c d').1->gO (jL.of ps hs) 0 d.code (yH d.res (f a b c d').2) ⟨[(0,e a),(1,e' b),(2,MT c),(3,e3 d')],[]⟩):aF P g (Ak e e' MT e3 f):=by
 refine aF.mk h1 h2 hm λargs hp=> ?_;unfold Ak at hp|-;split at hp
 ·rename_i h;rw[dif_pos h];have hx:=h.choose_spec;have:=k _ _ _ _ hp;generalize h.choose=a at*;subst hx;exact⟨rfl,this⟩
 ·exact hp.elim
end
theorem af{α}(c:α->List DV){l:List α}{k}{x:α}(h:l[k]? =some x):(l.map c).getD k []=c x:=by simp[List.getD,h]
def GK{α β:Type}(c:α->β):Prop:=∀x y,c x=c y->x=y
theorem YH{n}{hp:List ak}{o}:Ot (some n) hp (hp.set n o):=by intro h _ e;have:n≠h:=λc=>e (congrArg some c);rw[List.getElem?_set_ne this]
theorem SX{x}{hp}:Ot x hp hp:=λ_ _ _=>rfl
theorem SZ{a b}{l l'}(hl:l'=l):Ot (some 0) (a::l) (b::l'):=by
 subst hl;intro h _ e;cases h with
 |zero=>exact absurd rfl e
 |succ n=>simp
theorem SY{k}{a b}{l l'}(hb:b=a)(h:Ot (some k) l l'):Ot (some (k+1)) (a::l) (b::l'):=by
 subst hb;intro i hi e;cases i with
 |zero=>simp
 |succ n=>simpa using h n (by simpa using hi) (λc=>e (by injection c with c;rw[c]))
theorem akz:(false==true)=false:=rfl
theorem akA:(true==false)=false:=rfl
theorem akB:(false !=true)=true:=rfl
theorem akC:(true !=false)=true:=rfl
theorem Pz(f):VW f [.sl []]=f []:=by simp[VW,unb]
theorem LI(f)(l):Bn f [.sl [],.sl (KE l)]=f [] l:=by simp[Bn,unb,Ic]
theorem LJ(f)(l):Bn f [.sl (KE l),.sl []]=f l []:=by simp[Bn,unb,Ic]
theorem LK(f):Bn f [.sl [],.sl []]=f [] []:=by simp[Bn,unb]
@[reducible] def eI(n:Int):DV:= .int .i64 n
@[reducible] def eU(n:Int):DV:= .int .u64 n
@[reducible] def eB(b:Bool):DV:= .bool b
@[reducible] def eS(s:List UInt8):DV:= .str s
@[reducible] def eBs(l:List UInt8):DV:= .sl (KE l)
@[reducible] def eL{α:Type}(c:α->List DV)(l:List α):DV:= .sl (l.map c)
@[reducible] def eA{α:Type}(c:α->List DV)(x:α):DV:= .agg (c x)
theorem b6:rJ eI:=λ_ _ h=>by cases h;rfl
theorem auT:rJ eB:=λ_ _ h=>by cases h;rfl
theorem ik:rJ eS:=λ_ _ h=>by cases h;rfl
theorem map_inj{α}{c:α->List DV}(hc:∀x y,c x=c y->x=y):∀l l':List α,l.map c=l'.map c->l=l'
 |[],[],_=>rfl
 |[],_::_,h=>by simp at h
 |_::_,[],h=>by simp at h
 |x::l,y::l',h=>by simp only[List.map_cons,List.cons.injEq]at h;rw[hc x y h.1,map_inj hc l l' h.2]
theorem Al{α}{c:α->List DV}(hc:∀x y,c x=c y->x=y):rJ (eL c):=λ_ _ h=>by injection h with h;exact map_inj hc _ _ h
theorem zq{α}{c:α->List DV}(hc:∀x y,c x=c y->x=y):rJ (eA c):=λ_ _ h=>by injection h with h;exact hc _ _ h
end Go.Nk
set_option linter.all false
namespace Go.Nk
inductive Sh where
 |int (k:IntKind)
 |bool
 |str
 |slice (s:Sh)
 |ptr (s:Sh)
 |struct (ss:List Sh)
 |self (t:TypeId)
def allTwo{α β:Type}(f:α->β->Bool):List α->List β->Bool
 |[],[]=>true
 |a::as,b::bs=>f a b&&allTwo f as bs
 |_,_=>false
def jG(P:Program):Nat->TypeId->Sh->Bool
 |0,_,_=>false
 |n+1,t,s=>
  match P.underlying t,s with
  |_,.self u=>decide (t=u)
  |some (.int k),.int k'=>decide (k=k')
  |some .bool,.bool=>true
  |some .string,.str=>true
  |some (.slice e),.slice s=>jG P n e s
  |some (.pointer e),.ptr s=>jG P n e s
  |some (.struct fs),.struct ss=>allTwo (λf s=>jG P n f.type s) fs.toList ss
  |some (.array k e),.struct ss=>ss.length==k&&ss.all λs=>jG P n e s
  |_,_=>false
mutual
def sD(R:TypeId->List DV->Prop):Sh->List DV->Prop
 | .self u,ds=>R u ds
 | .int k,ds=>∃i,ds=[.int k i]/\(Lit.int k i).wf=true
 | .bool,ds=>∃b,ds=[.bool b]
 | .str,ds=>∃s,ds=[.str s]/\s.length<=bI
 | .slice s,ds=>∃es,ds=[.sl es]/\RW es<=bI/\∀x∈es,sD R s x
 | .ptr s,ds=>ds=[.Ia]\/∃r,ds=[.ref r]/\sD R s r
 | .struct ss,ds=>pL R ss ds
def pL(R:TypeId->List DV->Prop):List Sh->List DV->Prop
 |[],ds=>ds=[]
 |s::ss,ds=>∃a b,ds=a++b/\sD R s a/\pL R ss b
end
def FD:Sh->Bool
 | .self _=>false
 |_=>true
theorem qw{a N}{s}(h:a<=N):a<=N+(if FD s=true then 1 else 0):=by split<;>omega
def xb(P:Program)(N:Nat)(u:TypeId)(ds:List DV):Prop:=(∃m,m<=N/\Has P m u ds)/\∀L∈fO ds,L<=bI
theorem vW{P}{N}:∀(n:Nat) (t:TypeId) (s:Sh),jG P n t s=true->∀m ds,m<=N+(if FD s=true then 1 else 0)->Has P m t ds->(∀L∈fO ds,L<=bI)->sD (xb P N) s ds
 |0,_,_,h,_,_,_,_,_=>by simp[jG]at h
 |n+1,t,s,h,0,_,_,hd,_=>hd.elim
 |n+1,t,s,h,m+1,ds,hN,hd,zS=>by
  have hd0:=hd;unfold jG at h;unfold Has at hd;split at h
  ·simp only[decide_eq_true_eq]at h;subst h;unfold sD;exact⟨⟨m+1,by simpa[FD]using hN,hd0⟩,zS⟩
  all_goals replace hN:m<=N:=by split at hN<;>omega
  ·rename_i k k' e;simp only[e]at hd;simp only[decide_eq_true_eq]at h;subst h;unfold sD;exact hd
  ·rename_i e;simp only[e]at hd;unfold sD;exact hd
  ·rename_i e;simp only[e]at hd;unfold sD;obtain⟨s,rfl,_⟩:=hd;exact⟨s,rfl,zS _ (by simp[fO,DV.lens])⟩
  ·rename_i el s' e;simp only[e]at hd;obtain⟨es,h1,h2,h3⟩:=hd;unfold sD;subst h1;have pJ:∀(es:List (List DV)),(∀L∈Bk es,L<=bI)->∀x∈es,∀L∈fO x,L<=bI:=by
    intro es;induction es with
    |nil=>intro _ x hx;simp at hx
    |cons e es ih=>
     intro hs x hx L hL;simp only[Bk,List.mem_append]at hs;rcases List.mem_cons.1 hx with rfl|hx
     ·exact hs L (.inl hL)
     ·exact ih (λL hL=>hs L (.inr hL)) x hx L hL
   exact⟨es,rfl,zS _ (by simp[fO,DV.lens]),λx hx=>vW n el s' h m x (qw hN) (h3 x hx) (pJ es (λL hL=>zS L (by simp[fO,DV.lens,hL])) x hx)⟩
  ·rename_i el s' e;simp only[e]at hd;unfold sD;rcases hd with hd|⟨r,rfl,h2⟩
   ·exact .inl hd
   ·exact .inr ⟨r,rfl,vW n el s' h m r (qw hN) h2 λL hL=>zS L (by simpa[fO,DV.lens]using hL)⟩
  ·rename_i fs ss e;simp only[e]at hd;unfold sD;have key:∀(fs:List Field) (ss:List Sh) (ds:List DV),allTwo (λf s=>jG P n f.type s) fs ss=true->agT (Has P m) fs ds->(∀L∈fO ds,L<=bI)->pL (xb P N) ss ds:=by
    intro fs;induction fs with
    |nil=>intro ss ds h hd _;cases ss with
     |nil=>unfold pL;exact hd
     |cons=>simp[allTwo]at h
    |cons f fs ih=>intro ss ds h hd hs;cases ss with
     |nil=>simp[allTwo]at h
     |cons s ss=>
      simp only[allTwo,Bool.and_eq_true]at h;obtain⟨a,b,rfl,ha,hb⟩:=hd;unfold pL;rw[pH]at hs;exact⟨a,b,rfl,vW n _ s h.1 m a (qw hN) ha (λL hL=>hs L (List.mem_append.2 (.inl hL))),ih ss b h.2 hb λL hL=>hs L (List.mem_append.2 (.inr hL))⟩
   exact key _ _ _ h hd zS
  ·rename_i k e' ss e;simp only[e]at hd;simp only[Bool.and_eq_true,beq_iff_eq,List.all_eq_true]at h;unfold sD;have key:∀(k:Nat) (ss:List Sh) (ds:List DV),ss.length=k->(∀s∈ss,jG P n e' s=true)->agU (Has P m e') k ds->(∀L∈fO ds,L<=bI)->pL (xb P N) ss ds:=by
    intro k;induction k with
    |zero=>intro ss ds hl h hd _;cases ss with
     |nil=>unfold pL;exact hd
     |cons=>cases hl
    |succ k ih=>intro ss ds hl h hd hs;cases ss with
     |nil=>cases hl
     |cons s ss=>
      obtain⟨a,b,rfl,ha,hb⟩:=hd;unfold pL;rw[pH]at hs;exact⟨a,b,rfl,vW n _ s (h s (by simp)) m a (qw hN) ha (λL hL=>hs L (List.mem_append.2 (.inl hL))),ih ss b (by simpa using hl) (λs hs=>h s (by simp[hs])) hb λL hL=>hs L (List.mem_append.2 (.inr hL))⟩
   exact key _ _ _ h.1 h.2 hd zS
  ·cases h
def bJ{α:Type}(R:TypeId->List DV->Prop)(s:Sh)(c:α->List DV)(W:α->Prop):Prop:=∀ds,sD R s ds->∃a,ds=c a/\W a
def Reads{α:Type}(s:Sh)(c:α->List DV)(W:α->Prop):Prop:=∀R,bJ R s c W
theorem Reads.int:Reads (.int .i64) (λn=>[.int .i64 n]) (λn:Int=> -9223372036854775808<=n/\n<9223372036854775808):=by
 intro R ds h;unfold sD at h;obtain⟨i,rfl,hw⟩:=h;have: -9223372036854775808<=i/\i<=9223372036854775807:=by simpa[Lit.wf,IntKind.min,IntKind.max,IntKind.signed,IntKind.bits]using hw
 exact⟨i,rfl,this.1,by omega⟩
theorem Reads.bool:Reads .bool (λb=>[.bool b]) (λ_:Bool=>True):=by intro R ds h;unfold sD at h;obtain⟨i,rfl⟩:=h;exact⟨i,rfl,trivial⟩
theorem Reads.str:Reads .str (λs=>[.str s]) (λs:List UInt8=>s.length<=bI):=by intro R ds h;unfold sD at h;obtain⟨i,rfl,h⟩:=h;exact⟨i,rfl,h⟩
theorem PU{α}{c:α->List DV}{W:α->Prop}:∀es:List (List DV),(∀x∈es,∃a,x=c a/\W a)->∃l:List α,es=l.map c/\∀a∈l,W a
 |[],_=>⟨[],rfl,by simp⟩
 |x::es,h=>by obtain⟨l,rfl,hl⟩:=PU es λy hy=>h y (by simp[hy]);obtain⟨a,rfl,ha⟩:=h x (by simp);exact⟨a::l,rfl,by intro b hb;rcases List.mem_cons.1 hb with rfl|hb;exact ha;exact hl b hb⟩
theorem Reads.slice{α}{s}{c:α->List DV}{W:α->Prop}(h:Reads s c W):Reads (.slice s) (λl:List α=>[.sl (l.map c)]) (λl=>l.length<=bI/\∀a∈l,W a):=by intro R ds hd;unfold sD at hd;obtain⟨es,rfl,hl,hx⟩:=hd;obtain⟨l,rfl,hw⟩:=PU es λx re=>h R x (hx x re);exact⟨l,rfl,by simpa using Nat.le_trans (VT _) hl,hw⟩
theorem Reads.bytes:Reads (.slice (.int .u8)) (λl:List UInt8=>[.sl (KE l)]) (λl=>l.length<=bI):=by
 intro R ds hd;unfold sD at hd;obtain⟨es,rfl,hl,hx⟩:=hd;obtain⟨l,rfl⟩:=PR es λx re=>by have:=hx x re;unfold sD at this;exact this
 exact⟨l,rfl,by simpa[ou]using Nat.le_trans (VT _) hl⟩
theorem Reads.cons{α β}{s}{ss}{c:α->List DV}{W:α->Prop}{c':β->List DV}{W':β->Prop}(h:Reads s c W)(h':∀R ds,pL R ss ds->∃b,ds=c' b/\W' b):
 ∀R ds,pL R (s::ss) ds->∃x:α×β,ds=c x.1++c' x.2/\W x.1/\W' x.2:=by
 intro R ds hd;unfold pL at hd;obtain⟨a,b,rfl,ha,hb⟩:=hd;obtain⟨x,rfl,hx⟩:=h R a ha;obtain⟨y,rfl,hy⟩:=h' R b hb;exact⟨(x,y),rfl,hx,hy⟩
theorem Reads.nil:∀R ds,pL R [] ds->∃b:Unit,ds=(λ_=>[]) b/\True:=by intro R ds hd;unfold pL at hd;exact⟨(),hd,trivial⟩
theorem Reads.struct{α}{ss}{c:α->List DV}{W:α->Prop}(h:∀R ds,pL R ss ds->∃b,ds=c b/\W b):Reads (.struct ss) c W:=by intro R ds hd;unfold sD at hd;exact h R ds hd
theorem Reads.as{α β}{s}{c:α->List DV}{W:α->Prop}{c':β->List DV}{W':β->Prop}(h:Reads s c W)(f:α->β)(e:∀a,c a=c' (f a))(w:∀a,W a->W' (f a)):Reads s c' W':=by intro R ds hd;obtain⟨a,rfl,ha⟩:=h R ds hd;exact⟨f a,e a,w a ha⟩
theorem Reads.r{α}{s}{c:α->List DV}{W:α->Prop}(h:Reads s c W){R}:bJ R s c W:=h R
section
variable {R:TypeId->List DV->Prop}
theorem bJ.slice{α}{s}{c:α->List DV}{W:α->Prop}(h:bJ R s c W):bJ R (.slice s) (λl:List α=>[.sl (l.map c)]) (λl=>l.length<=bI/\∀a∈l,W a):=by intro ds hd;unfold sD at hd;obtain⟨es,rfl,hl,hx⟩:=hd;obtain⟨l,rfl,hw⟩:=PU es λx re=>h x (hx x re);exact⟨l,rfl,by simpa using Nat.le_trans (VT _) hl,hw⟩
theorem bJ.cons{α β}{s}{ss}{c:α->List DV}{W:α->Prop}{c':β->List DV}{W':β->Prop}(h:bJ R s c W)(h':∀ds,pL R ss ds->∃b,ds=c' b/\W' b):
 ∀ds,pL R (s::ss) ds->∃x:α×β,ds=c x.1++c' x.2/\W x.1/\W' x.2:=by
 intro ds hd;unfold pL at hd;obtain⟨a,b,rfl,ha,hb⟩:=hd;obtain⟨x,rfl,hx⟩:=h a ha;obtain⟨y,rfl,hy⟩:=h' b hb;exact⟨(x,y),rfl,hx,hy⟩
theorem bJ.nil:∀ds,pL R [] ds->∃b:Unit,ds=(λ_=>[]) b/\True:=Reads.nil R
theorem bJ.struct{α}{ss}{c:α->List DV}{W:α->Prop}(h:∀ds,pL R ss ds->∃b,ds=c b/\W b):bJ R (.struct ss) c W:=by intro ds hd;unfold sD at hd;exact h ds hd
theorem bJ.as{α β}{s}{c:α->List DV}{W:α->Prop}{c':β->List DV}{W':β->Prop}(h:bJ R s c W)(f:α->β)(e:∀a,c a=c' (f a))(w:∀a,W a->W' (f a)):bJ R s c' W':=by intro ds hd;obtain⟨a,rfl,ha⟩:=h ds hd;exact⟨f a,e a,w a ha⟩
end
def xY:Sh->Bool
 | .struct _=>true
 |_=>false
theorem LS{P}{t}{d}{s}{n}(hm:jG P n t s=true)(M7:FD s=true){α}{c:α->List DV}{W:α->Prop}(h:∀N,bJ (xb P N) s c W)(hd:acF P t d):
 ∃a,d=(if xY s then .agg (c a)else(c a).headD .undef)/\W a/\(xY s=false->c a=[d]):=by
 have zS:=hd.2;replace hd:=hd.1;unfold ak1 at hd;have hs:xY s=(match P.underlying t with|some (.struct _)=>true|some (.array _ _)=>true|_=>false):=by
  cases n with
  |zero=>simp[jG]at hm
  |succ n=>
   unfold jG at hm;split at hm<;>first|(rename_i e;simp[xY,e];done)|(exfalso;simp[FD]at M7;done)|cases hm
 split at hd
 ·rename_i fs e;rw[e]at hs;obtain⟨ds,rfl,N,hd⟩:=hd;obtain⟨a,rfl,ha⟩:=h N ds (vW n t s hm N ds (qw (Nat.le_refl _)) hd (by simpa[Small,DV.lens]using zS));exact⟨a,by simp[hs],ha,by simp[hs]⟩
 ·rename_i k e' e;rw[e]at hs;obtain⟨ds,rfl,N,hd⟩:=hd;obtain⟨a,rfl,ha⟩:=h N ds (vW n t s hm N ds (qw (Nat.le_refl _)) hd (by simpa[Small,DV.lens]using zS));exact⟨a,by simp[hs],ha,by simp[hs]⟩
 ·rename_i bw Jq;have um:xY s=false:=by
   rw[hs];split
   ·rename_i e;exact absurd e (bw _)
   ·rename_i e;exact absurd e (Jq _ _)
   ·rfl
  obtain⟨N,hd⟩:=hd;obtain⟨a,e,ha⟩:=h N [d] (vW n t s hm N [d] (qw (Nat.le_refl _)) hd (by simpa[Small,fO]using zS));exact⟨a,by simp[um,<-e],ha,λ_=>e.symm⟩
theorem Ji{P}{t}{d}{ss}(hm:jG P 9 t (.struct ss)=true){α}{c:α->List DV}{W:α->Prop}(h:∀N,bJ (xb P N) (.struct ss) c W)(hd:acF P t d):∃a,d= .agg (c a)/\W a:=by obtain⟨a,e,h1,_⟩:=LS hm rfl h hd;exact⟨a,e,h1⟩
theorem xb.reads{P}{u}{s}{n}(hm:jG P n u s=true)(M7:FD s=true){α}{c:α->List DV}{W:α->Prop}
 (h:∀R:TypeId->List DV->Prop,(∀ds,R u ds->∃a,ds=c a/\W a)->bJ R s c W):∀N,bJ (xb P N) (.self u) c W:=by
 have key:∀m ds,Has P m u ds->(∀L∈fO ds,L<=bI)->∃a,ds=c a/\W a:=by
  intro m;induction m using Nat.strongRecOn with
  |_ m ih=>
   intro ds hd hl;cases m with
   |zero=>exact hd.elim
   |succ m=>exact h (xb P m) (λds hd=>by obtain⟨⟨k,hk,h1⟩,h2⟩:=hd;exact ih k (by omega) ds h1 h2) ds (vW n u s hm (m+1) ds (by rw[if_pos M7];exact Nat.le_refl _) hd hl)
 intro N ds hd;unfold sD at hd;obtain⟨⟨m,_,h1⟩,h2⟩:=hd;exact key m ds h1 h2
theorem ak6{P}{t}{d}{s}(hm:jG P 9 t s=true)(hs:xY s=false){α}{c:α->List DV}{W:α->Prop}(h:Reads s c W)(hd:acF P t d)(M7:FD s=true:=by rfl):∃a,c a=[d]/\W a:=by obtain⟨a,_,h1,h2⟩:=LS hm M7 (λN=>h _) hd;exact⟨a,h2 hs,h1⟩
theorem M0{P}{t}{d}{s}(hm:jG P 9 t (.slice s)=true){α}{c:α->List DV}{W:α->Prop}(h:Reads s c W)(hd:acF P t d):∃l:List α,d= .sl (l.map c)/\l.length<=bI/\∀a∈l,W a:=by obtain⟨a,e,h⟩:=ak6 hm rfl (Reads.slice h) hd;injection e with e;exact⟨a,e.symm,h⟩
end Go.Nk
set_option linter.all false
namespace Go.Nk
section
variable {C:jL} {h0:Nat} {Q:cq->DS->Prop} {s:DS}
theorem agY{c:DA}{a b:au}(h:c.ev s.fr= .bool true):gO C h0 (.cond c a b) Q s=gO C h0 a Q s:=by rw[br,h];simp
theorem agZ{c:DA}{a b:au}(h:c.ev s.fr= .bool false):gO C h0 (.cond c a b) Q s=gO C h0 b Q s:=by rw[br,h];simp
theorem acH{C:jL}{dst:Option Nat}{op:aS}{g:Nat}{b:Bool}{r:List ae}{K:DS->Prop}(h:get g s.fr= .bool b):
 lG C (⟨dst,op,some (g,b)⟩::r) s K=((aC C op s).pre/\lG C r (s.put dst (aC C op s)) K):=by
 rw[xL,h];simp
theorem acI{C:jL}{dst:Option Nat}{op:aS}{g:Nat}{b:Bool}{r:List ae}{K:DS->Prop}(h:get g s.fr= .bool (!b)):
 lG C (⟨dst,op,some (g,b)⟩::r) s K=lG C r (s.put dst ⟨True,.cy [],s.hp⟩) K:=by
 rw[xL,h];cases b<;>simp
theorem acJ{C:jL}{dst:Option Nat}{op:aS}{g:Nat}{b:Bool}{r:List ae}{K:DS->Prop}(h:get g s.fr= .cy []):
 lG C (⟨dst,op,some (g,b)⟩::r) s K=lG C r (s.put dst ⟨True,.cy [],s.hp⟩) K:=by
 rw[xL,h]
theorem bt{C:jL}{dst:Option Nat}{op:aS}{g:Nat}{b:Bool}{r:List ae}{K:DS->Prop}{t:Bool}(_:get g s.fr= .bool t)
 (ht:t=true->lG C (⟨dst,op,some (g,b)⟩::r) s K) (hf:t=false->lG C (⟨dst,op,some (g,b)⟩::r) s K):lG C (⟨dst,op,some (g,b)⟩::r) s K:=by
 cases t
 ·exact hf rfl
 ·exact ht rfl
theorem cN{c:DA}{a b:au}{t:Bool}(h:c.ev s.fr= .bool t)(ht:t=true->gO C h0 a Q s)(hf:t=false->gO C h0 b Q s):gO C h0 (.cond c a b) Q s:=by
 rw[br,h];cases t
 ·simpa using hf rfl
 ·simpa using ht rfl
theorem bp{c:DA}{a b:au}(h:c.ev s.fr= .FC)(ht:gO C h0 a Q s)(hf:gO C h0 b Q s):gO C h0 (.cond c a b) Q s:=by rw[br,h];exact⟨ht,hf⟩
end
def b2f:List DV->UInt8:=λe=>match e with|[.int _ n]=>UInt8.ofNat n.toNat|_=>0
theorem ak7{C:jL}{x:DA}{s:DS}:aw C (.b2s x) s=⟨(bf s.hp (x.ev s.fr)).pre/\(match x.ev s.fr with| .str _=>False|_=>True)/\(∀e∈(bf s.hp (x.ev s.fr)).es,∃n,e=[.int .u8 n]),.str ((bf s.hp (x.ev s.fr)).es.map b2f),s.hp⟩:=rfl
theorem getD_map{α:Type} [Inhabited α](f:α->List DV)(l:List α)(k:Nat)(h:k<l.length):(l.map f).getD k []=f (l.getD k default):=by simp[List.getD,h]
def aL(p:Prop):Prop:=p
theorem aL.to{p:Prop}(h:p):aL p:=h
theorem aL.of{p:Prop}(h:aL p):p:=h
end Go.Nk
set_option linter.all false
namespace Go.Nk
open Go.RowKit
def agb(res:List DR)(r:DV)(hp cJ:List ak):cq->DS->Prop
 | .exit _,_=>False
 |_,s=>(aW s res).1/\(aW s res).2=r/\r.rR hp.length=true/\cJ.length=hp.length/\(∃t,s.hp=cJ++t)/\∀(i:Nat) (o:ak),cJ[i]? =some o->hp[i]? =some o\/o.cut hp.length=o
section
variable {P:Program} {K F0:Nat->Prop} {σ0:Nat->Option Nat} {hp0:List ak} {N:Nat} {w0:World} {C:jL}
theorem aB.rR{F}{σ}{hp:List ak}{w}{d:DV}{v}(h:aB F σ hp w d v):d.rR hp.length=true:=by
 have key:∀cs:List DV,(∀(j:Nat) (d:DV),cs[j]? =some d->d.rR hp.length=true)->DV.HH hp.length cs=true:=by
  intro cs;induction cs with
  |nil=>intro _;rfl
  |cons c r ih=>intro h;simp only[DV.HH,Bool.and_eq_true];exact⟨h 0 c rfl,ih λj d hd=>h (j+1) d (by simpa using hd)⟩
 induction h with
 |undef v=>rfl
 |aN h=>
  induction h with
  |clo f cs vs hl vv hv hr ih=>exact key _ ih
  |_=>rfl
 |own h L off len v h1 hh ho=>simpa[DV.rR]using hh
 |ptr h L i j v h1 hh ho=>simpa[DV.rR]using hh
 |mp h v h1 hh ho=>simpa[DV.rR]using hh
 |agg cs vs hl vv hv hr ih=>exact key _ ih
 |cy cs vs hl vv hv hr ih=>exact key _ ih
 |clo f cs vs hl vv hv hr ih=>exact key _ ih
 |zY f cs vs hl vv hv hr ih=>exact key _ ih
theorem ak8 [Inhabited Env]{hp:List ak}{F:Nat->Prop}{σ:Nat->Option Nat}{w:World}(hs:bF K F σ hp w){i:Nat}{o:ak}(h:hp[i]? =some o):o.cut hp.length=o:=by
 unfold ak.cut;split
 ·rename_i hk;have ho:=hs.obj i o h;unfold fT at ho;rw[hk]at ho;obtain⟨g,_,_,_,c,ty,_,_,_,hb⟩:=ho;have:o.es.map (λr=>r.map (DV.cut hp.length))=o.es:=by
   refine List.ext_getElem? λi=> ?_;rw[List.getElem?_map];cases he:o.es[i]? with
   |none=>rfl
   |some e=>
    simp only[Option.map_some,Option.some.injEq];refine List.ext_getElem? λj=> ?_;rw[List.getElem?_map];cases hd:e[j]? with
    |none=>rfl
    |some d=>
     obtain⟨v,_,hv⟩:=hb i j d (by unfold cellAt;rw[he];exact hd);simp only[Option.map_some,DV.cut,hv.rR,if_true]
  rw[this]
 ·rfl
theorem FE [Inhabited Env](hC:C.ok P){f}{d:ay}{iy:List DV}{hp cJ:List ak}{r}(hm:qe P f iy.length d=true)
 (h:gO C hp.length d.code (agb d.res r hp cJ) ⟨aQ 0 iy,hp⟩):ie P f=true/\PS P f iy hp r cJ:=by
 obtain⟨lI,fn,c,hf,hb,hn,hc,hr⟩:=uC hm;refine⟨lI,λK F σ w args hs ha=> ?_⟩;refine yT hf hb (bV hC d.code c none 0 K F σ hp w _ _ _ w (.inl rfl) hc h (xZ hs ha hn)) (λs a w' pM hq=> ?_) (λid s h=>h);have Zi:=hq.elim id id;obtain⟨h1,rfl,h2,h3,⟨t,h4⟩,h5⟩:=Zi;have ak9:=pM.cut [] (some hp.length) (Nat.le_refl _);obtain⟨K',F',σ',C8,um,Zd,hN,pT,yU,yV⟩:=pM;obtain⟨v,hv,Cx⟩:=Ie um Zd hr h1;have e:(s.cut [] (some hp.length)).hp=cJ:=by
  simp only[DS.cut,h4];rw[List.take_append_of_le_length (by omega),List.take_of_length_le (by omega)];refine List.ext_getElem? λi=> ?_;rw[List.getElem?_map];cases hi:cJ[i]? with
  |none=>rfl
  |some o=>
   simp only[Option.map_some,Option.some.injEq];rcases h5 i o hi with h|h
   ·exact ak8 hs h
   ·exact h
 refine⟨v,hv,v,rfl,F',σ',?_,yU,?_,?_⟩
 ·have:=(um.weak C8).cut hp.length;simp only[DS.cut]at e;rwa[e]at this
 ·have hl:=yV.len;rw[<-e];refine⟨yV.mono,yV.bS,by simp[DS.cut];omega,λh o ho=> ?_⟩;obtain⟨o',h1,h2,h3⟩:=yV.ob h o ho;have fM:=ck ho;refine⟨o'.cut hp.length,?_,?_,?_⟩
  ·simp only[DS.cut];rw[List.getElem?_map,List.getElem?_take,if_pos (by omega),h1];rfl
  ·rw[(ff hp.length o').2.2];exact h2
  ·rw[(ff hp.length o').2.2,(ff hp.length o').1,(ff hp.length o').2.1];exact h3
 ·rw[<-e];exact Cx.cut h2
end
structure ij(ρ:Type) where
 o:Nat->ρ->ak
 c:ρ->ak
def fw(hp:List ak)(n m:Nat):Prop:=n<hp.length/\m<hp.length/\n≠m
section
variable {ρ α:Type} {T:ij ρ} {hp t:List ak} {n m:Nat} {v v':ρ}
def ij.is(T:ij ρ)(hp:List ak)(n m:Nat)(v:ρ):Prop:=hp[n]? =some (T.o m v)/\hp[m]? =some (T.c v)/\n≠m
def ij.put(T:ij ρ)(hp:List ak)(n m:Nat)(v:ρ):List ak:=(hp.set m (T.c v)).set n (T.o m v)
structure ij.ok(T:ij ρ):Prop where
 anG:∀m v m' v',T.o m v=T.o m' v'->m=m'
 anH:∀m v v',T.o m v=T.o m v'->T.c v=T.c v'->v=v'
 auk:∀m v k,m<k->(T.o m v).cut k=T.o m v
 aul:∀v k,(T.c v).cut k=T.c v
theorem OD{hp:List ak}{n}{o}(h:hp[n]? =some o):hp.set n o=hp:=by
 refine List.ext_getElem? λi=> ?_;rw[List.getElem?_set];split
 ·rename_i e;subst e;rw[h];simp[ck h]
 ·rfl
theorem ij.acK(h:T.is hp n m v):T.put hp n m v=hp:=by unfold ij.put;rw[OD h.2.1,OD h.1]
theorem ij.PV(h:T.is hp n m v):fw hp n m:=⟨ck h.1,ck h.2.1,h.2.2⟩
theorem ij.vi:(T.put hp n m v).length=hp.length:=by simp[ij.put]
theorem ij.akx:(T.put hp n m v++t).length=hp.length+t.length:=by simp[ij.put]
theorem ij.V0(k:fw hp n m):T.put (T.put hp n m v++t) n m v'=T.put hp n m v'++t:=by obtain⟨k1,k2,k3⟩:=k;unfold ij.put;rw[List.set_append_left _ _ (by simpa using k2),List.set_append_left _ _ (by simpa using k1)];congr 1;refine List.ext_getElem? λi=> ?_;by_cases h1:n=i<;>by_cases h2:m=i<;>simp_all []
theorem ij.ad8(k:fw hp n m):(T.put hp n m v++t)[n]? =some (T.o m v):=by obtain⟨k1,k2,k3⟩:=k;rw[List.getElem?_append_left (by simpa[ij.put]using k1)];simp[ij.put,k1]
theorem ij.ajq(k:fw hp n m):(T.put hp n m v++t)[m]? =some (T.c v):=by obtain⟨k1,k2,k3⟩:=k;rw[List.getElem?_append_left (by simpa[ij.put]using k2)];simp[ij.put,k2,k3]
theorem ij.ajr{o}:(T.put hp n m v++(o::t))[hp.length]? =some o:=by rw[List.getElem?_append_right (by simp[ij.put])];simp[ij.put]
theorem ij.UA{o}{t'}:(T.put hp n m v++(t++(o::t')))[hp.length+t.length]? =some o:=by rw[List.getElem?_append_right (by simp[ij.put])];simp[ij.put]
theorem ij.UB{o o'}{t'}:(T.put hp n m v++(t++(o::t'))).set (hp.length+t.length) o'=T.put hp n m v++(t++(o'::t')):=by rw[List.set_append_right _ _ (by simp[ij.put])];simp[ij.put]
theorem ij.Oc(k:fw hp n m):T.is (T.put hp n m v++t) n m v:=⟨ij.ad8 k,ij.ajq k,k.2.2⟩
theorem ij.aum{o o'}:(T.put hp n m v++(o::t)).set hp.length o'=T.put hp n m v++(o'::t):=by rw[List.set_append_right _ _ (by simp[ij.put])];simp[ij.put]
theorem ij.aun(k:fw hp n m)(h:T.c v'=T.c v):(T.put hp n m v++t).set n (T.o m v')=T.put hp n m v'++t:=by obtain⟨k1,k2,k3⟩:=k;rw[List.set_append_left _ _ (by simpa[ij.put]using k1)];unfold ij.put;rw[List.set_set,h]
theorem ij.auo(k:fw hp n m)(h:T.o m v'=T.o m v):(T.put hp n m v++t).set m (T.c v')=T.put hp n m v'++t:=by obtain⟨k1,k2,k3⟩:=k;rw[List.set_append_left _ _ (by simpa[ij.put]using k2)];unfold ij.put;rw[h];congr 1;refine List.ext_getElem? λi=> ?_;by_cases h1:n=i<;>by_cases h2:m=i<;>simp_all []
open Classical in
noncomputable def mE(T:ij ρ)(args:α->List DV)(f:ρ->α->Prop×DV×ρ):List DV->List ak->sj:=λa hp=>
 if h:∃x:Nat×Nat×ρ×α,a= .ptr x.1 1 0 0::args x.2.2.2/\T.is hp x.1 x.2.1 x.2.2.1 then
  ⟨(f h.choose.2.2.1 h.choose.2.2.2).1,(f h.choose.2.2.1 h.choose.2.2.2).2.1,T.put hp h.choose.1 h.choose.2.1 (f h.choose.2.2.1 h.choose.2.2.2).2.2⟩
 else no
theorem ala{args:α->List DV}(hT:T.ok)(ha:GK args)(f:ρ->α->Prop×DV×ρ)(hi:T.is hp n m v)(a:α):
 mE T args f (.ptr n 1 0 0::args a) hp=⟨(f v a).1,(f v a).2.1,T.put hp n m (f v a).2.2⟩:=by
 unfold mE;have hx:∃x:Nat×Nat×ρ×α,.ptr n 1 0 0::args a= .ptr x.1 1 0 0::args x.2.2.2/\T.is hp x.1 x.2.1 x.2.2.1:=⟨(n,m,v,a),rfl,hi⟩;rw[dif_pos hx];have hy:=hx.choose_spec;generalize hx.choose=y at hy;obtain⟨n',m',v',a'⟩:=y;obtain⟨h1,h2⟩:=hy;simp only[List.cons.injEq,DV.ptr.injEq,and_true]at h1;obtain⟨rfl,h3⟩:=h1;have:=ha _ _ h3;subst this;have e1:=Option.some.inj (hi.1.symm.trans h2.1);have e2:=hT.anG _ _ _ _ e1;simp only at e2;subst e2;have e3:=Option.some.inj (hi.2.1.symm.trans h2.2.1);have e4:=hT.anH _ _ _ e1 e3;simp only at e4;subst e4;rfl
theorem eM{args:α->List DV}(hT:T.ok)(ha:GK args)(f:ρ->α->Prop×DV×ρ)(k:fw hp n m)(a:α):
 mE T args f (.ptr n 1 0 0::args a) (T.put hp n m v++t)=⟨(f v a).1,(f v a).2.1,T.put hp n m (f v a).2.2++t⟩:=by
 rw[ala hT ha f (ij.Oc k),ij.V0 k]
def asa(T:ij ρ)(res:List DR)(r:DV)(hp:List ak)(n m:Nat)(v:ρ):cq->DS->Prop
 | .exit _,_=>False
 |_,s=>(aW s res).1/\(aW s res).2=r/\∃u t,s.hp=T.put hp n m u++t/\u=v
theorem Yy{res:List DR}{r:DV}{s:DS}:asa T res r hp n m v .normal s=((aW s res).1/\(aW s res).2=r/\∃u t,s.hp=T.put hp n m u++t/\u=v):=rfl
theorem xp{res}{r}{s:DS}:asa T res r hp n m v .ret s=((aW s res).1/\(aW s res).2=r/\∃u t,s.hp=T.put hp n m u++t/\u=v):=rfl
end
theorem XT{C}{h0}{c}{Q Q'}{s}(h:∀e s,Q e s->Q' e s)(k:gO C h0 c Q s):gO C h0 c Q' s:=by exact qv c Q Q' s h k
theorem g9.Xg [Inhabited Env]{P}{ps hs}{fn}{d:ay}{N}{ρ α}{T:ij ρ}{args:α->List DV}{f:ρ->α->Prop×DV×ρ}(hT:T.ok)(h1:uU P ps)(h2:uV P hs)(hm:qe P fn N d=true)
 (hN:∀a,(args a).length+1=N) (hr:∀v a k,((f v a).2.1).rR k=true)
 (k:∀n m hp v a,fw hp n m->(f v a).1->gO (jL.of ps hs) hp.length d.code (asa T d.res (f v a).2.1 hp n m (f v a).2.2) ⟨(0,.ptr n 1 0 0)::aQ 1 (args a),T.put hp n m v++[]⟩):g9 P fn (mE T args f):=by
 intro a hp bG;unfold mE at bG|-;split at bG
 ·rename_i hx;rw[dif_pos hx];have hy:=hx.choose_spec;generalize hx.choose=y at hy bG|-;obtain⟨n,m,v,b⟩:=y;obtain⟨rfl,hi⟩:=hy;simp only at hi bG|-;have h3:=ij.PV hi;have:=k n m hp v b h3 bG;rw[ij.acK hi,List.append_nil]at this;refine FE (aeQ h1 h2) (by rw[List.length_cons,hN];exact hm) (XT (λe s hq=> ?_) this);have key:((aW s d.res).1/\(aW s d.res).2=(f v b).2.1/\∃u t,s.hp=T.put hp n m u++t/\u=(f v b).2.2)->
   ((aW s d.res).1/\(aW s d.res).2=(f v b).2.1/\((f v b).2.1).rR hp.length=true/\(T.put hp n m (f v b).2.2).length=hp.length/\(∃t,s.hp=T.put hp n m (f v b).2.2++t)/\∀(i:Nat) (o:ak),(T.put hp n m (f v b).2.2)[i]? =some o->hp[i]? =some o\/o.cut hp.length=o):=by
   rintro⟨q1,q2,u,t,q3,rfl⟩
   refine⟨q1,q2,hr _ _ _,ij.vi,⟨t,q3⟩,λi o ho=> ?_⟩;simp only[ij.put,List.getElem?_set,List.length_set]at ho;split at ho
   ·simp only[h3.1,if_true,Option.some.injEq]at ho;subst ho;exact .inr (hT.auk _ _ _ h3.2.1)
   ·split at ho
    ·simp only[h3.2.1,if_true,Option.some.injEq]at ho;subst ho;exact .inr (hT.aul _ _)
    ·exact .inl ho
  cases e with
  |normal=>exact key hq
  |exit id=>exact hq.elim
  |ret=>exact key hq
 ·exact bG.elim
end Go.Nk
set_option linter.all false
namespace Go.Nk
theorem dP{α}(l:List α){k}(h:k<l.length):∃x,l[k]? =some x/\l.drop k=x::l.drop (k+1):=
 ⟨l[k],List.getElem?_eq_getElem h,List.drop_eq_getElem_cons h⟩
theorem ai{C:jL}{h0:Nat}{live:List Nat}{m:Option Nat}{c:au}{Q:cq->DS->Prop}{s:DS}{α σ:Type}(l:List α)(st:Nat->σ->DS)(R:Nat->List α->σ->Prop)(a0:σ)
 (hm:match m with|some k=>h0<=k|none=>True) (hs:s.cut live m=st 0 a0) (hi:R 0 l a0)
 (step:∀k x r a,k<l.length->l[k]? =some x->l.drop k=x::r->R k (x::r) a->gO C h0 c (cq.then (λs'=>∃a',s'.cut live m=st (k+1) a'/\R (k+1) r a') Q) (st k a))
 (last:∀k a,k=l.length->R k [] a->gO C h0 c (cq.then (λ_=>False) Q) (st k a)):gO C h0 (.loop live m c) Q s:=by
 refine gT (λx:Nat×σ=>st x.1 x.2) (λx=>x.1<=l.length/\R x.1 (l.drop x.1) x.2) (λx=>l.length-x.1) (0,a0) hm hs ⟨Nat.zero_le _,hi⟩ λx hx=> ?_;obtain⟨k,a⟩:=x;obtain⟨hk,hr⟩:=hx;simp only at hk hr|-;by_cases d:k<l.length
 ·obtain⟨x,e1,e2⟩:=dP l d;rw[e2]at hr;refine qv c _ _ _ (λe s' hh=> ?_) (step k x _ a d e1 e2 hr);cases e with
  |normal=>
   obtain⟨a',h1,h2⟩:=hh;exact⟨(k+1,a'),h1,⟨d,h2⟩,by simp only;omega⟩
  |exit id=>exact hh
  |ret=>exact hh
 ·have e:k=l.length:=by omega
  rw[e,List.drop_length,<-e]at hr;refine qv c _ _ _ (λe s' hh=> ?_) (last k a e hr);cases e with
  |normal=>exact hh.elim
  |exit id=>exact hh
  |ret=>exact hh
def tH{n}(h1: -9223372036854775808<=n)(h2:n<9223372036854775808):=show IntKind.i64.wrap n=_ from ig ⟨h1,h2⟩
theorem VF{n:Int}(h1:0<=n)(h2:n<18446744073709551616):IntKind.u64.wrap n=n:=Ze ⟨h1,h2⟩
theorem aev{n:Int}(h1:0<=n)(h2:n<256):IntKind.u8.wrap n=n:=acG ⟨h1,h2⟩
def getD_map'{α} [Inhabited α](f:α->List DV)(l:List α)(n:Int)(h0:0<=n)(h:n<l.length):=show(l.map f).getD n.toNat []=_ from getD_map f l _ (by omega)
theorem mc{α}{l:List α}{k}{x:α}{r}(h:l.drop k=x::r):x∈l:=List.mem_of_mem_drop (h▸List.mem_cons_self)
open Classical in
noncomputable def aeR{α:Type}(args:α->List DV)(f:α->Prop×DV):List DV->Prop×DV:=λl=>
 if h:∃a,l=args a then f h.choose else(False,.undef)
theorem aF.mkA [Inhabited Env]{P}{ps hs}{g}{d:ay}{N}{α}{args:α->List DV}{f:α->Prop×DV}(h1:uU P ps)(h2:uV P hs)(hm:qe P g N d=true)
 (hN:∀a,(args a).length=N) (k:∀a,(f a).1->gO (jL.of ps hs) 0 d.code (yH d.res (f a).2) ⟨aQ 0 (args a),[]⟩):aF P g (aeR args f):=by
 refine aF.mk h1 h2 hm λl hp=> ?_;unfold aeR at hp|-;split at hp
 ·rename_i h;rw[dif_pos h];have hx:=h.choose_spec;have:=k _ hp;generalize h.choose=a at*;subst hx;exact⟨hN a,this⟩
 ·exact hp.elim
open Classical in
noncomputable def m7{α:Type}(r:α->List DV->List ak->Prop)(f:α->Prop×DV)(out:α->List ak->List ak):List DV->List ak->sj:=λa hp=>
 if h:∃x,r x a hp then⟨(f h.choose).1,(f h.choose).2,out h.choose hp⟩else no
theorem jJ{α}{r:α->List DV->List ak->Prop}{f:α->Prop×DV}{out:α->List ak->List ak}(hu:∀x y a hp,r x a hp->r y a hp->x=y){x:α}{a}{hp}(h:r x a hp):
 m7 r f out a hp=⟨(f x).1,(f x).2,out x hp⟩:=by
 unfold m7;have hx:∃y,r y a hp:=⟨x,h⟩;rw[dif_pos hx];have hy:=hx.choose_spec;generalize hx.choose=y at hy|-;rw[hu _ _ _ _ hy h]
theorem g9.mkG [Inhabited Env]{P}{ps hs}{fn}{d:ay}{N}{α}{r:α->List DV->List ak->Prop}{f:α->Prop×DV}{out:α->List ak->List ak}(h1:uU P ps)(h2:uV P hs)(hm:qe P fn N d=true)
 (hN:∀x a hp,r x a hp->a.length=N) (k:∀x a hp,r x a hp->(f x).1->gO (jL.of ps hs) hp.length d.code (agb d.res (f x).2 hp (out x hp)) ⟨aQ 0 a,hp⟩):g9 P fn (m7 r f out):=by
 intro a hp bG;unfold m7 at bG|-;split at bG
 ·rename_i hx;rw[dif_pos hx];have hy:=hx.choose_spec;generalize hx.choose=y at hy bG|-;exact FE (aeQ h1 h2) (by rw[hN _ _ _ hy];exact hm) (k _ _ _ hy bG)
 ·exact bG.elim
theorem g9.anF [Inhabited Env]{P}{ps hs}{fn}{d:ay}{N}{α}{r:α->List DV->List ak->Prop}{f:α->Prop×DV}{out:α->List ak->List ak}(h1:uU P ps)(h2:uV P hs)(hm:qe P fn N d=true)
 (hN:∀x a hp,r x a hp->a.length=N) (k:∀x a hp,r x a hp->(f x).1->gO (jL.of ps hs) hp.length d.code (ak4 d.res (f x).2 (out x hp)) ⟨aQ 0 a,hp⟩):g9 P fn (m7 r f out):=by
 refine g9.mk h1 h2 hm λa hp bG=> ?_;unfold m7 at bG|-;split at bG
 ·rename_i hx;rw[dif_pos hx];have hy:=hx.choose_spec;generalize hx.choose=y at hy bG|-;exact⟨hN _ _ _ hy,k _ _ _ hy bG⟩
 ·exact bG.elim
theorem lk{hp t:List ak}{o}:(hp++(o::t))[hp.length]? =some o:=by rw[List.getElem?_append_right (by simp)];simp
theorem ajj{hp t:List ak}{o b}:(hp++(b::o::t))[hp.length+1]? =some o:=by rw[List.getElem?_append_right (by simp)];simp
theorem lp{hp t:List ak}{o o'}:(hp++(o::t)).set hp.length o'=hp++(o'::t):=by rw[List.set_append_right _ _ (by simp)];simp
theorem ajk{hp t:List ak}{o b o'}:(hp++(b::o::t)).set (hp.length+1) o'=hp++(b::o'::t):=by rw[List.set_append_right _ _ (by simp)];simp
theorem Zj{res:List DR}{r:DV}{hp cJ:List ak}{s:DS}:agb res r hp cJ .normal s=((aW s res).1/\(aW s res).2=r/\r.rR hp.length=true/\cJ.length=hp.length/\(∃t,s.hp=cJ++t)/\∀(i:Nat) (o:ak),cJ[i]? =some o->hp[i]? =some o\/o.cut hp.length=o):=rfl
theorem alb{res}{r:DV}{hp cJ:List ak}{s:DS}:agb res r hp cJ .ret s=((aW s res).1/\(aW s res).2=r/\r.rR hp.length=true/\cJ.length=hp.length/\(∃t,s.hp=cJ++t)/\∀(i:Nat) (o:ak),cJ[i]? =some o->hp[i]? =some o\/o.cut hp.length=o):=rfl
def one(hp:List ak)(m:Nat)(o:ak):List ak:=hp.set m o
section
variable {hp t t':List ak} {m:Nat} {o o' b:ak}
theorem aeS{z}{es}{k}:(ak.mk .aN z es).cut k=⟨.aN,z,es⟩:=rfl
end
theorem ij.aeT{ρ}{T:ij ρ}{hp:List ak}{n m}{v:ρ}(h1:(T.o m v).cut hp.length=T.o m v)(h2:(T.c v).cut hp.length=T.c v):∀(i:Nat) (x:ak),(T.put hp n m v)[i]? =some x->hp[i]? =some x\/x.cut hp.length=x:=by
 intro i x hx;simp only[ij.put,List.getElem?_set,List.length_set]at hx;split at hx
 ·split at hx
  ·injection hx with hx;subst hx;exact .inr h1
  ·cases hx
 ·split at hx
  ·split at hx
   ·injection hx with hx;subst hx;exact .inr h2
   ·cases hx
  ·exact .inl hx
def rP:=And.intro @YR (And.intro @aex (And.intro @YP (And.intro @YQ (And.intro @aeA (And.intro @S3 (And.intro @YO (And.intro @aey (And.intro @agY (And.intro @agZ (And.intro @agV (And.intro @ak7 (And.intro @LM (And.intro @S4 (And.intro @YS (And.intro @Bi (And.intro @HZ (And.intro @LL @aez)))))))))))))))))
def rT:=And.intro @false_and (And.intro @and_false (And.intro @if_false.{1} (And.intro @ite_true.{1} (And.intro @ite_false.{1} (And.intro @List.cons_append.{0} (And.intro @List.take_succ_cons.{0} (And.intro @List.drop_succ_cons.{0} (And.intro @List.take_zero.{0} (And.intro @List.take_nil.{0} (And.intro @YH (And.intro @SX (And.intro @SZ (And.intro @SY (And.intro @YI (And.intro @S0 (And.intro @acH (And.intro @acI (And.intro @acJ (And.intro @YL (And.intro @YK (And.intro @auZ (And.intro @auY (And.intro @LH (And.intro @YJ (And.intro @LG (And.intro @Pv (And.intro @cw (And.intro @Nk.get_nil (And.intro @if_true.{1} (And.intro @Nat.succ_ne_self (And.intro @true_and (And.intro @and_true (And.intro @Bool.not_true (And.intro @akz (And.intro @akA (And.intro @akB (And.intro @akC (And.intro @bne_self_eq_false.{0} (And.intro @Bool.not_false (And.intro @List.map_cons.{0,0} (And.intro @List.map_nil.{0,0} (And.intro @Option.map_some.{0,0} (And.intro @Option.map_none.{0,0} (And.intro @false_implies (And.intro @Bool.true_eq_false (And.intro @Int.toNat_natCast (And.intro @Nat.zero_ne_one (And.intro @Nat.one_ne_zero (And.intro @List.length_cons.{0} (And.intro @List.length_nil.{0} (And.intro @List.getD_cons_zero.{0} (And.intro @List.getD_cons_succ.{0} (And.intro @Nat.lt_add_one (And.intro @Nat.zero_lt_one (And.intro @Nat.zero_add (And.intro @decide_eq_true_eq (And.intro @decide_eq_false_iff_not (And.intro @Int.ofNat_lt (And.intro @ou @au1)))))))))))))))))))))))))))))))))))))))))))))))))))))))))))
def rU:=And.intro @au0 (And.intro @Px (And.intro @Pw (And.intro @Gq (And.intro @S1 (And.intro @S2 (And.intro @Pz (And.intro @LI (And.intro @LJ (And.intro @LK (And.intro @aH (And.intro @List.all_cons.{0} (And.intro @List.all_nil.{0} (And.intro @Bool.and_true (And.intro @Bool.and_false (And.intro @Bool.true_and (And.intro @Bool.false_and (And.intro @not_true_eq_false (And.intro @not_false_eq_true (And.intro @List.getElem?_cons_zero.{0} (And.intro @List.getElem?_cons_succ.{0} (And.intro @List.set_cons_zero.{0} (And.intro @List.set_set.{0} (And.intro @List.set_cons_succ.{0} (And.intro @List.drop_zero.{0} (And.intro @List.take_length.{0} (And.intro @List.not_mem_nil.{0} (And.intro @List.forall_mem_cons.{0} (And.intro @List.nil_append.{0} (And.intro @true_or (And.intro @or_true (And.intro @or_false (And.intro @false_or (And.intro @or_self (And.intro @beq_self_eq_true.{0} (And.intro @List.length_set.{0} (And.intro @List.length_append.{0} (And.intro @List.length_replicate.{0} (And.intro @decide_true (And.intro @decide_false (And.intro @gt_iff_lt.{0} (And.intro @ge_iff_le.{0} (And.intro @YN (And.intro @YM (And.intro @Py (And.intro @List.getElem?_nil.{0} (And.intro @ne_eq.{1} (And.intro @DV.cy.injEq (And.intro @DV.int.injEq (And.intro @DV.bool.injEq (And.intro @DV.agg.injEq (And.intro @DV.str.injEq (And.intro @List.cons.injEq.{0} (And.intro @Int.cast_ofNat_Int (And.intro @Nat.zero_mul (And.intro @Nat.mul_one (And.intro @List.length_map.{0,0} (And.intro @Nat.lt_irrefl (And.intro @Int.lt_irrefl (And.intro @Zj @alb)))))))))))))))))))))))))))))))))))))))))))))))))))))))))))
end Go.Nk
