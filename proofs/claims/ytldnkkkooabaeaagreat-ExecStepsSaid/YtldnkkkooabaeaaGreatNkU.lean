/- Every order of a region that draws comes to what the order of the text comes to. -/
import Derived.Test.YtldnkkkooabaeaaGreatNkR
import Derived.Deep.LoopGhost
import Derived.Scope
import Derived.Below
import Derived.ChangeSame
import Derived.ChangeReads
import Derived.ChangeArms
import Derived.Deep.Slices
import Derived.OpenShut
set_option linter.all false
namespace Go.Nk
open Go.RowKit
noncomputable def aG(C:dJ)(d:af)(s:DS):o9:=
 match d.guard with
 |none=>aB C d.op s
 |some (g,b)=>match get g s.R with
  | .bool b'=>if b'=b then aB C d.op s else⟨True,.b9 [],s.B⟩
  | .b9 []=>⟨True,.b9 [],s.B⟩
  |_=>no
theorem jQ(C:dJ)(d:af)(s:DS)(K:DS->Prop):rh C d s K↔(aG C d s).pre/\K (s.put d.dst (aG C d s)):=by
 unfold rh aG;cases d.guard with
 |none=>exact Iff.rfl
 |some gb=>
  grind[get,bool,no]
theorem HC(C:dJ)(d:af){R yt:List (Nat×J)}(B:List ae)(h:∀n∈d.looks,get n R=get n yt):aG C d ⟨R,B⟩=aG C d ⟨yt,B⟩:=by
 unfold aG;have h1:aB C d.op ⟨R,B⟩=aB C d.op ⟨yt,B⟩:=acU C d.op B λn hn=>h n (List.mem_append_left _ hn);cases hg:d.guard with
 |none=>exact h1
 |some gb=>
  obtain⟨g,b⟩:=gb;have h2:get g R=get g yt:=h g (List.mem_append_right _ (by rw[hg];simp));simp_all
theorem aAV(C:dJ)(d:af)(R:List (Nat×J))(B:List ae)(hk:d.op.bT=0)(h:(aG C d ⟨R,B⟩).pre):
 (aG C d ⟨R,B⟩).B=B/\∀eZ,(aG C d ⟨R,eZ⟩).pre/\(aG C d ⟨R,eZ⟩).val=(aG C d ⟨R,B⟩).val/\(aG C d ⟨R,eZ⟩).B=eZ:=by
 unfold aG at h|-;cases hg:d.guard with
 |none=>grind[ap9]
 |some gb=>
  obtain⟨g,b⟩:=gb;simp only[hg]at h|-;cases Ud:get g R with
  |bool b'=>
   simp only[Ud]at h|-;by_cases hb:b'=b
   .simp only[gr hb]at h|-;exact ap9 C d.op R B hk h
   simp_all
  |b9 vs=>grind[no]
  |_=>simp only[Ud,no]at h
theorem Py(C:dJ)(d:af)(R:List (Nat×J))(B eZ:List ae)(hf:Fz B eZ)(hk:d.op.bT=1):
 ((aG C d ⟨R,eZ⟩).pre↔(aG C d ⟨R,B⟩).pre)/\((aG C d ⟨R,B⟩).pre->(aG C d ⟨R,eZ⟩).val=(aG C d ⟨R,B⟩).val/\(aG C d ⟨R,B⟩).B=B/\(aG C d ⟨R,eZ⟩).B=eZ):=by
 have Q8:d.op.bT≠0/\d.op.bT≠7/\d.op.bT≠8/\d.op.bT≠9/\d.op.bT≠10:=by omega
 obtain⟨k1,k2,k3⟩:=xx C d.op R B eZ hf ((rp Q8).symm.trans hk);unfold aG;simp only[tG Q8];cases hg:d.guard with
 |none=>simp_all
 |some gb=>
  obtain⟨g,b⟩:=gb;simp only;cases Ud:get g R with
  |bool b'=>
   grind
  |b9 vs=>grind[no]
  |_=>simp[no]
theorem yE(C:dJ)(d:af)(R:List (Nat×J))(B:List ae)(hk:d.op.bT=2)(h:(aG C d ⟨R,B⟩).pre):Fz B (aG C d ⟨R,B⟩).B:=by
 have Q8:d.op.bT≠0/\d.op.bT≠7/\d.op.bT≠8/\d.op.bT≠9/\d.op.bT≠10:=by omega
 unfold aG at h|-;simp only[tG Q8]at h|-;cases hg:d.guard with
 |none=>grind[avJ,rp]
 |some gb=>
  obtain⟨g,b⟩:=gb;simp only[hg]at h|-;cases Ud:get g R with
  |bool b'=>
   simp only[Ud]at h|-;by_cases hb:b'=b
   .simp only[gr hb]at h|-;grind[avJ,rp]
   .simp only[ba hb];exact .refl _
  |b9 vs=>cases vs with
   |nil=>exact .refl _
   |cons=>simp only[Ud,no]at h
  |_=>simp only[Ud,no]at h
theorem bY(C:dJ)(d:af)(R:List (Nat×J)){B:List ae}(h:(aG C d ⟨R,B⟩).pre):
 ((∀eZ,aG C d ⟨R,eZ⟩=aB C d.op ⟨R,eZ⟩))\/(∀eZ,aG C d ⟨R,eZ⟩=⟨True,.b9 [],eZ⟩):=by
 unfold aG at h|-;cases hg:d.guard with
 |none=>simp_all
 |some gb=>
  obtain⟨g,b⟩:=gb;simp only[hg]at h|-;cases Ud:get g R with
  |bool b'=>
   grind
  |b9 vs=>cases vs with
   |nil=>simp_all
   |cons=>simp only[Ud,no]at h
  |_=>simp only[Ud,no]at h
theorem Xq(C:dJ)(d:af)(R:List (Nat×J))(B:List ae)(hk:d.op.bT=7)(h:(aG C d ⟨R,B⟩).pre):(aG C d ⟨R,B⟩).B=B:=by
 rcases bY C d R h with e|e
 .rw[e];cases Z:d.op<;>rw[Z]at hk<;>first|(cases hk;done)|rfl|skip
  all_goals exact absurd hk (by simp[aT.bT,aT.kind])
 .rw[e]
def S4:aT->BI
 | .load _ (.t n)| .q0 _ (.t n)| .re (.t n)| .len (.t n)=>some n
 | .ra _ (.t n) _| .mo _ _ (.t n) _| .SL (.t n) _=>some n
 |_=>none
theorem acV{d:aT}{n:Nat}(h:S4 d=some n):d.bT=1:=by cases d<;>first|rfl|simp[S4]at h
theorem acW(C:dJ)(d:aT){n:Nat}(hv:S4 d=some n)(R:List (Nat×J)){B cU:List ae}(h:∀h',vw (get n R)=some h'->cU[h']? =B[h']?):
 (au C d ⟨R,cU⟩).pre=(au C d ⟨R,B⟩).pre/\(au C d ⟨R,cU⟩).val=(au C d ⟨R,B⟩).val:=by
 have hc:aH cU (get n R)=aH B (get n R):=by
  unfold aH;split
  .rfl
  next e=>rw[h _ (by rw[e];rfl)]
  .rfl
 have ha:∀h' L,vw (get n R)=some h'->alive cU h' L=alive B h' L:=λh' L e=>by unfold alive;rw[h _ e]
 cases d<;>simp only[S4,reduceCtorEq]at hv;case SL m k=>
  cases m<;>simp only[GB,reduceCtorEq]at hv;subst hv;rename_i n;have:dH cU (get n R)=dH B (get n R):=by unfold dH;cases e:get n R<;>simp only;rw[h _ (by rw[e];rfl)]
  have e2:(DA.t n).ev R=get n R:=rfl;simp only[au,e2,this];grind
 case load s x=>cases x<;>simp only[GB,reduceCtorEq]at hv;simp_all[au,DA.ev,trivial]
 case q0 o x=>
  cases x<;>simp only[GB,reduceCtorEq]at hv;subst hv;simp only[au,DA.ev];split
  .simp_all
  next e=>exact⟨ha _ _ (by rw[e];rfl),rfl⟩
  simp_all
 case re x=>
  cases x<;>simp only[GB,reduceCtorEq]at hv;subst hv;simp only[au,DA.ev];split
  next e=>exact⟨ha _ _ (by rw[e];rfl),rfl⟩
  all_goals simp_all
 case len x=>
  cases x<;>simp only[GB,reduceCtorEq]at hv;subst hv;simp only[au,DA.ev];split
  .simp_all
  .simp_all
  next e=>exact⟨ha _ _ (by rw[e];rfl),rfl⟩
  simp_all
 case mo m z x i=>
  cases x<;>simp only[GB,reduceCtorEq]at hv;subst hv;simp only[au,DA.ev];split
  .simp_all
  .rename_i e _;exact⟨C2 (·/\_) (ha _ _ (by rw[e];rfl)),rfl⟩
  simp_all
 case ra z x i=>
  cases x<;>simp only[GB,reduceCtorEq]at hv;subst hv;simp only[au,DA.ev];split
  .simp_all
  next e _=>rw[h _ (by rw[e];rfl)];grind
  simp_all
theorem atT{lo:Nat}{x y:ae}(h:Ou lo (some x) (some y))(i j:Nat)(hj:j<lo):((y.es.getD i []).drop j).getD 0 .undef=((x.es.getD i []).drop j).getD 0 .undef:=by have:=C2 (λl=>l[j]?) (h.2.2.2 i).2;simp_all
theorem aqc{lo:Nat}{x y:ae}(h:Ou lo (some x) (some y))(i j n:Nat)(hj:j+n<=lo):((y.es.getD i []).drop j).take n=((x.es.getD i []).drop j).take n:=by have:=C2 (λl=>(l.drop j).take n) (h.2.2.2 i).2;simp only[List.drop_take,List.take_take]at this;grind
theorem atU(C:dJ)(d:aT)(lo:Nat)(R:List (Nat×J)){o:BI}{B cU:List ae}(h:wW o lo B cU)(hv:sJ lo R d):
 (au C d ⟨R,cU⟩).pre=(au C d ⟨R,B⟩).pre/\(au C d ⟨R,cU⟩).val=(au C d ⟨R,B⟩).val:=by
 have hl:∀k,cU[k]? =B[k]? \/Ou lo B[k]? cU[k]? :=λk=>by
  by_cases e:o=some k
  .exact .inr ((h k).2 e)
  .exact .inl ((h k).1 e)
 have ha:∀k L,alive cU k L=alive B k L:=λk L=>by grind[alive,Ou]
 cases d<;>simp only[sJ]at hv;case q0 off x=>
  simp only[au];grind
 case re x=>
  simp only[au];grind
 case len x=>
  simp only[au];grind
 case mo n z x i=>
  simp only[au];grind
 case ra z x i=>
  simp only[au];cases U:x.ev R<;>cases i.ev R<;>simp only<;>try exact⟨BB,BB⟩
  rename_i k L off len _ _;rcases hl k with e|e
  .grind
  .cases Y:B[k]? <;>cases e2:cU[k]? <;>simp only[Y,e2,Ou]at e|-;all_goals simp_all
 case load sz x=>
  simp only[au,bw];cases U:x.ev R;case ptr k L i j=>
   rcases hl k with e|e
   .simp_all[aH,trivial]
   .cases Y:B[k]? <;>cases e2:cU[k]? <;>simp only[Y,e2,Ou]at e
    .simp_all[aH,trivial]
    .rename_i x1 y1;have e':Ou lo (some x1) (some y1):=e;have yH:=(e.2.2.2 i).1;simp only[aH,Y,e2,e.1];by_cases Z:x1.k= .dead
     .simp_all
     .rw[ba Z,ba Z];cases sz with
      |none=>
       simp only[sJ,U]at hv;simp only[atT e' i j hv,S0,yH,e.2.2.1];simp_all
      |some n=>
       simp only[sJ,U]at hv;simp only[aqc e' i j n hv,S0,yH,e.2.2.1];simp_all
  all_goals(simp only[aH];first|exact⟨rfl,rfl⟩|exact⟨BB,BB⟩)
theorem acX(C:dJ)(d:aT)(R:List (Nat×J))(B:List ae)(hk:d.kind=1)(h:(au C d ⟨R,B⟩).pre):(au C d ⟨R,B⟩).B=B:=
 (xx C d R B B (.refl _) hk).2.2 h|>.1
theorem axP(C:dJ)(d:aT){n:Nat}(hv:S4 d=some n)(R:List (Nat×J)){B:List ae}(bE:(au C d ⟨R,B⟩).pre){h':Nat}(e:vw (get n R)=some h'):h'<B.length:=by
 rcases GK h' B.length with c|c
 .exact c
 have hn:B[h']? =none:=XO c;exfalso;cases d<;>simp only[S4,reduceCtorEq]at hv;case load sz x=>
  cases x<;>simp only[GB,reduceCtorEq]at hv;subst hv;revert bE;simp only[au,bw,DA.ev];revert e;cases get _ R<;>simp only[vw,GB,reduceCtorEq,Kc];all_goals first|(rintro rfl;simp only[aH,hn];cases sz<;>simp;done)|(intro _;cases sz<;>simp[aH])
 case q0 o x=>
  cases x<;>simp only[GB,reduceCtorEq]at hv;subst hv;revert bE;simp only[au,DA.ev];revert e;cases get _ R<;>simp only[vw,GB,reduceCtorEq,Kc];all_goals first|(rintro rfl;simp[alive,hn,no];done)|(intro _;simp[no])
 case re x=>
  cases x<;>simp only[GB,reduceCtorEq]at hv;subst hv;revert bE;simp only[au,DA.ev];revert e;cases get _ R<;>simp only[vw,GB,reduceCtorEq,Kc];all_goals first|(rintro rfl;simp[alive,hn,no];done)|(intro _;simp[no])
 case len x=>
  cases x<;>simp only[GB,reduceCtorEq]at hv;subst hv;revert bE;simp only[au,DA.ev];revert e;cases get _ R<;>simp only[vw,GB,reduceCtorEq,Kc];all_goals first|(rintro rfl;simp[alive,hn,no];done)|(intro _;simp[no])
 case mo m z x i=>
  cases x<;>simp only[GB,reduceCtorEq]at hv;subst hv;revert bE;simp only[au];rw[show(DA.t _).ev R=get _ R from rfl];revert e;cases get _ R<;>simp only[vw,GB,reduceCtorEq,Kc];all_goals first|(rintro rfl;cases i.ev R<;>simp[alive,hn,no];done)|(intro _;cases i.ev R<;>simp[no])
 case ra z x i=>
  cases x<;>simp only[GB,reduceCtorEq]at hv;subst hv;revert bE;simp only[au];rw[show(DA.t _).ev R=get _ R from rfl];revert e;cases get _ R<;>simp only[vw,GB,reduceCtorEq,Kc];all_goals first|(rintro rfl;cases i.ev R<;>simp[hn,no];done)|(intro _;cases i.ev R<;>simp[no])
 case SL m k=>
  cases m<;>simp only[GB,reduceCtorEq]at hv;subst hv;rename_i n;have e2:(DA.t n).ev R=get n R:=rfl;simp only[au,e2]at bE;revert bE;revert e;cases get n R<;>simp only[vw,GB,reduceCtorEq,Kc];all_goals first|(rintro rfl;cases k.ev R<;>simp[dH,hn,no];done)|(intro _;cases k.ev R<;>simp[dH,no])
theorem aE0(C:dJ)(d:af){n:Nat}(hv:S4 d.op=some n)(R:List (Nat×J)){B cU:List ae}(h:∀h',vw (get n R)=some h'->h'<B.length->cU[h']? =B[h']?)(bE:(aG C d ⟨R,B⟩).pre):
 (aG C d ⟨R,cU⟩).pre/\(aG C d ⟨R,cU⟩).val=(aG C d ⟨R,B⟩).val/\(aG C d ⟨R,cU⟩).B=cU:=by
 have hk:=acV hv;have Q8:d.op.bT≠0/\d.op.bT≠7/\d.op.bT≠8/\d.op.bT≠9/\d.op.bT≠10:=by omega
 rcases bY C d R bE with e|e
 .grind[tG,acW,axP,au,rp,acX]
 simp_all
theorem aE1(C:dJ)(d:af){b:Nat}{e:aT}(Z:d.op= .to b e)(R:List (Nat×J))(B:List ae)(h:(aG C d ⟨R,B⟩).pre):RB (vw (get b R)) B (aG C d ⟨R,B⟩).B:=by
 rcases bY C d R h with k|k
 .rw[k,Z]at h;rw[k,Z];exact h.2
 .rw[k];exactλ_ _ _=>rfl
theorem aAW(C:dJ)(d:af){lo:Nat}{e:aT}(Z:d.op= .rk lo e)(R:List (Nat×J))(B:List ae)(h:(aG C d ⟨R,B⟩).pre):
 (aG C d ⟨R,B⟩).B=B:=by
 rcases bY C d R h with k|k
 .rw[k,Z];rfl
 .rw[k]
theorem aAX(C:dJ)(d1 d2:af){lo Ve b:Nat}{Y e2:aT}(h1:d1.op= .rk lo Y)(h2:d2.op= .tk b Ve e2)(hl:lo<=Ve)(R:List (Nat×J))(B:List ae)(p1:(aG C d1 ⟨R,B⟩).pre)(p2:(aG C d2 ⟨R,B⟩).pre):
 (aG C d1 ⟨R,(aG C d2 ⟨R,B⟩).B⟩).pre/\(aG C d1 ⟨R,(aG C d2 ⟨R,B⟩).B⟩).val=(aG C d1 ⟨R,B⟩).val/\(aG C d1 ⟨R,(aG C d2 ⟨R,B⟩).B⟩).B=(aG C d2 ⟨R,B⟩).B:=by
 rcases bY C d1 R p1 with k|k
 .rw[k,h1]at p1;rw[k,k,h1];have hh:∃o,wW o Ve B (aG C d2 ⟨R,B⟩).B:=by
   rcases bY C d2 R p2 with q|q
   .rw[q,h2]at p2|-;exact⟨_,p2.2⟩
   .rw[q];exact⟨none,λh=>⟨λ_=>rfl,λe=>(by cases e)⟩⟩
  obtain⟨o,ho⟩:=hh;have aE2:∀{d R},sJ lo R d->sJ Ve R d:=λ{d R} hv=>by cases d<;>simp only[sJ]at hv|-;case load s x=>cases s<;>simp only[sJ]at hv|- <;>split<;>simp_all<;>omega
  have e:=atU C Y Ve R ho (aE2 p1.2.1);have hk:Y.kind=1:=by have:=p1.2.1;cases Y<;>simp only[sJ]at this<;>rfl
  have eZ:(au C Y ⟨R,(aG C d2 ⟨R,B⟩).B⟩).pre:=by rw[e.1];exact p1.1
  exact⟨⟨eZ,p1.2.1,acX C Y R _ hk eZ⟩,e.2,rfl⟩
 simp_all
--@C<
theorem Xr(C:dJ)(d:af){z:Nat}{e:aT}(Z:d.op= .rz z e)(R:List (Nat×J))(B:List ae)(h:(aG C d ⟨R,B⟩).pre):
 (aG C d ⟨R,B⟩).B=B:=by
 rcases bY C d R h with k|k
 .rw[k,Z];rfl
 .rw[k]
theorem yJ(C:dJ)(d:af){z:Nat}{e:aT}(Z:d.op= .rz z e)(R:List (Nat×J)){B cU:List ae}(h:∀(i:Nat) (o:ae),B[i]? =some o->o.k≠ .dead->o.z≠z->cU[i]? =some o)(bE:(aG C d ⟨R,B⟩).pre):
 (aG C d ⟨R,cU⟩).pre/\(aG C d ⟨R,cU⟩).val=(aG C d ⟨R,B⟩).val/\(aG C d ⟨R,cU⟩).B=cU:=by
 rcases bY C d R bE with k|k
 .rw[k,Z]at bE;rw[k,k,Z];simp only[aB]at bE|-;obtain⟨h1,h2⟩:=bE;have key:∀n,S4 e=some n->R0 z B (get n R)->(au C e ⟨R,cU⟩).pre=(au C e ⟨R,B⟩).pre/\(au C e ⟨R,cU⟩).val=(au C e ⟨R,B⟩).val/\R0 z cU (get n R):=λn hn hz=>by
   have Xl:∀h',vw (get n R)=some h'->cU[h']? =B[h']? :=λh' e'=>by grind[R0]
   grind[acW,R0,vw,get]
  have hv:∃n,S4 e=some n/\∀eZ,O7 z ⟨R,eZ⟩ e=R0 z eZ (get n R):=by
   cases e;case load s x=>cases x<;>first|exact⟨_,rfl,λ_=>rfl⟩|exact False.elim h2
   case q0 s x=>cases x<;>first|exact⟨_,rfl,λ_=>rfl⟩|exact False.elim h2
   case re x=>cases x<;>first|exact⟨_,rfl,λ_=>rfl⟩|exact False.elim h2
   case len x=>cases x<;>first|exact⟨_,rfl,λ_=>rfl⟩|exact False.elim h2
   case ra n x y=>cases x<;>first|exact⟨_,rfl,λ_=>rfl⟩|exact False.elim h2
   case mo n m x y=>cases x<;>first|exact⟨_,rfl,λ_=>rfl⟩|exact False.elim h2
   all_goals exact False.elim h2
  grind
 simp_all
theorem axQ(C:dJ)(d:af){z:Nat}{e:aT}(Z:d.op= .rz z e)(R:List (Nat×J)){B lO:List ae}(t:List ae)(hf:Fz B lO)(bE:(aG C d ⟨R,B⟩).pre):
 (aG C d ⟨R,lO++t⟩).pre/\(aG C d ⟨R,lO++t⟩).val=(aG C d ⟨R,B⟩).val/\(aG C d ⟨R,lO++t⟩).B=lO++t:=by
 rcases bY C d R bE with k|k
 .rw[k,Z]at bE;rw[k,k,Z];simp only[aB]at bE|-;obtain⟨h1,h2⟩:=bE;have hv:e.kind=1/\∃n,∀eZ,O7 z ⟨R,eZ⟩ e=R0 z eZ (get n R):=by
   cases e;case load s x=>cases x<;>first|exact⟨rfl,_,λ_=>rfl⟩|exact False.elim h2
   case q0 s x=>cases x<;>first|exact⟨rfl,_,λ_=>rfl⟩|exact False.elim h2
   case re x=>cases x<;>first|exact⟨rfl,_,λ_=>rfl⟩|exact False.elim h2
   case len x=>cases x<;>first|exact⟨rfl,_,λ_=>rfl⟩|exact False.elim h2
   case ra n x y=>cases x<;>first|exact⟨rfl,_,λ_=>rfl⟩|exact False.elim h2
   case mo n m x y=>cases x<;>first|exact⟨rfl,_,λ_=>rfl⟩|exact False.elim h2
   all_goals exact False.elim h2
  obtain⟨hk,n,hq⟩:=hv;rw[hq]at h2|-;obtain⟨a1,a2,_⟩:=xx C e R B lO hf hk;rw[<-a1]at h1;obtain⟨b1,b2,_⟩:=Zj C e R lO t hk h1;refine⟨⟨b1,?_⟩,b2.trans a2,BB⟩;unfold R0 at h2|-;cases q:vw (get n R)with
  |none=>trivial
  |some i=>
   simp only[q]at h2|-;rcases hf.get i with⟨q1,_⟩|⟨o,o',q1,q2,aKv,_,qd,_⟩;all_goals grind
 simp_all
--@C>
def CS(d:aT):Bool:=match d with
 | .rk .. =>true
 | .rz .. =>true
 | .ig .. =>true
 |d=>d.bT==7||d.bT==1
theorem acZ(C:dJ)(d:af)(Z:CS d.op=true)(R:List (Nat×J))(B:List ae)(h:(aG C d ⟨R,B⟩).pre):(aG C d ⟨R,B⟩).B=B:=by
 unfold CS at Z;split at Z
 next e=>exact aAW C d e R B h
 next e=>exact Xr C d e R B h
 .rename_i e;rcases bY C d R h with k|k
  .rw[k,e];rfl
  .rw[k]
 .simp only[CJ,GO]at Z;rcases Z with Z|Z
  .exact Xq C d R B Z h
  .exact((Py C d R B B (.refl _) Z).2 h).2.1
theorem aqe{a b:J}(h:YV a b):∀k,vw a=some k->vw b≠some k:=by intro k e;intro e';unfold vw at e e';grind[YV]
theorem aAY(C:dJ)(di dj:af){h h':Nat}{z z':Ab}(h1:di.op= .aa h z)(h2:dj.op= .aa h' z')(bP:h≠h')(R:List (Nat×J))(B:List ae)(p1:(aG C di ⟨R,B⟩).pre)(p2:(aG C dj ⟨R,(aG C di ⟨R,B⟩).B⟩).pre):
 (aG C dj ⟨R,B⟩).pre/\(aG C di ⟨R,(aG C dj ⟨R,B⟩).B⟩).pre/\(aG C dj ⟨R,B⟩).val=(aG C dj ⟨R,(aG C di ⟨R,B⟩).B⟩).val/\
  (aG C di ⟨R,(aG C dj ⟨R,B⟩).B⟩).val=(aG C di ⟨R,B⟩).val/\(aG C di ⟨R,(aG C dj ⟨R,B⟩).B⟩).B=(aG C dj ⟨R,(aG C di ⟨R,B⟩).B⟩).B:=by
 have sp:∀(k:Nat) (z:Ab) (B:List ae),(aB C (.aa k z) ⟨R,B⟩).pre->∃o,B[k]? =some o/\(o.k= .dead/\o.es=[]):=λk z B U=>by
  simp only[aB,au]at U;cases hk:B[k]? with
  |none=>rw[hk]at U;exact U.elim
  |some o=>simp_all
 have ev:∀(k:Nat) (z:Ab) (B:List ae) (o:ae),B[k]? =some o->aB C (.aa k z) ⟨R,B⟩=⟨o.k= .dead/\o.es=[],.ptr k 1 0 0,B.set k ⟨.loc,z.length,[z]⟩⟩:=λk z B o hk=>by simp only[aB,au,hk]
 rcases bY C di R p1 with k|k<;>rcases bY C dj R p2 with q|q
 .simp only[k,q,h1,h2]at p1 p2|-;obtain⟨o,ho,Z⟩:=sp _ _ _ p1;rw[ev _ _ _ _ ho]at p2|-;obtain⟨o',jP,xo⟩:=sp _ _ _ p2;have xT:B[h']? =some o':=by simp_all
  rw[ev _ _ _ _ jP,ev _ _ _ _ xT];have ho3:(B.set h' ⟨.loc,z'.length,[z']⟩)[h]? =some o:=by grind
  rw[ev _ _ _ _ ho3];exact⟨xo,Z,rfl,rfl,(List.set_comm _ _ bP.symm)⟩
 all_goals simp_all
def Sv(hZ:List (Nat×Nat))(s:DS):Prop:=∀p∈hZ,∀k,vw (get p.1 s.R)=some k->vw (get p.2 s.R)≠some k
theorem aiG:∀{hZ:List (Nat×Nat)} {s:DS},Fg hZ s.R->Sv hZ s
 |[],_,_=>λp B=>by simp at B
 |(a,b)::r,s,h=>λp B=>by
  rcases NO.1 B with rfl|B
  .exact aqe h.1
  .exact aiG h.2 p B
def WI:aT->BI
 | .q0 _ (.t n)| .re (.t n)| .mv (.t n)=>some n
 | .ra _ (.t n) _| .mo _ _ (.t n) _=>some n
 |_=>none
theorem aqf(C:dJ)(d:aT){n:Nat}(hv:WI d=some n)(s:DS)(h:(aB C d s).pre){k:Nat}(e:vw (aB C d s).val=some k):vw (get n s.R)=some k:=by
 cases d<;>simp only[WI,reduceCtorEq]at hv;case mv x=>cases x<;>simp only[GB,reduceCtorEq]at hv;subst hv;exact e
 case q0 o x=>
  grind[GB,reduceCtorEq,aB,au,DA.ev,get,vw,no]
 case re x=>
  grind[GB,reduceCtorEq,aB,au,DA.ev,get,vw,no]
 case mo m z x i=>
  cases x<;>simp only[GB,reduceCtorEq]at hv;subst hv;simp only[aB,au]at e h;rw[show(DA.t _).ev s.R=get _ s.R from rfl]at e h;grind[get,vw,no]
 case ra z x i=>
  cases x<;>simp only[GB,reduceCtorEq]at hv;subst hv;simp only[aB,au]at e h;rw[show(DA.t _).ev s.R=get _ s.R from rfl]at e h;revert e h;cases get _ s.R<;>cases i.ev s.R<;>simp only[vw,no,reduceCtorEq,Kc,Ke,GB,imp_self]<;>split<;>simp
def WJ(hZ:List (Nat×Nat))(d:af):Bool:=
 match d.dst with
 |none=>true
 |some t=>hZ.all λp=>(p.1 !=t&&p.2 !=t)||(match WI d.op with
  |some n=>(p.1 !=t||(p.2 !=t&&hZ.contains (n,p.2)))&&(p.2 !=t||hZ.contains (p.1,n))
  |none=>false)
theorem arB{C:dJ}{hZ:List (Nat×Nat)}{d:af}(hk:WJ hZ d=true){s:DS}(hJ:Sv hZ s)(h:(aG C d s).pre):Sv hZ (s.put d.dst (aG C d s)):=by
 intro p B k;cases Z:d.dst with
 |none=>exact hJ p B k
 |some t=>
  simp only[WJ,Z,BE]at hk;have h1:=hk p B;simp only[DS.put,cS];have hold:∀{n k},WI d.op=some n->vw (aG C d s).val=some k->vw (get n s.R)=some k:=λ{n k} hn e=>by
   obtain⟨R,hh⟩:=s;rcases bY C d R h with a|a
   .rw[a]at e h;exact aqf C d.op hn _ h e
   .rw[a]at e;simp[vw]at e
  by_cases Y:p.1=t
  .rw[gr Y];cases hf:WI d.op with
   |none=>simp_all
   |some n=>
    simp[hf,Y]at h1;obtain⟨⟨h2,h3⟩,h4⟩:=h1;rw[ba h2];intro e;exact hJ (n,p.2) h3 k (hold hf e)
  .rw[ba Y];by_cases e2:p.2=t
   .rw[gr e2];cases hf:WI d.op with
    |none=>simp_all
    |some n=>
     simp[hf,Y,e2]at h1;intro e e';exact hJ (p.1,n) h1 k e (hold hf e')
   .rw[ba e2];exact hJ p B k
--@C<
def mm(x y:af):Bool:=
 match x.op,y.op with
 | .to _ (.cl _ _ _ _),e=>e.bT==4
 | .rz z _,.to b (.cl b' z' _ _)=>b==b'&&z==z'
 | .Bg _ _ _ _ _,e=>e.bT==4
 | .rz z _,.Bg _ _ z' _ _=>z==z'
 | .rz z _,.append z' _ _=>z==z'
 | .rz _ _,e=>e.bT==4||e.bT==5
 |_,_=>false
--@C>
def na(x y:af):Bool:=
 match x.op,y.op with
 | .ig _ _,.aa _ _=>true
 | .ig _ _,e=>e.bT==4
 | .zB,.aa _ _=>true
 |d,.aa _ _=>d.bT==1
 |_,_=>false
def yT(hZ:List (Nat×Nat))(x y:af):Bool:=
 S6 x y&&(match S4 x.op,y.op with
  |some n,.to b _=>hZ.contains (n,b)
  |_,_=>(match x.op,y.op with
   | .rk lo _,.tk _ Ve _=>decide (lo<=Ve)
   | .aa h _,.aa h' _=>h !=h'
   | .rd d,e=>(CS (.rd d)&&CS e)||(d.kind==2&&e.bT==4)
   | .ib _ _,e=>e.bT==4
   |_,_=>(CS x.op&&CS y.op)||na x y
    ||mm x y
    ))
theorem aAZ(C:dJ)(d:af){e:aT}(Z:d.op= .rd e)(hk:e.kind=2)(R:List (Nat×J))(B t:List ae)(h:(aG C d ⟨R,B⟩).pre):
 (aG C d ⟨R,B++t⟩).pre/\(aG C d ⟨R,B++t⟩).val=(aG C d ⟨R,B⟩).val/\(aG C d ⟨R,B++t⟩).B=B++t:=by
 rcases bY C d R h with k|k
 .simp_all[aB,aqh,trivial]
 simp_all
theorem avL(C:dJ)(d:af){f:FuncId}{xs:List DA}(Z:d.op= .ib f xs)(R:List (Nat×J))(B t:List ae)(h:(aG C d ⟨R,B⟩).pre):
 (aG C d ⟨R,B⟩).B.length=B.length/\(aG C d ⟨R,B++t⟩).pre/\(aG C d ⟨R,B++t⟩).val=(aG C d ⟨R,B⟩).val/\(aG C d ⟨R,B++t⟩).B=(aG C d ⟨R,B⟩).B++t:=by
 rcases bY C d R h with k|k
 .simp_all[aB,au,AS,AT]
 simp_all
theorem avM(C:dJ)(d:af){b b' z:Nat}{f:FuncId}{xs:List DA}(Z:d.op= .to b (.cl b' z f xs))(R:List (Nat×J))(B t:List ae)(h:(aG C d ⟨R,B⟩).pre):
 (aG C d ⟨R,B⟩).B.length=B.length/\(aG C d ⟨R,B++t⟩).pre/\(aG C d ⟨R,B++t⟩).val=(aG C d ⟨R,B⟩).val/\(aG C d ⟨R,B++t⟩).B=(aG C d ⟨R,B⟩).B++t:=by
 rcases bY C d R h with k|k
 .rw[k,Z]at h;rw[k,k,Z];simp only[aB]at h|-;obtain⟨h1,h2⟩:=h;simp only[au]at h1 h2|-;cases Y:vw (get b' R)with
  |none=>simp[Y,no]at h1
  |some n=>
   simp only[Y]at h1 h2|-;cases e2:B[n]? with
   |none=>simp[e2,no]at h1
   |some o=>
    have mP:=(pc.1 e2).1;have e3:(B++t)[n]? =some o:=by grind
    simp only[e2,e3]at h1 h2|-;cases e4:(C.h f (xs.map (·.ev R)) (List.replicate n ⟨.dead,0,[]⟩++[o])).B[n]? with
    |none=>simp[e4,no]at h1
    |some o'=>
     simp only[e4]at h1 h2|-;rw[FT _ _ mP];refine⟨by simp,⟨h1,λi hi bP=>?_⟩,trivial,rfl⟩;rcases GK i B.length with Lx|Lx
     .rw[OR (by simp_all),OR Lx];exact h2 i Lx bP
     simp_all
 simp_all
theorem yU(C:dJ)(d:af){h0 b z:Nat}{f:FuncId}{xs:List DA}(Z:d.op= .Bg h0 b z f xs)(R:List (Nat×J))(B t:List ae)(h:(aG C d ⟨R,B⟩).pre):
 (aG C d ⟨R,B⟩).B.length=B.length/\(aG C d ⟨R,B++t⟩).pre/\(aG C d ⟨R,B++t⟩).val=(aG C d ⟨R,B⟩).val/\(aG C d ⟨R,B++t⟩).B=(aG C d ⟨R,B⟩).B++t/\
  ∀(i:Nat) (o:ae),B[i]? =some o->o.k≠ .dead->o.z≠z->(aG C d ⟨R,B⟩).B[i]? =some o:=by
 rcases bY C d R h with k|k
 .rw[k,Z]at h;rw[k,k,Z];simp only[aB]at h|-;simp only[au]at h|-;cases Y:vw (get b R)with
  |none=>simp[Y,no]at h
  |some n=>
   simp only[Y]at h|-;cases e2:B[n]? with
   |none=>simp[e2,no]at h
   |some o=>
   cases e3:B[h0]? with
   |none=>simp[e2,e3,no]at h
   |some od=>
    have mP:=(pc.1 e2).1;have FR:=(pc.1 e3).1;have f2:(B++t)[n]? =some o:=by grind
    have f3:(B++t)[h0]? =some od:=by grind
    simp only[e2,e3,f2,f3]at h|-;cases e5:(C.h f (xs.map (·.ev R)) (List.replicate n ⟨.dead,0,[]⟩++[o])).val<;>simp only[e5,no]at h|- <;>try exact h.elim
    rename_i m L off len;cases e4:(C.h f (xs.map (·.ev R)) (List.replicate n ⟨.dead,0,[]⟩++[o])).B[n]? with
    |none=>simp_all
    |some o'=>
    cases e6:(C.h f (xs.map (·.ev R)) (List.replicate n ⟨.dead,0,[]⟩++[o])).B[m]? with
    |none=>simp_all
    |some oj=>
     grind
 simp_all
def Xt(hZ:List (Nat×Nat))(x y:af):Bool:=xw x y||yT hZ x y
theorem aA0(C:dJ)(d:af)(R:List (Nat×J))(B:List ae)(hk:d.op.bT=10)(h:(aG C d ⟨R,B⟩).pre):∃t,(aG C d ⟨R,B⟩).B=B++t:=by
 rcases bY C d R h with e|e
 .rw[e]at h;rw[e];cases Z:d.op<;>rw[Z]at hk h<;>first|(cases hk;done)|exact h.2|skip
  all_goals exact absurd hk (by simp[aT.bT,aT.kind])
 simp_all
theorem avN(C:dJ)(d:af)(R:List (Nat×J))(B t:List ae)(hk:d.op.bT=1)(h:(aG C d ⟨R,B⟩).pre):
 (aG C d ⟨R,B++t⟩).pre/\(aG C d ⟨R,B++t⟩).val=(aG C d ⟨R,B⟩).val/\(aG C d ⟨R,B++t⟩).B=B++t:=by
 rcases bY C d R h with e|e
 .grind[tG,Zj,rp]
 simp_all
theorem avO(C:dJ)(d:af)(R:List (Nat×J))(B:List ae)(hk:d.op.bT=4\/d.op.bT=5)(h:(aG C d ⟨R,B⟩).pre):Ex B (aG C d ⟨R,B⟩).B:=by
 rcases bY C d R h with e|e
 .grind[tG,axR,rp]
 .rw[e];exact⟨B,[],.refl _,(xz _).symm⟩
theorem aA1(C:dJ)(d:af)(R:List (Nat×J))(B t:List ae)(hk:d.op.bT=2)(h:(aG C d ⟨R,B⟩).pre):
 (aG C d ⟨R,B++t⟩).pre/\(aG C d ⟨R,B++t⟩).val=(aG C d ⟨R,B⟩).val/\(aG C d ⟨R,B++t⟩).B=(aG C d ⟨R,B⟩).B++t:=by
 rcases bY C d R h with e|e
 .grind[tG,aqh,rp]
 simp_all
theorem WK(C:dJ)(d:af)(R:List (Nat×J))(B eZ:List ae)(hl:eZ.length=B.length)(hk:d.op.bT=4)(h:(aG C d ⟨R,B⟩).pre):
 (aG C d ⟨R,eZ⟩).pre/\(aG C d ⟨R,eZ⟩).val=(aG C d ⟨R,B⟩).val/\∃t,(aG C d ⟨R,B⟩).B=B++t/\(aG C d ⟨R,eZ⟩).B=eZ++t:=by
 rcases bY C d R h with e|e
 .grind[tG,axS,rp]
 simp_all
def EI(s s':DS):Prop:=s.B=s'.B/\∀n,get n s.R=get n s'.R
theorem EI.refl(s:DS):EI s s:=⟨rfl,λ_=>rfl⟩
theorem EI.trans{a b c:DS}(h:EI a b)(k:EI b c):EI a c:=⟨h.1.trans k.1,λn=>(h.2 n).trans (k.2 n)⟩
def Cl(K:DS->Prop)(s:DS):Prop:=∃s0,EI s0 s/\K s0
theorem Cl.of{K:DS->Prop}{s:DS}(h:K s):Cl K s:=⟨s,.refl s,h⟩
theorem Cl.eqv{K:DS->Prop}{s s':DS}(h:Cl K s)(e:EI s s'):Cl K s':=let⟨s0,h0,hk⟩:=h;⟨s0,h0.trans e,hk⟩
theorem EI.put{s s':DS}(h:EI s s')(dst:BI)(r:o9):EI (s.put dst r) (s'.put dst r):=by
 cases dst with
 |none=>exact⟨rfl,h.2⟩
 |some t=>exact⟨rfl,λn=>by simp only[DS.put,cS];split<;>first|rfl|exact h.2 n⟩
theorem aqj(C:dJ)(d:af){s s':DS}(h:EI s s'):aG C d s=aG C d s':=by obtain⟨R,B⟩:=s;obtain⟨yt,cU⟩:=s';obtain⟨h1,h2⟩:=h;grind[HC]
theorem alw{C:dJ}{d:af}{s s':DS}{K:DS->Prop}(e:EI s s')(hK:∀s s',EI s s'->K s->K s')(h:rh C d s K):rh C d s' K:=by rw[jQ]at h|-;rw[<-aqj C d e];exact⟨h.1,hK _ _ (e.put _ _) h.2⟩
theorem arC{C:dJ}{d:af}{s:DS}{K K':DS->Prop}(hK:∀s,K s->K' s)(h:rh C d s K):rh C d s K':=by simp_all[jQ]
theorem DC(s:DS)(dst:BI)(r:o9)(n:Nat)(h:∀t,dst=some t->n≠t):get n (s.put dst r).R=get n s.R:=by
 cases dst with
 |none=>rfl
 |some t=>simp only[DS.put,cS];simp_all
theorem aqk(s:DS)(dst:BI)(r:o9):(s.put dst r).B=r.B:=by cases dst<;>rfl
--@C<
theorem aA2(C:dJ){di dj:af}{R:List (Nat×J)}{B:List ae}(hc:mm di dj=true)(p1:(aG C di ⟨R,B⟩).pre)(p2:(aG C dj ⟨R,(aG C di ⟨R,B⟩).B⟩).pre):
 (aG C dj ⟨R,B⟩).pre/\(aG C di ⟨R,(aG C dj ⟨R,B⟩).B⟩).pre/\(aG C dj ⟨R,B⟩).val=(aG C dj ⟨R,(aG C di ⟨R,B⟩).B⟩).val/\
  (aG C di ⟨R,(aG C dj ⟨R,B⟩).B⟩).val=(aG C di ⟨R,B⟩).val/\(aG C di ⟨R,(aG C dj ⟨R,B⟩).B⟩).B=(aG C dj ⟨R,(aG C di ⟨R,B⟩).B⟩).B:=by
 have Xu:(∃b b' z f xs,di.op= .to b (.cl b' z f xs)/\dj.op.bT=4)\/(∃z e b f xs,di.op= .rz z e/\dj.op= .to b (.cl b z f xs))\/(∃z e,di.op= .rz z e/\(dj.op.bT=4\/dj.op.bT=5))\/(∃h b z f xs,di.op= .Bg h b z f xs/\dj.op.bT=4)\/(∃z e h b f xs,di.op= .rz z e/\dj.op= .Bg h b z f xs)\/(∃z e a x,di.op= .rz z e/\dj.op= .append z a x):=by unfold mm at hc;grind
 rcases Xu with⟨b,b',z,f,xs,h1,h3⟩|⟨z,e,b,f,xs,h1,Z⟩|⟨z,e,h1,h3⟩|⟨h0,b,z,f,xs,h1,h3⟩|⟨z,e,h0,b,f,xs,h1,Z⟩|⟨z,e,a,x,h1,Z⟩
 .obtain⟨hl,_⟩:=avM C di h1 R B [] p1;obtain⟨r1,r2,t,r3,r4⟩:=WK C dj R (aG C di ⟨R,B⟩).B B hl.symm h3 p2;grind[avM]
 .have lO:(aG C di ⟨R,B⟩).B=B:=Xr C di h1 R B p1;rw[lO]at p2|-;have ho:∀(i:Nat) (o:ae),B[i]? =some o->o.k≠ .dead->o.z≠z->(aG C dj ⟨R,B⟩).B[i]? =some o:=by
   intro i o hi _ hz;rcases bY C dj R p2 with k|k
   .rw[k,Z]at p2;rw[k,Z];simp only[aB]at p2|-;have hl:=(pc.1 hi).1;rw[p2.2 i hl λe2=>?_,hi];have p3:=p2.1;simp only[au,e2,hi]at p3;split at p3
    .exact hz p3.1
    .exact p3
   simp_all
  obtain⟨u1,u2,u3⟩:=yJ C di h1 R ho p1;simp_all
 .have lO:(aG C di ⟨R,B⟩).B=B:=Xr C di h1 R B p1;rw[lO]at p2|-;obtain⟨lO,t,hfz,het⟩:=avO C dj R B h3 p2;obtain⟨u1,u2,u3⟩:=axQ C di h1 R t hfz p1;simp_all
 .obtain⟨hl,_⟩:=yU C di h1 R B [] p1;obtain⟨r1,r2,t,r3,r4⟩:=WK C dj R (aG C di ⟨R,B⟩).B B hl.symm h3 p2;grind[yU]
 .have lO:(aG C di ⟨R,B⟩).B=B:=Xr C di h1 R B p1;rw[lO]at p2|-;obtain⟨_,_,_,_,ho⟩:=yU C dj Z R B [] p2;obtain⟨u1,u2,u3⟩:=yJ C di h1 R ho p1;simp_all
 .have lO:(aG C di ⟨R,B⟩).B=B:=Xr C di h1 R B p1;rw[lO]at p2|-;have ho:∀(i:Nat) (o:ae),B[i]? =some o->o.k≠ .dead->o.z≠z->(aG C dj ⟨R,B⟩).B[i]? =some o:=by
   intro i o hi _ hz;rcases bY C dj R p2 with k|k
   .rw[k,Z]at p2;rw[k,Z];simp only[aB,au,qU]at p2|-;cases Y:a.ev R<;>simp only[Y,no]at p2|- <;>try exact p2.elim
    all_goals grind
   simp_all
  obtain⟨u1,u2,u3⟩:=yJ C di h1 R ho p1;simp_all
--@C>
section
variable {B:List ae} {h:Nat} {o o':ae}
theorem ac1(h0:B[h]? =some o)(Z:o.k= .dead){i:Nat}{x:ae}(e:B[i]? =some x)(U:x.k≠ .dead):(B.set h o')[i]? =some x:=by grind
theorem agJ(h0:B[h]? =some o)(Z:o.k= .dead){i L:Nat}(a:alive B i L):alive (B.set h o') i L:=by grind[alive,ac1]
theorem agK(h0:B[h]? =some o)(Z:o.k= .dead){v:J}(a:(aH B v).1):aH (B.set h o') v=aH B v:=by unfold aH at a|-;grind
theorem agL(h0:B[h]? =some o)(Z:o.k= .dead){v:J}(a:(bc B v).pre):bc (B.set h o') v=bc B v:=by unfold bc at a|-;grind
theorem alx(h0:B[h]? =some o)(Z:o.k= .dead){v:J}{es:List (B3×J)}(a:dH B v=some es):dH (B.set h o') v=some es:=by unfold dH at a|-;grind[Kd.D4,ac1]
theorem axT(C:dJ)(d:aT)(R:List (Nat×J))(h0:B[h]? =some o)(Z:o.k= .dead)(hk:d.kind=1)(p:(au C d ⟨R,B⟩).pre):
 (au C d ⟨R,B.set h o'⟩).pre/\(au C d ⟨R,B.set h o'⟩).val=(au C d ⟨R,B⟩).val/\(au C d ⟨R,B.set h o'⟩).B=B.set h o':=by
 have fa:∀{i L:Nat},alive B i L->alive (B.set h o') i L:=λa=>agJ h0 Z a;cases d<;>simp only[aT.kind,reduceCtorEq,Nat.reduceEqDiff]at hk<;>simp only[au]at p|-;case Md x=>rw[agL h0 Z p.1];simp_all
 case SL m k=>
  cases e:dH B (m.ev R)with
  |none=>rw[e]at p;exact p.elim
  |some es=>
   rw[e]at p;rw[alx h0 Z e];cases e2:k.ev R<;>rw[e2]at p<;>first|exact p.elim|simp_all
 case len x=>split at p<;>first|exact p.elim|(rename_i e;simp only[e];exact⟨by first|trivial|exact fa p,by first|rfl|trivial,by first|rfl|trivial⟩)
 case Pt x=>split at p<;>first|exact p.elim|(rename_i e;simp only[e];exact⟨by first|trivial|exact fa p,by first|rfl|trivial,by first|rfl|trivial⟩)
 case load s x=>
  have:(aH B (x.ev R)).1:=by revert p;unfold bw;grind
  rw[agK h0 Z this];simp_all
 case Ot n x y=>
  split at p;all_goals simp_all
 case q0 o x=>split at p<;>first|exact p.elim|(rename_i e;simp only[e];exact⟨by first|trivial|exact fa p,by first|rfl|trivial,by first|rfl|trivial⟩)
 case re x=>split at p<;>first|exact p.elim|(rename_i e;simp only[e];exact⟨by first|trivial|exact fa p,by first|rfl|trivial,by first|rfl|trivial⟩)
 case mo n z x i=>split at p<;>first|exact p.elim|(rename_i e e2;simp only[e,e2];exact⟨by first|exact p|simp_all,by first|rfl|trivial,by first|rfl|trivial⟩)
 case ra z x i=>
  split at p
  .grind
  .rename_i hh L off len k n Y e2;cases e3:B[hh]? with
   |none=>rw[e3]at p;exact p.elim
   |some x=>
    grind
  .exact p.elim
 case slice z x a b c=>
  have key:(jq B z (x.ev R) (a.map (·.ev R)) (b.map (·.ev R)) (c.map (·.ev R))).1->jq (B.set h o') z (x.ev R) (a.map (·.ev R)) (b.map (·.ev R)) (c.map (·.ev R))=jq B z (x.ev R) (a.map (·.ev R)) (b.map (·.ev R)) (c.map (·.ev R)):=by intro p;generalize x.ev R=X at p|-;unfold jq at p|-;grind
  simp_all
end
theorem aE3(C:dJ)(d:af)(R:List (Nat×J)){B:List ae}{h:Nat}{o o':ae}(h0:B[h]? =some o)(Z:o.k= .dead)(hk:d.op.bT=1)(p:(aG C d ⟨R,B⟩).pre):
 (aG C d ⟨R,B.set h o'⟩).pre/\(aG C d ⟨R,B.set h o'⟩).val=(aG C d ⟨R,B⟩).val/\(aG C d ⟨R,B.set h o'⟩).B=B.set h o':=by
 have Q8:d.op.bT≠0/\d.op.bT≠7/\d.op.bT≠8/\d.op.bT≠9/\d.op.bT≠10:=by omega
 rcases bY C d R p with e|e
 .grind[tG,axT,rp]
 simp_all
theorem avP(C:dJ)(d:af){h:Nat}{z:Ab}(e:d.op= .aa h z)(R:List (Nat×J))(B:List ae)(p:(aG C d ⟨R,B⟩).pre):
 (∀eZ,aG C d ⟨R,eZ⟩=⟨True,.b9 [],eZ⟩)\/∃o,B[h]? =some o/\o.k= .dead/\o.es=[]/\(∀eZ:List ae,eZ[h]? =some o->aG C d ⟨R,eZ⟩=⟨o.k= .dead/\o.es=[],.ptr h 1 0 0,eZ.set h ⟨.loc,z.length,[z]⟩⟩):=by
 rcases bY C d R p with k|k
 .right;rw[k,e]at p;simp only[aB,au]at p;cases hk:B[h]? with
  |none=>rw[hk]at p;exact p.elim
  |some o=>
   rw[hk]at p;refine⟨o,rfl,p.1,p.2,λeZ h2=>?_⟩;rw[k,e];simp only[aB,au,h2]
 simp_all
theorem BR.app(B t:List ae):BR B (B++t):=λi x e _=>by grind
theorem BR.fill{B:List ae}{h:Nat}{o o':ae}(h0:B[h]? =some o)(Z:o.k= .dead)(he:o.es=[]):BR B (B.set h o'):=λi x e U=>by grind
theorem BR.trans{a b c:List ae}(h:BR a b)(k:BR b c):BR a c:=λi x e U=>k i x (h i x e U) U
theorem aA4(C:dJ)(d:af){f:FuncId}{xs:List DA}(e:d.op= .ig f xs)(R:List (Nat×J))(B:List ae)(p:(aG C d ⟨R,B⟩).pre):
 (aG C d ⟨R,B⟩).B=B/\∀eZ,BR B eZ->(aG C d ⟨R,eZ⟩).pre/\(aG C d ⟨R,eZ⟩).val=(aG C d ⟨R,B⟩).val/\(aG C d ⟨R,eZ⟩).B=eZ:=by
 rcases bY C d R p with k|k
 .grind[BR,aB,au]
 simp_all
theorem aA5(C:dJ){di dj:af}{R:List (Nat×J)}{B:List ae}(hc:na di dj=true)(p1:(aG C di ⟨R,B⟩).pre)(p2:(aG C dj ⟨R,(aG C di ⟨R,B⟩).B⟩).pre):
 (aG C dj ⟨R,B⟩).pre/\(aG C di ⟨R,(aG C dj ⟨R,B⟩).B⟩).pre/\(aG C dj ⟨R,B⟩).val=(aG C dj ⟨R,(aG C di ⟨R,B⟩).B⟩).val/\
  (aG C di ⟨R,(aG C dj ⟨R,B⟩).B⟩).val=(aG C di ⟨R,B⟩).val/\(aG C di ⟨R,(aG C dj ⟨R,B⟩).B⟩).B=(aG C dj ⟨R,(aG C di ⟨R,B⟩).B⟩).B:=by
 have Xu:((∃f xs,di.op= .ig f xs)/\((∃h z,dj.op= .aa h z)\/dj.op.bT=4))\/((∃h z,dj.op= .aa h z)/\(di.op.bT=1\/di.op= .zB)):=by grind[na]
 rcases Xu with⟨⟨f,xs,Y⟩,hj⟩|⟨⟨h,z,e2⟩,hi⟩
 .obtain⟨g1,g3⟩:=aA4 C di Y R B p1;rw[g1]at p2|-;have U:BR B (aG C dj ⟨R,B⟩).B:=by
   rcases hj with⟨h,z,e2⟩|h4
   .rcases avP C dj e2 R B p2 with k|⟨o,k1,k2,k3,k4⟩
    .rw[k];exactλ_ _ e _=>e
    .rw[k4 B k1];exact BR.fill k1 k2 k3
   .obtain⟨_,_,t,r3,_⟩:=WK C dj R B B rfl h4 p2;rw[r3];exact BR.app B t
  simp_all
 .rcases avP C dj e2 R _ p2 with k|⟨o,k1,k2,k3,k4⟩
  .simp_all
  rcases hi with h1|h4
  .have lO:(aG C di ⟨R,B⟩).B=B:=((Py C di R B B (.refl _) h1).2 p1).2.1;rw[lO]at k1|-;obtain⟨u1,u2,u3⟩:=aE3 C di R (o':=⟨.loc,z.length,[z]⟩) k1 k2 h1 p1;simp_all
  .rcases bY C di R p1 with k|k
   .have q:∀eZ:List ae,aG C di ⟨R,eZ⟩=⟨True,.mp eZ.length,eZ++[⟨.mp [],0,[]⟩]⟩:=λeZ=>by rw[k,h4];rfl
    grind
   simp_all
theorem agM{C:dJ}{hZ:List (Nat×Nat)}{di dj:af}(hc:Xt hZ di dj=true){s:DS}(hJ:Sv hZ s){X:DS->Prop}(h:rh C di s (λs1=>rh C dj s1 X)):rh C dj s (λs1=>rh C di s1 (Cl X)):=by
 have hap:S6 di dj=true:=by simp only[Xt,xw,yT,CJ,ab]at hc;grind
 have Xu:xv di.op.bT dj.op.bT=true\/(∃n b e,S4 di.op=some n/\dj.op= .to b e/\(n,b)∈hZ)\/(∃lo e b Ve e',di.op= .rk lo e/\dj.op= .tk b Ve e'/\lo<=Ve)\/(∃h z h' z',di.op= .aa h z/\dj.op= .aa h' z'/\h≠h')\/(CS di.op=true/\CS dj.op=true)\/(∃d,di.op= .rd d/\d.kind=2/\dj.op.bT=4)\/(∃f xs,di.op= .ib f xs/\dj.op.bT=4)\/na di dj=true\/
  mm di dj=true\/
  False:=by
  simp only[Xt,xw,yT,CJ,ab]at hc;grind
 have a1:∀t,di.dst=some t->t∉dj.looks/\dj.dst≠some t:=λt ht=>by simp_all[S6,ab,aaa,List.contains_eq_mem,Of,Kf]
 have a2:∀t,dj.dst=some t->t∉di.looks:=λt ht=>by simp_all[S6,ab]
 obtain⟨R,B⟩:=s;rw[jQ,jQ]at h;obtain⟨p1,p2,U⟩:=h;have Y:aG C dj (DS.put ⟨R,B⟩ di.dst (aG C di ⟨R,B⟩))=aG C dj ⟨R,(aG C di ⟨R,B⟩).B⟩:=by have:=HC C dj (R:=(DS.put ⟨R,B⟩ di.dst (aG C di ⟨R,B⟩)).R) (yt:=R) (aG C di ⟨R,B⟩).B (λn hn=>DC _ _ _ _ λt ht e=>(a1 t ht).1 (e▸hn));rw[<-this];cases di.dst<;>rfl
 rw[Y]at p2 U;have key:(aG C dj ⟨R,B⟩).pre/\(aG C di ⟨R,(aG C dj ⟨R,B⟩).B⟩).pre/\(aG C dj ⟨R,B⟩).val=(aG C dj ⟨R,(aG C di ⟨R,B⟩).B⟩).val/\
  (aG C di ⟨R,(aG C dj ⟨R,B⟩).B⟩).val=(aG C di ⟨R,B⟩).val/\(aG C di ⟨R,(aG C dj ⟨R,B⟩).B⟩).B=(aG C dj ⟨R,(aG C di ⟨R,B⟩).B⟩).B:=by
  rcases Xu with hk|⟨n,b,e,hv,Z,hm⟩|⟨lo,e,b,Ve,e',h1,h2,S8⟩|⟨h,z,h',z',h1,h2,bP⟩|⟨h1,h2⟩|⟨e,h1,h2,h3⟩|⟨f,xs,h1,h3⟩|h1|
   h1|
   h1
  rotate_left;rotate_left
  .have lO:(aG C di ⟨R,B⟩).B=B:=aAW C di h1 R B p1;rw[lO]at p2|-;obtain⟨u1,u2,u3⟩:=aAX C di dj h1 h2 S8 R B p1 p2;simp_all
  .exact aAY C di dj h1 h2 bP R B p1 p2
  .have lO:=acZ C di h1 R B p1;rw[lO]at p2|-;have eZ:=acZ C dj h2 R B p2;simp_all
  .have lO:(aG C di ⟨R,B⟩).B=B:=Xq C di R B (by rw[h1];rfl) p1;rw[lO]at p2|-;obtain⟨_,_,t,_,r4⟩:=WK C dj R B B rfl h3 p2;obtain⟨u1,u2,u3⟩:=aAZ C di h1 h2 R B t p1;simp_all
  .obtain⟨hl,_⟩:=avL C di h1 R B [] p1;obtain⟨r1,r2,t,r3,r4⟩:=WK C dj R (aG C di ⟨R,B⟩).B B hl.symm h3 p2;grind[avL]
  .exact aA5 C h1 p1 p2
  .exact aA2 C h1 p1 p2
  .exact h1.elim
  rotate_left
  .have lO:(aG C di ⟨R,B⟩).B=B:=((Py C di R B B (.refl _) (acV hv)).2 p1).2.1;rw[lO]at p2|-;have ho:=aE1 C dj Z R B p2;obtain⟨u1,u2,u3⟩:=aE0 C di hv R (B:=B) (cU:=(aG C dj ⟨R,B⟩).B) (λh' e' hl=>ho h' hl (hJ _ hm h' e')) p1;simp_all
  simp only[xv,CJ,ab,GO]at hk;rcases hk with(((((((hk|hk)|⟨hi,hj⟩)|⟨hi,hj⟩)|⟨hi,hj⟩)|⟨hi,hj⟩)|⟨hi,hj⟩)|⟨hi,hj⟩)|⟨hi,hj⟩
  .obtain⟨q1,q2⟩:=aAV C di R B hk p1;simp_all
  .obtain⟨q1,q2⟩:=aAV C dj R _ hk p2;simp_all
  .obtain⟨q1,q2⟩:=Py C di R B B (.refl _) hi;obtain⟨_,q3,_⟩:=q2 p1;rw[q3]at p2|-;obtain⟨s1,s2⟩:=Py C dj R B B (.refl _) hj;simp_all
  .obtain⟨_,q3,_⟩:=(Py C di R B B (.refl _) hi).2 p1;rw[q3]at p2|-;have hfz:=yE C dj R B hj p2;obtain⟨s1,s2⟩:=Py C di R B _ hfz hi;simp_all
  .have hfz:=yE C di R B hi p1;obtain⟨s1,s2⟩:=Py C dj R B _ hfz hj;simp_all
  .obtain⟨_,q3,_⟩:=(Py C di R B B (.refl _) hi).2 p1;rw[q3]at p2|-;obtain⟨lO,t,hfz,het⟩:=avO C dj R B hj p2;obtain⟨s1,s2⟩:=Py C di R B _ hfz hi;obtain⟨t1,_,t3⟩:=s2 p1;obtain⟨u1,u2,u3⟩:=avN C di R lO t hi (s1.2 p1);simp_all
  .have hfz:=yE C di R B hi p1;obtain⟨r1,r2,t,r3,r4⟩:=WK C dj R _ B hfz.1 hj p2;simp_all[aA1]
  .have q:=Xq C di R B hi p1;rw[q]at p2|-;have q2:(aG C dj ⟨R,B⟩).B=B:=by
    rcases hj with hj|hj
    .exact Xq C dj R B hj p2
    .exact((Py C dj R B B (.refl _) hj).2 p2).2.1
   simp_all
  .have q:(aG C di ⟨R,B⟩).B=B:=((Py C di R B B (.refl _) hi).2 p1).2.1;rw[q]at p2|-;rcases hj with hj|hj
   .have q2:=Xq C dj R B hj p2;simp_all
   .obtain⟨t,q2⟩:=aA0 C dj R B hj p2;obtain⟨u1,u2,u3⟩:=avN C di R B t hi p1;simp_all
 obtain⟨k1,k2,k3,k4,k5⟩:=key;have e2:aG C di (DS.put ⟨R,B⟩ dj.dst (aG C dj ⟨R,B⟩))=aG C di ⟨R,(aG C dj ⟨R,B⟩).B⟩:=by have:=HC C di (R:=(DS.put ⟨R,B⟩ dj.dst (aG C dj ⟨R,B⟩)).R) (yt:=R) (aG C dj ⟨R,B⟩).B (λn hn=>DC _ _ _ _ λt ht e=>a2 t ht (e▸hn));rw[<-this];cases dj.dst<;>rfl
 rw[jQ,jQ,e2];refine⟨k1,k2,_,⟨?_,λn=>?_⟩,U⟩
 .rw[aqk,aqk,k5]
 .by_cases h1:∃t,di.dst=some t/\n=t
  .obtain⟨t,ht,rfl⟩:=h1;rw[DC _ _ _ n (λt' Uq e=>(a1 n ht).2 (by simp_all))];simp only[ht,DS.put,cS,Bp,k4]
  .rw[DC (DS.put ⟨R,B⟩ dj.dst _) _ _ _ (λt ht e=>h1 ⟨t,ht,e⟩)];by_cases h2:∃t,dj.dst=some t/\n=t
   .obtain⟨t,ht,rfl⟩:=h2;simp only[ht,DS.put,cS,Bp,k3]
   grind[DC]
def Pk(C:dJ)(md:Region.Mode)(ops:Array Oper)(look:Nat->Option af)(K:DS->Prop):Nat->Array Bool->DS->Prop
 |0,listed,s=>Region.ready md ops listed=[]/\Cl K s
 |f+1,listed,s=>(Region.ready md ops listed=[]->Cl K s)/\∀i∈Region.ready md ops listed,∃d,look i=some d/\rh C d s (λs'=>Pk C md ops look K f (listed.setIfInBounds i true) s')
section
variable {C:dJ} {md:Region.Mode} {ops:Array Oper} {look:Nat->Option af} {K:DS->Prop}
theorem ac3:∀{f:Nat} {listed:Array Bool} {s s':DS},EI s s'->Pk C md ops look K f listed s->Pk C md ops look K f listed s'
 |0,_,_,_,e,h=>⟨h.1,h.2.eqv e⟩
 |f+1,_,_,_,e,h=>⟨λh0=>(h.1 h0).eqv e,λi hi=>by obtain⟨d,Z,I⟩:=h.2 i hi;exact⟨d,Z,alw e (λ_ _ e' h'=>ac3 e' h') I⟩⟩
theorem agO{hZ:List (Nat×Nat)}(nX:∀j dj,look j=some dj->WJ hZ dj=true){i:Nat}{di:af}(hi:look i=some di){D:List Nat}(hiD:i∈D)(hD:∀j∈D,j≠i->∀oj,ops[j]? =some oj->∃e∈oj.after,Region.binds md e=true/\e.on∈D):∀(fuel:Nat) (listed:Array Bool) (s:DS),
 Sv hZ s->(∀j∈D,listed.getD j true=false)->
 (∀j dj,look j=some dj->j∉D->listed.getD j true=false->Xt hZ di dj=true)->
 i∈Region.ready md ops listed->rh C di s (λs1=>Pk C md ops look K fuel (listed.setIfInBounds i true) s1)->Pk C md ops look K (fuel+1) listed s:=by
 intro fuel;induction fuel with
 |zero=>
  intro listed s _ _ _ E H;refine⟨λh=>(by simp_all),λj hj=>?_⟩;by_cases Px:j=i
  .simp_all
  .have:=ready_mono hj Px;rw[jQ]at H;rw[H.2.1]at this;cases this
 |succ fuel ih=>
  intro listed s hJ Xx VJ E H;refine⟨λh=>(by simp_all),λj hj=>?_⟩;by_cases Px:j=i
  .simp_all
  .obtain⟨aE4,oj,hoj,su⟩:=mem_ready.1 hj;have nf:j∉D:=λhm=>by grind
   have arD:=H;rw[jQ]at arD;obtain⟨dj,Hs,_⟩:=arD.2.2 j (ready_mono hj Px);have aA6:=VJ j dj Hs nf aE4;have H2:rh C di s (λs1=>rh C dj s1 (λs2=>Pk C md ops look K fuel ((listed.setIfInBounds i true).setIfInBounds j true) s2)):=by refine arC (λs1 h1=>?_) H;obtain⟨d,Z,I⟩:=h1.2 j (ready_mono hj Px);simp_all
   have H3:=agM aA6 hJ H2;rw[jQ]at H3;refine⟨dj,Hs,(jQ _ _ _ _).2 ⟨H3.1,?_⟩⟩;have np:=arB (C:=C) (nX j dj Hs) hJ H3.1;generalize s.put dj.dst (aG C dj s)=s1 at H3 np|-;have h1:=H3.2;refine ih (listed.setIfInBounds j true) s1 np (λk hk=>?_) (λk dk Q3 hkD aKp=>?_) (ready_mono E (Ne.symm Px)) (arC (λs2 h2=>?_) h1)
   .have hjk:j≠k:=λe=>nf (by simp_all);simp_all
   .refine VJ k dk Q3 hkD ?_;by_cases hjk:j=k;all_goals simp_all
   .rw[Array.setIfInBounds_comm _ _ Px];obtain⟨s0,e0,h0⟩:=h2;exact ac3 e0 h0
def WL(md:Region.Mode)(ops:Array Oper)(i:Nat):List Nat->List Nat->List Nat
 |[],D=>D
 |j::r,D=>WL md ops i r (match ops[j]? with
  |some oj=>if oj.after.any (λe=>Region.binds md e&&D.contains e.on)then j::D else D
  |none=>D)
theorem AG{i:Nat}:∀(l D:List Nat),i∈D->(∀j∈D,j≠i->∀oj,ops[j]? =some oj->∃e∈oj.after,Region.binds md e=true/\e.on∈D)->
 i∈WL md ops i l D/\∀j∈WL md ops i l D,j≠i->∀oj,ops[j]? =some oj->∃e∈oj.after,Region.binds md e=true/\e.on∈WL md ops i l D
 |[],D,h1,h2=>⟨h1,h2⟩
 |j::r,D,h1,h2=>by
  unfold WL;cases ho:ops[j]? with
  |none=>exact AG r D h1 h2
  |some oj=>
   by_cases hc:oj.after.any (λe=>Region.binds md e&&D.contains e.on)=true
   .simp only[gr hc];refine AG r (j::D) (XN _ h1) λk hk hki ok nT=>?_;grind
   .simp only[ba hc];exact AG r D h1 h2
def Oo(l:List (Nat×af))(i:Nat):Option af:=(l.find? (·.1==i)).map (·.2)
def avR(hZ:List (Nat×Nat))(md:Region.Mode)(ops:Array Oper)(all:List (Nat×af))(listed:Array Bool)(i:Nat)(di:af):Bool:=
 let D:=WL md ops i (List.range ops.size) [i]
 D.all (λj=> !listed.getD j true)&&all.all λx=>D.contains x.1||listed.getD x.1 true||Xt hZ di x.2
def Xz(hZ:List (Nat×Nat))(md:Region.Mode)(ops:Array Oper)(all:List (Nat×af)):List (Nat×af)->Array Bool->Bool
 |[],listed=>(Region.ready md ops listed).isEmpty
 |(i,d)::r,listed=>(Region.ready md ops listed).contains i&&avR hZ md ops all listed i d&&Xz hZ md ops all r (listed.setIfInBounds i true)
theorem MY{l:List (Nat×af)}{i:Nat}{d:af}(h:Oo l i=some d):(i,d)∈l:=by unfold Oo at h;rw[Xs]at h;grind
theorem ac4{i:Nat}{d:af}:∀{l:List (Nat×af)},(l.map (·.1)).Nodup->(i,d)∈l->Oo l i=some d
 |[],_,h=>by simp at h
 |x::l,hn,h=>by
  simp only[p0,List.nodup_cons]at hn;unfold Oo;rw[Kb];rcases NO.1 h with e|h
  .subst e;simp
  .have bP:(x.1==i)=false:=by grind
   simp only[bP];exact ac4 hn.2 h
theorem ac5{hZ:List (Nat×Nat)}{all:List (Nat×af)}(Q4:all.all (λx=>WJ hZ x.2)=true)(hn:(all.map (·.1)).Nodup):∀(l:List (Nat×af)) (listed:Array Bool) (s:DS),(∀x∈l,x∈all)->Xz hZ md ops all l listed=true->Sv hZ s->mJ C (l.map (·.2)) s K->Pk C md ops (Oo all) K l.length listed s
 |[],_,s,_,hB,_,h=>⟨by simpa[Xz]using hB,Cl.of h⟩
 |(i,d)::l,listed,s,hl,hB,hJ,h=>by
  have nX:∀j dj,Oo all j=some dj->WJ hZ dj=true:=λj dj hj=>by have:=BE.1 Q4 _ (MY hj);exact this
  have h0:Oo all i=some d:=ac4 hn (hl _ (by simp));simp only[Xz,ab]at hB;obtain⟨⟨E,hf⟩,yY⟩:=hB;simp only[avR,ab,BE,aaa,CJ,List.contains_eq_mem,ir]at hf;obtain⟨d1,d2⟩:=AG (md:=md) (ops:=ops) (i:=i) (List.range ops.size) [i] (by simp) (λj hj Px=>by simp at hj;exact absurd hj Px);have h':rh C d s (λs1=>mJ C (l.map (·.2)) s1 K):=h;rw[jQ]at h';have np:=arB (C:=C) (nX i d h0) hJ h'.1;refine agO nX h0 d1 d2 l.length listed s hJ hf.1 (λj dj Hs nf Xx=>?_) (by simpa using E) ((jQ _ _ _ _).2 ⟨h'.1,?_⟩)
  .rcases hf.2 _ (MY Hs)with(h1|h1)|h1
   .exact absurd h1 nf
   .rw[Xx]at h1;cases h1
   .exact h1
  .exact ac5 Q4 hn l _ _ (λx U=>hl x (XN _ U)) yY np h'.2
end
section
variable {P:Program} {K F0:Nat->Prop} {Bc:Nat->BI} {BW:List ae} {N:Nat} {w0:World} {C:dJ}
theorem wE.eqv [Inhabited Env]{s s':DS}{a:Act}{w:World}(h:wE K N F0 Bc BW w0 s a w)(e:EI s' s):wE K N F0 Bc BW w0 s' a w:=by obtain⟨K',F,σ,EP,I,hf,hN,mQ,AD,Bl⟩:=h;obtain⟨Y,e2⟩:=e;refine⟨K',F,σ,EP,by simp_all,λn=>by rw[e2,Y];exact hf n,hN,mQ,AD,by simp_all⟩
theorem wE.drew [Inhabited Env]{s:DS}{a:Act}{w:World}(h:wE K N F0 Bc BW w0 s a w):wE K N F0 Bc BW w0 s a w.drew:=by obtain⟨K',F,σ,EP,I,hf,hN,mQ,AD,Bl⟩:=h;obtain⟨h1,h2,h3⟩:=I.ext (w':=w.drew) (F':=F) rfl rfl rfl (By _) (λ_ _=>rfl) (λ_ h=>h) (λ_ h=> .inl h) I.fb;exact⟨K',F,σ,EP,h1,λn=>(hf n).mono h3,hN,mQ.move h2,AD.trans (h2.weak EP),Bl.trans h3⟩
def YO(P:Program)(N:Nat)(ops:Array Oper):List (Nat×af)->Bool
 |[]=>true
 |(i,d)::r=>(match ops[i]? with|some o=>Ku P N ops o d|none=>false)&&YO P N ops r
theorem aiJ{ops:Array Oper}{i:Nat}{d:af}:∀{l:List (Nat×af)},YO P N ops l=true->(i,d)∈l->∀o,ops[i]? =some o->Ku P N ops o d=true
 |[],_,h=>by simp at h
 |x::l,hm,h=>by
  intro o ho;simp only[YO,ab]at hm;rcases NO.1 h with e|h
  .subst e;have:=hm.1;simpa only[ho]using this
  .exact aiJ hm.2 h o ho
def S9(P:Program)(N:Nat)(ops:Array Oper)(hZ:List (Nat×Nat))(l:List (Nat×af)):Bool:=
 P.follows .mixedOrders&&decide ((l.map (·.1)).Nodup)&&(l.length==ops.size)&&YO P N ops l&&l.all (λx=>WJ hZ x.2)&&Xz hZ .any ops l l (Array.replicate ops.size false)
def Qa:Nat->List af->List (Nat×af)
 |_,[]=>[]
 |k,d::r=>(k,d)::Qa (k+1) r
theorem CQ:∀(l:List af) (k:Nat),(Qa k l).map (·.2)=l
 |[],_=>rfl
 |d::r,k=>by simp[Qa,CQ r (k+1)]
end
end Go.Nk
set_option linter.all false
namespace Go.Nk
open Go.RowKit
def Fw(ro:BI):Fence:={Fence.wide with round:=ro}
def AH(o:Oper):Bool:=match o.op with| .defer _=>false|_=>true
def mq:Code->Bool
 | .region _ ops _=>ops.all AH
 | .seq a b=>mq a&&mq b
 | .cond _ a b=>mq a&&mq b
 | .block _ c=>mq c
 | .loop c=>mq c
 | .scope c=>mq c
 | .rangeFunc .. =>false
 |_=>true
theorem atV{ro:BI}{n:Nat}{P:Program}{f:FuncId}{args:Array Value}{w:World}{An:Ending->World->Prop}(h:Calls P f args w An):CallsIn (Fw ro) n P f args w An:=
 show CallsIn Fence.wide n P f args w An from callsIn_wide.2 h
theorem axU{ro:BI}{n:Nat}{P:Program}{row:String}{args:Array Value}{w:World}{An:Value->World->Prop}(h:_root_.Go.Rows P row args w An):RowsIn (Fw ro) n P row args w An:=
 show RowsIn Fence.wide n P row args w An fromλc cs _=>let⟨v,w',r,s⟩:=h c cs;⟨v,w',r,stepsIn_wide.2 s⟩
theorem nv{P:Program}{o:Oper}{a:Act}{w:World}{Kn:Act->World->Prop}{Q:Exit->Act->World->Prop}{ro:BI}{n:Nat}(Z:ro=none\/AH o=true)(h:o.wp P a w Kn Q):o.wpIn (Fw ro) n P a w Kn Q:=by
 unfold Oper.wp at h;refine⟨λ_ _=>trivial,?_⟩;have e:o.semAt (Fw ro).round a.eval=execOp a.eval o:=by
  rcases Z with rfl|Z
  .rfl
  grind[Oper.semAt_eq,AH]
 rw[e];generalize (execOp a.eval o).run P w=r at h|-;cases r with
 |ok x w'=>
  cases x with
  |value v=>exact h
  |skip=>exact h
  |defer d=>exact h
  |enter f args=>
   rw[Oper.upon_enter]at h;rw[Oper.uponIn_enter];exact⟨λhh=>by simp[Fw,Fence.wide]at hh,atV (h.mono λe Kh E=>by omega)⟩
  |row row args=>
   grind[Oper.upon_row,Oper.uponIn_row,Fw,Fence.wide,axU]
  |_=>exact h.elim
 |halt x w'=>
  cases x with
  |panic v=>exact h
  |_=>exact h.elim
theorem qb{P:Program}{b:Frame}{a:Act}{k:List Item}{cs:List Frame}{w:World}{c:Code}:step P (lone (b.atR a (.code (.scope c)::k)) cs w)= .next (lone (b.atR a (.code c:: .inScope c::k)) cs w):=
 step_lone_go (by simp[stepG,stepG.exec,Frame.atR])
theorem aDy{P:Program}{b:Frame}{a:Act}{k:List Item}{cs:List Frame}{w:World}{c:Code}:step P (lone (b.atR a (.inScope c::k)) cs w)= .next (lone (b.atR a k) cs w):=
 step_lone_go (by simp[stepG,stepG.exec,Frame.atR])
theorem aDA{F:Fence}{n:Nat}{P:Program}{c:Code}{Q:Exit->Act->World->Prop}{a:Act}{w:World}(h:c.wpIn F n P (Exit.noGoto Q) a w):(Code.scope c).wpIn F n P Q a w:=by
 intro b k cs yZ hb E;have h0:(lone (b.atR a (.code (.scope c)::k)) cs w).fenced P F:=fenced_calm hb E rfl;obtain⟨e,VV,VX,hq,VY⟩:=h b (.inScope c::k) cs yZ hb E;have h1:(lone (b.atR VV (.inScope c::k)) cs VX).fenced P F:=fenced_calm hb E rfl;cases e with
 |normal=>exact⟨.normal,VV,VX,hq,.head h0 qb (StepsIn.trans VY (.one h1 aDy))⟩
 |exit id=>
  refine⟨.exit id,VV,VX,hq,λk' hk=> .head h0 qb (VY.1 k' (by simp[exitTo,hk])),λtO hk=>?_⟩;obtain⟨k₁,h2,h3⟩:=VY.2 tO (by simp[exitTo,hk]);exact⟨k₁,h2,.head h0 qb h3⟩
 |goto l=>exact hq.elim
 |ret=>exact⟨_,VV,VX,hq,.of_steps (.one h0 qb) VY⟩
 |panic aKw=>exact⟨_,VV,VX,hq,.of_steps (.one h0 qb) VY⟩
 |outgrown=>exact⟨_,VV,VX,hq,.of_steps (.one h0 qb) VY⟩
section
variable {P:Program} {K F0:Nat->Prop} {Bc:Nat->BI} {BW:List ae} {N:Nat} {w0:World} {C:dJ}
theorem arE [Inhabited Env](hC:C.ok P){ro:BI}{n:Nat}{ops:Array Oper}{Q:Exit->Act->World->Prop}{Kd:DS->Prop}(hK:∀s' a' w',wE K N F0 Bc BW w0 s' a' w'->Kd s'->Q .normal a' w'):∀{l:List Oper} {dl:List af} {s:DS} {a:Act} {w:World},
 (ro=none\/l.all AH=true)->yi P N ops l dl=true->wE K N F0 Bc BW w0 s a w->mJ C dl s Kd->wpListIn (Fw ro) n P ops Q l a w
 |[],[],s,a,w,_,_,hc,h=>hK s a w hc h
 |o::l,d::dl,s,a,w,B,hm,hc,h=>by
  simp only[yi,ab]at hm;simp only[MM,ab]at B;have:=apQ hC hm.1 hc h (Kn:=wpListIn (Fw ro) n P ops Q l) (Q:=Q) (λs' a' w' kX h'=>arE hC hK (B.imp id (·.2)) hm.2 kX h');unfold wpListIn;split at this
  .rename_i hw;rw[gr hw];exact nv (B.imp id (·.1)) this
  next hw=>rw[ba hw];exact⟨λ_ _=>trivial,this⟩
 |[],_::_,_,_,_,_,hm,_,_=>by simp[yi]at hm
 |_::_,[],_,_,_,_,hm,_,_=>by simp[yi]at hm
theorem arF [Inhabited Env](hC:C.ok P){ro:BI}{n:Nat}{md:Region.Mode}{ops:Array Oper}(B:ro=none\/ops.all AH=true){all:List (Nat×af)}(hm:YO P N ops all=true){Q:Exit->Act->World->Prop}{Kd:DS->Prop}(hK:∀s' a' w',wE K N F0 Bc BW w0 s' a' w'->Kd s'->Q .normal a' w'):
 ∀(f:Nat) (listed:Array Bool) (s:DS) (a:Act) (w:World),wE K N F0 Bc BW w0 s a w->Pk C md ops (Oo all) Kd f listed s->wpAnyIn (Fw ro) n P md ops Q f listed a w
 |0,listed,s,a,w,hc,h=>⟨h.1,let⟨s0,e,hk⟩:=h.2;hK s0 a w (hc.eqv e) hk⟩
 |f+1,listed,s,a,w,hc,h=>by
  refine⟨λh0=>let⟨s0,e,hk⟩:=h.1 h0;hK s0 a w (hc.eqv e) hk,λi hi=>?_⟩;obtain⟨d,Z,I⟩:=h.2 i hi;obtain⟨_,o,ho,_⟩:=mem_ready.1 hi;have yp:=aiJ hm (MY Z) o ho;unfold wpOpIn;simp only[ho];have hpo:ro=none\/AH o=true:=B.imp id λh=>by grind
  have:=apQ hC yp hc I (Kn:=wpAnyIn (Fw ro) n P md ops Q f (listed.setIfInBounds i true)) (Q:=Q) (λs' a' w' kX h'=>arF hC B hm hK f _ s' a' w' kX h');split at this
  next hw=>rw[gr hw];exact nv hpo this
  next hw=>rw[ba hw];exact⟨λ_ _=>trivial,this⟩
theorem oS [Inhabited Env](hC:C.ok P){ro:BI}{n:Nat}{id:Nat}{ops:Array Oper}(B:ro=none\/ops.all AH=true){hZ:List (Nat×Nat)}{l:List (Nat×af)}(hm:S9 P N ops hZ l=true)
 {Q:Exit->Act->World->Prop} {Kd:DS->Prop} (hK:∀s' a' w',wE K N F0 Bc BW w0 s' a' w'->Kd s'->Q .normal a' w') {s:DS} {a:Act} {w:World} (hc:wE K N F0 Bc BW w0 s a w) (hJ:Sv hZ s) (h:mJ C (l.map (·.2)) s Kd):
 (Code.region id ops true).wpIn (Fw ro) n P Q a w:=by
 simp only[S9,ab,ir,GO]at hm;obtain⟨⟨⟨⟨⟨aE6,hn⟩,hlen⟩,yp⟩,Q4⟩,aE7⟩:=hm;refine wpIn_region_any aE6 ?_;have:=arF (ro:=ro) (n:=n) hC B yp hK l.length (Array.replicate ops.size false) s a w.drew hc.drew (ac5 Q4 hn l _ s (λ_ h=>h) aE7 hJ h);simp_all
theorem bH.turn [Inhabited Env]{K K' F F':Nat->Prop}{σ:Nat->BI}{B:List ae}{w w':World}(I:bH K F σ B w)(size:w.heap.size<=w'.heap.size)(DW:∀b,F b->w'.heap[b]? =w.heap[b]?)(heap:∀b,b<w.heap.size->¬K b->w'.heap[b]? =w.heap[b]?)
 (hF:∀b,F b->F' b) (newF:∀b,F' b->F b\/K b\/w.heap.size<=b) (Xw:∀b,K' b->K b\/w.heap.size<=b) (fb:∀b,F' b->b<w'.heap.size) (kb:∀b,K' b->b<w'.heap.size):
 bH K' F' σ B w'/\HM F σ B w F' σ B w':=by
 have same:∀(h:Nat) (o:ae) (g:Nat),B[h]? =some o->o.k≠ .dead->σ h=some g->w'.heap[g]? =w.heap[g]? :=by
  intro h o g ho Z hg;by_cases hm:o.k.mut
  .exact heap g (I.yj ho Z hg) (I.xR ho hm hg).2
  .exact DW g (I.xU ho (aqn _ Z hm) hg)
 have hm:HM F σ B w F' σ B w':=⟨hF,DW,By _,λh o ho=>⟨o,ho,By _,λZ _=>⟨Z,rfl,rfl,λg hg=>Tb (same h o g ho Z hg)⟩⟩⟩;refine⟨⟨λh o ho=>?_,I.inj,fb,kb,I.nH.mono hm.ck hm.mono⟩,hm⟩;have old:=I.obj _ _ ho;have nF:∀g,g<w.heap.size->¬F g->¬K g->¬F' g:=λg hl h1 h2 hF=>(newF g hF).elim h1 (λh=>h.elim h2 (λh=>by omega));have nK:∀g,g<w.heap.size->¬K g->¬K' g:=λg hl h1 hk=>(Xw g hk).elim h1 (λh=>by omega);unfold gv at old|-;split
 .trivial
 .rename_i nC;rw[nC]at old;dsimp only at old;rcases old with⟨h0,h1⟩|⟨g,hg,h1,h2,hb⟩
  .simp_all
  .exact .inr ⟨g,hg,nF g hb.lt h1 h2,nK g hb.lt h2,hb.mono (same h o g ho (by simp_all) hg) λd v h=>⟨h.1.mono hm.mono hm.ck,h.2⟩⟩
 .rename_i nC;rw[nC]at old;dsimp only at old;rcases old with⟨h0,h1⟩|⟨g,hg,h1,hb⟩
  .simp_all
  .exact .inr ⟨g,hg,hF _ h1,hb.mono (same h o g ho (by simp_all) hg) λd v h=>⟨h.1.mono hm.mono hm.ck,h.2⟩⟩
 next nC=>rw[nC]at old;dsimp only at old;obtain⟨g,hg,h1,h2,hb⟩:=old;exact⟨g,hg,nF g hb.lt h1 h2,nK g hb.lt h2,hb.mono (same h o g ho (by simp_all) hg) λd v h=>h.mono hm⟩
 next nC=>rw[nC]at old;dsimp only at old;obtain⟨h0,g,hg,h1,h2,hb⟩:=old;exact⟨h0,g,hg,nF g hb.lt h1 h2,nK g hb.lt h2,hb.mono (same h o g ho (by simp_all) hg) λd v h=>⟨h.1.mono hm.mono hm.ck,h.2⟩⟩
theorem jd.put{K F:Nat->Prop}{w:World}{L:Nat}{o:Obj}(hK:¬K L)(hF:¬F L):jd K F w F (w.putObj L o):=
 ⟨rfl,rfl,rfl,by simp,λb hb=>World.putObj_heap_other (λe=>hK (e▸hb)),λb hb=>World.putObj_heap_other (λe=>hF (e▸hb)),λ_ h=>h,λ_ h=> .inl h⟩
theorem Marks.weak{K0 K K' F:Nat->Prop}{w:World}(hK:∀b,K b->K' b):∀{ds:List Deferred},Marks K0 K F w ds->Marks K0 K' F w ds
 |[],_=>trivial
 |d::ds,h=>by obtain⟨⟨D,h1,h2,h3⟩,h4⟩:=h;exact⟨⟨D,h1,hK D h2,h3⟩,h4.weak hK⟩
theorem Marks.put{K0 K F:Nat->Prop}{w:World}{D:Nat}{o:Obj}:∀{ds:List Deferred},Marks K0 K F w ds->({target:= .collected D,args:= #[]}:Deferred)∉ds->Marks K0 K F (w.putObj D o) ds
 |[],_,_=>trivial
 |d::ds,h,hn=>by obtain⟨⟨D',h1,h2,h3,h4,h5⟩,h6⟩:=h;refine⟨⟨D',h1,h2,h3,(World.putObj_heap_other λe=>?_).trans h4,h5⟩,h6.put λh=>hn (XN _ h)⟩;simp_all
theorem Marks.mem{K0 K F:Nat->Prop}{w:World}:∀{ds:List Deferred},Marks K0 K F w ds->∀d∈ds,∃D,d={target:= .collected D,args:= #[]}/\K D
 |[],_,d,Z=>by cases Z
 |d::ds,h,e,he=>by
  rcases NO.1 he with rfl|he
  .exact⟨h.1.choose,h.1.choose_spec.1,h.1.choose_spec.2.1⟩
  .exact h.2.mem e he
theorem Marks.at{K0 K F:Nat->Prop}{w:World}:∀{ds:List Deferred},Marks K0 K F w ds->∀d∈ds,∃D,d={target:= .collected D,args:= #[]}/\w.heap[D]? =some (.deferred (some []))
 |[],_,d,Z=>by cases Z
 |d::ds,h,e,he=>by
  rcases NO.1 he with rfl|he
  .exact⟨h.1.choose,h.1.choose_spec.1,h.1.choose_spec.2.2.2.1⟩
  .exact h.2.at e he
theorem ac6(p:Nat)(d:J)(R:List (Nat×J)):∀(l:List (Nat×J)),(∀x∈l,x.1≠p)->∀n,get n (l++(p,d)::R)=get n ((p,d)::(l++R))
 |[],_,n=>rfl
 |(q,e)::l,h,n=>by have ih:=ac6 p d R l (λx U=>h x (XN _ U)) n;grind[KV,Cr,cS]
theorem arG{An:J->Value->Prop}:∀(ps:List Nat) (x:Ab) (vs:List Value) (tm:Array Value) (R:List (Nat×J)),ps.Nodup->dX An x vs->x.length=ps.length->(∀p∈ps,p<tm.size)->
 (∀n,An (get n R) (tm.getD n undef))->∀n,An (get n (ps.zip x++R)) (((ps.zip vs).foldl (λt (y:Nat×Value)=>t.setIfInBounds y.1 y.2) tm).getD n undef)
 |[],x,vs,tm,R,_,_,hl,_,h,n=>by simp_all
 |p::ps,[],vs,tm,R,_,_,hl,_,_,n=>by simp at hl
 |p::ps,d::x,vs,tm,R,hn,hv,hl,B,h,n=>by
  obtain⟨v,Mg,rfl,h0,h1⟩:=hv.cons;rw[List.nodup_cons]at hn;have:=arG ps x Mg (tm.setIfInBounds p v) ((p,d)::R) hn.2 h1 (by simp_all) (λq hq=>by simp_all) (λn=>by
   rw[cS];have PJ:=B p KV;by_cases e:n=p
   .simp_all
   simp_all[ba,undef,Array.getElem?_setIfInBounds_ne,Ne.symm]) n
  rw[ac6 p d R (ps.zip x) (λy hy=>by have:=(List.of_mem_zip hy).1;grind)]at this
  simp_all
end
end Go.Nk
set_option linter.all false
namespace Go.Nk
open Go.RowKit
section
variable {P:Program} {K F:Nat->Prop} {σ:Nat->BI} {B:List ae} {w:World}
theorem AZ{F:Nat->Prop}{σ:Nat->BI}{B:List ae}{w:World}:HM F none_ [] w F σ B w:=
 ⟨λ_ h=>h,λ_ _=>rfl,AI _,λh o ho=>by simp at ho⟩
theorem Kt{F:Nat->Prop}{σ:Nat->BI}{B:List ae}{w:World}{d:J}{v:Value}(h:aC F σ B w d v)(Z:d.bl=true):aC F none_ [] w d v:=by
 cases h with
 |aV h=>exact .aV h
 |_=>simp[J.bl]at Z
theorem bH.kill [Inhabited Env](I:bH K F σ B w){h g:Nat}{o:ae}(ho:B[h]? =some o)(hk:o.k.mut)(hg:σ h=some g):
 bH (λb=>K b\/b=g) F σ (B.set h {o with k:= .dead}) w/\HM F σ B w F σ (B.set h {o with k:= .dead}) w:=by
 have mP:=er ho;have sK:∀k:Nat,(B.set h {o with k:= .dead})[k]? =if k=h then some {o with k:= .dead}else B[k]? :=by grind
 generalize aE8:B.set h {o with k:= .dead}=eZ at*;have Xh:eZ.length=B.length:=by grind
 have Z:o.k≠ .dead:=Td hk;have hm:HM F σ B w F σ eZ w:=by refine⟨λ_ h=>h,λ_ _=>rfl,by omega,λk o' jP=>?_⟩;grind
 refine⟨⟨λk o' jP=>?_,λk1 k2 o1 o2 g' Y m1 e2 m2 s1 s2=>?_,I.fb,λb hb=>hb.elim (I.kb b) λe=>e▸I.yj ho Z hg,I.nH⟩,hm⟩
 .rw[sK]at jP;by_cases e:k=h
  .rw[gr e]at jP;grind[gv]
  .rw[ba e]at jP;have old:=I.obj k o' jP;have ne:∀g',o'.k.mut->σ k=some g'->g'≠g:=λg' hm oT e2=>e (I.inj k h o' o g jP hm ho hk (e2▸oT) hg);unfold gv at old|-;split
   .trivial
   .rename_i nC;rw[nC]at old;dsimp only at old;rcases old with h0|⟨g',h1,h2,h3,h4⟩
    .exact .inl h0
    .exact .inr ⟨g',h1,h2,λhh=>hh.elim h3 (ne g' (.inl nC) h1),h4⟩
   .simp_all
   next nC=>rw[nC]at old;dsimp only at old;obtain⟨g',h1,h2,h3,h4⟩:=old;exact⟨g',h1,h2,λhh=>hh.elim h3 (ne g' (mG nC) h1),h4.mono rfl λd v E=>E.mono hm⟩
   next nC=>rw[nC]at old;dsimp only at old;obtain⟨h0,g',h1,h2,h3,h4⟩:=old;exact⟨h0,g',h1,h2,λhh=>hh.elim h3 (ne g' (.inr (.inr ⟨_,nC⟩)) h1),h4⟩
 .rw[sK]at Y e2;by_cases q1:k1=h
  .rw[gr q1]at Y;injection Y with Y;subst Y;rcases m1 with m1|m1|⟨_,m1⟩<;>cases m1
  by_cases q2:k2=h
  .rw[gr q2]at e2;injection e2 with e2;subst e2;rcases m2 with m2|m2|⟨_,m2⟩<;>cases m2
  rw[ba q1]at Y;rw[ba q2]at e2;exact I.inj k1 k2 o1 o2 g' Y m1 e2 m2 s1 s2
def nx(F:Nat->Prop)(σ:Nat->BI)(B:List ae)(w:World)(d:J)(v:Value):Prop:=
 (d.bl=true->aC F none_ [] w d v)/\∀h L i j,d= .ptr h L i j->(∃o,B[h]? =some o)->aC F σ B w d v
theorem atY{d:J}{v:Value}(h:aC F σ B w d v):nx F σ B w d v:=⟨Kt h,λ_ _ _ _ _ _=>h⟩
theorem aqo{d:J}{v:Value}(h:aC F σ B w d v)(m:Nat):nx F σ ((B.take m).map (ae.cut m)) w d v:=by
 refine⟨Kt h,?_⟩
 rintro k L i j rfl ⟨o,ho⟩
 have:=h.xt m;grind[AJ,J.cut,J.qA]
theorem arH [Inhabited Env](I:bH K F σ B w):∀{Bb:Ab} {cv:List Value},dX (nx F σ B w) Bb cv->(ic B Bb).1->
 ∃(BQ:Nat->Prop) (Be:Nat->BI),(∀b,BQ b->b<w.heap.size/\¬F b/\¬K b)/\bH (λb=>K b\/BQ b) F σ (ic B Bb).2.2 w/\HM F σ B w F σ (ic B Bb).2.2 w/\
  bH (λb=>b<w.heap.size/\¬BQ b) F Be (kv (ic B Bb).2.1).2 w/\dX (aC F Be (kv (ic B Bb).2.1).2 w) (kv (ic B Bb).2.1).1 cv
 |[],cv,hv,_=>by refine⟨λ_=>False,none_,λb hb=>hb.elim,I.weak λb hb=>hb.elim id False.elim,.refl _ _ _ _,⟨λh o ho=>by simp[ic,kv]at ho,λh h' o o' g Y=>by simp[ic,kv]at Y,I.fb,λb hb=>hb.1,I.nH⟩,?_⟩;exact⟨hv.1,λj d Z=>by simp[ic,kv]at Z⟩
 |d::r,cv,hv,hc=>by
  obtain⟨v,cv',rfl,h0,h1⟩:=hv.cons;by_cases Z:∃h L i j,d= .ptr h L i j
  .obtain⟨h,L,i,j,rfl⟩:=Z;unfold ic at hc|-;cases ho:B[h]? with
   |none=>simp_all
   |some o=>
    simp only[ho]at hc|-;obtain⟨hk,hl,rfl,rfl,rfl,lw,E⟩:=hc;have hvr:=h0.2 h 1 0 0 rfl ⟨o,ho⟩;obtain⟨_,U⟩:=hvr.DE;obtain⟨_,U⟩:=U o ho;obtain⟨g,hg,hvv⟩:=U (by rw[hk];simp) hl;have old:=I.obj h o ho;unfold gv at old;rw[hk]at old;dsimp only at old;obtain⟨g',oT,nF,nK,c,ty,Y,e2,e3,e4⟩:=old;rw[hg]at oT;injection oT with oT;subst oT;have aE9:=I.yj ho (by rw[hk];simp) hg;obtain⟨k1,k2⟩:=I.kill ho (mG hk) hg;have oe:o.es[0]? =some (o.es.getD 0 []):=by simp_all
    have hz:(o.es.getD 0 []).length=o.z:=e3 0 _ oe;generalize hrw:o.es.getD 0 []=row at*;have D6:bH (λb=>b<w.heap.size/\¬b=g) F (λk=>if k=0 then some g else none) [⟨.loc,row.length,[row]⟩] w:=by
     refine⟨λk o' jP=>?_,λk1 k2 o1 o2 g' a1 m1 a2 m2 s1 s2=>?_,I.fb,λb hb=>hb.1,I.nH⟩
     .have Q8:k=0:=by grind
      subst Q8;simp only[List.getElem?_cons_zero,GB]at jP;subst jP;unfold gv;dsimp only;refine⟨g,gr rfl,nF,λhh=>hh.2 rfl,c,ty,Y,?_,λi e he=>?_,λi j d Z=>?_⟩
      .simp_all
      .grind
      .have YW:i=0:=by grind[Nat.eq_zero_or_pos,cellAt,XO]
       subst YW;have xo:row[j]? =some d:=by simpa[cellAt]using Z
       obtain⟨u,hu,yv⟩:=e4 0 j d (by simp[cellAt,oe,xo]);refine⟨u,by simp_all,(Kt yv (lw d (ed xo))).mono AZ⟩
     simp_all
    refine⟨λb=>b=g,_,λb hb=>hb▸⟨aE9,nF,nK⟩,k1,k2,by simpa only[kv]using D6,?_⟩;simp only[kv];refine .iC ?_ ⟨h1.1,λj d Z=>?_⟩
    .rw[hvv];refine .ptr 0 1 0 0 _ rfl (by simp) λo' jP=>?_;grind
    .obtain⟨u,hu,yv⟩:=h1.2 j d Z;exact⟨u,hu,(yv.1 (BE.1 E d (ed Z))).mono AZ⟩
  .have Y:ic B (d::r)=(d.bl=true/\(ic B r).1,d::(ic B r).2.1,(ic B r).2.2):=by cases d<;>first|rfl|simp_all
   rw[Y]at hc|-;have e2:∀x:Ab,kv (d::x)=(d::(kv x).1,(kv x).2):=λx=>by have:=hc.1;cases d<;>first|rfl|simp[J.bl]at this
   obtain⟨BQ,Be,h2,h3,h4,h5,h6⟩:=arH I h1 hc.2;dsimp only;rw[e2];exact⟨BQ,Be,h2,h3,h4,h5,.iC ((h0.1 hc.1).mono AZ) h6⟩
end
end Go.Nk
set_option linter.all false
namespace Go.Nk
open Go.RowKit
section
variable {P:Program} {K F0:Nat->Prop} {Bc:Nat->BI} {BW:List ae} {N:Nat} {w0:World} {C:dJ}
def fw(P:Program)(N:Nat):Code->aq->Bool
 | .skip,.skip=>true
 | .region _ ops draw,.ops yw dl=>draw==yw&&(if draw then S9 P N ops [] (Qa 0 dl)else yi P N ops ops.toList dl)
 | .region _ ops draw,.Km l=>draw&&S9 P N ops [] l
 | .region _ ops draw,.Pu hZ l=>draw&&S9 P N ops hZ l
 | .seq a b,.seq a' b'=>fw P N a a'&&fw P N b b'
 | .cond c a b,.cond c' a' b'=>cK c c'&&fw P N a a'&&fw P N b b'
 | .block id c,.block GP c'=>id==GP&&fw P N c c'
 | .loop c,.loop _ _ c'=>fw P N c c'
 |c,.cut _ _ c'=>fw P N c c'
 |c,.CK _ _ _ c'=>fw P N c c'
 |c,.JC c'=>fw P N c c'
 | .scope c,.scope c'=>fw P N c c'
 | .rangeFunc f qs K7 c,.sH _ _ g ps Q5 c'=>cK f g&&qs.toList==ps&&decide ps.Nodup&&ps.all (λp=>decide (p<N))&&mq K7&&mq c&&fw P N K7 Q5&&fw P N c c'
 | .label _,.skip=>true
 |_,.bad=>true
 | .exit id,.exit GP=>id==GP
 | .ret,.ret=>true
 |_,_=>false
def QQ [Inhabited Env](K:Nat->Prop)(N:Nat)(F0:Nat->Prop)(Bc:Nat->BI)(BW:List ae)(w0:World)(Q:cA->DS->Prop):Exit->Act->World->Prop
 | .normal,a,w=>∃s,wE K N F0 Bc BW w0 s a w/\Q .normal s
 | .exit id,a,w=>∃s,wE K N F0 Bc BW w0 s a w/\Q (.exit id) s
 | .ret,a,w=>∃s,wE K N F0 Bc BW w0 s a w/\Q .ret s
 |_,_,_=>False
def JR [Inhabited Env](K F1:Nat->Prop)(N0:Nat->BI)(lO:List ae)(w1:World)(D L:Nat)(rec:LoopState->Option Code->Loop)(Bo:Nat->List ae->Prop)(X:Code->List ae->Prop):BI->(Nat->Prop)->(Nat->Prop)->World->Prop:=λk F BQ W=>
 W.heap[D]? =some (.deferred (some []))/\¬F D/\¬F L/\¬BQ D/\¬BQ L/\(∀b,K b->¬BQ b)/\
 ∃σ B,bH (λb=>(K b\/b=D\/b=L)\/BQ b) F σ B W/\jd K F1 w1 F W/\HM F1 N0 lO w1 F σ B W/\
  match k with
  |some k=>W.heap[L]? =some (.loop (rec .ready none))/\Bo k B
  |none=>∃jc,W.heap[L]? =some (.loop (rec .done (some jc)))/\X jc B
theorem JR.aA8 [Inhabited Env]{K F1:Nat->Prop}{N0:Nat->BI}{lO:List ae}{w1:World}{D L:Nat}{rec:LoopState->Option Code->Loop}{Bo:Nat->List ae->Prop}{X:Code->List ae->Prop}:yh (JR K F1 N0 lO w1 D L rec Bo X):=by
 intro k F BQ W F' B' W' h st;obtain⟨hD,fD,aDB,bD,bL,N2,σ,B,I,AD,Bl,hk⟩:=h;have o4:D<W.heap.size:=(Array.getElem?_eq_some_iff.1 hD).1;have YX:L<W.heap.size:=by grind
 have hK:∀b,K b->b<W.heap.size:=λb hb=>I.kb b (.inl (.inl hb));obtain⟨yr,wO⟩:=I.turn (K':=λb=>(K b\/b=D\/b=L)\/B' b) (F':=F') st.size st.ck (λb hb hk=>st.heap b hb λh=>hk (.inr h)) st.mono
  (λb hb=>(st.new b hb).imp id (λh=>h.imp .inr id)) (λb hb=>hb.elim (λh=> .inl (.inl h)) λh=>(st.own b h).imp .inr id) st.fb
  (λb hb=>hb.elim (λh=>Ef (h.elim (hK b) (λh=>h.elim (λh=>h▸o4) λh=>h▸YX)) st.size) (st.bb b))
 have nb:∀b,b<W.heap.size->¬BQ b->¬B' b:=λb hl hb h=>(st.own b h).elim hb λh=>by omega
 have arI:∀b,b<W.heap.size->¬F b->¬BQ b->¬F' b:=λb hl hf hb h=>(st.new b h).elim hf λh=>h.elim hb λh=>by omega
 refine⟨(st.heap D o4 bD).trans hD,arI D o4 fD bD,arI L YX aDB bL,nb D o4 bD,nb L YX bL,λb hb=>nb b (hK b hb) (N2 b hb),σ,B,yr,AD.trans ?_,Bl.trans wO,?_⟩
 .exact⟨st.os,st.tape,st.output,st.size,λb hb=>st.heap b (hK b hb) (N2 b hb),st.ck,st.mono,λb hb=>(st.new b hb).imp id λh hk=>h.elim (N2 b hk) λh=>by grind⟩
 .cases k with
  |some k=>exact⟨(st.heap L YX bL).trans hk.1,hk.2⟩
  |none=>obtain⟨jc,h1,h2⟩:=hk;exact⟨jc,(st.heap L YX bL).trans h1,h2⟩
set_option maxHeartbeats 1000000 in
theorem ac8 [Inhabited Env](hC:C.ok P){f:Operand}{qs:Array Tmp}{c:Code}{live:List Nat}{m:BI}{g:DA}{ps:List Nat}{c':aq}{K7:Code}{Q5:aq}
 (o5:∀(L:Nat) (K F0:Nat->Prop) (Bc:Nat->BI) (BW:List ae) (w0:World) (Q:cA->DS->Prop) (s:DS) (a:Act) (w:World),fw P N K7 Q5=true->gP C BW.length Q5 Q s->wE K N F0 Bc BW w0 s a w->Code.wpIn (Fw (some L)) 0 P K7 (QQ K N F0 Bc BW w0 Q) a w)
 (ih:∀(L:Nat) (K F0:Nat->Prop) (Bc:Nat->BI) (BW:List ae) (w0:World) (Q:cA->DS->Prop) (s:DS) (a:Act) (w:World),fw P N c c'=true->gP C BW.length c' Q s->wE K N F0 Bc BW w0 s a w->Code.wpIn (Fw (some L)) 0 P c (QQ K N F0 Bc BW w0 Q) a w)
 {n:Nat} {Q:cA->DS->Prop} {s:DS} {a:Act} {w:World} (hm:fw P N (.rangeFunc f qs K7 c) (.sH live m g ps Q5 c')=true) (h:gP C BW.length (.sH live m g ps Q5 c') Q s) (hc:wE K N F0 Bc BW w0 s a w):
 Code.wpIn (Fw none) n P (.rangeFunc f qs K7 c) (QQ K N F0 Bc BW w0 Q) a w:=by
 simp only[fw,ab,GO,ir]at hm;obtain⟨⟨⟨⟨⟨⟨⟨hg,Dk⟩,hnd⟩,mP⟩,aKu⟩,PJ⟩,hmA⟩,hm⟩:=hm;simp only[gP]at h;obtain⟨Mq,h⟩:=h;obtain⟨K',F,σ,U⟩:=hc;have N3:=U.cut live m Mq;have hv:=aD U.2.2.1 hg;have hws:=U.2.1;obtain⟨EP,I,hf,hN,mQ,AD,Bl⟩:=N3;generalize mU:s.cut live m=s1 at h I hf Bl;cases he:g.ev s.R<;>simp only[he]at h hv;rename_i gf Bb;obtain⟨bE,So,Bo,hI0,yx,aBa⟩:=h;obtain⟨cv,Sx,zQ,yy⟩:=hv.DF;obtain⟨nT,hti⟩:=hC.i gf _ bE;have aBb:dX (nx F σ s1.B w) Bb cv.toList:=⟨by omega,λj d Z=>by
  obtain⟨u,hu,E⟩:=yy j d Z;refine⟨u,by simp_all,?_⟩;rw[<-mU];cases m with
  |none=>exact atY E
  |some m=>exact aqo E m⟩
 obtain⟨B0,σB,hB0,YY,aFc,z0,aBe⟩:=arH I aBb So;generalize hhk:(ic s1.B Bb).2.2=zK at*;generalize DG:(ic s1.B Bb).2.1=aKy at*;have aFe:∀b,K' b->b<w.heap.size:=I.kb;have zY:∀b,F b->b<w.heap.size:=I.fb;show Code.wpIn Fence.wide n P (.rangeFunc f qs K7 c) _ a w;refine wpIn_rangeFunc λfn hfn=>?_;obtain⟨rec,xX⟩:∃rec:LoopState->Option Code->Loop,rec=λst aDC=>{state:=st,pending:=aDC,fn,tmps:=a.tmps,params:=qs,assign:=K7,body:=c,defers:=w.heap.size}:=⟨_,rfl⟩;obtain⟨W1,oI⟩:∃W1,(w.alloc (.deferred (some []))).alloc (.loop (rec .ready none))=W1:=⟨_,rfl⟩;have hold:∀b,b<w.heap.size->W1.heap[b]? =w.heap[b]? :=λb hb=>by grind[Below.heap_alloc,trans]
 have lP:W1.heap.size=w.heap.size+2:=by rw[<-oI];simp
 have hL1:W1.heap[w.heap.size+1]? =some (.loop (rec .ready none)):=by grind[World.alloc_heap_new,World.size_alloc]
 have hD1:W1.heap[w.heap.size]? =some (.deferred (some [])):=by grind[Below.heap_alloc,trans,World.alloc_heap_new]
 refine⟨w.heap.size+1,[{target:= .collected w.heap.size,args:= #[]}],W1,{target:= .fn (.func gf) cv,args:= #[.func (.yield (w.heap.size+1)) #[] #[]]},W1,gf,
  #[.func (.yield (w.heap.size+1)) #[] #[]]++cv,W1,?_,?_,λ_ _=>trivial,?_,λh=>by simp[Fence.wide]at h,?_⟩
 .simp_all[run_enterLoop_outer]
 .simp only[resolve,Sx];simp[go_sem]
 .simp_all[AK,invoke]
 generalize hL:w.heap.size+1=L at*;generalize hD:w.heap.size=D at*;have Mj:∀{F2:Nat->Prop} {DT:Nat->BI} {eZ:List ae} {W:World},HM F σ s1.B w F2 DT eZ W->jZ F2 DT eZ W s1.R a.tmps:=λhm i=>(hf i).mono hm;obtain⟨X,hX⟩:∃X:Code->List ae->Prop,X=λjc B=>(jc= .ret/\Q .ret ⟨s1.R,B⟩)\/∃id,jc= .exit id/\Q (.exit id) ⟨s1.R,B⟩:=⟨_,rfl⟩;obtain⟨aFf,aFg⟩:=YY.turn (K':=λb=>(K' b\/b=D\/b=L)\/B0 b) (F':=F) (w':=W1) (by omega) (λb hb=>hold b (zY b hb)) (λb hb _=>hold b (by omega)) (λ_ h=>h) (λ_ h=> .inl h)
  (λb hb=>hb.elim (λh=>h.elim (λh=> .inl (.inl h)) λh=> .inr (by omega)) λh=> .inl (.inr h)) (λb hb=>by grind) (λb hb=>hb.elim (λh=>h.elim (λh=>by grind) λh=>by omega) λh=>by grind)
 have aFh:jd K' F w F W1:=⟨by rw[<-oI];rfl,by rw[<-oI];rfl,by rw[<-oI];rfl,by omega,λb hb=>hold b (aFe b hb),λb hb=>hold b (zY b hb),λ_ h=>h,λ_ h=> .inl h⟩;have oL:∀b,K' b->b≠D/\b≠L:=λb hb=>by grind
 have nFD:∀b,F b->b≠D/\b≠L:=λb hb=>by grind
 have ze:D≠L:=by omega
 have start:JR K' F σ s1.B w D L rec Bo X (some 0) F B0 W1:=
  ⟨hD1,λh=>(nFD D h).1 rfl,λh=>(nFD L h).2 rfl,λh=>by grind,λh=>by grind,λb hb h=>(hB0 b h).2.2 hb,σ,zK,aFf,aFh,aFc.trans aFg,hL1,hI0⟩
 obtain⟨aFj,aFk⟩:=z0.turn (K':=λb=>b<W1.heap.size/\¬B0 b) (F':=F) (w':=W1) (by omega) (λb hb=>hold b (zY b hb)) (λb hb _=>hold b (by omega)) (λ_ h=>h) (λ_ h=> .inl h)
  (λb hb=>by grind) (λb hb=>by grind) (λb hb=>hb.1)
 have key:=hti L (JR K' F σ s1.B w D L rec Bo X) F B0 σB W1 cv JR.aA8 ?_ (λb hb=>by grind) aFj
  (aBe.imp λd v E=>E.mono aFk) start
 .refine callsIn_wide.2 ((callsIn_wide.1 key).mono ?_)
  rintro e W3 ⟨⟨v,rfl⟩,F3,arJ,k,hJ,hk⟩
  obtain⟨jD,zg,Yc,jbD,zh,jKB,VZ,El,js,oR,Ye,jk⟩:=hJ;have fin:∀W4 o,W4=W3.putObj L o->∀(e:cA),Q e ⟨s1.R,El⟩->∃s',wE K N F0 Bc BW w0 s' {a with defers:=[{target:= .collected D,args:= #[]}]++a.defers} W4/\Q e s':=by
   rintro W4 o rfl e hq
   have nX:∀b,b≠L->(W3.putObj L o).heap[b]? =W3.heap[b]? :=λb hb=>World.putObj_heap_other hb;obtain⟨oX,pV⟩:=js.turn (K':=λb=>(K' b\/b=D\/b=L)\/arJ b) (F':=F3) (w':=W3.putObj L o) (by simp) (λb hb=>nX b λh=>Yc (h▸hb)) (λb _ hb=>nX b λh=>hb (.inl (.inr (.inr h)))) (λ_ h=>h) (λ_ h=> .inl h) (λ_ h=> .inl h)
    (λb hb=>by simpa using js.fb b hb) (λb hb=>by simpa using js.kb b hb)
   have mv4:jd K' F3 W3 F3 (W3.putObj L o):=jd.put (λh=>(oL L h).2 rfl) Yc;refine⟨⟨s1.R,El⟩,⟨λb=>K' b\/b=D,F3,VZ,λb hb=> .inl (EP b hb),oX.weak λb hb=> .inl (hb.imp id .inl),Mj (Ye.trans pV),hN,⟨⟨D,rfl,.inr rfl,zg,(nX D ze).trans jD,λhk=>(oL D (EP D hk)).1 rfl,λZ=>?_⟩,?_⟩,AD.trans ((oR.trans mv4).weak EP),Bl.trans (Ye.trans pV)⟩,hq⟩
   .obtain⟨D',h1,h2⟩:=mQ.mem _ Z;grind
   .exact(mQ.move (oR.trans mv4)).weak λb hb=> .inl hb
  rcases hk with rfl|rfl
  .obtain⟨jc,j1,j2⟩:=jk;have oH:=run_endLoop (P:=P) j1 (by grind);rw[xX]at oH;refine⟨some jc,_,by rw[xX]at j1;exact oH,?_⟩;rw[hX]at j2;rcases j2 with⟨rfl,hq⟩|⟨id,rfl,hq⟩
   .exact wpIn_ret (fin _ _ rfl .ret hq)
   .exact wpIn_exit (fin _ _ rfl (.exit id) hq)
  .have oH:=run_endLoop (P:=P) jk.1 (by grind);rw[xX]at oH;exact⟨none,_,oH,fin _ _ rfl .normal (aBa El jk.2)⟩
 .
  intro k F2 BQ W x vs hJ hF2 hB US Mo;obtain⟨jD,zg,Yc,jbD,zh,jKB,DT,eZ,js,oR,Ye,arK,aDD⟩:=hJ;obtain⟨Vd,aBh⟩:=yx k x eZ aDD US;have Xc:vs.length=qs.size:=by rw[<-Mo.1,Vd,<-Dk];simp
  have hy:=run_yield (P:=P) (args:=vs.toArray) arK (by simp_all);rw[xX]at hy;dsimp only at hy;refine⟨fn,_,K7,c,hy,roundIn_of_wpIn trivial ?_⟩;have aBj:(qs.zip vs.toArray).foldl (λt (y:Nat×Value)=>t.setIfInBounds y.1 y.2) a.tmps=(ps.zip vs).foldl (λt (y:Nat×Value)=>t.setIfInBounds y.1 y.2) a.tmps:=by rw[<-Array.foldl_toList,Array.toList_zip,Dk]
  have aKB:∀(l:List (Nat×Value)) (t:Array Value),(l.foldl (λt (y:Nat×Value)=>t.setIfInBounds y.1 y.2) t).size=t.size:=by intro l;induction l<;>simp_all
  have aFn:jZ F2 DT eZ W (ps.zip x++s1.R) ((ps.zip vs).foldl (λt (y:Nat×Value)=>t.setIfInBounds y.1 y.2) a.tmps):=
   arG ps x vs a.tmps s1.R hnd (Mo.imp λd v E=>E.mono AZ) Vd (λp B=>by simp_all) (Mj Ye)
  have rl:wE (λb=>(K' b\/b=D\/b=L)\/BQ b) N F2 DT eZ W ⟨ps.zip x++s1.R,eZ⟩ {tmps:=(ps.zip vs).foldl (λt (y:Nat×Value)=>t.setIfInBounds y.1 y.2) a.tmps,defers:=[]} W:=
   ⟨_,F2,DT,λ_ h=>h,js,aFn,by simp_all,trivial,.refl _ _ _,.refl _ _ _ _⟩
  have aFo:=o5 L _ F2 DT eZ W _ _ _ W hmA aBh rl;have Y:(qs.zip vs.toArray).foldl (λ(tmps:Array Value) (x:Nat×Value)=>match x with|(t,a)=>tmps.setIfInBounds t a) a.tmps=(ps.zip vs).foldl (λt (y:Nat×Value)=>t.setIfInBounds y.1 y.2) a.tmps:=aBj;rw[Y];refine wpIn_mono (show Code.wpIn (Fence.wide.inRound L) 0 P K7 _ _ W from aFo) ?_
  rintro eA arL WA Vf
  cases eA with
  |exit id=>exact Vf.choose_spec.2.elim
  |ret=>exact Vf.choose_spec.2.elim
  |goto l=>exact Vf.elim
  |panic c=>exact Vf.elim
  |outgrown=>exact Vf.elim
  |normal=>
  obtain⟨sA,⟨KA,FA,pe,hKA,YY,hfA,hNA,hdA,Tf,aFp⟩,aqp⟩:=Vf;simp only[cA.only]at aqp;have arM:WA.heap[L]? =some (.loop (rec .ready none)):=(Tf.sa L (.inl (.inr (.inr rfl)))).trans arK;have aFq:L<WA.heap.size:=(Array.getElem?_eq_some_iff.1 arM).1;have zi:¬FA L:=λh=>(Tf.new L h).elim Yc (λh=>h (.inl (.inr (.inr rfl))));refine⟨_,run_beginRound arM (by rw[xX]),?_⟩;generalize Yg:WA.putObj L (.loop {rec .ready none with state:= .busy})=Wb;have Yh:∀b,b≠L->Wb.heap[b]? =WA.heap[b]? :=λb hb=>by rw[<-Yg];exact World.putObj_heap_other hb
  have aBm:Wb.heap.size=WA.heap.size:=by rw[<-Yg];simp
  have hLb:Wb.heap[L]? =some (.loop {rec .ready none with state:= .busy}):=by rw[<-Yg];exact World.putObj_heap_same aFq
  obtain⟨jsb,jmb⟩:=YY.turn (K':=KA) (F':=FA) (w':=Wb) (by omega) (λb hb=>Yh b λh=>zi (h▸hb)) (λb _ hb=>Yh b λh=>hb (h▸hKA L (.inl (.inr (.inr rfl))))) (λ_ h=>h) (λ_ h=> .inl h) (λ_ h=> .inl h)
   (λb hb=>by rw[aBm];exact YY.fb b hb) (λb hb=>by rw[aBm];exact YY.kb b hb)
  have mvb:jd K' FA WA FA Wb:=by rw[<-Yg];exact jd.put (λh=>(oL L h).2 rfl) zi
  have hdb:Marks (λb=>(K' b\/b=D\/b=L)\/BQ b) KA FA Wb arL.defers:=by
   rw[<-Yg];exact hdA.put λZ=>by obtain⟨D',h1,h2⟩:=hdA.at _ Z;grind
  have aBn:wE (λb=>(K' b\/b=D\/b=L)\/BQ b) N FA pe sA.B Wb sA arL Wb:=
   ⟨KA,FA,pe,hKA,jsb,λn=>(hfA n).mono jmb,hNA,hdb,.refl _ _ _,.refl _ _ _ _⟩
  have hbw:=ih L _ FA pe sA.B Wb _ _ _ Wb hm aqp aBn;refine wpIn_mono (show Code.wpIn (Fence.wide.inRound L) 0 P c _ _ Wb from hbw) ?_;have fin:∀(jump:Option Code) (s3:DS) (a3:Act) (W3:World) (El:List ae),wE (λb=>(K' b\/b=D\/b=L)\/BQ b) N FA pe sA.B Wb s3 a3 W3->
   (El=(s3.cut [] m).B\/El=s3.B)->(match jump with|none=>Bo (k+1) El|some jc=>X jc El)->
   ∃v w',(Instr.endRound L jump).run P W3= .ok v w'/\∃b F',Ending.returned v= .returned (.bool b)/\(∀c,F2 c->F' c)/\(∀c,F' c->F2 c\/¬BQ c)/\(∀c,F' c->c<w'.heap.size)/\W.heap.size<=w'.heap.size/\
    (∀c,F2 c->w'.heap[c]? =W.heap[c]?)/\(∀c,BQ c->w'.heap[c]? =W.heap[c]?)/\JR K' F σ s1.B w D L rec Bo X (if b then some (k+1)else none) F' BQ w':=by
   rintro jump s3 a3 W3 El ⟨aKx,F3,VZ,hKz,pj,_,_,_,Vg,aFs⟩ JD hj
   have l3:W3.heap[L]? =some (.loop {rec .ready none with state:= .busy}):=(Vg.sa L (.inl (.inr (.inr rfl)))).trans hLb;have oH:=run_endRound (P:=P) jump l3;have nX:∀o b,b≠L->(W3.putObj L o).heap[b]? =W3.heap[b]? :=λo b hb=>World.putObj_heap_other hb;have zj:¬F3 L:=λh=>(Vg.new L h).elim zi (λh=>h (.inl (.inr (.inr rfl))));have fAD:¬FA D:=λh=>(Tf.new D h).elim zg (λh=>h (.inl (.inr (.inl rfl))));have f3D:¬F3 D:=λh=>(Vg.new D h).elim fAD (λh=>h (.inl (.inr (.inl rfl))));refine⟨_,_,oH,jump.isNone,F3,rfl,λc hc=>Vg.mono c (Tf.mono c hc),λc hc=>?_,λc hc=>by simpa using pj.fb c hc,by have:=Vg.size;have:=Tf.size;simp;omega,λc hc=>?_,λc hc=>?_,?_⟩
   .rcases Vg.new c hc with h|h
    .exact(Tf.new c h).imp id λh hb=>h (.inr hb)
    grind
   .have:c≠L:=λh=>Yc (h▸hc);exact(nX _ c this).trans ((Vg.ck c (Tf.mono c hc)).trans ((Yh c this).trans (Tf.ck c hc)))
   .have:c≠L:=λh=>zh (h▸hc);exact(nX _ c this).trans ((Vg.sa c (.inr hc)).trans ((Yh c this).trans (Tf.sa c (.inr hc))))
   generalize eX:Obj.loop {rec .ready none with state:=if jump.isNone then .ready else .done,pending:=jump}=ob;obtain⟨oX,pV⟩:=(pj.weak hKz).turn (K':=λb=>(K' b\/b=D\/b=L)\/BQ b) (F':=F3) (w':=W3.putObj L ob) (by simp) (λb hb=>nX _ b λh=>zj (h▸hb)) (λb _ hb=>nX _ b λh=>hb (.inl (.inr (.inr h)))) (λ_ h=>h) (λ_ h=> .inl h) (λ_ h=> .inl h)
    (λb hb=>by simpa using pj.fb b hb) (λb hb=>by simpa using pj.kb b (hKz b hb))
   have wk:∀b,K' b->(K' b\/b=D\/b=L)\/BQ b:=λb hb=> .inl (.inl hb);have aFu:jd K' F w F3 (W3.putObj L ob):=(((oR.trans (Tf.weak wk)).trans mvb).trans (Vg.weak wk)).trans (jd.put (λh=>(oL L h).2 rfl) zj);have aBo:HM F σ s1.B w F3 VZ s3.B (W3.putObj L ob):=(((Ye.trans aFp).trans jmb).trans aFs).trans pV;have l4:(W3.putObj L ob).heap[L]? =some ob:=World.putObj_heap_same (Array.getElem?_eq_some_iff.1 l3).1;have d4:(W3.putObj L ob).heap[D]? =some (.deferred (some [])):=(nX _ D ze).trans ((Vg.sa D (.inl (.inr (.inl rfl)))).trans ((Yh D ze).trans ((Tf.sa D (.inl (.inr (.inl rfl)))).trans jD)));have both:bH (λb=>(K' b\/b=D\/b=L)\/BQ b) F3 VZ El (W3.putObj L ob)/\HM F σ s1.B w F3 VZ El (W3.putObj L ob):=by
    rcases JD with rfl|rfl
    .cases m with
     |none=>exact⟨oX,aBo⟩
     |some m=>
      refine⟨oX.cut m,aBo.cut ?_⟩;rw[<-mU];simp[DS.cut];omega
    grind
   refine⟨d4,f3D,zj,jbD,zh,jKB,VZ,El,both.1,aFu,both.2,?_⟩;cases jump<;>grind
  rintro e a3 W3 hq
  cases e with
  |normal=>obtain⟨s3,Yk,h3⟩:=hq;exact fin none s3 a3 W3 _ Yk (.inl rfl) h3
  |ret=>obtain⟨s3,Yk,h3⟩:=hq;exact fin (some .ret) s3 a3 W3 _ Yk (.inr rfl) (by rw[hX];exact .inl ⟨rfl,h3⟩)
  |exit id=>obtain⟨s3,Yk,h3⟩:=hq;exact fin (some (.exit id)) s3 a3 W3 _ Yk (.inr rfl) (by rw[hX];exact .inr ⟨id,rfl,h3⟩)
  |goto l=>exact hq.elim
  |panic c=>exact hq.elim
  |outgrown=>exact hq.elim
theorem cx [Inhabited Env](hC:C.ok P):∀(dc:aq) (c:Code) (ro:BI) (n:Nat) (K F0:Nat->Prop) (Bc:Nat->BI) (BW:List ae) (w0:World) (Q:cA->DS->Prop) (s:DS) (a:Act) (w:World),(ro=none\/mq c=true)->fw P N c dc=true->gP C BW.length dc Q s->wE K N F0 Bc BW w0 s a w->Code.wpIn (Fw ro) n P c (QQ K N F0 Bc BW w0 Q) a w
 | .ops yw dl,cc,ro,n,K,F0,Bc,BW,w0,Q,s,a,w,B,hm,h,hc=>by
   cases cc with
   |region qH ops draw=>
    simp only[fw,ab]at hm;obtain⟨_,hm⟩:=hm;simp only[mq]at B;cases draw with
    |false=>exact wpIn_region_list (arE hC (λs' a' w' kX h'=>⟨s',kX,h'⟩) (B.imp id λh=>by simp_all) (by simp_all) hc h)
    |true=>
     refine oS hC B (hZ:=[]) (by simpa using hm) (λs' a' w' kX h'=>⟨s',kX,h'⟩) hc (λp B=>by simp at B) ?_;rw[CQ];exact h
   |_=>exact(Cb hm).elim
 | .Km l,cc,ro,n,K,F0,Bc,BW,w0,Q,s,a,w,B,hm,h,hc=>by
   cases cc with
   |region qH ops draw=>
    simp only[fw,ab]at hm;obtain⟨rfl,hm⟩:=hm;exact oS hC B hm (λs' a' w' kX h'=>⟨s',kX,h'⟩) hc (λp B=>by simp at B) h
   |_=>exact(Cb hm).elim
 | .Pu hZ l,cc,ro,n,K,F0,Bc,BW,w0,Q,s,a,w,B,hm,h,hc=>by
   cases cc with
   |region qH ops draw=>
    simp only[fw,ab]at hm;obtain⟨rfl,hm⟩:=hm;exact oS hC B hm (λs' a' w' kX h'=>⟨s',kX,h'⟩) hc (aiG h.1) h.2
   |_=>exact(Cb hm).elim
 | .seq x' y',cc,ro,n,K,F0,Bc,BW,w0,Q,s,a,w,B,hm,h,hc=>by
   cases cc with
   |seq x y=>
    simp only[fw,ab]at hm;simp only[mq,ab]at B;refine wpIn_seq (wpIn_mono (cx hC x' x ro n K F0 Bc BW w0 _ s a w (B.imp id (·.1)) hm.1 h hc) λe a' w' hq=>?_);cases e with
    |normal=>obtain⟨s',kX,h'⟩:=hq;exact cx hC y' y ro n K F0 Bc BW w0 Q s' a' w' (B.imp id (·.2)) hm.2 h' kX
    |exit id=>obtain⟨s',kX,h'⟩:=hq;exact⟨s',kX,h'⟩
    |ret=>obtain⟨s',kX,h'⟩:=hq;exact⟨s',kX,h'⟩
    |goto l=>exact hq.elim
    |panic c=>exact hq.elim
    |outgrown=>exact hq.elim
   |_=>exact(Cb hm).elim
 | .cond c' x' y',cc,ro,n,K,F0,Bc,BW,w0,Q,s,a,w,B,hm,h,hc=>by
   cases cc with
   |cond c x y=>
    simp only[fw,ab]at hm;simp only[mq,ab]at B;have rl:=hc;obtain⟨K',F,σ,EP,I,hf,hN,mQ,AD,Bl⟩:=hc;have hv:=aD hf hm.1.1;simp only[gP]at h;cases he:c'.ev s.R with
    |bool t=>
     rw[he]at hv;simp only[he]at h;refine wpIn_cond_split hv.jF (λht=>cx hC x' x ro n K F0 Bc BW w0 Q s a w (B.imp id (·.1)) hm.1.2 (h.1 ht) rl) (λht=>cx hC y' y ro n K F0 Bc BW w0 Q s a w (B.imp id (·.2)) hm.2 (h.2 ht) rl)
    |Hy=>
     rw[he]at hv;simp only[he]at h;obtain⟨b,hb⟩:=hv.acM;exact wpIn_cond_split hb (λ_=>cx hC x' x ro n K F0 Bc BW w0 Q s a w (B.imp id (·.1)) hm.1.2 h.1 rl) (λ_=>cx hC y' y ro n K F0 Bc BW w0 Q s a w (B.imp id (·.2)) hm.2 h.2 rl)
    |_=>simp only[he]at h
   |_=>exact(Cb hm).elim
 | .block GP c',cc,ro,n,K,F0,Bc,BW,w0,Q,s,a,w,B,hm,h,hc=>by
   cases cc with
   |block id c=>
    simp only[fw,ab,GO]at hm;simp only[mq]at B;obtain⟨rfl,hm⟩:=hm;refine wpIn_block (wpIn_mono (cx hC c' c ro n K F0 Bc BW w0 _ s a w B hm h hc) λe a' w' hq=>?_);cases e with
    |normal=>obtain⟨s',kX,h'⟩:=hq;exact⟨s',kX,h'⟩
    |exit k=>
     obtain⟨s',kX,h'⟩:=hq;simp only[cA.inBlock]at h';simp only[Exit.inBlock];split at h'
     next e=>rw[gr e];exact⟨s',kX,h'⟩
     next e=>rw[ba e];exact⟨s',kX,h'⟩
    |ret=>obtain⟨s',kX,h'⟩:=hq;exact⟨s',kX,h'⟩
    |goto l=>exact hq.elim
    |panic c=>exact hq.elim
    |outgrown=>exact hq.elim
   |_=>exact(Cb hm).elim
 | .loop live m c',cc,ro,n,K,F0,Bc,BW,w0,Q,s,a,w,B,hm,h,hc=>by
   cases cc with
   |loop c=>
    simp only[fw]at hm;simp only[mq]at B;simp only[gP]at h;obtain⟨Mq,Bo,μ,h0,E⟩:=h;refine wpIn_loop_ghost (λi a w=>∃s',wE K N F0 Bc BW w0 s' a w/\Bo s'/\μ s'=i) (μ (s.cut live m)) ⟨_,hc.cut live m Mq,h0,rfl⟩ λi a w hI=>?_;obtain⟨s',kX,zl,rfl⟩:=hI;refine wpIn_mono (cx hC c' c ro n K F0 Bc BW w0 _ s' a w B hm (E s' zl) kX) λe a' w' hq=>?_;cases e with
    |normal=>
     obtain⟨WB,zm,N4⟩:=hq;exact⟨_,N4.2,WB.cut live m,zm.cut live m Mq,N4.1,rfl⟩
    |exit id=>obtain⟨s',kX,h'⟩:=hq;exact⟨s',kX,h'⟩
    |ret=>obtain⟨s',kX,h'⟩:=hq;exact⟨s',kX,h'⟩
    |goto l=>exact hq.elim
    |panic c=>exact hq.elim
    |outgrown=>exact hq.elim
   |_=>exact(Cb hm).elim
 | .scope c',cc,ro,n,K,F0,Bc,BW,w0,Q,s,a,w,B,hm,h,hc=>by
   cases cc with
   |scope c=>
    refine aDA (wpIn_mono (cx hC c' c ro n K F0 Bc BW w0 Q s a w B hm h hc) λe a' w' hq=>?_);cases e with
    |normal=>exact hq
    |exit id=>exact hq
    |ret=>exact hq
    |goto l=>exact hq.elim
    |panic c=>exact hq.elim
    |outgrown=>exact hq.elim
   |_=>exact(Cb hm).elim
 | .exit GP,cc,ro,n,K,F0,Bc,BW,w0,Q,s,a,w,B,hm,h,hc=>by
   cases cc with
   |exit id=>
    simp only[fw,GO]at hm;subst hm;exact wpIn_exit ⟨s,hc,h⟩
   |_=>exact(Cb hm).elim
 | .ret,cc,ro,n,K,F0,Bc,BW,w0,Q,s,a,w,B,hm,h,hc=>by
   cases cc with
   |ret=>
    exact wpIn_ret ⟨s,hc,h⟩
   |_=>exact(Cb hm).elim
 | .skip,cc,ro,n,K,F0,Bc,BW,w0,Q,s,a,w,B,hm,h,hc=>by
   cases cc with
   |skip=>exact wpIn_skip ⟨s,hc,h⟩
   |label l=>exact wpIn_label ⟨s,hc,h⟩
   |_=>exact(Cb hm).elim
 | .CK t off z c',c,ro,n,K,F0,Bc,BW,w0,Q,s,a,w,B,hm,h,hc=>by
   have wO:fw P N c c'=true:=by cases c<;>simpa only[fw]using hm
   simp only[gP]at h;split at h
   .rename_i hh L i j Y;split at h
    .rename_i o e2;rcases h with⟨⟨h1,h2,h3,h4⟩,h5⟩|h
     .exact cx hC c' c ro n K F0 Bc BW w0 Q _ a w B wO h5 (hc.CK z e2 h1 (by omega) h4)
     .exact cx hC c' c ro n K F0 Bc BW w0 Q _ a w B wO h hc
    simp_all
   simp_all
 | .cut live m c',c,ro,n,K,F0,Bc,BW,w0,Q,s,a,w,B,hm,h,hc=>by
   have wO:fw P N c c'=true:=by cases c<;>simpa only[fw]using hm
   exact cx hC c' c ro n K F0 Bc BW w0 Q (s.cut live m) a w B wO h.2 (hc.cut live m h.1)
 | .JC c',c,ro,n,K,F0,Bc,BW,w0,Q,s,a,w,B,hm,h,hc=>by
   have wO:fw P N c c'=true:=by cases c<;>simpa only[fw]using hm
   exact cx hC c' c ro n K F0 Bc BW w0 Q _ a w B wO h hc.JC
 | .bad,_,ro,n,K,F0,Bc,BW,w0,Q,s,a,w,_,_,h,hc=>h.elim
 | .sH live m g ps Q5 c',cc,ro,n,K,F0,Bc,BW,w0,Q,s,a,w,B,hm,h,hc=>by
   cases cc with
   |rangeFunc f qs K7 c=>
    obtain rfl:ro=none:=B.elim id λh=>by simp[mq]at h
    have PJ:mq K7=true/\mq c=true:=by simp_all[fw,ab]
    exact ac8 hC (λL K F0 Bc BW w0 Q s a w h1 h2 h3=>cx hC Q5 K7 (some L) 0 K F0 Bc BW w0 Q s a w (.inr PJ.1) h1 h2 h3) (λL K F0 Bc BW w0 Q s a w h1 h2 h3=>cx hC c' c (some L) 0 K F0 Bc BW w0 Q s a w (.inr PJ.2) h1 h2 h3) hm h hc
   |_=>exact(Cb hm).elim
end
end Go.Nk
set_option linter.all false
namespace Go.Nk
noncomputable section
open Go.RowKit
inductive DR where
 |t (n:Nat)
 |cell (n:Nat) (sz:BI)
def DR.val(s:DS):DR->Prop×J
 | .t n=>(True,get n s.R)
 | .cell n sz=>bw sz (aH s.B (get n s.R))
def iN(s:DS):List DR->Prop×Ab
 |[]=>(True,[])
 |r::rs=>((r.val s).1/\(iN s rs).1,(r.val s).2::(iN s rs).2)
def aS(s:DS):List DR->Prop×J
 |[r]=>r.val s
 |rs=>((iN s rs).1,.b9 (iN s rs).2)
def zn(P:Program):ResultVar->DR->Bool
 | .tmp t,.t n=>t==n
 | .cell a t,.cell n sz=>a==n&&decide (Tg P t=some sz)
 |_,_=>false
def Q6(P:Program):List ResultVar->List DR->Bool
 |[],[]=>true
 |x::xs,y::ys=>zn P x y&&Q6 P xs ys
 |_,_=>false
def aO:Nat->Ab->List (Nat×J)
 |_,[]=>[]
 |n,d::r=>(n,d)::aO (n+1) r
def j0(B:List ae):J->o9
 | .b9 vs=>let x:=fH B vs;⟨x.pre,.b9 x.dK,x.B⟩
 |d=>iD B d
structure ay where
 code:aq
 res:List DR
def mT(P:Program)(f:FuncId)(n:Nat)(d:ay):Bool:=
 match P.funcs[f]? with
 |some fn=>match fn.body with
  | some c => !(fn.name == "runtime.NumGoroutine") && decide (n <= fn.ntmps) && fw P fn.ntmps c d.code && Q6 P fn.results.toList d.res
  |none=>false
 |none=>false
section
variable {P:Program} {K F0:Nat->Prop} {Bc:Nat->BI} {BW:List ae} {N:Nat} {w0:World} {C:dJ}
def Zk(tmps:Array Value):ResultVar->Sem Value
 | .tmp t=>pure (tmps.getD t undef)
 | .cell a t=>do loadVar t (<-asAddr (tmps.getD a undef))
theorem aqs [Inhabited Env]{F:Nat->Prop}{σ:Nat->BI}{s:DS}{w:World}{tmps:Array Value}(I:bH K F σ s.B w)(hf:jZ F σ s.B w s.R tmps){x:ResultVar}{y:DR}(hm:zn P x y=true)(h:(y.val s).1):
 ∃v,(Zk tmps x).run P w= .ok v w/\aC F σ s.B w (y.val s).2 v:=by
 unfold zn at hm;split at hm
 next t n=>simp at hm;subst hm;exact⟨_,rfl,hf t⟩
 next a t n sz=>simp only[ab,GO,ir]at hm;obtain⟨rfl,lP⟩:=hm;obtain⟨u,hu,E⟩:=aiK (P:=P) I lP (hf a) h;obtain⟨b,hb,_⟩:=CU I (hf a) (by simp only[DR.val]at h;cases sz<;>exact h.1);refine⟨u,?_,E⟩;simp_all[undef,Zk,asAddr,Sem.run_bind,Sem.run_pure,Result.andThen_ok,Instr.loadAt,Instr.sureAddr]
 .cases hm
theorem ada [Inhabited Env]{F:Nat->Prop}{σ:Nat->BI}{s:DS}{w:World}{tmps:Array Value}(I:bH K F σ s.B w)(hf:jZ F σ s.B w s.R tmps):∀{xs:List ResultVar} {ys:List DR},Q6 P xs ys=true->(iN s ys).1->
 ∃vs,(xs.mapM (Zk tmps)).run P w= .ok vs w/\dX (aC F σ s.B w) (iN s ys).2 vs
 |[],[],_,_=>⟨[],by simp,.lL⟩
 |x::xs,y::ys,hm,h=>by simp only[Q6,ab]at hm;obtain⟨v,h1,h2⟩:=aqs I hf hm.1 h.1;obtain⟨vs,h3,h4⟩:=ada I hf hm.2 h.2;exact⟨v::vs,by simp_all,.iC h2 h4⟩
 |[],_::_,hm,_=>by simp[Q6]at hm
 |_::_,[],hm,_=>by simp[Q6]at hm
theorem arN(s:DS):∀ys:List DR,(iN s ys).2.length=ys.length
 |[]=>rfl
 |y::ys=>by simp[iN,arN s ys]
theorem Kr [Inhabited Env]{F:Nat->Prop}{σ:Nat->BI}{s:DS}{w:World}{tmps:Array Value}(I:bH K F σ s.B w)(hf:jZ F σ s.B w s.R tmps){fn:Func}{ys:List DR}(hm:Q6 P fn.results.toList ys=true)(h:(aS s ys).1):
 ∃v,(results fn tmps).run P w= .ok v w/\aC F σ s.B w (aS s ys).2 v:=by
 have hL:(iN s ys).1:=by
  unfold aS at h;split at h
  .exact⟨h,BB⟩
  .exact h
 obtain⟨vs,h1,h2⟩:=ada I hf hm hL;have z3:(results fn tmps).run P w= .ok (if h:vs.toArray.size=1 then vs.toArray[0]else .tuple vs.toArray) w:=by
  have e:results fn tmps=(do let vs<-fn.results.mapM (Zk tmps);pure (if h:vs.size=1 then vs[0]else .tuple vs)):=by unfold results;congr 1
  rw[e,Array.mapM_eq_mapM_toList,Sem.run_bind,Sem.run_map,h1];rfl
 refine⟨_,z3,?_⟩;have hlen:=h2.1;rw[arN]at hlen;unfold aS;split
 next r=>obtain⟨v,us,rfl,h0,E⟩:=h2.cons;simp_all
 .rename_i bP;rw[dif_neg]
  .exact aC.Zl (by simpa using h2.1) λj d Z=>let⟨u,hu,E⟩:=h2.2 j d Z;⟨u,by simp_all,E⟩
  .intro Pa;have:ys.length=1:=by simp_all
   match ys,this with
   |[r],_=>simp_all
theorem arO:∀(ds:Ab) (k n:Nat),get n (aO k ds)=if k<=n then(ds[n-k]?).getD .undef else .undef
 |[],k,n=>by simp[aO]
 |d::ds,k,n=>by simp only[aO,cS,arO ds (k+1) n];grind
theorem CR{F:Nat->Prop}{σ:Nat->BI}{B:List ae}{w:World}{je:Ab}{args:Array Value}{nt:Nat}(ha:dX (aC F σ B w) je args.toList)(hn:je.length<=nt):
 jZ F σ B w (aO 0 je) (args++Array.replicate (nt-args.size) undef):=by
 have hl:je.length=args.size:=by simpa using ha.1
 intro n;rw[arO,gr (AI _),Nat.sub_zero];rcases GK n je.length with h|h
 .obtain⟨u,hu,E⟩:=ha.2 n je[n] (by simp[h]);have h':n<args.size:=by omega
  simp_all[Array.getElem?_append_left]
 .simp[XO h];exact .undef _
theorem zD [Inhabited Env]{F:Nat->Prop}{σ:Nat->BI}{B:List ae}{w:World}{je:Ab}{args:Array Value}{nt:Nat}(I:bH K F σ B w)(ha:dX (aC F σ B w) je args.toList)(hn:je.length<=nt):
 wE K nt F σ B w ⟨aO 0 je,B⟩ {tmps:=args++Array.replicate (nt-args.size) undef,defers:=[]} w:=by
 have hl:je.length=args.size:=by simpa using ha.1
 exact⟨K,F,σ,λ_ h=>h,I,CR ha hn,by simp;omega,trivial,.refl _ _ _,.refl _ _ _ _⟩
theorem wg{f:FuncId}{n:Nat}{d:ay}(h:mT P f n d=true):iX P f=true/\∃fn c,P.funcs[f]? =some fn/\fn.body=some c/\n<=fn.ntmps/\fw P fn.ntmps c d.code=true/\Q6 P fn.results.toList d.res=true:=by
 unfold mT at h;cases hf:P.funcs[f]? with
 |none=>simp_all
 |some fn=>
  simp only[hf]at h;cases hb:fn.body with
  |none=>simp_all
  |some c=>
   simp only[hb,ab,ir]at h;obtain⟨⟨⟨h1,h2⟩,h3⟩,h4⟩:=h;exact⟨by simp_all[iX,OV,GJ],fn,c,rfl,hb,h2,h3,h4⟩
theorem arP [Inhabited Env]{fn:Func}{F:Nat->Prop}{σ:Nat->BI}{B:List ae}{w:World}{An:Ending->World->Prop}{s:DS}{tm:Array Value}{K' F':Nat->Prop}{Be:Nat->BI}
 (h:∀w',Sr K fn.ntmps F σ B w K' F' Be s {tmps:=tm,defers:=[]} w'->∃v,(results fn tm).run P w'= .ok v w'/\An (.returned v) w'):
 ∀(ds:List Deferred) (w':World),Sr K fn.ntmps F σ B w K' F' Be s {tmps:=tm,defers:=ds} w'->LeavesInM Fence.wide 0 P fn tm An ds .returning w'
 |[],w',hc=>h w' hc
 |d::ds,w',hc=>by
  obtain⟨EP,I,hf,hN,mQ,AD,Bl⟩:=hc;obtain⟨⟨D,rfl,kD,fD,hD,k0,zp⟩,Yl⟩:=mQ;refine⟨by simp,.inl ⟨D,_,rfl,run_takeDeferred hD,arP h ds _ ?_⟩⟩;have nX:∀b,b≠D->(w'.putObj D (.deferred none)).heap[b]? =w'.heap[b]? :=λb hb=>World.putObj_heap_other hb;obtain⟨s1,m1⟩:=I.turn (K':=K') (F':=F') (w':=w'.putObj D (.deferred none)) (by simp) (λb hb=>nX b λe=>fD (e▸hb)) (λb _ hb=>nX b λe=>hb (e▸kD)) (λ_ h=>h) (λ_ h=> .inl h) (λ_ h=> .inl h)
   (λb hb=>by simpa using I.fb b hb) (λb hb=>by simpa using I.kb b hb)
  exact⟨EP,s1,λn=>(hf n).mono m1,hN,Yl.put zp,AD.trans (jd.put k0 fD),Bl.trans m1⟩
theorem AB [Inhabited Env]{f:FuncId}{fn:Func}{c:Code}{args:Array Value}{w:World}{An:Ending->World->Prop}{F:Nat->Prop}{σ:Nat->BI}{B:List ae}{Q:cA->DS->Prop}
 (hf:P.funcs[f]? =some fn) (hb:fn.body=some c) (hw:c.wpIn (Fw none) 0 P (QQ K fn.ntmps F σ B w Q) {tmps:=args++Array.replicate (fn.ntmps-args.size) undef,defers:=[]} w)
 (h:∀s a w',wE K fn.ntmps F σ B w s a w'->(Q .normal s\/Q .ret s)->∃v,(results fn a.tmps).run P w'= .ok v w'/\An (.returned v) w')
 (U:∀id s,¬Q (.exit id) s):Calls P f args w An:=by
 refine callsIn_wide.1 (callsIn_of_wp_marks (F:=Fence.wide) (n:=0) hf hb trivial (wpIn_mono (show c.wpIn Fence.wide 0 P _ _ w from hw) ?_));have key:∀(e:Bool) s a w',wE K fn.ntmps F σ B w s a w'->(Q .normal s\/Q .ret s)->LeavesInM Fence.wide 0 P fn a.tmps An a.defers .returning w':=by
  rintro _ s ⟨tm,ds⟩ w' ⟨K',F',Be,U⟩ hq
  exact arP (λKh hc=>h s {tmps:=tm,defers:=[]} Kh ⟨K',F',Be,hc⟩ hq) ds w' U
 intro e a w' hq;cases e with
 |normal=>obtain⟨s,hc,h1⟩:=hq;exact key true s a w' hc (.inl h1)
 |ret=>obtain⟨s,hc,h1⟩:=hq;exact key true s a w' hc (.inr h1)
 |exit id=>obtain⟨s,hc,h0⟩:=hq;simp_all
 |goto l=>exact hq.elim
 |panic c=>exact hq.elim
 |outgrown=>exact hq.elim
def Yw(res:List DR)(r:J)(cU:List ae):cA->DS->Prop
 | .exit _,_=>False
 |_,s=>(aS s res).1/\(aS s res).2=r/\s.B=cU
def Ap(res:List DR)(r:J):cA->DS->Prop
 | .exit _,_=>False
 |_,s=>(aS s res).1/\(j0 s.B (aS s res).2).pre/\(j0 s.B (aS s res).2).val=r
theorem arQ [Inhabited Env](hC:C.ok P){f:FuncId}{d:ay}{je:Ab}{B cU:List ae}{r:J}(hm:mT P f je.length d=true)
 (h:gP C B.length d.code (Yw d.res r cU) ⟨aO 0 je,B⟩):iX P f=true/\SU P f je B r cU:=by
 obtain⟨nT,fn,c,hf,hb,hn,hc,E⟩:=wg hm;refine⟨nT,λK F σ w args I ha=>?_⟩;refine AB hf hb (cx hC d.code c none 0 K F σ B w _ _ _ w (.inl rfl) hc h (zD I ha hn)) (λs a w' rl hq=>?_) (λid s h=>h);obtain⟨K',F',Be,EP,yr,Eo,hN,mQ,AD,Bl⟩:=rl;have Fi:(aS s d.res).1/\(aS s d.res).2=r/\s.B=cU:=hq.elim id id;obtain⟨h1,rfl,rfl⟩:=Fi;obtain⟨v,hv,Ja⟩:=Kr yr Eo E h1;exact⟨v,hv,v,rfl,F',Be,yr.weak EP,AD,Bl,Ja⟩
theorem at3 [Inhabited Env]{F:Nat->Prop}{σ:Nat->BI}{B:List ae}{w:World}(I:bH K F σ B w){d:J}{v:Value}(hv:aC F σ B w d v)(h:(j0 B d).pre):
 ∃F',Kw K F σ B w F' (j0 B d).B/\aC F' none_ [] w (j0 B d).val v:=by
 unfold j0 at h|-;split at h
 .obtain⟨vs,rfl,hl,E⟩:=hv.Kx;obtain⟨F',f,r⟩:=Th I (vs:=vs.toList) ⟨by omega,λj d Z=>let⟨u,hu,E⟩:=E j d Z;⟨u,by simp_all,E⟩⟩ h;exact⟨F',f,aC.Zl (by simpa using r.1) λj d Z=>let⟨u,hu,E⟩:=r.2 j d Z;⟨u,by simp_all,E⟩⟩
 .exact Ky I hv h
theorem MV [Inhabited Env](hC:C.ok P){f:FuncId}{d:ay}{je:Ab}{r:J}(hm:mT P f je.length d=true)
 (h:gP C 0 d.code (Ap d.res r) ⟨aO 0 je,[]⟩):iX P f=true/\FD P f je r:=by
 obtain⟨nT,fn,c,hf,hb,hn,hc,E⟩:=wg hm;refine⟨nT,λK F w args hF hK hX ha=>?_⟩;have I:bH K F none_ [] w:=⟨λh o ho=>by simp at ho,λh h' o o' g Y=>by simp at Y,hF,hK,hX⟩;refine AB hf hb (cx hC d.code c none 0 K F none_ [] w _ _ _ w (.inl rfl) hc h (zD I ha hn)) (λs a w' rl hq=>?_) (λid s h=>h);obtain⟨K',F',Be,EP,yr,Eo,hN,mQ,AD,Bl⟩:=rl;have Fi:(aS s d.res).1/\(j0 s.B (aS s d.res).2).pre/\(j0 s.B (aS s d.res).2).val=r:=hq.elim id id;obtain⟨h1,h2,rfl⟩:=Fi;obtain⟨v,hv,Ja⟩:=Kr yr Eo E h1;obtain⟨F1,f1,r1⟩:=at3 (yr.weak EP) Ja h2;exact⟨v,hv,v,F1,rfl,AD.trans f1.2.1,f1.1.fb,r1⟩
end
end
end Go.Nk
set_option linter.all false
namespace Go.Nk
open Go.RowKit Go.WideShapes Go.ChangeShapes Go.Deep
mutual
def J.sz:J->Nat
 | .str s=>s.length+1
 | .sl es=>Q7 es+1
 | .ref cs=>uV cs+1
 | .agg cs=>uV cs+1
 |_=>1
def uV:Ab->Nat
 |[]=>0
 |d::r=>d.sz+uV r
def Q7:List Ab->Nat
 |[]=>0
 |d::r=>uV d+Q7 r
end
theorem HD:∀(a b:Ab),uV (a++b)=uV a+uV b
 |[],b=>by simp[uV]
 |x::a,b=>by simp[uV,HD a b];omega
def Vc:List Ab->Nat
 |[.int .i64 n]::es=>8*(es.length+1)
 |es=>es.length
theorem Zf(es:List Ab):es.length<=Vc es:=by unfold Vc;grind
theorem agR:∀{es:List Ab},(∀r∈es,∀n,r≠[.int .i64 n])->Vc es=es.length
 |[],_=>rfl
 |r::es,h=>by unfold Vc;simp_all
theorem at4(es:List Ab):Vc es<=8*es.length:=by unfold Vc;grind
mutual
def J.lens:J->List Nat
 | .str s=>[s.length]
 | .sl es=>Vc es::CP es
 | .ref cs=>gR cs
 | .agg cs=>gR cs
 |_=>[]
def gR:Ab->List Nat
 |[]=>[]
 |d::r=>d.lens++gR r
def CP:List Ab->List Nat
 |[]=>[]
 |d::r=>gR d++CP r
end
theorem rj:∀(a b:Ab),gR (a++b)=gR a++gR b
 |[],b=>by simp[gR]
 |x::a,b=>by simp[gR,rj a b]
theorem arR:∀{es:List Ab} {L:Nat},L∈CP es->∃e∈es,L∈gR e
 |[],L,h=>by simp[CP]at h
 |e::es,L,h=>by
  simp only[CP,pt]at h;rcases h with h|h
  .simp_all
  .obtain⟨e',h1,h2⟩:=arR h;grind
def Fits(aDE ws:List Nat):Prop:=∀L∈aDE,L=0\/∃w∈ws,L<=w
theorem Fits.nil{ws:List Nat}:Fits [] ws:=λ_ h=>by simp at h
theorem Fits.append{a b ws:List Nat}(h1:Fits a ws)(h2:Fits b ws):Fits (a++b) ws:=λL h=>(pt.1 h).elim (h1 L) (h2 L)
theorem Fits.sub{a ws ws':List Nat}(h1:Fits a ws)(h:∀w∈ws,w∈ws'):Fits a ws':=λL hl=>(h1 L hl).imp id λ⟨w,a,b⟩=>⟨w,h w a,b⟩
def KB(P:Program):Nat->List Field->Bool
 |_,[]=>true
 |k,f::r=>f.offset==k&&KB P (k+P.cellsOf f.type) r
def rq(P:Program):List Field->Nat
 |[]=>0
 |f::r=>P.cellsOf f.type+rq P r
def Z9(P:Program)(Ls:List TypeId)(t:TypeId):Bool:=
 match P.underlying t with
 |some (.int _)|some .bool|some .string=>true
 |some (.slice e)=>decide (0<P.cellsOf e)&&Ls.contains e&&decide (0<P.bytesOf e)&&(decide (8<=P.bytesOf e)||(match P.underlying e with|some (.int k)=>k != .i64|some .bool=>true|_=>false))
 |some (.pointer e)=>decide (0<P.cellsOf e)&&Ls.contains e
 |some (.array k e)=>decide (P.cellsOf t=k*P.cellsOf e)&&Ls.contains e
 |some (.struct fs)=>fs.toList.all (λf=>Ls.contains f.type)&&KB P 0 fs.toList&&P.cellsOf t==rq P fs.toList
 |_=>false
def Hx(P:Program)(Ls:List TypeId):Prop:=∀t∈Ls,Z9 P Ls t=true
def aBq(P:Program)(t:TypeId):List TypeId:=
 match P.underlying t with
 |some (.slice e)|some (.pointer e)|some (.array _ e)=>[e]
 |some (.struct fs)=>fs.toList.map (·.type)
 |_=>[]
def zq(P:Program):Nat->List TypeId->List TypeId->List TypeId
 |0,_,l=>l
 |_+1,[],l=>l
 |n+1,t::r,l=>if l.contains t then zq P n r l else zq P n (aBq P t++r) (t::l)
def Vh(An:TypeId->Ab->Prop):List Field->Ab->Prop
 |[],ds=>ds=[]
 |f::fs,ds=>∃a b,ds=a++b/\An f.type a/\Vh An fs b
def Vk(An:Ab->Prop):Nat->Ab->Prop
 |0,ds=>ds=[]
 |k+1,ds=>∃a b,ds=a++b/\An a/\Vk An k b
def Has(P:Program):Nat->TypeId->Ab->Prop
 |0,_,_=>False
 |n+1,t,ds=>
  match P.underlying t with
  |some (.int k)=>∃i,ds=[.int k i]/\(Lit.int k i).wf=true
  |some .bool=>∃b,ds=[.bool b]
  |some .string=>∃s,ds=[.str s]/\s.length<=maxLen
  |some (.slice e)=>∃es,ds=[.sl es]/\es.length<=maxLen/\∀x∈es,Has P n e x
  |some (.pointer e)=>ds=[.rf]\/∃r,ds=[.ref r]/\Has P n e r
  |some (.struct fs)=>Vh (Has P n) fs.toList ds
  |some (.array k e)=>Vk (Has P n e) k ds
  |_=>False
structure Vm{H:Type}(BQ:DataW H->Nat)(BA:List (DataW H)->Nat):Prop where
 lit:∀l,1<=BQ (.lit l)
 str:∀s,s.length+1<=BQ (.lit (.string s))
 nil:1<=BQ .nil
 ptr:∀d,BQ d+1<=BQ (.ptr d)
 slice:∀a b,BA a+1<=BQ (.slice a b)
 agg:∀a,BA a<=BQ (.agg a)
 cons:∀d r,BQ d+BA r=BA (d::r)
section
variable {H:Type} {enc:TypeId×Value->H} {P:Program} {w:World} {BQ:DataW H->Nat} {BA:List (DataW H)->Nat}
abbrev Pv(w:World):Nat->Prop:=λb=>b<w.heap.size
abbrev Bk:Nat->Bool:=λ_=>true
theorem agS{es:List Ab}{i j:Nat}{d:J}(h:cellAt es i j=some d):∃e,es[i]? =some e/\e[j]? =some d:=by unfold cellAt at h;grind
theorem AL:∀(n:Nat) (t:TypeId) (ds:Ab),Has P n t ds->∀d∈ds,d.one=true
 |0,_,_,h=>h.elim
 |n+1,t,ds,h=>by
  unfold Has at h;split at h
  .obtain⟨i,rfl,_⟩:=h;intro d Z;simp at Z;subst Z;rfl
  .obtain⟨i,rfl⟩:=h;intro d Z;simp at Z;subst Z;rfl
  .obtain⟨i,rfl,_⟩:=h;intro d Z;simp at Z;subst Z;rfl
  .obtain⟨i,rfl,_⟩:=h;intro d Z;simp at Z;subst Z;rfl
  .rcases h with rfl|⟨i,rfl,_⟩<;>intro d Z<;>simp at Z<;>subst Z<;>rfl
  .rename_i fs _;have key:∀(fs:List Field) (ds:Ab),Vh (Has P n) fs ds->∀d∈ds,d.one=true:=by
    intro fs;induction fs with
    |nil=>simp_all[Vh]
    |cons f fs ih=>
     rintro ds ⟨a,b,rfl,ha,hb⟩ d Z
     rcases pt.1 Z with Z|Z
     .exact AL n _ a ha d Z
     grind
   grind
  .rename_i k e _;have key:∀(k:Nat) (ds:Ab),Vk (Has P n e) k ds->∀d∈ds,d.one=true:=by
    intro k;induction k with
    |zero=>simp_all[Vk]
    |succ k ih=>
     rintro ds ⟨a,b,rfl,ha,hb⟩ d Z
     rcases pt.1 Z with Z|Z
     .exact AL n _ a ha d Z
     grind
   grind
  simp_all
def arS(P:Program)(w:World)(n:Nat)(t:TypeId)(cs:List Value)(ds:Ab):Prop:=Has P n t ds/\dX (cB (Pv w) w) ds cs
theorem zE{a:Addr}{n:Nat}{cs:List Value}(h:w.cells? 0 a n=some cs)(hn:0<n):a.spot=none/\a.block<w.heap.size/\cs.length=n/\∀i v,cs[i]? =some v->w.cell? ⟨a.block,a.off+i,none⟩=some v:=by
 obtain⟨_,hl,hc⟩:=World.cells?_some h;have h0:=hc 0 hn;rw[tx (by omega)]at h0;have I:a.spot=none:=by simpa[Addr.add]using World.cell?_spot h0
 refine⟨I,World.cells?_block h hn,hl,λi v hv=>?_⟩;have hi:i<cs.length:=(pc.1 hv).1;have:=hc i (by omega);rw[hv]at this;rw[<-this];congr 1;obtain⟨b,o,sp⟩:=a;simp_all[Addr.add]
theorem arT{e:TypeId}{x:Nat}:∀{l:List (DataW H)} {d:DataW H},d∈l->x∈DataW.weights P e d->x∈DataW.weightsAll P e l
 |[],d,h,_=>by simp at h
 |a::l,d,h,U=>by
  unfold DataW.weightsAll;rcases NO.1 h with rfl|h
  .simp_all
  .exact pt.2 (.inr (arT h U))
theorem adb{t e:TypeId}{n:Nat}{cs:List Value}{x:DataW H×List MemPlace}(ht:P.underlying t=some (.slice e))(h:DataW.trod enc P w 0 Bk true (n+1) t cs=some x):
 (cs=[.slice none 0 0]/\x=(.nil,[]))\/
 ∃(a:Addr) (len cap:Nat) (D:Nat->DataW H) (Pl:Nat->List MemPlace) (rest:List (DataW H×List MemPlace)) (ps:List MemPlace),cs=[.slice (some a) len cap]/\len<=cap/\cap<=maxLen/\rest.length=cap-len/\
  x=(.slice ((List.range len).map D) (rest.map (·.1)),ps)/\
  ∀i,i<len->∃Wy,w.cells? 0 (a.add (i*P.cellsOf e)) (P.cellsOf e)=some Wy/\DataW.trod enc P w 0 Bk true n e Wy=some (D i,Pl i):=by
 rcases DataW.trod_slice ht h with h0|⟨a,len,cap,elems,rest,m,hm,rfl,rfl,_,hl,hc,hlen,hel,Z3,_⟩
 .exact .inl h0
 have wO:n=m:=by omega
 subst wO;refine .inr ⟨a,len,cap,λi=>((elems[i]?).getD (.nil,[])).1,λi=>((elems[i]?).getD (.nil,[])).2,rest,_,rfl,hl,hc,(Z3 rfl).1,Prod.ext ?_ rfl,λi hi=>?_⟩
 .show DataW.slice (elems.map (·.1)) _=_;congr 1;refine List.ext_getElem (by simp[hlen]) λi h1 h2=>?_;grind
 simp_all[tx,Option.bind_eq_some_iff]
theorem CN(hB:Vm BQ BA){Ls:List TypeId}(hL:Hx P Ls):∀(n:Nat) (t:TypeId) (cs:List Value) (x:DataW H×List MemPlace),t∈Ls->DataW.trod enc P w 0 Bk true n t cs=some x->
 ∃ds,arS P w n t cs ds/\uV ds<=BQ x.1/\Fits (gR ds) (DataW.weights P t x.1)
 |0,_,_,_,_,U=>by simp[DataW.trod]at U
 |n+1,t,cs,x,NG,U=>by
  have h:=hL t NG;unfold Z9 at h;split at h
  .rename_i k hk
   .unfold DataW.trod at U;rw[hk]at U;split at U<;>simp_all;rename_i i _;obtain⟨⟨Y,e2⟩,e3⟩:=U;subst Y;subst e3;refine⟨[.int _ i],⟨by unfold Has;simp_all,.iC (.int _ _) .lL⟩,by simpa[uV,J.sz]using hB.lit _,by simpa[gR,J.lens]using Fits.nil⟩
  .rename_i hk
   .unfold DataW.trod at U;rw[hk]at U;split at U<;>simp_all;rename_i b;subst U;exact⟨[.bool b],⟨by unfold Has;simp_all,.iC (.bool _) .lL⟩,by simpa[uV,J.sz]using hB.lit _,by simpa[gR,J.lens]using Fits.nil⟩
  .rename_i hk
   .unfold DataW.trod at U;rw[hk]at U;split at U<;>simp_all;rename_i s;obtain⟨Y,e3⟩:=U;subst e3;refine⟨[.str s.data.toList],⟨by unfold Has;simp_all,.iC ?_ .lL⟩,by have:=hB.str s.data.toList;simp only[uV,J.sz];omega,λL hL=> .inr ⟨L,by simpa[gR,J.lens,DataW.weights]using hL,By _⟩⟩;have:=cB.str (F:=Pv w) (w:=w) s.data.toList;omega
  .rename_i e hk;simp only[ab,CJ,ir]at h;obtain⟨⟨⟨qc,he⟩,Z4⟩,hb8⟩:=h;replace he:e∈Ls:=by simp_all
   rcases adb hk U with⟨rfl,rfl⟩|⟨a,len,m,D,Pl,rest,ps,rfl,hl,hcm,Yl,rfl,hi⟩
   .refine⟨[.sl []],⟨by unfold Has;simp_all,.iC ?_ .lL⟩,by simpa[uV,Q7,J.sz]using hB.nil,λL hL=> .inl (by simpa[gR,J.lens,CP,Vc]using hL)⟩;exact .sl [] none 0 0 ⟨0,0,none⟩ 0 (λ_ _=> .nilFunc) rfl (By _) (by simp) (by simp) (by simp[cellAt]) (by simp[cellAt])
   .have key:∀i:Nat,∃r:List Value×Ab,i<len->w.cells? 0 (a.add (i*P.cellsOf e)) (P.cellsOf e)=some r.1/\arS P w n e r.1 r.2/\uV r.2<=BQ (D i)/\Fits (gR r.2) (DataW.weights P e (D i)):=by
     intro i;by_cases mP:i<len
     .obtain⟨Wy,h1,h2⟩:=hi i mP;obtain⟨ds,h3,h4,h5⟩:=CN hB hL n e _ _ he h2;exact⟨(Wy,ds),λ_=>⟨h1,h3,h4,h5⟩⟩
     .exact⟨([],[]),λh=>absurd h mP⟩
    obtain⟨r,E⟩:=Classical.axiomOfChoice key;let es:List Ab:=(List.range len).map λi=>(r i).2;have EH:∀i e,es[i]? =some e->i<len/\e=(r i).2:=by grind
    have hcell:∀i j d,cellAt es i j=some d->∃u,(r i).1[j]? =some u/\cB (Pv w) w d u/\w.cell? ⟨a.block,a.off+(i*P.cellsOf e+j),none⟩=some u/\d.one=true/\a.spot=none/\a.block<w.heap.size:=by
     intro i j d Z;obtain⟨row,h1,h2⟩:=agS Z;obtain⟨mP,rfl⟩:=EH i row h1;obtain⟨h3,⟨h4,h5⟩,_⟩:=E i mP;obtain⟨u,hu,Ja⟩:=h5.2 j d h2;obtain⟨c1,c2,c3,c4⟩:=zE h3 qc;obtain⟨I,SQ⟩:a.spot=none/\a.block<w.heap.size:=by
      unfold Addr.add at c1 c2;split at c1
      .simp_all
      .rename_i h0;have aBr:0<m:=by omega
       obtain⟨_,g1,g2⟩:=E 0 (by omega);obtain⟨k1,k2,_⟩:=zE (E 0 (by omega)).1 qc;simpa[Addr.add]using And.intro k1 k2
     refine⟨u,hu,Ja,?_,AL n e _ h4 d (ed h2),I,SQ⟩;have:=c4 j u hu;grind[Addr.add,Nat.add_assoc]
    refine⟨[.sl es],⟨by
     unfold Has;rw[hk];refine⟨es,rfl,by grind,λy hy=>?_⟩;obtain⟨i,Lx,rfl⟩:=It.1 hy;exact(E i (by simp_all)).2.1.1,.iC ?_ .lL⟩,?_,?_⟩
    .refine .sl es (some a) len m a (P.cellsOf e) (λi j=>((r i).1[j]?).getD .nilFunc) (by simp[es]) hl (λbP=>?_) (λi row oe=>?_) (λi j d Z=>?_) (λi j d Z=>?_)
     .have uK:0<len:=by grind
      have hg:=(E 0 uK).1;obtain⟨k1,k2,_⟩:=zE hg qc;exact⟨rfl,by simpa[Addr.add]using k1,by simpa[Addr.add]using k2⟩
     .obtain⟨mP,rfl⟩:=EH i row oe;obtain⟨h3,⟨_,h5⟩,_⟩:=E i mP;rw[h5.1];exact(zE h3 qc).2.2.1
     all_goals grind
    .have azY:∀l:List Nat,(∀i∈l,i<len)->Q7 (l.map λi=>(r i).2)<=BA (l.map D):=by
      intro l;induction l with
      |nil=>intro _;simp[Q7]
      |cons i l ih=>
       intro Me;have h1:=(E i (Me i (by simp))).2.2.1;have h2:=ih λj hj=>Me j (by simp[hj]);have h3:=hB.cons (D i) (l.map D);grind[p0,Q7]
     have:=azY (List.range len) (by simp);have h2:=hB.slice ((List.range len).map D) (rest.map (·.1));simp only[uV,J.sz,es];omega
    .intro L hL;simp only[gR,J.lens,xz,NO]at hL;unfold DataW.weights;simp only[hk];rcases hL with rfl|hL
     .refine .inr ⟨_,by simp only[NO];exact .inl rfl,?_⟩;simp only[Pe,List.length_range];have hel:es.length=len:=by simp[es]
      have hle:Vc es<=len*P.bytesOf e:=by
       rcases hb8 with h8|h8
       .refine D0 (at4 es) ?_;simp_all[Nat.mul_comm,Nat.mul_le_mul_left]
       .rw[agR,hel]
        .exact D0 (by omega) (Nat.mul_le_mul_left _ Z4)
        .intro r tO n' e';obtain⟨i,Lx,rfl⟩:=It.1 tO;have hh:=(E i (by simp_all)).2.1.1;rw[e']at hh;cases n<;>grind[Has]
      grind
     .obtain⟨row,h1,h2⟩:=arR hL;obtain⟨i,Lx,rfl⟩:=It.1 h1;have Hp:i<len:=by simp_all
      rcases(E i Hp).2.2.2 L h2 with h3|⟨x,h3,h4⟩
      .exact .inl h3
      .refine .inr ⟨x,XN _ (pt.2 (.inl (arT (It.2 ⟨i,Lx,rfl⟩) h3))),h4⟩
  .rename_i e hk;simp only[ab,ir]at h;have he:e∈Ls:=by simp_all
   rcases DataW.trod_pointer hk U with⟨rfl,rfl⟩|⟨a,Wy,y,m,wO,rfl,rfl,hc,hy⟩
   .exact⟨[.rf],⟨by unfold Has;simp_all,.iC .rf .lL⟩,by simpa[uV,J.sz]using hB.nil,by simpa[gR,J.lens]using Fits.nil⟩
   .have Gd:n=m:=by omega
    subst Gd;obtain⟨ds,⟨h1,h2⟩,h3,h4⟩:=CN hB hL _ e _ _ he hy;obtain⟨c1,c2,c3,c4⟩:=zE hc h.1;refine⟨[.ref ds],⟨by unfold Has;simp_all,.iC ?_ .lL⟩,by have:=hB.ptr y.1;simp only[uV,J.sz];omega,by simp_all[DataW.weights,gR,J.lens,xz]⟩;refine .ref ds a (λj=>(Wy[j]?).getD .nilFunc) c1 c2 (λj d Z=>?_) (λj d Z=>?_)
    .obtain⟨u,hu,E⟩:=h2.2 j d Z;grind[AL,ed]
    .obtain⟨u,hu,E⟩:=h2.2 j d Z;simp_all
  .rename_i k e hk;simp only[ab,ir]at h;have he:e∈Ls:=by simp_all
   obtain⟨xs,m,wO,rfl,zQ,Vd,hf⟩:=DataW.trod_array hk U;have Gd:n=m:=by omega
   subst Gd;have key:∀(j k:Nat) (ys:List (DataW H×List MemPlace)) (cs:List Value),ys.length=k->(j+k)*P.cellsOf e<=cs.length->
    (∀(i:Nat),i<k->DataW.trod enc P w 0 Bk true n e ((cs.drop ((j+i)*P.cellsOf e)).take (P.cellsOf e))=ys[i]?)->
    ∃ds,Vk (Has P n e) k ds/\dX (cB (Pv w) w) ds ((cs.drop (j*P.cellsOf e)).take (k*P.cellsOf e))/\uV ds<=BA (ys.map (·.1))/\Fits (gR ds) (DataW.weightsAll P e (ys.map (·.1))):=by
    intro j k;induction k generalizing j with
    |zero=>intro ys cs _ _ _;exact⟨[],rfl,by simpa using dX.lL,by simp[uV],by simpa[gR]using Fits.nil⟩
    |succ k ih=>
     intro ys cs h3 h4 h5;match ys,h3 with
     |y::ys,h3=>
      have g:=h5 0 (by omega);simp only[List.getElem?_cons_zero,UP]at g;obtain⟨ds,⟨r1,r2⟩,r3,r7⟩:=CN hB hL _ e _ _ he g;obtain⟨GR,r4,r5,r6,r8⟩:=ih (j+1) ys cs (by simp_all) (by grind) (λi hi=>by grind)
      refine⟨ds++GR,⟨ds,GR,rfl,r1,r4⟩,?_,?_,by
       rw[rj];simp only[p0];unfold DataW.weightsAll;exact Fits.append (r7.sub λw hw=>pt.2 (.inl hw)) (r8.sub λw hw=>pt.2 (.inr hw))⟩
      .have e:(cs.drop (j*P.cellsOf e)).take ((k+1)*P.cellsOf e)=(cs.drop (j*P.cellsOf e)).take (P.cellsOf e)++(cs.drop ((j+1)*P.cellsOf e)).take (k*P.cellsOf e):=by simp_all[Nat.succ_mul,Nat.add_comm,List.take_add,List.drop_drop]
       rw[e];exact r2.append r5
      .have:=hB.cons y.1 (ys.map (·.1));grind[HD,p0]
   obtain⟨ds,r1,r2,r3,aDF⟩:=key 0 k xs cs Vd (by simp_all) (λi hi=>by simp_all);refine⟨ds,⟨by unfold Has;simp_all,?_⟩,?_,by unfold DataW.weights;simp_all⟩
   .grind
   .have:=hB.agg (xs.map (·.1));grind
  .rename_i fs hk;simp only[ab,BE,GO]at h;have Xd:∀f∈fs.toList,f.type∈Ls:=λf hf=>by simp_all
   obtain⟨xs,m,wO,rfl,zQ,Vd,hf⟩:=DataW.trod_struct hk U;have Gd:n=m:=by omega
   subst Gd;have key:∀(fl:List Field) (k:Nat) (ys:List (DataW H×List MemPlace)) (cs:List Value),(∀f∈fl,f.type∈Ls)->KB P k fl=true->ys.length=fl.length->k+rq P fl<=cs.length->
    (∀(i:Nat) (f:Field),fl[i]? =some f->DataW.trod enc P w 0 Bk true n f.type ((cs.drop f.offset).take (P.cellsOf f.type))=ys[i]?)->
    ∃ds,Vh (Has P n) fl ds/\dX (cB (Pv w) w) ds ((cs.drop k).take (rq P fl))/\uV ds<=BA (ys.map (·.1))/\Fits (gR ds) (DataW.weightsEach P (fl.map (·.type)) (ys.map (·.1))):=by
    intro fl;induction fl with
    |nil=>intro k ys cs _ _ _ _ _;exact⟨[],rfl,by simpa[rq]using dX.lL,by simp[uV],by simpa[gR]using Fits.nil⟩
    |cons f fl ih=>
     intro k ys cs h1 h2 h3 h4 h5;match ys,h3 with
     |y::ys,h3=>
      simp only[KB,ab,GO]at h2;simp only[rq]at h4;have g:=h5 0 f rfl;simp only[List.getElem?_cons_zero]at g;rw[h2.1]at g;obtain⟨ds,⟨r1,r2⟩,r3,r7⟩:=CN hB hL _ f.type _ _ (h1 f (by simp)) g;obtain⟨GR,r4,r5,r6,r8⟩:=ih (k+P.cellsOf f.type) ys cs (λf' Eo=>h1 f' (by simp[Eo])) h2.2 (by simp_all) (by omega) (λi f' Eo=>by simpa using h5 (i+1) f' (by simp_all));refine⟨ds++GR,⟨ds,GR,rfl,r1,r4⟩,?_,?_,by
       rw[rj];simp only[p0];unfold DataW.weightsEach;exact Fits.append (r7.sub λw hw=>pt.2 (.inl hw)) (r8.sub λw hw=>pt.2 (.inr hw))⟩
      .have e:(cs.drop k).take (rq P (f::fl))=(cs.drop k).take (P.cellsOf f.type)++(cs.drop (k+P.cellsOf f.type)).take (rq P fl):=by simp_all[rq,List.take_add,List.drop_drop]
       rw[e];exact r2.append r5
      .have:=hB.cons y.1 (ys.map (·.1));grind[HD,p0]
   obtain⟨ds,r1,r2,r3,aDF⟩:=key fs.toList 0 xs cs Xd h.1.2 (by omega) (by omega) (λi f hi=>hf i f (by simp_all));refine⟨ds,⟨by unfold Has;simp_all,?_⟩,?_,by unfold DataW.weights;simp_all⟩
   .grind
   .have:=hB.agg (xs.map (·.1));grind
  .cases h
end
end Go.Nk
