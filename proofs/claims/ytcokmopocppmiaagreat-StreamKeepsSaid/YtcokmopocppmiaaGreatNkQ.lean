/- Every order of a region that draws comes to what the order of the text comes to. -/
import Derived.Test.YtcokmopocppmiaaGreatNkR
import Derived.Deep.LoopGhost
import Derived.Scope
set_option linter.all false
namespace Go.Nk
open Go.RowKit
noncomputable def aJ(C:jL)(d:ae)(s:DS):sj:=
 match d.guard with
 |none=>aC C d.op s
 |some (g,b)=>match get g s.fr with
  | .bool b'=>if b'=b then aC C d.op s else⟨True,.cy [],s.hp⟩
  | .cy []=>⟨True,.cy [],s.hp⟩
  |_=>no
theorem iX(C)(d:ae)(s:DS)(K):pK C d s K↔(aJ C d s).pre/\K (s.put d.dst (aJ C d s)):=by
 unfold pK aJ;cases d.guard with
 |none=>exact Iff.rfl
 |some gb=>
  obtain⟨g,b⟩:=gb;dsimp only;cases get g s.fr with
  |bool b'=>dsimp only;split<;>simp
  |cy vs=>cases vs<;>simp[no]
  |_=>simp[no]
theorem FF(C)(d:ae){fr tf}(hp)(h:∀n∈d.looks,get n fr=get n tf):aJ C d ⟨fr,hp⟩=aJ C d ⟨tf,hp⟩:=by
 unfold aJ;have h1:=Zk C d.op hp λn hn=>h n (List.mem_append_left _ hn);cases hg:d.guard with
 |none=>exact h1
 |some gb=>
  obtain⟨g,b⟩:=gb;have h2:=h g (List.mem_append_right _ (by rw[hg];simp));simp only[h1,h2]
theorem ave(C)(d:ae)(fr)(hp)(hk:d.op.bl=0)(h:(aJ C d ⟨fr,hp⟩).pre):
 (aJ C d ⟨fr,hp⟩).hp=hp/\∀gh,(aJ C d ⟨fr,gh⟩).pre/\(aJ C d ⟨fr,gh⟩).val=(aJ C d ⟨fr,hp⟩).val/\(aJ C d ⟨fr,gh⟩).hp=gh:=by
 unfold aJ at h|-;cases hg:d.guard with
 |none=>simp only[hg]at h|-;exact alc C d.op fr hp hk h
 |some gb=>
  obtain⟨g,b⟩:=gb;simp only[hg]at h|-;cases JU:get g fr with
  |bool b'=>
   simp only[JU]at h|-;by_cases hb:b'=b
   ·simp only[if_pos hb]at h|-;exact alc C d.op fr hp hk h
   ·simp only[if_neg hb];simp
  |cy vs=>cases vs with
   |nil=>simp
   |cons=>simp only[JU,no]at h
  |_=>simp only[JU,no]at h
theorem PW(C)(d:ae)(fr)(hp gh)(hf:Fz hp gh)(hk:d.op.bl=1):
 ((aJ C d ⟨fr,gh⟩).pre↔(aJ C d ⟨fr,hp⟩).pre)/\((aJ C d ⟨fr,hp⟩).pre->(aJ C d ⟨fr,gh⟩).val=(aJ C d ⟨fr,hp⟩).val/\(aJ C d ⟨fr,hp⟩).hp=hp/\(aJ C d ⟨fr,gh⟩).hp=gh):=by
 have z9:d.op.bl≠0/\d.op.bl≠7/\d.op.bl≠8/\d.op.bl≠9/\d.op.bl≠10:=by omega
 obtain⟨k1,k2,k3⟩:=ald C d.op fr hp gh hf ((rn z9).symm.trans hk);unfold aJ;simp only[uD z9];cases hg:d.guard with
 |none=>simp only;exact⟨iff_of_eq k1,λh=>⟨k2,k3 h⟩⟩
 |some gb=>
  obtain⟨g,b⟩:=gb;simp only;cases JU:get g fr with
  |bool b'=>
   simp only;by_cases hb:b'=b
   ·simp only[if_pos hb];exact⟨iff_of_eq k1,λh=>⟨k2,k3 h⟩⟩
   ·simp only[if_neg hb];simp
  |cy vs=>cases vs with
   |nil=>simp
   |cons=>simp[no]
  |_=>simp[no]
theorem asb(C)(d:ae)(fr)(hp)(hk:d.op.bl=2)(h:(aJ C d ⟨fr,hp⟩).pre):Fz hp (aJ C d ⟨fr,hp⟩).hp:=by
 have z9:d.op.bl≠0/\d.op.bl≠7/\d.op.bl≠8/\d.op.bl≠9/\d.op.bl≠10:=by omega
 unfold aJ at h|-;simp only[uD z9]at h|-;cases hg:d.guard with
 |none=>simp only[hg]at h|-;exact aqd C d.op fr hp ((rn z9).symm.trans hk) h
 |some gb=>
  obtain⟨g,b⟩:=gb;simp only[hg]at h|-;cases JU:get g fr with
  |bool b'=>
   simp only[JU]at h|-;by_cases hb:b'=b
   ·simp only[if_pos hb]at h|-;exact aqd C d.op fr hp ((rn z9).symm.trans hk) h
   ·simp only[if_neg hb];exact .refl _
  |cy vs=>cases vs with
   |nil=>exact .refl _
   |cons=>simp only[JU,no]at h
  |_=>simp only[JU,no]at h
theorem cE(C)(d:ae)(fr){hp}(h:(aJ C d ⟨fr,hp⟩).pre):
 ((∀gh,aJ C d ⟨fr,gh⟩=aC C d.op ⟨fr,gh⟩))\/(∀gh,aJ C d ⟨fr,gh⟩=⟨True,.cy [],gh⟩):=by
 unfold aJ at h|-;cases hg:d.guard with
 |none=>exact .inl λ_=>rfl
 |some gb=>
  obtain⟨g,b⟩:=gb;simp only[hg]at h|-;cases JU:get g fr with
  |bool b'=>
   simp only;by_cases hb:b'=b
   ·simp only[if_pos hb];exact .inl λ_=>trivial
   ·simp only[if_neg hb];exact .inr λ_=>trivial
  |cy vs=>cases vs with
   |nil=>exact .inr λ_=>rfl
   |cons=>simp only[JU,no]at h
  |_=>simp only[JU,no]at h
theorem ale(C)(d:ae)(fr)(hp)(hk:d.op.bl=7)(h:(aJ C d ⟨fr,hp⟩).pre):(aJ C d ⟨fr,hp⟩).hp=hp:=by
 rcases cE C d fr h with e|e
 ·rw[e];cases hd:d.op<;>rw[hd]at hk<;>first|(cases hk;done)|rfl|skip
  all_goals exact absurd hk (by simp[aS.bl,aS.kind])
 ·rw[e]
def PX:aS->Option Nat
 | .load _ (.t n)| .pY _ (.t n)| .p9 (.t n)| .len (.t n)=>some n
 | .pZ _ (.t n) _| .me _ _ (.t n) _| .Fx (.t n) _=>some n
 |_=>none
theorem Zl{d:aS}{n}(h:PX d=some n):d.bl=1:=by cases d<;>first|rfl|simp[PX]at h
theorem Zm(C)(d){n}(hv:PX d=some n)(fr){hp cJ}(h:∀h',uT (get n fr)=some h'->cJ[h']? =hp[h']?):
 (aw C d ⟨fr,cJ⟩).pre=(aw C d ⟨fr,hp⟩).pre/\(aw C d ⟨fr,cJ⟩).val=(aw C d ⟨fr,hp⟩).val:=by
 have hc:aI cJ (get n fr)=aI hp (get n fr):=by
  unfold aI;split
  ·rfl
  ·rename_i e;rw[h _ (by rw[e];rfl)]
  ·rfl
 have ha:∀h' L,uT (get n fr)=some h'->alive cJ h' L=alive hp h' L:=λh' L e=>by unfold alive;rw[h _ e]
 cases d<;>simp only[PX,reduceCtorEq]at hv;case Fx m k=>
  cases m<;>simp only[Option.some.injEq,reduceCtorEq]at hv;subst hv;rename_i n;have:fG cJ (get n fr)=fG hp (get n fr):=by unfold fG;cases e:get n fr<;>simp only;rw[h _ (by rw[e];rfl)]
  have e2:(DA.t n).ev fr=get n fr:=rfl;simp only[aw,e2,this];cases fG hp (get n fr)<;>cases k.ev fr<;>exact⟨rfl,rfl⟩
 case load s x=>cases x<;>simp only[Option.some.injEq,reduceCtorEq]at hv;subst hv;simp only[aw,DA.ev,hc];exact⟨trivial,trivial⟩
 case pY o x=>
  cases x<;>simp only[Option.some.injEq,reduceCtorEq]at hv;subst hv;simp only[aw,DA.ev];split
  ·exact⟨rfl,rfl⟩
  ·rename_i e;exact⟨ha _ _ (by rw[e];rfl),rfl⟩
  ·exact⟨rfl,rfl⟩
 case p9 x=>
  cases x<;>simp only[Option.some.injEq,reduceCtorEq]at hv;subst hv;simp only[aw,DA.ev];split
  ·rename_i e;exact⟨ha _ _ (by rw[e];rfl),rfl⟩
  ·exact⟨rfl,rfl⟩
  ·exact⟨rfl,rfl⟩
  ·exact⟨rfl,rfl⟩
  ·exact⟨rfl,rfl⟩
 case len x=>
  cases x<;>simp only[Option.some.injEq,reduceCtorEq]at hv;subst hv;simp only[aw,DA.ev];split
  ·exact⟨rfl,rfl⟩
  ·exact⟨rfl,rfl⟩
  ·rename_i e;exact⟨ha _ _ (by rw[e];rfl),rfl⟩
  ·exact⟨rfl,rfl⟩
 case me m z x i=>
  cases x<;>simp only[Option.some.injEq,reduceCtorEq]at hv;subst hv;simp only[aw,DA.ev];split
  ·exact⟨rfl,rfl⟩
  ·rename_i e _;exact⟨congrArg (·/\_) (ha _ _ (by rw[e];rfl)),rfl⟩
  ·exact⟨rfl,rfl⟩
 case pZ z x i=>
  cases x<;>simp only[Option.some.injEq,reduceCtorEq]at hv;subst hv;simp only[aw,DA.ev];split
  ·exact⟨rfl,rfl⟩
  ·rename_i e _;rw[h _ (by rw[e];rfl)];split<;>exact⟨rfl,rfl⟩
  ·exact⟨rfl,rfl⟩
theorem aoG{lo}{x y:ak}(h:Low lo (some x) (some y))(i j)(hj:j<lo):((y.es.getD i []).drop j).getD 0 .undef=((x.es.getD i []).drop j).getD 0 .undef:=by have:=congrArg (λl=>l[j]?) (h.2.2.2 i).2;simp only[List.getElem?_take,if_pos hj]at this;simp only[List.getD_eq_getElem?_getD,List.getElem?_drop,Nat.add_zero];simp only[List.getD_eq_getElem?_getD]at this;rw[this]
theorem alf{lo}{x y:ak}(h:Low lo (some x) (some y))(i j n)(hj:j+n<=lo):((y.es.getD i []).drop j).take n=((x.es.getD i []).drop j).take n:=by have:=congrArg (λl=>(l.drop j).take n) (h.2.2.2 i).2;simp only[List.drop_take,List.take_take]at this;rwa[Nat.min_eq_left (by omega)]at this
theorem aoH(C)(d)(lo)(fr){o}{hp cJ}(h:alg o lo hp cJ)(hv:wT lo fr d):
 (aw C d ⟨fr,cJ⟩).pre=(aw C d ⟨fr,hp⟩).pre/\(aw C d ⟨fr,cJ⟩).val=(aw C d ⟨fr,hp⟩).val:=by
 have hl:∀k,cJ[k]? =hp[k]? \/Low lo hp[k]? cJ[k]? :=λk=>by
  by_cases e:o=some k
  ·exact .inr ((h k).2 e)
  ·exact .inl ((h k).1 e)
 have ha:∀k L,alive cJ k L=alive hp k L:=λk L=>by
  unfold alive;rcases hl k with e|e
  ·rw[e]
  ·cases e1:hp[k]? <;>cases e2:cJ[k]? <;>simp only[e1,e2,Low]at e|-;rw[e.1,e.2.2.1]
 cases d<;>simp only[wT]at hv;case pY off x=>
  simp only[aw];cases x.ev fr<;>simp only[ha]<;>exact⟨trivial,trivial⟩
 case p9 x=>
  simp only[aw];cases x.ev fr<;>simp only[ha]<;>exact⟨trivial,trivial⟩
 case len x=>
  simp only[aw];cases x.ev fr<;>simp only[ha]<;>exact⟨trivial,trivial⟩
 case me n z x i=>
  simp only[aw];cases x.ev fr<;>cases i.ev fr<;>simp only[ha]<;>exact⟨trivial,trivial⟩
 case pZ z x i=>
  simp only[aw];cases hx:x.ev fr<;>cases i.ev fr<;>simp only<;>try exact⟨trivial,trivial⟩
  rename_i k L off len _ _;rcases hl k with e|e
  ·rw[e];cases hp[k]? <;>exact⟨rfl,rfl⟩
  ·cases e1:hp[k]? <;>cases e2:cJ[k]? <;>simp only[e1,e2,Low]at e|-
   ·exact⟨trivial,trivial⟩
   ·rw[e.1,e.2.1,e.2.2.1];exact⟨rfl,trivial⟩
 case load sz x=>
  simp only[aw,bA];cases hx:x.ev fr;case ptr k L i j=>
   rcases hl k with e|e
   ·simp only[aI,e];exact⟨trivial,trivial⟩
   ·cases e1:hp[k]? <;>cases e2:cJ[k]? <;>simp only[e1,e2,Low]at e
    ·simp only[aI,e1,e2];exact⟨trivial,trivial⟩
    ·rename_i x1 y1;have e':Low lo (some x1) (some y1):=e;have hln:=(e.2.2.2 i).1;simp only[aI,e1,e2,e.1];by_cases hd:x1.k= .dead
     ·rw[if_pos hd,if_pos hd];cases sz<;>exact⟨rfl,rfl⟩
     ·rw[if_neg hd,if_neg hd];cases sz with
      |none=>
       simp only[hx]at hv;simp only[aoG e' i j hv,List.length_drop,hln,e.2.2.1];exact⟨trivial,trivial⟩
      |some n=>
       simp only[hx]at hv;simp only[alf e' i j n hv,List.length_drop,hln,e.2.2.1];exact⟨trivial,trivial⟩
  all_goals(simp only[aI];first|exact⟨rfl,rfl⟩|exact⟨trivial,trivial⟩)
theorem Zn(C)(d:aS)(fr)(hp)(hk:d.kind=1)(h:(aw C d ⟨fr,hp⟩).pre):(aw C d ⟨fr,hp⟩).hp=hp:=
 (ald C d fr hp hp (.refl _) hk).2.2 h|>.1
theorem asc(C)(d){n}(hv:PX d=some n)(fr){hp:List ak}(bG:(aw C d ⟨fr,hp⟩).pre){h'}(e:uT (get n fr)=some h'):h'<hp.length:=by
 rcases Nat.lt_or_ge h' hp.length with c|c
 ·exact c
 have hn:=List.getElem?_eq_none c;exfalso;cases d<;>simp only[PX,reduceCtorEq]at hv;case load sz x=>
  cases x<;>simp only[Option.some.injEq,reduceCtorEq]at hv;subst hv;revert bG;simp only[aw,bA,DA.ev];revert e;cases get _ fr<;>simp only[uT,Option.some.injEq,reduceCtorEq,false_implies];all_goals first|(rintro rfl;simp only[aI,hn];cases sz<;>simp;done)|(intro _;cases sz<;>simp[aI])
 case pY o x=>
  cases x<;>simp only[Option.some.injEq,reduceCtorEq]at hv;subst hv;revert bG;simp only[aw,DA.ev];revert e;cases get _ fr<;>simp only[uT,Option.some.injEq,reduceCtorEq,false_implies];all_goals first|(rintro rfl;simp[alive,hn,no];done)|(intro _;simp[no])
 case p9 x=>
  cases x<;>simp only[Option.some.injEq,reduceCtorEq]at hv;subst hv;revert bG;simp only[aw,DA.ev];revert e;cases get _ fr<;>simp only[uT,Option.some.injEq,reduceCtorEq,false_implies];all_goals first|(rintro rfl;simp[alive,hn,no];done)|(intro _;simp[no])
 case len x=>
  cases x<;>simp only[Option.some.injEq,reduceCtorEq]at hv;subst hv;revert bG;simp only[aw,DA.ev];revert e;cases get _ fr<;>simp only[uT,Option.some.injEq,reduceCtorEq,false_implies];all_goals first|(rintro rfl;simp[alive,hn,no];done)|(intro _;simp[no])
 case me m z x i=>
  cases x<;>simp only[Option.some.injEq,reduceCtorEq]at hv;subst hv;revert bG;simp only[aw];rw[show(DA.t _).ev fr=get _ fr from rfl];revert e;cases get _ fr<;>simp only[uT,Option.some.injEq,reduceCtorEq,false_implies];all_goals first|(rintro rfl;cases i.ev fr<;>simp[alive,hn,no];done)|(intro _;cases i.ev fr<;>simp[no])
 case pZ z x i=>
  cases x<;>simp only[Option.some.injEq,reduceCtorEq]at hv;subst hv;revert bG;simp only[aw];rw[show(DA.t _).ev fr=get _ fr from rfl];revert e;cases get _ fr<;>simp only[uT,Option.some.injEq,reduceCtorEq,false_implies];all_goals first|(rintro rfl;cases i.ev fr<;>simp[hn,no];done)|(intro _;cases i.ev fr<;>simp[no])
 case Fx m k=>
  cases m<;>simp only[Option.some.injEq,reduceCtorEq]at hv;subst hv;rename_i n;have e2:(DA.t n).ev fr=get n fr:=rfl;simp only[aw,e2]at bG;revert bG;revert e;cases get n fr<;>simp only[uT,Option.some.injEq,reduceCtorEq,false_implies];all_goals first|(rintro rfl;cases k.ev fr<;>simp[fG,hn,no];done)|(intro _;cases k.ev fr<;>simp[fG,no])
theorem ayR(C)(d:ae){n}(hv:PX d.op=some n)(fr){hp cJ:List ak}(h:∀h',uT (get n fr)=some h'->h'<hp.length->cJ[h']? =hp[h']?)(bG:(aJ C d ⟨fr,hp⟩).pre):
 (aJ C d ⟨fr,cJ⟩).pre/\(aJ C d ⟨fr,cJ⟩).val=(aJ C d ⟨fr,hp⟩).val/\(aJ C d ⟨fr,cJ⟩).hp=cJ:=by
 have hk:=Zl hv;have z9:d.op.bl≠0/\d.op.bl≠7/\d.op.bl≠8/\d.op.bl≠9/\d.op.bl≠10:=by omega
 rcases cE C d fr bG with e|e
 ·simp only[uD z9]at e;rw[e]at bG;rw[e,e];have e2:=Zm C d.op hv fr (λh' e'=>h h' e' (asc C d.op hv fr bG e'));have gh:(aw C d.op ⟨fr,cJ⟩).pre:=by rw[e2.1];exact bG
  have fE:=(rn z9).symm.trans hk;exact⟨gh,e2.2,Zn C d.op fr cJ fE gh⟩
 ·rw[e,e];exact⟨trivial,rfl,rfl⟩
theorem ayS(C)(d:ae){b}{e}(hd:d.op= .to b e)(fr)(hp)(h:(aJ C d ⟨fr,hp⟩).pre):Ot (uT (get b fr)) hp (aJ C d ⟨fr,hp⟩).hp:=by
 rcases cE C d fr h with k|k
 ·rw[k,hd]at h;rw[k,hd];exact h.2
 ·rw[k];exactλ_ _ _=>rfl
theorem avf(C)(d:ae){lo}{e}(hd:d.op= .rk lo e)(fr)(hp)(h:(aJ C d ⟨fr,hp⟩).pre):
 (aJ C d ⟨fr,hp⟩).hp=hp:=by
 rcases cE C d fr h with k|k
 ·rw[k,hd];rfl
 ·rw[k]
theorem avg(C)(d1 d2:ae){lo PY b}{e1 e2}(h1:d1.op= .rk lo e1)(h2:d2.op= .tk b PY e2)(hl:lo<=PY)(fr)(hp)(p1:(aJ C d1 ⟨fr,hp⟩).pre)(p2:(aJ C d2 ⟨fr,hp⟩).pre):
 (aJ C d1 ⟨fr,(aJ C d2 ⟨fr,hp⟩).hp⟩).pre/\(aJ C d1 ⟨fr,(aJ C d2 ⟨fr,hp⟩).hp⟩).val=(aJ C d1 ⟨fr,hp⟩).val/\(aJ C d1 ⟨fr,(aJ C d2 ⟨fr,hp⟩).hp⟩).hp=(aJ C d2 ⟨fr,hp⟩).hp:=by
 rcases cE C d1 fr p1 with k|k
 ·rw[k,h1]at p1;rw[k,k,h1];have hh:∃o,alg o PY hp (aJ C d2 ⟨fr,hp⟩).hp:=by
   rcases cE C d2 fr p2 with q|q
   ·rw[q,h2]at p2|-;exact⟨_,p2.2⟩
   ·rw[q];exact⟨none,λh=>⟨λ_=>rfl,λe=>(by cases e)⟩⟩
  obtain⟨o,ho⟩:=hh;have ayT:∀{d fr},wT lo fr d->wT PY fr d:=λ{d fr} hv=>by cases d<;>simp only[wT]at hv|-;case load s x=>cases s<;>simp only[]at hv|- <;>split<;>simp_all<;>omega
  have e:=aoH C e1 PY fr ho (ayT p1.2.1);have hk:e1.kind=1:=by have:=p1.2.1;cases e1<;>simp only[wT]at this<;>rfl
  have gh:(aw C e1 ⟨fr,(aJ C d2 ⟨fr,hp⟩).hp⟩).pre:=by rw[e.1];exact p1.1
  exact⟨⟨gh,p1.2.1,Zn C e1 fr _ hk gh⟩,e.2,rfl⟩
 ·rw[k,k];exact⟨trivial,rfl,rfl⟩
--@C<
theorem Zo(C)(d:ae){z}{e}(hd:d.op= .rz z e)(fr)(hp)(h:(aJ C d ⟨fr,hp⟩).pre):
 (aJ C d ⟨fr,hp⟩).hp=hp:=by
 rcases cE C d fr h with k|k
 ·rw[k,hd];rfl
 ·rw[k]
theorem acL(C)(d:ae){z}{e}(hd:d.op= .rz z e)(fr){hp cJ}(h:∀(i:Nat) (o:ak),hp[i]? =some o->o.k≠ .dead->o.z≠z->cJ[i]? =some o)(bG:(aJ C d ⟨fr,hp⟩).pre):
 (aJ C d ⟨fr,cJ⟩).pre/\(aJ C d ⟨fr,cJ⟩).val=(aJ C d ⟨fr,hp⟩).val/\(aJ C d ⟨fr,cJ⟩).hp=cJ:=by
 rcases cE C d fr bG with k|k
 ·rw[k,hd]at bG;rw[k,k,hd];simp only[aC]at bG|-;obtain⟨h1,h2⟩:=bG;have key:∀n,PX e=some n->OW z hp (get n fr)->(aw C e ⟨fr,cJ⟩).pre=(aw C e ⟨fr,hp⟩).pre/\(aw C e ⟨fr,cJ⟩).val=(aw C e ⟨fr,hp⟩).val/\OW z cJ (get n fr):=λn hn hz=>by
   have Tg:∀h',uT (get n fr)=some h'->cJ[h']? =hp[h']? :=λh' e'=>by
    simp only[OW,e']at hz;cases q:hp[h']? with
    |none=>rw[q]at hz;exact hz.elim
    |some o=>rw[q]at hz;exact h h' o q hz.1 hz.2
   obtain⟨u1,u2⟩:=Zm C e hn fr Tg;refine⟨u1,u2,?_⟩;unfold OW at hz|-;cases q:uT (get n fr)with
   |none=>trivial
   |some h'=>simp only[q]at hz|-;rw[Tg h' q];exact hz
  have hv:∃n,PX e=some n/\∀gh,Mz z ⟨fr,gh⟩ e=OW z gh (get n fr):=by
   cases e;case load s x=>cases x<;>first|exact⟨_,rfl,λ_=>rfl⟩|exact False.elim h2
   case pY s x=>cases x<;>first|exact⟨_,rfl,λ_=>rfl⟩|exact False.elim h2
   case p9 x=>cases x<;>first|exact⟨_,rfl,λ_=>rfl⟩|exact False.elim h2
   case len x=>cases x<;>first|exact⟨_,rfl,λ_=>rfl⟩|exact False.elim h2
   case pZ n x y=>cases x<;>first|exact⟨_,rfl,λ_=>rfl⟩|exact False.elim h2
   case me n m x y=>cases x<;>first|exact⟨_,rfl,λ_=>rfl⟩|exact False.elim h2
   all_goals exact False.elim h2
  obtain⟨n,hn,hq⟩:=hv;rw[hq]at h2|-;obtain⟨u1,u2,u3⟩:=key n hn h2;rw[u1,u2];exact⟨⟨h1,u3⟩,rfl,trivial⟩
 ·rw[k,k];exact⟨trivial,rfl,rfl⟩
theorem asd(C)(d:ae){z}{e}(hd:d.op= .rz z e)(fr){hp nq}(t)(hf:Fz hp nq)(bG:(aJ C d ⟨fr,hp⟩).pre):
 (aJ C d ⟨fr,nq++t⟩).pre/\(aJ C d ⟨fr,nq++t⟩).val=(aJ C d ⟨fr,hp⟩).val/\(aJ C d ⟨fr,nq++t⟩).hp=nq++t:=by
 rcases cE C d fr bG with k|k
 ·rw[k,hd]at bG;rw[k,k,hd];simp only[aC]at bG|-;obtain⟨h1,h2⟩:=bG;have hv:e.kind=1/\∃n,∀gh,Mz z ⟨fr,gh⟩ e=OW z gh (get n fr):=by
   cases e;case load s x=>cases x<;>first|exact⟨rfl,_,λ_=>rfl⟩|exact False.elim h2
   case pY s x=>cases x<;>first|exact⟨rfl,_,λ_=>rfl⟩|exact False.elim h2
   case p9 x=>cases x<;>first|exact⟨rfl,_,λ_=>rfl⟩|exact False.elim h2
   case len x=>cases x<;>first|exact⟨rfl,_,λ_=>rfl⟩|exact False.elim h2
   case pZ n x y=>cases x<;>first|exact⟨rfl,_,λ_=>rfl⟩|exact False.elim h2
   case me n m x y=>cases x<;>first|exact⟨rfl,_,λ_=>rfl⟩|exact False.elim h2
   all_goals exact False.elim h2
  obtain⟨hk,n,hq⟩:=hv;rw[hq]at h2|-;obtain⟨a1,a2,_⟩:=ald C e fr hp nq hf hk;rw[<-a1]at h1;obtain⟨b1,b2,_⟩:=V1 C e fr nq t hk h1;refine⟨⟨b1,?_⟩,b2.trans a2,trivial⟩;unfold OW at h2|-;cases q:uT (get n fr)with
  |none=>trivial
  |some i=>
   simp only[q]at h2|-;rcases hf.get i with⟨q1,_⟩|⟨o,o',q1,q2,qz,_,qd,_⟩
   ·rw[q1]at h2;exact h2.elim
   ·rw[q1]at h2;rw[List.getElem?_append_left (List.getElem?_eq_some_iff.1 q2).1,q2];exact⟨λhh=>h2.1 (qd.1 hh),λhh=>h2.2 (qz▸hh)⟩
 ·rw[k,k];exact⟨trivial,rfl,rfl⟩
--@C>
def Bo(d:aS):Bool:=match d with
 | .rk .. =>true
 | .rz .. =>true
 |d=>d.bl==7||d.bl==1
theorem Zp(C)(d:ae)(hd:Bo d.op=true)(fr)(hp)(h:(aJ C d ⟨fr,hp⟩).pre):(aJ C d ⟨fr,hp⟩).hp=hp:=by
 unfold Bo at hd;split at hd
 ·rename_i e;exact avf C d e fr hp h
 ·rename_i e;exact Zo C d e fr hp h
 ·simp only[Bool.or_eq_true,beq_iff_eq]at hd;rcases hd with hd|hd
  ·exact ale C d fr hp hd h
  ·exact((PW C d fr hp hp (.refl _) hd).2 h).2.1
theorem alh{a b}(h:acm a b):∀k,uT a=some k->uT b≠some k:=by
 intro k e;intro e';unfold uT at e e';split at e<;>first|(cases e;done)|skip
 all_goals
  split at e'<;>first|(cases e';done)|skip
 all_goals
  injection e with e;injection e' with e';subst e;simp only[acm]at h;exact h e'.symm
theorem avh(C)(di dj:ae){h h'}{z z'}(h1:di.op= .aa h z)(h2:dj.op= .aa h' z')(bw:h≠h')(fr)(hp)(p1:(aJ C di ⟨fr,hp⟩).pre)(p2:(aJ C dj ⟨fr,(aJ C di ⟨fr,hp⟩).hp⟩).pre):
 (aJ C dj ⟨fr,hp⟩).pre/\(aJ C di ⟨fr,(aJ C dj ⟨fr,hp⟩).hp⟩).pre/\(aJ C dj ⟨fr,hp⟩).val=(aJ C dj ⟨fr,(aJ C di ⟨fr,hp⟩).hp⟩).val/\
  (aJ C di ⟨fr,(aJ C dj ⟨fr,hp⟩).hp⟩).val=(aJ C di ⟨fr,hp⟩).val/\(aJ C di ⟨fr,(aJ C dj ⟨fr,hp⟩).hp⟩).hp=(aJ C dj ⟨fr,(aJ C di ⟨fr,hp⟩).hp⟩).hp:=by
 have sp:∀(k:Nat) (z:List DV) (hp:List ak),(aC C (.aa k z) ⟨fr,hp⟩).pre->∃o,hp[k]? =some o/\(o.k= .dead/\o.es=[]):=λk z hp hx=>by
  simp only[aC,aw]at hx;cases hk:hp[k]? with
  |none=>rw[hk]at hx;exact hx.elim
  |some o=>rw[hk]at hx;exact⟨o,rfl,hx⟩
 have ev:∀(k:Nat) (z:List DV) (hp:List ak) (o:ak),hp[k]? =some o->aC C (.aa k z) ⟨fr,hp⟩=⟨o.k= .dead/\o.es=[],.ptr k 1 0 0,hp.set k ⟨.loc,z.length,[z]⟩⟩:=λk z hp o hk=>by simp only[aC,aw,hk]
 rcases cE C di fr p1 with k|k<;>rcases cE C dj fr p2 with q|q
 ·simp only[k,q,h1,h2]at p1 p2|-;obtain⟨o,ho,hd⟩:=sp _ _ _ p1;rw[ev _ _ _ _ ho]at p2|-;obtain⟨o',ey,oF⟩:=sp _ _ _ p2;have qK:hp[h']? =some o':=by rw[List.getElem?_set_ne bw]at ey;exact ey
  rw[ev _ _ _ _ ey,ev _ _ _ _ qK];have ho3:(hp.set h' ⟨.loc,z'.length,[z']⟩)[h]? =some o:=by rw[List.getElem?_set_ne (Ne.symm bw)];exact ho
  rw[ev _ _ _ _ ho3];exact⟨oF,hd,rfl,rfl,(List.set_comm _ _ bw.symm)⟩
 ·simp only[k,q]at p1 p2|-;exact⟨trivial,p1,trivial,trivial,trivial⟩
 ·simp only[k,q]at p1 p2|-;exact⟨p2,trivial,trivial,trivial,trivial⟩
 ·simp only[k,q];exact⟨trivial,trivial,trivial,trivial,trivial⟩
def acM(gg:List (Nat×Nat))(s:DS):Prop:=∀p∈gg,∀k,uT (get p.1 s.fr)=some k->uT (get p.2 s.fr)≠some k
theorem aeU:∀{gg:List (Nat×Nat)} {s:DS},Lz gg s.fr->acM gg s
 |[],_,_=>λp hp=>by simp at hp
 |(a,b)::r,s,h=>λp hp=>by
  rcases List.mem_cons.1 hp with rfl|hp
  ·exact alh h.1
  ·exact aeU h.2 p hp
def Th:aS->Option Nat
 | .pY _ (.t n)| .p9 (.t n)| .mv (.t n)=>some n
 | .pZ _ (.t n) _| .me _ _ (.t n) _=>some n
 |_=>none
theorem ali(C)(d){n}(hv:Th d=some n)(s:DS)(h:(aC C d s).pre){k}(e:uT (aC C d s).val=some k):uT (get n s.fr)=some k:=by
 cases d<;>simp only[Th,reduceCtorEq]at hv;case mv x=>cases x<;>simp only[Option.some.injEq,reduceCtorEq]at hv;subst hv;exact e
 case pY o x=>
  cases x<;>simp only[Option.some.injEq,reduceCtorEq]at hv;subst hv;simp only[aC,aw,DA.ev]at e h;revert e h;cases get _ s.fr<;>simp[uT,no]
 case p9 x=>
  cases x<;>simp only[Option.some.injEq,reduceCtorEq]at hv;subst hv;simp only[aC,aw,DA.ev]at e h;revert e h;cases get _ s.fr<;>simp[uT,no]
 case me m z x i=>
  cases x<;>simp only[Option.some.injEq,reduceCtorEq]at hv;subst hv;simp only[aC,aw]at e h;rw[show(DA.t _).ev s.fr=get _ s.fr from rfl]at e h;revert e h;cases get _ s.fr<;>cases i.ev s.fr<;>simp[uT,no]
 case pZ z x i=>
  cases x<;>simp only[Option.some.injEq,reduceCtorEq]at hv;subst hv;simp only[aC,aw]at e h;rw[show(DA.t _).ev s.fr=get _ s.fr from rfl]at e h;revert e h;cases get _ s.fr<;>cases i.ev s.fr<;>simp only[uT,no,reduceCtorEq,false_implies,implies_true,Option.some.injEq,imp_self]<;>split<;>simp
def Ti(gg:List (Nat×Nat))(d:ae):Bool:=
 match d.dst with
 |none=>true
 |some t=>gg.all λp=>(p.1 !=t&&p.2 !=t)||(match Th d.op with
  |some n=>(p.1 !=t||(p.2 !=t&&gg.contains (n,p.2)))&&(p.2 !=t||gg.contains (p.1,n))
  |none=>false)
theorem PZ{C}{gg}{d:ae}(hk:Ti gg d=true){s:DS}(hJ:acM gg s)(h:(aJ C d s).pre):acM gg (s.put d.dst (aJ C d s)):=by
 intro p hp k;cases hd:d.dst with
 |none=>exact hJ p hp k
 |some t=>
  simp only[Ti,hd,List.all_eq_true]at hk;have h1:=hk p hp;simp only[DS.put,cw];have hold:∀{n k},Th d.op=some n->uT (aJ C d s).val=some k->uT (get n s.fr)=some k:=λ{n k} hn e=>by
   obtain⟨fr,hh⟩:=s;rcases cE C d fr h with a|a
   ·rw[a]at e h;exact ali C d.op hn _ h e
   ·rw[a]at e;simp[uT]at e
  by_cases e1:p.1=t
  ·rw[if_pos e1];cases hf:Th d.op with
   |none=>simp[hf,e1]at h1
   |some n=>
    simp[hf,e1]at h1;obtain⟨⟨h2,h3⟩,h4⟩:=h1;rw[if_neg h2];intro e;exact hJ (n,p.2) h3 k (hold hf e)
  ·rw[if_neg e1];by_cases e2:p.2=t
   ·rw[if_pos e2];cases hf:Th d.op with
    |none=>simp[hf,e2]at h1
    |some n=>
     simp[hf,e1,e2]at h1;intro e e';exact hJ (p.1,n) h1 k e (hold hf e')
   ·rw[if_neg e2];exact hJ p hp k
--@C<
def aeV(x y:ae):Bool:=
 match x.op,y.op with
 | .to _ (.cl _ _ _ _),e=>e.bl==4
 | .rz z _,.to b (.cl b' z' _ _)=>b==b'&&z==z'
 | .clo _ _ _ _ _,e=>e.bl==4
 | .rz z _,.clo _ _ z' _ _=>z==z'
 | .rz z _,.append z' _ _=>z==z'
 | .rz _ _,e=>e.bl==4||e.bl==5
 |_,_=>false
--@C>
def alj(gg:List (Nat×Nat))(x y:ae):Bool:=
 P0 x y&&(match PX x.op,y.op with
  |some n,.to b _=>gg.contains (n,b)
  |_,_=>(match x.op,y.op with
   | .rk lo _,.tk _ PY _=>decide (lo<=PY)
   | .aa h _,.aa h' _=>h !=h'
   | .rd d,e=>(Bo (.rd d)&&Bo e)||(d.kind==2&&e.bl==4)
   | .ib _ _,e=>e.bl==4
   |_,_=>(Bo x.op&&Bo y.op)
    ||aeV x y
    ))
theorem avi(C)(d:ae){e:aS}(hd:d.op= .rd e)(hk:e.kind=2)(fr)(hp t)(h:(aJ C d ⟨fr,hp⟩).pre):
 (aJ C d ⟨fr,hp++t⟩).pre/\(aJ C d ⟨fr,hp++t⟩).val=(aJ C d ⟨fr,hp⟩).val/\(aJ C d ⟨fr,hp++t⟩).hp=hp++t:=by
 rcases cE C d fr h with k|k
 ·rw[k,hd]at h;rw[k,k,hd];simp only[aC]at h|-;obtain⟨u1,u2,u3⟩:=alk C e fr hp t hk h.1;exact⟨⟨u1,by rw[u3,h.2]⟩,u2,trivial⟩
 ·rw[k,k];exact⟨trivial,rfl,rfl⟩
theorem aqf(C)(d:ae){f}{xs}(hd:d.op= .ib f xs)(fr)(hp t:List ak)(h:(aJ C d ⟨fr,hp⟩).pre):
 (aJ C d ⟨fr,hp⟩).hp.length=hp.length/\(aJ C d ⟨fr,hp++t⟩).pre/\(aJ C d ⟨fr,hp++t⟩).val=(aJ C d ⟨fr,hp⟩).val/\(aJ C d ⟨fr,hp++t⟩).hp=(aJ C d ⟨fr,hp⟩).hp++t:=by
 rcases cE C d fr h with k|k
 ·rw[k,hd]at h;rw[k,k,hd];simp only[aC,aw]at h|-;obtain⟨h1,h2,h3⟩:=h;refine⟨h2,⟨(h3 t).1,by rw[(h3 t).2.2,List.length_append,List.length_append,h2],λt'=> ?_⟩,(h3 t).2.1,(h3 t).2.2⟩;obtain⟨a1,a2,a3⟩:=h3 (t++t');rw[List.append_assoc];exact⟨a1,a2.trans (h3 t).2.1.symm,a3.trans (by rw[(h3 t).2.2,List.append_assoc])⟩
 ·rw[k,k];exact⟨rfl,trivial,rfl,rfl⟩
theorem aqg(C)(d:ae){b b' z}{f}{xs}(hd:d.op= .to b (.cl b' z f xs))(fr)(hp t:List ak)(h:(aJ C d ⟨fr,hp⟩).pre):
 (aJ C d ⟨fr,hp⟩).hp.length=hp.length/\(aJ C d ⟨fr,hp++t⟩).pre/\(aJ C d ⟨fr,hp++t⟩).val=(aJ C d ⟨fr,hp⟩).val/\(aJ C d ⟨fr,hp++t⟩).hp=(aJ C d ⟨fr,hp⟩).hp++t:=by
 rcases cE C d fr h with k|k
 ·rw[k,hd]at h;rw[k,k,hd];simp only[aC]at h|-;obtain⟨h1,h2⟩:=h;simp only[aw]at h1 h2|-;cases e1:uT (get b' fr)with
  |none=>simp[e1,no]at h1
  |some n=>
   simp only[e1]at h1 h2|-;cases e2:hp[n]? with
   |none=>simp[e2,no]at h1
   |some o=>
    have fM:=(List.getElem?_eq_some_iff.1 e2).1;have e3:(hp++t)[n]? =some o:=by rw[List.getElem?_append_left fM,e2]
    simp only[e2,e3]at h1 h2|-;cases e4:(C.h f (xs.map (·.ev fr)) (List.replicate n ⟨.dead,0,[]⟩++[o])).hp[n]? with
    |none=>simp[e4,no]at h1
    |some o'=>
     simp only[e4]at h1 h2|-;rw[List.set_append_left _ _ fM];refine⟨by simp,⟨h1,λi hi bw=> ?_⟩,trivial,rfl⟩;rcases Nat.lt_or_ge i hp.length with Gk|Gk
     ·rw[List.getElem?_append_left (by simpa using Gk),List.getElem?_append_left Gk];exact h2 i Gk bw
     ·rw[List.getElem?_append_right (by simpa using Gk),List.getElem?_append_right Gk];simp
 ·rw[k,k];exact⟨rfl,trivial,rfl,rfl⟩
theorem acN(C)(d:ae){h0 b z}{f}{xs}(hd:d.op= .clo h0 b z f xs)(fr)(hp t:List ak)(h:(aJ C d ⟨fr,hp⟩).pre):
 (aJ C d ⟨fr,hp⟩).hp.length=hp.length/\(aJ C d ⟨fr,hp++t⟩).pre/\(aJ C d ⟨fr,hp++t⟩).val=(aJ C d ⟨fr,hp⟩).val/\(aJ C d ⟨fr,hp++t⟩).hp=(aJ C d ⟨fr,hp⟩).hp++t/\
  ∀(i:Nat) (o:ak),hp[i]? =some o->o.k≠ .dead->o.z≠z->(aJ C d ⟨fr,hp⟩).hp[i]? =some o:=by
 rcases cE C d fr h with k|k
 ·rw[k,hd]at h;rw[k,k,hd];simp only[aC]at h|-;simp only[aw]at h|-;cases e1:uT (get b fr)with
  |none=>simp[e1,no]at h
  |some n=>
   simp only[e1]at h|-;cases e2:hp[n]? with
   |none=>simp[e2,no]at h
   |some o=>
   cases e3:hp[h0]? with
   |none=>simp[e2,e3,no]at h
   |some od=>
    have fM:=(List.getElem?_eq_some_iff.1 e2).1;have AA:=(List.getElem?_eq_some_iff.1 e3).1;have f2:(hp++t)[n]? =some o:=by rw[List.getElem?_append_left fM,e2]
    have f3:(hp++t)[h0]? =some od:=by rw[List.getElem?_append_left AA,e3]
    simp only[e2,e3,f2,f3]at h|-;cases e5:(C.h f (xs.map (·.ev fr)) (List.replicate n ⟨.dead,0,[]⟩++[o])).val<;>simp only[e5,no]at h|- <;>try exact h.elim
    rename_i m L off len;cases e4:(C.h f (xs.map (·.ev fr)) (List.replicate n ⟨.dead,0,[]⟩++[o])).hp[n]? with
    |none=>simp[e4]at h
    |some o'=>
    cases e6:(C.h f (xs.map (·.ev fr)) (List.replicate n ⟨.dead,0,[]⟩++[o])).hp[m]? with
    |none=>simp[e4,e6]at h
    |some oj=>
     simp only[e4,e6]at h|-;have hz:=h.1;have hdd:=h.2.2.2.2.2.2.2.2.1;have stay:∀(i:Nat) (o2:ak),hp[i]? =some o2->o2.k≠ .dead->o2.z≠z->i≠n/\i≠h0:=λi o2 hi si JM=>
      ⟨λe=>by subst e;rw[e2]at hi;injection hi with hi;subst hi;exact JM hz,λe=>by subst e;rw[e3]at hi;injection hi with hi;subst hi;exact si hdd⟩
     by_cases hL:L=0
     ·simp only[if_pos hL];rw[List.set_append_left _ _ fM];refine⟨by simp,h,trivial,rfl,λi o2 hi si JM=> ?_⟩;rw[List.getElem?_set_ne (Ne.symm (stay i o2 hi si JM).1),hi]
     ·simp only[if_neg hL];rw[List.set_append_left _ _ fM,List.set_append_left _ _ (by simpa using AA)];refine⟨by simp,h,trivial,rfl,λi o2 hi si JM=> ?_⟩;rw[List.getElem?_set_ne (Ne.symm (stay i o2 hi si JM).2),List.getElem?_set_ne (Ne.symm (stay i o2 hi si JM).1),hi]
 ·rw[k,k];exact⟨rfl,trivial,rfl,rfl,λi o hi _ _=>hi⟩
def Zq(gg:List (Nat×Nat))(x y:ae):Bool:=alm x y||alj gg x y
theorem avj(C)(d:ae)(fr)(hp)(hk:d.op.bl=10)(h:(aJ C d ⟨fr,hp⟩).pre):∃t,(aJ C d ⟨fr,hp⟩).hp=hp++t:=by
 rcases cE C d fr h with e|e
 ·rw[e]at h;rw[e];cases hd:d.op<;>rw[hd]at hk h<;>first|(cases hk;done)|exact h.2|skip
  all_goals exact absurd hk (by simp[aS.bl,aS.kind])
 ·rw[e];exact⟨[],(List.append_nil _).symm⟩
theorem aqh(C)(d:ae)(fr)(hp t)(hk:d.op.bl=1)(h:(aJ C d ⟨fr,hp⟩).pre):
 (aJ C d ⟨fr,hp++t⟩).pre/\(aJ C d ⟨fr,hp++t⟩).val=(aJ C d ⟨fr,hp⟩).val/\(aJ C d ⟨fr,hp++t⟩).hp=hp++t:=by
 rcases cE C d fr h with e|e
 ·have z9:d.op.bl≠0/\d.op.bl≠7/\d.op.bl≠8/\d.op.bl≠9/\d.op.bl≠10:=by omega
  simp only[uD z9]at e;rw[e]at h;rw[e,e];exact V1 C d.op fr hp t ((rn z9).symm.trans hk) h
 ·rw[e,e];exact⟨trivial,rfl,rfl⟩
theorem aqi(C)(d:ae)(fr)(hp)(hk:d.op.bl=4\/d.op.bl=5)(h:(aJ C d ⟨fr,hp⟩).pre):Ex hp (aJ C d ⟨fr,hp⟩).hp:=by
 rcases cE C d fr h with e|e
 ·have z9:d.op.bl≠0/\d.op.bl≠7/\d.op.bl≠8/\d.op.bl≠9/\d.op.bl≠10:=by omega
  simp only[uD z9]at e;rw[e]at h;rw[e];exact ase C d.op fr hp (by rw[<-rn z9];exact hk) h
 ·rw[e];exact⟨hp,[],.refl _,(List.append_nil _).symm⟩
theorem avk(C)(d:ae)(fr)(hp t)(hk:d.op.bl=2)(h:(aJ C d ⟨fr,hp⟩).pre):
 (aJ C d ⟨fr,hp++t⟩).pre/\(aJ C d ⟨fr,hp++t⟩).val=(aJ C d ⟨fr,hp⟩).val/\(aJ C d ⟨fr,hp++t⟩).hp=(aJ C d ⟨fr,hp⟩).hp++t:=by
 rcases cE C d fr h with e|e
 ·have z9:d.op.bl≠0/\d.op.bl≠7/\d.op.bl≠8/\d.op.bl≠9/\d.op.bl≠10:=by omega
  simp only[uD z9]at e;rw[e]at h;rw[e,e];exact alk C d.op fr hp t ((rn z9).symm.trans hk) h
 ·rw[e,e];exact⟨trivial,rfl,rfl⟩
theorem Zr(C)(d:ae)(fr)(hp gh:List ak)(hl:gh.length=hp.length)(hk:d.op.bl=4)(h:(aJ C d ⟨fr,hp⟩).pre):
 (aJ C d ⟨fr,gh⟩).pre/\(aJ C d ⟨fr,gh⟩).val=(aJ C d ⟨fr,hp⟩).val/\∃t,(aJ C d ⟨fr,hp⟩).hp=hp++t/\(aJ C d ⟨fr,gh⟩).hp=gh++t:=by
 rcases cE C d fr h with e|e
 ·have z9:d.op.bl≠0/\d.op.bl≠7/\d.op.bl≠8/\d.op.bl≠9/\d.op.bl≠10:=by omega
  simp only[uD z9]at e;rw[e]at h;rw[e,e];exact asf C d.op fr hp gh hl ((rn z9).symm.trans hk) h
 ·rw[e,e];exact⟨trivial,rfl,[],(List.append_nil _).symm,(List.append_nil _).symm⟩
def Eqv(s s':DS):Prop:=s.hp=s'.hp/\∀n,get n s.fr=get n s'.fr
theorem Eqv.refl(s):Eqv s s:=⟨rfl,λ_=>rfl⟩
theorem Eqv.trans{a b c}(h:Eqv a b)(k:Eqv b c):Eqv a c:=⟨h.1.trans k.1,λn=>(h.2 n).trans (k.2 n)⟩
def Cl(K:DS->Prop)(s:DS):Prop:=∃s0,Eqv s0 s/\K s0
theorem Cl.of{K}{s}(h:K s):Cl K s:=⟨s,.refl s,h⟩
theorem Cl.eqv{K}{s s'}(h:Cl K s)(e:Eqv s s'):Cl K s':=let⟨s0,h0,hk⟩:=h;⟨s0,h0.trans e,hk⟩
theorem Eqv.put{s s':DS}(h:Eqv s s')(dst)(r):Eqv (s.put dst r) (s'.put dst r):=by
 cases dst with
 |none=>exact⟨rfl,h.2⟩
 |some t=>exact⟨rfl,λn=>by simp only[DS.put,cw];split<;>first|rfl|exact h.2 n⟩
theorem aln(C)(d){s s'}(h:Eqv s s'):aJ C d s=aJ C d s':=by obtain⟨fr,hp⟩:=s;obtain⟨tf,cJ⟩:=s';obtain⟨h1,h2⟩:=h;dsimp only at h1;subst h1;exact FF C d _ λn _=>h2 n
theorem ag0{C}{d}{s s'}{K}(e:Eqv s s')(hK:∀s s',Eqv s s'->K s->K s')(h:pK C d s K):pK C d s' K:=by rw[iX]at h|-;rw[<-aln C d e];exact⟨h.1,hK _ _ (e.put _ _) h.2⟩
theorem P1{C}{d}{s}{K K'}(hK:∀s,K s->K' s)(h:pK C d s K):pK C d s K':=by rw[iX]at h|-;exact⟨h.1,hK _ h.2⟩
theorem vX(s:DS)(dst)(r)(n)(h:∀t,dst=some t->n≠t):get n (s.put dst r).fr=get n s.fr:=by
 cases dst with
 |none=>rfl
 |some t=>simp only[DS.put,cw];rw[if_neg (h t rfl)]
theorem alo(s:DS)(dst)(r:sj):(s.put dst r).hp=r.hp:=by cases dst<;>rfl
--@C<
theorem avl(C){di dj}{fr}{hp}(hc:aeV di dj=true)(p1:(aJ C di ⟨fr,hp⟩).pre)(p2:(aJ C dj ⟨fr,(aJ C di ⟨fr,hp⟩).hp⟩).pre):
 (aJ C dj ⟨fr,hp⟩).pre/\(aJ C di ⟨fr,(aJ C dj ⟨fr,hp⟩).hp⟩).pre/\(aJ C dj ⟨fr,hp⟩).val=(aJ C dj ⟨fr,(aJ C di ⟨fr,hp⟩).hp⟩).val/\
  (aJ C di ⟨fr,(aJ C dj ⟨fr,hp⟩).hp⟩).val=(aJ C di ⟨fr,hp⟩).val/\(aJ C di ⟨fr,(aJ C dj ⟨fr,hp⟩).hp⟩).hp=(aJ C dj ⟨fr,(aJ C di ⟨fr,hp⟩).hp⟩).hp:=by
 have hc2:(∃b b' z f xs,di.op= .to b (.cl b' z f xs)/\dj.op.bl=4)\/(∃z e b f xs,di.op= .rz z e/\dj.op= .to b (.cl b z f xs))\/(∃z e,di.op= .rz z e/\(dj.op.bl=4\/dj.op.bl=5))\/(∃h b z f xs,di.op= .clo h b z f xs/\dj.op.bl=4)\/(∃z e h b f xs,di.op= .rz z e/\dj.op= .clo h b z f xs)\/(∃z e a x,di.op= .rz z e/\dj.op= .append z a x):=by
  unfold aeV at hc;split at hc
  ·rename_i b b' z f xs e1;exact .inl ⟨b,b',z,f,xs,e1,by simpa using hc⟩
  ·rename_i z e b b' z' f xs e1 e2;simp only[Bool.and_eq_true,beq_iff_eq]at hc;obtain⟨rfl,rfl⟩:=hc;exact .inr (.inl ⟨z,e,b,f,xs,e1,e2⟩)
  ·rename_i h0 b z f xs e1;exact .inr (.inr (.inr (.inl ⟨h0,b,z,f,xs,e1,by simpa using hc⟩)))
  ·rename_i z e h0 b z' f xs e1 e2;simp only[beq_iff_eq]at hc;subst hc;exact .inr (.inr (.inr (.inr (.inl ⟨z,e,h0,b,f,xs,e1,e2⟩))))
  ·rename_i z e z' a x e1 e2;simp only[beq_iff_eq]at hc;subst hc;exact .inr (.inr (.inr (.inr (.inr ⟨z,e,a,x,e1,e2⟩))))
  ·rename_i z e e1 _ _ _;exact .inr (.inr (.inl ⟨z,e,e1,by simpa using hc⟩))
  ·cases hc
 rcases hc2 with⟨b,b',z,f,xs,h1,h3⟩|⟨z,e,b,f,xs,h1,hd⟩|⟨z,e,h1,h3⟩|⟨h0,b,z,f,xs,h1,h3⟩|⟨z,e,h0,b,f,xs,h1,hd⟩|⟨z,e,a,x,h1,hd⟩
 ·obtain⟨hl,_⟩:=aqg C di h1 fr hp [] p1;obtain⟨r1,r2,t,r3,r4⟩:=Zr C dj fr (aJ C di ⟨fr,hp⟩).hp hp hl.symm h3 p2;obtain⟨_,u1,u2,u3⟩:=aqg C di h1 fr hp t p1;rw[r4];exact⟨r1,u1,r2,u2,u3.trans r3.symm⟩
 ·have nq:=Zo C di h1 fr hp p1;rw[nq]at p2|-;have ho:∀(i:Nat) (o:ak),hp[i]? =some o->o.k≠ .dead->o.z≠z->(aJ C dj ⟨fr,hp⟩).hp[i]? =some o:=by
   intro i o hi _ hz;rcases cE C dj fr p2 with k|k
   ·rw[k,hd]at p2;rw[k,hd];simp only[aC]at p2|-;have hl:=(List.getElem?_eq_some_iff.1 hi).1;rw[p2.2 i hl λe2=> ?_,hi];have p3:=p2.1;simp only[aw,e2,hi]at p3;split at p3
    ·exact hz p3.1
    ·exact p3
   ·rw[k];exact hi
  obtain⟨u1,u2,u3⟩:=acL C di h1 fr ho p1;exact⟨p2,u1,rfl,u2,u3⟩
 ·have nq:=Zo C di h1 fr hp p1;rw[nq]at p2|-;obtain⟨nq,t,hfz,het⟩:=aqi C dj fr hp h3 p2;obtain⟨u1,u2,u3⟩:=asd C di h1 fr t hfz p1;rw[het];exact⟨p2,u1,rfl,u2,u3⟩
 ·obtain⟨hl,_⟩:=acN C di h1 fr hp [] p1;obtain⟨r1,r2,t,r3,r4⟩:=Zr C dj fr (aJ C di ⟨fr,hp⟩).hp hp hl.symm h3 p2;obtain⟨_,u1,u2,u3,_⟩:=acN C di h1 fr hp t p1;rw[r4];exact⟨r1,u1,r2,u2,u3.trans r3.symm⟩
 ·have nq:=Zo C di h1 fr hp p1;rw[nq]at p2|-;obtain⟨_,_,_,_,ho⟩:=acN C dj hd fr hp [] p2;obtain⟨u1,u2,u3⟩:=acL C di h1 fr ho p1;exact⟨p2,u1,rfl,u2,u3⟩
 ·have nq:=Zo C di h1 fr hp p1;rw[nq]at p2|-;have ho:∀(i:Nat) (o:ak),hp[i]? =some o->o.k≠ .dead->o.z≠z->(aJ C dj ⟨fr,hp⟩).hp[i]? =some o:=by
   intro i o hi _ hz;rcases cE C dj fr p2 with k|k
   ·rw[k,hd]at p2;rw[k,hd];simp only[aC,aw,sN]at p2|-;cases e1:a.ev fr<;>simp only[e1,no]at p2|- <;>try exact p2.elim
    ·rw[List.getElem?_append_left (List.getElem?_eq_some_iff.1 hi).1];exact hi
    ·rename_i h L off len;cases e2:hp[h]? with
     |none=>simp[e2]at p2
     |some o2=>
      simp only[e2]at p2|-;by_cases q:i=h
      ·subst q;rw[hi]at e2;injection e2 with e2;subst e2;exact absurd p2.2.2.2.1 hz
      ·rw[List.getElem?_set_ne (Ne.symm q)];exact hi
   ·rw[k];exact hi
  obtain⟨u1,u2,u3⟩:=acL C di h1 fr ho p1;exact⟨p2,u1,rfl,u2,u3⟩
--@C>
theorem acO{C}{gg}{di dj}(hc:Zq gg di dj=true){s}(hJ:acM gg s){X}(h:pK C di s (λs1=>pK C dj s1 X)):pK C dj s (λs1=>pK C di s1 (Cl X)):=by
 have hap:P0 di dj=true:=by simp only[Zq,alm,alj,Bool.or_eq_true,Bool.and_eq_true]at hc;exact hc.elim (·.1) (·.1)
 have hc2:acP di.op.bl dj.op.bl=true\/(∃n b e,PX di.op=some n/\dj.op= .to b e/\(n,b)∈gg)\/(∃lo e b PY e',di.op= .rk lo e/\dj.op= .tk b PY e'/\lo<=PY)\/(∃h z h' z',di.op= .aa h z/\dj.op= .aa h' z'/\h≠h')\/(Bo di.op=true/\Bo dj.op=true)\/(∃d,di.op= .rd d/\d.kind=2/\dj.op.bl=4)\/(∃f xs,di.op= .ib f xs/\dj.op.bl=4)\/
  aeV di dj=true\/
  False:=by
  simp only[Zq,alm,alj,Bool.or_eq_true,Bool.and_eq_true]at hc;refine hc.imp (·.2) λh=> ?_;have h2:=h.2;split at h2
  ·rename_i n b e e1 e2;exact .inl ⟨n,b,e,e1,e2,by simpa using h2⟩
  ·split at h2
   ·rename_i lo e b PY e' e1 e2;exact .inr (.inl ⟨lo,e,b,PY,e',e1,e2,by simpa using h2⟩)
   ·rename_i h z h' z' e1 e2;exact .inr (.inr (.inl ⟨h,z,h',z',e1,e2,by simpa using h2⟩))
   ·rename_i d e1;simp only[Bool.or_eq_true,Bool.and_eq_true,beq_iff_eq]at h2;rcases h2 with h2|h2
    ·exact .inr (.inr (.inr (.inl ⟨e1▸h2.1,h2.2⟩)))
    ·exact .inr (.inr (.inr (.inr (.inl ⟨d,e1,h2.1,h2.2⟩))))
   ·rename_i f xs e1;exact .inr (.inr (.inr (.inr (.inr (.inl ⟨f,xs,e1,by simpa using h2⟩)))))
   ·have h3:=h2;simp only[Bool.or_eq_true]at h3;rcases h3 with h3|h3;rotate_left
    ·exact .inr (.inr (.inr (.inr (.inr (.inr (.inl h3))))))
    exact .inr (.inr (.inr (.inl (by simpa using h3))))
 have a1:∀t,di.dst=some t->t∉dj.looks/\dj.dst≠some t:=λt ht=>by simp only[P0,ht,Bool.and_eq_true,Bool.not_eq_true',List.contains_eq_mem,decide_eq_false_iff_not,bne_iff_ne]at hap;exact hap.1
 have a2:∀t,dj.dst=some t->t∉di.looks:=λt ht=>by simp only[P0,Bool.and_eq_true]at hap;have:=hap.2;rw[ht]at this;simpa using this
 obtain⟨fr,hp⟩:=s;rw[iX,iX]at h;obtain⟨p1,p2,hx⟩:=h;have e1:aJ C dj (DS.put ⟨fr,hp⟩ di.dst (aJ C di ⟨fr,hp⟩))=aJ C dj ⟨fr,(aJ C di ⟨fr,hp⟩).hp⟩:=by have:=FF C dj (fr:=(DS.put ⟨fr,hp⟩ di.dst (aJ C di ⟨fr,hp⟩)).fr) (tf:=fr) (aJ C di ⟨fr,hp⟩).hp (λn hn=>vX _ _ _ _ λt ht e=>(a1 t ht).1 (e▸hn));rw[<-this];cases di.dst<;>rfl
 rw[e1]at p2 hx;have key:(aJ C dj ⟨fr,hp⟩).pre/\(aJ C di ⟨fr,(aJ C dj ⟨fr,hp⟩).hp⟩).pre/\(aJ C dj ⟨fr,hp⟩).val=(aJ C dj ⟨fr,(aJ C di ⟨fr,hp⟩).hp⟩).val/\
  (aJ C di ⟨fr,(aJ C dj ⟨fr,hp⟩).hp⟩).val=(aJ C di ⟨fr,hp⟩).val/\(aJ C di ⟨fr,(aJ C dj ⟨fr,hp⟩).hp⟩).hp=(aJ C dj ⟨fr,(aJ C di ⟨fr,hp⟩).hp⟩).hp:=by
  rcases hc2 with hk|⟨n,b,e,hv,hd,hm⟩|⟨lo,e,b,PY,e',h1,h2,P2⟩|⟨h,z,h',z',h1,h2,bw⟩|⟨h1,h2⟩|⟨e,h1,h2,h3⟩|⟨f,xs,h1,h3⟩|
   h1|
   h1
  rotate_left;rotate_left
  ·have nq:=avf C di h1 fr hp p1;rw[nq]at p2|-;obtain⟨u1,u2,u3⟩:=avg C di dj h1 h2 P2 fr hp p1 p2;exact⟨p2,u1,rfl,u2,u3⟩
  ·exact avh C di dj h1 h2 bw fr hp p1 p2
  ·have nq:=Zp C di h1 fr hp p1;rw[nq]at p2|-;have gh:=Zp C dj h2 fr hp p2;rw[gh];exact⟨p2,p1,rfl,rfl,nq⟩
  ·have nq:=ale C di fr hp (by rw[h1];rfl) p1;rw[nq]at p2|-;obtain⟨_,_,t,_,r4⟩:=Zr C dj fr hp hp rfl h3 p2;obtain⟨u1,u2,u3⟩:=avi C di h1 h2 fr hp t p1;rw[r4];exact⟨p2,u1,rfl,u2,u3⟩
  ·obtain⟨hl,_⟩:=aqf C di h1 fr hp [] p1;obtain⟨r1,r2,t,r3,r4⟩:=Zr C dj fr (aJ C di ⟨fr,hp⟩).hp hp hl.symm h3 p2;obtain⟨_,u1,u2,u3⟩:=aqf C di h1 fr hp t p1;rw[r4];exact⟨r1,u1,r2,u2,u3.trans r3.symm⟩
  ·exact avl C h1 p1 p2
  ·exact h1.elim
  rotate_left
  ·have nq:=((PW C di fr hp hp (.refl _) (Zl hv)).2 p1).2.1;rw[nq]at p2|-;have ho:=ayS C dj hd fr hp p2;obtain⟨u1,u2,u3⟩:=ayR C di hv fr (hp:=hp) (cJ:=(aJ C dj ⟨fr,hp⟩).hp) (λh' e' hl=>ho h' hl (hJ _ hm h' e')) p1;exact⟨p2,u1,rfl,u2,u3⟩
  simp only[acP,Bool.or_eq_true,Bool.and_eq_true,beq_iff_eq]at hk;rcases hk with(((((((hk|hk)|⟨hi,hj⟩)|⟨hi,hj⟩)|⟨hi,hj⟩)|⟨hi,hj⟩)|⟨hi,hj⟩)|⟨hi,hj⟩)|⟨hi,hj⟩
  ·obtain⟨q1,q2⟩:=ave C di fr hp hk p1;rw[q1]at p2|-;obtain⟨r1,r2,r3⟩:=q2 (aJ C dj ⟨fr,hp⟩).hp;exact⟨p2,r1,rfl,r2,r3⟩
  ·obtain⟨q1,q2⟩:=ave C dj fr _ hk p2;obtain⟨r1,r2,r3⟩:=q2 hp;rw[r3];exact⟨r1,p1,r2,rfl,q1.symm⟩
  ·obtain⟨q1,q2⟩:=PW C di fr hp hp (.refl _) hi;obtain⟨_,q3,_⟩:=q2 p1;rw[q3]at p2|-;obtain⟨s1,s2⟩:=PW C dj fr hp hp (.refl _) hj;obtain⟨_,s3,_⟩:=s2 p2;rw[s3];exact⟨p2,p1,rfl,rfl,q3⟩
  ·obtain⟨_,q3,_⟩:=(PW C di fr hp hp (.refl _) hi).2 p1;rw[q3]at p2|-;have hfz:=asb C dj fr hp hj p2;obtain⟨s1,s2⟩:=PW C di fr hp _ hfz hi;obtain⟨t1,_,t3⟩:=s2 p1;exact⟨p2,s1.2 p1,rfl,t1,t3⟩
  ·have hfz:=asb C di fr hp hi p1;obtain⟨s1,s2⟩:=PW C dj fr hp _ hfz hj;have hpj:=s1.1 p2;obtain⟨t1,t2,t3⟩:=s2 hpj;rw[t2];exact⟨hpj,p1,t1.symm,rfl,t3.symm⟩
  ·obtain⟨_,q3,_⟩:=(PW C di fr hp hp (.refl _) hi).2 p1;rw[q3]at p2|-;obtain⟨nq,t,hfz,het⟩:=aqi C dj fr hp hj p2;obtain⟨s1,s2⟩:=PW C di fr hp _ hfz hi;obtain⟨t1,_,t3⟩:=s2 p1;obtain⟨u1,u2,u3⟩:=aqh C di fr nq t hi (s1.2 p1);rw[het];exact⟨p2,u1,rfl,u2.trans t1,u3⟩
  ·have hfz:=asb C di fr hp hi p1;obtain⟨r1,r2,t,r3,r4⟩:=Zr C dj fr _ hp hfz.1 hj p2;obtain⟨u1,u2,u3⟩:=avk C di fr hp t hi p1;rw[r4,r3];exact⟨r1,u1,r2,u2,u3⟩
  ·have q:=ale C di fr hp hi p1;rw[q]at p2|-;have q2:(aJ C dj ⟨fr,hp⟩).hp=hp:=by
    rcases hj with hj|hj
    ·exact ale C dj fr hp hj p2
    ·exact((PW C dj fr hp hp (.refl _) hj).2 p2).2.1
   rw[q2];exact⟨p2,p1,rfl,rfl,q⟩
  ·have q:=((PW C di fr hp hp (.refl _) hi).2 p1).2.1;rw[q]at p2|-;rcases hj with hj|hj
   ·have q2:=ale C dj fr hp hj p2;rw[q2];exact⟨p2,p1,rfl,rfl,q⟩
   ·obtain⟨t,q2⟩:=avj C dj fr hp hj p2;obtain⟨u1,u2,u3⟩:=aqh C di fr hp t hi p1;rw[q2];exact⟨p2,u1,rfl,u2,u3⟩
 obtain⟨k1,k2,k3,k4,k5⟩:=key;have e2:aJ C di (DS.put ⟨fr,hp⟩ dj.dst (aJ C dj ⟨fr,hp⟩))=aJ C di ⟨fr,(aJ C dj ⟨fr,hp⟩).hp⟩:=by have:=FF C di (fr:=(DS.put ⟨fr,hp⟩ dj.dst (aJ C dj ⟨fr,hp⟩)).fr) (tf:=fr) (aJ C dj ⟨fr,hp⟩).hp (λn hn=>vX _ _ _ _ λt ht e=>a2 t ht (e▸hn));rw[<-this];cases dj.dst<;>rfl
 rw[iX,iX,e2];refine⟨k1,k2,_,⟨?_,λn=> ?_⟩,hx⟩
 ·rw[alo,alo,k5]
 ·by_cases h1:∃t,di.dst=some t/\n=t
  ·obtain⟨t,ht,rfl⟩:=h1;rw[vX _ _ _ n (λt' B5 e=>(a1 n ht).2 (by rw[B5,<-e]))];simp only[ht,DS.put,cw,if_true,k4]
  ·rw[vX (DS.put ⟨fr,hp⟩ dj.dst _) _ _ _ (λt ht e=>h1 ⟨t,ht,e⟩)];by_cases h2:∃t,dj.dst=some t/\n=t
   ·obtain⟨t,ht,rfl⟩:=h2;simp only[ht,DS.put,cw,if_true,k3]
   ·rw[vX _ _ _ _ (λt ht e=>h2 ⟨t,ht,e⟩),vX _ _ _ _ (λt ht e=>h2 ⟨t,ht,e⟩),vX _ _ _ _ (λt ht e=>h1 ⟨t,ht,e⟩)]
def Zs(C:jL)(md:Region.Mode)(ops:Array Oper)(look:Nat->Option ae)(K:DS->Prop):Nat->Array Bool->DS->Prop
 |0,listed,s=>Region.ready md ops listed=[]/\Cl K s
 |f+1,listed,s=>(Region.ready md ops listed=[]->Cl K s)/\∀i∈Region.ready md ops listed,∃d,look i=some d/\pK C d s (λs'=>Zs C md ops look K f (listed.setIfInBounds i true) s')
section
variable {C:jL} {md:Region.Mode} {ops:Array Oper} {look:Nat->Option ae} {K:DS->Prop}
theorem Zt:∀{f:Nat} {listed:Array Bool} {s s':DS},Eqv s s'->Zs C md ops look K f listed s->Zs C md ops look K f listed s'
 |0,_,_,_,e,h=>⟨h.1,h.2.eqv e⟩
 |f+1,_,_,_,e,h=>⟨λh0=>(h.1 h0).eqv e,λi hi=>by obtain⟨d,hd,hs⟩:=h.2 i hi;exact⟨d,hd,ag0 e (λ_ _ e' h'=>Zt e' h') hs⟩⟩
theorem acQ{gg:List (Nat×Nat)}(mG:∀j dj,look j=some dj->Ti gg dj=true){i:Nat}{di:ae}(hi:look i=some di){D:List Nat}(hiD:i∈D)(hD:∀j∈D,j≠i->∀oj,ops[j]? =some oj->∃e∈oj.after,Region.binds md e=true/\e.on∈D):∀(fuel:Nat) (listed:Array Bool) (s:DS),
 acM gg s->(∀j∈D,listed.getD j true=false)->
 (∀j dj,look j=some dj->j∉D->listed.getD j true=false->Zq gg di dj=true)->
 i∈Region.ready md ops listed->pK C di s (λs1=>Zs C md ops look K fuel (listed.setIfInBounds i true) s1)->Zs C md ops look K (fuel+1) listed s:=by
 intro fuel;induction fuel with
 |zero=>
  intro listed s _ _ _ hr H;refine⟨λh=>(by rw[h]at hr;cases hr),λj hj=> ?_⟩;by_cases hji:j=i
  ·subst hji;exact⟨di,hi,H⟩
  ·have:=ready_mono hj hji;rw[iX]at H;rw[H.2.1]at this;cases this
 |succ fuel ih=>
  intro listed s hJ hun aqj hr H;refine⟨λh=>(by rw[h]at hr;cases hr),λj hj=> ?_⟩;by_cases hji:j=i
  ·subst hji;exact⟨di,hi,H⟩
  ·obtain⟨avm,oj,hoj,mn⟩:=mem_ready.1 hj;have hjD:j∉D:=λhm=>by
    obtain⟨e,he,hb,heD⟩:=hD j hm hji oj hoj;have h1:=mn e he hb;have h0:=hun _ heD;rcases Nat.lt_or_ge e.on listed.size with h'|h'
    ·simp[h']at h0 h1;rw[h0]at h1;cases h1
    ·simp[Array.getElem?_eq_none h']at h1
   have H':=H;rw[iX]at H';obtain⟨dj,hdj,_⟩:=H'.2.2 j (ready_mono hj hji);have avn:=aqj j dj hdj hjD avm;have H2:pK C di s (λs1=>pK C dj s1 (λs2=>Zs C md ops look K fuel ((listed.setIfInBounds i true).setIfInBounds j true) s2)):=by refine P1 (λs1 h1=> ?_) H;obtain⟨d,hd,hs⟩:=h1.2 j (ready_mono hj hji);rw[hdj]at hd;injection hd with hd;subst hd;exact hs
   have H3:=acO avn hJ H2;rw[iX]at H3;refine⟨dj,hdj,(iX _ _ _ _).2 ⟨H3.1,?_⟩⟩;have hJ1:=PZ (C:=C) (mG j dj hdj) hJ H3.1;generalize s.put dj.dst (aJ C dj s)=s1 at H3 hJ1|-;have h1:=H3.2;refine ih (listed.setIfInBounds j true) s1 hJ1 (λk hk=> ?_) (λk dk hdk hkD avo=> ?_) (ready_mono hr (Ne.symm hji)) (P1 (λs2 h2=> ?_) h1)
   ·have hjk:j≠k:=λe=>hjD (by rw[e];exact hk);rw[getD_set_ne true hjk];exact hun k hk
   ·refine aqj k dk hdk hkD ?_;by_cases hjk:j=k
    ·subst hjk;exact avm
    ·rw[getD_set_ne true hjk]at avo;exact avo
   ·rw[Array.setIfInBounds_comm _ _ hji];obtain⟨s0,e0,h0⟩:=h2;exact Zt e0 h0
def Tj(md:Region.Mode)(ops:Array Oper)(i:Nat):List Nat->List Nat->List Nat
 |[],D=>D
 |j::r,D=>Tj md ops i r (match ops[j]? with
  |some oj=>if oj.after.any (λe=>Region.binds md e&&D.contains e.on)then j::D else D
  |none=>D)
theorem yW{i}:∀(l D:List Nat),i∈D->(∀j∈D,j≠i->∀oj,ops[j]? =some oj->∃e∈oj.after,Region.binds md e=true/\e.on∈D)->
 i∈Tj md ops i l D/\∀j∈Tj md ops i l D,j≠i->∀oj,ops[j]? =some oj->∃e∈oj.after,Region.binds md e=true/\e.on∈Tj md ops i l D
 |[],D,h1,h2=>⟨h1,h2⟩
 |j::r,D,h1,h2=>by
  unfold Tj;cases ho:ops[j]? with
  |none=>exact yW r D h1 h2
  |some oj=>
   by_cases hc:oj.after.any (λe=>Region.binds md e&&D.contains e.on)=true
   ·simp only[if_pos hc];refine yW r (j::D) (List.mem_cons_of_mem _ h1) λk hk hki ok lI=> ?_;rcases List.mem_cons.1 hk with rfl|hk
    ·rw[ho]at lI;injection lI with lI;subst lI;obtain⟨e,he,hb⟩:=Array.any_eq_true'.1 hc;simp only[Bool.and_eq_true,List.contains_eq_mem,decide_eq_true_eq]at hb;exact⟨e,he,hb.1,List.mem_cons_of_mem _ hb.2⟩
    ·obtain⟨e,he,hb,hD⟩:=h2 k hk hki ok lI;exact⟨e,he,hb,List.mem_cons_of_mem _ hD⟩
   ·simp only[if_neg hc];exact yW r D h1 h2
def LU(l:List (Nat×ae))(i:Nat):Option ae:=(l.find? (·.1==i)).map (·.2)
def aqk(gg:List (Nat×Nat))(md:Region.Mode)(ops:Array Oper)(all:List (Nat×ae))(listed:Array Bool)(i:Nat)(di:ae):Bool:=
 let D:=Tj md ops i (List.range ops.size) [i]
 D.all (λj=> !listed.getD j true)&&all.all λx=>D.contains x.1||listed.getD x.1 true||Zq gg di x.2
def alq(gg:List (Nat×Nat))(md:Region.Mode)(ops:Array Oper)(all:List (Nat×ae)):List (Nat×ae)->Array Bool->Bool
 |[],listed=>(Region.ready md ops listed).isEmpty
 |(i,d)::r,listed=>(Region.ready md ops listed).contains i&&aqk gg md ops all listed i d&&alq gg md ops all r (listed.setIfInBounds i true)
theorem KG{l}{i}{d}(h:LU l i=some d):(i,d)∈l:=by unfold LU at h;rw[Option.map_eq_some_iff]at h;obtain⟨x,hx,rfl⟩:=h;have h1:=List.find?_some hx;have h2:=List.mem_of_find?_eq_some hx;simp only[beq_iff_eq]at h1;rw[<-h1];exact h2
theorem Zu{i}{d}:∀{l:List (Nat×ae)},(l.map (·.1)).Nodup->(i,d)∈l->LU l i=some d
 |[],_,h=>by simp at h
 |x::l,hn,h=>by
  simp only[List.map_cons,List.nodup_cons]at hn;unfold LU;rw[List.find?_cons];rcases List.mem_cons.1 h with e|h
  ·subst e;simp
  ·have bw:(x.1==i)=false:=by refine beq_eq_false_iff_ne.2 λe=>hn.1 ?_;rw[e];exact List.mem_map.2 ⟨_,h,rfl⟩
   simp only[bw];exact Zu hn.2 h
theorem Zv{gg}{all:List (Nat×ae)}(hkp:all.all (λx=>Ti gg x.2)=true)(hn:(all.map (·.1)).Nodup):∀(l:List (Nat×ae)) (listed:Array Bool) (s:DS),(∀x∈l,x∈all)->alq gg md ops all l listed=true->acM gg s->lG C (l.map (·.2)) s K->Zs C md ops (LU all) K l.length listed s
 |[],_,s,_,hB,_,h=>⟨by simpa[alq]using hB,Cl.of h⟩
 |(i,d)::l,listed,s,hl,hB,hJ,h=>by
  have mG:∀j dj,LU all j=some dj->Ti gg dj=true:=λj dj hj=>by have:=List.all_eq_true.1 hkp _ (KG hj);exact this
  have h0:LU all i=some d:=Zu hn (hl _ (by simp));simp only[alq,Bool.and_eq_true]at hB;obtain⟨⟨hr,hf⟩,hB'⟩:=hB;simp only[aqk,Bool.and_eq_true,List.all_eq_true,Bool.not_eq_true',Bool.or_eq_true,List.contains_eq_mem,decide_eq_true_eq]at hf;obtain⟨d1,d2⟩:=yW (md:=md) (ops:=ops) (i:=i) (List.range ops.size) [i] (by simp) (λj hj hji=>by simp at hj;exact absurd hj hji);have h':pK C d s (λs1=>lG C (l.map (·.2)) s1 K):=h;rw[iX]at h';have hJ1:=PZ (C:=C) (mG i d h0) hJ h'.1;refine acQ mG h0 d1 d2 l.length listed s hJ hf.1 (λj dj hdj hjD hun=> ?_) (by simpa using hr) ((iX _ _ _ _).2 ⟨h'.1,?_⟩)
  ·rcases hf.2 _ (KG hdj)with(h1|h1)|h1
   ·exact absurd h1 hjD
   ·rw[hun]at h1;cases h1
   ·exact h1
  ·exact Zv hkp hn l _ _ (λx hx=>hl x (List.mem_cons_of_mem _ hx)) hB' hJ1 h'.2
end
section
variable {P:Program} {K F0:Nat->Prop} {σ0:Nat->Option Nat} {hp0:List ak} {N:Nat} {w0:World} {C:jL}
theorem uZ.eqv [Inhabited Env]{s s'}{a}{w}(h:uZ K N F0 σ0 hp0 w0 s a w)(e:Eqv s' s):uZ K N F0 σ0 hp0 w0 s' a w:=by obtain⟨K',F,σ,C8,hs,hf,hN,pT,yU,yV⟩:=h;obtain⟨e1,e2⟩:=e;refine⟨K',F,σ,C8,by rw[e1];exact hs,λn=>by rw[e2,e1];exact hf n,hN,pT,yU,by rw[e1];exact yV⟩
theorem uZ.drew [Inhabited Env]{s}{a}{w:World}(h:uZ K N F0 σ0 hp0 w0 s a w):uZ K N F0 σ0 hp0 w0 s a w.drew:=by obtain⟨K',F,σ,C8,hs,hf,hN,pT,yU,yV⟩:=h;obtain⟨h1,h2,h3⟩:=hs.ext (w':=w.drew) (F':=F) rfl rfl rfl (Nat.le_refl _) (λ_ _=>rfl) (λ_ h=>h) (λ_ h=> .inl h) hs.fb;exact⟨K',F,σ,C8,h1,λn=>(hf n).mono h3,hN,pT.move h2,yU.trans (h2.weak C8),yV.trans h3⟩
def mAt(P:Program)(N:Nat)(ops:Array Oper):List (Nat×ae)->Bool
 |[]=>true
 |(i,d)::r=>(match ops[i]? with|some o=>Ig P N ops o d|none=>false)&&mAt P N ops r
theorem aeW{ops:Array Oper}{i}{d}:∀{l:List (Nat×ae)},mAt P N ops l=true->(i,d)∈l->∀o,ops[i]? =some o->Ig P N ops o d=true
 |[],_,h=>by simp at h
 |x::l,hm,h=>by
  intro o ho;simp only[mAt,Bool.and_eq_true]at hm;rcases List.mem_cons.1 h with e|h
  ·subst e;have:=hm.1;simpa only[ho]using this
  ·exact aeW hm.2 h o ho
def P3(P:Program)(N:Nat)(ops:Array Oper)(gg:List (Nat×Nat))(l:List (Nat×ae)):Bool:=
 P.follows .mixedOrders&&decide ((l.map (·.1)).Nodup)&&(l.length==ops.size)&&mAt P N ops l&&l.all (λx=>Ti gg x.2)&&alq gg .any ops l l (Array.replicate ops.size false)
def Nt:Nat->List ae->List (Nat×ae)
 |_,[]=>[]
 |k,d::r=>(k,d)::Nt (k+1) r
theorem Bp:∀(l:List ae) (k:Nat),(Nt k l).map (·.2)=l
 |[],_=>rfl
 |d::r,k=>by simp[Nt,Bp r (k+1)]
end
end Go.Nk
set_option linter.all false
namespace Go.Nk
open Go.RowKit
def Fw(ro:Option Nat):Fence:={Fence.wide with round:=ro}
def B6(o:Oper):Bool:=match o.op with| .defer _=>false|_=>true
def kW:Code->Bool
 | .region _ ops _=>ops.all B6
 | .seq a b=>kW a&&kW b
 | .cond _ a b=>kW a&&kW b
 | .block _ c=>kW c
 | .loop c=>kW c
 | .scope c=>kW c
 | .rangeFunc .. =>false
 |_=>true
theorem aoI{ro}{n}{P}{f}{args:Array Value}{w}{R:Ending->World->Prop}(h:Calls P f args w R):CallsIn (Fw ro) n P f args w R:=
 show CallsIn Fence.wide n P f args w R from callsIn_wide.2 h
theorem ash{ro}{n}{P}{row:String}{args:Array Value}{w}{R}(h:_root_.Go.Rows P row args w R):RowsIn (Fw ro) n P row args w R:=
 show RowsIn Fence.wide n P row args w R fromλc cs _=>let⟨v,w',r,s⟩:=h c cs;⟨v,w',r,stepsIn_wide.2 s⟩
theorem aoJ{P}{o:Oper}{a}{w}{Kn}{Q:Exit->Act->World->Prop}{ro}{n}(hd:ro=none\/B6 o=true)(h:o.wp P a w Kn Q):o.wpIn (Fw ro) n P a w Kn Q:=by
 unfold Oper.wp at h;refine⟨λ_ _=>trivial,?_⟩;have e:o.semAt (Fw ro).round a.eval=execOp a.eval o:=by
  rcases hd with rfl|hd
  ·rfl
  ·refine Oper.semAt_eq _ _ _ λc hc=> ?_;simp[B6,hc]at hd
 rw[e];generalize (execOp a.eval o).run P w=r at h|-;cases r with
 |ok x w'=>
  cases x with
  |value v=>exact h
  |skip=>exact h
  |defer d=>exact h
  |enter f args=>
   rw[Oper.upon_enter]at h;rw[Oper.uponIn_enter];exact⟨λhh=>by simp[Fw,Fence.wide]at hh,aoI (h.mono λe w'' hr=>by cases e<;>exact hr)⟩
  |row row args=>
   rw[Oper.upon_row]at h;rw[Oper.uponIn_row];exact⟨λhh=>by simp[Fw,Fence.wide]at hh,ash h⟩
  |_=>exact h.elim
 |halt x w'=>
  cases x with
  |panic v=>exact h
  |_=>exact h.elim
theorem oH{P:Program}{b:Frame}{a:Act}{k:List Item}{cs:List Frame}{w:World}{c:Code}:step P (lone (b.atR a (.code (.scope c)::k)) cs w)= .next (lone (b.atR a (.code c:: .inScope c::k)) cs w):=
 step_lone_go (by simp[stepG,stepG.exec,Frame.atR])
theorem RY{P:Program}{b:Frame}{a:Act}{k:List Item}{cs:List Frame}{w:World}{c:Code}:step P (lone (b.atR a (.inScope c::k)) cs w)= .next (lone (b.atR a k) cs w):=
 step_lone_go (by simp[stepG,stepG.exec,Frame.atR])
theorem C9{F:Fence}{n}{P}{c:Code}{Q:Exit->Act->World->Prop}{a}{w}(h:c.wpIn F n P (Exit.noGoto Q) a w):(Code.scope c).wpIn F n P Q a w:=by
 intro b k cs hro hb hr;have h0:(lone (b.atR a (.code (.scope c)::k)) cs w).fenced P F:=fenced_calm hb hr rfl;obtain⟨e,a₁,w₁,hq,ag1⟩:=h b (.inScope c::k) cs hro hb hr;have h1:(lone (b.atR a₁ (.inScope c::k)) cs w₁).fenced P F:=fenced_calm hb hr rfl;cases e with
 |normal=>exact⟨.normal,a₁,w₁,hq,.head h0 oH (StepsIn.trans ag1 (.one h1 RY))⟩
 |exit id=>
  refine⟨.exit id,a₁,w₁,hq,λk' hk=> .head h0 oH (ag1.1 k' (by simp[exitTo,hk])),λqB hk=> ?_⟩;obtain⟨k₁,h2,h3⟩:=ag1.2 qB (by simp[exitTo,hk]);exact⟨k₁,h2,.head h0 oH h3⟩
 |goto l=>exact hq.elim
 |ret=>exact⟨_,a₁,w₁,hq,.of_steps (.one h0 oH) ag1⟩
 |panic ch=>exact⟨_,a₁,w₁,hq,.of_steps (.one h0 oH) ag1⟩
 |outgrown=>exact⟨_,a₁,w₁,hq,.of_steps (.one h0 oH) ag1⟩
section
variable {P:Program} {K F0:Nat->Prop} {σ0:Nat->Option Nat} {hp0:List ak} {N:Nat} {w0:World} {C:jL}
theorem LV [Inhabited Env](hC:C.ok P){ro}{n}{ops:Array Oper}{Q:Exit->Act->World->Prop}{Kd}(hK:∀s' a' w',uZ K N F0 σ0 hp0 w0 s' a' w'->Kd s'->Q .normal a' w'):∀{l:List Oper} {dl:List ae} {s:DS} {a:Act} {w:World},
 (ro=none\/l.all B6=true)->wU P N ops l dl=true->uZ K N F0 σ0 hp0 w0 s a w->lG C dl s Kd->wpListIn (Fw ro) n P ops Q l a w
 |[],[],s,a,w,_,_,hc,h=>hK s a w hc h
 |o::l,d::dl,s,a,w,hp,hm,hc,h=>by
  simp only[wU,Bool.and_eq_true]at hm;simp only[List.all_cons,Bool.and_eq_true]at hp;have:=P4 hC hm.1 hc h (Kn:=wpListIn (Fw ro) n P ops Q l) (Q:=Q) (λs' a' w' jg h'=>LV hC hK (hp.imp id (·.2)) hm.2 jg h');unfold wpListIn;split at this
  ·rename_i hw;rw[if_pos hw];exact aoJ (hp.imp id (·.1)) this
  ·rename_i hw;rw[if_neg hw];exact⟨λ_ _=>trivial,this⟩
 |[],_::_,_,_,_,_,hm,_,_=>by simp[wU]at hm
 |_::_,[],_,_,_,_,hm,_,_=>by simp[wU]at hm
theorem LW [Inhabited Env](hC:C.ok P){ro}{n}{md:Region.Mode}{ops:Array Oper}(hp:ro=none\/ops.all B6=true){all}(hm:mAt P N ops all=true){Q:Exit->Act->World->Prop}{Kd}(hK:∀s' a' w',uZ K N F0 σ0 hp0 w0 s' a' w'->Kd s'->Q .normal a' w'):
 ∀(f:Nat) (listed:Array Bool) (s:DS) (a:Act) (w:World),uZ K N F0 σ0 hp0 w0 s a w->Zs C md ops (LU all) Kd f listed s->wpAnyIn (Fw ro) n P md ops Q f listed a w
 |0,listed,s,a,w,hc,h=>⟨h.1,let⟨s0,e,hk⟩:=h.2;hK s0 a w (hc.eqv e) hk⟩
 |f+1,listed,s,a,w,hc,h=>by
  refine⟨λh0=>let⟨s0,e,hk⟩:=h.1 h0;hK s0 a w (hc.eqv e) hk,λi hi=> ?_⟩;obtain⟨d,hd,hs⟩:=h.2 i hi;obtain⟨_,o,ho,_⟩:=mem_ready.1 hi;have hmo:=aeW hm (KG hd) o ho;unfold wpOpIn;simp only[ho];have hpo:=hp.imp id λh=>by have:=Array.all_eq_true.1 h i (Array.getElem?_eq_some_iff.1 ho).1;rwa[(Array.getElem?_eq_some_iff.1 ho).2]at this
  have:=P4 hC hmo hc hs (Kn:=wpAnyIn (Fw ro) n P md ops Q f (listed.setIfInBounds i true)) (Q:=Q) (λs' a' w' jg h'=>LW hC hp hm hK f _ s' a' w' jg h');split at this
  ·rename_i hw;rw[if_pos hw];exact aoJ hpo this
  ·rename_i hw;rw[if_neg hw];exact⟨λ_ _=>trivial,this⟩
theorem nk [Inhabited Env](hC:C.ok P){ro}{n}{id}{ops:Array Oper}(hp:ro=none\/ops.all B6=true){gg}{l:List (Nat×ae)}(hm:P3 P N ops gg l=true)
 {Q:Exit->Act->World->Prop} {Kd} (hK:∀s' a' w',uZ K N F0 σ0 hp0 w0 s' a' w'->Kd s'->Q .normal a' w') {s} {a} {w} (hc:uZ K N F0 σ0 hp0 w0 s a w) (hJ:acM gg s) (h:lG C (l.map (·.2)) s Kd):
 (Code.region id ops true).wpIn (Fw ro) n P Q a w:=by
 simp only[P3,Bool.and_eq_true,decide_eq_true_eq,beq_iff_eq]at hm;obtain⟨⟨⟨⟨⟨ayW,hn⟩,hlen⟩,hmo⟩,hkp⟩,ayX⟩:=hm;refine wpIn_region_any ayW ?_;have:=LW (ro:=ro) (n:=n) hC hp hmo hK l.length (Array.replicate ops.size false) s a w.drew hc.drew (Zv hkp hn l _ s (λ_ h=>h) ayX hJ h);rw[hlen]at this;exact this
theorem bF.turn [Inhabited Env]{K K' F F'}{σ}{hp}{w w':World}(hs:bF K F σ hp w)(size:w.heap.size<=w'.heap.size)(Ud:∀b,F b->w'.heap[b]? =w.heap[b]?)(heap:∀b,b<w.heap.size->¬K b->w'.heap[b]? =w.heap[b]?)
 (hF:∀b,F b->F' b) (newF:∀b,F' b->F b\/K b\/w.heap.size<=b) (ayY:∀b,K' b->K b\/w.heap.size<=b) (fb:∀b,F' b->b<w'.heap.size) (kb:∀b,K' b->b<w'.heap.size):
 bF K' F' σ hp w'/\HM F σ hp w F' σ hp w':=by
 have same:∀(h:Nat) (o:ak) (g:Nat),hp[h]? =some o->o.k≠ .dead->σ h=some g->w'.heap[g]? =w.heap[g]? :=by
  intro h o g ho hd hg;by_cases hm:o.k.mut
  ·exact heap g (hs.wV ho hd hg) (hs.acR ho hm hg).2
  ·exact Ud g (hs.alr ho (als _ hd hm) hg)
 have hm:HM F σ hp w F' σ hp w':=⟨hF,Ud,Nat.le_refl _,λh o ho=>⟨o,ho,Nat.le_refl _,λhd _=>⟨hd,rfl,rfl,λg hg=>P5 (same h o g ho hd hg)⟩⟩⟩;refine⟨⟨λh o ho=> ?_,hs.inj,fb,kb,hs.mf.mono hm.bS hm.mono⟩,hm⟩;have old:=hs.obj _ _ ho;have nF:∀g,g<w.heap.size->¬F g->¬K g->¬F' g:=λg hl h1 h2 hF=>(newF g hF).elim h1 (λh=>h.elim h2 (λh=>by omega));have nK:∀g,g<w.heap.size->¬K g->¬K' g:=λg hl h1 hk=>(ayY g hk).elim h1 (λh=>by omega);unfold fT at old|-;split
 ·trivial
 ·rename_i fE;rw[fE]at old;dsimp only at old;rcases old with⟨h0,h1⟩|⟨g,hg,h1,h2,hb⟩
  ·exact .inl ⟨h0,h1⟩
  ·exact .inr ⟨g,hg,nF g hb.lt h1 h2,nK g hb.lt h2,hb.mono (same h o g ho (by rw[fE];simp) hg) λd v h=>⟨h.1.mono hm.mono hm.bS,h.2⟩⟩
 ·rename_i fE;rw[fE]at old;dsimp only at old;rcases old with⟨h0,h1⟩|⟨g,hg,h1,hb⟩
  ·exact .inl ⟨h0,h1⟩
  ·exact .inr ⟨g,hg,hF _ h1,hb.mono (same h o g ho (by rw[fE];simp) hg) λd v h=>⟨h.1.mono hm.mono hm.bS,h.2⟩⟩
 ·rename_i fE;rw[fE]at old;dsimp only at old;obtain⟨g,hg,h1,h2,hb⟩:=old;exact⟨g,hg,nF g hb.lt h1 h2,nK g hb.lt h2,hb.mono (same h o g ho (by rw[fE];simp) hg) λd v h=>h.mono hm⟩
 ·rename_i fE;rw[fE]at old;dsimp only at old;obtain⟨h0,g,hg,h1,h2,hb⟩:=old;exact⟨h0,g,hg,nF g hb.lt h1 h2,nK g hb.lt h2,hb.mono (same h o g ho (by rw[fE];simp) hg) λd v h=>⟨h.1.mono hm.mono hm.bS,h.2⟩⟩
theorem iw.put{K F}{w:World}{L}{o:Obj}(hK:¬K L)(hF:¬F L):iw K F w F (w.putObj L o):=
 ⟨rfl,rfl,rfl,by simp,λb hb=>World.putObj_heap_other (λe=>hK (e▸hb)),λb hb=>World.putObj_heap_other (λe=>hF (e▸hb)),λ_ h=>h,λ_ h=> .inl h⟩
theorem Marks.weak{K0 K K' F}{w}(hK:∀b,K b->K' b):∀{ds:List Deferred},Marks K0 K F w ds->Marks K0 K' F w ds
 |[],_=>trivial
 |d::ds,h=>by obtain⟨⟨D,h1,h2,h3⟩,h4⟩:=h;exact⟨⟨D,h1,hK D h2,h3⟩,h4.weak hK⟩
theorem Marks.put{K0 K F}{w:World}{D}{o:Obj}:∀{ds:List Deferred},Marks K0 K F w ds->({target:= .collected D,args:= #[]}:Deferred)∉ds->Marks K0 K F (w.putObj D o) ds
 |[],_,_=>trivial
 |d::ds,h,hn=>by obtain⟨⟨D',h1,h2,h3,h4,h5⟩,h6⟩:=h;refine⟨⟨D',h1,h2,h3,(World.putObj_heap_other λe=> ?_).trans h4,h5⟩,h6.put λh=>hn (List.mem_cons_of_mem _ h)⟩;subst e;exact hn (h1▸List.mem_cons_self)
theorem Marks.mem{K0 K F}{w}:∀{ds:List Deferred},Marks K0 K F w ds->∀d∈ds,∃D,d={target:= .collected D,args:= #[]}/\K D
 |[],_,d,hd=>by cases hd
 |d::ds,h,e,he=>by
  rcases List.mem_cons.1 he with rfl|he
  ·exact⟨h.1.choose,h.1.choose_spec.1,h.1.choose_spec.2.1⟩
  ·exact h.2.mem e he
theorem Marks.at{K0 K F}{w:World}:∀{ds:List Deferred},Marks K0 K F w ds->∀d∈ds,∃D,d={target:= .collected D,args:= #[]}/\w.heap[D]? =some (.deferred (some []))
 |[],_,d,hd=>by cases hd
 |d::ds,h,e,he=>by
  rcases List.mem_cons.1 he with rfl|he
  ·exact⟨h.1.choose,h.1.choose_spec.1,h.1.choose_spec.2.2.2.1⟩
  ·exact h.2.at e he
theorem Zw(p)(d)(fr):∀(l:List (Nat×DV)),(∀x∈l,x.1≠p)->∀n,get n (l++(p,d)::fr)=get n ((p,d)::(l++fr))
 |[],_,n=>rfl
 |(q,e)::l,h,n=>by
  have ih:=Zw p d fr l (λx hx=>h x (List.mem_cons_of_mem _ hx)) n;have hq:=h (q,e) List.mem_cons_self;simp only[List.cons_append,cw,ih];by_cases h1:n=q
  ·subst h1;simp[hq]
  ·simp[h1]
theorem P6{R}:∀(ps:List Nat) (x:List DV) (vs:List Value) (tm:Array Value) (fr:List (Nat×DV)),ps.Nodup->dS R x vs->x.length=ps.length->(∀p∈ps,p<tm.size)->
 (∀n,R (get n fr) (tm.getD n undef))->∀n,R (get n (ps.zip x++fr)) (((ps.zip vs).foldl (λt (y:Nat×Value)=>t.setIfInBounds y.1 y.2) tm).getD n undef)
 |[],x,vs,tm,fr,_,_,hl,_,h,n=>by simpa using h n
 |p::ps,[],vs,tm,fr,_,_,hl,_,_,n=>by simp at hl
 |p::ps,d::x,vs,tm,fr,hn,hv,hl,hp,h,n=>by
  obtain⟨v,vs',rfl,h0,h1⟩:=hv.cons;rw[List.nodup_cons]at hn;have:=P6 ps x vs' (tm.setIfInBounds p v) ((p,d)::fr) hn.2 h1 (by simpa using hl) (λq hq=>by simpa using hp q (List.mem_cons_of_mem _ hq)) (λn=>by
   rw[cw];have RH:=hp p List.mem_cons_self;by_cases e:n=p
   ·subst e;rw[if_pos rfl];simpa[Array.getD,RH]using h0
   ·rw[if_neg e];have e2:(tm.setIfInBounds p v).getD n undef=tm.getD n undef:=by simp[Array.getElem?_setIfInBounds_ne (Ne.symm e)]
    rw[e2];exact h n) n
  rw[Zw p d fr (ps.zip x) (λy hy=>by have:=(List.of_mem_zip hy).1;intro e;rw[e]at this;exact hn.1 this)]at this
  simpa using this
end
end Go.Nk
set_option linter.all false
namespace Go.Nk
open Go.RowKit
section
variable {P:Program} {K F:Nat->Prop} {σ:Nat->Option Nat} {hp:List ak} {w:World}
theorem zo{F}{σ}{hp}{w}:HM F none_ [] w F σ hp w:=
 ⟨λ_ h=>h,λ_ _=>rfl,Nat.zero_le _,λh o ho=>by simp at ho⟩
theorem Ih{F}{σ}{hp}{w}{d:DV}{v}(h:aB F σ hp w d v)(hd:d.aY=true):aB F none_ [] w d v:=by
 cases h with
 |aN h=>exact .aN h
 |_=>simp[DV.aY]at hd
theorem bF.kill [Inhabited Env](hs:bF K F σ hp w){h g}{o:ak}(ho:hp[h]? =some o)(hk:o.k.mut)(hg:σ h=some g):
 bF (λb=>K b\/b=g) F σ (hp.set h {o with k:= .dead}) w/\HM F σ hp w F σ (hp.set h {o with k:= .dead}) w:=by
 have fM:=ck ho;have lH:∀k:Nat,(hp.set h {o with k:= .dead})[k]? =if k=h then some {o with k:= .dead}else hp[k]? :=by
  intro k;by_cases e:k=h
  ·subst e;rw[if_pos rfl];simp[fM]
  ·rw[if_neg e,List.getElem?_set_ne (Ne.symm e)]
 generalize asi:hp.set h {o with k:= .dead}=gh at*;have hl2:gh.length=hp.length:=by rw[<-asi];simp
 have hd:=P7 hk;have hm:HM F σ hp w F σ gh w:=by
  refine⟨λ_ h=>h,λ_ _=>rfl,by omega,λk o' ey=> ?_⟩;rw[lH];by_cases e:k=h
  ·subst e;rw[ho]at ey;injection ey with ey;subst ey;rw[if_pos rfl];exact⟨_,rfl,Nat.le_refl _,λhd=>absurd rfl hd⟩
  ·rw[if_neg e];exact⟨o',ey,Nat.le_refl _,λhd _=>⟨hd,rfl,rfl,λ_ _=>rfl⟩⟩
 refine⟨⟨λk o' ey=> ?_,λk1 k2 o1 o2 g' e1 m1 e2 m2 s1 s2=> ?_,hs.fb,λb hb=>hb.elim (hs.kb b) λe=>e▸hs.wV ho hd hg,hs.mf⟩,hm⟩
 ·rw[lH]at ey;by_cases e:k=h
  ·rw[if_pos e]at ey;injection ey with ey;subst ey;unfold fT;trivial
  ·rw[if_neg e]at ey;have old:=hs.obj k o' ey;have ne:∀g',o'.k.mut->σ k=some g'->g'≠g:=λg' hm kz e2=>e (hs.inj k h o' o g ey hm ho hk (e2▸kz) hg);unfold fT at old|-;split
   ·trivial
   ·rename_i fE;rw[fE]at old;dsimp only at old;rcases old with h0|⟨g',h1,h2,h3,h4⟩
    ·exact .inl h0
    ·exact .inr ⟨g',h1,h2,λhh=>hh.elim h3 (ne g' (.inl fE) h1),h4⟩
   ·rename_i fE;rw[fE]at old;dsimp only at old;exact old
   ·rename_i fE;rw[fE]at old;dsimp only at old;obtain⟨g',h1,h2,h3,h4⟩:=old;exact⟨g',h1,h2,λhh=>hh.elim h3 (ne g' (mA fE) h1),h4.mono rfl λd v hr=>hr.mono hm⟩
   ·rename_i fE;rw[fE]at old;dsimp only at old;obtain⟨h0,g',h1,h2,h3,h4⟩:=old;exact⟨h0,g',h1,h2,λhh=>hh.elim h3 (ne g' (.inr (.inr ⟨_,fE⟩)) h1),h4⟩
 ·rw[lH]at e1 e2;by_cases q1:k1=h
  ·rw[if_pos q1]at e1;injection e1 with e1;subst e1;rcases m1 with m1|m1|⟨_,m1⟩<;>cases m1
  by_cases q2:k2=h
  ·rw[if_pos q2]at e2;injection e2 with e2;subst e2;rcases m2 with m2|m2|⟨_,m2⟩<;>cases m2
  rw[if_neg q1]at e1;rw[if_neg q2]at e2;exact hs.inj k1 k2 o1 o2 g' e1 m1 e2 m2 s1 s2
def aoK(F:Nat->Prop)(σ:Nat->Option Nat)(hp:List ak)(w:World)(d:DV)(v:Value):Prop:=
 (d.aY=true->aB F none_ [] w d v)/\∀h L i j,d= .ptr h L i j->(∃o,hp[h]? =some o)->aB F σ hp w d v
theorem aoL{d}{v}(h:aB F σ hp w d v):aoK F σ hp w d v:=⟨Ih h,λ_ _ _ _ _ _=>h⟩
theorem alu{d}{v}(h:aB F σ hp w d v)(m):aoK F σ ((hp.take m).map (ak.cut m)) w d v:=by
 refine⟨Ih h,?_⟩
 rintro k L i j rfl ⟨o,ho⟩
 have:=h.asj m;have hl:=(yX ho).1;have e:(DV.ptr k L i j).cut m= .ptr k L i j:=by simp[DV.cut,DV.rR,hl]
 rwa[e]at this
theorem P8 [Inhabited Env](hs:bF K F σ hp w):∀{caps:List DV} {cv:List Value},dS (aoK F σ hp w) caps cv->(gj hp caps).1->
 ∃(B:Nat->Prop) (σ':Nat->Option Nat),(∀b,B b->b<w.heap.size/\¬F b/\¬K b)/\bF (λb=>K b\/B b) F σ (gj hp caps).2.2 w/\HM F σ hp w F σ (gj hp caps).2.2 w/\
  bF (λb=>b<w.heap.size/\¬B b) F σ' (jy (gj hp caps).2.1).2 w/\dS (aB F σ' (jy (gj hp caps).2.1).2 w) (jy (gj hp caps).2.1).1 cv
 |[],cv,hv,_=>by refine⟨λ_=>False,none_,λb hb=>hb.elim,hs.weak λb hb=>hb.elim id False.elim,.refl _ _ _ _,⟨λh o ho=>by simp[gj,jy]at ho,λh h' o o' g e1=>by simp[gj,jy]at e1,hs.fb,λb hb=>hb.1,hs.mf⟩,?_⟩;exact⟨hv.1,λj d hd=>by simp[gj,jy]at hd⟩
 |d::r,cv,hv,hc=>by
  obtain⟨v,cv',rfl,h0,h1⟩:=hv.cons;by_cases hd:∃h L i j,d= .ptr h L i j
  ·obtain⟨h,L,i,j,rfl⟩:=hd;unfold gj at hc|-;cases ho:hp[h]? with
   |none=>simp[ho]at hc
   |some o=>
    simp only[ho]at hc|-;obtain⟨hk,hl,rfl,rfl,rfl,him,hr⟩:=hc;have hvr:=h0.2 h 1 0 0 rfl ⟨o,ho⟩;obtain⟨_,hx⟩:=hvr.B7;obtain⟨_,hx⟩:=hx o ho;obtain⟨g,hg,hvv⟩:=hx (by rw[hk];simp) hl;have old:=hs.obj h o ho;unfold fT at old;rw[hk]at old;dsimp only at old;obtain⟨g',kz,nF,nK,c,ty,e1,e2,e3,e4⟩:=old;rw[hg]at kz;injection kz with kz;subst kz;have ayZ:=hs.wV ho (by rw[hk];simp) hg;obtain⟨k1,k2⟩:=hs.kill ho (mA hk) hg;have pJ:o.es[0]? =some (o.es.getD 0 []):=by
     cases he:o.es with
     |nil=>simp[he]at hl
     |cons x y=>simp
    have hz:=e3 0 _ pJ;generalize hrw:o.es.getD 0 []=row at*;have z6:bF (λb=>b<w.heap.size/\¬b=g) F (λk=>if k=0 then some g else none) [⟨.loc,row.length,[row]⟩] w:=by
     refine⟨λk o' ey=> ?_,λk1 k2 o1 o2 g' a1 m1 a2 m2 s1 s2=> ?_,hs.fb,λb hb=>hb.1,hs.mf⟩
     ·have z9:k=0:=by
       rcases Nat.eq_zero_or_pos k with e|e
       ·exact e
       ·rw[List.getElem?_eq_none (by simp;omega)]at ey;cases ey
      subst z9;simp only[List.getElem?_cons_zero,Option.some.injEq]at ey;subst ey;unfold fT;dsimp only;refine⟨g,if_pos rfl,nF,λhh=>hh.2 rfl,c,ty,e1,?_,λi e he=> ?_,λi j d hd=> ?_⟩
      ·rw[hl,Nat.one_mul]at e2;simpa[hz]using e2
      ·have:e=row:=by
        rcases Nat.eq_zero_or_pos i with q|q
        ·subst q;simpa using he.symm
        ·rw[List.getElem?_eq_none (by simp;omega)]at he;cases he
       rw[this]
      ·have hi0:i=0:=by
        rcases Nat.eq_zero_or_pos i with e|e
        ·exact e
        ·unfold cellAt at hd;rw[List.getElem?_eq_none (by simp;omega)]at hd;cases hd
       subst hi0;have oF:row[j]? =some d:=by simpa[cellAt]using hd
       obtain⟨u,hu,hru⟩:=e4 0 j d (by simp[cellAt,pJ,oF]);refine⟨u,by rw[Nat.zero_mul]at hu|-;exact hu,(Ih hru (him d (List.mem_of_getElem? oF))).mono zo⟩
     ·have z:∀{k:Nat} {o':ak},[(⟨.loc,row.length,[row]⟩:ak)][k]? =some o'->k=0:=λ{k o'} hh=>by
       rcases Nat.eq_zero_or_pos k with e|e
       ·exact e
       ·rw[List.getElem?_eq_none (by simp;omega)]at hh;cases hh
      rw[z a1,z a2]
    refine⟨λb=>b=g,_,λb hb=>hb▸⟨ayZ,nF,nK⟩,k1,k2,by simpa only[jy]using z6,?_⟩;simp only[jy];refine .ic ?_ ⟨h1.1,λj d hd=> ?_⟩
    ·rw[hvv];refine .ptr 0 1 0 0 _ rfl (by simp) λo' ey=> ?_;simp only[List.getElem?_cons_zero,Option.some.injEq]at ey;subst ey;exact⟨by simp,λ_ _=>⟨g,if_pos rfl,by simp⟩⟩
    ·obtain⟨u,hu,hru⟩:=h1.2 j d hd;exact⟨u,hu,(hru.1 (List.all_eq_true.1 hr d (List.mem_of_getElem? hd))).mono zo⟩
  ·have e1:gj hp (d::r)=(d.aY=true/\(gj hp r).1,d::(gj hp r).2.1,(gj hp r).2.2):=by cases d<;>first|rfl|exact absurd ⟨_,_,_,_,rfl⟩ hd
   rw[e1]at hc|-;have e2:∀x:List DV,jy (d::x)=(d::(jy x).1,(jy x).2):=λx=>by have:=hc.1;cases d<;>first|rfl|simp[DV.aY]at this
   obtain⟨B,σ',h2,h3,h4,h5,h6⟩:=P8 hs h1 hc.2;dsimp only;rw[e2];exact⟨B,σ',h2,h3,h4,h5,.ic ((h0.1 hc.1).mono zo) h6⟩
end
end Go.Nk
set_option linter.all false
namespace Go.Nk
open Go.RowKit
section
variable {P:Program} {K F0:Nat->Prop} {σ0:Nat->Option Nat} {hp0:List ak} {N:Nat} {w0:World} {C:jL}
def eE(P:Program)(N:Nat):Code->au->Bool
 | .skip,.skip=>true
 | .region _ ops draw,.ops alv dl=>draw==alv&&(if draw then P3 P N ops [] (Nt 0 dl)else wU P N ops ops.toList dl)
 | .region _ ops draw,.MQ l=>draw&&P3 P N ops [] l
 | .region _ ops draw,.MR gg l=>draw&&P3 P N ops gg l
 | .seq a b,.seq a' b'=>eE P N a a'&&eE P N b b'
 | .cond c a b,.cond c' a' b'=>cF c c'&&eE P N a a'&&eE P N b b'
 | .block id c,.block id' c'=>id==id'&&eE P N c c'
 | .loop c,.loop _ _ c'=>eE P N c c'
 |c,.cut _ _ c'=>eE P N c c'
 |c,.H7 _ _ _ c'=>eE P N c c'
 |c,.rsv c'=>eE P N c c'
 | .scope c,.scope c'=>eE P N c c'
 | .rangeFunc f qs Ib c,.qu _ _ g ps Zx c'=>cF f g&&qs.toList==ps&&decide ps.Nodup&&ps.all (λp=>decide (p<N))&&kW Ib&&kW c&&eE P N Ib Zx&&eE P N c c'
 | .label _,.skip=>true
 |_,.bad=>true
 | .exit id,.exit id'=>id==id'
 | .ret,.ret=>true
 |_,_=>false
def QQ [Inhabited Env](K:Nat->Prop)(N:Nat)(F0:Nat->Prop)(σ0:Nat->Option Nat)(hp0:List ak)(w0:World)(Q:cq->DS->Prop):Exit->Act->World->Prop
 | .normal,a,w=>∃s,uZ K N F0 σ0 hp0 w0 s a w/\Q .normal s
 | .exit id,a,w=>∃s,uZ K N F0 σ0 hp0 w0 s a w/\Q (.exit id) s
 | .ret,a,w=>∃s,uZ K N F0 σ0 hp0 w0 s a w/\Q .ret s
 |_,_,_=>False
def JR [Inhabited Env](K F1:Nat->Prop)(σ1:Nat->Option Nat)(nq:List ak)(w1:World)(D L:Nat)(rec:LoopState->Option Code->Loop)(I:Nat->List ak->Prop)(X:Code->List ak->Prop):Option Nat->(Nat->Prop)->(Nat->Prop)->World->Prop:=λk F B W=>
 W.heap[D]? =some (.deferred (some []))/\¬F D/\¬F L/\¬B D/\¬B L/\(∀b,K b->¬B b)/\
 ∃σ hp,bF (λb=>(K b\/b=D\/b=L)\/B b) F σ hp W/\iw K F1 w1 F W/\HM F1 σ1 nq w1 F σ hp W/\
  match k with
  |some k=>W.heap[L]? =some (.loop (rec .ready none))/\I k hp
  |none=>∃jc,W.heap[L]? =some (.loop (rec .done (some jc)))/\X jc hp
theorem JR.avr [Inhabited Env]{K F1}{σ1}{nq}{w1}{D L}{rec:LoopState->Option Code->Loop}{I}{X}:wW (JR K F1 σ1 nq w1 D L rec I X):=by
 intro k F B W F' B' W' h st;obtain⟨hD,fD,fL,bD,bL,hKB,σ,hp,hs,yU,yV,hk⟩:=h;have ltD:=(Array.getElem?_eq_some_iff.1 hD).1;have ltL:L<W.heap.size:=by
  cases k with
  |some k=>exact(Array.getElem?_eq_some_iff.1 hk.1).1
  |none=>obtain⟨jc,h1,_⟩:=hk;exact(Array.getElem?_eq_some_iff.1 h1).1
 have hK:∀b,K b->b<W.heap.size:=λb hb=>hs.kb b (.inl (.inl hb));obtain⟨um,zX⟩:=hs.turn (K':=λb=>(K b\/b=D\/b=L)\/B' b) (F':=F') st.size st.bS (λb hb hk=>st.heap b hb λh=>hk (.inr h)) st.mono
  (λb hb=>(st.new b hb).imp id (λh=>h.imp .inr id)) (λb hb=>hb.elim (λh=> .inl (.inl h)) λh=>(st.own b h).imp .inr id) st.fb
  (λb hb=>hb.elim (λh=>Nat.lt_of_lt_of_le (h.elim (hK b) (λh=>h.elim (λh=>h▸ltD) λh=>h▸ltL)) st.size) (st.bb b))
 have nb:∀b,b<W.heap.size->¬B b->¬B' b:=λb hl hb h=>(st.own b h).elim hb λh=>by omega
 have nf:∀b,b<W.heap.size->¬F b->¬B b->¬F' b:=λb hl hf hb h=>(st.new b h).elim hf λh=>h.elim hb λh=>by omega
 refine⟨(st.heap D ltD bD).trans hD,nf D ltD fD bD,nf L ltL fL bL,nb D ltD bD,nb L ltL bL,λb hb=>nb b (hK b hb) (hKB b hb),σ,hp,um,yU.trans ?_,yV.trans zX,?_⟩
 ·exact⟨st.os,st.tape,st.output,st.size,λb hb=>st.heap b (hK b hb) (hKB b hb),st.bS,st.mono,λb hb=>(st.new b hb).imp id λh hk=>h.elim (hKB b hk) λh=>by have:=hK b hk;omega⟩
 ·cases k with
  |some k=>exact⟨(st.heap L ltL bL).trans hk.1,hk.2⟩
  |none=>obtain⟨jc,h1,h2⟩:=hk;exact⟨jc,(st.heap L ltL bL).trans h1,h2⟩
set_option maxHeartbeats 1000000 in
theorem Zy [Inhabited Env](hC:C.ok P){f}{qs:Array Tmp}{c}{live}{m}{g}{ps}{c'}{Ib}{Zx}
 (ihA:∀(L:Nat) (K F0:Nat->Prop) (σ0:Nat->Option Nat) (hp0:List ak) (w0:World) (Q:cq->DS->Prop) (s:DS) (a:Act) (w:World),eE P N Ib Zx=true->gO C hp0.length Zx Q s->uZ K N F0 σ0 hp0 w0 s a w->Code.wpIn (Fw (some L)) 0 P Ib (QQ K N F0 σ0 hp0 w0 Q) a w)
 (ih:∀(L:Nat) (K F0:Nat->Prop) (σ0:Nat->Option Nat) (hp0:List ak) (w0:World) (Q:cq->DS->Prop) (s:DS) (a:Act) (w:World),eE P N c c'=true->gO C hp0.length c' Q s->uZ K N F0 σ0 hp0 w0 s a w->Code.wpIn (Fw (some L)) 0 P c (QQ K N F0 σ0 hp0 w0 Q) a w)
 {n} {Q} {s} {a} {w} (hm:eE P N (.rangeFunc f qs Ib c) (.qu live m g ps Zx c')=true) (h:gO C hp0.length (.qu live m g ps Zx c') Q s) (hc:uZ K N F0 σ0 hp0 w0 s a w):
 Code.wpIn (Fw none) n P (.rangeFunc f qs Ib c) (QQ K N F0 σ0 hp0 w0 Q) a w:=by
 simp only[eE,Bool.and_eq_true,beq_iff_eq,decide_eq_true_eq]at hm;obtain⟨⟨⟨⟨⟨⟨⟨hg,z8⟩,hnd⟩,fM⟩,aDP⟩,RH⟩,hmA⟩,hm⟩:=hm;simp only[gO]at h;obtain⟨hmm,h⟩:=h;obtain⟨K',F,σ,hx⟩:=hc;have hx1:=hx.cut live m hmm;have hv:=aE hx.2.2.1 hg;have hws:=hx.2.1;obtain⟨C8,hs,hf,hN,pT,yU,yV⟩:=hx1;generalize kB:s.cut live m=s1 at h hs hf yV;cases he:g.ev s.fr<;>simp only[he]at h hv;rename_i gf caps;obtain⟨bG,acS,I,hI0,acT,avt⟩:=h;obtain⟨cv,hcv,hcl,hcr⟩:=hv.B8;obtain⟨lI,hti⟩:=hC.i gf _ bG;have avu:dS (aoK F σ s1.hp w) caps cv.toList:=⟨by simpa using hcl,λj d hd=>by
  obtain⟨u,hu,hr⟩:=hcr j d hd;refine⟨u,by simpa using hu,?_⟩;rw[<-kB];cases m with
  |none=>exact aoL hr
  |some m=>exact alu hr m⟩
 obtain⟨B0,σB,hB0,hsA,ay2,hsB,avx⟩:=P8 hs avu acS;generalize hhk:(gj s1.hp caps).2.2=hpk at*;generalize Da:(gj s1.hp caps).2.1=aDS at*;have asl:∀b,K' b->b<w.heap.size:=hs.kb;have ag4:∀b,F b->b<w.heap.size:=hs.fb;show Code.wpIn Fence.wide n P (.rangeFunc f qs Ib c) _ a w;refine wpIn_rangeFunc λfn hfn=> ?_;obtain⟨rec,yY⟩:∃rec:LoopState->Option Code->Loop,rec=λst pe=>{state:=st,pending:=pe,fn,tmps:=a.tmps,params:=qs,assign:=Ib,body:=c,defers:=w.heap.size}:=⟨_,rfl⟩;obtain⟨W1,hW1⟩:∃W1,(w.alloc (.deferred (some []))).alloc (.loop (rec .ready none))=W1:=⟨_,rfl⟩;have hold:∀b,b<w.heap.size->W1.heap[b]? =w.heap[b]? :=λb hb=>by rw[<-hW1];exact(Below.heap_alloc _ _ b (by simp;omega)).trans (Below.heap_alloc _ _ b hb)
 have iP:W1.heap.size=w.heap.size+2:=by rw[<-hW1];simp
 have hL1:W1.heap[w.heap.size+1]? =some (.loop (rec .ready none)):=by rw[<-hW1];have:=World.alloc_heap_new (w.alloc (.deferred (some []))) (.loop (rec .ready none));rwa[World.size_alloc]at this
 have hD1:W1.heap[w.heap.size]? =some (.deferred (some [])):=by rw[<-hW1];exact(Below.heap_alloc _ _ _ (by simp)).trans (World.alloc_heap_new w _)
 refine⟨w.heap.size+1,[{target:= .collected w.heap.size,args:= #[]}],W1,{target:= .fn (.func gf) cv,args:= #[.func (.yield (w.heap.size+1)) #[] #[]]},W1,gf,
  #[.func (.yield (w.heap.size+1)) #[] #[]]++cv,W1,?_,?_,λ_ _=>trivial,?_,λh=>by simp[Fence.wide]at h,?_⟩
 ·rw[<-hW1,yY];exact run_enterLoop_outer _ _ _ _ _
 ·simp only[resolve,hcv];simp[go_sem]
 ·have eg:=λargs w=>yZ (P:=P) (w:=w) lI args;simp[invoke,go_sem,eg]
 generalize hL:w.heap.size+1=L at*;generalize hD:w.heap.size=D at*;have hfr:∀{F2:Nat->Prop} {σ2:Nat->Option Nat} {gh:List ak} {W:World},HM F σ s1.hp w F2 σ2 gh W->jq F2 σ2 gh W s1.fr a.tmps:=λhm i=>(hf i).mono hm;obtain⟨X,hX⟩:∃X:Code->List ak->Prop,X=λjc hp=>(jc= .ret/\Q .ret ⟨s1.fr,hp⟩)\/∃id,jc= .exit id/\Q (.exit id) ⟨s1.fr,hp⟩:=⟨_,rfl⟩;obtain⟨ay4,ay5⟩:=hsA.turn (K':=λb=>(K' b\/b=D\/b=L)\/B0 b) (F':=F) (w':=W1) (by omega) (λb hb=>hold b (ag4 b hb)) (λb hb _=>hold b (by omega)) (λ_ h=>h) (λ_ h=> .inl h)
  (λb hb=>hb.elim (λh=>h.elim (λh=> .inl (.inl h)) λh=> .inr (by omega)) λh=> .inl (.inr h)) (λb hb=>by have:=ag4 b hb;omega) (λb hb=>hb.elim (λh=>h.elim (λh=>by have:=asl b h;omega) λh=>by omega) λh=>by have:=(hB0 b h).1;omega)
 have ay6:iw K' F w F W1:=⟨by rw[<-hW1];rfl,by rw[<-hW1];rfl,by rw[<-hW1];rfl,by omega,λb hb=>hold b (asl b hb),λb hb=>hold b (ag4 b hb),λ_ h=>h,λ_ h=> .inl h⟩;have nKD:∀b,K' b->b≠D/\b≠L:=λb hb=>by have:=asl b hb;omega
 have nFD:∀b,F b->b≠D/\b≠L:=λb hb=>by have:=ag4 b hb;omega
 have hDL:D≠L:=by omega
 have start:JR K' F σ s1.hp w D L rec I X (some 0) F B0 W1:=
  ⟨hD1,λh=>(nFD D h).1 rfl,λh=>(nFD L h).2 rfl,λh=>by have:=(hB0 D h).1;omega,λh=>by have:=(hB0 L h).1;omega,λb hb h=>(hB0 b h).2.2 hb,σ,hpk,ay4,ay6,ay2.trans ay5,hL1,hI0⟩
 obtain⟨ay8,ay9⟩:=hsB.turn (K':=λb=>b<W1.heap.size/\¬B0 b) (F':=F) (w':=W1) (by omega) (λb hb=>hold b (ag4 b hb)) (λb hb _=>hold b (by omega)) (λ_ h=>h) (λ_ h=> .inl h)
  (λb hb=>by rcases Nat.lt_or_ge b D with h|h;exact .inl ⟨by omega,hb.2⟩;exact .inr (by omega)) (λb hb=>by have:=ag4 b hb;omega) (λb hb=>hb.1)
 have key:=hti L (JR K' F σ s1.hp w D L rec I X) F B0 σB W1 cv JR.avr ?_ (λb hb=>by have:=(hB0 b hb).1;omega) ay8
  (avx.imp λd v hr=>hr.mono ay9) start
 ·refine callsIn_wide.2 ((callsIn_wide.1 key).mono ?_)
  rintro e W3 ⟨⟨v,rfl⟩,F3,B3,k,hJ,hk⟩
  obtain⟨jD,jfD,jfL,jbD,jbL,jKB,σ3,hp3,js,jmv,jhm,jk⟩:=hJ;have fin:∀W4 o,W4=W3.putObj L o->∀(e:cq),Q e ⟨s1.fr,hp3⟩->∃s',uZ K N F0 σ0 hp0 w0 s' {a with defers:=[{target:= .collected D,args:= #[]}]++a.defers} W4/\Q e s':=by
   rintro W4 o rfl e hq
   have mG:∀b,b≠L->(W3.putObj L o).heap[b]? =W3.heap[b]? :=λb hb=>World.putObj_heap_other hb;obtain⟨js4,jm4⟩:=js.turn (K':=λb=>(K' b\/b=D\/b=L)\/B3 b) (F':=F3) (w':=W3.putObj L o) (by simp) (λb hb=>mG b λh=>jfL (h▸hb)) (λb _ hb=>mG b λh=>hb (.inl (.inr (.inr h)))) (λ_ h=>h) (λ_ h=> .inl h) (λ_ h=> .inl h)
    (λb hb=>by simpa using js.fb b hb) (λb hb=>by simpa using js.kb b hb)
   have mv4:iw K' F3 W3 F3 (W3.putObj L o):=iw.put (λh=>(nKD L h).2 rfl) jfL;refine⟨⟨s1.fr,hp3⟩,⟨λb=>K' b\/b=D,F3,σ3,λb hb=> .inl (C8 b hb),js4.weak λb hb=> .inl (hb.imp id .inl),hfr (jhm.trans jm4),hN,⟨⟨D,rfl,.inr rfl,jfD,(mG D hDL).trans jD,λhk=>(nKD D (C8 D hk)).1 rfl,λhd=> ?_⟩,?_⟩,yU.trans ((jmv.trans mv4).weak C8),yV.trans (jhm.trans jm4)⟩,hq⟩
   ·obtain⟨D',h1,h2⟩:=pT.mem _ hd;injection h1 with h1;injection h1 with h1;exact(nKD D' h2).1 h1.symm
   ·exact(pT.move (jmv.trans mv4)).weak λb hb=> .inl hb
  rcases hk with rfl|rfl
  ·obtain⟨jc,j1,j2⟩:=jk;have acU:=run_endLoop (P:=P) j1 (by rw[yY];simp);rw[yY]at acU;refine⟨some jc,_,by rw[yY]at j1;exact acU,?_⟩;rw[hX]at j2;rcases j2 with⟨rfl,hq⟩|⟨id,rfl,hq⟩
   ·exact wpIn_ret (fin _ _ rfl .ret hq)
   ·exact wpIn_exit (fin _ _ rfl (.exit id) hq)
  ·have acU:=run_endLoop (P:=P) jk.1 (by rw[yY];simp);rw[yY]at acU;exact⟨none,_,acU,fin _ _ rfl .normal (avt hp3 jk.2)⟩
 .
  intro k F2 B W x vs hJ hF2 hB RG hvs;obtain⟨jD,jfD,jfL,jbD,jbL,jKB,σ2,gh,js,jmv,jhm,jl,jI⟩:=hJ;obtain⟨hxl,avC⟩:=acT k x gh jI RG;have hlv:vs.length=qs.size:=by rw[<-hvs.1,hxl,<-z8];simp
  have hy:=run_yield (P:=P) (args:=vs.toArray) jl (by rw[yY];simpa using hlv);rw[yY]at hy;dsimp only at hy;refine⟨fn,_,Ib,c,hy,roundIn_of_wpIn trivial ?_⟩;have avD:(qs.zip vs.toArray).foldl (λt (y:Nat×Value)=>t.setIfInBounds y.1 y.2) a.tmps=(ps.zip vs).foldl (λt (y:Nat×Value)=>t.setIfInBounds y.1 y.2) a.tmps:=by rw[<-Array.foldl_toList,Array.toList_zip,z8]
  have azc:∀(l:List (Nat×Value)) (t:Array Value),(l.foldl (λt (y:Nat×Value)=>t.setIfInBounds y.1 y.2) t).size=t.size:=by
   intro l;induction l with
   |nil=>intro t;rfl
   |cons y l ih=>intro t;rw[List.foldl_cons,ih];simp
  have azd:jq F2 σ2 gh W (ps.zip x++s1.fr) ((ps.zip vs).foldl (λt (y:Nat×Value)=>t.setIfInBounds y.1 y.2) a.tmps):=
   P6 ps x vs a.tmps s1.fr hnd (hvs.imp λd v hr=>hr.mono zo) hxl (λp hp=>by rw[hN];simpa using List.all_eq_true.1 fM p hp) (hfr jhm)
  have pM:uZ (λb=>(K' b\/b=D\/b=L)\/B b) N F2 σ2 gh W ⟨ps.zip x++s1.fr,gh⟩ {tmps:=(ps.zip vs).foldl (λt (y:Nat×Value)=>t.setIfInBounds y.1 y.2) a.tmps,defers:=[]} W:=
   ⟨_,F2,σ2,λ_ h=>h,js,azd,by rw[azc];exact hN,trivial,.refl _ _ _,.refl _ _ _ _⟩
  have aze:=ihA L _ F2 σ2 gh W _ _ _ W hmA avC pM;have e1:(qs.zip vs.toArray).foldl (λ(tmps:Array Value) (x:Nat×Value)=>match x with|(t,a)=>tmps.setIfInBounds t a) a.tmps=(ps.zip vs).foldl (λt (y:Nat×Value)=>t.setIfInBounds y.1 y.2) a.tmps:=avD;rw[e1];refine wpIn_mono (show Code.wpIn (Fence.wide.inRound L) 0 P Ib _ _ W from aze) ?_
  rintro eA aA WA hqA
  cases eA with
  |exit id=>exact hqA.choose_spec.2.elim
  |ret=>exact hqA.choose_spec.2.elim
  |goto l=>exact hqA.elim
  |panic c=>exact hqA.elim
  |outgrown=>exact hqA.elim
  |normal=>
  obtain⟨sA,⟨KA,FA,σA,hKA,hsA,hfA,hNA,hdA,P9,azf⟩,alw⟩:=hqA;simp only[cq.only]at alw;have lA:WA.heap[L]? =some (.loop (rec .ready none)):=(P9.qa L (.inl (.inr (.inr rfl)))).trans jl;have azg:L<WA.heap.size:=(Array.getElem?_eq_some_iff.1 lA).1;have fAL:¬FA L:=λh=>(P9.new L h).elim jfL (λh=>h (.inl (.inr (.inr rfl))));refine⟨_,run_beginRound lA (by rw[yY]),?_⟩;generalize hWb:WA.putObj L (.loop {rec .ready none with state:= .busy})=Wb;have hkb:∀b,b≠L->Wb.heap[b]? =WA.heap[b]? :=λb hb=>by rw[<-hWb];exact World.putObj_heap_other hb
  have avG:Wb.heap.size=WA.heap.size:=by rw[<-hWb];simp
  have hLb:Wb.heap[L]? =some (.loop {rec .ready none with state:= .busy}):=by rw[<-hWb];exact World.putObj_heap_same azg
  obtain⟨jsb,jmb⟩:=hsA.turn (K':=KA) (F':=FA) (w':=Wb) (by omega) (λb hb=>hkb b λh=>fAL (h▸hb)) (λb _ hb=>hkb b λh=>hb (h▸hKA L (.inl (.inr (.inr rfl))))) (λ_ h=>h) (λ_ h=> .inl h) (λ_ h=> .inl h)
   (λb hb=>by rw[avG];exact hsA.fb b hb) (λb hb=>by rw[avG];exact hsA.kb b hb)
  have mvb:iw K' FA WA FA Wb:=by rw[<-hWb];exact iw.put (λh=>(nKD L h).2 rfl) fAL
  have hdb:Marks (λb=>(K' b\/b=D\/b=L)\/B b) KA FA Wb aA.defers:=by
   rw[<-hWb];exact hdA.put λhd=>by obtain⟨D',h1,h2⟩:=hdA.at _ hd;injection h1 with h1;injection h1 with h1;rw[<-h1,lA]at h2;cases h2
  have avH:uZ (λb=>(K' b\/b=D\/b=L)\/B b) N FA σA sA.hp Wb sA aA Wb:=
   ⟨KA,FA,σA,hKA,jsb,λn=>(hfA n).mono jmb,hNA,hdb,.refl _ _ _,.refl _ _ _ _⟩
  have hbw:=ih L _ FA σA sA.hp Wb _ _ _ Wb hm alw avH;refine wpIn_mono (show Code.wpIn (Fence.wide.inRound L) 0 P c _ _ Wb from hbw) ?_;have fin:∀(jump:Option Code) (s3:DS) (a3:Act) (W3:World) (hp3:List ak),uZ (λb=>(K' b\/b=D\/b=L)\/B b) N FA σA sA.hp Wb s3 a3 W3->
   (hp3=(s3.cut [] m).hp\/hp3=s3.hp)->(match jump with|none=>I (k+1) hp3|some jc=>X jc hp3)->
   ∃v w',(Instr.endRound L jump).run P W3= .ok v w'/\∃b F',Ending.returned v= .returned (.bool b)/\(∀c,F2 c->F' c)/\(∀c,F' c->F2 c\/¬B c)/\(∀c,F' c->c<w'.heap.size)/\W.heap.size<=w'.heap.size/\
    (∀c,F2 c->w'.heap[c]? =W.heap[c]?)/\(∀c,B c->w'.heap[c]? =W.heap[c]?)/\JR K' F σ s1.hp w D L rec I X (if b then some (k+1)else none) F' B w':=by
   rintro jump s3 a3 W3 hp3 ⟨Kz,F3,σ3,hKz,hs3,_,_,_,RZ,azi⟩ WL hj
   have l3:W3.heap[L]? =some (.loop {rec .ready none with state:= .busy}):=(RZ.qa L (.inl (.inr (.inr rfl)))).trans hLb;have acU:=run_endRound (P:=P) jump l3;have mG:∀o b,b≠L->(W3.putObj L o).heap[b]? =W3.heap[b]? :=λo b hb=>World.putObj_heap_other hb;have f3L:¬F3 L:=λh=>(RZ.new L h).elim fAL (λh=>h (.inl (.inr (.inr rfl))));have fAD:¬FA D:=λh=>(P9.new D h).elim jfD (λh=>h (.inl (.inr (.inl rfl))));have f3D:¬F3 D:=λh=>(RZ.new D h).elim fAD (λh=>h (.inl (.inr (.inl rfl))));refine⟨_,_,acU,jump.isNone,F3,rfl,λc hc=>RZ.mono c (P9.mono c hc),λc hc=> ?_,λc hc=>by simpa using hs3.fb c hc,by have:=RZ.size;have:=P9.size;simp;omega,λc hc=> ?_,λc hc=> ?_,?_⟩
   ·rcases RZ.new c hc with h|h
    ·exact(P9.new c h).imp id λh hb=>h (.inr hb)
    ·exact .inr λhb=>h (.inr hb)
   ·have:c≠L:=λh=>jfL (h▸hc);exact(mG _ c this).trans ((RZ.bS c (P9.mono c hc)).trans ((hkb c this).trans (P9.bS c hc)))
   ·have:c≠L:=λh=>jbL (h▸hc);exact(mG _ c this).trans ((RZ.qa c (.inr hc)).trans ((hkb c this).trans (P9.qa c (.inr hc))))
   generalize cD:Obj.loop {rec .ready none with state:=if jump.isNone then .ready else .done,pending:=jump}=ob;obtain⟨js4,jm4⟩:=(hs3.weak hKz).turn (K':=λb=>(K' b\/b=D\/b=L)\/B b) (F':=F3) (w':=W3.putObj L ob) (by simp) (λb hb=>mG _ b λh=>f3L (h▸hb)) (λb _ hb=>mG _ b λh=>hb (.inl (.inr (.inr h)))) (λ_ h=>h) (λ_ h=> .inl h) (λ_ h=> .inl h)
    (λb hb=>by simpa using hs3.fb b hb) (λb hb=>by simpa using hs3.kb b (hKz b hb))
   have wk:∀b,K' b->(K' b\/b=D\/b=L)\/B b:=λb hb=> .inl (.inl hb);have azk:iw K' F w F3 (W3.putObj L ob):=(((jmv.trans (P9.weak wk)).trans mvb).trans (RZ.weak wk)).trans (iw.put (λh=>(nKD L h).2 rfl) f3L);have asm:HM F σ s1.hp w F3 σ3 s3.hp (W3.putObj L ob):=(((jhm.trans azf).trans jmb).trans azi).trans jm4;have l4:(W3.putObj L ob).heap[L]? =some ob:=World.putObj_heap_same (Array.getElem?_eq_some_iff.1 l3).1;have d4:(W3.putObj L ob).heap[D]? =some (.deferred (some [])):=(mG _ D hDL).trans ((RZ.qa D (.inl (.inr (.inl rfl)))).trans ((hkb D hDL).trans ((P9.qa D (.inl (.inr (.inl rfl)))).trans jD)));have both:bF (λb=>(K' b\/b=D\/b=L)\/B b) F3 σ3 hp3 (W3.putObj L ob)/\HM F σ s1.hp w F3 σ3 hp3 (W3.putObj L ob):=by
    rcases WL with rfl|rfl
    ·cases m with
     |none=>exact⟨js4,asm⟩
     |some m=>
      refine⟨js4.cut m,asm.cut ?_⟩;rw[<-kB];simp[DS.cut];omega
    ·exact⟨js4,asm⟩
   refine⟨d4,f3D,f3L,jbD,jbL,jKB,σ3,hp3,both.1,azk,both.2,?_⟩;cases jump with
   |none=>exact⟨by rw[l4,<-cD,yY];rfl,hj⟩
   |some jc=>exact⟨jc,by rw[l4,<-cD,yY];rfl,hj⟩
  rintro e a3 W3 hq
  cases e with
  |normal=>obtain⟨s3,hc3,h3⟩:=hq;exact fin none s3 a3 W3 _ hc3 (.inl rfl) h3
  |ret=>obtain⟨s3,hc3,h3⟩:=hq;exact fin (some .ret) s3 a3 W3 _ hc3 (.inr rfl) (by rw[hX];exact .inl ⟨rfl,h3⟩)
  |exit id=>obtain⟨s3,hc3,h3⟩:=hq;exact fin (some (.exit id)) s3 a3 W3 _ hc3 (.inr rfl) (by rw[hX];exact .inr ⟨id,rfl,h3⟩)
  |goto l=>exact hq.elim
  |panic c=>exact hq.elim
  |outgrown=>exact hq.elim
theorem bV [Inhabited Env](hC:C.ok P):∀(dc:au) (c:Code) (ro:Option Nat) (n:Nat) (K F0:Nat->Prop) (σ0:Nat->Option Nat) (hp0:List ak) (w0:World) (Q:cq->DS->Prop) (s:DS) (a:Act) (w:World),(ro=none\/kW c=true)->eE P N c dc=true->gO C hp0.length dc Q s->uZ K N F0 σ0 hp0 w0 s a w->Code.wpIn (Fw ro) n P c (QQ K N F0 σ0 hp0 w0 Q) a w
 | .ops alv dl,cc,ro,n,K,F0,σ0,hp0,w0,Q,s,a,w,hp,hm,h,hc=>by
   cases cc with
   |region rid ops draw=>
    simp only[eE,Bool.and_eq_true]at hm;obtain⟨_,hm⟩:=hm;simp only[kW]at hp;cases draw with
    |false=>exact wpIn_region_list (LV hC (λs' a' w' jg h'=>⟨s',jg,h'⟩) (hp.imp id λh=>by rwa[<-Array.all_toList]at h) (by simpa using hm) hc h)
    |true=>
     refine nk hC hp (gg:=[]) (by simpa using hm) (λs' a' w' jg h'=>⟨s',jg,h'⟩) hc (λp hp=>by simp at hp) ?_;rw[Bp];exact h
   |_=>exact(Bool.false_ne_true hm).elim
 | .MQ l,cc,ro,n,K,F0,σ0,hp0,w0,Q,s,a,w,hp,hm,h,hc=>by
   cases cc with
   |region rid ops draw=>
    simp only[eE,Bool.and_eq_true]at hm;obtain⟨rfl,hm⟩:=hm;exact nk hC hp hm (λs' a' w' jg h'=>⟨s',jg,h'⟩) hc (λp hp=>by simp at hp) h
   |_=>exact(Bool.false_ne_true hm).elim
 | .MR gg l,cc,ro,n,K,F0,σ0,hp0,w0,Q,s,a,w,hp,hm,h,hc=>by
   cases cc with
   |region rid ops draw=>
    simp only[eE,Bool.and_eq_true]at hm;obtain⟨rfl,hm⟩:=hm;exact nk hC hp hm (λs' a' w' jg h'=>⟨s',jg,h'⟩) hc (aeU h.1) h.2
   |_=>exact(Bool.false_ne_true hm).elim
 | .seq x' y',cc,ro,n,K,F0,σ0,hp0,w0,Q,s,a,w,hp,hm,h,hc=>by
   cases cc with
   |seq x y=>
    simp only[eE,Bool.and_eq_true]at hm;simp only[kW,Bool.and_eq_true]at hp;refine wpIn_seq (wpIn_mono (bV hC x' x ro n K F0 σ0 hp0 w0 _ s a w (hp.imp id (·.1)) hm.1 h hc) λe a' w' hq=> ?_);cases e with
    |normal=>obtain⟨s',jg,h'⟩:=hq;exact bV hC y' y ro n K F0 σ0 hp0 w0 Q s' a' w' (hp.imp id (·.2)) hm.2 h' jg
    |exit id=>obtain⟨s',jg,h'⟩:=hq;exact⟨s',jg,h'⟩
    |ret=>obtain⟨s',jg,h'⟩:=hq;exact⟨s',jg,h'⟩
    |goto l=>exact hq.elim
    |panic c=>exact hq.elim
    |outgrown=>exact hq.elim
   |_=>exact(Bool.false_ne_true hm).elim
 | .cond c' x' y',cc,ro,n,K,F0,σ0,hp0,w0,Q,s,a,w,hp,hm,h,hc=>by
   cases cc with
   |cond c x y=>
    simp only[eE,Bool.and_eq_true]at hm;simp only[kW,Bool.and_eq_true]at hp;have pM:=hc;obtain⟨K',F,σ,C8,hs,hf,hN,pT,yU,yV⟩:=hc;have hv:=aE hf hm.1.1;simp only[gO]at h;cases he:c'.ev s.fr with
    |bool t=>
     rw[he]at hv;simp only[he]at h;refine wpIn_cond_split hv.iO (λht=>bV hC x' x ro n K F0 σ0 hp0 w0 Q s a w (hp.imp id (·.1)) hm.1.2 (h.1 ht) pM) (λht=>bV hC y' y ro n K F0 σ0 hp0 w0 Q s a w (hp.imp id (·.2)) hm.2 (h.2 ht) pM)
    |FC=>
     rw[he]at hv;simp only[he]at h;obtain⟨b,hb⟩:=hv.Zz;exact wpIn_cond_split hb (λ_=>bV hC x' x ro n K F0 σ0 hp0 w0 Q s a w (hp.imp id (·.1)) hm.1.2 h.1 pM) (λ_=>bV hC y' y ro n K F0 σ0 hp0 w0 Q s a w (hp.imp id (·.2)) hm.2 h.2 pM)
    |_=>simp only[he]at h
   |_=>exact(Bool.false_ne_true hm).elim
 | .block id' c',cc,ro,n,K,F0,σ0,hp0,w0,Q,s,a,w,hp,hm,h,hc=>by
   cases cc with
   |block id c=>
    simp only[eE,Bool.and_eq_true,beq_iff_eq]at hm;simp only[kW]at hp;obtain⟨rfl,hm⟩:=hm;refine wpIn_block (wpIn_mono (bV hC c' c ro n K F0 σ0 hp0 w0 _ s a w hp hm h hc) λe a' w' hq=> ?_);cases e with
    |normal=>obtain⟨s',jg,h'⟩:=hq;exact⟨s',jg,h'⟩
    |exit k=>
     obtain⟨s',jg,h'⟩:=hq;simp only[cq.inBlock]at h';simp only[Exit.inBlock];split at h'
     ·rename_i e;rw[if_pos e];exact⟨s',jg,h'⟩
     ·rename_i e;rw[if_neg e];exact⟨s',jg,h'⟩
    |ret=>obtain⟨s',jg,h'⟩:=hq;exact⟨s',jg,h'⟩
    |goto l=>exact hq.elim
    |panic c=>exact hq.elim
    |outgrown=>exact hq.elim
   |_=>exact(Bool.false_ne_true hm).elim
 | .loop live m c',cc,ro,n,K,F0,σ0,hp0,w0,Q,s,a,w,hp,hm,h,hc=>by
   cases cc with
   |loop c=>
    simp only[eE]at hm;simp only[kW]at hp;simp only[gO]at h;obtain⟨hmm,I,μ,h0,hr⟩:=h;refine wpIn_loop_ghost (λi a w=>∃s',uZ K N F0 σ0 hp0 w0 s' a w/\I s'/\μ s'=i) (μ (s.cut live m)) ⟨_,hc.cut live m hmm,h0,rfl⟩ λi a w hI=> ?_;obtain⟨s',jg,hI',rfl⟩:=hI;refine wpIn_mono (bV hC c' c ro n K F0 σ0 hp0 w0 _ s' a w hp hm (hr s' hI') jg) λe a' w' hq=> ?_;cases e with
    |normal=>
     obtain⟨Tf,asn,h''⟩:=hq;exact⟨_,h''.2,Tf.cut live m,asn.cut live m hmm,h''.1,rfl⟩
    |exit id=>obtain⟨s',jg,h'⟩:=hq;exact⟨s',jg,h'⟩
    |ret=>obtain⟨s',jg,h'⟩:=hq;exact⟨s',jg,h'⟩
    |goto l=>exact hq.elim
    |panic c=>exact hq.elim
    |outgrown=>exact hq.elim
   |_=>exact(Bool.false_ne_true hm).elim
 | .scope c',cc,ro,n,K,F0,σ0,hp0,w0,Q,s,a,w,hp,hm,h,hc=>by
   cases cc with
   |scope c=>
    refine C9 (wpIn_mono (bV hC c' c ro n K F0 σ0 hp0 w0 Q s a w hp hm h hc) λe a' w' hq=> ?_);cases e with
    |normal=>exact hq
    |exit id=>exact hq
    |ret=>exact hq
    |goto l=>exact hq.elim
    |panic c=>exact hq.elim
    |outgrown=>exact hq.elim
   |_=>exact(Bool.false_ne_true hm).elim
 | .exit id',cc,ro,n,K,F0,σ0,hp0,w0,Q,s,a,w,hp,hm,h,hc=>by
   cases cc with
   |exit id=>
    simp only[eE,beq_iff_eq]at hm;subst hm;exact wpIn_exit ⟨s,hc,h⟩
   |_=>exact(Bool.false_ne_true hm).elim
 | .ret,cc,ro,n,K,F0,σ0,hp0,w0,Q,s,a,w,hp,hm,h,hc=>by
   cases cc with
   |ret=>
    exact wpIn_ret ⟨s,hc,h⟩
   |_=>exact(Bool.false_ne_true hm).elim
 | .skip,cc,ro,n,K,F0,σ0,hp0,w0,Q,s,a,w,hp,hm,h,hc=>by
   cases cc with
   |skip=>exact wpIn_skip ⟨s,hc,h⟩
   |label l=>exact wpIn_label ⟨s,hc,h⟩
   |_=>exact(Bool.false_ne_true hm).elim
 | .H7 t off z c',c,ro,n,K,F0,σ0,hp0,w0,Q,s,a,w,hp,hm,h,hc=>by
   have zX:eE P N c c'=true:=by cases c<;>simpa only[eE]using hm
   simp only[gO]at h;split at h
   ·rename_i hh L i j e1;split at h
    ·rename_i o e2;rcases h with⟨⟨h1,h2,h3,h4⟩,h5⟩|h
     ·exact bV hC c' c ro n K F0 σ0 hp0 w0 Q _ a w hp zX h5 (hc.H7 z e2 h1 (by omega) h4)
     ·exact bV hC c' c ro n K F0 σ0 hp0 w0 Q _ a w hp zX h hc
    ·exact h.elim
   ·exact h.elim
 | .cut live m c',c,ro,n,K,F0,σ0,hp0,w0,Q,s,a,w,hp,hm,h,hc=>by
   have zX:eE P N c c'=true:=by cases c<;>simpa only[eE]using hm
   exact bV hC c' c ro n K F0 σ0 hp0 w0 Q (s.cut live m) a w hp zX h.2 (hc.cut live m h.1)
 | .rsv c',c,ro,n,K,F0,σ0,hp0,w0,Q,s,a,w,hp,hm,h,hc=>by
   have zX:eE P N c c'=true:=by cases c<;>simpa only[eE]using hm
   exact bV hC c' c ro n K F0 σ0 hp0 w0 Q _ a w hp zX h hc.rsv
 | .bad,_,ro,n,K,F0,σ0,hp0,w0,Q,s,a,w,_,_,h,hc=>h.elim
 | .qu live m g ps Zx c',cc,ro,n,K,F0,σ0,hp0,w0,Q,s,a,w,hp,hm,h,hc=>by
   cases cc with
   |rangeFunc f qs Ib c=>
    obtain rfl:ro=none:=hp.elim id λh=>by simp[kW]at h
    have RH:kW Ib=true/\kW c=true:=by simp only[eE,Bool.and_eq_true]at hm;exact⟨hm.1.1.1.2,hm.1.1.2⟩
    exact Zy hC (λL K F0 σ0 hp0 w0 Q s a w h1 h2 h3=>bV hC Zx Ib (some L) 0 K F0 σ0 hp0 w0 Q s a w (.inr RH.1) h1 h2 h3) (λL K F0 σ0 hp0 w0 Q s a w h1 h2 h3=>bV hC c' c (some L) 0 K F0 σ0 hp0 w0 Q s a w (.inr RH.2) h1 h2 h3) hm h hc
   |_=>exact(Bool.false_ne_true hm).elim
end
end Go.Nk
set_option linter.all false
namespace Go.Nk
noncomputable section
open Go.RowKit
inductive DR where
 |t (n:Nat)
 |cell (n:Nat) (sz:Option Nat)
def DR.val(s:DS):DR->Prop×DV
 | .t n=>(True,get n s.fr)
 | .cell n sz=>bA sz (aI s.hp (get n s.fr))
def iK(s:DS):List DR->Prop×List DV
 |[]=>(True,[])
 |r::rs=>((r.val s).1/\(iK s rs).1,(r.val s).2::(iK s rs).2)
def aW(s:DS):List DR->Prop×DV
 |[r]=>r.val s
 |rs=>((iK s rs).1,.cy (iK s rs).2)
def alx(P:Program):ResultVar->DR->Bool
 | .tmp t,.t n=>t==n
 | .cell a t,.cell n sz=>a==n&&decide (Qa P t=some sz)
 |_,_=>false
def ZD(P:Program):List ResultVar->List DR->Bool
 |[],[]=>true
 |x::xs,y::ys=>alx P x y&&ZD P xs ys
 |_,_=>false
def aQ:Nat->List DV->List (Nat×DV)
 |_,[]=>[]
 |n,d::r=>(n,d)::aQ (n+1) r
def jB(hp:List ak):DV->sj
 | .cy vs=>let x:=fx hp vs;⟨x.pre,.cy x.dL,x.hp⟩
 |d=>iq hp d
structure ay where
 code:au
 res:List DR
def qe(P:Program)(f:FuncId)(n:Nat)(d:ay):Bool:=
 match P.funcs[f]? with
 |some fn=>match fn.body with
  | some c => !(fn.name == "runtime.NumGoroutine") && decide (n <= fn.ntmps) && eE P fn.ntmps c d.code && ZD P fn.results.toList d.res
  |none=>false
 |none=>false
section
variable {P:Program} {K F0:Nat->Prop} {σ0:Nat->Option Nat} {hp0:List ak} {N:Nat} {w0:World} {C:jL}
def V2(tmps:Array Value):ResultVar->Sem Value
 | .tmp t=>pure (tmps.getD t undef)
 | .cell a t=>do loadVar t (<-asAddr (tmps.getD a undef))
theorem aly [Inhabited Env]{F}{σ}{s:DS}{w}{tmps:Array Value}(hs:bF K F σ s.hp w)(hf:jq F σ s.hp w s.fr tmps){x:ResultVar}{y:DR}(hm:alx P x y=true)(h:(y.val s).1):
 ∃v,(V2 tmps x).run P w= .ok v w/\aB F σ s.hp w (y.val s).2 v:=by
 unfold alx at hm;split at hm
 ·rename_i t n;simp at hm;subst hm;exact⟨_,rfl,hf t⟩
 ·rename_i a t n sz;simp only[Bool.and_eq_true,beq_iff_eq,decide_eq_true_eq]at hm;obtain⟨rfl,iP⟩:=hm;obtain⟨u,hu,hr⟩:=aeX (P:=P) hs iP (hf a) h;obtain⟨b,hb,_⟩:=LX hs (hf a) (by simp only[DR.val]at h;cases sz<;>exact h.1);refine⟨u,?_,hr⟩;have e:tmps.getD a undef= .pointer (some b):=hb;simp only[V2,e,asAddr,Sem.run_bind,Sem.run_pure,Result.andThen_ok];rw[hb]at hu;simpa[Instr.loadAt,Instr.sureAddr]using hu
 ·cases hm
theorem ZE [Inhabited Env]{F}{σ}{s:DS}{w}{tmps:Array Value}(hs:bF K F σ s.hp w)(hf:jq F σ s.hp w s.fr tmps):∀{xs:List ResultVar} {ys:List DR},ZD P xs ys=true->(iK s ys).1->
 ∃vs,(xs.mapM (V2 tmps)).run P w= .ok vs w/\dS (aB F σ s.hp w) (iK s ys).2 vs
 |[],[],_,_=>⟨[],by simp,.kV⟩
 |x::xs,y::ys,hm,h=>by simp only[ZD,Bool.and_eq_true]at hm;obtain⟨v,h1,h2⟩:=aly hs hf hm.1 h.1;obtain⟨vs,h3,h4⟩:=ZE hs hf hm.2 h.2;exact⟨v::vs,by rw[List.mapM_cons,Sem.run_bind,h1,Result.andThen_ok,Sem.run_bind,h3,Result.andThen_ok];rfl,.ic h2 h4⟩
 |[],_::_,hm,_=>by simp[ZD]at hm
 |_::_,[],hm,_=>by simp[ZD]at hm
theorem LY(s):∀ys:List DR,(iK s ys).2.length=ys.length
 |[]=>rfl
 |y::ys=>by simp[iK,LY s ys]
theorem Ie [Inhabited Env]{F}{σ}{s:DS}{w}{tmps:Array Value}(hs:bF K F σ s.hp w)(hf:jq F σ s.hp w s.fr tmps){fn:Func}{ys}(hm:ZD P fn.results.toList ys=true)(h:(aW s ys).1):
 ∃v,(results fn tmps).run P w= .ok v w/\aB F σ s.hp w (aW s ys).2 v:=by
 have hL:(iK s ys).1:=by
  unfold aW at h;split at h
  ·exact⟨h,trivial⟩
  ·exact h
 obtain⟨vs,h1,h2⟩:=ZE hs hf hm hL;have x7:(results fn tmps).run P w= .ok (if h:vs.toArray.size=1 then vs.toArray[0]else .tuple vs.toArray) w:=by
  have e:results fn tmps=(do let vs<-fn.results.mapM (V2 tmps);pure (if h:vs.size=1 then vs[0]else .tuple vs)):=by unfold results;congr 1
  rw[e,Array.mapM_eq_mapM_toList,Sem.run_bind,Sem.run_map,h1];rfl
 refine⟨_,x7,?_⟩;have hlen:=h2.1;rw[LY]at hlen;unfold aW;split
 ·rename_i r;obtain⟨v,us,rfl,h0,hr⟩:=h2.cons;have:=hr.ag5;subst this;simpa using h0
 ·rename_i bw;rw[dif_neg]
  ·exact aB.KH (by simpa using h2.1) λj d hd=>let⟨u,hu,hr⟩:=h2.2 j d hd;⟨u,by simpa using hu,hr⟩
  ·intro h1';have:ys.length=1:=by rw[hlen];simpa using h1'
   match ys,this with
   |[r],_=>exact bw r rfl
theorem DJ:∀(ds:List DV) (k n:Nat),get n (aQ k ds)=if k<=n then(ds[n-k]?).getD .undef else .undef
 |[],k,n=>by simp[aQ]
 |d::ds,k,n=>by
  simp only[aQ,cw,DJ ds (k+1) n];by_cases h:n=k
  ·subst h;simp
  ·rw[if_neg h];by_cases h2:k+1<=n
   ·rw[if_pos h2,if_pos (by omega)];rw[show n-k=(n-(k+1))+1 by omega];simp
   ·rw[if_neg h2,if_neg (by omega)]
theorem Bq{F}{σ}{hp}{w}{iy:List DV}{args:Array Value}{nt}(ha:dS (aB F σ hp w) iy args.toList)(hn:iy.length<=nt):
 jq F σ hp w (aQ 0 iy) (args++Array.replicate (nt-args.size) undef):=by
 have hl:iy.length=args.size:=by simpa using ha.1
 intro n;rw[DJ,if_pos (Nat.zero_le _),Nat.sub_zero];rcases Nat.lt_or_ge n iy.length with h|h
 ·obtain⟨u,hu,hr⟩:=ha.2 n iy[n] (by simp[h]);have h':n<args.size:=by omega
  simp at hu;simp[h,Array.getElem?_append_left h',hu];exact hr
 ·simp[List.getElem?_eq_none h];exact .undef _
theorem xZ [Inhabited Env]{F}{σ}{hp}{w}{iy:List DV}{args:Array Value}{nt}(hs:bF K F σ hp w)(ha:dS (aB F σ hp w) iy args.toList)(hn:iy.length<=nt):
 uZ K nt F σ hp w ⟨aQ 0 iy,hp⟩ {tmps:=args++Array.replicate (nt-args.size) undef,defers:=[]} w:=by
 have hl:iy.length=args.size:=by simpa using ha.1
 exact⟨K,F,σ,λ_ h=>h,hs,Bq ha hn,by simp;omega,trivial,.refl _ _ _,.refl _ _ _ _⟩
theorem uC{f}{n}{d:ay}(h:qe P f n d=true):ie P f=true/\∃fn c,P.funcs[f]? =some fn/\fn.body=some c/\n<=fn.ntmps/\eE P fn.ntmps c d.code=true/\ZD P fn.results.toList d.res=true:=by
 unfold qe at h;cases hf:P.funcs[f]? with
 |none=>simp[hf]at h
 |some fn=>
  simp only[hf]at h;cases hb:fn.body with
  |none=>simp[hb]at h
  |some c=>
   simp only[hb,Bool.and_eq_true,decide_eq_true_eq]at h;obtain⟨⟨⟨h1,h2⟩,h3⟩,h4⟩:=h;exact⟨by unfold ie;simp only[hf,hb,Option.isSome_some,Bool.and_true];exact h1,fn,c,rfl,hb,h2,h3,h4⟩
theorem Ii [Inhabited Env]{fn:Func}{F}{σ}{hp}{w}{R:Ending->World->Prop}{s}{tm:Array Value}{K' F'}{σ'}
 (h:∀w',acV K fn.ntmps F σ hp w K' F' σ' s {tmps:=tm,defers:=[]} w'->∃v,(results fn tm).run P w'= .ok v w'/\R (.returned v) w'):
 ∀(ds:List Deferred) (w':World),acV K fn.ntmps F σ hp w K' F' σ' s {tmps:=tm,defers:=ds} w'->LeavesInM Fence.wide 0 P fn tm R ds .returning w'
 |[],w',hc=>h w' hc
 |d::ds,w',hc=>by
  obtain⟨C8,hs,hf,hN,pT,yU,yV⟩:=hc;obtain⟨⟨D,rfl,kD,fD,hD,k0,hni⟩,Td⟩:=pT;refine⟨by simp,.inl ⟨D,_,rfl,run_takeDeferred hD,Ii h ds _ ?_⟩⟩;have mG:∀b,b≠D->(w'.putObj D (.deferred none)).heap[b]? =w'.heap[b]? :=λb hb=>World.putObj_heap_other hb;obtain⟨s1,m1⟩:=hs.turn (K':=K') (F':=F') (w':=w'.putObj D (.deferred none)) (by simp) (λb hb=>mG b λe=>fD (e▸hb)) (λb _ hb=>mG b λe=>hb (e▸kD)) (λ_ h=>h) (λ_ h=> .inl h) (λ_ h=> .inl h)
   (λb hb=>by simpa using hs.fb b hb) (λb hb=>by simpa using hs.kb b hb)
  exact⟨C8,s1,λn=>(hf n).mono m1,hN,Td.put hni,yU.trans (iw.put k0 fD),yV.trans m1⟩
theorem yT [Inhabited Env]{f}{fn:Func}{c:Code}{args:Array Value}{w}{R:Ending->World->Prop}{F}{σ}{hp}{Q}
 (hf:P.funcs[f]? =some fn) (hb:fn.body=some c) (hw:c.wpIn (Fw none) 0 P (QQ K fn.ntmps F σ hp w Q) {tmps:=args++Array.replicate (fn.ntmps-args.size) undef,defers:=[]} w)
 (h:∀s a w',uZ K fn.ntmps F σ hp w s a w'->(Q .normal s\/Q .ret s)->∃v,(results fn a.tmps).run P w'= .ok v w'/\R (.returned v) w')
 (hx:∀id s,¬Q (.exit id) s):Calls P f args w R:=by
 refine callsIn_wide.1 (callsIn_of_wp_marks (F:=Fence.wide) (n:=0) hf hb trivial (wpIn_mono (show c.wpIn Fence.wide 0 P _ _ w from hw) ?_));have key:∀(e:Bool) s a w',uZ K fn.ntmps F σ hp w s a w'->(Q .normal s\/Q .ret s)->LeavesInM Fence.wide 0 P fn a.tmps R a.defers .returning w':=by
  rintro _ s ⟨tm,ds⟩ w' ⟨K',F',σ',hx⟩ hq
  exact Ii (λw'' hc=>h s {tmps:=tm,defers:=[]} w'' ⟨K',F',σ',hc⟩ hq) ds w' hx
 intro e a w' hq;cases e with
 |normal=>obtain⟨s,hc,h1⟩:=hq;exact key true s a w' hc (.inl h1)
 |ret=>obtain⟨s,hc,h1⟩:=hq;exact key true s a w' hc (.inr h1)
 |exit id=>obtain⟨s,hc,h0⟩:=hq;exact(hx id s h0).elim
 |goto l=>exact hq.elim
 |panic c=>exact hq.elim
 |outgrown=>exact hq.elim
def ak4(res:List DR)(r:DV)(cJ:List ak):cq->DS->Prop
 | .exit _,_=>False
 |_,s=>(aW s res).1/\(aW s res).2=r/\s.hp=cJ
def yH(res:List DR)(r:DV):cq->DS->Prop
 | .exit _,_=>False
 |_,s=>(aW s res).1/\(jB s.hp (aW s res).2).pre/\(jB s.hp (aW s res).2).val=r
theorem agX [Inhabited Env](hC:C.ok P){f}{d:ay}{iy:List DV}{hp cJ:List ak}{r}(hm:qe P f iy.length d=true)
 (h:gO C hp.length d.code (ak4 d.res r cJ) ⟨aQ 0 iy,hp⟩):ie P f=true/\PS P f iy hp r cJ:=by
 obtain⟨lI,fn,c,hf,hb,hn,hc,hr⟩:=uC hm;refine⟨lI,λK F σ w args hs ha=> ?_⟩;refine yT hf hb (bV hC d.code c none 0 K F σ hp w _ _ _ w (.inl rfl) hc h (xZ hs ha hn)) (λs a w' pM hq=> ?_) (λid s h=>h);obtain⟨K',F',σ',C8,um,Zd,hN,pT,yU,yV⟩:=pM;have Zi:=hq.elim id id;obtain⟨h1,rfl,rfl⟩:=Zi;obtain⟨v,hv,Cx⟩:=Ie um Zd hr h1;exact⟨v,hv,v,rfl,F',σ',um.weak C8,yU,yV,Cx⟩
theorem aoP [Inhabited Env]{F}{σ}{hp}{w}(hs:bF K F σ hp w){d}{v}(hv:aB F σ hp w d v)(h:(jB hp d).pre):
 ∃F',Ij K F σ hp w F' (jB hp d).hp/\aB F' none_ [] w (jB hp d).val v:=by
 unfold jB at h|-;split at h
 ·obtain⟨vs,rfl,hl,hr⟩:=hv.Ik;obtain⟨F',f,r⟩:=Qb hs (vs:=vs.toList) ⟨by simpa using hl,λj d hd=>let⟨u,hu,hr⟩:=hr j d hd;⟨u,by simpa using hu,hr⟩⟩ h;exact⟨F',f,aB.KH (by simpa using r.1) λj d hd=>let⟨u,hu,hr⟩:=r.2 j d hd;⟨u,by simpa using hu,hr⟩⟩
 ·exact Il hs hv h
theorem KF [Inhabited Env](hC:C.ok P){f}{d:ay}{iy:List DV}{r}(hm:qe P f iy.length d=true)
 (h:gO C 0 d.code (yH d.res r) ⟨aQ 0 iy,[]⟩):ie P f=true/\Ai P f iy r:=by
 obtain⟨lI,fn,c,hf,hb,hn,hc,hr⟩:=uC hm;refine⟨lI,λK F w args hF hK hX ha=> ?_⟩;have hs:bF K F none_ [] w:=⟨λh o ho=>by simp at ho,λh h' o o' g e1=>by simp at e1,hF,hK,hX⟩;refine yT hf hb (bV hC d.code c none 0 K F none_ [] w _ _ _ w (.inl rfl) hc h (xZ hs ha hn)) (λs a w' pM hq=> ?_) (λid s h=>h);obtain⟨K',F',σ',C8,um,Zd,hN,pT,yU,yV⟩:=pM;have Zi:(aW s d.res).1/\(jB s.hp (aW s d.res).2).pre/\(jB s.hp (aW s d.res).2).val=r:=hq.elim id id;obtain⟨h1,h2,rfl⟩:=Zi;obtain⟨v,hv,Cx⟩:=Ie um Zd hr h1;obtain⟨F1,f1,r1⟩:=aoP (um.weak C8) Cx h2;exact⟨v,hv,v,F1,rfl,yU.trans f1.2.1,f1.1.fb,r1⟩
end
end
end Go.Nk
