/- Names; which enums may be. -/
import Derived.Test.YtcokmopocppmiaaGreatTyI
set_option linter.all false
set_option maxRecDepth 20000
namespace Go.Proofs.YtcokmopocppmiaaGreat
noncomputable section
open Go.Nk
def inY(c a b:UInt8):Bool:=decide (a.toNat<=c.toNat)&&decide (c.toNat<=b.toNat)
def apd:List DV->Prop×DV:=eR eY eY eY λc a b=>(True,.bool (inY c a b))
def Ce(c:UInt8)(a:UInt8)(b:UInt8):=show apd [.int .u8 c.toNat,.int .u8 a.toNat,.int .u8 b.toNat]=_ from bz SU SU SU _ c a b
theorem ye:aF Tryz.prog 216 apd:=by refine aF.uR (ps:=[]) (hs:=[]) trivial trivial MK λc a b _=> ?_;refine aq (A2 @zD.eq_1 @eY.eq_1) (A2 ?_ (JJ ?_))<;>intros;all_goals grind[inY]
def Qt(c:UInt8):Bool:=inY c 97 122||inY c 65 90||inY c 48 57||c==95
def DM(s:List UInt8)(a b:UInt8):Bool:=decide (1<=s.length)&&decide (s.length<=12)&&inY (s.getD 0 0) a b&&s.all Qt
def We:List DV->Prop×DV:=eR eS eY eY λs a b=>(True,.bool (DM s a b))
def TG(s)(a:UInt8)(b:UInt8):=show We [.str s,.int .u8 a.toNat,.int .u8 b.toNat]=_ from bz ik SU SU _ s a b
theorem uJ:aF Tryz.prog 212 We:=by
 refine aF.uR (ps:=[(216,apd)]) (hs:=[]) ⟨ye,trivial⟩ trivial HX λs a b _=> ?_;by_cases q:1<=s.length/\s.length<=12;rotate_left
 ·have hr:DM s a b=false:=by simp only[DM];grind
  have e1:=λx=>Ce x a b;exact aq (A3 @lB.eq_1 @eY.eq_1 hr) zz
 obtain⟨q1,q2⟩:=q;have e0:=Ce (s.getD 0 0) a b;by_cases q3:inY (s.getD 0 0) a b=true;rotate_left
 ·have hr:DM s a b=false:=by simp only[DM];grind
  refine aq (A4 @lB.eq_1 @eY.eq_1 hr e0) (JJ (λhn hn hn=> ?_));all_goals first|omega|grind
 have hr:DM s a b=s.all Qt:=by unfold DM;rw[q3];simp only[q1,q2,decide_true,Bool.true_and]
 rw[hr];refine aq (A4 @lB.eq_1 @eY.eq_1 e0 q3) (JJ (λhn hn=> ?_));refine ai s (λk (_:Unit)=>⟨[(0,.str s),(7,.int .i64 k)],[]⟩) (λk r _=>r.all Qt=s.all Qt) () (Nat.zero_le _) CT rfl (λk x r _ d hx hd hr=> ?_) (λk _ e hr=> ?_)
 ·simp only[List.all_cons]at hr;have e1:=Ce x 97 122;have e2:=Ce x 65 90;have e3:=Ce x 48 57;have y1:(97:UInt8).toNat=97:=rfl;have y2:(122:UInt8).toNat=122:=rfl;have y3:(65:UInt8).toNat=65:=rfl;have y4:(90:UInt8).toNat=90:=rfl;have y5:(48:UInt8).toNat=48:=rfl;have y6:(57:UInt8).toNat=57:=rfl;simp only[y1,y2,y3,y4,y5,y6,Int.cast_ofNat_Int]at e1 e2 e3
  ((have az:=Bool.and_self;refine aL.of ?_);(repeat' (first|((with_reducible refine aL.to ?_);(repeat(first|(simp only[↓rP,rT,rU,aC,aw,cI,cS,IX,aW,DR.val,jB,iq,hH,DV.aY,bh,bn,cn,bX,bW,dE,Nat.reduceEqDiff,↓reduceIte,reduceCtorEq,d,getD_some hx,e1,e2,e3,auW,az])|((simp(disch:=omega) only[tH])))))|((with_reducible refine And.intro ?_ ?_); . omega)|(((first|((with_reducible refine cN (t:= ?_) ?_ (λcZ=> ?_) (λcZ=> ?_));rotate_left; . (rfl))|((with_reducible refine bt (t:= ?_) ?_ (λcZ=> ?_) (λcZ=> ?_));rotate_left; . (rfl)))<;>(have hn:=cZ;have az:=cZ)<;>(try simp only[beq_iff_eq,ne_eq,beq_eq_false_iff_ne,Bool.not_eq_true',Bool.not_eq_false']at hn)<;>(refine aL.of ?_)))|fail)))
  all_goals first
   |exact⟨(),CT,by grind[Qt]⟩
   |grind[Qt]
 ·simp only[List.all_nil]at hr;exact aq (A2 e (Eq.symm hr)) zz
def Bw:List (List UInt8):=[[110,111,100,101],[114,101,116,117,114,110,115],[118,97,114],[108,101,116],[116,101,108],[101,110,117,109],[105,102],[116,104,101,110],[101,108,115,101],[102,98,121],[112,114,101],[119,104,101,110],[109,101,114,103,101],[101,118,101,114,121],[110,111,116],[97,110,100],[111,114],[120,111,114],[109,111,100],[116,114,117,101],[102,97,108,115,101],[105,110,116],[98,111,111,108],[119,105,116,104]]
def Wf:List DV->Prop×DV:=Sf (True,eSs Bw)
theorem adh:Wf []=(True,.sl (dI Bw)):=Gq _
theorem Df:aF Tryz.prog 217 Wf:=by refine aF.mk0 (ps:=[]) (hs:=[]) trivial trivial Fu λ_=> ?_;exact aq (A4 @uw.eq_1 @eSs.eq_1 @dI.eq_1 @Bw.eq_1) zz
def afg(s:List UInt8):Bool:=Bw.any (·==s)
def adi:List DV->Prop×DV:=bB eS λs=>(True,.bool (afg s))
def ahB(s):=show adi [.str s]=_ from aH ik _ s
theorem FW:aF Tryz.prog 213 adi:=by
 refine aF.mo (ps:=[(217,Wf)]) (hs:=[]) ⟨Df,trivial⟩ trivial HY λs _=> ?_;refine aq (A2 @vV.eq_1 @adh) (JJ ?_);have hl:Bw.length=24:=rfl;refine ai Bw (λk (_:Unit)=>⟨[(0,.str s),(3,.sl (dI Bw)),(4,.int .i64 k)],[]⟩) (λk r _=>r.any (·==s)=Bw.any (·==s)) () (Nat.zero_le _) CT rfl (λk x r _ d hx hd hr=> ?_) (λk _ e hr=> ?_)
 ·simp only[List.any_cons]at hr;refine aq (A3 @aj d (fk hx)) (A2 ?_ (JJ ?_))<;>intros;all_goals first
   |exact⟨(),CT,by grind⟩
   |grind[afg]
 ·simp only[List.any_nil]at hr;exact aq (A4 @aj e @afg.eq_1 (Eq.symm hr)) zz
def pz(s:List UInt8):Bool:=DM s 97 122&& !afg s
def Dw(s:List UInt8):Bool:=DM s 65 90
def Lv:List DV->Prop×DV:=bB eS λs=>(True,.bool (pz s))
def rh(s):=show Lv [.str s]=_ from aH ik _ s
def JZ:List DV->Prop×DV:=bB eS λs=>(True,.bool (Dw s))
def BV(s):=show JZ [.str s]=_ from aH ik _ s
theorem gI:aF Tryz.prog 204 Lv:=by refine aF.mo (ps:=[(212,We),(213,adi)]) (hs:=[]) ⟨uJ,FW,trivial⟩ trivial Ks λs _=> ?_;have e1:=TG s 97 122;have y1:(97:UInt8).toNat=97:=rfl;have y2:(122:UInt8).toNat=122:=rfl;simp only[y1,y2,Int.cast_ofNat_Int]at e1;refine aq (A3 @xU.eq_1 @ahB e1) (A2 ?_ (JJ ?_))<;>intros;all_goals grind[pz]
theorem kp:aF Tryz.prog 205 JZ:=by refine aF.mo (ps:=[(212,We)]) (hs:=[]) ⟨uJ,trivial⟩ trivial HV λs _=> ?_;have e1:=TG s 65 90;have y1:(65:UInt8).toNat=65:=rfl;have y2:(90:UInt8).toNat=90:=rfl;simp only[y1,y2,Int.cast_ofNat_Int]at e1;refine aq (A2 @vT.eq_1 e1) (JJ ?_);rfl
def ri(l:List (List UInt8)):Bool:=decide (l.Pairwise (·≠·))
theorem ahC{l:List (List UInt8)}{k}{x}(h:l[k]? =some x):(l.take (k+1)).Pairwise (·≠·)↔(l.take k).Pairwise (·≠·)/\∀y∈l.take k,y≠x:=by rw[List.take_add_one,h,List.pairwise_append];simp
theorem amd{l:List (List UInt8)}{k j:Nat}{x:List UInt8}(h:l[k]? =some x)(hj:j<k)(h2:l[j]? =some x):ri l=false:=by simp only[ri,decide_eq_false_iff_not];intro hp;rw[List.pairwise_iff_getElem]at hp;obtain⟨h3,h4⟩:=List.getElem?_eq_some_iff.1 h;obtain⟨h5,h6⟩:=List.getElem?_eq_some_iff.1 h2;exact hp j k h5 h3 hj (h6.trans h4.symm)
def O7:List DV->Prop×DV:=bB eSs λl=>(l.length<=1000000000,.bool (ri l))
def BW(l:List (List UInt8)):=show O7 [.sl (dI l)]=_ from aH aj7 _ l
theorem nV:aF Tryz.prog 194 O7:=by
 refine aF.mo (ps:=[]) (hs:=[]) trivial trivial HU λl h=> ?_;try dsimp only at h
 refine aq (A2 @vS.eq_1 @eSs.eq_1) (JJ ?_);refine ai l (λk (_:Unit)=>⟨[(0,.sl (dI l)),(3,.int .i64 k)],[]⟩) (λk r _=>(l.take k).Pairwise (·≠·)) () (Nat.zero_le _) CT (by simp) (λk x r _ d hx hd hr=> ?_) (λk _ e hr=> ?_)
 ·have hl:(l.take k).length=k:=by simp;omega
  refine aq (A2 @aj d) (JJ ?_);refine ai (l.take k) (λj (_:Unit)=>⟨[(0,.sl (dI l)),(3,.int .i64 k),(4,.int .i64 j)],[]⟩) (λj r _=>(∀y∈l.take k,y∈r\/y≠x)) () (Nat.zero_le _) CT (λy hy=> .inl hy) (λj y r _ d2 hy hd2 IW=> ?_) (λj _ e IW=> ?_)
  ·have hj:j<k:=by omega
   rw[List.getElem?_take,if_pos hj]at hy;have d3:j<l.length:=by omega
   refine aq (A6 @aj d d3 hj (fk hx) (fk hy)) (A2 (λhn=> ?_) (JJ (λhn=> ?_)))
   ·have e:y=x:=by simpa using hn
    subst e;rw[amd hx hj hy]
   ·have e:y≠x:=by simpa using hn
    exact⟨(),CT,λz hz=>by rcases IW z hz with h|h;rcases List.mem_cons.1 h with rfl|h;exact .inr e;exact .inl h;exact .inr h⟩
  ·have hj:¬j<k:=by omega
   refine aq @hj (JJ ?_);exact⟨(),CT,(ahC hx).2 ⟨hr,λy hy=>(IW y hy).elim (λh=>by cases h) id⟩⟩
 ·rw[e,List.take_length]at hr;have:ri l=true:=decide_eq_true hr;exact aq (A3 @aj e this) zz
def Bx(e:En):Bool:= !pz e.name||e.ct.length==0
def pP(l:List En):List (List UInt8):=l.map (·.name)
def jv(l:List En):List (List UInt8):=(l.map (·.ct)).flatten
theorem aae(e:En)(l):jv (e::l)=e.ct++jv l:=by simp[jv]
theorem adj:pP []=[]:=rfl
theorem adk:jv []=[]:=rfl
def TH(l:List En):Bool:=decide (4<l.length)||l.any λe=>decide (6<e.ct.length)
def qm(l:List En):Int:=if TH l then 4 else if l.any Bx then 1 else if(jv l).any (λc=> !Dw c)then 1 else if ri (pP l)&&ri (jv l)then 0 else 6
def O6:List DV->Prop×DV:=bB lN λl=>(True,.int .i64 (qm l))
def vI(l:List En):=show O6 [.sl (l.map jQ)]=_ from aH mr _ l
theorem CP:aF Tryz.prog 192 O6:=by
 refine aF.mo (ps:=[(204,Lv),(205,JZ),(194,O7)]) (hs:=[]) ⟨gI,kp,nV,trivial⟩ trivial Ft λl _=> ?_;by_cases q:4<l.length
 ·have hr:qm l=4:=by simp[qm,TH,q]
  exact aq (A3 @ot.eq_1 @lN.eq_1 hr) zz
 refine aq (A2 @ot.eq_1 @lN.eq_1) (JJ (λhn=> ?_));refine ai l (λk (s:List (List UInt8)×List (List UInt8))=>⟨[(0,.sl (l.map jQ)),(3,.own 0 s.1.length 0 s.1.length),(4,.own 1 s.2.length 0 s.2.length),(5,.int .i64 k)],[⟨.aN,1,dI s.1⟩,⟨.aN,1,dI s.2⟩]⟩)
  (λk r s=>s.1++pP r=pP l/\s.2++jv r=jv l/\(r.any λe=>decide (6<e.ct.length))=(l.any λe=>decide (6<e.ct.length))/\s.1.length=k/\s.2.length<=6*k) ([],[]) (Nat.zero_le _) CT ⟨rfl,rfl,rfl,rfl,by simp⟩ (λk x r s d hx hd hr=> ?_) (λk s e hr=> ?_)
 ·obtain⟨o,c⟩:=s;obtain⟨g1,g2,g3,g4,g5⟩:=hr;simp only[pP,List.map_cons,aae,List.any_cons]at g1 g2 g3 g4 g5;refine aq (A6 @aj @td d (af jQ hx) @ack @Pr) (A2 ?_ (JJ ?_))<;>intros;all_goals first
   |(refine⟨(o++[x.name],c++x.ct),CT,?_,?_,?_,?_,?_⟩
     ·simpa[pP]using g1
     ·simpa using g2
     ·rw[<-g3];simp;omega
     ·simp;omega
     ·simp;omega)
   |(have:TH l=true:=by
      simp only[TH,Bool.or_eq_true];refine .inr ?_;rw[<-g3];simp;omega
     simp[qm,this])
 obtain⟨o,c⟩:=s;obtain⟨g1,g2,g3,g4,g5⟩:=hr;simp only[adj,adk,List.append_nil,List.any_nil]at g1 g2 g3 g4 g5;have hm:TH l=false:=by simp[TH,q,<-g3]
 have hr:qm l=if l.any Bx then 1 else if(jv l).any (λc=> !Dw c)then 1 else if ri (pP l)&&ri (jv l)then 0 else 6:=by simp[qm,hm]
 rw[hr];subst g1 g2;have b1:(pP l).length<=4:=by omega
 have b2:(jv l).length<=24:=by omega
 refine aq @e (JJ ?_);refine ai l (λk (_:Unit)=>⟨[(0,.sl (l.map jQ)),(3,.own 0 (pP l).length 0 (pP l).length),(4,.own 1 (jv l).length 0 (jv l).length),(6,.int .i64 k)],[⟨.aN,1,dI (pP l)⟩,⟨.aN,1,dI (jv l)⟩]⟩)
  (λk r _=>r.any Bx=l.any Bx) () (Nat.zero_le _) CT rfl (λk x r _ d hx hd hr=> ?_) (λk _ e hr=> ?_)
 ·simp only[List.any_cons]at hr;refine aq (A4 @rh @aj d (af jQ hx)) (A3 ?_ ?_ (JJ ?_))<;>intros;all_goals first
   |exact⟨(),CT,by rw[<-hr];grind[Bx]⟩
   |(have:l.any Bx=true:=by rw[<-hr];grind[Bx]
     simp[this])
 simp only[List.any_nil]at hr;rw[<-hr];refine aq @e (JJ ?_);refine ai (jv l) (λk (_:Unit)=>⟨[(3,.own 0 (pP l).length 0 (pP l).length),(4,.own 1 (jv l).length 0 (jv l).length),(7,.int .i64 k)],[⟨.aN,1,dI (pP l)⟩,⟨.aN,1,dI (jv l)⟩]⟩)
  (λk r _=>(r.any λc=> !Dw c)=((jv l).any λc=> !Dw c)) () (Nat.zero_le _) CT rfl (λk x r _ d hx hd hr=> ?_) (λk _ e hr=> ?_)
 ·simp only[List.any_cons]at hr;refine aq (A4 @BV @aj d (fk hx)) (A2 ?_ (JJ ?_))<;>intros;all_goals first
   |exact⟨(),CT,by rw[<-hr];grind⟩
   |(have:((jv l).any λc=> !Dw c)=true:=by rw[<-hr];grind
     simp[this])
 simp only[List.any_nil]at hr;rw[<-hr];refine aq (A4 @BW @aj @Vs e) (A3 ?_ ?_ (JJ ?_))<;>intros;all_goals grind
end
end Go.Proofs.YtcokmopocppmiaaGreat
