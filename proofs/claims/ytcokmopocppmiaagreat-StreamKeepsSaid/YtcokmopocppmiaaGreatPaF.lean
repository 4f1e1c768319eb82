/- Paths, by the document. -/
import Derived.Test.YtcokmopocppmiaaGreatTyT
set_option linter.all false
set_option maxRecDepth 20000
namespace Go.Proofs.YtcokmopocppmiaaGreat
open Go.Nk
def m5(c:UInt8):List UInt8->List UInt8->List (List UInt8)
 |cur,[]=>[cur]
 |cur,x::r=>if x=c then cur::m5 c [] r else m5 c (cur++[x]) r
def uI(c:UInt8)(s:List UInt8):List (List UInt8):=m5 c [] s
theorem zd(c):∀(l cur:List UInt8),1<=(m5 c cur l).length/\(m5 c cur l).length<=l.length+1
 |[],cur=>by simp[m5]
 |x::r,cur=>by
  unfold m5;split
  ·have:=zd c r [];simp only[List.length_cons];omega
  ·have:=zd c r (cur++[x]);simp only[List.length_cons];omega
theorem FV(c):∀(l cur:List UInt8) (p:List UInt8),p∈m5 c cur l->p.length<=cur.length+l.length
 |[],cur,p,h=>by simp only[m5,List.mem_singleton]at h;subst h;simp
 |x::r,cur,p,h=>by
  unfold m5 at h;split at h
  ·rcases List.mem_cons.1 h with h|h
   ·subst h;omega
   ·have:=FV c r [] p h;simp only[List.length_nil,List.length_cons]at*;omega
  ·have:=FV c r (cur++[x]) p h;simp only[List.length_append,List.length_cons,List.length_nil]at*;omega
def zI(c:UInt8)(s:List UInt8)(k f:Nat):List (List UInt8):=if k<=s.length then m5 c ((s.take k).drop f) (s.drop k)else []
theorem al8{c}{s:List UInt8}{f}:zI c s s.length f=[(s.take s.length).drop f]:=by simp[zI,m5]
theorem aac{c}{s:List UInt8}{k f}(h:s.length<k):zI c s k f=[]:=by unfold zI;rw[if_neg (by omega)]
theorem al9{c}{s:List UInt8}{k f}(h:s[k]? =some c):zI c s k f=(s.take k).drop f::zI c s (k+1) (k+1):=by
 obtain⟨hk,hc⟩:=List.getElem?_eq_some_iff.1 h;have hd:s.drop k=c::s.drop (k+1):=by rw[List.drop_eq_getElem_cons hk,hc]
 have ht:(s.take (k+1)).drop (k+1)=[]:=List.drop_eq_nil_of_le (by simp;omega);unfold zI;rw[if_pos (by omega),if_pos (by omega),hd,ht];simp[m5]
theorem apb{c x}{s}{k f}(h:s[k]? =some x)(hx:x≠c)(hf:f<=k):zI c s k f=zI c s (k+1) f:=by
 obtain⟨hk,hc⟩:=List.getElem?_eq_some_iff.1 h;have hd:s.drop k=x::s.drop (k+1):=by rw[List.drop_eq_getElem_cons hk,hc]
 have ht:(s.take (k+1)).drop f=(s.take k).drop f++[x]:=by rw[List.take_add_one,h];simp only[Option.toList_some];rw[List.drop_append_of_le_length (by simp;omega)]
 unfold zI;rw[if_pos (by omega),if_pos (by omega),hd,ht];simp[m5,hx]
noncomputable def ama:List DV->Prop×DV:=b5 eS eY λs c=>(s.length<=1000000,.sl (dI (uI c s)))
def aad(s:List UInt8)(c:UInt8):=show ama [.str s,.int .u8 c.toNat]=_ from aO ik SU _ s c
theorem Iz:aF Tryz.prog 215 ama:=by
 refine aF.oU (ps:=[]) (hs:=[]) trivial trivial Kt λs c h=> ?_;try dsimp only at h
 have h:s.length<=1000000:=h;refine aq (A2 @xV.eq_1 @eY.eq_1) (JJ ?_);refine gT (λa:Nat×Nat×List (List UInt8)=>⟨[(0,.str s),(1,.int .u8 c.toNat),(5,.own 0 a.2.2.length 0 a.2.2.length),(6,.int .i64 a.2.1),(7,.int .i64 a.1)],[⟨.aN,1,dI a.2.2⟩]⟩)
  (λa=>a.1<=s.length+1/\a.2.1<=a.1/\a.2.2.length<=a.1/\a.2.2++zI c s a.1 a.2.1=uI c s) (λa=>s.length+1-a.1) (0,0,[]) (by exact Nat.zero_le _) CT ⟨by simp,Nat.le_refl _,Nat.le_refl _,by simp[zI,uI]⟩ (λa ha=> ?_)
 obtain⟨k,f,o⟩:=a;obtain⟨g1,g2,g3,g4⟩:=ha;simp only at g1 g2 g3 g4;by_cases d:k<=s.length
 ·by_cases dk:k=s.length
  ·subst dk;rw[al8,List.take_length]at g4;refine aq (A4 @aj @qM.eq_def @eG.eq_def @Pr) (JJ (λhn=> ?_));exact⟨(s.length+1,s.length+1,o++[s.drop f]),CT,⟨by simp,by simp,by simp;omega,by simp only;rw[aac (by omega),List.append_nil];exact g4⟩,by simp only;omega⟩
  ·have hx:s[k]? =some s[k]:=List.getElem?_eq_getElem (by omega);have hg:=getD_some (d:=0) hx;generalize s[k]=x at*;by_cases hc:x=c
   ·subst hc;rw[al9 hx]at g4;refine aq (A5 @aj @qM.eq_def @eG.eq_def @Pr hg) (JJ (λhn hn=> ?_));exact⟨(k+1,k+1,o++[(s.take k).drop f]),CT,⟨by simp only;omega,by simp,by simp;omega,by simpa using g4⟩,by simp only;omega⟩
   ·rw[apb hx hc (by omega)]at g4;have hb:((x.toNat:Int)==(c.toNat:Int))=false:=by rw[Zh];simpa using hc
    refine aq (A2 hg hb) (JJ (λhn hn=> ?_));exact⟨(k+1,f,o),CT,⟨by simp only;omega,by simp only;omega,by simp only;omega,g4⟩,by simp only;omega⟩
 ·rw[aac (by omega),List.append_nil]at g4;subst g4;exact aq (A2 @aj @Vs) zz
def aff(b:List UInt8):Bool:=decide (1<=b.length)&&decide (b.length<=3)&&(b.getD 0 0 !=48)&&b.all (λx=>inY x 48 57)
def amc:List (List UInt8)->Bool
 |[a]=>pz a
 |[a,b]=>pz a&&aff b
 |_=>false
def ahA(x:List UInt8):Bool:=amc (uI 46 x)
theorem apc(x:List UInt8):ahA x=amc (uI 46 x):=rfl
def akm(s:List UInt8):Bool:=(uI 47 s).all ahA
theorem aqz(x:UInt8):((x.toNat:Int)==48)=(x==48):=by have:=Zh x 48;simpa using this
noncomputable def ab9:List DV->Prop×DV:=bB eS λs=>(s.length<=1000000,.bool (akm s))
def agv(s:List UInt8):=show ab9 [.str s]=_ from aH ik _ s
theorem E0:aF Tryz.prog 210 ab9:=by
 refine aF.mo (ps:=[(215,ama),(204,Lv),(216,apd)]) (hs:=[]) ⟨Iz,gI,ye,trivial⟩ trivial HW λs h=> ?_;try dsimp only at h
 have h:s.length<=1000000:=h;have e0:=aad s 47;rw[eq_true h]at e0;have y0:(47:UInt8).toNat=47:=rfl;simp only[y0,Int.cast_ofNat_Int]at e0;have hm:=FV 47 s [];have hl:=(zd 47 s []).2;rw[show m5 47 [] s=uI 47 s from rfl]at hm hl;rw[show akm s=(uI 47 s).all ahA from rfl];generalize uI 47 s=l at*;refine aq (A2 @vU.eq_1 e0) (JJ ?_);refine ai l (λk (_:Unit)=>⟨[(3,.sl (dI l)),(4,.int .i64 k)],[]⟩) (λk r _=>r.all ahA=l.all ahA) () (Nat.zero_le _) CT rfl (λk x r _ d hx hd hr=> ?_) (λk _ e hr=> ?_)
 ·simp only[List.all_cons]at hr;have e1:=aad x 46;have y1:(46:UInt8).toNat=46:=rfl;have Rf:x.length<=1000000:=by have:=hm x (mc hd);simp only[List.length_nil]at this;omega
  rw[eq_true Rf]at e1;simp only[y1,Int.cast_ofNat_Int]at e1;have hp:=(zd 46 x []).1;rw[show m5 46 [] x=uI 46 x from rfl]at hp;rw[apc]at hr;generalize uI 46 x=p at*;rcases p with _|⟨a,_|⟨b,_|⟨c,p⟩⟩⟩
  ·simp at hp
  ·simp only[amc]at hr;simp only[dI,List.map_cons,List.map_nil]at e1;refine aq (A5 @rh @aj d (fk hx) e1) (A2 ?_ (JJ ?_))<;>intros;all_goals first
    |exact⟨(),CT,by grind⟩
    |grind
  ·simp only[amc]at hr;simp only[dI,List.map_cons,List.map_nil]at e1;by_cases q:pz a=true/\1<=b.length/\b.length<=3/\(b.getD 0 0==48)=false;rotate_left
   ·have hf:l.all ahA=false:=by rw[<-hr];simp only[aff];grind
    rw[hf];refine aq (A6 @rh @aj d (fk hx) e1 @aqz) (JJ (λhn hn hn hn=> ?_));all_goals grind
   obtain⟨q1,q2,q3,q4⟩:=q;refine aq (A8 @rh @aj d (fk hx) e1 @aqz q1 q4) (JJ (λhn hn=> ?_));have asT:aff b=b.all (λx=>inY x 48 57):=by simp only[aff,q2,q3,decide_true,Bool.true_and,bne,q4,Bool.not_false]
   rw[q1,asT,Bool.true_and]at hr;refine ai b (λj (_:Unit)=>⟨[(3,.sl (dI l)),(4,.int .i64 k),(6,.str b),(7,.int .i64 j)],[]⟩) (λj r' _=>(r'.all λx=>inY x 48 57)=b.all λx=>inY x 48 57) () (Nat.zero_le _) CT rfl (λj y r' _ d' hy oF qB=> ?_) (λj _ e' qB=> ?_)
   ·simp only[List.all_cons]at qB;have e4:=Ce y 48 57;have y5:(48:UInt8).toNat=48:=rfl;have y6:(57:UInt8).toNat=57:=rfl;simp only[y5,y6,Int.cast_ofNat_Int]at e4
    ((have az:=Bool.and_self;refine aL.of ?_);(repeat' (first|((with_reducible refine aL.to ?_);(repeat(first|(simp only[↓rP,rT,rU,aC,aw,cI,cS,IX,aW,DR.val,jB,iq,hH,DV.aY,bh,bn,cn,bX,bW,dE,Nat.reduceEqDiff,↓reduceIte,d',getD_some hy,e4,az])|((simp(disch:=omega) only[tH])))))|((with_reducible refine And.intro ?_ ?_); . omega)|(((((with_reducible refine cN (t:= ?_) ?_ (λcZ=> ?_) (λcZ=> ?_));rotate_left; . (rfl)))<;>(have hn:=cZ;have az:=cZ)<;>(try simp only[Bool.not_eq_true',Bool.not_eq_false']at hn)<;>(refine aL.of ?_)))|fail)))
    all_goals first
     |exact⟨(),CT,by grind⟩
     |grind
   ·simp only[List.all_nil]at qB;rw[<-qB,Bool.true_and]at hr;refine aq @e' (JJ ?_);exact⟨(),CT,hr⟩
  ·simp only[amc]at hr;simp only[dI,List.map_cons]at e1;exact aq (A4 @aj d (fk hx) e1) zz;all_goals grind
 ·simp only[List.all_nil]at hr;exact aq (A3 @aj e (Eq.symm hr)) zz
end Go.Proofs.YtcokmopocppmiaaGreat
