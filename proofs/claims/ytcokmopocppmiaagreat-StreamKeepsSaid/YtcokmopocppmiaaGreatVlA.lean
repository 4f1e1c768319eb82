/- What a walk at the world's level tells, as what a pure function tells. -/
import Derived.Lib.ItoaNum
import Derived.Lib.Join
import Derived.Test.YtcokmopocppmiaaGreatTyI
import Derived.Test.YtcokmopocppmiaaGreatVls
set_option linter.all false
set_option maxRecDepth 20000
namespace Go.Proofs.YtcokmopocppmiaaGreat
open Go.Nk Go.RowKit
open Go.Nk
theorem F5:∀(k u:Nat),1<=k->u<10^k->Lib.nDigits u<=k
 |0,u,h,_=>by omega
 |k+1,u,_,h=>by
  by_cases hu:u<10
  ·rw[Lib.nDigits_small hu];omega
  ·rw[Lib.nDigits_big hu];have hk:1<=k:=by
    rcases Nat.eq_zero_or_pos k with e|e
    ·subst e;simp at h;omega
    ·exact e
   have:=F5 k (u/10) hk (by rw[Nat.pow_succ]at h;omega);omega
theorem OH{n}(h:OG n):(Lib.itoa n).length<=21:=by
 obtain⟨h1,h2⟩:=h;unfold Lib.itoa;split
 ·simp only[List.length_cons,Lib.decDigits_length];have:=F5 20 n.natAbs (by decide) (by omega);omega
 ·rw[Lib.decDigits_length];have:=F5 20 n.toNat (by decide) (by omega);omega
def dgt(u:Nat)(s:List UInt8):List UInt8:=if u=0/\s≠[]then s else Lib.decDigits u++s
theorem IB(u)(s)(h:0<u\/s=[]):dgt (u/10) (UInt8.ofNat (48+u%10)::s)=dgt u s:=by
 have e1:dgt u s=Lib.decDigits u++s:=by
  unfold dgt;rw[if_neg]
  rintro⟨h1,h2⟩
  rcases h with h|h
  ·omega
  ·exact h2 h
 rw[e1,Lib.decDigits];unfold dgt;by_cases hu:u<10
 ·have:u/10=0:=by omega
  have e2:u%10=u:=by omega
  rw[if_pos ⟨this,by simp⟩,dif_pos hu,e2];rfl
 ·have:u/10≠0:=by omega
  rw[if_neg (λx=>this x.1),dif_neg hu];simp
theorem afj(s)(h:s≠[]):dgt 0 s=s:=by unfold dgt;rw[if_pos ⟨rfl,h⟩]
theorem TL(u):dgt u []=Lib.decDigits u:=by unfold dgt;rw[if_neg (λx=>x.2 rfl)];simp
noncomputable def OE:List DV->Prop×DV:=bB eI λn=>(OG n,.str (Lib.itoa n))
def vo(n):=show OE [.int .i64 n]=_ from aH b6 _ n
theorem aag{n:Int}(h:OG n)(h0:n<0):IntKind.u64.wrap n=n+18446744073709551616/\IntKind.u64.wrap (0-(n+18446744073709551616))=(n.natAbs:Int):=by
 obtain⟨h1,h2⟩:=h;constructor
 ·rw[IntKind.wrap_u64];omega
 ·rw[IntKind.wrap_u64];omega
theorem Qw(u:Nat):(UInt8.ofNat (IntKind.u8.wrap (IntKind.u64.wrap (48+((u:Int).tmod 10)))).toNat)=UInt8.ofNat (48+u%10):=by
 have e:((u:Int).tmod 10)=((u%10:Nat):Int):=by rw[Int.tmod_eq_emod_of_nonneg (by omega)];omega
 rw[e,IntKind.wrap_u64,IntKind.wrap_u8];congr 1;omega
theorem afk(u)(s:List UInt8):s.length<=(dgt u s).length:=by
 unfold dgt;split
 ·exact Nat.le_refl _
 ·rw[List.length_append];omega
theorem AO:aF Tryz.prog 135 OE:=by
 refine aF.mo (ps:=[]) (hs:=[]) trivial trivial CZ λn h=> ?_;try dsimp only at h
 have h:OG n:=h;have hlen:=OH h;obtain⟨u0,hu0,hua,hit⟩:∃u0:Nat,u0<18446744073709551616/\(if n<0 then IntKind.u64.wrap (0-IntKind.u64.wrap n)else IntKind.u64.wrap n)=(u0:Int)/\Lib.itoa n=if n<0 then 45::Lib.decDigits u0 else Lib.decDigits u0:=by
  unfold Lib.itoa;by_cases h0:n<0
  ·obtain⟨e1,e2⟩:=aag h h0;exact⟨n.natAbs,by have:=h.1;omega,by rw[if_pos h0,e1,e2],by rw[if_pos h0,if_pos h0]⟩
  ·exact⟨n.toNat,by have:=h.2;omega,by rw[if_neg h0,IntKind.wrap_u64];have:=h.2;omega,by rw[if_neg h0,if_neg h0]⟩
 have uT:(Lib.decDigits u0).length<=21:=by
  rw[hit]at hlen;split at hlen
  ·simp only[List.length_cons]at hlen;omega
  ·exact hlen
 by_cases h0:n<0
 ·rw[if_pos h0]at hua hit;refine aq (A2 @mY.eq_1 h0) (JJ ?_);refine gT (λx:Nat×List UInt8=>⟨[(0,.int .i64 n),(3,.int .u64 x.1),(4,.str x.2)],[]⟩) (λx=>x.1<18446744073709551616/\dgt x.1 x.2=Lib.decDigits u0) (λx=>2*x.1+(if x.2=[]then 1 else 0)) (u0,[]) (Nat.zero_le _) (CF @hua) ⟨hu0,TL u0⟩ λx hx=> ?_;obtain⟨u,s⟩:=x;obtain⟨hx1,DW⟩:=hx;simp only at hx1 DW|-;have hsl:=afk u s;rw[DW]at hsl;have m10:((10:Int)=0)=False:=by simp
  have eb:=Qw u;have eb2:b2f [DV.int .u8 (IntKind.u8.wrap (IntKind.u64.wrap (48+(u:Int).tmod 10)))]=UInt8.ofNat (48+u%10):=eb;have eq1:IntKind.u64.wrap ((u:Int).tdiv 10)=((u/10:Nat):Int):=by rw[Int.tdiv_eq_ediv_of_nonneg (by omega),IntKind.wrap_u64];omega
  have sm:1+s.length<=4611686018427387904:=by omega
  by_cases u1:0<u
  ·have u2:(0:Int)<(u:Int):=by omega
   refine aq (A4 u2 eq1 sm @iI.eq_1) (JJ ?_);all_goals first
    |omega
    |(refine⟨(u/10,UInt8.ofNat (48+u%10)::s),?_,⟨by simp only;omega,by rw[IB u s (.inl u1)];exact DW⟩,by simp only;rw[if_neg (by simp)];omega⟩
      simp only[dK,List.map_cons,List.map_nil,cw,Nk.get_nil,Nat.reduceEqDiff,↓reduceIte,Nat.succ_ne_self,DV.cut,DV.rR,List.take_nil,reduceCtorEq,eb2])
  have u0e:u=0:=by omega
  subst u0e;by_cases s1:s=[]
  ·subst s1;refine aq @iI.eq_1 (JJ ?_);all_goals first
    |omega
    |(refine⟨(0,[48]),?_,⟨by simp,(IB 0 [] (.inr rfl)).trans DW⟩,by simp⟩
      simp only[dK,List.map_cons,List.map_nil,cw,Nk.get_nil,Nat.reduceEqDiff,↓reduceIte,Nat.succ_ne_self,DV.cut,DV.rR,List.take_nil,reduceCtorEq];rfl)
  ·rw[afj s s1]at DW;have s2:(s==[])=false:=by simpa using s1
   rw[hit,<-DW];exact aq (A4 s2 h0 @iI.eq_1 sm) zz
 ·rw[if_neg h0]at hua hit;refine aq (A2 @mY.eq_1 h0) (JJ ?_);refine gT (λx:Nat×List UInt8=>⟨[(0,.int .i64 n),(3,.int .u64 x.1),(4,.str x.2)],[]⟩) (λx=>x.1<18446744073709551616/\dgt x.1 x.2=Lib.decDigits u0) (λx=>2*x.1+(if x.2=[]then 1 else 0)) (u0,[]) (Nat.zero_le _) (CF @hua) ⟨hu0,TL u0⟩ λx hx=> ?_;obtain⟨u,s⟩:=x;obtain⟨hx1,DW⟩:=hx;simp only at hx1 DW|-;have hsl:=afk u s;rw[DW]at hsl;have m10:((10:Int)=0)=False:=by simp
  have eb:=Qw u;have eb2:b2f [DV.int .u8 (IntKind.u8.wrap (IntKind.u64.wrap (48+(u:Int).tmod 10)))]=UInt8.ofNat (48+u%10):=eb;have eq1:IntKind.u64.wrap ((u:Int).tdiv 10)=((u/10:Nat):Int):=by rw[Int.tdiv_eq_ediv_of_nonneg (by omega),IntKind.wrap_u64];omega
  have sm:1+s.length<=4611686018427387904:=by omega
  by_cases u1:0<u
  ·have u2:(0:Int)<(u:Int):=by omega
   refine aq (A4 u2 eq1 sm @iI.eq_1) (JJ ?_);all_goals first
    |omega
    |(refine⟨(u/10,UInt8.ofNat (48+u%10)::s),?_,⟨by simp only;omega,by rw[IB u s (.inl u1)];exact DW⟩,by simp only;rw[if_neg (by simp)];omega⟩
      simp only[dK,List.map_cons,List.map_nil,cw,Nk.get_nil,Nat.reduceEqDiff,↓reduceIte,Nat.succ_ne_self,DV.cut,DV.rR,List.take_nil,reduceCtorEq,eb2])
  have u0e:u=0:=by omega
  subst u0e;by_cases s1:s=[]
  ·subst s1;refine aq @iI.eq_1 (JJ ?_);all_goals first
    |omega
    |(refine⟨(0,[48]),?_,⟨by simp,(IB 0 [] (.inr rfl)).trans DW⟩,by simp⟩
      simp only[dK,List.map_cons,List.map_nil,cw,Nk.get_nil,Nat.reduceEqDiff,↓reduceIte,Nat.succ_ne_self,DV.cut,DV.rR,List.take_nil,reduceCtorEq];rfl)
  ·rw[afj s s1]at DW;have s2:(s==[])=false:=by simpa using s1
   rw[hit,<-DW];exact aq (A2 s2 h0) zz
def zeroV(t:Ty):List Int:=List.replicate (fS t).toNat 0
noncomputable def abD:List DV->Prop×DV:=bB tW λt=>(True,.sl (cX (zeroV t)))
def af8(t):=show abD [.agg (cK t)]=_ from aH qf _ t
theorem Ep:aF Tryz.prog 152 abD:=by
 refine aF.mo (ps:=[(60,tc)]) (hs:=[]) ⟨Dx,trivial⟩ trivial HT λt _=> ?_;have hb:=Kl t;have KK:(fS t).toNat<=8:=by omega
 have hci:((fS t).toNat:Int)=fS t:=by omega
 unfold zeroV;generalize hc:(fS t).toNat=c at hci KK;have ec:=yQ t;rw[<-hci]at ec;simp only[cK]at ec;refine aq (A2 @vQ.eq_1 @tW.eq_1) (JJ ?_);refine gT (λk:Nat=>⟨[(1,.ref (cK t)),(3,.own 0 k 0 k),(4,.int .i64 k)],[⟨.aN,1,cX (List.replicate k 0)⟩]⟩) (λk=>k<=c) (λk=>c-k) 0 (by exact Nat.zero_le _) (CF (A2 @cX.eq_1 @List.replicate_zero.{0})) (Nat.zero_le _) λk hk=> ?_;have w:IntKind.i64.wrap ((k:Int)+1)=((k+1:Nat):Int):=by rw[ig (by omega)];omega
 have e2:List.replicate k (0:Int)++[0]=List.replicate (k+1) 0:=by rw[List.replicate_succ']
 by_cases d:k<c
 ·have d2:(k:Int)<c:=by omega
  refine aq (A6 @aV ec d2 w @akw e2) (JJ ?_);exact⟨k+1,CT,by omega,by omega⟩
 ·have e:k=c:=by omega
  subst e;refine aq (A2 @aV ec) (JJ ?_);rw[arU (by simp)]
end Go.Proofs.YtcokmopocppmiaaGreat
