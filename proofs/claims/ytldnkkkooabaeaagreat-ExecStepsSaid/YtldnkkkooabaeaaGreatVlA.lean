/- What a walk at the world's level tells, as what a pure function tells. -/
import Derived.Lib.ItoaNum
import Derived.Lib.Join
import Derived.Test.YtldnkkkooabaeaaGreatTyI
import Derived.Test.YtldnkkkooabaeaaGreatVls
set_option linter.all false
set_option maxRecDepth 20000
namespace Go.Proofs.YtldnkkkooabaeaaGreat
open Go.Nk Go.RowKit
theorem azC{An:J->Value->Prop}{d:J}{args:Array Value}(h:dX An [d] args.toList):∃v,args= #[v]/\An d v:=by
 obtain⟨a⟩:=args;obtain⟨h1,h2⟩:=h;match a,h1 with
 |[v],_=>
  obtain⟨v',hv,E⟩:=h2 0 _ rfl;grind
open Go.Nk
theorem HT:∀(k u:Nat),1<=k->u<10^k->Lib.nDigits u<=k
 |0,u,h,_=>by omega
 |k+1,u,_,h=>by
  by_cases hu:u<10
  .rw[Lib.nDigits_small hu];omega
  .rw[Lib.nDigits_big hu];have hk:1<=k:=by grind
   have:=HT k (u/10) hk (by omega);omega
theorem RN{n:Int}(h:NR n):(Lib.itoa n).length<=21:=by
 obtain⟨h1,h2⟩:=h;unfold Lib.itoa;split
 .simp only[IS,Lib.decDigits_length];have:=HT 20 n.natAbs (by decide) (by omega);omega
 .rw[Lib.decDigits_length];have:=HT 20 n.toNat (by decide) (by omega);omega
def HS(u:Nat)(s:B3):B3:=if u=0/\s≠[]then s else Lib.decDigits u++s
theorem KO(u:Nat)(s:B3)(h:0<u\/s=[]):HS (u/10) (UInt8.ofNat (48+u%10)::s)=HS u s:=by
 have Y:HS u s=Lib.decDigits u++s:=by unfold HS;grind
 rw[Y,Lib.decDigits];unfold HS;grind
theorem ai1(s:B3)(h:s≠[]):HS 0 s=s:=by unfold HS;simp_all
theorem aza(u:Nat):HS u []=Lib.decDigits u:=by unfold HS;simp_all
noncomputable def RM:Ab->Prop×J:=bJ eI λn=>(NR n,.str (Lib.itoa n))
theorem wY(n:Int):RM [.int .i64 n]=(NR n,.str (Lib.itoa n)):=aI cF _ n
theorem adI{n:Int}(h:NR n)(h0:n<0):IntKind.u64.wrap n=n+18446744073709551616/\IntKind.u64.wrap (0-(n+18446744073709551616))=(n.natAbs:Int):=by obtain⟨h1,h2⟩:=h;grind[IntKind.wrap_u64]
theorem azb(u:Nat):(UInt8.ofNat (IntKind.u8.wrap (IntKind.u64.wrap (48+((u:Int).tmod 10)))).toNat)=UInt8.ofNat (48+u%10):=by grind[Int.tmod_eq_emod_of_nonneg,IntKind.wrap_u64,IntKind.wrap_u8]
theorem ai2(u:Nat)(s:B3):s.length<=(HS u s).length:=by unfold HS;grind
theorem aID:aJ Tryz.prog 139 RM:=by
 refine aJ.mS (ps:=[]) (I:=[]) trivial trivial aGH λn h=>?_;try dsimp only at h
 have h:NR n:=h;have hlen:=RN h;obtain⟨u0,hu0,uu,uv⟩:∃u0:Nat,u0<18446744073709551616/\(if n<0 then IntKind.u64.wrap (0-IntKind.u64.wrap n)else IntKind.u64.wrap n)=(u0:Int)/\Lib.itoa n=if n<0 then 45::Lib.decDigits u0 else Lib.decDigits u0:=by
  unfold Lib.itoa;by_cases h0:n<0
  .obtain⟨Y,e2⟩:=adI h h0;exact⟨n.natAbs,by have:=h.1;omega,by simp_all,by simp_all⟩
  .exact⟨n.toNat,by have:=h.2;omega,by rw[ba h0,IntKind.wrap_u64];have:=h.2;omega,by grind⟩
 have vw:(Lib.decDigits u0).length<=21:=by grind
 by_cases h0:n<0
 .rw[gr h0]at uu uv;refine ao (bV @oA.eq_1 h0) (JJ ?_);refine iQ (λx:Nat×B3=>⟨[(0,.int .i64 n),(3,.int .u64 x.1),(4,.str x.2)],[]⟩) (λx=>x.1<18446744073709551616/\HS x.1 x.2=Lib.decDigits u0) (λx=>2*x.1+(if x.2=[]then 1 else 0)) (u0,[]) (AI _) (CF @uu) ⟨hu0,aza u0⟩ λx U=>?_;obtain⟨u,s⟩:=x;obtain⟨N3,Ll⟩:=U;simp only at N3 Ll|-;have WO:=ai2 u s;rw[Ll]at WO;have m10:((10:Int)=0)=False:=by simp
  have eb:=azb u;have _F:zw [J.int .u8 (IntKind.u8.wrap (IntKind.u64.wrap (48+(u:Int).tmod 10)))]=UInt8.ofNat (48+u%10):=eb;have _G:IntKind.u64.wrap ((u:Int).tdiv 10)=((u/10:Nat):Int):=by grind[Int.tdiv_eq_ediv_of_nonneg,IntKind.wrap_u64]
  have sm:1+s.length<=4611686018427387904:=by omega
  by_cases u1:0<u
  .have u2:(0:Int)<(u:Int):=by omega
   refine ao (fj u2 _G sm @gj.eq_1) (JJ ?_);all_goals first
    |omega
    |(refine⟨(u/10,UInt8.ofNat (48+u%10)::s),?_,⟨by omega,by rw[KO u s (.inl u1)];exact Ll⟩,by grind⟩
      simp only[eH,p0,DD,cS,Nk.get_nil,Nat.reduceEqDiff,↓reduceIte,Ck,J.cut,J.qA,Eh,reduceCtorEq,_F])
  have _H:u=0:=by omega
  subst _H;by_cases s1:s=[]
  .subst s1;refine ao @gj.eq_1 (JJ ?_);all_goals first
    |omega
    |(refine⟨(0,[48]),?_,⟨by simp,(KO 0 [] (.inr rfl)).trans Ll⟩,by simp⟩
      simp only[eH,p0,DD,cS,Nk.get_nil,Nat.reduceEqDiff,↓reduceIte,Ck,J.cut,J.qA,Eh,reduceCtorEq];rfl)
  .rw[ai1 s s1]at Ll;have s2:(s==[])=false:=by simp_all
   rw[uv,<-Ll];exact ao (fj s2 h0 @gj.eq_1 sm) zz
 .rw[ba h0]at uu uv;refine ao (bV @oA.eq_1 h0) (JJ ?_);refine iQ (λx:Nat×B3=>⟨[(0,.int .i64 n),(3,.int .u64 x.1),(4,.str x.2)],[]⟩) (λx=>x.1<18446744073709551616/\HS x.1 x.2=Lib.decDigits u0) (λx=>2*x.1+(if x.2=[]then 1 else 0)) (u0,[]) (AI _) (CF @uu) ⟨hu0,aza u0⟩ λx U=>?_;obtain⟨u,s⟩:=x;obtain⟨N3,Ll⟩:=U;simp only at N3 Ll|-;have WO:=ai2 u s;rw[Ll]at WO;have m10:((10:Int)=0)=False:=by simp
  have eb:=azb u;have _F:zw [J.int .u8 (IntKind.u8.wrap (IntKind.u64.wrap (48+(u:Int).tmod 10)))]=UInt8.ofNat (48+u%10):=eb;have _G:IntKind.u64.wrap ((u:Int).tdiv 10)=((u/10:Nat):Int):=by grind[Int.tdiv_eq_ediv_of_nonneg,IntKind.wrap_u64]
  have sm:1+s.length<=4611686018427387904:=by omega
  by_cases u1:0<u
  .have u2:(0:Int)<(u:Int):=by omega
   refine ao (fj u2 _G sm @gj.eq_1) (JJ ?_);all_goals first
    |omega
    |(refine⟨(u/10,UInt8.ofNat (48+u%10)::s),?_,⟨by omega,by rw[KO u s (.inl u1)];exact Ll⟩,by grind⟩
      simp only[eH,p0,DD,cS,Nk.get_nil,Nat.reduceEqDiff,↓reduceIte,Ck,J.cut,J.qA,Eh,reduceCtorEq,_F])
  have _H:u=0:=by omega
  subst _H;by_cases s1:s=[]
  .subst s1;refine ao @gj.eq_1 (JJ ?_);all_goals first
    |omega
    |(refine⟨(0,[48]),?_,⟨by simp,(KO 0 [] (.inr rfl)).trans Ll⟩,by simp⟩
      simp only[eH,p0,DD,cS,Nk.get_nil,Nat.reduceEqDiff,↓reduceIte,Ck,J.cut,J.qA,Eh,reduceCtorEq];rfl)
  .rw[ai1 s s1]at Ll;have s2:(s==[])=false:=by simp_all
   rw[uv,<-Ll];exact ao (bV s2 h0) zz
def zeroV(t:Ty):Ba:=List.replicate (cY t).toNat 0
noncomputable def _I:Ab->Prop×J:=bJ sQ λt=>(True,.sl (cC (zeroV t)))
theorem akl(t:Ty):_I [.agg (dE t)]=(True,.sl (cC (zeroV t))):=aI qI _ t
theorem aIE:aJ Tryz.prog 159 _I:=by
 refine aJ.mS (ps:=[(97,pX)]) (I:=[]) ⟨x8,BB⟩ trivial aG1 λt _=>?_;have hb:=yF t;have Ur:(cY t).toNat<=8:=by omega
 have hci:((cY t).toNat:Int)=cY t:=by omega
 unfold zeroV;generalize hc:(cY t).toNat=c at hci Ur;have ec:=nL t;rw[<-hci]at ec;simp only[dE]at ec;refine ao (bV @avH.eq_1 @sQ.eq_1) (JJ ?_);refine iQ (λk:Nat=>⟨[(1,.ref (dE t)),(3,.own 0 k 0 k),(4,.int .i64 k)],[⟨.aV,1,cC (List.replicate k 0)⟩]⟩) (λk=>k<=c) (λk=>c-k) 0 (by omega) (CF (bV @cC.eq_1 @List.replicate_zero.{0})) (AI _) λk hk=>?_;have w:IntKind.i64.wrap ((k:Int)+1)=((k+1:Nat):Int):=by rw[df (by omega)];omega
 have e2:List.replicate k (0:Int)++[0]=List.replicate (k+1) 0:=by rw[List.replicate_succ']
 by_cases d:k<c
 .have d2:(k:Int)<c:=by omega
  refine ao (jg @aU ec d2 w @apk e2) (JJ ?_);exact⟨k+1,CT,by omega,by omega⟩
 .have e:k=c:=by omega
  subst e;refine ao (bV @aU ec) (JJ ?_);rw[axx (by simp)]
end Go.Proofs.YtldnkkkooabaeaaGreat
