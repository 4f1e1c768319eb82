/- Paths, by the document. -/
import Derived.Test.YtldnkkkooabaeaaGreatTyT
set_option linter.all false
set_option maxRecDepth 20000
namespace Go.Proofs.YtldnkkkooabaeaaGreat
open Go.Nk
def oF(c:UInt8):B3->B3->BS
 |cur,[]=>[cur]
 |cur,x::r=>if x=c then cur::oF c [] r else oF c (cur++[x]) r
def ue(c:UInt8)(s:B3):BS:=oF c [] s
theorem AR(c:UInt8):∀(l cur:B3),1<=(oF c cur l).length/\(oF c cur l).length<=l.length+1
 |[],cur=>by simp[oF]
 |x::r,cur=>by
  unfold oF;split
  .have:=AR c r [];simp_all
  .have:=AR c r (cur++[x]);grind
theorem HQ(c:UInt8):∀(l cur:B3) (p:B3),p∈oF c cur l->p.length<=cur.length+l.length
 |[],cur,p,h=>by simp_all[oF,FW]
 |x::r,cur,p,h=>by
  unfold oF at h;split at h
  .rcases NO.1 h with h|h
   .simp_all
   .have:=HQ c r [] p h;grind
  .have:=HQ c r (cur++[x]) p h;grind
def Bn(c:UInt8)(s:B3)(k f:Nat):BS:=if k<=s.length then oF c ((s.take k).drop f) (s.drop k)else []
theorem aqV{c:UInt8}{s:B3}{f:Nat}:Bn c s s.length f=[(s.take s.length).drop f]:=by simp[Bn,oF]
theorem adB{c:UInt8}{s:B3}{k f:Nat}(h:s.length<k):Bn c s k f=[]:=by unfold Bn;grind
theorem aqW{c:UInt8}{s:B3}{k f:Nat}(h:s[k]? =some c):Bn c s k f=(s.take k).drop f::Bn c s (k+1) (k+1):=by
 obtain⟨hk,hc⟩:=pc.1 h;have Z:s.drop k=c::s.drop (k+1):=by rw[Hk hk,hc]
 have ht:(s.take (k+1)).drop (k+1)=[]:=List.drop_eq_nil_of_le (by simp;omega);unfold Bn;rw[gr (by omega),gr (by omega),Z,ht];simp[oF]
theorem auq{c x:UInt8}{s:B3}{k f:Nat}(h:s[k]? =some x)(U:x≠c)(hf:f<=k):Bn c s k f=Bn c s (k+1) f:=by
 obtain⟨hk,hc⟩:=pc.1 h;have Z:s.drop k=x::s.drop (k+1):=by rw[Hk hk,hc]
 have ht:(s.take (k+1)).drop f=(s.take k).drop f++[x]:=by grind
 unfold Bn;rw[gr (by omega),gr (by omega),Z,ht];simp[oF,U]
noncomputable def W_:Ab->Prop×J:=cH eS eY λs c=>(s.length<=1000000,.sl (cW (ue c s)))
theorem adC(s:B3)(c:UInt8):W_ [.str s,.int .u8 c.toNat]=(s.length<=1000000,.sl (cW (ue c s))):=aY kj Wc _ s c
theorem aIa:aJ Tryz.prog 218 W_:=by
 refine aJ.se (ps:=[]) (I:=[]) trivial trivial aHX λs c h=>?_;try dsimp only at h
 have h:s.length<=1000000:=h;refine ao (bV @axC.eq_1 @eY.eq_1) (JJ ?_);refine iQ (λa:Nat×Nat×BS=>⟨[(0,.str s),(1,.int .u8 c.toNat),(5,.own 0 a.2.2.length 0 a.2.2.length),(6,.int .i64 a.2.1),(7,.int .i64 a.1)],[⟨.aV,1,cW a.2.2⟩]⟩)
  (λa=>a.1<=s.length+1/\a.2.1<=a.1/\a.2.2.length<=a.1/\a.2.2++Bn c s a.1 a.2.1=ue c s) (λa=>s.length+1-a.1) (0,0,[]) (by omega) CT ⟨by simp,By _,By _,by simp[Bn,ue]⟩ (λa ha=>?_)
 obtain⟨k,f,o⟩:=a;obtain⟨g1,g2,g3,g4⟩:=ha;simp only at g1 g2 g3 g4;by_cases d:k<=s.length
 .by_cases dk:k=s.length
  .subst dk;rw[aqV,VB]at g4;refine ao (fj @ak @xJ.eq_def @fy.eq_def @Ix) (JJ (λhn=>?_));exact⟨(s.length+1,s.length+1,o++[s.drop f]),CT,⟨by simp,by simp,by simp;omega,by simp_all[adB,xz]⟩,by omega⟩
  .have U:s[k]? =some s[k]:=tx (by omega);have hg:=getD_some (d:=0) U;generalize s[k]=x at*;by_cases hc:x=c
   .subst hc;rw[aqW U]at g4;refine ao (fF @ak @xJ.eq_def @fy.eq_def @Ix hg) (JJ (λhn hn=>?_));exact⟨(k+1,k+1,o++[(s.take k).drop f]),CT,⟨by omega,by simp,by simp;omega,by simp_all⟩,by omega⟩
   .rw[auq U hc (by omega)]at g4;have hb:((x.toNat:Int)==(c.toNat:Int))=false:=by rw[acG];simp_all
    refine ao (bV hg hb) (JJ (λhn hn=>?_));exact⟨(k+1,f,o),CT,⟨by omega,by grind,by grind,g4⟩,by omega⟩
 .rw[adB (by omega),xz]at g4;subst g4;exact ao (bV @ak @PV) zz
def tw(b:B3):Bool:=decide (1<=b.length)&&decide (b.length<=3)&&(b.getD 0 0 !=48)&&b.all (λx=>J0 x 48 57)
def c7:BS->Bool
 |[a]=>qk a
 |[a,b]=>qk a&&tw b
 |_=>false
def WG(x:B3):Bool:=c7 (ue 46 x)
theorem aur(x:B3):WG x=c7 (ue 46 x):=rfl
def u7(s:B3):Bool:=(ue 47 s).all WG
theorem av4(x:UInt8):((x.toNat:Int)==48)=(x==48):=by have:=acG x 48;simp_all
noncomputable def X_:Ab->Prop×J:=bJ eS λs=>(s.length<=1000000,.bool (u7 s))
theorem akG(s:B3):X_ [.str s]=(s.length<=1000000,.bool (u7 s)):=aI kj _ s
theorem aIb:aJ Tryz.prog 213 X_:=by
 refine aJ.mS (ps:=[(218,W_),(207,NY),(219,tt)]) (I:=[]) ⟨aIa,iA,ayN,BB⟩ trivial aHS λs h=>?_;try dsimp only at h
 have h:s.length<=1000000:=h;have e0:=adC s 47;rw[lU h]at e0;have aIc:(47:UInt8).toNat=47:=rfl;simp only[aIc,Ru]at e0;have hm:=HQ 47 s [];have hl:=(AR 47 s []).2;rw[show oF 47 [] s=ue 47 s from rfl]at hm hl;rw[show u7 s=(ue 47 s).all WG from rfl];generalize ue 47 s=l at*;refine ao (bV @axf.eq_1 e0) (JJ ?_);refine aj l (λk (_:Unit)=>⟨[(3,.sl (cW l)),(4,.int .i64 k)],[]⟩) (λk r _=>r.all WG=l.all WG) () (AI _) CT rfl (λk x r _ d U Z E=>?_) (λk _ e E=>?_)
 .simp only[MM]at E;have Y:=adC x 46;have y1:(46:UInt8).toNat=46:=rfl;have UT:x.length<=1000000:=by grind
  rw[lU UT]at Y;simp only[y1,Ru]at Y;have B:=(AR 46 x []).1;rw[show oF 46 [] x=ue 46 x from rfl]at B;rw[aur]at E;generalize ue 46 x=p at*;rcases p with _|⟨a,_|⟨b,_|⟨c,p⟩⟩⟩
  .simp at B
  .simp only[c7]at E;simp only[cW,p0,DD]at Y;refine ao (fF @tC @ak d (fN U) Y) (bV ?_ (JJ ?_))<;>intros;all_goals first
    |exact⟨(),CT,by grind⟩
    |grind
  .simp only[c7]at E;simp only[cW,p0,DD]at Y;by_cases q:qk a=true/\1<=b.length/\b.length<=3/\(b.getD 0 0==48)=false;rotate_left
   .have hf:l.all WG=false:=by grind[tw]
    rw[hf];refine ao (jg @tC @ak d (fN U) Y @av4) (JJ (λhn hn hn hn=>?_));grind
   obtain⟨q1,q2,q3,q4⟩:=q;refine ao (tM @tC @ak d (fN U) Y @av4 q1 q4) (JJ (λhn hn=>?_));have Y_:tw b=b.all (λx=>J0 x 48 57):=by simp_all[tw,Hm,Pd,bne,Bool.not_false]
   rw[q1,Y_,Pd]at E;refine aj b (λj (_:Unit)=>⟨[(3,.sl (cW l)),(4,.int .i64 k),(6,.str b),(7,.int .i64 j)],[]⟩) (λj r' _=>(r'.all λx=>J0 x 48 57)=b.all λx=>J0 x 48 57) () (AI _) CT rfl (λj y r' _ d' hy xo tO=>?_) (λj _ e' tO=>?_)
   .simp only[MM]at tO;have e4:=DM y 48 57;have y5:(48:UInt8).toNat=48:=rfl;have y6:(57:UInt8).toNat=57:=rfl;simp only[y5,y6,Ru]at e4
    ((have aF:=IT;refine aM.of ?_);(repeat' (first|((with_reducible refine aM.to ?_);(repeat(first|(simp only[↓rP,rT,rU,aB,au,cN,cX,FE,aS,DR.val,j0,iD,ik,J.bl,bj,bq,cz,b8,bX,dC,Nat.reduceEqDiff,↓reduceIte,d',getD_some hy,e4,aF])|((simp(disch:=omega) only[qD])))))|((with_reducible refine And.intro ?_ ?_); . omega)|(((((with_reducible refine cP (t:= ?_) ?_ (λdp=>?_) (λdp=>?_));rotate_left; . (rfl)))<;>(have hn:=dp;have aF:=dp)<;>(try simp only[aaa,FU]at hn)<;>(refine aM.of ?_)))|fail)))
    all_goals first
     |exact⟨(),CT,by grind⟩
     |grind
   .simp only[C1]at tO;rw[<-tO,Pd]at E;refine ao @e' (JJ ?_);exact⟨(),CT,E⟩
  .simp only[c7]at E;simp only[cW,p0]at Y;exact ao (fj @ak d (fN U) Y) zz;all_goals grind
 .simp only[C1]at E;exact ao (cL @ak e (CD E)) zz
end Go.Proofs.YtldnkkkooabaeaaGreat
