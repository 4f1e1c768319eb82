/- Constructors, one after the other; whose one is. -/
import Derived.Test.YtldnkkkooabaeaaGreatTyI
set_option linter.all false
set_option maxRecDepth 20000
namespace Go.Proofs.YtldnkkkooabaeaaGreat
open Go.Nk
abbrev _6:=Nat×Nat×B3
def ym(i:Nat):Nat->BS->List _6
 |_,[]=>[]
 |k,c::r=>(i,k,c)::ym i (k+1) r
def kN:Nat->List En->List _6
 |_,[]=>[]
 |i,e::r=>ym i 0 e.ct++kN (i+1) r
def Gq(l:List En):Prop:=l.length<=1000000000/\aAy l
def lV(name:B3):List _6->Int×Int×Bool
 |[]=>(0,0,false)
 |(i,k,c)::r=>if c=name then(i,k,true)else lV name r
def cd(x:Int×Int×Bool):J:= .b9 [.int .i64 x.1,.int .i64 x.2.1,.bool x.2.2]
noncomputable def _7:Ab->Prop×J:=cH ky eS λl n=>(Gq l,cd (lV n (kN 0 l)))
theorem akE(l:List En)(n:B3):_7 [.sl (l.map kF),.str n]=(Gq l,cd (lV n (kN 0 l))):=aY my kj _ l n
theorem aIn:aJ Tryz.prog 133 _7:=by
 refine aJ.se (ps:=[]) (I:=[]) trivial trivial aGC λl nm h=>?_;try dsimp only at h
 obtain⟨h,hf⟩:=h;generalize hF:lV nm (kN 0 l)=F;refine ao (bV @avu.eq_1 @ky.eq_1) (JJ ?_);refine aj l (λk (_:Unit)=>⟨[(0,.sl (l.map kF)),(1,.str nm),(7,.int .i64 k)],[]⟩) (λk r _=>lV nm (kN k r)=F) () (AI _) CT hF (λk x r _ d U Z E=>?_) (λk _ e E=>?_)
 .have hxc:=hf x (xF Z);simp only[kN]at E;refine ao @d (JJ ?_);refine aj x.ct (λj (_:Unit)=>⟨[(0,.sl (l.map kF)),(1,.str nm),(7,.int .i64 k),(8,.int .i64 j)],[]⟩) (λj r2 _=>lV nm (ym k j r2++kN (k+1) r)=F) () (AI _) CT E (λj c r2 _ d2 hc Ek Dj=>?_) (λj _ e Dj=>?_)
  .simp only[ym,Cr]at Dj;by_cases ce:c=nm
   .subst ce;simp only[lV,Bp]at Dj;exact ao (rO @ak d d2 (ag kF U) (apj hc) (CD Dj) @cd.eq_1) zz
   .have c2:(c==nm)=false:=by simpa using ce
    simp only[lV,ba ce]at Dj;refine ao (jg @ak d d2 (ag kF U) (apj hc) c2) (JJ ?_);exact⟨(),CT,Dj⟩
  .simp only[ym,Bz]at Dj;refine ao (fj @ak d e (ag kF U)) (JJ ?_);exact⟨(),CT,Dj⟩
 .simp only[kN,lV]at E;exact ao (cL e (CD E) @cd.eq_1) zz
end Go.Proofs.YtldnkkkooabaeaaGreat
