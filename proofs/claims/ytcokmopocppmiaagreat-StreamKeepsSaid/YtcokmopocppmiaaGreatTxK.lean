/- Constructors, one after the other; whose one is. -/
import Derived.Test.YtcokmopocppmiaaGreatTyI
set_option linter.all false
set_option maxRecDepth 20000
namespace Go.Proofs.YtcokmopocppmiaaGreat
open Go.Nk
abbrev asU:=Nat×Nat×List UInt8
def wY(i:Nat):Nat->List (List UInt8)->List asU
 |_,[]=>[]
 |k,c::r=>(i,k,c)::wY i (k+1) r
def kr:Nat->List En->List asU
 |_,[]=>[]
 |i,e::r=>wY i 0 e.ct++kr (i+1) r
def AJ(l:List En):Prop:=l.length<=1000000000/\auU l
def lv(name:List UInt8):List asU->Int×Int×Bool
 |[]=>(0,0,false)
 |(i,k,c)::r=>if c=name then(i,k,true)else lv name r
def aer(x:Int×Int×Bool):DV:= .cy [.int .i64 x.1,.int .i64 x.2.1,.bool x.2.2]
noncomputable def ab6:List DV->Prop×DV:=b5 lN eS λl n=>(AJ l,aer (lv n (kr 0 l)))
def agt(l:List En)(n):=show ab6 [.sl (l.map jQ),.str n]=_ from aO mr ik _ l n
theorem EY:aF Tryz.prog 129 ab6:=by
 refine aF.oU (ps:=[]) (hs:=[]) trivial trivial HQ λl nm h=> ?_;try dsimp only at h
 obtain⟨h,hf⟩:=h;generalize hF:lv nm (kr 0 l)=F;refine aq (A2 @vP.eq_1 @lN.eq_1) (JJ ?_);refine ai l (λk (_:Unit)=>⟨[(0,.sl (l.map jQ)),(1,.str nm),(7,.int .i64 k)],[]⟩) (λk r _=>lv nm (kr k r)=F) () (Nat.zero_le _) CT hF (λk x r _ d hx hd hr=> ?_) (λk _ e hr=> ?_)
 ·have hxc:=hf x (mc hd);simp only[kr]at hr;refine aq @d (JJ ?_);refine ai x.ct (λj (_:Unit)=>⟨[(0,.sl (l.map jQ)),(1,.str nm),(7,.int .i64 k),(8,.int .i64 j)],[]⟩) (λj r2 _=>lv nm (wY k j r2++kr (k+1) r)=F) () (Nat.zero_le _) CT hr (λj c r2 _ d2 hc hd2 IW=> ?_) (λj _ e IW=> ?_)
  ·simp only[wY,List.cons_append]at IW;by_cases ce:c=nm
   ·subst ce;simp only[lv,if_true]at IW;exact aq (A7 @aj d d2 (af jQ hx) (akv hc) (Eq.symm IW) @aer.eq_1) zz
   ·have c2:(c==nm)=false:=by simpa using ce
    simp only[lv,if_neg ce]at IW;refine aq (A6 @aj d d2 (af jQ hx) (akv hc) c2) (JJ ?_);exact⟨(),CT,IW⟩
  ·simp only[wY,List.nil_append]at IW;refine aq (A4 @aj d e (af jQ hx)) (JJ ?_);exact⟨(),CT,IW⟩
 ·simp only[kr,lv]at hr;exact aq (A3 e (Eq.symm hr) @aer.eq_1) zz
end Go.Proofs.YtcokmopocppmiaaGreat
