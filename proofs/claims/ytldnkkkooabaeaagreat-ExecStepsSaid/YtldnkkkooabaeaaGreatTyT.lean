/- Names; which enums may be. -/
import Derived.Test.YtldnkkkooabaeaaGreatTyI
set_option linter.all false
set_option maxRecDepth 20000
namespace Go.Proofs.YtldnkkkooabaeaaGreat
noncomputable section
open Go.Nk
def J0(c a b:UInt8):Bool:=decide (a.toNat<=c.toNat)&&decide (c.toNat<=b.toNat)
def tt:Ab->Prop×J:=fp eY eY eY λc a b=>(True,.bool (J0 c a b))
theorem DM(c:UInt8)(a:UInt8)(b:UInt8):tt [.int .u8 c.toNat,.int .u8 a.toNat,.int .u8 b.toNat]=(True,.bool (J0 c a b)):=bW Wc Wc Wc _ c a b
theorem ayN:aJ Tryz.prog 219 tt:=by refine aJ.zP (ps:=[]) (I:=[]) trivial trivial aHY λc a b _=>?_;refine ao (bV @axD.eq_1 @eY.eq_1) (bV ?_ (JJ ?_))<;>intros;all_goals grind[J0]
def Tt(c:UInt8):Bool:=J0 c 97 122||J0 c 65 90||J0 c 48 57||c==95
def C0(s:B3)(a b:UInt8):Bool:=decide (1<=s.length)&&decide (s.length<=12)&&J0 (s.getD 0 0) a b&&s.all Tt
def Zv:Ab->Prop×J:=fp eS eY eY λs a b=>(True,.bool (C0 s a b))
theorem ayO(s:B3)(a:UInt8)(b:UInt8):Zv [.str s,.int .u8 a.toNat,.int .u8 b.toNat]=(True,.bool (C0 s a b)):=bW kj Wc Wc _ s a b
theorem ayP:aJ Tryz.prog 215 Zv:=by
 refine aJ.zP (ps:=[(219,tt)]) (I:=[]) ⟨ayN,BB⟩ trivial aHU λs a b _=>?_;by_cases q:1<=s.length/\s.length<=12;rotate_left
 .have E:C0 s a b=false:=by simp only[C0];grind
  have Y:=λx=>DM x a b;exact ao (cL @mE.eq_1 @eY.eq_1 E) zz
 obtain⟨q1,q2⟩:=q;have e0:=DM (s.getD 0 0) a b;by_cases q3:J0 (s.getD 0 0) a b=true;rotate_left
 .have E:C0 s a b=false:=by simp only[C0];grind
  refine ao (fj @mE.eq_1 @eY.eq_1 E e0) (JJ (λhn hn hn=>?_));simp_all
 have E:C0 s a b=s.all Tt:=by simp_all[C0,Hm,Pd]
 rw[E];refine ao (fj @mE.eq_1 @eY.eq_1 e0 q3) (JJ (λhn hn=>?_));refine aj s (λk (_:Unit)=>⟨[(0,.str s),(7,.int .i64 k)],[]⟩) (λk r _=>r.all Tt=s.all Tt) () (AI _) CT rfl (λk x r _ d U Z E=>?_) (λk _ e E=>?_)
 .simp only[MM]at E;have Y:=DM x 97 122;have e2:=DM x 65 90;have e3:=DM x 48 57;have y1:(97:UInt8).toNat=97:=rfl;have y2:(122:UInt8).toNat=122:=rfl;have y3:(65:UInt8).toNat=65:=rfl;have aH5:(90:UInt8).toNat=90:=rfl;have y5:(48:UInt8).toNat=48:=rfl;have y6:(57:UInt8).toNat=57:=rfl;simp only[y1,y2,y3,aH5,y5,y6,Ru]at Y e2 e3
  ((have aF:=IT;refine aM.of ?_);(repeat' (first|((with_reducible refine aM.to ?_);(repeat(first|(simp only[↓rP,rT,rU,aB,au,cN,cX,FE,aS,DR.val,j0,iD,ik,J.bl,bj,bq,cz,b8,bX,dC,Nat.reduceEqDiff,↓reduceIte,reduceCtorEq,d,getD_some U,Y,e2,e3,aAA,aF])|((simp(disch:=omega) only[qD])))))|((with_reducible refine And.intro ?_ ?_); . omega)|(((first|((with_reducible refine cP (t:= ?_) ?_ (λdp=>?_) (λdp=>?_));rotate_left; . (rfl))|((with_reducible refine bz (t:= ?_) ?_ (λdp=>?_) (λdp=>?_));rotate_left; . (rfl)))<;>(have hn:=dp;have aF:=dp)<;>(try simp only[GO,Br,SO,aaa,FU]at hn)<;>(refine aM.of ?_)))|fail)))
  all_goals first
   |exact⟨(),CT,by grind[Tt]⟩
   |grind[Tt]
 .simp only[C1]at E;exact ao (bV e (CD E)) zz
def C5:BS:=[[110,111,100,101],[114,101,116,117,114,110,115],[118,97,114],[108,101,116],[116,101,108],[101,110,117,109],[105,102],[116,104,101,110],[101,108,115,101],[102,98,121],[112,114,101],[119,104,101,110],[109,101,114,103,101],[101,118,101,114,121],[110,111,116],[97,110,100],[111,114],[120,111,114],[109,111,100],[116,114,117,101],[102,97,108,115,101],[105,110,116],[98,111,111,108],[119,105,116,104]]
def Zw:Ab->Prop×J:=Vj (True,Ec C5)
theorem ag6:Zw []=(True,.sl (cW C5)):=Iq _
theorem aH6:aJ Tryz.prog 220 Zw:=by refine aJ.mk0 (ps:=[]) (I:=[]) trivial trivial aHZ λ_=>?_;exact ao (fj @axE.eq_1 @Ec.eq_1 @cW.eq_1 @C5.eq_1) zz
def bm(s:B3):Bool:=C5.any (·==s)
def V_:Ab->Prop×J:=bJ eS λs=>(True,.bool (bm s))
theorem alP(s:B3):V_ [.str s]=(True,.bool (bm s)):=aI kj _ s
theorem aH7:aJ Tryz.prog 216 V_:=by
 refine aJ.mS (ps:=[(220,Zw)]) (I:=[]) ⟨aH6,BB⟩ trivial aHV λs _=>?_;refine ao (bV @axA.eq_1 @ag6) (JJ ?_);have hl:C5.length=24:=rfl;refine aj C5 (λk (_:Unit)=>⟨[(0,.str s),(3,.sl (cW C5)),(4,.int .i64 k)],[]⟩) (λk r _=>r.any (·==s)=C5.any (·==s)) () (AI _) CT rfl (λk x r _ d U Z E=>?_) (λk _ e E=>?_)
 .simp only[Hl]at E;refine ao (cL @ak d (fN U)) (bV ?_ (JJ ?_))<;>intros;all_goals first
   |exact⟨(),CT,by grind⟩
   |grind[bm]
 .simp only[On]at E;exact ao (fj @ak e @bm.eq_1 (CD E)) zz
def qk(s:B3):Bool:=C0 s 97 122&& !bm s
def Fe(s:B3):Bool:=C0 s 65 90
def NY:Ab->Prop×J:=bJ eS λs=>(True,.bool (qk s))
theorem tC(s:B3):NY [.str s]=(True,.bool (qk s)):=aI kj _ s
def Mf:Ab->Prop×J:=bJ eS λs=>(True,.bool (Fe s))
theorem Du(s:B3):Mf [.str s]=(True,.bool (Fe s)):=aI kj _ s
theorem iA:aJ Tryz.prog 207 NY:=by refine aJ.mS (ps:=[(215,Zv),(216,V_)]) (I:=[]) ⟨ayP,aH7,BB⟩ trivial aHM λs _=>?_;have Y:=ayO s 97 122;have y1:(97:UInt8).toNat=97:=rfl;have y2:(122:UInt8).toNat=122:=rfl;simp only[y1,y2,Ru]at Y;refine ao (cL @awW.eq_1 @alP Y) (bV ?_ (JJ ?_))<;>intros;all_goals grind[qk]
theorem lI:aJ Tryz.prog 208 Mf:=by refine aJ.mS (ps:=[(215,Zv)]) (I:=[]) ⟨ayP,BB⟩ trivial aHN λs _=>?_;have Y:=ayO s 65 90;have y1:(65:UInt8).toNat=65:=rfl;have y2:(90:UInt8).toNat=90:=rfl;simp only[y1,y2,Ru]at Y;refine ao (bV @aw7.eq_1 Y) (JJ ?_);rfl
def rW(l:BS):Bool:=decide (l.Pairwise (·≠·))
theorem alQ{l:BS}{k:Nat}{x:B3}(h:l[k]? =some x):(l.take (k+1)).Pairwise (·≠·)↔(l.take k).Pairwise (·≠·)/\∀y∈l.take k,y≠x:=by rw[List.take_add_one,h,Cz];simp
theorem aqZ{l:BS}{k j:Nat}{x:B3}(h:l[k]? =some x)(hj:j<k)(h2:l[j]? =some x):rW l=false:=by grind[rW,Of,List.pairwise_iff_getElem,pc]
def Sl:Ab->Prop×J:=bJ Ec λl=>(l.length<=1000000000,.bool (rW l))
theorem Dv(l:BS):Sl [.sl (cW l)]=(l.length<=1000000000,.bool (rW l)):=aI aoW _ l
theorem pE:aJ Tryz.prog 197 Sl:=by
 refine aJ.mS (ps:=[]) (I:=[]) trivial trivial aHB λl h=>?_;try dsimp only at h
 refine ao (bV @awj.eq_1 @Ec.eq_1) (JJ ?_);refine aj l (λk (_:Unit)=>⟨[(0,.sl (cW l)),(3,.int .i64 k)],[]⟩) (λk r _=>(l.take k).Pairwise (·≠·)) () (AI _) CT (by simp) (λk x r _ d U Z E=>?_) (λk _ e E=>?_)
 .have hl:(l.take k).length=k:=by simp;omega
  refine ao (bV @ak d) (JJ ?_);refine aj (l.take k) (λj (_:Unit)=>⟨[(0,.sl (cW l)),(3,.int .i64 k),(4,.int .i64 j)],[]⟩) (λj r _=>(∀y∈l.take k,y∈r\/y≠x)) () (AI _) CT (λy hy=> .inl hy) (λj y r _ d2 hy Ek Dj=>?_) (λj _ e Dj=>?_)
  .have hj:j<k:=by omega
   rw[Rq,gr hj]at hy;have d3:j<l.length:=by omega
   refine ao (jg @ak d d3 hj (fN U) (fN hy)) (bV (λhn=>?_) (JJ (λhn=>?_)))
   .grind[aqZ]
   .have e:y≠x:=by omega
    exact⟨(),CT,λz hz=>by grind⟩
  .have hj:¬j<k:=by omega
   refine ao @hj (JJ ?_);exact⟨(),CT,(alQ U).2 ⟨E,λy hy=>(Dj y hy).elim (λh=>by cases h) id⟩⟩
 .rw[e,VB]at E;have:rW l=true:=ON E;exact ao (cL @ak e this) zz
def C6(e:En):Bool:= !qk e.name||e.ct.length==0
def rC(l:List En):BS:=l.map (·.name)
def kW(l:List En):BS:=(l.map (·.ct)).flatten
theorem adE(e:En)(l:List En):kW (e::l)=e.ct++kW l:=by simp[kW]
theorem ag8:rC []=[]:=rfl
theorem ag9:kW []=[]:=rfl
def W9(l:List En):Bool:=decide (4<l.length)||l.any λe=>decide (6<e.ct.length)
def pF(l:List En):Int:=if W9 l then 4 else if l.any C6 then 1 else if(kW l).any (λc=> !Fe c)then 1 else if rW (rC l)&&rW (kW l)then 0 else 6
def Sk:Ab->Prop×J:=bJ ky λl=>(True,.int .i64 (pF l))
theorem xm(l:List En):Sk [.sl (l.map kF)]=(True,.int .i64 (pF l)):=aI my _ l
theorem aH8:aJ Tryz.prog 195 Sk:=by
 refine aJ.mS (ps:=[(207,NY),(208,Mf),(197,Sl)]) (I:=[]) ⟨iA,lI,pE,BB⟩ trivial aHz λl _=>?_;by_cases q:4<l.length
 .have E:pF l=4:=by simp[pF,W9,q]
  exact ao (cL @pQ.eq_1 @ky.eq_1 E) zz
 refine ao (bV @pQ.eq_1 @ky.eq_1) (JJ (λhn=>?_));refine aj l (λk (s:BS×BS)=>⟨[(0,.sl (l.map kF)),(3,.own 0 s.1.length 0 s.1.length),(4,.own 1 s.2.length 0 s.2.length),(5,.int .i64 k)],[⟨.aV,1,cW s.1⟩,⟨.aV,1,cW s.2⟩]⟩)
  (λk r s=>s.1++rC r=rC l/\s.2++kW r=kW l/\(r.any λe=>decide (6<e.ct.length))=(l.any λe=>decide (6<e.ct.length))/\s.1.length=k/\s.2.length<=6*k) ([],[]) (AI _) CT ⟨rfl,rfl,rfl,rfl,by simp⟩ (λk x r s d U Z E=>?_) (λk s e E=>?_)
 .obtain⟨o,c⟩:=s;obtain⟨g1,g2,g3,g4,g5⟩:=E;simp only[rC,p0,adE,Hl]at g1 g2 g3 g4 g5;refine ao (jg @ak @sr d (ag kF U) @aga @Ix) (bV ?_ (JJ ?_))<;>intros;all_goals first
   |(refine⟨(o++[x.name],c++x.ct),CT,?_,?_,?_,?_,?_⟩<;>grind[rC])
   |(have:W9 l=true:=by
      simp only[W9,CJ];grind
     simp[pF,this])
 obtain⟨o,c⟩:=s;obtain⟨g1,g2,g3,g4,g5⟩:=E;simp only[ag8,ag9,xz,On]at g1 g2 g3 g4 g5;have hm:W9 l=false:=by simp[W9,q,<-g3]
 have E:pF l=if l.any C6 then 1 else if(kW l).any (λc=> !Fe c)then 1 else if rW (rC l)&&rW (kW l)then 0 else 6:=by simp[pF,hm]
 rw[E];subst g1 g2;have b1:(rC l).length<=4:=by omega
 have b2:(kW l).length<=24:=by omega
 refine ao @e (JJ ?_);refine aj l (λk (_:Unit)=>⟨[(0,.sl (l.map kF)),(3,.own 0 (rC l).length 0 (rC l).length),(4,.own 1 (kW l).length 0 (kW l).length),(6,.int .i64 k)],[⟨.aV,1,cW (rC l)⟩,⟨.aV,1,cW (kW l)⟩]⟩)
  (λk r _=>r.any C6=l.any C6) () (AI _) CT rfl (λk x r _ d U Z E=>?_) (λk _ e E=>?_)
 .simp only[Hl]at E;refine ao (fj @tC @ak d (ag kF U)) (cL ?_ ?_ (JJ ?_))<;>intros;all_goals first
   |exact⟨(),CT,by rw[<-E];grind[C6]⟩
   |(have:l.any C6=true:=by rw[<-E];grind[C6]
     simp[this])
 simp only[On]at E;rw[<-E];refine ao @e (JJ ?_);refine aj (kW l) (λk (_:Unit)=>⟨[(3,.own 0 (rC l).length 0 (rC l).length),(4,.own 1 (kW l).length 0 (kW l).length),(7,.int .i64 k)],[⟨.aV,1,cW (rC l)⟩,⟨.aV,1,cW (kW l)⟩]⟩)
  (λk r _=>(r.any λc=> !Fe c)=((kW l).any λc=> !Fe c)) () (AI _) CT rfl (λk x r _ d U Z E=>?_) (λk _ e E=>?_)
 .simp only[Hl]at E;refine ao (fj @Du @ak d (fN U)) (bV ?_ (JJ ?_))<;>intros;all_goals first
   |exact⟨(),CT,by simp_all⟩
   |simp_all
 simp only[On]at E;rw[<-E];refine ao (fj @Dv @ak @PV e) (cL ?_ ?_ (JJ ?_))<;>intros<;>simp_all
end
end Go.Proofs.YtldnkkkooabaeaaGreat
