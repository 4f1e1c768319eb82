/- Expressions: what they are at the data level; how great they are. -/
import Derived.Test.YtldnkkkooabaeaaGreatTyI
set_option linter.all false
set_option maxRecDepth 20000
namespace Go.Proofs.YtldnkkkooabaeaaGreat
open Go.Nk
inductive Ex where
 |mk (kind n:Int) (name:B3) (op:Int) (arms:BS) (ar:List Ex)
namespace Ex
def kind:Ex->Int|mk k _ _ _ _ _=>k
def n:Ex->Int|mk _ n _ _ _ _=>n
def name:Ex->B3|mk _ _ s _ _ _=>s
def op:Ex->Int|mk _ _ _ o _ _=>o
def arms:Ex->BS|mk _ _ _ _ a _=>a
def ar:Ex->List Ex|mk _ _ _ _ _ l=>l
end Ex
instance:Inhabited Ex:=⟨.mk 0 0 [] 0 [] []⟩
mutual
def cO:Ex->Ab
 | .mk k n s o a l=>[.int .i64 k,.int .i64 n,.str s,.int .i64 o,.sl (cW a),.sl (tp l)]
def tp:List Ex->List Ab
 |[]=>[]
 |x::l=>cO x::tp l
end
theorem abW:∀l:List Ex,tp l=l.map cO
 |[]=>rfl
 |x::l=>by rw[tp,abW l];rfl
theorem ai:∀e:Ex,cO e=[.int .i64 e.kind,.int .i64 e.n,.str e.name,.int .i64 e.op,.sl (cW e.arms),.sl (e.ar.map cO)]
 | .mk k n s o a l=>by rw[cO,abW];rfl
theorem Ex.ind{C:Ex->Prop}(h:∀e,(∀x∈e.ar,C x)->C e)(e:Ex):C e:=
 @Ex.rec C (λl=>∀x∈l,C x) (λ_ _ _ _ _ _ ih=>h _ ih) (λx U=>by simp at U) (λy l hy hl x U=>by grind) e
theorem Ag:∀x y,cO x=cO y->x=y:=by
 intro x;induction x using Ex.ind with
 |h e ih=>
  intro y h;rw[ai,ai]at h;simp only[DO,J.int.injEq,J.str.injEq,J.sl.injEq,Bt,Xv]at h;obtain⟨h1,h2,h3,h4,h5,h6⟩:=h;have q5:=Dr h5;clear h5;have key:∀(l m:List Ex),(∀x∈l,∀y,cO x=cO y->x=y)->l.map cO=m.map cO->l=m:=by
   intro l;induction l with
   |nil=>simp_all
   |cons a l il=>intro m hl h;cases m<;>grind
  have q6:=key _ _ ih h6;clear h6;obtain⟨k,n,s,o,a,l⟩:=e;obtain⟨k',n',s',o',a',l'⟩:=y;grind[Ex.kind,Ex.n,Ex.name,Ex.op,Ex.arms,Ex.ar]
abbrev gX:Ex->J:=eA cO
theorem gC:ux gX:=A0 Ag
abbrev tq:List Ex->J:=eL cO
theorem atd:ux tq:=yu Ag
theorem axs(e:Ex):(cO e).length=6:=by rw[ai];rfl
theorem apb{es:List Ab}{x:Ab}(h:x∈es):uV x<=Q7 es:=by
 induction es with
 |nil=>simp at h
 |cons e es ih=>
  simp only[Q7];grind
theorem YQ{e x:Ex}(h:x∈e.ar):uV (cO x)<uV (cO e):=by have:=apb (It.2 ⟨x,h,rfl⟩:cO x∈e.ar.map cO);rw[ai e];simp only[uV,J.sz];omega
mutual
def dt:Ex->Int
 | .mk _ _ _ _ _ l=>1+hY l
def hY:List Ex->Int
 |[]=>0
 |x::l=>dt x+hY l
end
theorem jX:∀e:Ex,dt e=1+hY e.ar
 | .mk .. =>by rw[dt];rfl
theorem iz(e:Ex):1<=dt e/\0<=hY e.ar:=by
 induction e using Ex.ind with
 |h e ih=>
  have key:∀l:List Ex,(∀x∈l,1<=dt x)->0<=hY l:=by intro l;induction l<;>grind[hY]
  grind[jX]
theorem jm(l:List Ex):(l.length:Int)<=hY l:=by
 induction l with
 |nil=>rw[hY];simp
 |cons x l ih=>rw[hY];have:=iz x;simp;omega
noncomputable def Su:Ab->Prop×J:=bJ gX λe=>(dt e<=1000000000,.int .i64 (dt e))
theorem ayJ(e:Ex):Su [.agg (cO e)]=(dt e<=1000000000,.int .i64 (dt e)):=aI gC _ e
theorem aH1:aJ Tryz.prog 190 Su:=by
 refine aJ.rec λN ih=>?_;unfold Su;rw[My];refine aJ.mS (ps:=[(190,I5 N Su)]) (I:=[]) ⟨ih,BB⟩ trivial aHu λe h=>?_;try dsimp only at h
 obtain⟨h1,h2⟩:=h;have hq:=jX e;have B:=iz e;have hl:=jm e.ar;refine ao (cL @av1.eq_1 @gX.eq_1 (ai e)) (JJ ?_);refine aj e.ar (λk (n:Int)=>⟨[(1,.ref (cO e)),(3,.int .i64 n),(4,.int .i64 k)],[]⟩) (λk r n=>n+hY r=dt e/\1<=n) 1 (AI _) (CF (ai e)) ⟨by omega,Ch _⟩ (λk x r n d U Z E=>?_) (λk n e2 E=>?_)
 .obtain⟨g1,g2⟩:=E;rw[hY]at g1;have WE:=iz x;have JE:=jm r;have I:uV [J.agg (cO x)]<N:=by have:=YQ (ed U);simp only[uV,J.sz]at h2|-;omega
  have N3:dt x<=1000000000:=by omega
  have w1:IntKind.i64.wrap (n+dt x)=n+dt x:=df (by omega);have Y:=ayJ x;rw[lU N3]at Y;simp only[ai x]at Y I;refine ao (tM @YR (ai e) d (ag cO U) (ai x) Y I w1) (JJ ?_);exact⟨n+dt x,CT,by omega,by omega⟩
 .obtain⟨g1,_⟩:=E;rw[hY]at g1;exact ao (bV (ai e) e2) zz;all_goals omega
mutual
def ny:Ex->Int
 | .mk _ _ _ _ _ l=>nz l+1
def nz:List Ex->Int
 |[]=>0
 |x::l=>max (ny x) (nz l)
end
theorem Mz:∀e:Ex,ny e=nz e.ar+1
 | .mk .. =>by rw[ny];rfl
theorem Sw(e:Ex):1<=ny e/\ny e<=dt e:=by
 induction e using Ex.ind with
 |h e ih=>
  have key:∀l:List Ex,(∀x∈l,1<=ny x/\ny x<=dt x)->0<=nz l/\nz l<=hY l:=by
   intro l;induction l with
   |nil=>intro _;rw[nz,hY];omega
   |cons x l il=>intro h;rw[nz,hY];have:=h x (by simp);have:=il λy hy=>h y (by simp[hy]);omega
  grind[Mz,jX]
theorem apd(l:List Ex):0<=nz l/\nz l<=hY l:=by
 induction l with
 |nil=>rw[nz,hY];omega
 |cons x l ih=>rw[nz,hY];have:=Sw x;omega
noncomputable def J3:Ab->Prop×J:=bJ gX λe=>(dt e<=1000000000,.int .i64 (ny e))
theorem ayK(e:Ex):J3 [.agg (cO e)]=(dt e<=1000000000,.int .i64 (ny e)):=aI gC _ e
theorem aH2:aJ Tryz.prog 191 J3:=by
 refine aJ.rec λN ih=>?_;unfold J3;rw[My];refine aJ.mS (ps:=[(191,I5 N J3)]) (I:=[]) ⟨ih,BB⟩ trivial aHv λe h=>?_;try dsimp only at h
 obtain⟨h1,h2⟩:=h;have hq:=jX e;have Jr:=Mz e;have B:=iz e;have hl:=jm e.ar;have hb:=apd e.ar;refine ao (cL @av3.eq_1 @gX.eq_1 (ai e)) (JJ ?_);refine aj e.ar (λk (n:Int)=>⟨[(1,.ref (cO e)),(3,.int .i64 n),(4,.int .i64 k)],[]⟩) (λk r n=>max n (nz r)=nz e.ar/\0<=n/\hY r<=hY e.ar) 0 (AI _) (CF (ai e)) ⟨by omega,Ch _,Ch _⟩ (λk x r n d U Z E=>?_) (λk n e2 E=>?_)
 .obtain⟨g1,g2,g3⟩:=E;rw[nz]at g1;rw[hY]at g3;have WE:=iz x;have JE:=jm r;have I:uV [J.agg (cO x)]<N:=by have:=YQ (ed U);simp only[uV,J.sz]at h2|-;omega
  have Y:=ayK x;rw[lU (show dt x<=1000000000 by omega)]at Y;simp only[ai x]at Y I;refine ao (rO @YR (ai e) d (ag cO U) (ai x) Y I) (JJ ?_);exact⟨max n (ny x),CT,by omega,by omega,by omega⟩
 .obtain⟨g1,g2,_⟩:=E;rw[nz]at g1;exact ao (bV (ai e) e2) zz;all_goals omega
noncomputable def JX:Ab->Prop×J:=cH gX eI λe l=>(-1000000000<=l/\l<=1000000000,.int .i64 (max 0 (l-dt e)))
theorem ayL(e:Ex)(l:Int):JX [.agg (cO e),.int .i64 l]=(-1000000000<=l/\l<=1000000000,.int .i64 (max 0 (l-dt e))):=aY gC cF _ e l
theorem aH4:aJ Tryz.prog 71 JX:=by
 refine aJ.rec λN ih=>?_;unfold JX;rw[akL];refine aJ.se (ps:=[(71,I5 N JX)]) (I:=[]) ⟨ih,BB⟩ trivial aEV λe l h=>?_;try dsimp only at h
 obtain⟨⟨h0,h1⟩,h2⟩:=h;have hq:=jX e;have B:=iz e;by_cases c:l<=0
 .exact ao (fj @pI.eq_1 @gX.eq_1 (ai e) c) zz;all_goals omega
 refine ao (fj @pI.eq_1 @gX.eq_1 (ai e) c) (JJ ?_);refine aj e.ar (λk (n:Int)=>⟨[(1,.int .i64 n),(2,.ref (cO e)),(5,.int .i64 k)],[]⟩) (λk r n=>max 0 (n-hY r)=max 0 (l-dt e)/\0<=n/\n<=max 0 (l-1-k)/\k<=l) (l-1) (AI _) (CF (ai e)) ⟨by omega,by omega,by omega,by omega⟩ (λk x r n d U Z E=>?_) (λk n e2 E=>?_)
 .obtain⟨g1,g2,g3,g4⟩:=E;rw[hY]at g1;have WE:=iz x;have JE:=jm r;by_cases c2:n<=0
  .have c3:decide (n>0)=false:=Z7 (by omega);have c4:decide (0<n)=false:=Z7 (by omega);exact ao (cL (ai e) d c3) zz;all_goals omega
  have c3:decide (n>0)=true:=ON (by omega);have c4:decide (0<n)=true:=ON (by omega);have I:uV [J.agg (cO x),J.int .i64 n]<N:=by have:=YQ (ed U);simp only[uV,J.sz]at h2|-;omega
  have Y:=ayL x n;rw[lU (show-1000000000<=n/\n<=1000000000 by omega)]at Y;simp only[ai x]at Y I;refine ao (tM @YR (ai e) d (ag cO U) (ai x) Y I c3) (JJ ?_);exact⟨max 0 (n-dt x),CT,by omega,by omega,by omega,by omega⟩
 .obtain⟨g1,g2,_⟩:=E;rw[hY]at g1;exact ao (bV (ai e) e2) zz;all_goals omega
mutual
def az:Ex->List Ex
 | .mk k n s o a l=> .mk k n s o a l::bQ l
def bQ:List Ex->List Ex
 |[]=>[]
 |x::l=>az x++bQ l
end
theorem jj:∀e:Ex,az e=e::bQ e.ar
 | .mk .. =>by rw[az];rfl
theorem kf(e:Ex):((az e).length:Int)=dt e:=by
 induction e using Ex.ind with
 |h e ih=>
  have key:∀l:List Ex,(∀x∈l,((az x).length:Int)=dt x)->((bQ l).length:Int)=hY l:=by intro l;induction l<;>simp_all[bQ,hY]
  grind[jj,jX]
noncomputable def Ar:Ab->Prop×J:=bJ gX λe=>(dt e<=1000000000,.sl ((az e).map cO))
theorem As(e:Ex):Ar [.agg (cO e)]=(dt e<=1000000000,.sl ((az e).map cO)):=aI gC _ e
theorem oy:aJ Tryz.prog 99 Ar:=by
 refine aJ.rec λN ih=>?_;unfold Ar;rw[My];refine aJ.mS (ps:=[(99,I5 N Ar)]) (I:=[]) ⟨ih,BB⟩ trivial aFW λe h=>?_;try dsimp only at h
 obtain⟨h1,h2⟩:=h;have hq:=jX e;have B:=iz e;have hl:=jm e.ar;have PJ:=kf e;have hz:∀l:List Ex,∀r∈l.map cO,r.length=6:=λl r E=>by obtain⟨x,_,rfl⟩:=It.1 E;exact axs x
 refine ao (cL @auW.eq_1 @gX.eq_1 (ai e)) (JJ ?_);refine aj e.ar (λk (o:List Ex)=>⟨[(1,.ref (cO e)),(3,.own 0 o.length 0 o.length),(4,.int .i64 k)],[⟨.aV,6,o.map cO⟩]⟩) (λk r o=>o++bQ r=az e) [e] (AI _) (CF (ai e)) (by rw[jj];rfl) (λk x r o d U Z E=>?_) (λk o e2 E=>?_)
 .rw[bQ]at E;have ho:=C2 List.length E;simp only[AS]at ho;have WE:=iz x;have aJu:=kf x;have I:uV [J.agg (cO x)]<N:=by have:=YQ (ed U);simp only[uV,J.sz]at h2|-;omega
  have Y:=As x;rw[lU (show dt x<=1000000000 by omega)]at Y;have hzx:=lU (hz (az x));have ayM:o.length+(az x).length<=4294967296:=by omega
  simp only[ai x]at Y I;refine ao (ey @YR (ai e) d (ag cO U) (ai x) Y I hzx ayM) (JJ ?_);exact⟨o++az x,(CF @IN.{0,0}),by simp_all⟩
 .rw[bQ,xz]at E;subst E;refine ao (bV (ai e) e2) (JJ ?_);exact C2 J.sl (vc (by simp))
end Go.Proofs.YtldnkkkooabaeaaGreat
