/- Flows: what equations read, their order: the walk (21, 22). -/
import Derived.Test.YtcokmopocppmiaaGreatPgHb
set_option linter.all false
set_option maxRecDepth 20000
namespace Go.Proofs.YtcokmopocppmiaaGreat
noncomputable section
open Go.Nk
def Sv(q:Pl):List (List UInt8):=if q.kind=5 then []else q.args.map (·.1)
def Mr(q:Pl):List (List UInt8):=Sv q++(if q.reset then [q.ev]else [])++q.on.map (·.1)
theorem xw(q:Pl):fF q=(Mr q).filter (· !=[]):=rfl
def ajB(q:Pl):Prop:=q.args.length<=1000/\q.on.length<=1000/\q.names.length<=1000
def Oj:List DV->Prop×DV:=bB ePl λq=>(ajB q,.sl (dI (fF q)))
theorem XB(q):Oj [.agg (fJ q)]=(ajB q,.sl (dI (fF q))):=aH ajC _ q
set_option maxHeartbeats 2000000 in
theorem Ct:aF Tryz.prog 136 Oj:=by
 refine aF.mo (ps:=[]) (hs:=[]) trivial trivial Ea λq h=> ?_;try dsimp only at h
 obtain⟨kind,names,op,args,init,node,rs,ev,en,on⟩:=q;obtain⟨ha,BO,_⟩:=h;dsimp only at ha BO;by_cases k5:kind=5
 ·subst k5;have k5:(5:Int)=5:=rfl;refine aq (A2 @nH.eq_1 @ePl.eq_1) (JJ ?_);refine ai ([]:List Unit) (λk (_:Unit)=>⟨[(1,.ref (fJ ⟨5,names,op,args,init,node,rs,ev,en,on⟩)),(3,.own 0 0 0 0),(4,.int .i64 k)],[⟨.aN,1,[]⟩]⟩) (λk r _=>True) () (by decide) CT trivial (λk x r o d hx hd hr=>absurd d (by simp)) (λk _ e hr=> ?_);have e:k=0:=e;subst e;cases rs
  ·by_cases fM:(0:Int)<args.length;all_goals(refine aq @fM (JJ ?_))
   all_goals
    refine ai on (λk (o:List (List UInt8))=>⟨[(1,.ref (fJ ⟨5,names,op,args,init,node,false,ev,en,on⟩)),(3,.own 0 o.length 0 o.length),(5,.int .i64 k)],[⟨.aN,1,dI o⟩]⟩) (λk r o=>o++r.map (·.1)=Mr ⟨5,names,op,args,init,node,false,ev,en,on⟩/\o.length<=1001+k) [] (by decide) (CF @sI) ⟨by simp[Mr,Sv],by first|(simp;done)|omega|(simp;omega)⟩ (λk x r o d hx hd hr=> ?_) (λk o e hr=> ?_)
    ·obtain⟨r1,r2⟩:=hr;have ga:=af eD hx;obtain⟨a1,a2⟩:=x;refine aq (A4 @aj d ga @lS) (JJ ?_);exact⟨o++[a1],CT,by simpa using r1,by simp;omega⟩
    ·obtain⟨r1,r2⟩:=hr;rw[List.map_nil,List.append_nil]at r1;rw[xw,<-r1];refine aq @e (JJ ?_);refine ai o (λj (w:List (List UInt8))=>⟨[(3,.own 0 o.length 0 o.length),(6,.own 1 w.length 0 w.length),(7,.int .i64 j)],[⟨.aN,1,dI o⟩,⟨.aN,1,dI w⟩]⟩) (λj r w=>w++r.filter (· !=[])=o.filter (· !=[])/\w.length<=j) [] (by decide) (CF @sI) ⟨rfl,Nat.le_refl _⟩ (λj y r w dj hy hdj hw=> ?_) (λj w ej hw=> ?_)
     ·obtain⟨w1,w2⟩:=hw;have gy:=fk hy;rw[List.filter_cons]at w1;by_cases Ok:y=[]
      ·have UU:(y !=[])=false:=by simp[Ok]
       rw[UU]at w1;refine aq (A4 @aj dj gy Ok) (JJ ?_);all_goals first
        |exact absurd Ok (by assumption)
        |exact⟨w,CT,by simpa using w1,by omega⟩
      ·have UU:(y !=[])=true:=by simp[Ok]
       rw[UU]at w1;refine aq (A4 @aj dj gy @lS) (A2 ?_ (JJ ?_))<;>intros;all_goals first
        |exact absurd (by assumption) Ok
        |exact⟨w++[y],CT,by simpa using w1,by simp;omega⟩
     ·obtain⟨w1,w2⟩:=hw;have w1:w=o.filter (· !=[]):=by simpa using w1
      have ht:(dI w).take w.length=dI w:=List.take_of_length_le (by simp[dI]);refine aq (A3 @aj ej ht) (JJ ?_);all_goals(rw[<-w1];done)
  ·by_cases fM:(0:Int)<args.length;all_goals(refine aq @fM (JJ ?_))
   all_goals
    refine ai on (λk (o:List (List UInt8))=>⟨[(1,.ref (fJ ⟨5,names,op,args,init,node,true,ev,en,on⟩)),(3,.own 0 o.length 0 o.length),(5,.int .i64 k)],[⟨.aN,1,dI o⟩]⟩) (λk r o=>o++r.map (·.1)=Mr ⟨5,names,op,args,init,node,true,ev,en,on⟩/\o.length<=1001+k) [ev] (by decide) CT ⟨by simp[Mr,Sv],by first|(simp;done)|omega|(simp;omega)⟩ (λk x r o d hx hd hr=> ?_) (λk o e hr=> ?_)
    ·obtain⟨r1,r2⟩:=hr;have ga:=af eD hx;obtain⟨a1,a2⟩:=x;refine aq (A4 @aj d ga @lS) (JJ ?_);exact⟨o++[a1],CT,by simpa using r1,by simp;omega⟩
    ·obtain⟨r1,r2⟩:=hr;rw[List.map_nil,List.append_nil]at r1;rw[xw,<-r1];refine aq @e (JJ ?_);refine ai o (λj (w:List (List UInt8))=>⟨[(3,.own 0 o.length 0 o.length),(6,.own 1 w.length 0 w.length),(7,.int .i64 j)],[⟨.aN,1,dI o⟩,⟨.aN,1,dI w⟩]⟩) (λj r w=>w++r.filter (· !=[])=o.filter (· !=[])/\w.length<=j) [] (by decide) (CF @sI) ⟨rfl,Nat.le_refl _⟩ (λj y r w dj hy hdj hw=> ?_) (λj w ej hw=> ?_)
     ·obtain⟨w1,w2⟩:=hw;have gy:=fk hy;rw[List.filter_cons]at w1;by_cases Ok:y=[]
      ·have UU:(y !=[])=false:=by simp[Ok]
       rw[UU]at w1;refine aq (A4 @aj dj gy Ok) (JJ ?_);all_goals first
        |exact absurd Ok (by assumption)
        |exact⟨w,CT,by simpa using w1,by omega⟩
      ·have UU:(y !=[])=true:=by simp[Ok]
       rw[UU]at w1;refine aq (A4 @aj dj gy @lS) (A2 ?_ (JJ ?_))<;>intros;all_goals first
        |exact absurd (by assumption) Ok
        |exact⟨w++[y],CT,by simpa using w1,by simp;omega⟩
     ·obtain⟨w1,w2⟩:=hw;have w1:w=o.filter (· !=[]):=by simpa using w1
      have ht:(dI w).take w.length=dI w:=List.take_of_length_le (by simp[dI]);refine aq (A3 @aj ej ht) (JJ ?_);all_goals(rw[<-w1];done)
 ·refine aq (A2 @nH.eq_1 @ePl.eq_1) (JJ ?_);refine ai args (λk (o:List (List UInt8))=>⟨[(1,.ref (fJ ⟨kind,names,op,args,init,node,rs,ev,en,on⟩)),(3,.own 0 o.length 0 o.length),(4,.int .i64 k)],[⟨.aN,1,dI o⟩]⟩) (λk r o=>o++r.map (·.1)=args.map (·.1)/\o.length=k) [] (by decide) (CF @sI) ⟨rfl,rfl⟩ (λk x r o d hx hd hr=> ?_) (λk o e hr=> ?_)
  ·obtain⟨r1,r2⟩:=hr;have ga:=af eD hx;obtain⟨a1,a2⟩:=x;refine aq (A4 @aj d ga @lS) (JJ (λhn=> ?_));exact⟨o++[a1],CT,by simpa using r1,by simp[r2]⟩
  obtain⟨r1,r2⟩:=hr;rw[List.map_nil,List.append_nil]at r1;have hk:¬(k:Int)<args.length:=by omega
  have XC:o.length<=1000:=by omega
  cases rs
  ·refine aq @hk (JJ ?_);all_goals
    refine ai on (λk (o:List (List UInt8))=>⟨[(1,.ref (fJ ⟨kind,names,op,args,init,node,false,ev,en,on⟩)),(3,.own 0 o.length 0 o.length),(5,.int .i64 k)],[⟨.aN,1,dI o⟩]⟩) (λk r o=>o++r.map (·.1)=Mr ⟨kind,names,op,args,init,node,false,ev,en,on⟩/\o.length<=1001+k) o (by decide) CT ⟨by simp[Mr,Sv,k5,<-r1],by first|(simp;done)|omega|(simp;omega)⟩ (λk x r o d hx hd hr=> ?_) (λk o e hr=> ?_)
    ·obtain⟨r1,r2⟩:=hr;have ga:=af eD hx;obtain⟨a1,a2⟩:=x;refine aq (A4 @aj d ga @lS) (JJ ?_);exact⟨o++[a1],CT,by simpa using r1,by simp;omega⟩
    ·obtain⟨r1,r2⟩:=hr;rw[List.map_nil,List.append_nil]at r1;rw[xw,<-r1];refine aq @e (JJ ?_);refine ai o (λj (w:List (List UInt8))=>⟨[(3,.own 0 o.length 0 o.length),(6,.own 1 w.length 0 w.length),(7,.int .i64 j)],[⟨.aN,1,dI o⟩,⟨.aN,1,dI w⟩]⟩) (λj r w=>w++r.filter (· !=[])=o.filter (· !=[])/\w.length<=j) [] (by decide) (CF @sI) ⟨rfl,Nat.le_refl _⟩ (λj y r w dj hy hdj hw=> ?_) (λj w ej hw=> ?_)
     ·obtain⟨w1,w2⟩:=hw;have gy:=fk hy;rw[List.filter_cons]at w1;by_cases Ok:y=[]
      ·have UU:(y !=[])=false:=by simp[Ok]
       rw[UU]at w1;refine aq (A4 @aj dj gy Ok) (JJ ?_);all_goals first
        |exact absurd Ok (by assumption)
        |exact⟨w,CT,by simpa using w1,by omega⟩
      ·have UU:(y !=[])=true:=by simp[Ok]
       rw[UU]at w1;refine aq (A4 @aj dj gy @lS) (A2 ?_ (JJ ?_))<;>intros;all_goals first
        |exact absurd (by assumption) Ok
        |exact⟨w++[y],CT,by simpa using w1,by simp;omega⟩
     ·obtain⟨w1,w2⟩:=hw;have w1:w=o.filter (· !=[]):=by simpa using w1
      have ht:(dI w).take w.length=dI w:=List.take_of_length_le (by simp[dI]);refine aq (A3 @aj ej ht) (JJ ?_);all_goals(rw[<-w1];done)
  ·refine aq (A3 @aj hk @lS) (JJ ?_);all_goals
    refine ai on (λk (o:List (List UInt8))=>⟨[(1,.ref (fJ ⟨kind,names,op,args,init,node,true,ev,en,on⟩)),(3,.own 0 o.length 0 o.length),(5,.int .i64 k)],[⟨.aN,1,dI o⟩]⟩) (λk r o=>o++r.map (·.1)=Mr ⟨kind,names,op,args,init,node,true,ev,en,on⟩/\o.length<=1001+k) (o++[ev]) (by decide) CT ⟨by simp[Mr,Sv,k5,<-r1],by first|(simp;done)|omega|(simp;omega)⟩ (λk x r o d hx hd hr=> ?_) (λk o e hr=> ?_)
    ·obtain⟨r1,r2⟩:=hr;have ga:=af eD hx;obtain⟨a1,a2⟩:=x;refine aq (A4 @aj d ga @lS) (JJ ?_);exact⟨o++[a1],CT,by simpa using r1,by simp;omega⟩
    ·obtain⟨r1,r2⟩:=hr;rw[List.map_nil,List.append_nil]at r1;rw[xw,<-r1];refine aq @e (JJ ?_);refine ai o (λj (w:List (List UInt8))=>⟨[(3,.own 0 o.length 0 o.length),(6,.own 1 w.length 0 w.length),(7,.int .i64 j)],[⟨.aN,1,dI o⟩,⟨.aN,1,dI w⟩]⟩) (λj r w=>w++r.filter (· !=[])=o.filter (· !=[])/\w.length<=j) [] (by decide) (CF @sI) ⟨rfl,Nat.le_refl _⟩ (λj y r w dj hy hdj hw=> ?_) (λj w ej hw=> ?_)
     ·obtain⟨w1,w2⟩:=hw;have gy:=fk hy;rw[List.filter_cons]at w1;by_cases Ok:y=[]
      ·have UU:(y !=[])=false:=by simp[Ok]
       rw[UU]at w1;refine aq (A4 @aj dj gy Ok) (JJ ?_);all_goals first
        |exact absurd Ok (by assumption)
        |exact⟨w,CT,by simpa using w1,by omega⟩
      ·have UU:(y !=[])=true:=by simp[Ok]
       rw[UU]at w1;refine aq (A4 @aj dj gy @lS) (A2 ?_ (JJ ?_))<;>intros;all_goals first
        |exact absurd (by assumption) Ok
        |exact⟨w++[y],CT,by simpa using w1,by simp;omega⟩
     ·obtain⟨w1,w2⟩:=hw;have w1:w=o.filter (· !=[]):=by simpa using w1
      have ht:(dI w).take w.length=dI w:=List.take_of_length_le (by simp[dI]);refine aq (A3 @aj ej ht) (JJ ?_);all_goals(rw[<-w1];done)
def RF(f:Fl):Prop:=f.eqs.length<=100000/\∀q∈f.eqs,ajB q
def Rb(f:Fl)(bs:List Bool):List (List (List UInt8)×Bool):=(f.eqs.map (·.names)).zip bs
def Ol:List DV->Prop×DV:=eR WC UW eS λf bs s=>(RF f/\bs.length=f.eqs.length,.bool (gK (Rb f bs) s))
def XD(f:Fl)(bs:List Bool)(s):=show Ol [.agg (j0 f),.sl (bs.map z7),.str s]=_ from bz D5 M5 ik _ f bs s
theorem Cu:aF Tryz.prog 137 Ol:=by
 refine aF.uR (ps:=[]) (hs:=[]) trivial trivial Eb λn bs s h=> ?_;try dsimp only at h
 obtain⟨⟨h4,h6⟩,hb⟩:=h;refine aq (A3 @tM.eq_1 @UW.eq_1 @WC.eq_1) (JJ ?_);refine ai n.eqs (λk (_:Unit)=>⟨[(1,.sl (bs.map z7)),(2,.str s),(3,.ref (j0 n)),(7,.int .i64 k)],[]⟩) (λk r _=>gK (Rb n bs) s=gK ((r.map (·.names)).zip (bs.drop k)) s) () (Nat.zero_le _) CT rfl (λk x r _ d hx hd hr=> ?_) (λk _ e hr=> ?_)
 ·have dk:k<bs.length:=by omega
  obtain⟨b,q1,q2⟩:=dP bs dk;rw[q2,List.map_cons,List.zip_cons_cons,Li]at hr;have gx:=af fJ hx;have gb:=Jy q1;have ax7:=(h6 x (List.mem_of_getElem? hx)).2.2;refine aq @d (JJ ?_);refine ai x.names (λj (_:Unit)=>⟨[(1,.sl (bs.map z7)),(2,.str s),(3,.ref (j0 n)),(7,.int .i64 k),(8,.int .i64 j)],[]⟩) (λj w _=>gK (Rb n bs) s=((!b&&w.any (·==s))||gK ((r.map (·.names)).zip (bs.drop (k+1))) s)) () (Nat.zero_le _) CT hr (λj y w _ dj hy hdj hw=> ?_) (λj _ ej hw=> ?_)
  ·rw[List.any_cons]at hw;have gy:=fk hy;have hbl:(k:Int)<bs.length:=by omega
   cases b
   ·by_cases hys:y=s
    ·subst hys;refine aq (A7 @aj d dj gx gb gy hb) (JJ ?_);all_goals(rw[hw];simp;done)
    ·have UU:(y==s)=false:=by simpa using hys
     rw[UU,Bool.false_or]at hw;refine aq (A7 @aj d dj gx gb gy hb) (A2 ?_ (JJ ?_))<;>intros;all_goals first|exact absurd (by assumption) hys|exact⟨(),CT,hw⟩
   ·refine aq (A6 @aj d dj gx gb hb) (JJ ?_);all_goals exact⟨(),CT,hw⟩
  ·rw[List.any_nil,Bool.and_false,Bool.false_or]at hw;refine aq (A4 @aj d gx ej) (JJ ?_);all_goals exact⟨(),CT,hw⟩
 ·have hr:_=false:=hr;rw[hr];exact aq @e zz;all_goals rfl
theorem ajD{n:Fl}{bs:List Bool}(h:bs.length=n.eqs.length){k}(hk:k<n.eqs.length):(Rb n bs).getD k ([],true)=((n.eqs.getD k default).names,bs.getD k true):=by
 have h1:=hU hk;have h2:bs[k]? =some (bs.getD k true):=by rw[List.getD_eq_getElem?_getD,List.getElem?_eq_getElem (by omega)];rfl
 rw[List.getD_eq_getElem?_getD,Rb,(List.getElem?_zip_eq_some (z:=((n.eqs.getD k default).names,bs.getD k true))).2 ⟨by rw[List.getElem?_map,h1];rfl,h2⟩];rfl
theorem anL{n:Fl}{bs:List Bool}(h:bs.length=n.eqs.length){k}(hk:k<n.eqs.length):Rb n (bs.set k true)=place (Rb n bs) k:=by
 unfold place;rw[ajD h hk];refine List.ext_getElem? λj=> ?_;simp only[Rb];rw[List.getElem?_set];by_cases hj:k=j
 ·subst hj;rw[if_pos rfl,if_pos (by simp[h,hk]),(List.getElem?_zip_eq_some (z:=((n.eqs.getD k default).names,true))).2 ⟨by rw[List.getElem?_map,hU hk];rfl,by rw[List.getElem?_set,if_pos rfl,if_pos (by omega)]⟩]
 ·rw[if_neg hj];simp only[List.zip,List.getElem?_zipWith,List.getElem?_set,if_neg hj]
def hsF(n:Fl):List (List (List UInt8)):=n.eqs.map fF
theorem arh{n:Fl}{k}(hk:k<n.eqs.length):(hsF n).getD k []=fF (n.eqs.getD k default):=by rw[List.getD_eq_getElem?_getD,hsF,List.getElem?_map,hU hk];rfl
theorem af0{q}(h:ajB q):(fF q).length<=3000:=by
 have h1:(fF q).length<=(Mr q).length:=by rw[xw];exact List.length_filter_le ..
 have h2:(Mr q).length<=2001:=by
  unfold Mr Sv;obtain⟨a,b,_⟩:=h;rw[List.length_append,List.length_append,List.length_map];have:(if q.kind=5 then([]:List (List UInt8))else q.args.map (·.1)).length<=1000:=by split<;>simp;omega
  have:(if q.reset=true then [q.ev]else []).length<=1:=by split<;>simp
  omega
 omega
def GR:List DV->Prop×DV:=eR WC UW eI λn bs i=>((RF n/\bs.length=n.eqs.length)/\0<=i/\i<n.eqs.length,.bool (rS (hsF n) (Rb n bs) i.toNat))
def XE(n:Fl)(bs:List Bool)(i:Int):=show GR [.agg (j0 n),.sl (bs.map z7),.int .i64 i]=_ from bz D5 M5 b6 _ n bs i
theorem Cv:aF Tryz.prog 101 GR:=by
 refine aF.uR (ps:=[(136,Oj),(137,Ol)]) (hs:=[]) ⟨Ct,Cu,trivial⟩ trivial Ec λn bs i h=> ?_;try dsimp only at h
 obtain⟨⟨hs,hb⟩,h0,h1⟩:=h;obtain⟨m,rfl⟩:=Int.eq_ofNat_of_zero_le h0;simp only[Int.toNat_natCast];have hm:m<n.eqs.length:=by omega
 have hqm:=hs.2 _ (List.mem_of_getElem? (hU hm));have gq:=af fJ (hU hm);have e1:=XB (n.eqs.getD m default);rw[eq_true hqm]at e1;have hz:rS (hsF n) (Rb n bs) m=((fF (n.eqs.getD m default)).all (λs=> !gK (Rb n bs) s)&& !bs.getD m true):=by unfold rS;rw[arh hm,ajD hb hm]
 rw[hz];have gb:(bs.map z7).getD m []=[.bool (bs.getD m true)]:=Jy (by rw[List.getD_eq_getElem?_getD,List.getElem?_eq_getElem (by omega)];rfl);have hbl:m<bs.length:=by omega
 have e2:=λs=>XD n bs s;simp only[eq_true (show RF n/\bs.length=n.eqs.length from⟨hs,hb⟩)]at e2;have hll:=af0 hqm;have Ed:(m:Int)<n.eqs.length:=by omega
 generalize n.eqs.getD m default=q at*;generalize fF q=l at*;generalize bs.getD m true=b at*;refine aq (A6 @tN.eq_1 @UW.eq_1 @WC.eq_1 e1 gq Ed) (JJ ?_);refine ai l (λk (_:Unit)=>⟨[(1,.sl (bs.map z7)),(2,.int .i64 m),(3,.ref (j0 n)),(7,.sl (dI l)),(8,.int .i64 k)],[]⟩) (λk r _=>(l.all λs=> !gK (Rb n bs) s)=r.all λs=> !gK (Rb n bs) s) () (Nat.zero_le _) CT rfl (λk s r _ d hx hd hr=> ?_) (λk _ e hr=> ?_)
 ·rw[List.all_cons]at hr;have gs:=fk hx;have e3:=e2 s;generalize gK (Rb n bs) s=w at*;cases w
  ·refine aq (A4 @aj d gs e3) (JJ ?_);exact⟨(),CT,hr⟩
  ·refine aq (A4 @aj d gs e3) (JJ ?_);all_goals(rw[hr];rfl)
 ·have hr:_=true:=hr;rw[hr];exact aq (A4 @aj e gb hbl) zz;all_goals rfl
def Om:List DV->Prop×DV:=bB WC λn=>(RF n,.cy [.sl ((eH n).1.map IU),.bool (eH n).2])
def XG(n):=show Om [.agg (j0 n)]=_ from aH D5 _ n
theorem Cw:aF Tryz.prog 70 Om:=by
 refine aF.mo (ps:=[(101,GR)]) (hs:=[]) ⟨Cv,trivial⟩ trivial Ee λn h=> ?_;try dsimp only at h
 have hs:RF n:=h;have h4:=hs.1;have hp0:(n.eqs.map λx=>(x.names,false))=Rb n (List.replicate n.eqs.length false):=by
  refine List.ext_getElem? λj=> ?_;simp only[Rb,List.getElem?_map,List.zip,List.getElem?_zipWith,List.getElem?_replicate];cases hj:n.eqs[j]? with
  |none=>rfl
  |some x=>rw[if_pos (List.getElem?_eq_some_iff.1 hj).1];rfl
 have BO:eH n=fH (hsF n) n.eqs.length (Rb n (List.replicate n.eqs.length false)):=by rw[<-hp0];rfl
 have Cx:List.replicate n.eqs.length [DV.bool false]=(List.replicate n.eqs.length false).map z7:=by rw[List.map_replicate]
 refine aq (A2 @tO.eq_1 @WC.eq_1) (JJ ?_);refine gT (λx:List Nat×List Bool=>⟨[(1,.ref (j0 n)),(4,.own 0 n.eqs.length 0 n.eqs.length),(5,.own 1 x.1.length 0 x.1.length)],[⟨.aN,1,x.2.map z7⟩,⟨.aN,1,x.1.map IU⟩]⟩)
  (λx=>x.2.length=n.eqs.length/\x.1.length<=n.eqs.length/\eH n=(x.1++(fH (hsF n) (n.eqs.length-x.1.length) (Rb n x.2)).1,(fH (hsF n) (n.eqs.length-x.1.length) (Rb n x.2)).2)) (λx=>n.eqs.length-x.1.length) ([],List.replicate n.eqs.length false) (by decide) (CF @Cx) ⟨by simp,Nat.zero_le _,by rw[BO];rfl⟩ λx hx=> ?_
 obtain⟨out,bs⟩:=x;obtain⟨hb,XC,hr⟩:=hx;dsimp only at hb XC hr;by_cases fM:out.length<n.eqs.length;rotate_left
 ·have he:n.eqs.length-out.length=0:=by omega
  rw[he,fH]at hr;rw[hr,List.append_nil];have ht:(out.map IU).take out.length=out.map IU:=List.take_of_length_le (by simp);have AA:¬(out.length:Int)<n.eqs.length:=by omega
  exact aq (A2 AA ht) zz;all_goals rfl
 have AA:(out.length:Int)<n.eqs.length:=by omega
 rw[show n.eqs.length-out.length=(n.eqs.length-out.length-1)+1 by omega,fH]at hr;have hnx:On (hsF n) (Rb n bs)=(List.range n.eqs.length).find? (rS (hsF n) (Rb n bs)):=by unfold On;rw[hsF,List.length_map]
 rw[hnx]at hr;generalize hrd:rS (hsF n) (Rb n bs)=rd at*;have e1:∀j:Nat,j<n.eqs.length->GR [.agg (j0 n),.sl (bs.map z7),.int .i64 j]=(True,.bool (rd j)):=λj hj=>by have:=XE n bs j;rw[eq_true (show(RF n/\bs.length=n.eqs.length)/\(0:Int)<=j/\(j:Int)<n.eqs.length from⟨⟨hs,hb⟩,by omega,by omega⟩),Int.toNat_natCast,hrd]at this;exact this
 have htb:(bs.map z7).take n.eqs.length=bs.map z7:=List.take_of_length_le (by simp;omega);refine aq @AA (JJ ?_);refine gT (λx:Nat×Option Nat=>⟨[(1,.ref (j0 n)),(4,.own 0 n.eqs.length 0 n.eqs.length),(5,.own 1 out.length 0 out.length),(6,.int .i64 (Oo x.2)),(7,.int .i64 x.1)],[⟨.aN,1,bs.map z7⟩,⟨.aN,1,out.map IU⟩]⟩)
  (λx=>x.1<=n.eqs.length/\(x.2=none->(List.range n.eqs.length).find? rd=((List.range n.eqs.length).drop x.1).find? rd)/\∀j,x.2=some j->(List.range n.eqs.length).find? rd=some j) (λx=>n.eqs.length-x.1) (0,none) (by decide) (CF (A2 @Oo.eq_1 @Oo.eq_2)) ⟨Nat.zero_le _,λ_=>rfl,λj hj=>by cases hj⟩ λx hx=> ?_
 obtain⟨i,o⟩:=x;obtain⟨hi,zK,hs0⟩:=hx;dsimp only at hi zK hs0;cases o with
 |some j=>
  have hf:=hs0 j rfl;rw[hf]at hr;dsimp only at hr;have hil:j<n.eqs.length:=by have:=List.mem_of_find?_eq_some hf;simpa using this
  have ho:Oo (some j)=(j:Int):=rfl;have hi0:¬(j:Int)<0:=by omega
  have XH:(bs.map z7).set j [.bool true]=(bs.set j true).map z7:=by rw[List.map_set]
  have abw:out.map IU++[[DV.int .i64 j]]=(out++[j]).map IU:=by simp[IU]
  have hbi:j<bs.length:=by omega
  have ari:(j:Int)<n.eqs.length:=by omega
  have gbi:(bs.map z7).getD j []=[.bool (bs.getD j true)]:=Jy (by rw[List.getD_eq_getElem?_getD,List.getElem?_eq_getElem hbi];rfl);have hk:n.eqs.length-(out++[j]).length=n.eqs.length-out.length-1:=by simp;omega
  by_cases Lg:(i:Int)<n.eqs.length;all_goals(refine aq (A6 Lg ho hi0 ari hb gbi) (JJ ?_))
  all_goals exact⟨(out++[j],bs.set j true),(CF (A2 XH abw)),⟨by simp[hb],by simp;omega,by dsimp only;rw[hr,hk,anL hb hil,List.append_assoc];rfl⟩,by dsimp only;rw[hk];omega⟩
 |none=>
  have hno:=zK rfl;have ho:Oo none= -1:=rfl;by_cases Lg:i<n.eqs.length
  ·have e2:=e1 i Lg;rw[Ef Lg,List.find?_cons]at hno;have anM:(i:Int)<n.eqs.length:=by omega
   generalize hb0:rd i=b at*;cases b
   ·refine aq (A6 anM ho e2 htb hb @Nat.le_refl) (JJ ?_);exact⟨(i+1,none),(CF @ho),⟨by dsimp only;omega,λ_=>hno,λj hj=>by cases hj⟩,by dsimp only;omega⟩
   ·refine aq (A6 anM ho e2 htb hb @Nat.le_refl) (JJ ?_);have hos:Oo (some i)=(i:Int):=rfl;exact⟨(i+1,some i),(CF @hos),⟨by dsimp only;omega,(λhh=>by cases hh),(λj hj=>by injection hj with hj;rw[<-hj];exact hno)⟩,by dsimp only;omega⟩
  ·have hdn:(List.range n.eqs.length).drop i=[]:=List.drop_of_length_le (by simp;omega);rw[hdn]at hno;have hno:(List.range n.eqs.length).find? rd=none:=hno;rw[hno]at hr;dsimp only at hr;rw[List.append_nil]at hr;rw[hr];have ht:(out.map IU).take out.length=out.map IU:=List.take_of_length_le (by simp);have anM:¬(i:Int)<n.eqs.length:=by omega
   exact aq (A3 anM ho ht) zz;all_goals rfl
theorem Sw{hs:List (List (List UInt8))}:∀(k:Nat) (pl:List (List (List UInt8)×Bool)),∀i∈(fH hs k pl).1,i<hs.length
 |0,_,i,h=>by simp[fH]at h
 |k+1,pl,i,h=>by
  rw[fH]at h;split at h
  ·simp at h
  ·rename_i j hj;rcases List.mem_cons.1 h with rfl|h
   ·have:=List.mem_of_find?_eq_some hj;simpa using this
   ·exact Sw k _ i h
theorem Sx{hs}:∀(k:Nat) (pl:List (List (List UInt8)×Bool)),(fH hs k pl).1.length<=k
 |0,_=>by simp[fH]
 |k+1,pl=>by
  rw[fH];split
  ·simp
  ·have:=Sx (hs:=hs) k (place pl ‹Nat›);simpa using this
def flZ:Fl:=⟨[],[],[],[],[]⟩
def Jz:List DV->Prop×DV:=bB WC λf=>(RF f,.cy [.agg (j0 (if(eH f).2 then kf f else flZ)),.bool (eH f).2])
def UX(f):=show Jz [.agg (j0 f)]=_ from aH D5 _ f
theorem Eg:aF Tryz.prog 40 Jz:=by
 refine aF.mo (ps:=[(70,Om)]) (hs:=[]) ⟨Cw,trivial⟩ trivial GS λf h=> ?_;try dsimp only at h
 have hs:RF f:=h;have e1:=XG f;rw[eq_true hs]at e1;have fM:∀i∈(eH f).1,i<f.eqs.length:=λi hi=>by have:=Sw _ _ i hi;simpa using this
 have hle:(eH f).1.length<=f.eqs.length:=Sx _ _;have h4:=hs.1;have hsf:kf f=⟨f.name,f.ins,f.outs,f.vars,(eH f).1.map λi=>f.eqs.getD i default⟩:=rfl;rw[hsf];generalize eH f=o at*;obtain⟨l,b⟩:=o;dsimp only at e1 fM hle|-;cases b
 ·rw[if_neg (by simp)];refine aq (A3 @ph.eq_1 @WC.eq_1 e1) (JJ ?_);all_goals rfl
 rw[if_pos rfl];refine aq (A3 @ph.eq_1 @WC.eq_1 e1) (JJ ?_);refine ai l (λk (o:List Pl)=>⟨[(1,.ptr 0 1 0 0),(2,.ptr 1 1 0 0),(4,.sl (l.map IU)),(6,.own 2 o.length 0 o.length),(7,.int .i64 k)],[⟨.loc,5,[j0 f]⟩,⟨.loc,5,[[.str [],.nil,.nil,.nil,.nil]]⟩,⟨.aN,10,o.map fJ⟩]⟩) (λk r o=>o++r.map (λi=>f.eqs.getD i default)=l.map (λi=>f.eqs.getD i default)/\o.length=k) [] (by decide) CT ⟨rfl,rfl⟩ (λk i r o d hx hd hr=> ?_) (λk o e hr=> ?_)
 ·obtain⟨r1,r2⟩:=hr;have hi:=fM i (List.mem_of_getElem? hx);have gi:=af IU hx;have gq:=af fJ (hU hi);have hi2:(i:Int)<f.eqs.length:=by omega
  rw[List.map_cons]at r1;generalize f.eqs.getD i default=q at*;refine aq (A5 d gi gq hi2 @IU.eq_1) (JJ ?_);all_goals first
   |exact⟨o++[q],(CF @List.map_append.{0,0}),by simpa using r1,by simp[r2]⟩
 ·obtain⟨r1,r2⟩:=hr;rw[List.map_nil,List.append_nil]at r1;rw[<-r1];have ht:(o.map fJ).take l.length=o.map fJ:=List.take_of_length_le (by simp;omega);exact aq (A3 e @r2 ht) zz;all_goals rfl
def AB(st:Em):Prop:=∀q∈st.qs,ajB q
theorem XI{first}{q:Pl}{nm:List (List UInt8)}{t}{on:List dY}{st:Em}(h:AB st)(hq:q.args.length<=1000)(hn:nm.length<=1000)(ho:on.length<=1000):AB (kC first q nm t on st).2:=by
 unfold kC;split
 ·intro x hx;rcases List.mem_append.1 hx with hx|hx
  ·exact h x hx
  ·simp at hx;subst hx;exact⟨hq,ho,by simp⟩
 ·intro x hx;rcases List.mem_append.1 hx with hx|hx
  ·exact h x hx
  ·simp at hx;subst hx;exact⟨hq,ho,hn⟩
theorem ajF{first}{e}{on:List dY}{st:Em}(h:AB st)(ho:on.length<=1000):AB (jA first e on st):=by
 unfold jA;split
 ·exact XI h (by simp[zR]) (by simp) ho
 ·exact h
theorem JA{p}{node}{first}{M}:∀(l:List Ex) (w6:List (Option (List dY))) (st:Em),(∀x∈l,∀on st,on.length+(ax x).length<=1000->AB st->AB (gU p node first x on st).2)->(∀on,some on∈w6->on.length<=M)->(∀x∈l,M+(ax x).length<=1000)->AB st->AB (bM p node first l w6 st).2
 |[],w6,st,_,_,_,h=>by rw[bM];exact h
 |x::l,[],st,_,_,_,h=>by rw[bM];exact h
 |x::l,none::r,st,hl,ho,hm,h=>by rw[bM];exact JA l r st (λy hy=>hl y (List.mem_cons_of_mem _ hy)) (λon BO=>ho on (List.mem_cons_of_mem _ BO)) (λy hy=>hm y (List.mem_cons_of_mem _ hy)) h
 |x::l,some on::r,st,hl,ho,hm,h=>by rw[bM];have h1:=ho on (List.mem_cons_self ..);have h2:=hm x (List.mem_cons_self ..);have h3:=hl x (List.mem_cons_self ..) on st (by omega) h;exact JA l r _ (λy hy=>hl y (List.mem_cons_of_mem _ hy)) (λon BO=>ho on (List.mem_cons_of_mem _ BO)) (λy hy=>hm y (List.mem_cons_of_mem _ hy)) h3
theorem Eh{p}{node}{first}:∀(l:List Ex) (w6:List (Option (List dY))) (st:Em),(bM p node first l w6 st).1.length<=l.length
 |[],w6,st=>by rw[bM];simp
 |x::l,[],st=>by rw[bM];simp
 |x::l,none::r,st=>by rw[bM];simpa using Eh l r st
 |x::l,some on::r,st=>by rw[bM];simpa using Eh l r _
theorem arj{p}{e}{on on':List dY}(h:some on'∈mO p e on):on'.length<=on.length+1:=by
 unfold mO at h;split at h
 ·rcases List.mem_cons.1 h with h|h
  ·cases h
  ·obtain⟨_,_,h⟩:=List.mem_map.1 h;injection h with h;subst h;omega
 ·split at h
  ·simp at h;obtain⟨_,rfl⟩:=h;simp;omega
  ·split at h
   ·simp at h;obtain⟨c,_,rfl⟩:=h;simp
   ·simp at h;obtain⟨_,rfl⟩:=h;omega
theorem anN{p}{node}{first}{e}{ats:List xx}{fr}:(mkR p node first e ats fr).args.length<=ats.length+1:=by
 unfold mkR;by_cases k5:e.kind=5
 ·rw[if_pos k5];simp
 rw[if_neg k5];by_cases k6:e.kind=6
 ·rw[if_pos k6];simp
 rw[if_neg k6];by_cases k7:e.kind=7
 ·rw[if_pos k7];simp
 rw[if_neg k7];by_cases XJ:e.kind=14
 ·rw[if_pos XJ];simp
 rw[if_neg XJ];by_cases k15:e.kind=15
 ·rw[if_pos k15];simp
 rw[if_neg k15];by_cases k16:e.kind=16
 ·rw[if_pos k16];simp
 rw[if_neg k16];by_cases Cy:e.kind=13
 ·rw[if_pos Cy];by_cases n1:e.n=1
  ·rw[if_pos n1];simp;omega
  ·rw[if_neg n1];simp
 rw[if_neg Cy];by_cases k8:e.kind=8
 ·rw[if_pos k8];simp;omega
 rw[if_neg k8];by_cases WD:e.kind=10
 ·rw[if_pos WD];simp
 rw[if_neg WD];by_cases k9:e.kind=9
 ·rw[if_pos k9];simp
 rw[if_neg k9];by_cases M6:e.kind=11
 ·rw[if_pos M6];simp
 rw[if_neg M6];by_cases AD:e.kind=12
 ·rw[if_pos AD];simp
 rw[if_neg AD];simp
theorem Oq{p}{node}{first}(e:Ex)(h:∀x∈e.ar,∀on st,on.length+(ax x).length<=1000->AB st->AB (gU p node first x on st).2)(nm:List (List UInt8))(on:List dY)(st:Em)(hn:nm.length<=1000)(ho:on.length+(ax e).length<=1000)(hs:AB st):AB (eX p node first e nm on st).2:=by
 unfold eX lT;have z8:=ox e;have hsl:e.ar.length<=(bC e.ar).length:=by
  have:∀l:List Ex,l.length<=(bC l).length:=by
   intro l;induction l with
   |nil=>simp
   |cons y l ih=>rw[fW,List.length_append,iA];simp;omega
  exact this _
 have h1:=ajF (first:=first) (e:=e) (on:=on) hs (by omega);have h2:=JA (p:=p) (node:=node) (first:=first) (M:=on.length+1) e.ar (mO p e on) (jA first e on st) h (λon' h'=>arj h') (λx hx=>by have:=jK hx;omega) h1;have h3:=Eh (p:=p) (node:=node) (first:=first) e.ar (mO p e on) (jA first e on st);refine XI h2 ?_ hn (by omega);show(xy p node first e (bM p node first e.ar (mO p e on) (jA first e on st)).1 (jA first e on st).fr).args.length<=1000;rw[<-ajH];have:=anN (p:=p) (node:=node) (first:=first) (e:=e) (ats:=(bM p node first e.ar (mO p e on) (jA first e on st)).1) (fr:=(jA first e on st).fr);show(mkR p node first e _ _).args.length<=1000;omega
theorem ajI{p}{node}{first}(e):∀(on:List dY) (st:Em),on.length+(ax e).length<=1000->AB st->AB (gU p node first e on st).2:=by
 induction e using Ex.ind with
 |h e ih=>
  intro on st ho hs;rw[qW];split
  ·exact hs
  ·exact Oq e ih [] on st (by simp) ho hs
theorem ark{p}{i}{n}(hs:dH n=true):RF (fN p i n):=by
 obtain⟨l1,l2,l3,l4,_,l6⟩:=cO hs;have key:∀(l:List wq) (st:Em),(∀x∈l,x.names.length<=20/\er x.e=true)->AB st->AB (l.foldl (uP p i) st)/\(l.foldl (uP p i) st).qs.length<=st.qs.length+600*l.length:=by
  intro l;induction l with
  |nil=>intro st _ h;exact⟨h,by simp⟩
  |cons x l ih=>
   intro st hl h;obtain⟨a1,a2⟩:=hl x (List.mem_cons_self ..);have hpa:=kL a2;have hrl:=sJ (p:=p) (i:=i) (s:=x.names.getD 0 []);have h1:AB (uP p i st x):=Oq x.e (λy _=>ajI y) x.names _ ⟨0,st.vs,st.qs⟩ (by omega) (by omega) h;have hgr:=(NG (p:=p) (node:=i) (first:=x.names.getD 0 []) x.e x.names ((da p i (x.names.getD 0 [])).getD []) ⟨0,st.vs,st.qs⟩).qs;have hem:uP p i st x=(eX p i (x.names.getD 0 []) x.e x.names ((da p i (x.names.getD 0 [])).getD []) ⟨0,st.vs,st.qs⟩).2:=rfl;rw[<-hem]at hgr;obtain⟨g1,g2⟩:=ih (uP p i st x) (λy hy=>hl y (List.mem_cons_of_mem _ hy)) h1;rw[List.foldl_cons];refine⟨g1,?_⟩;dsimp only at hgr;rw[List.length_cons];omega
 obtain⟨k1,k2⟩:=key n.eqs ⟨0,n.vars.map (varOf p i),[]⟩ l6 (λq hq=>by simp at hq);refine⟨?_,k1⟩;have:(emN p i n).qs.length<=600*n.eqs.length:=by unfold emN;simpa using k2
 show(emN p i n).qs.length<=100000;omega
theorem arl{p}(hP:bx p=true):∀f∈lK p,RF f:=by intro f hf;obtain⟨i,hi,rfl⟩:=List.mem_mapIdx.1 hf;exact ark ((eO hP).2 _ (List.getElem_mem _))
theorem af3(p:cY):(lK p).length=p.nodes.length:=by simp[lK]
def Jb:List DV->Prop×DV:=bB bj λp=>(bx p=true,.cy [.agg (b8 (if wv p then dU p else⟨[],[]⟩)),.bool (wv p)])
def Ug(p):=show Jb [.agg (bT p)]=_ from aH dp _ p
theorem aa8:aF Tryz.prog 22 Jb:=by
 refine aF.mo (ps:=[(39,JB),(40,Jz)]) (hs:=[]) ⟨abz,Eg,trivial⟩ trivial Ei λp h=> ?_;dsimp only;have hP:bx p=true:=h;have e1:=UY p;rw[eq_true hP]at e1;have hsB:wv p=(vm p&&(lK p).all λf=>(eH f).2):=rfl;have hsL:dU p=⟨p.en,(lK p).map kf⟩:=rfl;rw[hsL,hsB];have lI:=arl hP;have UI:=af3 p;have Rc:=(eO hP).1;generalize vm p=nb at*;cases nb
 ·rw[Bool.false_and,if_neg (by simp)];exact aq (A3 @nI.eq_1 @bj.eq_1 e1) zz;all_goals rfl
 rw[if_pos rfl]at e1;rw[Bool.true_and];generalize lK p=l at*;refine aq (A3 @nI.eq_1 @bj.eq_1 e1) (JJ ?_);refine qF ?_;refine aq trivial (JJ ?_);refine ai l (λk (o:List Fl)=>⟨[(2,.ptr 0 1 0 0),(4,.ptr 1 1 0 0),(6,.ptr 2 1 0 0),(7,.int .i64 k)],[⟨.loc,2,[[.nil,.nil]]⟩,⟨.loc,2,[b8 ⟨p.en,l⟩]⟩,⟨.loc,2,[[.sl (p.en.map jQ),.own 3 o.length 0 o.length]]⟩,⟨.aN,5,o.map j0⟩]⟩) (λk r o=>o++r.map kf=l.map kf/\o.length=k/\(l.all λf=>(eH f).2)=r.all λf=>(eH f).2) [] (by decide) CT ⟨rfl,rfl,rfl⟩ (λk f r o d hx hd hr=> ?_) (λk o e hr=> ?_)
 ·obtain⟨r1,r2,r3⟩:=hr;rw[List.all_cons]at r3;have gf:=af j0 hx;have e2:=UX f;rw[eq_true (lI f (List.mem_of_getElem? hx))]at e2;rw[List.map_cons]at r1;generalize (eH f).2=b at*;cases b
  ·rw[Bool.false_and]at r3;rw[r3,if_neg (by simp)];rw[if_neg (by simp)]at e2;exact aq (A3 d gf e2) zz;all_goals rfl
  ·rw[Bool.true_and]at r3;rw[if_pos rfl]at e2;generalize kf f=f2 at*;refine aq (A3 d gf e2) (JJ ?_);all_goals first
    |exact⟨o++[f2],(CF @List.map_append.{0,0}),by simpa using r1,by simp[r2],r3⟩
 ·obtain⟨r1,r2,r3⟩:=hr;rw[List.map_nil,List.append_nil]at r1;have r3:(l.all λf=>(eH f).2)=true:=r3;rw[r3,if_pos rfl,<-r1];have ht:(o.map j0).take l.length=o.map j0:=List.take_of_length_le (by simp;omega);exact aq (A3 e @r2 ht) zz;all_goals rfl
end
end Go.Proofs.YtcokmopocppmiaaGreat
