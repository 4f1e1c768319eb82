/- Arguments read behind the call as they read before; a law's contract from what the data level tells. -/
import Derived.Test.YtldnkkkooabaeaaGreatNkU
import Derived.Handed
import Derived.JoinedCond
import Derived.Calls
import Derived.Laws.BitsAllLaws
import Derived.Laws.Bits64
set_option linter.all false
namespace Go.Nk
open Go.RowKit Go.WideShapes Go.ChangeShapes Go.Deep
section
variable {H:Type} {enc:TypeId×Value->H} {P:Program} {w w':World}
theorem v9{sp:Nat->Bool}{Ls:List TypeId}(hL:Hx P Ls):∀(fuel:Nat) (t:TypeId) (cs:List Value) (x:DataW H×List MemPlace),t∈Ls->DataW.trod enc P w 0 Bk true fuel t cs=some x->
 (∀p∈x.2,sp p.block=true)->DataW.trod enc P w 0 sp true fuel t cs=some x
 |0,t,cs,x,_,U,_=>by simp[DataW.trod]at U
 |m+1,t,cs,x,NG,U,I=>by
  have h:=hL t NG;unfold Z9 at h;rw[DataW.trod_step]at U|-;unfold DataW.trodStep at U|-;split at h
  next k hk=>rw[hk]at U|-;split at U<;>simp_all
  next hk=>rw[hk]at U|-;split at U<;>simp_all
  next hk=>rw[hk]at U|-;split at U<;>simp_all
  .rename_i e hk;simp only[ab,ir]at h;have heL:e∈Ls:=by simpa using h.1.1.2
   rw[hk]at U|-;split at U<;>rename_i Ih<;>try(first|(cases Ih;done)|(cases U;done))
   .omega
   .rename_i e' a len cap;cases Ih;simp only at U|-;split at U
    .rename_i hc;rw[gr hc];simp only[Bp,Xs,Option.bind_eq_some_iff]at U|-;obtain⟨elems,he,rest,Yl,rfl⟩:=U;have one:∀(i:Nat) (y:DataW H×List MemPlace),y∈elems++rest->
      (w.cells? 0 (a.add (i*P.cellsOf e)) (P.cellsOf e)).bind (DataW.trod enc P w 0 Bk true m e)=some y->(w.cells? 0 (a.add (i*P.cellsOf e)) (P.cellsOf e)).bind (DataW.trod enc P w 0 sp true m e)=some y:=by
      intro i y hy hv;simp only[Option.bind_eq_some_iff]at hv|-;obtain⟨Wy,kX,N5⟩:=hv;refine⟨Wy,kX,v9 hL m e Wy y heL N5 λp B=>I p ?_⟩;grind
     refine⟨elems,mapM_carry he (λi y hi hy=>one i y (by simp[hy])),rest,?_,rfl⟩;by_cases Z3:sp a.block=true
     .rw[gr Z3];grind[mapM_carry]
     .rw[ba Z3];have h0:(elems.length+rest.length)*P.cellsOf e=0:=by
       rcases Nat.eq_zero_or_pos ((elems.length+rest.length)*P.cellsOf e)with h0|h0
       .exact h0
       .exact absurd (I (.cell a.block (a.off+0)) (by simp only[pt];left;exact MemPlace.mem_row.2 ⟨0,h0,rfl⟩)) Z3
      have:elems.length+rest.length=0:=by grind[Nat.mul_eq_zero]
      simp_all
    .cases U
  .rename_i e hk;simp only[ab,ir]at h;have he:e∈Ls:=by simpa using h.2
   rw[hk]at U|-;split at U<;>rename_i Ih<;>try(first|(cases Ih;done)|(cases U;done))
   .omega
   next e' a=>cases Ih;simp only[Xs,Option.bind_eq_some_iff]at U|-;obtain⟨y,⟨Wy,hc,hy⟩,rfl⟩:=U;exact⟨y,⟨Wy,hc,v9 hL m e Wy y he hy (λp B=>I p (by simp[B]))⟩,rfl⟩
  .rename_i k e hk;simp only[ab,ir]at h;have he:e∈Ls:=by simp_all
   rw[hk]at U|-;simp only at U|-;split at U
   next hc=>simp only[gr hc,Xs]at U|-;obtain⟨xs,U,rfl⟩:=U;exact⟨xs,mapM_carry U (λf y hf hy hv=>v9 hL m e _ y he hv (λp B=>I p (Eg.2 ⟨y,hy,B⟩))),rfl⟩
   .cases U
  .rename_i fs hk;simp only[ab,BE,GO]at h;have Xd:∀f∈fs.toList,f.type∈Ls:=λf hf=>by simp_all
   rw[hk]at U|-;simp only at U|-;split at U
   next hc=>simp only[gr hc,Xs]at U|-;obtain⟨xs,U,rfl⟩:=U;exact⟨xs,mapM_carry U (λf y hf hy hv=>v9 hL m f.type _ y (Xd f hf) hv (λp B=>I p (Eg.2 ⟨y,hy,B⟩))),rfl⟩
   .cases U
  .cases h
theorem ago{sp:Nat->Bool}{Ls:List TypeId}(hL:Hx P Ls){t:TypeId}{v:Value}{d:DataW H}{ps:List MemPlace}(nT:t∈Ls)(h:DataW.Trod enc P w 0 Bk true t v d ps)
 (hb:Below w.heap.size w w') (I:∀p∈ps,sp p.block=true):DataW.Trod enc P w' 0 sp true t v d ps:=by
 obtain⟨m,hm⟩:=h;refine⟨m,?_⟩;have mP:=DataW.trod_lt _ _ _ _ hm;exact DataW.trod_carry _ _ _ _ (v9 hL m t _ _ nT hm I) λp B=>hb.same (mP p B)
def zr(P:Program)(ts:List TypeId):Bool:=(λLs=>ts.all (λt=>Ls.contains t)&&Ls.all λt=>Z9 P Ls t) (zq P 300 ts [])
theorem apS{ts:List TypeId}(h:zr P ts=true):∃Ls,Hx P Ls/\∀t∈ts,t∈Ls:=by simp only[zr,ab,BE]at h;exact⟨_,λt ht=>h.2 t ht,λt ht=>by simp_all⟩
theorem arU{sp:Nat->Bool}{Ls:List TypeId}(hL:Hx P Ls)(hb:Below w.heap.size w w'):∀{ts:List TypeId} {vs:List Value} {ds:List (DataW H)} {ps:List MemPlace},(∀t∈ts,t∈Ls)->DataW.TrodAll enc P w 0 Bk true ts vs ds ps->
 (∀p∈ps,sp p.block=true)->DataW.TrodAll enc P w' 0 sp true ts vs ds ps
 |[],_,_,_,_,h,_=>by obtain⟨rfl,rfl,rfl⟩:=trodAll_nil h;exact trodAll_mk0
 |t::ts,_,_,_,hk,h,I=>by obtain⟨v,vs,d,ds,a,b,rfl,rfl,rfl,h1,h2⟩:=trodAll_cons h;exact trodAll_cons_mk (ago hL (hk t (by simp)) h1 hb λp B=>I p (by simp[B])) (arU hL hb (λu hu=>hk u (by simp[hu])) h2 λp B=>I p (by simp[B]))
def zs(P:Program)(t:TypeId)(d:J):Prop:=
 match P.underlying t with
 |some (.struct _)=>∃ds,d= .agg ds/\∃n,Has P n t ds
 |some (.array _ _)=>∃ds,d= .agg ds/\∃n,Has P n t ds
 |_=>∃n,Has P n t [d]
def bN:Nat:=140737488355328
def Small(d:J):Prop:=∀L∈d.lens,L<=bN
def Sy(P:Program)(t:TypeId)(d:J):Prop:=zs P t d/\Small d
def Qm(P:Program):List TypeId->Ab->Prop
 |[],ds=>ds=[]
 |t::ts,ds=>∃d r,ds=d::r/\Sy P t d/\Qm P ts r
theorem axG{BQ:DataW H->Nat}{BA:List (DataW H)->Nat}(hB:Vm BQ BA){Ls:List TypeId}(hL:Hx P Ls){t:TypeId}{v:Value}{d:DataW H}{ps:List MemPlace}{base:Nat}(hval:Value.okWide P w .any base t v)(nT:t∈Ls)(h:DataW.Trod enc P w 0 Bk true t v d ps)(hw:∀x∈DataW.weights P t d,x<=reachBytes):
 ∃dv,Sy P t dv/\aC (Pv w) none_ [] w dv v/\dv.sz<=BQ d+1:=by
 obtain⟨m,hm⟩:=h;obtain⟨ds,⟨h1,h2⟩,h3,h4⟩:=CN hB hL m t _ _ nT hm;have zR:∀L∈gR ds,L<=bN:=by
  intro L hL;rcases h4 L hL with rfl|⟨x,h5,h6⟩
  .omega
  grind[reachBytes,bN]
 unfold Sy zs;split
 next fs hk=>simp only[Value.okWide,hk]at hval;obtain⟨cs,rfl,_,_⟩:=hval;refine⟨.agg ds,⟨⟨ds,rfl,m,h1⟩,by simpa[Small,J.lens]using zR⟩,aC.wc (by simpa[Value.cells]using h2.1) λj d Z=>?_,by simp only[J.sz]at h3|-;omega⟩;obtain⟨u,hu,E⟩:=h2.2 j d Z;exact⟨u,by simpa[Value.cells]using hu,.aV E⟩
 next k e hk=>simp only[Value.okWide,hk]at hval;obtain⟨cs,rfl,_,_⟩:=hval;refine⟨.agg ds,⟨⟨ds,rfl,m,h1⟩,by simpa[Small,J.lens]using zR⟩,aC.wc (by simpa[Value.cells]using h2.1) λj d Z=>?_,by simp only[J.sz]at h3|-;omega⟩;obtain⟨u,hu,E⟩:=h2.2 j d Z;exact⟨u,by simpa[Value.cells]using hu,.aV E⟩
 .rename_i hk yK;have one:ds.length=1/\v.cells.toList=[v]:=by
   have hc:∀cs,v≠ .agg cs:=by intro cs hv;simp_all[Z9,Value.okWide,Cell.okWide,Cell.ok]
   have hl:v.cells.toList=[v]:=by cases v<;>first|rfl|simp_all
   exact⟨by rw[h2.1,hl];rfl,hl⟩
  match ds,one.1 with
  |[dv],_=>
   rw[one.2]at h2;obtain⟨u,us,e,E,_⟩:=h2.cons;cases e;exact⟨dv,⟨⟨m,h1⟩,by simpa[Small,gR]using zR⟩,.aV E,by simp only[uV]at h3;omega⟩
theorem aiy{BQ:DataW H->Nat}{BA:List (DataW H)->Nat}(hB:Vm BQ BA){Ls:List TypeId}(hL:Hx P Ls){base:Nat}:∀{ts:List TypeId} {vs:List Value} {ds:List (DataW H)} {ps:List MemPlace},
 (∀(j:Nat) t v,ts[j]? =some t->vs[j]? =some v->Value.okWide P w .any base t v)->(∀t∈ts,t∈Ls)->DataW.TrodAll enc P w 0 Bk true ts vs ds ps->(∀x∈DataW.weightsEach P ts ds,x<=reachBytes)->
 ∃T6,Qm P ts T6/\dX (aC (Pv w) none_ [] w) T6 vs/\uV T6<=BA ds+ts.length
 |[],_,_,_,_,_,h,_=>by obtain⟨rfl,rfl,rfl⟩:=trodAll_nil h;exact⟨[],rfl,.lL,by simp[uV]⟩
 |t::ts,_,_,_,hv,hk,h,hw=>by obtain⟨v,vs,d,ds,a,b,rfl,rfl,rfl,h1,h2⟩:=trodAll_cons h;unfold DataW.weightsEach at hw;obtain⟨dv,r1,r2,r3⟩:=axG hB hL (hv 0 t v rfl rfl) (hk t (by simp)) h1 λx U=>hw x (pt.2 (.inl U));obtain⟨T6,r4,r5,r6⟩:=aiy hB hL (λj t v h h'=>hv (j+1) t v h h') (λu hu=>hk u (by simp[hu])) h2 λx U=>hw x (pt.2 (.inr U));exact⟨dv::T6,⟨dv,T6,rfl,r1,r4⟩,.iC r2 r5,by have:=hB.cons d ds;simp only[uV,IS];omega⟩
theorem aDG{F':Nat->Prop}(h:jd (Pv w) (Pv w) w F' w'):Below w.heap.size w w':=⟨h.os,h.tape,h.output,h.size,λk hk=>h.sa k hk⟩
theorem aDH{f:Func}{s:ChangeSpec}{apart fresh handsOn again:Bool}{W W':World}{args:Array Value}{v:Value}{ds gs:List (DataW H)}{before pa pv:List MemPlace}
 (hW:DataW.Whole enc P f.params.toList s.vars apart W args.toList ds gs before)
 (Kp:∀(b:Nat) (sp:Nat->Bool) (Z:Bool),DataW.TrodAll enc P W' b sp Z f.resultTypes.toList (v.resultList f.resultTypes.size) (s.fn H (ds++gs)).results [])
 (lW:∀sp:Nat->Bool,(∀p∈before,sp p.block=true)->DataW.TrodAll enc P W' 0 sp true f.params.toList args.toList (s.fn H (ds++gs)).args pa)
 (Wz:∀sp:Nat->Bool,(∀p∈before,sp p.block=true)->DataW.TrodVars enc P W' sp s.vars (s.fn H (ds++gs)).vars pv)
 (Dk:before=pa++pv) (hb:Below W.heap.size W W')
 (nT:∀(j:Nat) (t:TypeId) (r:Value),f.resultTypes[j]? =some t->(v.resultList f.resultTypes.size)[j]? =some r->Value.okWide P W' .any 0 t r):
 s.post enc P f apart fresh handsOn again W args v W':=by
 have mP:∀p∈before,p.block<W.heap.size:=λp B=>hW.lt p B;have hold:∀p∈before,(λb=>decide (b<W.heap.size)) p.block=true:=λp B=>by simp_all
 refine⟨ds,gs,before,[],pa,pv,hW,Kp _ _ _,lW _ hold,Wz _ hold,World.keptBut_mono (λp B=>⟨B,?_⟩) (hb.frame (·∈before)),λ_=>?_⟩
 .simp_all
 .obtain⟨_,_,_,_,_,hz,hn⟩:=hW;refine⟨nT,_,_,([]++pa)++pv,⟨[]++pa,pv,trodAll_append (lW _ (λ_ _=>rfl)) (Kp _ _ _),Wz _ (λ_ _=>rfl),rfl,?_,?_⟩,?_⟩
  .intro b off B;have NG:MemPlace.cell b off∈before:=by simp_all
   rw[hb.frozen (mP _ NG)];exact hz b off NG
  all_goals simp_all
theorem arV [Inhabited Env]{f:FuncId}{fn:Func}{s:ChangeSpec}{apart fresh handsOn again:Bool}{tb:TypeId}{BQ:DataW H->Nat}{BA:List (DataW H)->Nat}(hB:Vm BQ BA)
 (B:zr P fn.params.toList=true) (E:fn.resultTypes= #[tb]) (hb:P.underlying tb=some .bool) (Wz:s.vars=[])
 {W:World} {base:Nat} {args:Array Value} {ds gs:List (DataW H)} {before:List MemPlace}
 (I:∀l:List (DataW H),l.length=fn.params.size->(s.fn H l).results=[.lit (.bool true)]/\(s.fn H l).args=l/\(s.fn H l).vars=[])
 (hval:∀(j:Nat) t v,fn.params[j]? =some t->args[j]? =some v->Value.okWide P W .any base t v)
 (hW:DataW.Whole enc P fn.params.toList s.vars apart W args.toList ds gs before)
 (lP:(DataW.weightsEach P (fn.params.toList++s.plain.varTypes P) (ds++gs)).all (·<=reachBytes)=true)
 (hX:XF (Pv W) W)
 (law:∀T6,Qm P fn.params.toList T6->uV T6<=BA (ds++gs)+fn.params.size->FD P f T6 (.bool true)):
 Calls P f args W λe W'=>∃v,e= .returned v/\s.post enc P fn apart fresh handsOn again W args v W':=by
 have hW':=hW;obtain⟨p,q,hA,hV,rfl,hfz,hnd⟩:=hW;rw[Wz]at hV;obtain⟨rfl,rfl⟩:=trodVars_none hV;have hvt:s.plain.varTypes P=[]:=by have:s.plain.vars=[]:=Wz;simp[DataSpec.varTypes,this]
 rw[hvt,xz,xz]at lP;simp only[BE,ir]at lP;obtain⟨Ls,hL,B⟩:=apS B;obtain⟨T6,h1,h2,h3⟩:=aiy hB hL (λj t v a b=>hval j t v (by simpa using a) (by simpa using b)) B hA lP;have hlen:∀{ts:List TypeId} {vs:List Value} {ds:List (DataW H)} {ps:List MemPlace},DataW.TrodAll enc P W 0 Bk true ts vs ds ps->ds.length=ts.length:=by
  intro ts;induction ts with
  |nil=>intro vs ds ps h;obtain⟨rfl,rfl,rfl⟩:=trodAll_nil h;rfl
  |cons t ts ih=>intro vs ds ps h;obtain⟨v,vs,d,ds,a,b,rfl,rfl,rfl,h1,h2⟩:=trodAll_cons h;simp[ih h2]
 have hl:=hlen hA;obtain⟨s1,s2,s3⟩:=I (ds++[]) (by simp_all);refine(law T6 h1 (by simp_all) (Pv W) (Pv W) W args (λ_ h=>h) (λ_ h=>h) hX h2).mono ?_
 rintro e W' ⟨v,F',rfl,hm,_,hv⟩
 have Y:=hv.jF;subst Y;have aEO:=aDG hm;refine⟨_,rfl,aDH (pa:=p) (pv:=[]) hW' (λb sp Z=>?_) (λsp h=>?_) (λsp _=>?_) (by simp) aEO (ok_one E rfl (okWide_bool_mk hb _))⟩
 .rw[E,s1];exact trodAll_cons_mk (shut_bool hb _) trodAll_mk0
 .grind[xz,arU]
 .rw[Wz,s3];exact rfl
end
end Go.Nk
set_option linter.all false
namespace Go.Nk
def dJ.nil:dJ:=⟨λ_ _=>(False,.undef),λ_ _ _=>no,λ_ _=>(False,[]),λ_ _=>(False,[])⟩
theorem Dz{C:dJ}{h0:Nat}:∀(c:aq) (Q Q':cA->DS->Prop) (s:DS),(∀e s,Q e s->Q' e s)->gP C h0 c Q s->gP C h0 c Q' s:=by
 have zt:∀(l:List af) (s:DS) (K K':DS->Prop),(∀s,K s->K' s)->mJ C l s K->mJ C l s K':=by
  intro l;induction l with
  |nil=>intro s K K' h hk;exact h _ hk
  |cons o r ih=>
   intro s K K' h hk;unfold mJ rh at hk|-;split at hk<;>grind
 intro c;induction c generalizing h0 with
 |skip=>intro Q Q' s h hq;exact h _ _ hq
 |ops d l=>intro Q Q' s h hq;exact zt l s _ _ (h .normal) hq
 |Pu hZ l=>intro Q Q' s h hq;exact⟨hq.1,zt _ s _ _ (h .normal) hq.2⟩
 |Km l=>intro Q Q' s h hq;exact zt _ s _ _ (h .normal) hq
 |seq a b ZD ZE=>
  intro Q Q' s h hq;refine ZD _ _ s (λe s' hh=>?_) hq;cases e with
  |normal=>exact ZE _ _ s' h hh
  |exit id=>exact h _ _ hh
  |ret=>exact h _ _ hh
 |cond x a b ZD ZE=>
  grind[gP]
 |block id c ih=>
  intro Q Q' s h hq;refine ih _ _ s (λe s' hh=>?_) hq;cases e with
  |normal=>exact h _ _ hh
  |exit k=>
   simp only[cA.inBlock]at hh|-;grind
  |ret=>exact h _ _ hh
 |loop live m c ih=>
  intro Q Q' s h hq;obtain⟨h1,Bo,μ,h2,h3⟩:=hq;refine⟨h1,Bo,μ,h2,λs' yr=>ih _ _ s' (λe WB hh=>?_) (h3 s' yr)⟩;cases e with
  |normal=>exact hh
  |exit id=>exact h _ _ hh
  |ret=>exact h _ _ hh
 |CK t off z c ih=>
  intro Q Q' s h hq;unfold gP at hq|-;split at hq<;>grind
 |scope c ih=>intro Q Q' s h hq;exact ih _ _ _ h hq
 |JC c ih=>intro Q Q' s h hq;exact ih _ _ _ h hq
 |bad=>intro Q Q' s h hq;exact hq.elim
 |sH live m g ps K7 c o5 ih=>
  intro Q Q' s h hq;unfold gP at hq|-;obtain⟨h1,hq⟩:=hq;refine⟨h1,?_⟩;split at hq
  .obtain⟨h2,h3,Bo,h4,h5,h6⟩:=hq;refine⟨h2,h3,Bo,h4,λk x B hi U=>⟨(h5 k x B hi U).1,o5 _ _ _ (λe s1 hA=>?_) (h5 k x B hi U).2⟩,λB hi=>h _ _ (h6 B hi)⟩;cases e with
   |exit id=>exact hA
   |ret=>exact hA
   |normal=>
   refine ih _ _ _ (λe s' hh=>?_) hA;cases e with
   |normal=>exact hh
   |exit id=>exact h _ _ hh
   |ret=>exact h _ _ hh
  omega
 |cut live m c ih=>intro Q Q' s h hq;exact⟨hq.1,ih _ _ _ h hq.2⟩
 |exit id=>intro Q Q' s h hq;exact h _ _ hq
 |ret=>intro Q Q' s h hq;exact h _ _ hq
theorem iQ{C:dJ}{h0:Nat}{live:List Nat}{m:BI}{c:aq}{Q:cA->DS->Prop}{s:DS}{α:Type}(st:α->DS)(Inv:α->Prop)(μ:α->Nat)(a0:α)
 (hm:match m with|some k=>h0<=k|none=>True) (I:s.cut live m=st a0) (hi:Inv a0)
 (step:∀a,Inv a->gP C h0 c (cA.then (λs'=>∃a',s'.cut live m=st a'/\Inv a'/\μ a'<μ a) Q) (st a)):gP C h0 (.loop live m c) Q s:=by
 classical
 have aAQ:= @Dz C h0;let has:DS->Nat->Prop:=λs n=>∃a,s=st a/\Inv a/\μ a=n;have AA:∀s:DS,∃k,(∃n,has s n)->has s k/\∀m,has s m->k<=m:=by
  intro s;by_cases U:∃n,has s n
  .obtain⟨n,hn⟩:=U;induction n using Nat.strongRecOn with
   |_ n ih=>
    by_cases hy:∃m,m<n/\has s m
    .obtain⟨m,h1,h2⟩:=hy;exact ih m h1 h2
    .exact⟨n,λ_=>⟨hn,λm hm=>by grind⟩⟩
  simp_all
 obtain⟨least,AA⟩:=Classical.axiomOfChoice AA;refine⟨hm,λs=>∃n,has s n,least,⟨μ a0,a0,I,hi,rfl⟩,λs' yr=>?_⟩;have hl:has s' (least s'):=(AA s' yr).1;obtain⟨a,rfl,h1,h2⟩:=hl;refine aAQ c _ _ _ (λe WB hh=>?_) (step a h1);cases e with
 |normal=>
  obtain⟨a',Y,e2,e3⟩:=hh;have U:∃n,has (WB.cut live m) n:=⟨μ a',a',Y,e2,rfl⟩;refine⟨U,?_⟩;have:least (WB.cut live m)<=μ a':=(AA _ U).2 _ ⟨a',Y,e2,rfl⟩;omega
 |exit id=>exact hh
 |ret=>exact hh
section
variable {C:dJ} {h0:Nat} {Q:cA->DS->Prop} {s:DS}
theorem acp:gP C h0 .skip Q s=Q .normal s:=rfl
theorem aid{b:Bool}{l:List af}:gP C h0 (.ops b l) Q s=mJ C l s (Q .normal):=rfl
theorem aco{hZ:List (Nat×Nat)}{l:List (Nat×af)}:gP C h0 (.Pu hZ l) Q s=(Fg hZ s.R/\mJ C (l.map (·.2)) s (Q .normal)):=rfl
theorem acn{l:List (Nat×af)}:gP C h0 (.Km l) Q s=mJ C (l.map (·.2)) s (Q .normal):=rfl
theorem aih{a b:aq}:gP C h0 (.seq a b) Q s=gP C h0 a (cA.then (gP C h0 b Q) Q) s:=rfl
theorem arW{id:Nat}{c:aq}:gP C h0 (.block id c) Q s=gP C h0 c (cA.inBlock id Q) s:=rfl
theorem ak9{c:aq}:gP C h0 (.scope c) Q s=gP C h0 c Q s:=rfl
theorem aif{c:aq}:gP C h0 (.JC c) Q s=gP C h0 c Q ⟨s.R,s.B++[⟨.dead,0,[]⟩]⟩:=rfl
theorem sP{live:List Nat}{m:BI}{c:aq}:gP C h0 (.cut live m c) Q s=((match m with|some k=>h0<=k|none=>True)/\gP C h0 c Q (s.cut live m)):=rfl
theorem Qr{t off z:Nat}{c:aq}:gP C h0 (.CK t off z c) Q s=(match get t s.R with
 | .ptr h L i j=>match s.B[h]? with
   |some o=>((o.k= .loc/\o.es.length=L/\i<L/\(o.es.getD i [])[j+off]? =some .nil)/\
    gP C h0 c Q ⟨s.R,s.B.set h {o with es:=o.es.set i ((o.es.getD i []).set (j+off) (.own s.B.length 0 0 0))}++[⟨.aV,z,[]⟩]⟩)\/gP C h0 c Q s
   |none=>False
 |_=>False):=rfl
theorem sV{t off z:Nat}{c:aq}(h:match get t s.R with
 | .ptr h L i j=>match s.B[h]? with
   |some o=>(o.k= .loc/\o.es.length=L/\i<L/\(o.es.getD i [])[j+off]? =some .nil)/\
    gP C h0 c Q ⟨s.R,s.B.set h {o with es:=o.es.set i ((o.es.getD i []).set (j+off) (.own s.B.length 0 0 0))}++[⟨.aV,z,[]⟩]⟩
   |none=>False
 |_=>False):gP C h0 (.CK t off z c) Q s:=by
 grind[Qr]
theorem acm{id:Nat}:gP C h0 (.exit id) Q s=Q (.exit id) s:=rfl
theorem aie:gP C h0 .ret Q s=Q .ret s:=rfl
theorem bG{c:DA}{a b:aq}:gP C h0 (.cond c a b) Q s=(match c.ev s.R with
 | .bool t=>if t=true then gP C h0 a Q s else gP C h0 b Q s
 | .Hy=>gP C h0 a Q s/\gP C h0 b Q s
 |_=>False):=by
 grind[gP,bool]
theorem acf{K:DS->Prop}:mJ C [] s K=K s:=rfl
theorem arX{dst:BI}{op:aT}{r:List af}{K:DS->Prop}:mJ C (⟨dst,op,none⟩::r) s K=((aB C op s).pre/\mJ C r (s.put dst (aB C op s)) K):=rfl
theorem zk{dst:BI}{op:aT}{g:Nat}{b:Bool}{r:List af}{K:DS->Prop}:mJ C (⟨dst,op,some (g,b)⟩::r) s K=(match get g s.R with
 | .bool b'=>if b'=b then(aB C op s).pre/\mJ C r (s.put dst (aB C op s)) K else mJ C r (s.put dst ⟨True,.b9 [],s.B⟩) K
 | .b9 []=>mJ C r (s.put dst ⟨True,.b9 [],s.B⟩) K
 |_=>False):=rfl
theorem arY{next:DS->Prop}:cA.then next Q .normal s=next s:=rfl
theorem arZ{next:DS->Prop}{id:Nat}:cA.then next Q (.exit id) s=Q (.exit id) s:=rfl
theorem acq{next:DS->Prop}:cA.then next Q .ret s=Q .ret s:=rfl
theorem ar0{id:Nat}:cA.inBlock id Q .normal s=Q .normal s:=rfl
theorem ar1{id k:Nat}:cA.inBlock id Q (.exit k) s=if k=id then Q .normal s else Q (.exit k) s:=rfl
theorem ar2{id:Nat}:cA.inBlock id Q .ret s=Q .ret s:=rfl
theorem aci{d:Nat}{r:o9}:s.put (some d) r=⟨(d,r.val)::s.R,r.B⟩:=rfl
theorem ach{r:o9}:s.put none r=⟨s.R,r.B⟩:=rfl
theorem aAD{n:Nat}{R:List (Nat×J)}:(DA.t n).ev R=get n R:=rfl
theorem aAC{d:J}{R:List (Nat×J)}:(DA.c d).ev R=d:=rfl
theorem eH{live:List Nat}{m:Nat}:s.cut live (some m)=⟨live.map λt=>(t,(get t s.R).cut m),(s.B.take m).map (ae.cut m)⟩:=rfl
theorem ab8{live:List Nat}:s.cut live none=⟨live.map λt=>(t,get t s.R),s.B⟩:=rfl
theorem ar3{res:List DR}{r:J}:Ap res r .normal s=((aS s res).1/\(j0 s.B (aS s res).2).pre/\(j0 s.B (aS s res).2).val=r):=rfl
theorem acg{res:List DR}{r:J}:Ap res r .ret s=((aS s res).1/\(j0 s.B (aS s res).2).pre/\(j0 s.B (aS s res).2).val=r):=rfl
theorem ar4{res:List DR}{r:J}{cU:List ae}:Yw res r cU .normal s=((aS s res).1/\(aS s res).2=r/\s.B=cU):=rfl
theorem SB{res:List DR}{r:J}{cU:List ae}:Yw res r cU .ret s=((aS s res).1/\(aS s res).2=r/\s.B=cU):=rfl
end
theorem df{n:Int}(h: -9223372036854775808<=n/\n<9223372036854775808):IntKind.i64.wrap n=n:=by rw[IntKind.wrap_i64];omega
theorem acD{n:Int}(h:0<=n/\n<18446744073709551616):IntKind.u64.wrap n=n:=by rw[IntKind.wrap_u64];omega
theorem agr{n:Int}(h:0<=n/\n<256):IntKind.u8.wrap n=n:=by rw[IntKind.wrap_u8];omega
def MU(l:B3):List Ab:=l.map λb=>[.int .u8 b.toNat]
def Kk:List Ab->Option B3
 |[]=>some []
 |[.int .u8 n]::r=>if 0<=n/\n<256 then(Kk r).map (UInt8.ofNat n.toNat::·)else none
 |_=>none
theorem Kq:∀l:B3,Kk (MU l)=some l
 |[]=>rfl
 |b::l=>by have h:=Kq l;unfold MU at h|-;have h1:b.toNat<256:=b.toNat_lt;simp only[p0,Kk];rw[gr (by omega),h];simp
theorem pR(l:B3):(MU l).length=l.length:=by simp[MU]
theorem acE(l:B3)(n:Nat):(MU l).drop n=MU (l.drop n):=by simp[MU]
theorem acF(l:B3)(n:Nat):(MU l).take n=MU (l.take n):=by simp[MU]
theorem SR{l:B3}:∀e∈MU l,e.length=1:=by intro e he;simp only[MU,It]at he;grind
end Go.Nk
namespace Go.Nk
def Zc(f:B3->Prop×J):Ab->Prop×J
 |[.sl es]=>match Kk es with
  |some l=>f l
  |none=>(False,.undef)
 |_=>(False,.undef)
def CO(f:B3->B3->Prop×J):Ab->Prop×J
 |[.sl es,.sl es']=>match Kk es,Kk es' with
  |some l,some l'=>f l l'
  |_,_=>(False,.undef)
 |_=>(False,.undef)
theorem ar8(f:B3->Prop×J)(l:B3):Zc f [.sl (MU l)]=f l:=by simp[Zc,Kq]
theorem asg(f:B3->B3->Prop×J)(l l':B3):CO f [.sl (MU l),.sl (MU l')]=f l l':=by simp[CO,Kq]
end Go.Nk
namespace Go.Nk
theorem ab6(a b:UInt8):((a.toNat:Int) !=(b.toNat:Int))=(a !=b):=by grind[Int.natCast_inj,UInt8.toNat_inj,bne,SO]
theorem acG(a b:UInt8):((a.toNat:Int)==(b.toNat:Int))=(a==b):=by grind[ab6,bne]
end Go.Nk
namespace Go.Nk
theorem ack{B:List ae}{l:B3}{k:IntKind}{a:Int}:jq B 1 (.sl (MU l)) (some (.int k a)) none none=(0<=a/\a<=l.length,.sl (MU (l.drop a.toNat))):=by simp only[jq,fy,pR,GI,GC,Ce];refine⟨propext ⟨λh=>⟨h.2.2.2.2.2.1,h.2.2.2.2.2.2.1⟩,λh=>⟨SR,trivial,trivial,trivial,by simp,h.1,h.2,Ch _,Ch _⟩⟩,?_⟩;rw[vc (by simp[pR]),acE]
theorem acj{B:List ae}{l:B3}{k:IntKind}{a:Int}:jq B 1 (.sl (MU l)) none (some (.int k a)) none=(0<=a/\a<=l.length,.sl (MU (l.take a.toNat))):=by simp only[jq,fy,pR,GI,Ce];refine⟨propext ⟨λh=>⟨h.2.2.2.2.2.2.1,h.2.2.2.2.2.2.2.2⟩,λh=>⟨SR,trivial,trivial,trivial,by simp,Ch _,h.1,Ch _,h.2⟩⟩,?_⟩;rw[acF];rfl
theorem asi{B:List ae}{l:B3}{k k':IntKind}{a b:Int}:jq B 1 (.sl (MU l)) (some (.int k a)) (some (.int k' b)) none=(0<=a/\a<=b/\b<=l.length,.sl (MU ((l.take b.toNat).drop a.toNat))):=by simp only[jq,fy,pR,GI,Ce];refine⟨propext ⟨λh=>⟨h.2.2.2.2.2.1,h.2.2.2.2.2.2.1,h.2.2.2.2.2.2.2.2⟩,λh=>⟨SR,trivial,trivial,trivial,by simp,h.1,h.2.1,Ch _,h.2.2⟩⟩,?_⟩;rw[acF,acE]
end Go.Nk
set_option linter.all false
namespace Go.Nk
section
variable {P:Program} {t e:TypeId} {d:J}
theorem asp:∀es:List Ab,(∀x∈es,∃i,x=[.int .u8 i]/\(Lit.int .u8 i).wf=true)->∃l,es=MU l
 |[],_=>⟨[],rfl⟩
 |x::es,h=>by
  obtain⟨l,rfl⟩:=asp es λy hy=>h y (by simp[hy]);obtain⟨i,rfl,hw⟩:=h x (by simp);have hi:0<=i/\i<=255:=by simpa[Lit.wf,IntKind.min,IntKind.max,IntKind.signed,IntKind.bits]using hw
  refine⟨UInt8.ofNat i.toNat::l,?_⟩;simp only[MU,p0,DO,J.int.injEq,Bt,Xv];rw[UInt8.toNat_ofNat'];omega
end
end Go.Nk
set_option linter.all false
namespace Go.Nk
def aJ [Inhabited Env](P:Program)(f:FuncId)(s:Ab->Prop×J):Prop:=∀a,(s a).1->iX P f=true/\FD P f a (s a).2
def ez [Inhabited Env](P:Program)(f:FuncId)(s:Ab->List ae->o9):Prop:=∀a B,(s a B).pre->iX P f=true/\SU P f a B (s a B).val (s a B).B
def Q9:List (FuncId×(Ab->Prop×J))->FuncId->Ab->Prop×J
 |[],_,_=>(False,.undef)
 |(f,s)::r,g,a=>if g=f then s a else Q9 r g a
def N6:List (FuncId×(Ab->List ae->o9))->FuncId->Ab->List ae->o9
 |[],_,_,_=>no
 |(f,s)::r,g,a,B=>if g=f then s a B else N6 r g a B
def N7:List (FuncId×(Ab->Prop×List Ab))->FuncId->Ab->Prop×List Ab
 |[],_,_=>(False,[])
 |(f,s)::r,g,a=>if g=f then s a else N7 r g a
def dJ.qh(ps:List (FuncId×(Ab->Prop×J)))(I:List (FuncId×(Ab->List ae->o9)))(is ws:List (FuncId×(Ab->Prop×List Ab))):dJ:=⟨Q9 ps,N6 I,N7 is,N7 ws⟩
def dJ.GU(ps:List (FuncId×(Ab->Prop×J)))(I:List (FuncId×(Ab->List ae->o9)))(is:List (FuncId×(Ab->Prop×List Ab))):dJ:=dJ.qh ps I is []
def dJ.of(ps:List (FuncId×(Ab->Prop×J)))(I:List (FuncId×(Ab->List ae->o9))):dJ:=dJ.GU ps I []
theorem aAF(ps I)(f:FuncId)(a:Ab):(dJ.of ps I).p f a=Q9 ps f a:=rfl
theorem aAE(ps I)(f:FuncId)(a:Ab)(B:List ae):(dJ.of ps I).h f a B=N6 I f a B:=rfl
theorem SD(f:FuncId)(s:Ab->Prop×J)(r)(g:FuncId)(a:Ab):Q9 ((f,s)::r) g a=if g=f then s a else Q9 r g a:=rfl
theorem SC(f:FuncId)(s:Ab->List ae->o9)(r)(g:FuncId)(a:Ab)(B:List ae):N6 ((f,s)::r) g a B=if g=f then s a B else N6 r g a B:=rfl
def sf [Inhabited Env](P:Program):List (FuncId×(Ab->Prop×J))->Prop
 |[]=>True
 |(f,s)::r=>aJ P f s/\sf P r
def si [Inhabited Env](P:Program):List (FuncId×(Ab->List ae->o9))->Prop
 |[]=>True
 |(f,s)::r=>ez P f s/\si P r
def Ht [Inhabited Env](P:Program)(f:FuncId)(s:Ab->Prop×List Ab):Prop:=∀a,(s a).1->iX P f=true/\Zd P f a (s a).2
def Vb [Inhabited Env](P:Program):List (FuncId×(Ab->Prop×List Ab))->Prop
 |[]=>True
 |(f,s)::r=>Ht P f s/\Vb P r
def QA [Inhabited Env](P:Program)(f:FuncId)(s:Ab->Prop×List Ab):Prop:=∀a,(s a).1->iX P f=true/\Ze P f a (s a).2
def ql [Inhabited Env](P:Program):List (FuncId×(Ab->Prop×List Ab))->Prop
 |[]=>True
 |(f,s)::r=>QA P f s/\ql P r
theorem zu [Inhabited Env]{P:Program}{ps I is ws}(h1:sf P ps)(h2:si P I)(h3:Vb P is)(h4:ql P ws):(dJ.qh ps I is ws).ok P:=by
 refine⟨?_,?_,?_,?_⟩
 .intro f a h;change (Q9 ps f a).1 at h;change iX P f=true/\FD P f a (Q9 ps f a).2;induction ps with
  |nil=>exact h.elim
  |cons x r ih=>
   obtain⟨g,s⟩:=x;simp only[SD]at h|-ih;by_cases e:f=g
   .simp only[gr e]at h|-;subst e;exact h1.1 a h
   .simp only[ba e]at h|-;exact ih h1.2 h
 .intro f a B h;change (N6 I f a B).pre at h;change iX P f=true/\SU P f a B (N6 I f a B).val (N6 I f a B).B;induction I with
  |nil=>exact h.elim
  |cons x r ih=>
   obtain⟨g,s⟩:=x;simp only[SC]at h|-ih;by_cases e:f=g
   .simp only[gr e]at h|-;subst e;exact h2.1 a B h
   .simp only[ba e]at h|-;exact ih h2.2 h
 .intro f a h;change (N7 is f a).1 at h;change iX P f=true/\Zd P f a (N7 is f a).2;induction is with
  |nil=>exact h.elim
  |cons x r ih=>
   obtain⟨g,s⟩:=x;simp only[N7]at h|-ih;by_cases e:f=g
   .simp only[gr e]at h|-;subst e;exact h3.1 a h
   .simp only[ba e]at h|-;exact ih h3.2 h
 .intro f a h;change (N7 ws f a).1 at h;change iX P f=true/\Ze P f a (N7 ws f a).2;induction ws with
  |nil=>exact h.elim
  |cons x r ih=>
   obtain⟨g,s⟩:=x;simp only[N7]at h|-ih;by_cases e:f=g
   .simp only[gr e]at h|-;subst e;exact h4.1 a h
   .simp only[ba e]at h|-;exact ih h4.2 h
theorem SV [Inhabited Env]{P:Program}{ps I is}(h1:sf P ps)(h2:si P I)(h3:Vb P is):(dJ.GU ps I is).ok P:=zu h1 h2 h3 trivial
theorem Vu [Inhabited Env]{P:Program}{ps I}(h1:sf P ps)(h2:si P I):(dJ.of ps I).ok P:=SV h1 h2 trivial
theorem aJ.mk [Inhabited Env]{P:Program}{ps I}{f:FuncId}{s:Ab->Prop×J}{d:ay}{n:Nat}(h1:sf P ps)(h2:si P I)(hm:mT P f n d=true)
 (h:∀args,(s args).1->args.length=n/\gP (dJ.of ps I) 0 d.code (Ap d.res (s args).2) ⟨aO 0 args,[]⟩):aJ P f s:=by
 intro a ha;obtain⟨e,hw⟩:=h a ha;exact MV (Vu h1 h2) (by simp_all) hw
theorem ez.mk [Inhabited Env]{P:Program}{ps I}{f:FuncId}{s:Ab->List ae->o9}{d:ay}{n:Nat}(h1:sf P ps)(h2:si P I)(hm:mT P f n d=true)
 (h:∀args B,(s args B).pre->args.length=n/\gP (dJ.of ps I) B.length d.code (Yw d.res (s args B).val (s args B).B) ⟨aO 0 args,B⟩):ez P f s:=by
 intro a B ha;obtain⟨e,hw⟩:=h a B ha;exact arQ (Vu h1 h2) (by simp_all) hw
def ux{α:Type}(e:α->J):Prop:=∀x y,e x=e y->x=y
open Classical in
noncomputable def Vj(r:Prop×J):Ab->Prop×J:=λargs=>if args=[]then r else(False,.undef)
open Classical in
noncomputable def bJ{α:Type}(e:α->J)(f:α->Prop×J):Ab->Prop×J:=λargs=>
 if h:∃a,args=[e a]then f h.choose else(False,.undef)
open Classical in
noncomputable def cH{α β:Type}(e:α->J)(e':β->J)(f:α->β->Prop×J):Ab->Prop×J:=λargs=>
 if h:∃x:α×β,args=[e x.1,e' x.2]then f h.choose.1 h.choose.2 else(False,.undef)
open Classical in
noncomputable def fp{α β γ:Type}(e:α->J)(e':β->J)(IZ:γ->J)(f:α->β->γ->Prop×J):Ab->Prop×J:=λargs=>
 if h:∃x:α×β×γ,args=[e x.1,e' x.2.1,IZ x.2.2]then f h.choose.1 h.choose.2.1 h.choose.2.2 else(False,.undef)
open Classical in
noncomputable def E4{α β γ δ:Type}(e:α->J)(e':β->J)(IZ:γ->J)(e3:δ->J)(f:α->β->γ->δ->Prop×J):Ab->Prop×J:=λargs=>
 if h:∃x:α×β×γ×δ,args=[e x.1,e' x.2.1,IZ x.2.2.1,e3 x.2.2.2]then f h.choose.1 h.choose.2.1 h.choose.2.2.1 h.choose.2.2.2 else(False,.undef)
theorem Iq(r:Prop×J):Vj r []=r:=by simp[Vj]
theorem aI{α:Type}{e:α->J}(h:ux e)(f:α->Prop×J)(a:α):bJ e f [e a]=f a:=by unfold bJ;have U:∃b,[e a]=[e b]:=⟨a,rfl⟩;rw[CV U];have hy:=U.choose_spec;generalize U.choose=x at hy|-;rw[h _ _ (J9 hy).1]
theorem aY{α β:Type}{e:α->J}{e':β->J}(h:ux e)(h':ux e')(f:α->β->Prop×J)(a:α)(b:β):cH e e' f [e a,e' b]=f a b:=by unfold cH;have U:∃x:α×β,[e a,e' b]=[e x.1,e' x.2]:=⟨(a,b),rfl⟩;rw[CV U];have hy:=U.choose_spec;generalize U.choose=x at hy|-;have h1:=J9 hy;rw[h _ _ h1.1,h' _ _ (J9 h1.2).1]
theorem bW{α β γ:Type}{e:α->J}{e':β->J}{IZ:γ->J}(h:ux e)(h':ux e')(N4:ux IZ)(f:α->β->γ->Prop×J)(a:α)(b:β)(c:γ):fp e e' IZ f [e a,e' b,IZ c]=f a b c:=by unfold fp;have U:∃x:α×β×γ,[e a,e' b,IZ c]=[e x.1,e' x.2.1,IZ x.2.2]:=⟨(a,b,c),rfl⟩;rw[CV U];have hy:=U.choose_spec;generalize U.choose=x at hy|-;have h1:=J9 hy;have h2:=J9 h1.2;rw[h _ _ h1.1,h' _ _ h2.1,N4 _ _ (J9 h2.2).1]
theorem yS{α β γ δ:Type}{e:α->J}{e':β->J}{IZ:γ->J}{e3:δ->J}(h:ux e)(h':ux e')(N4:ux IZ)(h3:ux e3)(f:α->β->γ->δ->Prop×J)(a:α)(b:β)(c:γ)(d:δ):E4 e e' IZ e3 f [e a,e' b,IZ c,e3 d]=f a b c d:=by unfold E4;have U:∃x:α×β×γ×δ,[e a,e' b,IZ c,e3 d]=[e x.1,e' x.2.1,IZ x.2.2.1,e3 x.2.2.2]:=⟨(a,b,c,d),rfl⟩;rw[CV U];have hy:=U.choose_spec;generalize U.choose=x at hy|-;have h1:=J9 hy;have h2:=J9 h1.2;have h4:=J9 h2.2;rw[h _ _ h1.1,h' _ _ h2.1,N4 _ _ h4.1,h3 _ _ (J9 h4.2).1]
section
variable {P:Program} {ps:List (FuncId×(Ab->Prop×J))} {I:List (FuncId×(Ab->List ae->o9))} {g:FuncId} {d:ay}
theorem aJ.mk0 [Inhabited Env]{r:Prop×J}(h1:sf P ps)(h2:si P I)(hm:mT P g 0 d=true)
 (k:r.1->gP (dJ.of ps I) 0 d.code (Ap d.res r.2) ⟨[],[]⟩):aJ P g (Vj r):=by
 refine aJ.mk h1 h2 hm λargs B=>?_;unfold Vj at B|-;split at B
 next h=>subst h;rw[gr rfl];exact⟨rfl,k B⟩
 simp_all
theorem aJ.mS [Inhabited Env]{α:Type}{e:α->J}{f:α->Prop×J}(h1:sf P ps)(h2:si P I)(hm:mT P g 1 d=true)
 (k:∀a,(f a).1->gP (dJ.of ps I) 0 d.code (Ap d.res (f a).2) ⟨[(0,e a)],[]⟩):aJ P g (bJ e f):=by
 refine aJ.mk h1 h2 hm λargs B=>?_;unfold bJ at B|-;split at B
 next h=>rw[CV h];have U:=h.choose_spec;have:=k _ B;generalize h.choose=a at*;subst U;exact⟨rfl,this⟩
 simp_all
theorem aJ.se [Inhabited Env]{α β:Type}{e:α->J}{e':β->J}{f:α->β->Prop×J}(h1:sf P ps)(h2:si P I)(hm:mT P g 2 d=true)
 (k:∀a b,(f a b).1->gP (dJ.of ps I) 0 d.code (Ap d.res (f a b).2) ⟨[(0,e a),(1,e' b)],[]⟩):aJ P g (cH e e' f):=by
 refine aJ.mk h1 h2 hm λargs B=>?_;unfold cH at B|-;split at B
 next h=>rw[CV h];have U:=h.choose_spec;have:=k _ _ B;generalize h.choose=a at*;subst U;exact⟨rfl,this⟩
 simp_all
theorem aJ.zP [Inhabited Env]{α β γ:Type}{e:α->J}{e':β->J}{IZ:γ->J}{f:α->β->γ->Prop×J}(h1:sf P ps)(h2:si P I)(hm:mT P g 3 d=true)
 (k:∀a b c,(f a b c).1->gP (dJ.of ps I) 0 d.code (Ap d.res (f a b c).2) ⟨[(0,e a),(1,e' b),(2,IZ c)],[]⟩):aJ P g (fp e e' IZ f):=by
 refine aJ.mk h1 h2 hm λargs B=>?_;unfold fp at B|-;split at B
 next h=>rw[CV h];have U:=h.choose_spec;have:=k _ _ _ B;generalize h.choose=a at*;subst U;exact⟨rfl,this⟩
 simp_all
theorem aJ.QI [Inhabited Env]{α β γ δ:Type}{e:α->J}{e':β->J}{IZ:γ->J}{e3:δ->J}{f:α->β->γ->δ->Prop×J}(h1:sf P ps)(h2:si P I)(hm:mT P g 4 d=true)
 (k:∀a b c d',(f a b c d').1->gP (dJ.of ps I) 0 d.code (Ap d.res (f a b c d').2) ⟨[(0,e a),(1,e' b),(2,IZ c),(3,e3 d')],[]⟩):aJ P g (E4 e e' IZ e3 f):=by
 refine aJ.mk h1 h2 hm λargs B=>?_;unfold E4 at B|-;split at B
 next h=>rw[CV h];have U:=h.choose_spec;have:=k _ _ _ _ B;generalize h.choose=a at*;subst U;exact⟨rfl,this⟩
 simp_all
end
theorem ag{α:Type}(c:α->Ab){l:List α}{k:Nat}{x:α}(h:l[k]? =some x):(l.map c).getD k []=c x:=by simp_all
def tP{α β:Type}(c:α->β):Prop:=∀x y,c x=c y->x=y
theorem ace{n:Nat}{B:List ae}{o:ae}:RB (some n) B (B.set n o):=by intro h _ e;simp_all
theorem asq{x:BI}{B:List ae}:RB x B B:=λ_ _ _=>rfl
theorem asz{a b:ae}{l l':List ae}(hl:l'=l):RB (some 0) (a::l) (b::l'):=by subst hl;intro h _ e;grind
theorem asA{k:Nat}{a b:ae}{l l':List ae}(hb:b=a)(h:RB (some k) l l'):RB (some (k+1)) (a::l) (b::l'):=by
 subst hb;intro i hi e;cases i with
 |zero=>simp
 |succ n=>simpa using h n (by simp_all) (λc=>e (by simp_all))
theorem aps:(false==true)=false:=rfl
theorem apt:(true==false)=false:=rfl
theorem apu:(false !=true)=true:=rfl
theorem apv:(true !=false)=true:=rfl
theorem asC(f:B3->Prop×J):Zc f [.sl []]=f []:=by simp[Zc,Kk]
theorem asG(f:B3->B3->Prop×J)(l:B3):CO f [.sl [],.sl (MU l)]=f [] l:=by simp[CO,Kk,Kq]
theorem asK(f:B3->B3->Prop×J)(l:B3):CO f [.sl (MU l),.sl []]=f l []:=by simp[CO,Kk,Kq]
theorem asL(f:B3->B3->Prop×J):CO f [.sl [],.sl []]=f [] []:=by simp[CO,Kk]
@[reducible] def eI(n:Int):J:= .int .i64 n
@[reducible] def eU(n:Int):J:= .int .u64 n
@[reducible] def eB(b:Bool):J:= .bool b
@[reducible] def eS(s:B3):J:= .str s
@[reducible] def Vn(l:B3):J:= .sl (MU l)
@[reducible] def eL{α:Type}(c:α->Ab)(l:List α):J:= .sl (l.map c)
@[reducible] def eA{α:Type}(c:α->Ab)(x:α):J:= .agg (c x)
theorem cF:ux eI:=λ_ _ h=>by cases h;rfl
theorem aAv:ux eB:=λ_ _ h=>by cases h;rfl
theorem kj:ux eS:=λ_ _ h=>by cases h;rfl
theorem map_inj{α:Type}{c:α->Ab}(hc:∀x y,c x=c y->x=y):∀l l':List α,l.map c=l'.map c->l=l'
 |[],[],_=>rfl
 |[],_::_,h=>by simp at h
 |_::_,[],h=>by simp at h
 |x::l,y::l',h=>by simp only[p0,DO]at h;rw[hc x y h.1,map_inj hc l l' h.2]
theorem yu{α:Type}{c:α->Ab}(hc:∀x y,c x=c y->x=y):ux (eL c):=λ_ _ h=>by injection h with h;exact map_inj hc _ _ h
theorem A0{α:Type}{c:α->Ab}(hc:∀x y,c x=c y->x=y):ux (eA c):=λ_ _ h=>by grind
end Go.Nk
set_option linter.all false
namespace Go.Nk
inductive Sh where
 |int (k:IntKind)
 |bool
 |str
 |slice (s:Sh)
 |ptr (s:Sh)
 |struct (ss:List Sh)
 |self (t:TypeId)
def allTwo{α β:Type}(f:α->β->Bool):List α->List β->Bool
 |[],[]=>true
 |a::as,b::bs=>f a b&&allTwo f as bs
 |_,_=>false
def kB(P:Program):Nat->TypeId->Sh->Bool
 |0,_,_=>false
 |n+1,t,s=>
  match P.underlying t,s with
  |_,.self u=>decide (t=u)
  |some (.int k),.int k'=>decide (k=k')
  |some .bool,.bool=>true
  |some .string,.str=>true
  |some (.slice e),.slice s=>kB P n e s
  |some (.pointer e),.ptr s=>kB P n e s
  |some (.struct fs),.struct ss=>allTwo (λf s=>kB P n f.type s) fs.toList ss
  |some (.array k e),.struct ss=>ss.length==k&&ss.all λs=>kB P n e s
  |_,_=>false
mutual
def uF(An:TypeId->Ab->Prop):Sh->Ab->Prop
 | .self u,ds=>An u ds
 | .int k,ds=>∃i,ds=[.int k i]/\(Lit.int k i).wf=true
 | .bool,ds=>∃b,ds=[.bool b]
 | .str,ds=>∃s,ds=[.str s]/\s.length<=bN
 | .slice s,ds=>∃es,ds=[.sl es]/\Vc es<=bN/\∀x∈es,uF An s x
 | .ptr s,ds=>ds=[.rf]\/∃r,ds=[.ref r]/\uF An s r
 | .struct ss,ds=>ri An ss ds
def ri(An:TypeId->Ab->Prop):List Sh->Ab->Prop
 |[],ds=>ds=[]
 |s::ss,ds=>∃a b,ds=a++b/\uF An s a/\ri An ss b
end
def Hz:Sh->Bool
 | .self _=>false
 |_=>true
theorem sI{a N:Nat}{s:Sh}(h:a<=N):a<=N+(if Hz s=true then 1 else 0):=by omega
def yP(P:Program)(N:Nat)(u:TypeId)(ds:Ab):Prop:=(∃m,m<=N/\Has P m u ds)/\∀L∈gR ds,L<=bN
theorem xE{P:Program}{N:Nat}:∀(n:Nat) (t:TypeId) (s:Sh),kB P n t s=true->∀m ds,m<=N+(if Hz s=true then 1 else 0)->Has P m t ds->(∀L∈gR ds,L<=bN)->uF (yP P N) s ds
 |0,_,_,h,_,_,_,_,_=>by simp[kB]at h
 |n+1,t,s,h,0,_,_,Z,_=>Z.elim
 |n+1,t,s,h,m+1,ds,hN,Z,zR=>by
  have ZF:=Z;unfold kB at h;unfold Has at Z;split at h
  .simp only[ir]at h;subst h;unfold uF;exact⟨⟨m+1,by simpa[Hz]using hN,ZF⟩,zR⟩
  all_goals replace hN:m<=N:=by split at hN<;>omega
  .simp_all[ir,uF]
  .simp_all[uF]
  next e=>simp only[e]at Z;unfold uF;obtain⟨s,rfl,_⟩:=Z;exact⟨s,rfl,zR _ (by simp[gR,J.lens])⟩
  .rename_i el s' e;simp only[e]at Z;obtain⟨es,h1,h2,h3⟩:=Z;unfold uF;subst h1;have oe:∀(es:List Ab),(∀L∈CP es,L<=bN)->∀x∈es,∀L∈gR x,L<=bN:=by
    intro es;induction es with
    |nil=>simp_all
    |cons e es ih=>
     intro I x U L hL;simp only[CP,pt]at I;grind
   exact⟨es,rfl,zR _ (by simp[gR,J.lens]),λx U=>xE n el s' h m x (sI hN) (h3 x U) (oe es (λL hL=>zR L (by simp[gR,J.lens,hL])) x U)⟩
  .rename_i el s' e;simp only[e]at Z;unfold uF;rcases Z with Z|⟨r,rfl,h2⟩
   .exact .inl Z
   .exact .inr ⟨r,rfl,xE n el s' h m r (sI hN) h2 λL hL=>zR L (by simpa[gR,J.lens]using hL)⟩
  .rename_i fs ss e;simp only[e]at Z;unfold uF;have key:∀(fs:List Field) (ss:List Sh) (ds:Ab),allTwo (λf s=>kB P n f.type s) fs ss=true->Vh (Has P m) fs ds->(∀L∈gR ds,L<=bN)->ri (yP P N) ss ds:=by
    intro fs;induction fs with
    |nil=>intro ss ds h Z _;cases ss with
     |nil=>unfold ri;exact Z
     |cons=>simp[allTwo]at h
    |cons f fs ih=>intro ss ds h Z I;cases ss with
     |nil=>simp[allTwo]at h
     |cons s ss=>
      simp only[allTwo,ab]at h;obtain⟨a,b,rfl,ha,hb⟩:=Z;unfold ri;rw[rj]at I;exact⟨a,b,rfl,xE n _ s h.1 m a (sI hN) ha (λL hL=>I L (pt.2 (.inl hL))),ih ss b h.2 hb λL hL=>I L (pt.2 (.inr hL))⟩
   grind
  .rename_i k e' ss e;simp only[e]at Z;simp only[ab,GO,BE]at h;unfold uF;have key:∀(k:Nat) (ss:List Sh) (ds:Ab),ss.length=k->(∀s∈ss,kB P n e' s=true)->Vk (Has P m e') k ds->(∀L∈gR ds,L<=bN)->ri (yP P N) ss ds:=by
    intro k;induction k with
    |zero=>intro ss ds hl h Z _;cases ss with
     |nil=>unfold ri;exact Z
     |cons=>cases hl
    |succ k ih=>intro ss ds hl h Z I;cases ss with
     |nil=>cases hl
     |cons s ss=>
      obtain⟨a,b,rfl,ha,hb⟩:=Z;unfold ri;rw[rj]at I;exact⟨a,b,rfl,xE n _ s (h s (by simp)) m a (sI hN) ha (λL hL=>I L (pt.2 (.inl hL))),ih ss b (by simp_all) (λs I=>h s (by simp[I])) hb λL hL=>I L (pt.2 (.inr hL))⟩
   simp_all
  .cases h
def bS{α:Type}(An:TypeId->Ab->Prop)(s:Sh)(c:α->Ab)(W:α->Prop):Prop:=∀ds,uF An s ds->∃a,ds=c a/\W a
def Reads{α:Type}(s:Sh)(c:α->Ab)(W:α->Prop):Prop:=∀An,bS An s c W
theorem Reads.int:Reads (.int .i64) (λn=>[.int .i64 n]) (λn:Int=> -9223372036854775808<=n/\n<9223372036854775808):=by
 intro An ds h;unfold uF at h;obtain⟨i,rfl,hw⟩:=h;have: -9223372036854775808<=i/\i<=9223372036854775807:=by simpa[Lit.wf,IntKind.min,IntKind.max,IntKind.signed,IntKind.bits]using hw
 grind
theorem Reads.bool:Reads .bool (λb=>[.bool b]) (λ_:Bool=>True):=by intro An ds h;unfold uF at h;simp_all
theorem Reads.str:Reads .str (λs=>[.str s]) (λs:B3=>s.length<=bN):=by intro An ds h;unfold uF at h;omega
theorem SW{α:Type}{c:α->Ab}{W:α->Prop}:∀es:List Ab,(∀x∈es,∃a,x=c a/\W a)->∃l:List α,es=l.map c/\∀a∈l,W a
 |[],_=>⟨[],rfl,by simp⟩
 |x::es,h=>by obtain⟨l,rfl,hl⟩:=SW es λy hy=>h y (by simp[hy]);obtain⟨a,rfl,ha⟩:=h x (by simp);exact⟨a::l,rfl,by simp_all⟩
theorem Reads.slice{α:Type}{s:Sh}{c:α->Ab}{W:α->Prop}(h:Reads s c W):Reads (.slice s) (λl:List α=>[.sl (l.map c)]) (λl=>l.length<=bN/\∀a∈l,W a):=by intro An ds Z;unfold uF at Z;obtain⟨es,rfl,hl,U⟩:=Z;obtain⟨l,rfl,hw⟩:=SW es λx A3=>h An x (U x A3);exact⟨l,rfl,by simpa using D0 (Zf _) hl,hw⟩
theorem Reads.bytes:Reads (.slice (.int .u8)) (λl:B3=>[.sl (MU l)]) (λl=>l.length<=bN):=by
 intro An ds Z;unfold uF at Z;obtain⟨es,rfl,hl,U⟩:=Z;obtain⟨l,rfl⟩:=asp es λx A3=>by have:=U x A3;unfold uF at this;exact this
 exact⟨l,rfl,by simpa[pR]using D0 (Zf _) hl⟩
theorem Reads.cons{α β:Type}{s:Sh}{ss:List Sh}{c:α->Ab}{W:α->Prop}{c':β->Ab}{W':β->Prop}(h:Reads s c W)(h':∀An ds,ri An ss ds->∃b,ds=c' b/\W' b):
 ∀An ds,ri An (s::ss) ds->∃x:α×β,ds=c x.1++c' x.2/\W x.1/\W' x.2:=by
 intro An ds Z;unfold ri at Z;obtain⟨a,b,rfl,ha,hb⟩:=Z;obtain⟨x,rfl,U⟩:=h An a ha;obtain⟨y,rfl,hy⟩:=h' An b hb;exact⟨(x,y),rfl,U,hy⟩
theorem Reads.nil:∀An ds,ri An [] ds->∃b:Unit,ds=(λ_=>[]) b/\True:=by simp_all[ri,trivial]
theorem Reads.struct{α:Type}{ss:List Sh}{c:α->Ab}{W:α->Prop}(h:∀An ds,ri An ss ds->∃b,ds=c b/\W b):Reads (.struct ss) c W:=by intro An ds Z;unfold uF at Z;grind
theorem Reads.as{α β:Type}{s:Sh}{c:α->Ab}{W:α->Prop}{c':β->Ab}{W':β->Prop}(h:Reads s c W)(f:α->β)(e:∀a,c a=c' (f a))(w:∀a,W a->W' (f a)):Reads s c' W':=by intro An ds Z;obtain⟨a,rfl,ha⟩:=h An ds Z;grind
theorem Reads.r{α:Type}{s:Sh}{c:α->Ab}{W:α->Prop}(h:Reads s c W){An:TypeId->Ab->Prop}:bS An s c W:=h An
section
variable {An:TypeId->Ab->Prop}
theorem bS.slice{α:Type}{s:Sh}{c:α->Ab}{W:α->Prop}(h:bS An s c W):bS An (.slice s) (λl:List α=>[.sl (l.map c)]) (λl=>l.length<=bN/\∀a∈l,W a):=by intro ds Z;unfold uF at Z;obtain⟨es,rfl,hl,U⟩:=Z;obtain⟨l,rfl,hw⟩:=SW es λx A3=>h x (U x A3);exact⟨l,rfl,by simpa using D0 (Zf _) hl,hw⟩
theorem bS.cons{α β:Type}{s:Sh}{ss:List Sh}{c:α->Ab}{W:α->Prop}{c':β->Ab}{W':β->Prop}(h:bS An s c W)(h':∀ds,ri An ss ds->∃b,ds=c' b/\W' b):
 ∀ds,ri An (s::ss) ds->∃x:α×β,ds=c x.1++c' x.2/\W x.1/\W' x.2:=by
 intro ds Z;unfold ri at Z;obtain⟨a,b,rfl,ha,hb⟩:=Z;obtain⟨x,rfl,U⟩:=h a ha;obtain⟨y,rfl,hy⟩:=h' b hb;exact⟨(x,y),rfl,U,hy⟩
theorem bS.nil:∀ds,ri An [] ds->∃b:Unit,ds=(λ_=>[]) b/\True:=Reads.nil An
theorem bS.struct{α:Type}{ss:List Sh}{c:α->Ab}{W:α->Prop}(h:∀ds,ri An ss ds->∃b,ds=c b/\W b):bS An (.struct ss) c W:=by intro ds Z;unfold uF at Z;exact h ds Z
theorem bS.as{α β:Type}{s:Sh}{c:α->Ab}{W:α->Prop}{c':β->Ab}{W':β->Prop}(h:bS An s c W)(f:α->β)(e:∀a,c a=c' (f a))(w:∀a,W a->W' (f a)):bS An s c' W':=by intro ds Z;obtain⟨a,rfl,ha⟩:=h ds Z;grind
end
def zC:Sh->Bool
 | .struct _=>true
 |_=>false
theorem asQ{P:Program}{t:TypeId}{d:J}{s:Sh}{n:Nat}(hm:kB P n t s=true)(Uc:Hz s=true){α:Type}{c:α->Ab}{W:α->Prop}(h:∀N,bS (yP P N) s c W)(Z:Sy P t d):
 ∃a,d=(if zC s then .agg (c a)else(c a).headD .undef)/\W a/\(zC s=false->c a=[d]):=by
 have zR:=Z.2;replace Z:=Z.1;unfold zs at Z;have I:zC s=(match P.underlying t with|some (.struct _)=>true|some (.array _ _)=>true|_=>false):=by
  cases n with
  |zero=>simp[kB]at hm
  |succ n=>
   unfold kB at hm;grind[zC,Hz]
 split at Z
 next fs e=>rw[e]at I;obtain⟨ds,rfl,N,Z⟩:=Z;obtain⟨a,rfl,ha⟩:=h N ds (xE n t s hm N ds (sI (By _)) Z (by simpa[Small,J.lens]using zR));grind
 next k e' e=>rw[e]at I;obtain⟨ds,rfl,N,Z⟩:=Z;obtain⟨a,rfl,ha⟩:=h N ds (xE n t s hm N ds (sI (By _)) Z (by simpa[Small,J.lens]using zR));grind
 .rename_i bP OU;have yr:zC s=false:=by simp_all
  obtain⟨N,Z⟩:=Z;obtain⟨a,e,ha⟩:=h N [d] (xE n t s hm N [d] (sI (By _)) Z (by simpa[Small,gR]using zR));grind
theorem asR{P:Program}{t:TypeId}{d:J}{ss:List Sh}(hm:kB P 9 t (.struct ss)=true){α:Type}{c:α->Ab}{W:α->Prop}(h:∀N,bS (yP P N) (.struct ss) c W)(Z:Sy P t d):∃a,d= .agg (c a)/\W a:=by obtain⟨a,e,h1,_⟩:=asQ hm rfl h Z;exact⟨a,e,h1⟩
theorem yP.reads{P:Program}{u:TypeId}{s:Sh}{n:Nat}(hm:kB P n u s=true)(Uc:Hz s=true){α:Type}{c:α->Ab}{W:α->Prop}
 (h:∀An:TypeId->Ab->Prop,(∀ds,An u ds->∃a,ds=c a/\W a)->bS An s c W):∀N,bS (yP P N) (.self u) c W:=by
 have key:∀m ds,Has P m u ds->(∀L∈gR ds,L<=bN)->∃a,ds=c a/\W a:=by
  intro m;induction m using Nat.strongRecOn with
  |_ m ih=>
   intro ds Z hl;cases m with
   |zero=>exact Z.elim
   |succ m=>exact h (yP P m) (λds Z=>by obtain⟨⟨k,hk,h1⟩,h2⟩:=Z;grind) ds (xE n u s hm (m+1) ds (by simp_all) Z hl)
 intro N ds Z;unfold uF at Z;obtain⟨⟨m,_,h1⟩,h2⟩:=Z;grind
theorem apW{P:Program}{t:TypeId}{d:J}{s:Sh}(hm:kB P 9 t s=true)(I:zC s=false){α:Type}{c:α->Ab}{W:α->Prop}(h:Reads s c W)(Z:Sy P t d)(Uc:Hz s=true:=by rfl):∃a,c a=[d]/\W a:=by obtain⟨a,_,h1,h2⟩:=asQ hm Uc (λN=>h _) Z;grind
theorem XA{P:Program}{t:TypeId}{d:J}{s:Sh}(hm:kB P 9 t (.slice s)=true){α:Type}{c:α->Ab}{W:α->Prop}(h:Reads s c W)(Z:Sy P t d):∃l:List α,d= .sl (l.map c)/\l.length<=bN/\∀a∈l,W a:=by obtain⟨a,e,h⟩:=apW hm rfl (Reads.slice h) Z;grind
end Go.Nk
set_option linter.all false
namespace Go.Nk
section
variable {C:dJ} {h0:Nat} {Q:cA->DS->Prop} {s:DS}
theorem ald{c:DA}{a b:aq}(h:c.ev s.R= .bool true):gP C h0 (.cond c a b) Q s=gP C h0 a Q s:=by rw[bG,h];simp
theorem ale{c:DA}{a b:aq}(h:c.ev s.R= .bool false):gP C h0 (.cond c a b) Q s=gP C h0 b Q s:=by rw[bG,h];simp
theorem agt{C:dJ}{dst:BI}{op:aT}{g:Nat}{b:Bool}{r:List af}{K:DS->Prop}(h:get g s.R= .bool b):
 mJ C (⟨dst,op,some (g,b)⟩::r) s K=((aB C op s).pre/\mJ C r (s.put dst (aB C op s)) K):=by
 rw[zk,h];simp
theorem agu{C:dJ}{dst:BI}{op:aT}{g:Nat}{b:Bool}{r:List af}{K:DS->Prop}(h:get g s.R= .bool (!b)):
 mJ C (⟨dst,op,some (g,b)⟩::r) s K=mJ C r (s.put dst ⟨True,.b9 [],s.B⟩) K:=by
 rw[zk,h];cases b<;>simp
theorem agv{C:dJ}{dst:BI}{op:aT}{g:Nat}{b:Bool}{r:List af}{K:DS->Prop}(h:get g s.R= .b9 []):
 mJ C (⟨dst,op,some (g,b)⟩::r) s K=mJ C r (s.put dst ⟨True,.b9 [],s.B⟩) K:=by
 rw[zk,h]
theorem bz{C:dJ}{dst:BI}{op:aT}{g:Nat}{b:Bool}{r:List af}{K:DS->Prop}{t:Bool}(_:get g s.R= .bool t)
 (ht:t=true->mJ C (⟨dst,op,some (g,b)⟩::r) s K) (hf:t=false->mJ C (⟨dst,op,some (g,b)⟩::r) s K):mJ C (⟨dst,op,some (g,b)⟩::r) s K:=by
 cases t
 .exact hf rfl
 .exact ht rfl
theorem cP{c:DA}{a b:aq}{t:Bool}(h:c.ev s.R= .bool t)(ht:t=true->gP C h0 a Q s)(hf:t=false->gP C h0 b Q s):gP C h0 (.cond c a b) Q s:=by
 rw[bG,h];cases t
 .simpa using hf rfl
 .simpa using ht rfl
theorem bx{c:DA}{a b:aq}(h:c.ev s.R= .Hy)(ht:gP C h0 a Q s)(hf:gP C h0 b Q s):gP C h0 (.cond c a b) Q s:=by rw[bG,h];exact⟨ht,hf⟩
end
def zw:Ab->UInt8:=λe=>match e with|[.int _ n]=>UInt8.ofNat n.toNat|_=>0
theorem apX{C:dJ}{x:DA}{s:DS}:au C (.Md x) s=⟨(bc s.B (x.ev s.R)).pre/\(match x.ev s.R with| .str _=>False|_=>True)/\(∀e∈(bc s.B (x.ev s.R)).es,∃n,e=[.int .u8 n]),.str ((bc s.B (x.ev s.R)).es.map zw),s.B⟩:=rfl
theorem getD_map{α:Type} [Inhabited α](f:α->Ab)(l:List α)(k:Nat)(h:k<l.length):(l.map f).getD k []=f (l.getD k default):=by simp[List.getD,h]
def aM(p:Prop):Prop:=p
theorem aM.to{p:Prop}(h:p):aM p:=h
theorem aM.of{p:Prop}(h:aM p):p:=h
end Go.Nk
set_option linter.all false
namespace Go.Nk
open Go.RowKit
def Vo(res:List DR)(r:J)(B cU:List ae):cA->DS->Prop
 | .exit _,_=>False
 |_,s=>(aS s res).1/\(aS s res).2=r/\r.qA B.length=true/\cU.length=B.length/\(∃t,s.B=cU++t)/\∀(i:Nat) (o:ae),cU[i]? =some o->B[i]? =some o\/o.cut B.length=o
section
variable {P:Program} {K F0:Nat->Prop} {Bc:Nat->BI} {BW:List ae} {N:Nat} {w0:World} {C:dJ}
theorem aC.qA{F:Nat->Prop}{σ:Nat->BI}{B:List ae}{w:World}{d:J}{v:Value}(h:aC F σ B w d v):d.qA B.length=true:=by
 have key:∀cs:Ab,(∀(j:Nat) (d:J),cs[j]? =some d->d.qA B.length=true)->J.MB B.length cs=true:=by
  intro cs;induction cs with
  |nil=>intro _;rfl
  |cons c r ih=>intro h;simp only[J.MB,ab];exact⟨h 0 c rfl,ih λj d Z=>h (j+1) d (by simp_all)⟩
 induction h with
 |undef v=>rfl
 |aV h=>
  induction h with
  |Bg f cs vs hl vv hv E ih=>exact key _ ih
  |_=>rfl
 |own h L off len v h1 hh ho=>simpa[J.qA]using hh
 |ptr h L i j v h1 hh ho=>simpa[J.qA]using hh
 |mp h v h1 hh ho=>simpa[J.qA]using hh
 |agg cs vs hl vv hv E ih=>exact key _ ih
 |b9 cs vs hl vv hv E ih=>exact key _ ih
 |Bg f cs vs hl vv hv E ih=>exact key _ ih
 |BD f cs vs hl vv hv E ih=>exact key _ ih
theorem apY [Inhabited Env]{B:List ae}{F:Nat->Prop}{σ:Nat->BI}{w:World}(I:bH K F σ B w){i:Nat}{o:ae}(h:B[i]? =some o):o.cut B.length=o:=by
 unfold ae.cut;split
 .rename_i hk;have ho:=I.obj i o h;unfold gv at ho;rw[hk]at ho;obtain⟨g,_,_,_,c,ty,_,_,_,hb⟩:=ho;have:o.es.map (λr=>r.map (J.cut B.length))=o.es:=by
   refine FX λi=>?_;rw[M9];cases he:o.es[i]? with
   |none=>rfl
   |some e=>
    simp only[Ka,GB];refine FX λj=>?_;rw[M9];cases Z:e[j]? with
    |none=>rfl
    |some d=>
     obtain⟨v,_,hv⟩:=hb i j d (by unfold cellAt;simp_all);simp only[Ka,J.cut,hv.qA,Bp]
  rw[this]
 .rfl
theorem sj [Inhabited Env](hC:C.ok P){f:FuncId}{d:ay}{je:Ab}{B cU:List ae}{r:J}(hm:mT P f je.length d=true)
 (h:gP C B.length d.code (Vo d.res r B cU) ⟨aO 0 je,B⟩):iX P f=true/\SU P f je B r cU:=by
 obtain⟨nT,fn,c,hf,hb,hn,hc,E⟩:=wg hm;refine⟨nT,λK F σ w args I ha=>?_⟩;refine AB hf hb (cx hC d.code c none 0 K F σ B w _ _ _ w (.inl rfl) hc h (zD I ha hn)) (λs a w' rl hq=>?_) (λid s h=>h);have Fi:(aS s d.res).1/\(aS s d.res).2=r/\r.qA B.length=true/\cU.length=B.length/\(∃t,s.B=cU++t)/\∀(i:Nat) (o:ae),cU[i]? =some o->B[i]? =some o\/o.cut B.length=o:=hq.elim id id;obtain⟨h1,rfl,h2,h3,⟨t,h4⟩,h5⟩:=Fi;have T0:=rl.cut [] (some B.length) (By _);obtain⟨K',F',Be,EP,yr,Eo,hN,mQ,AD,Bl⟩:=rl;obtain⟨v,hv,Ja⟩:=Kr yr Eo E h1;have e:(s.cut [] (some B.length)).B=cU:=by simp only[DS.cut,h4];rw[List.take_append_of_le_length (by omega),vc (by omega)];refine FX λi=>?_;grind[M9,Ka,GB,apY]
 refine⟨v,hv,v,rfl,F',Be,?_,AD,?_,?_⟩
 .have:=(yr.weak EP).cut B.length;simp only[DS.cut]at e;simp_all
 .have hl:=Bl.len;rw[<-e];refine⟨Bl.mono,Bl.ck,by simp_all,λh o ho=>?_⟩;obtain⟨o',h1,h2,h3⟩:=Bl.ob h o ho;grind
 .rw[<-e];exact Ja.cut h2
end
structure jJ(ρ:Type) where
 o:Nat->ρ->ae
 c:ρ->ae
def gU(B:List ae)(n m:Nat):Prop:=n<B.length/\m<B.length/\n≠m
section
variable {ρ α:Type} {T:jJ ρ} {B t:List ae} {n m:Nat} {v v':ρ}
def jJ.is(T:jJ ρ)(B:List ae)(n m:Nat)(v:ρ):Prop:=B[n]? =some (T.o m v)/\B[m]? =some (T.c v)/\n≠m
def jJ.put(T:jJ ρ)(B:List ae)(n m:Nat)(v:ρ):List ae:=(B.set m (T.c v)).set n (T.o m v)
structure jJ.ok(T:jJ ρ):Prop where
 zx:∀m v m' v',T.o m v=T.o m' v'->m=m'
 A_:∀m v v',T.o m v=T.o m v'->T.c v=T.c v'->v=v'
 az0:∀m v k,m<k->(T.o m v).cut k=T.o m v
 az1:∀v k,(T.c v).cut k=T.c v
theorem LY{B:List ae}{n:Nat}{o:ae}(h:B[n]? =some o):B.set n o=B:=by refine FX λi=>?_;grind
theorem jJ.XL(h:T.is B n m v):T.put B n m v=B:=by unfold jJ.put;rw[LY h.2.1,LY h.1]
theorem jJ.SX(h:T.is B n m v):gU B n m:=⟨er h.1,er h.2.1,h.2.2⟩
theorem jJ.uz:(T.put B n m v).length=B.length:=by simp[jJ.put]
theorem jJ.apl:(T.put B n m v++t).length=B.length+t.length:=by simp[jJ.put]
theorem jJ.PN(k:gU B n m):T.put (T.put B n m v++t) n m v'=T.put B n m v'++t:=by obtain⟨k1,k2,k3⟩:=k;unfold jJ.put;rw[FT _ _ (by simp_all),FT _ _ (by simp_all)];congr 1;refine FX λi=>?_;grind
theorem jJ.ZM(k:gU B n m):(T.put B n m v++t)[n]? =some (T.o m v):=by obtain⟨k1,k2,k3⟩:=k;simp_all[OR,jJ.put]
theorem jJ.qn(k:gU B n m):(T.put B n m v++t)[m]? =some (T.c v):=by obtain⟨k1,k2,k3⟩:=k;simp_all[OR,jJ.put]
theorem jJ.qw{o:ae}:(T.put B n m v++(o::t))[B.length]? =some o:=by simp_all[IF,jJ.put]
theorem jJ.axH{o:ae}{t':List ae}:(T.put B n m v++(t++(o::t')))[B.length+t.length]? =some o:=by simp_all[IF,jJ.put]
theorem jJ.axI{o o':ae}{t':List ae}:(T.put B n m v++(t++(o::t'))).set (B.length+t.length) o'=T.put B n m v++(t++(o'::t')):=by simp_all[aab,jJ.put]
theorem jJ.B_(k:gU B n m):T.is (T.put B n m v++t) n m v:=⟨jJ.ZM k,jJ.qn k,k.2.2⟩
theorem jJ.az2{o o':ae}:(T.put B n m v++(o::t)).set B.length o'=T.put B n m v++(o'::t):=by simp_all[aab,jJ.put]
theorem jJ.auX(k:gU B n m)(h:T.c v'=T.c v):(T.put B n m v++t).set n (T.o m v')=T.put B n m v'++t:=by obtain⟨k1,k2,k3⟩:=k;simp_all[FT,jJ.put,List.set_set]
theorem jJ.azw(k:gU B n m)(h:T.o m v'=T.o m v):(T.put B n m v++t).set m (T.c v')=T.put B n m v'++t:=by obtain⟨k1,k2,k3⟩:=k;rw[FT _ _ (by simpa[jJ.put]using k2)];unfold jJ.put;rw[h];congr 1;refine FX λi=>?_;grind
open Classical in
noncomputable def Cc(T:jJ ρ)(args:α->Ab)(f:ρ->α->Prop×J×ρ):Ab->List ae->o9:=λa B=>
 if h:∃x:Nat×Nat×ρ×α,a= .ptr x.1 1 0 0::args x.2.2.2/\T.is B x.1 x.2.1 x.2.2.1 then
  ⟨(f h.choose.2.2.1 h.choose.2.2.2).1,(f h.choose.2.2.1 h.choose.2.2.2).2.1,T.put B h.choose.1 h.choose.2.1 (f h.choose.2.2.1 h.choose.2.2.2).2.2⟩
 else no
theorem apZ{args:α->Ab}(hT:T.ok)(ha:tP args)(f:ρ->α->Prop×J×ρ)(hi:T.is B n m v)(a:α):
 Cc T args f (.ptr n 1 0 0::args a) B=⟨(f v a).1,(f v a).2.1,T.put B n m (f v a).2.2⟩:=by
 unfold Cc;have U:∃x:Nat×Nat×ρ×α,.ptr n 1 0 0::args a= .ptr x.1 1 0 0::args x.2.2.2/\T.is B x.1 x.2.1 x.2.2.1:=⟨(n,m,v,a),rfl,hi⟩;rw[CV U];have hy:=U.choose_spec;generalize U.choose=y at hy;obtain⟨n',m',v',a'⟩:=y;obtain⟨h1,h2⟩:=hy;simp only[DO,J.ptr.injEq,Xv]at h1;obtain⟨rfl,h3⟩:=h1;have:=ha _ _ h3;subst this;have Y:=abc (hi.1.symm.trans h2.1);have e2:=hT.zx _ _ _ _ Y;simp only at e2;subst e2;have e3:=abc (hi.2.1.symm.trans h2.2.1);have e4:=hT.A_ _ _ _ Y e3;simp_all
theorem uT{args:α->Ab}(hT:T.ok)(ha:tP args)(f:ρ->α->Prop×J×ρ)(k:gU B n m)(a:α):
 Cc T args f (.ptr n 1 0 0::args a) (T.put B n m v++t)=⟨(f v a).1,(f v a).2.1,T.put B n m (f v a).2.2++t⟩:=by
 rw[apZ hT ha f (jJ.B_ k),jJ.PN k]
def Zh(T:jJ ρ)(res:List DR)(r:J)(B:List ae)(n m:Nat)(v:ρ):cA->DS->Prop
 | .exit _,_=>False
 |_,s=>(aS s res).1/\(aS s res).2=r/\∃u t,s.B=T.put B n m u++t/\u=v
theorem ab7{res:List DR}{r:J}{s:DS}:Zh T res r B n m v .normal s=((aS s res).1/\(aS s res).2=r/\∃u t,s.B=T.put B n m u++t/\u=v):=rfl
theorem IJ{res:List DR}{r:J}{s:DS}:Zh T res r B n m v .ret s=((aS s res).1/\(aS s res).2=r/\∃u t,s.B=T.put B n m u++t/\u=v):=rfl
end
theorem yC{C:dJ}{h0:Nat}{c:aq}{Q Q':cA->DS->Prop}{s:DS}(h:∀e s,Q e s->Q' e s)(k:gP C h0 c Q s):gP C h0 c Q' s:=by exact Dz c Q Q' s h k
theorem ez.Vp [Inhabited Env]{P:Program}{ps I}{fn:FuncId}{d:ay}{N:Nat}{ρ α:Type}{T:jJ ρ}{args:α->Ab}{f:ρ->α->Prop×J×ρ}(hT:T.ok)(h1:sf P ps)(h2:si P I)(hm:mT P fn N d=true)
 (hN:∀a,(args a).length+1=N) (E:∀v a k,((f v a).2.1).qA k=true)
 (k:∀n m B v a,gU B n m->(f v a).1->gP (dJ.of ps I) B.length d.code (Zh T d.res (f v a).2.1 B n m (f v a).2.2) ⟨(0,.ptr n 1 0 0)::aO 1 (args a),T.put B n m v++[]⟩):ez P fn (Cc T args f):=by
 intro a B bE;unfold Cc at bE|-;split at bE
 .rename_i U;rw[CV U];have hy:=U.choose_spec;generalize U.choose=y at hy bE|-;obtain⟨n,m,v,b⟩:=y;obtain⟨rfl,hi⟩:=hy;simp only at hi bE|-;have h3:=jJ.SX hi;have:=k n m B v b h3 bE;rw[jJ.XL hi,xz]at this;refine sj (Vu h1 h2) (by simp_all) (yC (λe s hq=>?_) this);have key:((aS s d.res).1/\(aS s d.res).2=(f v b).2.1/\∃u t,s.B=T.put B n m u++t/\u=(f v b).2.2)->
   ((aS s d.res).1/\(aS s d.res).2=(f v b).2.1/\((f v b).2.1).qA B.length=true/\(T.put B n m (f v b).2.2).length=B.length/\(∃t,s.B=T.put B n m (f v b).2.2++t)/\∀(i:Nat) (o:ae),(T.put B n m (f v b).2.2)[i]? =some o->B[i]? =some o\/o.cut B.length=o):=by
   rintro⟨q1,q2,u,t,q3,rfl⟩
   refine⟨q1,q2,E _ _ _,jJ.uz,⟨t,q3⟩,λi o ho=>?_⟩;simp only[jJ.put,Fa,List.length_set]at ho;split at ho
   .simp only[h3.1,Bp,GB]at ho;subst ho;exact .inr (hT.az0 _ _ _ h3.2.1)
   .split at ho
    .simp only[h3.2.1,Bp,GB]at ho;subst ho;exact .inr (hT.az1 _ _)
    simp_all
  cases e with
  |normal=>exact key hq
  |exit id=>exact hq.elim
  |ret=>exact key hq
 .exact bE.elim
end Go.Nk
set_option linter.all false
namespace Go.Nk
theorem eE{α:Type}(l:List α){k:Nat}(h:k<l.length):∃x,l[k]? =some x/\l.drop k=x::l.drop (k+1):=
 ⟨l[k],tx h,Hk h⟩
theorem aj{C:dJ}{h0:Nat}{live:List Nat}{m:BI}{c:aq}{Q:cA->DS->Prop}{s:DS}{α σ:Type}(l:List α)(st:Nat->σ->DS)(An:Nat->List α->σ->Prop)(a0:σ)
 (hm:match m with|some k=>h0<=k|none=>True) (I:s.cut live m=st 0 a0) (hi:An 0 l a0)
 (step:∀k x r a,k<l.length->l[k]? =some x->l.drop k=x::r->An k (x::r) a->gP C h0 c (cA.then (λs'=>∃a',s'.cut live m=st (k+1) a'/\An (k+1) r a') Q) (st k a))
 (last:∀k a,k=l.length->An k [] a->gP C h0 c (cA.then (λ_=>False) Q) (st k a)):gP C h0 (.loop live m c) Q s:=by
 refine iQ (λx:Nat×σ=>st x.1 x.2) (λx=>x.1<=l.length/\An x.1 (l.drop x.1) x.2) (λx=>l.length-x.1) (0,a0) hm I ⟨AI _,hi⟩ λx U=>?_;obtain⟨k,a⟩:=x;obtain⟨hk,E⟩:=U;simp only at hk E|-;by_cases d:k<l.length
 .obtain⟨x,Y,e2⟩:=eE l d;rw[e2]at E;refine Dz c _ _ _ (λe s' hh=>?_) (step k x _ a d Y e2 E);cases e with
  |normal=>
   obtain⟨a',h1,h2⟩:=hh;exact⟨(k+1,a'),h1,⟨d,h2⟩,by omega⟩
  |exit id=>exact hh
  |ret=>exact hh
 grind
theorem qD{n:Int}(h1: -9223372036854775808<=n)(h2:n<9223372036854775808):IntKind.i64.wrap n=n:=df ⟨h1,h2⟩
theorem MC{n:Int}(h1:0<=n)(h2:n<18446744073709551616):IntKind.u64.wrap n=n:=acD ⟨h1,h2⟩
theorem Wd{n:Int}(h1:0<=n)(h2:n<256):IntKind.u8.wrap n=n:=agr ⟨h1,h2⟩
theorem getD_map'{α:Type} [Inhabited α](f:α->Ab)(l:List α)(n:Int)(h0:0<=n)(h:n<l.length):(l.map f).getD n.toNat []=f (l.getD n.toNat default):=getD_map f l _ (by omega)
theorem xF{α:Type}{l:List α}{k:Nat}{x:α}{r:List α}(h:l.drop k=x::r):x∈l:=List.mem_of_mem_drop (h▸KV)
open Classical in
noncomputable def qz{α:Type}(args:α->Ab)(f:α->Prop×J):Ab->Prop×J:=λl=>
 if h:∃a,l=args a then f h.choose else(False,.undef)
theorem aJ.r0 [Inhabited Env]{P:Program}{ps I}{g:FuncId}{d:ay}{N:Nat}{α:Type}{args:α->Ab}{f:α->Prop×J}(h1:sf P ps)(h2:si P I)(hm:mT P g N d=true)
 (hN:∀a,(args a).length=N) (k:∀a,(f a).1->gP (dJ.of ps I) 0 d.code (Ap d.res (f a).2) ⟨aO 0 (args a),[]⟩):aJ P g (qz args f):=by
 refine aJ.mk h1 h2 hm λl B=>?_;unfold qz at B|-;split at B<;>grind
open Classical in
noncomputable def iY{α:Type}(r:α->Ab->List ae->Prop)(f:α->Prop×J)(out:α->List ae->List ae):Ab->List ae->o9:=λa B=>
 if h:∃x,r x a B then⟨(f h.choose).1,(f h.choose).2,out h.choose B⟩else no
theorem fh{α:Type}{r:α->Ab->List ae->Prop}{f:α->Prop×J}{out:α->List ae->List ae}(hu:∀x y a B,r x a B->r y a B->x=y){x:α}{a:Ab}{B:List ae}(h:r x a B):
 iY r f out a B=⟨(f x).1,(f x).2,out x B⟩:=by
 unfold iY;have U:∃y,r y a B:=⟨x,h⟩;grind
theorem ez.I0 [Inhabited Env]{P:Program}{ps I}{fn:FuncId}{d:ay}{N:Nat}{α:Type}{r:α->Ab->List ae->Prop}{f:α->Prop×J}{out:α->List ae->List ae}(h1:sf P ps)(h2:si P I)(hm:mT P fn N d=true)
 (hN:∀x a B,r x a B->a.length=N) (k:∀x a B,r x a B->(f x).1->gP (dJ.of ps I) B.length d.code (Vo d.res (f x).2 B (out x B)) ⟨aO 0 a,B⟩):ez P fn (iY r f out):=by
 intro a B bE;unfold iY at bE|-;split at bE
 next U=>rw[CV U];have hy:=U.choose_spec;generalize U.choose=y at hy bE|-;exact sj (Vu h1 h2) (by grind) (k _ _ _ hy bE)
 .exact bE.elim
theorem ez.Vq [Inhabited Env]{P:Program}{ps I}{fn:FuncId}{d:ay}{N:Nat}{α:Type}{r:α->Ab->List ae->Prop}{f:α->Prop×J}{out:α->List ae->List ae}(h1:sf P ps)(h2:si P I)(hm:mT P fn N d=true)
 (hN:∀x a B,r x a B->a.length=N) (k:∀x a B,r x a B->(f x).1->gP (dJ.of ps I) B.length d.code (Yw d.res (f x).2 (out x B)) ⟨aO 0 a,B⟩):ez P fn (iY r f out):=by
 refine ez.mk h1 h2 hm λa B bE=>?_;unfold iY at bE|-;split at bE
 .grind
 .exact bE.elim
theorem apn{B g t:List ae}{o:ae}:(B++(g++(o::t)))[B.length+g.length]? =some o:=by simp_all
theorem apo{B g t:List ae}{o o':ae}:(B++(g++(o::t))).set (B.length+g.length) o'=B++(g++(o'::t)):=by simp_all
theorem aia{B t:List ae}{o:ae}:(B++(o::t))[B.length]? =some o:=by simp_all
theorem Qq{B t:List ae}{o b:ae}:(B++(b::o::t))[B.length+1]? =some o:=by simp_all
theorem aib{B t:List ae}{o o':ae}:(B++(o::t)).set B.length o'=B++(o'::t):=by simp_all
theorem aah{B t:List ae}{o b o':ae}:(B++(b::o::t)).set (B.length+1) o'=B++(b::o'::t):=by simp_all
theorem acH{res:List DR}{r:J}{B cU:List ae}{s:DS}:Vo res r B cU .normal s=((aS s res).1/\(aS s res).2=r/\r.qA B.length=true/\cU.length=B.length/\(∃t,s.B=cU++t)/\∀(i:Nat) (o:ae),cU[i]? =some o->B[i]? =some o\/o.cut B.length=o):=rfl
theorem ap0{res:List DR}{r:J}{B cU:List ae}{s:DS}:Vo res r B cU .ret s=((aS s res).1/\(aS s res).2=r/\r.qA B.length=true/\cU.length=B.length/\(∃t,s.B=cU++t)/\∀(i:Nat) (o:ae),cU[i]? =some o->B[i]? =some o\/o.cut B.length=o):=rfl
def one(B:List ae)(m:Nat)(o:ae):List ae:=B.set m o
section
variable {B t t':List ae} {m:Nat} {o o' b:ae}
theorem Qy(h:B[m]? =some o):one B m o=B:=LY h
theorem z5:(one B m o).length=B.length:=by simp[one]
theorem apq:(one B m o++t).length=B.length+t.length:=by simp[one]
theorem asm(h:m<B.length):(one B m o++t)[m]? =some o:=by simp_all[OR,one]
theorem auV:(one B m o++(b::t))[B.length]? =some b:=by simp_all[IF,one]
theorem axy{b0:ae}:(one B m o++(b0::b::t))[B.length+1]? =some b:=by simp_all[IF,one]
theorem axz{b0 b1:ae}:(one B m o++(b0::b1::b::t))[B.length+2]? =some b:=by simp_all[IF,one]
theorem ahB(h:m<B.length):(one B m o++t).set m o'=one B m o'++t:=by simp_all[FT,one]
theorem apr:(one B m o++(b::t)).set B.length o'=one B m o++(o'::t):=by simp_all[aab,one]
theorem akQ{b0:ae}:(one B m o++(b0::b::t)).set (B.length+1) o'=one B m o++(b0::o'::t):=by simp_all[aab,one]
theorem Iy(h:o.cut B.length=o):∀(i:Nat) (x:ae),(one B m o)[i]? =some x->B[i]? =some x\/x.cut B.length=x:=by grind[one,Fa]
theorem aiB{z:Nat}{es:List Ab}{k:Nat}:(ae.mk .aV z es).cut k=⟨.aV,z,es⟩:=rfl
end
theorem jJ.XM{ρ:Type}{T:jJ ρ}{B:List ae}{n m:Nat}{v:ρ}(h1:(T.o m v).cut B.length=T.o m v)(h2:(T.c v).cut B.length=T.c v):∀(i:Nat) (x:ae),(T.put B n m v)[i]? =some x->B[i]? =some x\/x.cut B.length=x:=by grind[jJ.put,Fa,List.length_set]
def rP:=And.intro @acp (And.intro @aid (And.intro @acn (And.intro @aco (And.intro @aih (And.intro @arW (And.intro @acm (And.intro @aie (And.intro @ald (And.intro @ale (And.intro @ak9 (And.intro @apX (And.intro @arY (And.intro @arZ (And.intro @acq (And.intro @ar0 (And.intro @ar1 (And.intro @ar2 @aif)))))))))))))))))
def rT:=And.intro @false_and (And.intro @and_false (And.intro @Bv.{1} (And.intro @ite_true.{1} (And.intro @ite_false.{1} (And.intro @Cr.{0} (And.intro @Rl.{0} (And.intro @List.drop_succ_cons.{0} (And.intro @List.take_zero.{0} (And.intro @Eh.{0} (And.intro @ace (And.intro @asq (And.intro @asz (And.intro @asA (And.intro @acf (And.intro @arX (And.intro @agt (And.intro @agu (And.intro @agv (And.intro @aci (And.intro @ach (And.intro @aAD (And.intro @aAC (And.intro @ar3 (And.intro @acg (And.intro @ar4 (And.intro @SB (And.intro @cS (And.intro @Nk.get_nil (And.intro @Bp.{1} (And.intro @Ck (And.intro @Bt (And.intro @Xv (And.intro @Bool.not_true (And.intro @aps (And.intro @apt (And.intro @apu (And.intro @apv (And.intro @bne_self_eq_false.{0} (And.intro @Bool.not_false (And.intro @p0.{0,0} (And.intro @DD.{0,0} (And.intro @Ka.{0,0} (And.intro @Option.map_none.{0,0} (And.intro @Kc (And.intro @Bool.true_eq_false (And.intro @GC (And.intro @Nat.zero_ne_one (And.intro @Nat.one_ne_zero (And.intro @IS.{0} (And.intro @Cd.{0} (And.intro @OF.{0} (And.intro @Ca.{0} (And.intro @Nat.lt_add_one (And.intro @Nat.zero_lt_one (And.intro @GL (And.intro @ir (And.intro @Of (And.intro @Oa (And.intro @pR @aAF)))))))))))))))))))))))))))))))))))))))))))))))))))))))))))
def rU:=And.intro @aAE (And.intro @SD (And.intro @SC (And.intro @Iq (And.intro @ar8 (And.intro @asg (And.intro @asC (And.intro @asG (And.intro @asK (And.intro @asL (And.intro @aI (And.intro @MM.{0} (And.intro @C1.{0} (And.intro @GJ (And.intro @Ma (And.intro @Pd (And.intro @C4 (And.intro @not_true_eq_false (And.intro @not_false_eq_true (And.intro @List.getElem?_cons_zero.{0} (And.intro @XD.{0} (And.intro @List.set_cons_zero.{0} (And.intro @List.set_set.{0} (And.intro @List.set_cons_succ.{0} (And.intro @List.drop_zero.{0} (And.intro @VB.{0} (And.intro @List.not_mem_nil.{0} (And.intro @List.forall_mem_cons.{0} (And.intro @Bz.{0} (And.intro @true_or (And.intro @or_true (And.intro @or_false (And.intro @false_or (And.intro @or_self (And.intro @abi.{0} (And.intro @List.length_set.{0} (And.intro @AS.{0} (And.intro @XK.{0} (And.intro @Hm (And.intro @decide_false (And.intro @gt_iff_lt.{0} (And.intro @ge_iff_le.{0} (And.intro @ack (And.intro @acj (And.intro @asi (And.intro @List.getElem?_nil.{0} (And.intro @Br.{1} (And.intro @J.b9.injEq (And.intro @J.int.injEq (And.intro @J.bool.injEq (And.intro @J.agg.injEq (And.intro @J.str.injEq (And.intro @DO.{0} (And.intro @Ru (And.intro @Nat.zero_mul (And.intro @Nat.mul_one (And.intro @Pe.{0,0} (And.intro @Nat.lt_irrefl (And.intro @Int.lt_irrefl (And.intro @acH @ap0)))))))))))))))))))))))))))))))))))))))))))))))))))))))))))
end Go.Nk
set_option maxHeartbeats 1000000
set_option linter.all false
namespace Go.Nk
open Go.RowKit
abbrev SI:=DS×BI
def Zi:J->Bool
 | .agg cs=>cs.all J.bl
 |d=>d.bl
def AE(l:Nat)(R:List (Nat×J)):aT->Option Ab
 | .oD g args=>match g.ev R with
   | .P9 l'=>if l'=l then some (args.map (·.ev R))else none
   |_=>none
 |_=>none
def SY(l:Nat):J->Bool
 | .P9 l'=>l'==l
 |d=>Zi d
def wh(C:dJ)(l:Nat)(xs:List Ab)(dst:BI)(op:aT)(s:SI)(Kn:SI->Prop):Prop:=
 match AE l s.1.R op with
 |some a=>∃n,s.2=some n/\xs[n]? =some a/\a.all Zi=true/\Kn (s.1.put dst ⟨True,.bool true,s.1.B⟩,some (n+1))/\Kn (s.1.put dst ⟨True,.bool false,s.1.B⟩,none)
 |none=>match op with
  | .Bm f args=>∃n,s.2=some n/\(C.w f ((args.map (·.ev s.1.R)).map J.Mv)).1/\(args.map (·.ev s.1.R)).all (SY l)=true/\
    (∀i y,(C.w f ((args.map (·.ev s.1.R)).map J.Mv)).2[i]? =some y->xs[n+i]? =some y)/\
    Kn (s.1.put dst ⟨True,.bool true,s.1.B⟩,some (n+(C.w f ((args.map (·.ev s.1.R)).map J.Mv)).2.length))/\Kn (s.1.put dst ⟨True,.bool false,s.1.B⟩,none)
  |_=>(aB C op s.1).pre/\Kn (s.1.put dst (aB C op s.1),s.2)
def HA(C:dJ)(l:Nat)(xs:List Ab)(o:af)(s:SI)(Kn:SI->Prop):Prop:=
 match o.guard with
 |none=>wh C l xs o.dst o.op s Kn
 |some (g,b)=>
  match get g s.1.R with
  | .bool b'=>if b'=b then wh C l xs o.dst o.op s Kn else Kn (s.1.put o.dst ⟨True,.b9 [],s.1.B⟩,s.2)
  | .b9 []=>Kn (s.1.put o.dst ⟨True,.b9 [],s.1.B⟩,s.2)
  |_=>False
def nW(C:dJ)(l:Nat)(xs:List Ab):List af->SI->(SI->Prop)->Prop
 |[],s,Kn=>Kn s
 |o::r,s,Kn=>HA C l xs o s (λs'=>nW C l xs r s' Kn)
def Ks(next:SI->Prop)(Q:cA->SI->Prop):cA->SI->Prop
 | .normal,s=>next s
 |e,s=>Q e s
def wi(id:Nat)(Q:cA->SI->Prop):cA->SI->Prop
 | .exit GP,s=>if GP=id then Q .normal s else Q (.exit GP) s
 |e,s=>Q e s
def jK(C:dJ)(l:Nat)(xs:List Ab):aq->(cA->SI->Prop)->SI->Prop
 | .skip,Q,s=>Q .normal s
 | .ops false dl,Q,s=>nW C l xs dl s (Q .normal)
 | .ops true dl,Q,s=>mJ C dl s.1 (λs'=>Q .normal (s',s.2))
 | .Km dl,Q,s=>mJ C (dl.map (·.2)) s.1 (λs'=>Q .normal (s',s.2))
 | .seq a b,Q,s=>jK C l xs a (Ks (jK C l xs b Q) Q) s
 | .cond c a b,Q,s=>
   match c.ev s.1.R with
   | .bool t=>(t=true->jK C l xs a Q s)/\(t=false->jK C l xs b Q s)
   | .Hy=>jK C l xs a Q s/\jK C l xs b Q s
   |_=>False
 | .block id c,Q,s=>jK C l xs c (wi id Q) s
 | .loop live m c,Q,s=>∃(Bo:SI->Prop) (μ:SI->Nat),Bo (s.1.cut live m,s.2)/\
  ∀s',Bo s'->jK C l xs c (Ks (λWB=>Bo (WB.1.cut live m,WB.2)/\μ (WB.1.cut live m,WB.2)<μ s') Q) s'
 | .exit id,Q,s=>Q (.exit id) s
 | .ret,Q,s=>Q .ret s
 |_,_,_=>False
section
variable {P:Program} {N:Nat} {C:dJ} {xs:List Ab} {Bf:BI->(Nat->Prop)->(Nat->Prop)->World->Prop} {l:Nat}
def oE [Inhabited Env](N:Nat)(Bf:BI->(Nat->Prop)->(Nat->Prop)->World->Prop)(s:SI)(a:Act)(W:World):Prop:=
 ∃F BQ K' σ,(∀b,b<W.heap.size->¬BQ b->K' b)/\bH K' F σ s.1.B W/\jZ F σ s.1.B W s.1.R a.tmps/\a.tmps.size=N/\Marks (λb=>¬BQ b) K' F W a.defers/\(∀b,BQ b->b<W.heap.size)/\Bf s.2 F BQ W
theorem Marks.base{K0 K0' K F:Nat->Prop}{w:World}(h:∀D,D<w.heap.size->¬K0 D->¬K0' D):∀{ds:List Deferred},Marks K0 K F w ds->Marks K0' K F w ds
 |[],_=>trivial
 |d::ds,hm=>by obtain⟨⟨D,h1,h2,h3,h4,h5,h6⟩,h7⟩:=hm;exact⟨⟨D,h1,h2,h3,h4,h D (Array.getElem?_eq_some_iff.1 h4).1 h5,h6⟩,h7.base h⟩
theorem oE.start [Inhabited Env]{s:DS}{k:BI}{a:Act}{W:World}(h:oE N Bf (s,k) a W):
 ∃F BQ σ,wE (λb=>b<W.heap.size/\¬BQ b) N F σ s.B W s a W/\Bf k F BQ W:=by
 obtain⟨F,BQ,K',σ,hK,I,hf,hN,hm,hB,hj⟩:=h;exact⟨F,BQ,σ,⟨K',F,σ,λb hb=>hK b hb.1 hb.2,I,hf,hN,hm.base λD _ h1 h2=>h1 h2.2,.refl _ _ _,.refl _ _ _ _⟩,hj⟩
theorem oE.C_ [Inhabited Env](hJ:yh Bf){k:BI}{F BQ:Nat->Prop}{Bc:Nat->BI}{BW:List ae}{W:World}(hk:Bf k F BQ W){s':DS}{a':Act}{W':World}
 (h:wE (λb=>b<W.heap.size/\¬BQ b) N F Bc BW W s' a' W'):oE N Bf (s',k) a' W':=by
 obtain⟨K',F',Be,EP,I,hf,hN,mQ,AD,Bl⟩:=h;refine⟨F',λb=>(BQ b\/W.heap.size<=b)/\b<W'.heap.size,K',Be,λb h1 h2=>EP b ?_,I,hf,hN,mQ.base λD h1 h2 h3=>h3 ⟨?_,h1⟩,λb hb=>hb.2,
  hJ k F BQ W _ _ W' hk ⟨AD.os,AD.tape,AD.output,AD.size,λb hb hn=>AD.sa b ⟨hb,hn⟩,AD.ck,AD.mono,λb hb=>?_,λb hb=>hb.1,I.fb,λb hb=>hb.2⟩⟩
 .simp_all
 .rcases AD.new b hb with h|h<;>grind
 simp_all
def aDJ [Inhabited Env](N:Nat)(Bf:BI->(Nat->Prop)->(Nat->Prop)->World->Prop)(Q:cA->SI->Prop):Exit->Act->World->Prop
 | .normal,a,w=>∃s,oE N Bf s a w/\Q .normal s
 | .exit id,a,w=>∃s,oE N Bf s a w/\Q (.exit id) s
 | .ret,a,w=>∃s,oE N Bf s a w/\Q .ret s
 |_,_,_=>False
theorem acI{F:Nat->Prop}{σ:Nat->BI}{B:List ae}{w:World}{d:J}{v:Value}(h:aC F σ B w d v)(Z:Zi d=true):aC F none_ [] w d v:=by
 cases d with
 |agg cs=>
  obtain⟨vs,rfl,hl,E⟩:=h.rm;exact aC.wc hl λj d' xo=>let⟨u,hu,E⟩:=E j d' xo;⟨u,hu,Kt E (BE.1 Z d' (ed xo))⟩
 |_=>exact Kt h Z
theorem atN{o:Oper}{a:Act}{w:World}{x:Operand}{args:Array Operand}{ts:Array TypeId}(ho:o.op= .call {callee:= .value x,args,argTypes:=ts})(U:a.eval x= .func (.yield l) #[] #[]):
 (execOp a.eval o).run P w=(Instr.yield l (args.map a.eval)).run P w:=by
 simp_all[execOp,resolve,Deferred.ofValue,Sem.run_bind,Sem.run_pure,Result.andThen_ok,invoke,Array.empty_append]
theorem oE.turned [Inhabited Env]{s:DS}{k':BI}{F BQ K':Nat->Prop}{σ:Nat->BI}{a:Act}{W W':World}{F':Nat->Prop}(N2:∀b,b<W.heap.size->¬BQ b->K' b)(I:bH K' F σ s.B W)(hf:jZ F σ s.B W s.R a.tmps)(hN:a.tmps.size=N)
 (SZ:Marks (λb=>¬BQ b) K' F W a.defers) (hB:∀b,BQ b->b<W.heap.size) (f1:∀c,F c->F' c) (f2:∀c,F' c->F c\/¬BQ c) (f3:∀c,F' c->c<W'.heap.size) (f4:W.heap.size<=W'.heap.size) (f5:∀c,F c->W'.heap[c]? =W.heap[c]?) (f6:∀c,BQ c->W'.heap[c]? =W.heap[c]?) (QK:Bf k' F' BQ W')
 {dst:BI} (mP:∀t,dst=some t->t<N) {v:J} {u:Value} (D_:aC F' σ s.B W' v u):oE N Bf (s.put dst ⟨True,v,s.B⟩,k') (a.put dst u) W':=by
 obtain⟨yr,wO⟩:=I.turn (K':=λb=>K' b\/(W.heap.size<=b/\b<W'.heap.size)) (F':=F') f4 f5 (λb hb hk=>f6 b (V2 λh=>hk (N2 b hb h))) f1
  (λc hc=>(f2 c hc).imp id λh=>by grind) (λb hb=>hb.imp id (·.1)) f3 (λb hb=>hb.elim (λh=>by have:=I.kb b h;omega) (·.2))
 have aAS:∀{ds:List Deferred},Marks (λb=>¬BQ b) K' F W ds->Marks (λb=>¬BQ b) (λb=>K' b\/(W.heap.size<=b/\b<W'.heap.size)) F' W' ds:=by
  intro ds;induction ds with
  |nil=>intro _;trivial
  |cons d ds ih=>
   rintro⟨⟨D,h1,h2,h3,h4,h5,h6⟩,h7⟩
   have T4:BQ D:=V2 h5;exact⟨⟨D,h1,.inl h2,λh=>(f2 D h).elim h3 (λh=>h T4),(f6 D T4).trans h4,h5,h6⟩,ih h7⟩
 refine⟨F',BQ,λb=>K' b\/(W.heap.size<=b/\b<W'.heap.size),σ,λc h1 h2=>?_,?_,?_,?_,?_,λc hc=>Ef (hB c hc) f4,QK⟩
 .grind
 .cases dst<;>exact yr
 .have:=hf.put wO (dst:=dst) (λt ht=>by simp_all) D_;cases dst<;>exact this
 .cases dst<;>simp[Act.put,hN]
 .cases dst<;>exact aAS SZ
theorem alg{F:Nat->Prop}{σ:Nat->BI}{B:List ae}{w:World}{d:J}{v:Value}{l:Nat}(h:aC F σ B w d v)(Z:SY l d=true):aC F none_ [] w ((J.Mv d).SF l) v:=by
 cases d with
 |P9 l'=>
  have e:l'=l:=by simpa[SY]using Z
  subst e;rw[h.aiD];exact .aV (.P9 l')
 |_=>exact acI h Z
theorem asS [Inhabited Env](hC:C.ok P)(hJ:yh Bf)(hR:AF P l xs Bf){ops:Array Oper}{o:Oper}{d:af}(hm:Ku P N ops o d=true){s:SI}{a:Act}{W:World}(hc:oE N Bf s a W){Kd:SI->Prop}{Kn:Act->World->Prop}{Q:Exit->Act->World->Prop}
 (hK:∀s' a' w',oE N Bf s' a' w'->Kd s'->Kn a' w') (h:wh C l xs d.dst d.op s Kd):o.wpIn (Fw none) 0 P a W Kn Q:=by
 obtain⟨s,k⟩:=s;unfold wh at h;have AZ:=hm;simp only[Ku,ab,ir]at hm;obtain⟨⟨⟨DU,Pg⟩,mP⟩,hg⟩:=hm;cases hy:AE l s.R d.op with
 |none=>
  simp only[hy]at h;by_cases hw:∃f args,d.op= .Bm f args
  .obtain⟨f,gs,Z⟩:=hw;simp only[Z]at h DU;obtain⟨n,hn,bE,su,wy,ht,Eo⟩:=h;subst hn;obtain⟨F,BQ,K',σ,N2,I,hf,hN,SZ,hB,hj⟩:=hc;obtain⟨nT,QM⟩:=hC.w f _ bE;generalize (C.w f ((gs.map (·.ev s.R)).map J.Mv)).2=ys at*;cases Ff:o.op with
   |call cl=>
    rw[Ff]at DU;obtain⟨E_,args,ts⟩:=cl;cases E_ with
    |value x=>
     cases x with
     |func f'=>
      have Vr:f'=f/\fY args.toList gs=true:=by simpa[Pw,Up]using DU
      obtain⟨rfl,Vr⟩:=Vr;have lW:=lX hf Vr;have Mo:dX (aC F none_ [] W) (((gs.map (·.ev s.R)).map J.Mv).map (J.SF l)) (args.map a.eval).toList:=by rw[Ei];refine⟨by simpa using lW.1,λj d Z=>?_⟩;simp only[M9,Xs]at Z;obtain⟨d',xo,rfl⟩:=Z;obtain⟨u,hu,E⟩:=lW.2 j d' (by simp_all);grind[alg,BE,ed]
      refine nv (.inl rfl) ?_;have Rn:=QM l (λk F BQ W=>Bf (k.map (n+·)) F BQ W) (λb=>b<W.heap.size) F BQ W (args.map a.eval) (λk F BQ W F' B' W' h st=>hJ _ F BQ W F' B' W' h st)
       (λk F BQ W x vs hk h1 h2 U E=>by
        obtain⟨fn,tm,K7,bd,Y,e2⟩:=hR (n+k) F BQ W x vs hk h1 h2 (wy k x U) E;refine⟨fn,tm,K7,bd,Y,RoundIn.mono e2 ?_⟩
        rintro e W' ⟨b,F',g1,g2,g3,g4,g5,g6,g7,aKz⟩
        refine⟨b,F',g1,g2,g3,g4,g5,g6,g7,?_⟩;grind) hB (λb hb=>hb)
       ⟨λh o ho=>by simp at ho,λh h' o o' g Y=>by simp at Y,I.fb,λb hb=>hb,I.nH⟩ Mo hj
      have:=jG (a:=a) (w:=W) (P:=P) (An:=λv W'=>∃b F',v= .bool b/\(∀c,F c->F' c)/\(∀c,F' c->F c\/¬BQ c)/\(∀c,F' c->c<W'.heap.size)/\W.heap.size<=W'.heap.size/\
       (∀c,F c->W'.heap[c]? =W.heap[c]?)/\(∀c,BQ c->W'.heap[c]? =W.heap[c]?)/\Bf ((if b then some ys.length else none).map (n+·)) F' BQ W') (rn (Bb:= #[]) Ff rfl nT) (by
        rw[Array.append_empty];exact(callsIn_wide.1 Rn).mono λe W' ⟨b,F',he,r⟩=>⟨.bool b,he,b,F',rfl,r⟩)
      refine this Kn Q λv W' hv=>?_;obtain⟨b,F',rfl,f1,f2,f3,f4,f5,f6,QK⟩:=hv;rw[Pg];refine hK _ _ _ (oE.turned N2 I hf hN SZ hB f1 f2 f3 f4 f5 f6 QK (dst:=d.dst) (v:= .bool b) (λt ht=>by grind) (.aV (.bool b))) ?_;grind
     |_=>simp[Pw,Up]at DU
    |_=>simp[Pw,Up]at DU
   |_=>rw[Ff]at DU;simp[Pw,Up]at DU
  replace h:(aB C d.op s).pre/\Kd (s.put d.dst (aB C d.op s),k):=by simp_all
  obtain⟨F,BQ,σ,rl,hj⟩:=hc.start;obtain⟨K',F1,N0,EP,I,hf,hN,mQ,AD,Bl⟩:=rl;refine nv (.inl rfl) ?_;have:=apO (P:=P) (K:=K') hC I hf (o:=o) rfl DU h.1;refine this Kn Q λv w' JF=>?_;obtain⟨F',Be,h1,h2,h3,h4⟩:=JF;rw[Pg];refine hK _ _ _ (oE.C_ (Bc:=σ) (BW:=s.B) hJ hj ?_) h.2;rw[aiF];exact wE.put EP hf hN mQ AD Bl (λt ht=>by simp_all) h1 h2 h3 h4
 |some ys=>
  simp only[hy]at h;obtain⟨n,hn,U,lw,ht,Eo⟩:=h;subst hn;cases Z:d.op with
  |oD g gs=>
   rw[Z]at DU hy;simp only[AE]at hy;cases JF:g.ev s.R with
   |P9 l'=>
    simp only[JF]at hy;split at hy
    .rename_i e;subst e;injection hy with hy;subst hy;obtain⟨F,BQ,K',σ,N2,I,hf,hN,SZ,hB,hj⟩:=hc;cases Ff:o.op with
     |call cl=>
      rw[Ff]at DU;obtain⟨E_,args,ts⟩:=cl;cases E_ with
      |value x=>
       have Vr:cK x g=true/\fY args.toList gs=true:=by cases x<;>simpa[Pw,Up]using DU
       have hv:=aD hf Vr.1;rw[JF]at hv;have lW:=lX hf Vr.2;have Mo:dX (aC F none_ [] W) (gs.map (·.ev s.R)) (args.map a.eval).toList:=⟨lW.1,λj d Z=>by obtain⟨u,hu,E⟩:=lW.2 j d Z;grind[acI,BE,ed]⟩
       obtain⟨fn,tm,K7,bd,hyl,yx⟩:=hR n F BQ W _ _ hj I.fb hB U Mo;rw[Array.toArray_toList]at hyl;refine⟨λ_ _=>trivial,?_⟩;have Y:o.semAt (Fw none).round a.eval=execOp a.eval o:=rfl;rw[Y,atN Ff hv.aiD,hyl,Oper.uponIn_round];refine⟨λh=>by simp[Fw,Fence.wide]at h,RoundIn.mono (show RoundIn Fence.wide 0 P l' fn tm K7 bd W _ from yx) ?_⟩
       rintro e W' ⟨b,F',rfl,f1,f2,f3,f4,f5,f6,QK⟩
       obtain⟨yr,wO⟩:=I.turn (K':=λb=>K' b\/(W.heap.size<=b/\b<W'.heap.size)) (F':=F') f4 f5 (λb hb hk=>f6 b (V2 λh=>hk (N2 b hb h))) f1
        (λc hc=>(f2 c hc).imp id λh=>by grind) (λb hb=>hb.imp id (·.1)) f3 (λb hb=>hb.elim (λh=>by have:=I.kb b h;omega) (·.2))
       have aAS:∀{ds:List Deferred},Marks (λb=>¬BQ b) K' F W ds->Marks (λb=>¬BQ b) (λb=>K' b\/(W.heap.size<=b/\b<W'.heap.size)) F' W' ds:=by
        intro ds;induction ds with
        |nil=>intro _;trivial
        |cons d ds ih=>
         rintro⟨⟨D,h1,h2,h3,h4,h5,h6⟩,h7⟩
         have T4:BQ D:=V2 h5;exact⟨⟨D,h1,.inl h2,λh=>(f2 D h).elim h3 (λh=>h T4),(f6 D T4).trans h4,h5,h6⟩,ih h7⟩
       have fin:∀(v:J) (u:Value),aC F' σ s.B W' v u->oE N Bf (s.put d.dst ⟨True,v,s.B⟩,if b then some (n+1)else none) (a.put o.dst u) W':=by
        intro v u D_;refine⟨F',BQ,λb=>K' b\/(W.heap.size<=b/\b<W'.heap.size),σ,λc h1 h2=>?_,?_,?_,?_,?_,λc hc=>Ef (hB c hc) f4,QK⟩
        .grind
        .cases d.dst<;>exact yr
        .rw[Pg];have:=hf.put wO (dst:=d.dst) (λt ht=>by simp_all) D_;generalize d.dst=dd at this|-;cases dd<;>exact this
        all_goals grind[Act.put]
       cases b with
       |true=>exact hK _ _ _ (fin (.bool true) (.bool true) (.aV (.bool true))) ht
       |false=>exact hK _ _ _ (fin (.bool false) (.bool false) (.aV (.bool false))) Eo
      |_=>simp[Pw,Up]at DU
     |_=>rw[Ff]at DU;simp[Pw,Up]at DU
    .cases hy
   |_=>simp[JF]at hy
  |_=>simp[Z,AE]at hy
theorem oE.put [Inhabited Env]{s:SI}{a:Act}{W:World}(hc:oE N Bf s a W){dst:BI}(mP:∀t,dst=some t->t<N){d:J}{v:Value}(hv:∀F σ B w,aC F σ B w d v):oE N Bf (s.1.put dst ⟨True,d,s.1.B⟩,s.2) (a.put dst v) W:=by
 obtain⟨F,BQ,K',σ,hK,I,hf,hN,SZ,hB,hj⟩:=hc;refine⟨F,BQ,K',σ,hK,?_,?_,?_,?_,hB,hj⟩
 .cases dst<;>exact I
 .have:=hf.put (.refl F σ s.1.B W) (dst:=dst) (λt ht=>by simp_all) (hv F σ s.1.B W);cases dst<;>exact this
 .cases dst<;>simp[Act.put,hN]
 .cases dst<;>exact SZ
theorem acL [Inhabited Env](hC:C.ok P)(hJ:yh Bf)(hR:AF P l xs Bf){ops:Array Oper}{o:Oper}{d:af}(hm:Ku P N ops o d=true){s:SI}{a:Act}{W:World}(hc:oE N Bf s a W){Kd:SI->Prop}{Kn:Act->World->Prop}{Q:Exit->Act->World->Prop}
 (hK:∀s' a' w',oE N Bf s' a' w'->Kd s'->Kn a' w') (h:HA C l xs d s Kd):
 if Region.wanted o (yielded ops a.tmps)=true then o.wpIn (Fw none) 0 P a W Kn Q else Kn (a.put o.dst undef) W:=by
 have AZ:=hm;simp only[Ku,ab,ir]at hm;obtain⟨⟨⟨DU,Pg⟩,mP⟩,hg⟩:=hm;have skip:Kd (s.1.put d.dst ⟨True,.b9 [],s.1.B⟩,s.2)->Kn (a.put o.dst undef) W:=by intro hk;rw[Pg];exact hK _ _ _ (hc.put (λt ht=>by simp_all) λF σ B w=> .b9 [] #[] rfl (λ_=>undef) (λj d Z=>by simp at Z) (λj d Z=>by simp at Z)) hk
 unfold HA at h;cases Ph:d.guard with
 |none=>
  rw[Ph]at h hg;have ho:o.guard=none:=by grind[HB]
  rw[gr (by simp[Region.wanted,ho])];exact asS hC hJ hR AZ hc hK h
 |some gb=>
  obtain⟨t,b⟩:=gb;rw[Ph]at h hg;cases hh:o.guard with
  |none=>rw[hh]at hg;simp[HB]at hg
  |some x=>
   obtain⟨j,b'⟩:=x;rw[hh]at hg;simp only[HB,ab,ir,GO]at hg;obtain⟨ht,rfl⟩:=hg;have hf:=hc.choose_spec.choose_spec.choose_spec.choose_spec.2.2.1;obtain⟨y1,y2⟩:=apP hf ht;dsimp only at h;cases Ud:get t s.1.R with
   |bool c=>
    simp only[Ud]at h;have hy:=y1 c Ud;simp only[Region.wanted,hh,hy];by_cases hcb:c=b'
    .subst hcb;simp only[Bp]at h;rw[gr (by simp)];exact asS hC hJ hR AZ hc hK h
    grind
   |b9 vs=>
    cases vs with
    |nil=>
     simp only[Ud]at h;have hy:=y2 Ud;simp only[Region.wanted,hh,hy];grind
    |cons=>simp_all
   |_=>simp only[Ud]at h
theorem asU [Inhabited Env](hC:C.ok P)(hJ:yh Bf)(hR:AF P l xs Bf){ops:Array Oper}{Q:Exit->Act->World->Prop}{Kd:SI->Prop}(hK:∀s' a' w',oE N Bf s' a' w'->Kd s'->Q .normal a' w'):∀{ol:List Oper} {dl:List af} {s:SI} {a:Act} {w:World},
 yi P N ops ol dl=true->oE N Bf s a w->nW C l xs dl s Kd->wpListIn (Fw none) 0 P ops Q ol a w
 |[],[],s,a,w,_,hc,h=>hK s a w hc h
 |o::ol,d::dl,s,a,w,hm,hc,h=>by
  simp only[yi,ab]at hm;have:=acL hC hJ hR hm.1 hc (Kn:=wpListIn (Fw none) 0 P ops Q ol) (Q:=Q) (λs' a' w' kX h'=>asU hC hJ hR hK hm.2 kX h') h;unfold wpListIn;split at this
  .simp_all
  next hw=>rw[ba hw];exact⟨λ_ _=>trivial,this⟩
 |[],_::_,_,_,_,hm,_,_=>by simp[yi]at hm
 |_::_,[],_,_,_,hm,_,_=>by simp[yi]at hm
theorem jf [Inhabited Env](hC:C.ok P)(hJ:yh Bf)(hR:AF P l xs Bf):∀(dc:aq) (c:Code) (Q:cA->SI->Prop) (s:SI) (a:Act) (w:World),fw P N c dc=true->jK C l xs dc Q s->oE N Bf s a w->Code.wpIn (Fw none) 0 P c (aDJ N Bf Q) a w
 | .skip,cc,Q,s,a,w,hm,h,hc=>by
   cases cc with
   |skip=>exact wpIn_skip ⟨s,hc,h⟩
   |label l=>exact wpIn_label ⟨s,hc,h⟩
   |_=>exact(Cb hm).elim
 | .ops yw dl,cc,Q,s,a,w,hm,h,hc=>by
   cases cc with
   |region qH ops draw=>
    simp only[fw,ab,GO]at hm;obtain⟨rfl,hm⟩:=hm;cases draw with
    |false=>exact wpIn_region_list (asU hC hJ hR (λs' a' w' kX h'=>⟨s',kX,h'⟩) (by simp_all) hc h)
    |true=>
     obtain⟨s,k⟩:=s;obtain⟨F,BQ,σ,rl,hj⟩:=hc.start;refine oS hC (.inl rfl) (hZ:=[]) (by simpa using hm) (λs' a' w' kX h'=>⟨(s',k),oE.C_ hJ hj kX,h'⟩) rl (λp B=>by simp at B) ?_;rw[CQ];exact h
   |_=>exact(Cb hm).elim
 | .Km dl,cc,Q,s,a,w,hm,h,hc=>by
   cases cc with
   |region qH ops draw=>
    simp only[fw,ab]at hm;obtain⟨rfl,hm⟩:=hm;obtain⟨s,k⟩:=s;obtain⟨F,BQ,σ,rl,hj⟩:=hc.start;exact oS hC (.inl rfl) hm (λs' a' w' kX h'=>⟨(s',k),oE.C_ hJ hj kX,h'⟩) rl (λp B=>by simp at B) h
   |_=>exact(Cb hm).elim
 | .seq x' y',cc,Q,s,a,w,hm,h,hc=>by
   cases cc with
   |seq x y=>
    simp only[fw,ab]at hm;refine wpIn_seq (wpIn_mono (jf hC hJ hR x' x _ s a w hm.1 h hc) λe a' w' hq=>?_);cases e with
    |normal=>obtain⟨s',kX,h'⟩:=hq;exact jf hC hJ hR y' y Q s' a' w' hm.2 h' kX
    |exit id=>obtain⟨s',kX,h'⟩:=hq;exact⟨s',kX,h'⟩
    |ret=>obtain⟨s',kX,h'⟩:=hq;exact⟨s',kX,h'⟩
    |goto l=>exact hq.elim
    |panic c=>exact hq.elim
    |outgrown=>exact hq.elim
   |_=>exact(Cb hm).elim
 | .cond c' x' y',cc,Q,s,a,w,hm,h,hc=>by
   cases cc with
   |cond c x y=>
    simp only[fw,ab]at hm;have hf:=hc.choose_spec.choose_spec.choose_spec.choose_spec.2.2.1;have hv:=aD hf hm.1.1;simp only[jK]at h;cases he:c'.ev s.1.R with
    |bool t=>
     rw[he]at hv;simp only[he]at h;exact wpIn_cond_split hv.jF (λht=>jf hC hJ hR x' x Q s a w hm.1.2 (h.1 ht) hc) (λht=>jf hC hJ hR y' y Q s a w hm.2 (h.2 ht) hc)
    |Hy=>
     rw[he]at hv;simp only[he]at h;obtain⟨b,hb⟩:=hv.acM;exact wpIn_cond_split hb (λ_=>jf hC hJ hR x' x Q s a w hm.1.2 h.1 hc) (λ_=>jf hC hJ hR y' y Q s a w hm.2 h.2 hc)
    |_=>simp only[he]at h
   |_=>exact(Cb hm).elim
 | .block GP c',cc,Q,s,a,w,hm,h,hc=>by
   cases cc with
   |block id c=>
    simp only[fw,ab,GO]at hm;obtain⟨rfl,hm⟩:=hm;refine wpIn_block (wpIn_mono (jf hC hJ hR c' c _ s a w hm h hc) λe a' w' hq=>?_);cases e with
    |normal=>obtain⟨s',kX,h'⟩:=hq;exact⟨s',kX,h'⟩
    |exit k=>
     obtain⟨s',kX,h'⟩:=hq;simp only[wi]at h';simp only[Exit.inBlock];split at h'
     next e=>rw[gr e];exact⟨s',kX,h'⟩
     next e=>rw[ba e];exact⟨s',kX,h'⟩
    |ret=>obtain⟨s',kX,h'⟩:=hq;exact⟨s',kX,h'⟩
    |goto l=>exact hq.elim
    |panic c=>exact hq.elim
    |outgrown=>exact hq.elim
   |_=>exact(Cb hm).elim
 | .loop live m c',cc,Q,s,a,w,hm,h,hc=>by
   cases cc with
   |loop c=>
    simp only[fw]at hm;simp only[jK]at h;obtain⟨Bo,μ,h0,E⟩:=h;have T0:∀{s:SI} {a:Act} {w:World},oE N Bf s a w->oE N Bf (s.1.cut live m,s.2) a w:=by
     rintro⟨s,k⟩ a w ⟨F,BQ,K',σ,hK,I,hf,hN,SZ,hB,hj⟩
     have U:Sr (λb=>b<w.heap.size/\¬BQ b) N F none_ [] w K' F σ s a w:=⟨λb hb=>hK b hb.1 hb.2,I,hf,hN,SZ.base λD _ h1 h2=>h1 h2.2,.refl _ _ _,AZ⟩;obtain⟨_,h2,h3,h4,_⟩:=U.cut live m (by grind);exact⟨F,BQ,K',σ,hK,h2,h3,h4,SZ,hB,hj⟩
    refine wpIn_loop_ghost (λi a w=>∃s',oE N Bf s' a w/\Bo s'/\μ s'=i) (μ (s.1.cut live m,s.2)) ⟨_,T0 hc,h0,rfl⟩ λi a w hI=>?_;obtain⟨s',kX,zl,rfl⟩:=hI;refine wpIn_mono (jf hC hJ hR c' c _ s' a w hm (E s' zl) kX) λe a' w' hq=>?_;cases e with
    |normal=>
     obtain⟨WB,zm,N4⟩:=hq;exact⟨_,N4.2,_,T0 zm,N4.1,rfl⟩
    |exit id=>obtain⟨s',kX,h'⟩:=hq;exact⟨s',kX,h'⟩
    |ret=>obtain⟨s',kX,h'⟩:=hq;exact⟨s',kX,h'⟩
    |goto l=>exact hq.elim
    |panic c=>exact hq.elim
    |outgrown=>exact hq.elim
   |_=>exact(Cb hm).elim
 | .exit GP,cc,Q,s,a,w,hm,h,hc=>by
   cases cc with
   |exit id=>
    simp only[fw,GO]at hm;subst hm;exact wpIn_exit ⟨s,hc,h⟩
   |_=>exact(Cb hm).elim
 | .ret,cc,Q,s,a,w,hm,h,hc=>by
   cases cc with
   |ret=>exact wpIn_ret ⟨s,hc,h⟩
   |_=>exact(Cb hm).elim
 | .Pu ..,_,_,_,_,_,_,h,_=>h.elim
 | .CK ..,_,_,_,_,_,_,h,_=>h.elim
 | .scope ..,_,_,_,_,_,_,h,_=>h.elim
 | .sH ..,_,_,_,_,_,_,h,_=>h.elim
 | .JC ..,_,_,_,_,_,_,h,_=>h.elim
 | .bad,_,_,_,_,_,_,h,_=>h.elim
 | .cut ..,_,_,_,_,_,_,h,_=>h.elim
def T5(m:Nat):cA->SI->Prop
 | .exit _,_=>False
 |_,s=>s.2=none\/s.2=some m
theorem Zg [Inhabited Env](hJ:yh Bf){fn:Func}{s:SI}{tm:Array Value}{An:Ending->World->Prop}
 (h:∀w',oE fn.ntmps Bf s {tmps:=tm,defers:=[]} w'->∃v,(results fn tm).run P w'= .ok v w'/\An (.returned v) w'):
 ∀(ds:List Deferred) (w':World),oE fn.ntmps Bf s {tmps:=tm,defers:=ds} w'->LeavesInM Fence.wide 0 P fn tm An ds .returning w'
 |[],w',hc=>h w' hc
 |d::ds,w',hc=>by
  obtain⟨F,BQ,K',σ,hK,I,hf,hN,SZ,hB,hj⟩:=hc;obtain⟨⟨D,rfl,kD,fD,hD,k0,zp⟩,Yl⟩:=SZ;refine⟨by simp,.inl ⟨D,_,rfl,run_takeDeferred hD,Zg hJ h ds _ ?_⟩⟩;have T4:BQ D:=V2 k0;have nX:∀b,b≠D->(w'.putObj D (.deferred none)).heap[b]? =w'.heap[b]? :=λb hb=>World.putObj_heap_other hb;obtain⟨s1,m1⟩:=I.turn (K':=K') (F':=F) (w':=w'.putObj D (.deferred none)) (by simp) (λb hb=>nX b λe=>fD (e▸hb)) (λb _ hb=>nX b λe=>hb (e▸kD)) (λ_ h=>h) (λ_ h=> .inl h) (λ_ h=> .inl h)
   (λb hb=>by simpa using I.fb b hb) (λb hb=>by simpa using I.kb b hb)
  exact⟨F,BQ,K',σ,λb h1 h2=>hK b (by simp_all) h2,s1,λn=>(hf n).mono m1,hN,Yl.put zp,λb hb=>by simp_all,
   hJ _ F BQ w' F BQ _ hj ⟨rfl,rfl,rfl,by simp,λb _ hb=>nX b λe=>hb (e▸T4),λb hb=>nX b λe=>fD (e▸hb),λ_ h=>h,λ_ h=> .inl h,λ_ h=> .inl h,λb hb=>by simpa using I.fb b hb,λb hb=>by simp_all⟩⟩
theorem asW [Inhabited Env](hC:C.ok P){f:FuncId}{d:ay}{Bb:Ab}{xs:List Ab}(hm:mT P f (Bb.length+1) d=true)(Kp:d.res=[])
 (h:∀l,jK C l xs d.code (T5 xs.length) (⟨aO 0 (.P9 l::(kv Bb).1),(kv Bb).2⟩,some 0)):iX P f=true/\Zd P f Bb xs:=by
 obtain⟨nT,fn,c,hf,hb,hn,hc,E⟩:=wg hm;refine⟨nT,λl Bf F BQ σI W cv hJ hR hB I Sx hj=>?_⟩;rw[<-anB Bb]at hn;have ha:dX (aC F σI (kv Bb).2 W) (.P9 l::(kv Bb).1) (#[Value.func (.yield l) #[] #[]]++cv).toList:=by rw[Array.toList_append];exact .iC (.aV (.P9 l)) (by simp_all)
 obtain⟨K',F1,N0,EP,mU,hf1,hN1,Kj,_,_⟩:=zD (nt:=fn.ntmps) I ha (by omega);have rl:oE fn.ntmps Bf (⟨aO 0 (.P9 l::(kv Bb).1),(kv Bb).2⟩,some 0) {tmps:=(#[Value.func (.yield l) #[] #[]]++cv)++Array.replicate (fn.ntmps-(#[Value.func (.yield l) #[] #[]]++cv).size) undef,defers:=[]} W:=by refine⟨F,BQ,_,σI,λb h1 h2=>⟨h1,h2⟩,I,?_,hN1,trivial,hB,hj⟩;grind[zD,CR]
 refine callsIn_of_wp_marks (F:=Fence.wide) (n:=0) hf hb trivial (wpIn_mono (show c.wpIn Fence.wide 0 P _ _ W from jf hC hJ hR d.code c _ _ _ W hc (h l) rl) ?_);have key:∀(s:SI) (a:Act) (w':World),oE fn.ntmps Bf s a w'->(s.2=none\/s.2=some xs.length)->LeavesInM Fence.wide 0 P fn a.tmps (λe W'=>(∃v,e= .returned v)/\∃F' B' k,Bf k F' B' W'/\(k=none\/k=some xs.length)) a.defers .returning w':=by
  rintro s ⟨tm,ds⟩ w' U hq
  refine Zg hJ (λKh kX=>?_) ds w' U;obtain⟨F',B',K',σ,hK,yr,Eo,hN',SZ,yY,QK⟩:=kX;rw[Kp]at E;obtain⟨v,hv,_⟩:=Kr (ys:=[]) yr Eo E trivial;grind
 intro e a w' hq;cases e with
 |normal=>obtain⟨s,hc,h1⟩:=hq;exact key s a w' hc h1
 |ret=>obtain⟨s,hc,h1⟩:=hq;exact key s a w' hc h1
 |exit id=>obtain⟨s,hc,h0⟩:=hq;exact h0.elim
 |goto l=>exact hq.elim
 |panic c=>exact hq.elim
 |outgrown=>exact hq.elim
def r9:J->BI->Nat->Prop
 | .bool true,k,m=>k=some m
 | .bool false,k,_=>k=none
 |_,_,_=>False
def Zq(rs:List DR)(m:Nat):cA->SI->Prop
 | .exit _,_=>False
 |_,s=>(aS s.1 rs).1/\r9 (aS s.1 rs).2 s.2 m
theorem ali [Inhabited Env](hC:C.ok P){f:FuncId}{d:ay}{args:Ab}{ys:List Ab}(hm:mT P f args.length d=true)
 (h:∀l,jK C l ys d.code (Zq d.res ys.length) (⟨aO 0 (args.map (J.SF l)),[]⟩,some 0)):iX P f=true/\Ze P f args ys:=by
 obtain⟨nT,fn,c,hf,hb,hn,hc,E⟩:=wg hm;refine⟨nT,λl Bf K F BQ W cv hJ hR hB hK I Sx hj=>?_⟩;obtain⟨J',F_⟩:∃J':BI->(Nat->Prop)->(Nat->Prop)->World->Prop,J'=λk F1 B1 W1=>(∀b,B1 b->W.heap.size<=b)/\(∀c,F c->F1 c)/\(∀c,F1 c->F c\/¬BQ c)/\W.heap.size<=W1.heap.size/\
  (∀c,F c->W1.heap[c]? =W.heap[c]?)/\(∀c,BQ c->W1.heap[c]? =W.heap[c]?)/\Bf k F1 (λb=>BQ b\/B1 b) W1:=⟨_,rfl⟩
 have hJ':yh J':=by
  subst F_
  rintro k F1 B1 W1 F2 B2 aKA ⟨g1,g2,g3,g4,g5,g6,g7⟩ st
  have gB:∀b,BQ b->b<W1.heap.size/\¬B1 b:=λb hb=>⟨Ef (hB b hb) g4,λh=>absurd (g1 b h) (by grind)⟩;refine⟨λb hb=>?_,λc hc=>st.mono c (g2 c hc),λc hc=>?_,D0 g4 st.size,λc hc=>(st.ck c (g2 c hc)).trans (g5 c hc),λc hc=>(st.heap c (gB c hc).1 (gB c hc).2).trans (g6 c hc),hJ _ _ _ _ _ _ _ g7 ?_⟩
  .rcases st.own b hb with h|h<;>grind
  .rcases st.new c hc with h|h|h<;>grind
  .refine⟨st.os,st.tape,st.output,st.size,λb h1 h2=>st.heap b h1 λh=>h2 (.inr h),st.ck,st.mono,λb hb=>?_,λb hb=>?_,st.fb,λb hb=>?_⟩
   .rcases st.new b hb with h|h|h<;>simp_all
   .rcases hb with h|h
    .simp_all
    .rcases st.own b h with h|h<;>simp_all
   .rcases hb with h|h
    .exact Ef (gB b h).1 st.size
    .exact st.bb b h
 have hR':AF P l ys J':=by
  subst F_
  rintro k F1 B1 W1 x vs ⟨g1,g2,g3,g4,g5,g6,g7⟩ Zu xC U hv
  obtain⟨fn,tm,K7,bd,hy,yZ⟩:=hR k F1 _ W1 x vs g7 Zu (λb hb=>hb.elim (λh=>Ef (hB b h) g4) (xC b)) U hv;refine⟨fn,tm,K7,bd,hy,RoundIn.mono yZ ?_⟩;grind
 have h0:J' (some 0) F (λ_=>False) W:=by simp_all
 have hlen:(args.map (J.SF l)).length=args.length:=Pe _;have rl:oE fn.ntmps J' (⟨aO 0 (args.map (J.SF l)),[]⟩,some 0) {tmps:=cv++Array.replicate (fn.ntmps-cv.size) undef,defers:=[]} W:=
  ⟨F,λ_=>False,K,none_,λb h1 _=>hK b h1,I,CR Sx (by omega),by have h1:=Sx.1;simp_all,trivial,λb h=>h.elim,h0⟩
 refine callsIn_of_wp_marks (F:=Fence.wide) (n:=0) hf hb trivial (wpIn_mono (show c.wpIn Fence.wide 0 P _ _ W from jf hC hJ' hR' d.code c _ _ _ W hc (h l) rl) ?_);have key:∀(s:SI) (a:Act) (w':World),oE fn.ntmps J' s a w'->((aS s.1 d.res).1/\r9 (aS s.1 d.res).2 s.2 ys.length)->LeavesInM Fence.wide 0 P fn a.tmps (λe W'=>∃b F',e= .returned (.bool b)/\(∀c,F c->F' c)/\(∀c,F' c->F c\/¬BQ c)/\(∀c,F' c->c<W'.heap.size)/\W.heap.size<=W'.heap.size/\
  (∀c,F c->W'.heap[c]? =W.heap[c]?)/\(∀c,BQ c->W'.heap[c]? =W.heap[c]?)/\Bf (if b then some ys.length else none) F' BQ W') a.defers .returning w':=by
  rintro s ⟨tm,ds⟩ w' U hq
  refine Zg hJ' (λKh kX=>?_) ds w' U;obtain⟨F',B',K',σ,hK,yr,Eo,hN',SZ,yY,QK⟩:=kX;obtain⟨v,hv,Ja⟩:=Kr yr Eo E hq.1;obtain⟨b,Mh,Ki⟩:∃b,(aS s.1 d.res).2= .bool b/\s.2=if b then some ys.length else none:=by
   have:=hq.2;generalize (aS s.1 d.res).2=r at this|-;cases r with
   |bool b=>cases b<;>exact⟨_,rfl,this⟩
   |_=>exact this.elim
  rw[Mh]at Ja;have hvb:=Ja.jF;subst hvb;subst F_;obtain⟨g1,g2,g3,g4,g5,g6,g7⟩:=QK;rw[Ki]at g7;exact⟨_,hv,b,F',rfl,g2,g3,yr.fb,g4,g5,g6,hJ _ _ _ _ _ _ _ g7 ⟨rfl,rfl,rfl,By _,λ_ _ _=>rfl,λ_ _=>rfl,λ_ h=>h,λ_ h=> .inl h,λb h=> .inl (.inl h),yr.fb,λb h=>Ef (hB b h) g4⟩⟩
 intro e a w' hq;cases e with
 |normal=>obtain⟨s,hc,h1⟩:=hq;exact key s a w' hc h1
 |ret=>obtain⟨s,hc,h1⟩:=hq;exact key s a w' hc h1
 |exit id=>obtain⟨s,hc,h0⟩:=hq;exact h0.elim
 |goto l=>exact hq.elim
 |panic c=>exact hq.elim
 |outgrown=>exact hq.elim
theorem Ht.mk [Inhabited Env]{ps I is}{f:FuncId}{s:Ab->Prop×List Ab}{d:ay}{n:Nat}(h1:sf P ps)(h2:si P I)(h3:Vb P is)(hm:mT P f (n+1) d=true)(Kp:d.res=[])
 (h:∀Bb l,(s Bb).1->Bb.length=n/\jK (dJ.GU ps I is) l (s Bb).2 d.code (T5 (s Bb).2.length) (⟨(0,.P9 l)::aO 1 (kv Bb).1,(kv Bb).2⟩,some 0)):Ht P f s:=by
 intro a ha;have e:=(h a 0 ha).1;exact asW (SV h1 h2 h3) (by simp_all) Kp λl=>(h a l ha).2
end
end Go.Nk
set_option linter.all false
namespace Go.Nk
section
variable {C:dJ} {l:Nat} {xs:List Ab} {Q:cA->SI->Prop} {s:DS} {k:BI}
theorem alj:jK C l xs .skip Q (s,k)=Q .normal (s,k):=rfl
theorem ap4{dl:List af}:jK C l xs (.ops false dl) Q (s,k)=nW C l xs dl (s,k) (Q .normal):=rfl
theorem alk{dl:List af}:jK C l xs (.ops true dl) Q (s,k)=mJ C dl s (λs'=>Q .normal (s',k)):=rfl
theorem alm{dl:List (Nat×af)}:jK C l xs (.Km dl) Q (s,k)=mJ C (dl.map (·.2)) s (λs'=>Q .normal (s',k)):=rfl
theorem ap5{a b:aq}:jK C l xs (.seq a b) Q (s,k)=jK C l xs a (Ks (jK C l xs b Q) Q) (s,k):=rfl
theorem agB{id:Nat}{c:aq}:jK C l xs (.block id c) Q (s,k)=jK C l xs c (wi id Q) (s,k):=rfl
theorem aln{id:Nat}:jK C l xs (.exit id) Q (s,k)=Q (.exit id) (s,k):=rfl
theorem ap6:jK C l xs .ret Q (s,k)=Q .ret (s,k):=rfl
theorem MW{c:DA}{a b:aq}{t:Bool}(h:c.ev s.R= .bool t):jK C l xs (.cond c a b) Q (s,k)=jK C l xs (if t then a else b) Q (s,k):=by simp only[jK,h];grind
theorem agC{c:DA}{a b:aq}(h:c.ev s.R= .bool true):jK C l xs (.cond c a b) Q (s,k)=jK C l xs a Q (s,k):=MW h
theorem agD{c:DA}{a b:aq}(h:c.ev s.R= .bool false):jK C l xs (.cond c a b) Q (s,k)=jK C l xs b Q (s,k):=MW h
theorem agb{c:DA}{a b:aq}{t:Bool}(h:c.ev s.R= .bool t)(ht:t=true->jK C l xs a Q (s,k))(hf:t=false->jK C l xs b Q (s,k)):jK C l xs (.cond c a b) Q (s,k):=by rw[MW h];grind
theorem aDP{next:SI->Prop}:Ks next Q .normal (s,k)=next (s,k):=rfl
theorem agE{next:SI->Prop}{id:Nat}:Ks next Q (.exit id) (s,k)=Q (.exit id) (s,k):=rfl
theorem alo{next:SI->Prop}:Ks next Q .ret (s,k)=Q .ret (s,k):=rfl
theorem aDQ{id:Nat}:wi id Q .normal (s,k)=Q .normal (s,k):=rfl
theorem aDR{id i:Nat}:wi id Q (.exit i) (s,k)=if i=id then Q .normal (s,k)else Q (.exit i) (s,k):=rfl
theorem aDS{id:Nat}:wi id Q .ret (s,k)=Q .ret (s,k):=rfl
theorem acN{m:Nat}:T5 m .normal (s,k)=(k=none\/k=some m):=rfl
theorem ap7{m:Nat}:T5 m .ret (s,k)=(k=none\/k=some m):=rfl
theorem alp{m id:Nat}:T5 m (.exit id) (s,k)=False:=rfl
theorem alq{K:SI->Prop}:nW C l xs [] (s,k) K=K (s,k):=rfl
theorem agF{dst:BI}{op:aT}{r:List af}{K:SI->Prop}:nW C l xs (⟨dst,op,none⟩::r) (s,k) K=wh C l xs dst op (s,k) (λs'=>nW C l xs r s' K):=rfl
theorem acO{dst:BI}{op:aT}{g:Nat}{b:Bool}{r:List af}{K:SI->Prop}(h:get g s.R= .bool b):
 nW C l xs (⟨dst,op,some (g,b)⟩::r) (s,k) K=wh C l xs dst op (s,k) (λs'=>nW C l xs r s' K):=by
 simp only[nW,HA,h,Bp]
theorem acP{dst:BI}{op:aT}{g:Nat}{b:Bool}{r:List af}{K:SI->Prop}(h:get g s.R= .bool (!b)):
 nW C l xs (⟨dst,op,some (g,b)⟩::r) (s,k) K=nW C l xs r (s.put dst ⟨True,.b9 [],s.B⟩,k) K:=by
 simp only[nW,HA,h];simp_all
theorem acQ{dst:BI}{op:aT}{g:Nat}{b:Bool}{r:List af}{K:SI->Prop}(h:get g s.R= .b9 []):
 nW C l xs (⟨dst,op,some (g,b)⟩::r) (s,k) K=nW C l xs r (s.put dst ⟨True,.b9 [],s.B⟩,k) K:=by
 simp only[nW,HA,h]
theorem aDT{dst:BI}{op:aT}{g:Nat}{b:Bool}{r:List af}{K:SI->Prop}{t:Bool}(_:get g s.R= .bool t)
 (ht:t=true->nW C l xs (⟨dst,op,some (g,b)⟩::r) (s,k) K) (hf:t=false->nW C l xs (⟨dst,op,some (g,b)⟩::r) (s,k) K):nW C l xs (⟨dst,op,some (g,b)⟩::r) (s,k) K:=by
 grind
def rE:aT->Bool
 | .oD .. =>false
 | .Bm .. =>false
 |_=>true
theorem alr{dst:BI}{op:aT}{K:SI->Prop}(h:(rE op&&true)=true):wh C l xs dst op (s,k) K=((aB C op s).pre/\K (s.put dst (aB C op s),k)):=by
 have e:AE l s.R op=none:=by cases op<;>first|rfl|simp[rE]at h
 cases op<;>first|(simp only[wh,e];done)|(simp[rE]at h;done)
theorem acR{dst:BI}{f:FuncId}{args:List DA}{n:Nat}{K:SI->Prop}:
 wh C l xs dst (.Bm f args) (s,some n) K=((C.w f ((args.map (·.ev s.R)).map J.Mv)).1/\(args.map (·.ev s.R)).all (SY l)=true/\
  (∀i y,(C.w f ((args.map (·.ev s.R)).map J.Mv)).2[i]? =some y->xs[n+i]? =some y)/\
  K (s.put dst ⟨True,.bool true,s.B⟩,some (n+(C.w f ((args.map (·.ev s.R)).map J.Mv)).2.length))/\K (s.put dst ⟨True,.bool false,s.B⟩,none)):=by
 have e:AE l s.R (.Bm f args)=none:=rfl;simp only[wh,e,GB,exists_eq_left']
theorem als{dst:BI}{g:DA}{args:List DA}{n:Nat}{K:SI->Prop}(h:g.ev s.R= .P9 l):
 wh C l xs dst (.oD g args) (s,some n) K=(xs[n]? =some (args.map (·.ev s.R))/\(args.map (·.ev s.R)).all Zi=true/\K (s.put dst ⟨True,.bool true,s.B⟩,some (n+1))/\K (s.put dst ⟨True,.bool false,s.B⟩,none)):=by
 simp_all[AE,wh,GB,exists_eq_left']
theorem asX{C:dJ}{l:Nat}{xs:List Ab}:∀(c:aq) (Q Q':cA->SI->Prop) (s:SI),(∀e s,Q e s->Q' e s)->jK C l xs c Q s->jK C l xs c Q' s:=by
 have Z:∀(l:List af) (s:DS) (K K':DS->Prop),(∀s,K s->K' s)->mJ C l s K->mJ C l s K':=λl s K K' h hk=>Dz (h0:=0) (.ops false l) (λ_=>K) (λ_=>K') s (λ_=>h) hk;have E:∀(dst:BI) (op:aT) (s:SI) (K K':SI->Prop),(∀s,K s->K' s)->wh C l xs dst op s K->wh C l xs dst op s K':=by intro dst op s K K' h hk;unfold wh at hk|-;split at hk<;>grind
 have hdI:∀(dl:List af) (s:SI) (K K':SI->Prop),(∀s,K s->K' s)->nW C l xs dl s K->nW C l xs dl s K':=by
  intro dl;induction dl with
  |nil=>intro s K K' h hk;exact h _ hk
  |cons o r ih=>
   intro s K K' h hk;unfold nW HA at hk|-;split at hk<;>grind
 intro c;induction c with
 |skip=>intro Q Q' s h hq;exact h _ _ hq
 |ops d dl=>intro Q Q' s h hq;cases d with
  |false=>exact hdI dl s _ _ (h .normal) hq
  |true=>exact Z dl s.1 _ _ (λs'=>h .normal (s',s.2)) hq
 |Km dl=>intro Q Q' s h hq;exact Z _ s.1 _ _ (λs'=>h .normal (s',s.2)) hq
 |seq a b ZD ZE=>
  intro Q Q' s h hq;refine ZD _ _ s (λe s' hh=>?_) hq;cases e with
  |normal=>exact ZE _ _ s' h hh
  |exit id=>exact h _ _ hh
  |ret=>exact h _ _ hh
 |cond x a b ZD ZE=>
  grind[jK]
 |block id c ih=>
  intro Q Q' s h hq;refine ih _ _ s (λe s' hh=>?_) hq;cases e with
  |normal=>exact h _ _ hh
  |exit k=>
   simp only[wi]at hh|-;grind
  |ret=>exact h _ _ hh
 |loop live m c ih=>
  intro Q Q' s h hq;obtain⟨Bo,μ,h2,h3⟩:=hq;refine⟨Bo,μ,h2,λs' yr=>ih _ _ s' (λe WB hh=>?_) (h3 s' yr)⟩;cases e with
  |normal=>exact hh
  |exit id=>exact h _ _ hh
  |ret=>exact h _ _ hh
 |exit id=>intro Q Q' s h hq;exact h _ _ hq
 |ret=>intro Q Q' s h hq;exact h _ _ hq
 |Pu hZ dl=>intro Q Q' s h hq;exact hq.elim
 |CK t off z c ih=>intro Q Q' s h hq;exact hq.elim
 |scope c ih=>intro Q Q' s h hq;exact hq
 |sH live m g ps K7 c o5 ih=>intro Q Q' s h hq;exact hq.elim
 |JC c ih=>intro Q Q' s h hq;exact hq.elim
 |bad=>intro Q Q' s h hq;exact hq.elim
 |cut live m c ih=>intro Q Q' s h hq;exact hq.elim
theorem alu{live:List Nat}{m:BI}{c:aq}{α:Type}(st:α->SI)(Inv:α->Prop)(μ:α->Nat)(a0:α)
 (I:(s.cut live m,k)=st a0) (hi:Inv a0)
 (step:∀a,Inv a->jK C l xs c (Ks (λs'=>∃a',(s'.1.cut live m,s'.2)=st a'/\Inv a'/\μ a'<μ a) Q) (st a)):jK C l xs (.loop live m c) Q (s,k):=by
 classical
 let has:SI->Nat->Prop:=λs n=>∃a,s=st a/\Inv a/\μ a=n;have AA:∀s:SI,∃k,(∃n,has s n)->has s k/\∀m,has s m->k<=m:=by
  intro s;by_cases U:∃n,has s n
  .obtain⟨n,hn⟩:=U;induction n using Nat.strongRecOn with
   |_ n ih=>
    by_cases hy:∃m,m<n/\has s m
    .obtain⟨m,h1,h2⟩:=hy;exact ih m h1 h2
    .exact⟨n,λ_=>⟨hn,λm hm=>by grind⟩⟩
  simp_all
 obtain⟨least,AA⟩:=Classical.axiomOfChoice AA;refine⟨λs=>∃n,has s n,least,⟨μ a0,a0,I,hi,rfl⟩,λs' yr=>?_⟩;have hl:has s' (least s'):=(AA s' yr).1;obtain⟨a,rfl,h1,h2⟩:=hl;refine asX c _ _ _ (λe WB hh=>?_) (step a h1);cases e with
 |normal=>
  obtain⟨a',Y,e2,e3⟩:=hh;have U:∃n,has (WB.1.cut live m,WB.2) n:=⟨μ a',a',Y,e2,rfl⟩;refine⟨U,?_⟩;have:least (WB.1.cut live m,WB.2)<=μ a':=(AA _ U).2 _ ⟨a',Y,e2,rfl⟩;omega
 |exit id=>exact hh
 |ret=>exact hh
theorem asZ{live:List Nat}{m:BI}{c:aq}{α σ:Type}(li:List α)(st:Nat->σ->SI)(An:Nat->List α->σ->Prop)(a0:σ)
 (I:(s.cut live m,k)=st 0 a0) (hi:An 0 li a0)
 (step:∀k x r a,k<li.length->li[k]? =some x->li.drop k=x::r->An k (x::r) a->jK C l xs c (Ks (λs'=>∃a',(s'.1.cut live m,s'.2)=st (k+1) a'/\An (k+1) r a') Q) (st k a))
 (last:∀k a,k=li.length->An k [] a->jK C l xs c (Ks (λ_=>False) Q) (st k a)):jK C l xs (.loop live m c) Q (s,k):=by
 refine alu (λx:Nat×σ=>st x.1 x.2) (λx=>x.1<=li.length/\An x.1 (li.drop x.1) x.2) (λx=>li.length-x.1) (0,a0) I ⟨AI _,hi⟩ λx U=>?_;obtain⟨k,a⟩:=x;obtain⟨hk,E⟩:=U;simp only at hk E|-;by_cases d:k<li.length
 .obtain⟨x,Y,e2⟩:=eE li d;rw[e2]at E;refine asX c _ _ _ (λe s' hh=>?_) (step k x _ a d Y e2 E);cases e with
  |normal=>
   obtain⟨a',h1,h2⟩:=hh;exact⟨(k+1,a'),h1,⟨d,h2⟩,by omega⟩
  |exit id=>exact hh
  |ret=>exact hh
 grind
end
section
variable {C:dJ} {h0:Nat} {Q:cA->DS->Prop} {s:DS}
theorem DB{live:List Nat}{m:BI}{g:DA}{ps:List Nat}{K7 c:aq}{f:FuncId}{Bb:Ab}{ys:List Ab}{α σ:Type}(xs:List α)(enc:α->Ab)(Vs:Nat->σ->List ae)(An:Nat->List α->σ->Prop)(a0:σ)(rI:List (Nat×J))
 (hm:match m with|some k=>h0<=k|none=>True) (hg:g.ev s.R= .Bg f Bb) (hc:Bb.all J.bl=true) (hi:C.i f Bb=(True,ys)) (N8:ys=xs.map enc)
 (I:s.cut live m=⟨rI,Vs 0 a0⟩) (G_:An 0 xs a0)
 (step:∀k x r a,xs[k]? =some x->xs.drop k=x::r->An k (x::r) a->(enc x).length=ps.length/\
  gP C (Vs k a).length K7 (cA.only λs1=>gP C s1.B.length c (cA.then (λs'=>∃a',(s'.cut [] m).B=Vs (k+1) a'/\An (k+1) r a') (λe s'=>Q e ⟨rI,s'.B⟩)) s1) ⟨ps.zip (enc x)++rI,Vs k a⟩)
 (last:∀k a,k=xs.length->An k [] a->Q .normal ⟨rI,Vs k a⟩):gP C h0 (.sH live m g ps K7 c) Q s:=by
 subst N8;refine⟨hm,?_⟩;simp only[hg,amN _ _ hc,hi,Bt,I];refine⟨λk B=>k<=xs.length/\∃a,B=Vs k a/\An k (xs.drop k) a,⟨AI _,a0,rfl,G_⟩,?_,?_⟩
 .rintro k y B ⟨hk,a,rfl,E⟩ hy
  rw[M9]at hy;cases U:xs[k]? with
  |none=>simp_all
  |some x=>
   simp only[U,Ka,GB]at hy;subst hy;have mP:k<xs.length:=(pc.1 U).1;have e2:xs.drop k=x::xs.drop (k+1):=by rw[Hk mP,(pc.1 U).2]
   rw[e2]at E;obtain⟨h1,h2⟩:=step k x _ a U e2 E;grind
 simp_all
theorem tg{next:DS->Prop}:cA.only next .normal s=next s:=rfl
theorem aJ.PW [Inhabited Env]{P:Program}{ps I is}{g:FuncId}{d:ay}{N:Nat}{α:Type}{args:α->Ab}{f:α->Prop×J}(h1:sf P ps)(h2:si P I)(h3:Vb P is)(hm:mT P g N d=true)
 (hN:∀a,(args a).length=N) (k:∀a,(f a).1->gP (dJ.GU ps I is) 0 d.code (Ap d.res (f a).2) ⟨aO 0 (args a),[]⟩):aJ P g (qz args f):=by
 intro l B;unfold qz at B|-;split at B
 next h=>rw[CV h];have U:=h.choose_spec;have:=k _ B;generalize h.choose=a at*;subst U;exact MV (SV h1 h2 h3) (by simp_all) this
 simp_all
theorem ez.aEY [Inhabited Env]{P:Program}{ps I is}{fn:FuncId}{d:ay}{N:Nat}{α:Type}{r:α->Ab->List ae->Prop}{f:α->Prop×J}{out:α->List ae->List ae}(h1:sf P ps)(h2:si P I)(h3:Vb P is)(hm:mT P fn N d=true)
 (hN:∀x a B,r x a B->a.length=N) (k:∀x a B,r x a B->(f x).1->gP (dJ.GU ps I is) B.length d.code (Vo d.res (f x).2 B (out x B)) ⟨aO 0 a,B⟩):ez P fn (iY r f out):=by
 intro a B bE;unfold iY at bE|-;split at bE
 next U=>rw[CV U];have hy:=U.choose_spec;generalize U.choose=y at hy bE|-;exact sj (SV h1 h2 h3) (by grind) (k _ _ _ hy bE)
 .exact bE.elim
theorem aJ.aEZ [Inhabited Env]{P:Program}{ps I is}{g:FuncId}{d:ay}{α β:Type}{e:α->J}{e':β->J}{f:α->β->Prop×J}(h1:sf P ps)(h2:si P I)(h3:Vb P is)(hm:mT P g 2 d=true)
 (k:∀a b,(f a b).1->gP (dJ.GU ps I is) 0 d.code (Ap d.res (f a b).2) ⟨aO 0 [e a,e' b],[]⟩):aJ P g (cH e e' f):=by
 intro l B;unfold cH at B|-;split at B
 next h=>rw[CV h];have U:=h.choose_spec;have:=k _ _ B;generalize h.choose=a at*;subst U;exact MV (SV h1 h2 h3) hm this
 simp_all
open Classical in
noncomputable def Fs{α:Type}(args:α->Ab)(f:α->Prop×List Ab):Ab->Prop×List Ab:=λl=>
 if h:∃a,l=args a then f h.choose else(False,[])
theorem acS{α:Type}{args:α->Ab}(h:tP args)(f:α->Prop×List Ab)(a:α):Fs args f (args a)=f a:=by unfold Fs;have U:∃b,args a=args b:=⟨a,rfl⟩;rw[CV U];have hy:=U.choose_spec;generalize U.choose=x at hy|-;rw[h _ _ hy]
theorem Ht.r0 [Inhabited Env]{P:Program}{ps I is}{f:FuncId}{d:ay}{n:Nat}{α:Type}{args:α->Ab}{s:α->Prop×List Ab}(h1:sf P ps)(h2:si P I)(h3:Vb P is)(hm:mT P f (n+1) d=true)(Kp:d.res=[])
 (hN:∀a,(args a).length=n) (k:∀a l,(s a).1->jK (dJ.GU ps I is) l (s a).2 d.code (T5 (s a).2.length) (⟨(0,.P9 l)::aO 1 (args a),[]⟩,some 0)) (hA:∀a,(args a).all J.bl=true:=by exactλ_=>rfl):Ht P f (Fs args s):=by
 refine Ht.mk h1 h2 h3 hm Kp λBb l B=>?_;unfold Fs at B|-;split at B
 next h=>rw[CV h];grind[MX]
 simp_all
theorem QA.r0 [Inhabited Env]{P:Program}{ps I is ws}{f:FuncId}{d:ay}{n:Nat}{α:Type}{args:α->Ab}{s:α->Prop×List Ab}(h1:sf P ps)(h2:si P I)(h3:Vb P is)(h4:ql P ws)(hm:mT P f n d=true)
 (hN:∀a,(args a).length=n) (k:∀a l,(s a).1->jK (dJ.qh ps I is ws) l (s a).2 d.code (Zq d.res (s a).2.length) (⟨aO 0 ((args a).map (J.SF l)),[]⟩,some 0)):QA P f (Fs args s):=by
 intro l B;unfold Fs at B|-;split at B
 next h=>rw[CV h];have U:=h.choose_spec;have:=λl=>k _ l B;generalize h.choose=a at*;subst U;exact ali (zu h1 h2 h3 h4) (by simp_all) this
 simp_all
theorem Ht.Vv [Inhabited Env]{P:Program}{ps I is ws}{f:FuncId}{d:ay}{n:Nat}{α:Type}{args:α->Ab}{s:α->Prop×List Ab}(h1:sf P ps)(h2:si P I)(h3:Vb P is)(h4:ql P ws)(hm:mT P f (n+1) d=true)(Kp:d.res=[])
 (hN:∀a,(args a).length=n) (k:∀a l,(s a).1->jK (dJ.qh ps I is ws) l (s a).2 d.code (T5 (s a).2.length) (⟨(0,.P9 l)::aO 1 (args a),[]⟩,some 0)) (hA:∀a,(args a).all J.bl=true:=by exactλ_=>rfl):Ht P f (Fs args s):=by
 intro l B;unfold Fs at B|-;split at B
 next h=>rw[CV h];have U:=h.choose_spec;have:=λl=>k _ l B;have hAA:=hA h.choose;generalize h.choose=a at*;subst U;refine asW (zu h1 h2 h3 h4) (by simp_all) Kp λl=>?_;rw[MX _ hAA];exact this l
 simp_all
theorem acT{rs:List DR}{m:Nat}{s:DS}{k:BI}:Zq rs m .normal (s,k)=((aS s rs).1/\r9 (aS s rs).2 k m):=rfl
theorem ap8{rs:List DR}{m:Nat}{s:DS}{k:BI}:Zq rs m .ret (s,k)=((aS s rs).1/\r9 (aS s rs).2 k m):=rfl
theorem alv{rs:List DR}{m id:Nat}{s:DS}{k:BI}:Zq rs m (.exit id) (s,k)=False:=rfl
def I5(N:Nat)(s:Ab->Prop×J):Ab->Prop×J:=λa=>((s a).1/\uV a<N,(s a).2)
theorem YR(N:Nat)(s:Ab->Prop×J)(a:Ab):I5 N s a=((s a).1/\uV a<N,(s a).2):=rfl
theorem aJ.rec [Inhabited Env]{P:Program}{f:FuncId}{s:Ab->Prop×J}(h:∀N,aJ P f (I5 N s)->aJ P f (I5 (N+1) s)):aJ P f s:=by
 have key:∀N,aJ P f (I5 N s):=by
  intro N;induction N with
  |zero=>exactλa ha=>absurd ha.2 (S3 _)
  |succ N ih=>exact h N ih
 exactλa ha=>key (uV a+1) a ⟨ha,Nat.lt_succ_self _⟩
theorem My{α:Type}{e:α->J}(N:Nat)(f:α->Prop×J):I5 N (bJ e f)=bJ e λx=>((f x).1/\uV [e x]<N,(f x).2):=by funext a;unfold I5 bJ;split<;>grind
theorem akL{α β:Type}{e:α->J}{e':β->J}(N:Nat)(f:α->β->Prop×J):I5 N (cH e e' f)=cH e e' λx y=>((f x y).1/\uV [e x,e' y]<N,(f x y).2):=by funext a;unfold I5 cH;split<;>grind
def H_(N:Nat)(s:Ab->Prop×List Ab):Ab->Prop×List Ab:=λa=>((s a).1/\uV a<N,(s a).2)
theorem QA.rec [Inhabited Env]{P:Program}{f:FuncId}{s:Ab->Prop×List Ab}(h:∀N,QA P f (H_ N s)->QA P f (H_ (N+1) s)):QA P f s:=by
 have key:∀N,QA P f (H_ N s):=by
  intro N;induction N with
  |zero=>exactλa ha=>absurd ha.2 (S3 _)
  |succ N ih=>exact h N ih
 exactλa ha=>key (uV a+1) a ⟨ha,Nat.lt_succ_self _⟩
def I_(N:Nat)(s:Ab->List ae->o9):Ab->List ae->o9:=λa B=>⟨(s a B).pre/\uV a<N,(s a B).val,(s a B).B⟩
theorem ez.rec [Inhabited Env]{P:Program}{f:FuncId}{s:Ab->List ae->o9}(h:∀N,ez P f (I_ N s)->ez P f (I_ (N+1) s)):ez P f s:=by
 have key:∀N,ez P f (I_ N s):=by
  intro N;induction N with
  |zero=>exactλa B ha=>absurd ha.2 (S3 _)
  |succ N ih=>exact h N ih
 exactλa B ha=>key (uV a+1) a B ⟨ha,Nat.lt_succ_self _⟩
theorem VA(ps I is)(f:FuncId)(a:Ab):(dJ.GU ps I is).p f a=Q9 ps f a:=rfl
theorem J_(ps I is)(f:FuncId)(a:Ab)(B:List ae):(dJ.GU ps I is).h f a B=N6 I f a B:=rfl
end
def aDU:=And.intro @alj (And.intro @ap4 (And.intro @alk (And.intro @alm (And.intro @ap5 (And.intro @agB (And.intro @aln (And.intro @ap6 (And.intro @agC (And.intro @agD (And.intro @aDP (And.intro @agE (And.intro @alo (And.intro @aDQ (And.intro @aDR (And.intro @aDS (And.intro @acN (And.intro @ap7 (And.intro @alp (And.intro @alq (And.intro @agF (And.intro @acO (And.intro @acP (And.intro @acQ (And.intro @alr (And.intro @als (And.intro @acR (And.intro @acT (And.intro @ap8 @alv))))))))))))))))))))))))))))
end Go.Nk
set_option linter.all false
namespace Go.Nk
end Go.Nk
