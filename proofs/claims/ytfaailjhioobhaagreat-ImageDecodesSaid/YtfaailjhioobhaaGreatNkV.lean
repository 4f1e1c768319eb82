/- Arguments read behind the call as they read before; a law's contract from what the data level tells. -/
import Derived.Test.YtfaailjhioobhaaGreatNkU
import Derived.Handed
import Derived.JoinedCond
import Derived.Calls
set_option linter.all false
namespace Go.Nk
open Go.RowKit Go.WideShapes Go.ChangeShapes Go.Deep
section
variable {H : Type} {enc : TypeId × Value → H} {P : Program} {w w' : World}
theorem zig {sp : Nat → Bool} : ∀ (n : Nat) (t : TypeId) (fuel : Nat) (cs : List Value) (x : DataW H × List MemPlace),tyOk P n t = true → DataW.trod enc P w 0 zvq true fuel t cs = some x →
   (∀ p ∈ x.2,sp p.block = true) → DataW.trod enc P w 0 sp true fuel t cs = some x
 | 0,_,_,_,_,h,_,_ => by simp [tyOk] at h
 | n + 1,t,0,cs,x,_,hx,_ => by simp [DataW.trod] at hx
 | n + 1,t,m + 1,cs,x,h,hx,hs => by
   unfold tyOk at h
   rw [DataW.trod_step] at hx ⊢
   unfold DataW.trodStep at hx ⊢
   split at h
   · rename_i k hk
     rw [hk] at hx ⊢
     split at hx <;> simp_all
   · rename_i hk
     rw [hk] at hx ⊢
     split at hx <;> simp_all
   · rename_i hk
     rw [hk] at hx ⊢
     split at hx <;> simp_all
   · rename_i e hk
     simp only [Bool.and_eq_true,decide_eq_true_eq] at h
     rw [hk] at hx ⊢
     split at hx <;> rename_i hk' <;> try (first | (cases hk'; done) | (cases hx; done))
     · cases hk'; exact hx
     · rename_i e' a len cap
       cases hk'
       simp only at hx ⊢
       split at hx
       · rename_i hc
         rw [if_pos hc]
         simp only [if_true,Option.map_eq_some_iff,Option.bind_eq_some_iff] at hx ⊢
         obtain ⟨elems,he,rest,hrest,rfl⟩ := hx
         have one : ∀ (i : Nat) (y : DataW H × List MemPlace),y ∈ elems ++ rest →
             (w.cells? 0 (a.add (i * P.cellsOf e)) (P.cellsOf e)).bind (DataW.trod enc P w 0 zvq true m e) = some y → (w.cells? 0 (a.add (i * P.cellsOf e)) (P.cellsOf e)).bind (DataW.trod enc P w 0 sp true m e) = some y := by
           intro i y hy hv
           simp only [Option.bind_eq_some_iff] at hv ⊢
           obtain ⟨cs',hc',hy'⟩ := hv
           refine ⟨cs',hc',zig n e m cs' y h.2 hy' fun p hp => hs p ?_⟩
           simp only [List.mem_append,List.mem_flatMap]
           right
           exact ⟨y,by simpa using hy,hp⟩
         refine ⟨elems,mapM_carry he (fun i y hi hy => one i y (by simp [hy])),rest,?_,rfl⟩
         by_cases hsp : sp a.block = true
         · rw [if_pos hsp]
           exact mapM_carry hrest (fun j y hj hy => one (len + j) y (by simp [hy]))
         · rw [if_neg hsp]
           have h0 : (elems.length + rest.length) * P.cellsOf e = 0 := by
             rcases Nat.eq_zero_or_pos ((elems.length + rest.length) * P.cellsOf e) with h0 | h0
             · exact h0
             · exact absurd (hs (.cell a.block (a.off + 0)) (by simp only [List.mem_append]; left; exact MemPlace.mem_row.2 ⟨0,h0,rfl⟩)) hsp
           have : elems.length + rest.length = 0 := by
             rcases Nat.mul_eq_zero.1 h0 with h1 | h1
             · exact h1
             · omega
           have : rest = [] := List.eq_nil_of_length_eq_zero (by omega)
           rw [this]
       · cases hx
   · rename_i e hk
     simp only [Bool.and_eq_true,decide_eq_true_eq] at h
     rw [hk] at hx ⊢
     split at hx <;> rename_i hk' <;> try (first | (cases hk'; done) | (cases hx; done))
     · cases hk'; exact hx
     · rename_i e' a
       cases hk'
       simp only [Option.map_eq_some_iff,Option.bind_eq_some_iff] at hx ⊢
       obtain ⟨y,⟨cs',hc,hy⟩,rfl⟩ := hx
       exact ⟨y,⟨cs',hc,zig n e m cs' y h.2 hy (fun p hp => hs p (by simp [hp]))⟩,rfl⟩
   · rename_i k e hk
     simp only [Bool.and_eq_true,decide_eq_true_eq] at h
     rw [hk] at hx ⊢
     simp only at hx ⊢
     split at hx
     · rename_i hc
       simp only [if_pos hc,Option.map_eq_some_iff] at hx ⊢
       obtain ⟨xs,hx,rfl⟩ := hx
       exact ⟨xs,mapM_carry hx (fun f y hf hy hv => zig n e m _ y h.2 hv (fun p hp => hs p (List.mem_flatMap.2 ⟨y,hy,hp⟩))),rfl⟩
     · cases hx
   · rename_i fs hk
     simp only [Bool.and_eq_true,List.all_eq_true,beq_iff_eq] at h
     rw [hk] at hx ⊢
     simp only at hx ⊢
     split at hx
     · rename_i hc
       simp only [if_pos hc,Option.map_eq_some_iff] at hx ⊢
       obtain ⟨xs,hx,rfl⟩ := hx
       exact ⟨xs,mapM_carry hx (fun f y hf hy hv => zig n f.type m _ y (h.1.1 f hf) hv (fun p hp => hs p (List.mem_flatMap.2 ⟨y,hy,hp⟩))),rfl⟩
     · cases hx
   · cases h
theorem z62 {sp : Nat → Bool} {n : Nat} {t : TypeId} {v : Value} {d : DataW H} {ps : List MemPlace} (hok : tyOk P n t = true) (h : DataW.Trod enc P w 0 zvq true t v d ps)
   (hb : Below w.heap.size w w') (hs : ∀ p ∈ ps,sp p.block = true) : DataW.Trod enc P w' 0 sp true t v d ps := by
 obtain ⟨m,hm⟩ := h
 refine ⟨m,?_⟩
 have hlt := DataW.trod_lt _ _ _ _ hm
 exact DataW.trod_carry _ _ _ _ (zig n t m _ _ hok hm hs) fun p hp => hb.same (hlt p hp)
def yav (P : Program) (ts : List TypeId) : Bool := ts.all fun t => tyOk P 8 t && byOk P 8 t
theorem zn0 {sp : Nat → Bool} (hb : Below w.heap.size w w') : ∀ {ts : List TypeId} {vs : List Value} {ds : List (DataW H)} {ps : List MemPlace},yav P ts = true → DataW.TrodAll enc P w 0 zvq true ts vs ds ps →
   (∀ p ∈ ps,sp p.block = true) → DataW.TrodAll enc P w' 0 sp true ts vs ds ps
 | [],_,_,_,_,h,_ => by
   obtain ⟨rfl,rfl,rfl⟩ := trodAll_nil h
   exact trodAll_mk0
 | t :: ts,_,_,_,hk,h,hs => by
   obtain ⟨v,vs,d,ds,a,b,rfl,rfl,rfl,h1,h2⟩ := trodAll_cons h
   simp only [yav,List.all_cons,Bool.and_eq_true] at hk
   exact trodAll_cons_mk (z62 hk.1.1 h1 hb fun p hp => hs p (by simp [hp])) (zn0 hb hk.2 h2 fun p hp => hs p (by simp [hp]))
def HasV0 (P : Program) (t : TypeId) (d : DV) : Prop :=
 match P.underlying t with
 | some (.struct _) => ∃ ds,d = .agg ds ∧ Has P 8 t ds
 | some (.array _ _) => ∃ ds,d = .agg ds ∧ Has P 8 t ds
 | _ => Has P 8 t [d]
def zhg : Nat := 140737488355328
def z2n (d : DV) : Prop := ∀ L ∈ d.lens,L ≤ zhg
def HasV (P : Program) (t : TypeId) (d : DV) : Prop := HasV0 P t d ∧ z2n d
def z5n (P : Program) : List TypeId → List DV → Prop
 | [],ds => ds = []
 | t :: ts,ds => ∃ d r,ds = d :: r ∧ HasV P t d ∧ z5n P ts r
theorem dv_rep {B : DataW H → Nat} {BA : List (DataW H) → Nat} (hB : Bulk B BA) {t : TypeId} {v : Value} {d : DataW H} {ps : List MemPlace} {base : Nat} (hval : Value.okWide P w .any base t v) (hok : tyOk P 8 t = true) (hby : byOk P 8 t = true) (h : DataW.Trod enc P w 0 zvq true t v d ps) (hw : ∀ x ∈ DataW.weights P t d,x ≤ reachBytes) :
   ∃ dv,HasV P t dv ∧ VRep (oldF w) zkf [] w dv v ∧ dv.sz ≤ B d + 1 := by
 obtain ⟨m,hm⟩ := h
 obtain ⟨ds,⟨h1,h2⟩,h3,h4⟩ := zpg hB 8 t m _ _ hok hby hm
 have hsm : ∀ L ∈ zc8 ds,L ≤ zhg := by
   intro L hL
   rcases h4 L hL with rfl | ⟨x,h5,h6⟩
   · exact Nat.zero_le _
   · have := hw x h5
     simp only [reachBytes,zhg] at this ⊢
     omega
 unfold HasV HasV0
 split
 · rename_i fs hk
   simp only [Value.okWide,hk] at hval
   obtain ⟨cs,rfl,_,_⟩ := hval
   refine ⟨.agg ds,⟨⟨ds,rfl,h1⟩,by simpa [z2n,DV.lens] using hsm⟩,VRep.agg_mk (by simpa [Value.cells] using h2.1) fun j d hd => ?_,by simp only [DV.sz] at h3 ⊢; omega⟩
   obtain ⟨u,hu,hr⟩ := h2.2 j d hd
   exact ⟨u,by simpa [Value.cells] using hu,.imm hr⟩
 · rename_i k e hk
   simp only [Value.okWide,hk] at hval
   obtain ⟨cs,rfl,_,_⟩ := hval
   refine ⟨.agg ds,⟨⟨ds,rfl,h1⟩,by simpa [z2n,DV.lens] using hsm⟩,VRep.agg_mk (by simpa [Value.cells] using h2.1) fun j d hd => ?_,by simp only [DV.sz] at h3 ⊢; omega⟩
   obtain ⟨u,hu,hr⟩ := h2.2 j d hd
   exact ⟨u,by simpa [Value.cells] using hu,.imm hr⟩
 · rename_i hk hk2
   have one : ds.length = 1 ∧ v.cells.toList = [v] := by
     have hc : ∀ cs,v ≠ .agg cs := by
       intro cs hv
       subst hv
       unfold tyOk at hok
       split at hok <;> rename_i hk' <;> simp_all [Value.okWide,Cell.okWide,Cell.ok]
     have hl : v.cells.toList = [v] := by cases v <;> first | rfl | exact absurd rfl (hc _)
     exact ⟨by rw [h2.1,hl]; rfl,hl⟩
   match ds,one.1 with
   | [dv],_ =>
     rw [one.2] at h2
     obtain ⟨u,us,e,hr,_⟩ := h2.cons
     cases e
     exact ⟨dv,⟨h1,by simpa [z2n,zc8] using hsm⟩,.imm hr,by simp only [szL] at h3; omega⟩
theorem z8d {B : DataW H → Nat} {BA : List (DataW H) → Nat} (hB : Bulk B BA) {base : Nat} : ∀ {ts : List TypeId} {vs : List Value} {ds : List (DataW H)} {ps : List MemPlace},
   (∀ (j : Nat) t v,ts[j]? = some t → vs[j]? = some v → Value.okWide P w .any base t v) → yav P ts = true → DataW.TrodAll enc P w 0 zvq true ts vs ds ps → (∀ x ∈ DataW.weightsEach P ts ds,x ≤ reachBytes) →
   ∃ dvs,z5n P ts dvs ∧ All2 (VRep (oldF w) zkf [] w) dvs vs ∧ szL dvs ≤ BA ds + ts.length
 | [],_,_,_,_,_,h,_ => by
   obtain ⟨rfl,rfl,rfl⟩ := trodAll_nil h
   exact ⟨[],rfl,.mk_nil,by simp [szL]⟩
 | t :: ts,_,_,_,hv,hk,h,hw => by
   obtain ⟨v,vs,d,ds,a,b,rfl,rfl,rfl,h1,h2⟩ := trodAll_cons h
   simp only [yav,List.all_cons,Bool.and_eq_true] at hk
   unfold DataW.weightsEach at hw
   obtain ⟨dv,r1,r2,r3⟩ := dv_rep hB (hv 0 t v rfl rfl) hk.1.1 hk.1.2 h1 fun x hx => hw x (List.mem_append.2 (.inl hx))
   obtain ⟨dvs,r4,r5,r6⟩ := z8d hB (fun j t v h h' => hv (j + 1) t v h h') hk.2 h2 fun x hx => hw x (List.mem_append.2 (.inr hx))
   exact ⟨dv :: dvs,⟨dv,dvs,rfl,r1,r4⟩,.mk_cons r2 r5,by have := hB.cons d ds; simp only [szL,List.length_cons]; omega⟩
theorem zvf {F' : Nat → Prop} (h : Moves (oldF w) (oldF w) w F' w') : Below w.heap.size w w' := ⟨h.os,h.tape,h.output,h.size,fun k hk => h.keepK k hk⟩
theorem zym {f : Func} {s : ChangeSpec} {apart fresh handsOn again : Bool} {W W' : World} {args : Array Value} {v : Value} {ds gs : List (DataW H)} {before pa pv : List MemPlace}
   (hW : DataW.Whole enc P f.params.toList s.vars apart W args.toList ds gs before)
   (hres : ∀ (b : Nat) (sp : Nat → Bool) (hd : Bool),DataW.TrodAll enc P W' b sp hd f.resultTypes.toList (v.resultList f.resultTypes.size) (s.fn H (ds ++ gs)).results [])
   (hargs : ∀ sp : Nat → Bool,(∀ p ∈ before,sp p.block = true) → DataW.TrodAll enc P W' 0 sp true f.params.toList args.toList (s.fn H (ds ++ gs)).args pa)
   (hvars : ∀ sp : Nat → Bool,(∀ p ∈ before,sp p.block = true) → DataW.TrodVars enc P W' sp s.vars (s.fn H (ds ++ gs)).vars pv)
   (hps : before = pa ++ pv) (hb : Below W.heap.size W W')
   (hok : ∀ (j : Nat) (t : TypeId) (r : Value),f.resultTypes[j]? = some t → (v.resultList f.resultTypes.size)[j]? = some r → Value.okWide P W' .any 0 t r) :
   s.post enc P f apart fresh handsOn again W args v W' := by
 have hlt : ∀ p ∈ before,p.block < W.heap.size := fun p hp => hW.lt p hp
 have hold : ∀ p ∈ before,(fun b => decide (b < W.heap.size)) p.block = true := fun p hp => by simpa using hlt p hp
 refine ⟨ds,gs,before,[],pa,pv,hW,hres _ _ _,hargs _ hold,hvars _ hold,World.keptBut_mono (fun p hp => ⟨hp,?_⟩) (hb.frame (· ∈ before)),fun _ => ?_⟩
 · rw [hps,List.mem_append] at hp
   exact Or.inr hp
 · obtain ⟨_,_,_,_,_,hz,hn⟩ := hW
   refine ⟨hok,_,_,([] ++ pa) ++ pv,⟨[] ++ pa,pv,trodAll_append (hargs _ (fun _ _ => rfl)) (hres _ _ _),hvars _ (fun _ _ => rfl),rfl,?_,?_⟩,?_⟩
   · intro b off hp
     have hin : MemPlace.cell b off ∈ before := by rw [hps]; simpa using hp
     rw [hb.frozen (hlt _ hin)]
     exact hz b off hin
   · intro ha
     have := hn ha
     rw [hps] at this
     simpa using this
   · intro p hp _
     rw [hps]
     simpa using hp
theorem zzx [Inhabited Env] {f : FuncId} {fn : Func} {s : ChangeSpec} {apart fresh handsOn again : Bool} {tb : TypeId} {B : DataW H → Nat} {BA : List (DataW H) → Nat} (hB : Bulk B BA)
   (hp : yav P fn.params.toList = true) (hr : fn.resultTypes = #[tb]) (hb : P.underlying tb = some .bool) (hvars : s.vars = [])
   {W : World} {base : Nat} {args : Array Value} {ds gs : List (DataW H)} {before : List MemPlace}
   (hs : ∀ l : List (DataW H),l.length = fn.params.size → (s.fn H l).results = [.lit (.bool true)] ∧ (s.fn H l).args = l ∧ (s.fn H l).vars = [])
   (hval : ∀ (j : Nat) t v,fn.params[j]? = some t → args[j]? = some v → Value.okWide P W .any base t v)
   (hW : DataW.Whole enc P fn.params.toList s.vars apart W args.toList ds gs before)
   (hsz : (DataW.weightsEach P (fn.params.toList ++ s.plain.varTypes P) (ds ++ gs)).all (· ≤ reachBytes) = true)
   (hX : XF (oldF W) W)
   (law : ∀ dvs,z5n P fn.params.toList dvs → szL dvs ≤ BA (ds ++ gs) + fn.params.size → zwv P f dvs (.bool true)) :
   Calls P f args W fun e W' => ∃ v,e = .returned v ∧ s.post enc P fn apart fresh handsOn again W args v W' := by
 have hW' := hW
 obtain ⟨p,q,hA,hV,rfl,hfz,hnd⟩ := hW
 rw [hvars] at hV
 obtain ⟨rfl,rfl⟩ := trodVars_none hV
 have hvt : s.plain.varTypes P = [] := by
   have : s.plain.vars = [] := hvars
   simp [DataSpec.varTypes,this]
 rw [hvt,List.append_nil,List.append_nil] at hsz
 simp only [List.all_eq_true,decide_eq_true_eq] at hsz
 obtain ⟨dvs,h1,h2,h3⟩ := z8d hB (fun j t v a b => hval j t v (by simpa using a) (by simpa using b)) hp hA hsz
 have hlen : ∀ {ts : List TypeId} {vs : List Value} {ds : List (DataW H)} {ps : List MemPlace},DataW.TrodAll enc P W 0 zvq true ts vs ds ps → ds.length = ts.length := by
   intro ts
   induction ts with
   | nil => intro vs ds ps h; obtain ⟨rfl,rfl,rfl⟩ := trodAll_nil h; rfl
   | cons t ts ih => intro vs ds ps h; obtain ⟨v,vs,d,ds,a,b,rfl,rfl,rfl,h1,h2⟩ := trodAll_cons h; simp [ih h2]
 have hl := hlen hA
 obtain ⟨s1,s2,s3⟩ := hs (ds ++ []) (by simpa using hl)
 refine (law dvs h1 (by simpa using h3) (oldF W) (oldF W) W args (fun _ h => h) (fun _ h => h) hX h2).mono ?_
 rintro e W' ⟨v,F',rfl,hm,_,hv⟩
 have e1 := hv.bool_inv
 subst e1
 have hbel := zvf hm
 refine ⟨_,rfl,zym (pa := p) (pv := []) hW' (fun b sp hd => ?_) (fun sp h => ?_) (fun sp _ => ?_) (by simp) hbel (ok_one hr rfl (okWide_bool_mk hb _))⟩
 · rw [hr,s1]
   exact trodAll_cons_mk (shut_bool hb _) trodAll_mk0
 · rw [s2,List.append_nil]
   exact zn0 hbel hp hA fun p hp => h p (by simpa using hp)
 · rw [hvars,s3]
   exact rfl
end
end Go.Nk
