/- Numbers one behind the other; what a step makes. -/
import Derived.Test.YtjgefhgkinocmaaGreatMvA
set_option linter.all false
set_option maxRecDepth 20000
namespace Go.Proofs.YtjgefhgkinocmaaGreat
open Go.Nk
def gH (n : Nat) : List DObj := if n = 0 then [] else [⟨.dead,1,List.replicate n [.int .i64 0]⟩,⟨.dead,1,[]⟩]
noncomputable def yg8 : List DV -> List DObj -> Res := zrr (fun (x : Nat × Nat) a hp => a = [.nil,.int .i64 x.1] /\ x.2 = hp.length) (fun x => (x.1 <= 1000000000,.own (x.2 + (gH x.1).length) 0 0 0)) fun x hp => hp ++ (gH x.1 ++ [⟨.imm,1,[]⟩])
theorem ybs (n : Nat) (hp : List DObj) : yg8 [.nil,.int .i64 n] hp = ⟨n <= 1000000000,.own (hp.length + (gH n).length) 0 0 0,hp ++ (gH n ++ [⟨.imm,1,[]⟩])⟩ := by
 refine zis (x := (n,hp.length)) ?_ ⟨rfl,rfl⟩
 rintro ⟨x1,x2⟩ ⟨y1,y2⟩ a hp ⟨rfl,rfl⟩ ⟨h,rfl⟩
 simp only [List.cons.injEq,DV.int.injEq,true_and,and_true] at h
 have : x1 = y1 := by omega
 subst this; rfl
theorem zgw : OkH Tryz.prog 116 yg8 := by
 refine OkH.mkGH (ps := []) (hs := []) trivial trivial zhq (by rintro x a hp ⟨rfl,_⟩; rfl) ?_
 rintro ⟨n,L⟩ a hp ⟨rfl,rfl⟩ hl
 simp only at hl |-
 
 by_cases q : n = 0
 . subst q
   ((refine Todo.of ?_); (repeat' (first | ((with_reducible refine Todo.to ?_); (repeat (first | (simp only [↓rP,rT,rU,zb,dval,zn,dBin,dInt,retV,DR.val,Nat.reduceEqDiff,↓reduceIte,reduceCtorEq,Int.reduceSub,zb4,gH,Nat.add_zero ]) | ((simp (disch := omega) only [z6]))))))))
 . ((have hcondQ := Bool.and_self; refine Todo.of ?_); (repeat' (first | ((with_reducible refine Todo.to ?_); (repeat (first | (simp only [↓rP,rT,rU,zb,dval,zn,dBin,dInt,retV,DR.val,dAppz,zat,Nat.reduceEqDiff,Nat.reduceAdd,↓reduceIte,reduceCtorEq,Nat.reduceSub,Int.reduceToNat,Int.reduceLE,Nat.reduceLeDiff,zb4,gH,q,List.append_assoc,Nat.add_zero,lst_get,lst_get1,lst_set,lst_set1,zc2,zbq,Int.sub_zero ,hcondQ]) | ((simp (disch := omega) only [z6]))))) | ((with_reducible refine And.intro ?_ ?_); . first | (trivial) | (omega) | ((simp; done))) | (((((with_reducible refine zd (t := ?_) ?_ (fun hcQ => ?_) (fun hcQ => ?_)); rotate_left; . (rfl))) <;> (have hn := hcQ; have hcondQ := hcQ) <;> (try simp only [decide_eq_true_eq,decide_eq_false_iff_not] at hn) <;> (try (exfalso; omega)) <;> (refine Todo.of ?_))) | fail)) <;> (try (omega)))
theorem z8c (l : List Int) : (∀ e ∈ il l,e.length = 1) = True := eq_true (zpl l)
theorem zx7 (a b : List Int) : il a ++ il b = il (a ++ b) := by simp [il]
noncomputable def zvp : List DV -> List DObj -> Res := zrr (fun (x : List (List Int) × Nat) a hp => a = [.sl (x.1.map cIr)] /\ x.2 = hp.length) (fun x => (x.1.length <= 1000000 /\ x.1.flatten.length <= 1000000000,.own (x.2 + (gH x.1.flatten.length).length) x.1.flatten.length 0 x.1.flatten.length)) fun x hp => hp ++ (gH x.1.flatten.length ++ [⟨.imm,1,il x.1.flatten⟩])
theorem z12 (v : List (List Int)) (hp : List DObj) : zvp [.sl (v.map cIr)] hp = ⟨v.length <= 1000000 /\ v.flatten.length <= 1000000000,.own (hp.length + (gH v.flatten.length).length) v.flatten.length 0 v.flatten.length,hp ++ (gH v.flatten.length ++ [⟨.imm,1,il v.flatten⟩])⟩ := by
 refine zis (x := (v,hp.length)) ?_ ⟨rfl,rfl⟩
 rintro ⟨x,m⟩ ⟨y,m'⟩ a hp ⟨rfl,rfl⟩ ⟨h,rfl⟩
 simp only [List.cons.injEq,DV.sl.injEq,and_true] at h
 rw [zdm cIr_inj _ _ h]
theorem zf9 : OkH Tryz.prog 94 zvp := by
 refine OkH.mkGH (ps := []) (hs := [(116,yg8)]) trivial ⟨zgw,trivial⟩ zgf (by rintro x a hp ⟨rfl,_⟩; rfl) ?_
 rintro ⟨v,m⟩ a hp ⟨rfl,rfl⟩ ⟨hl,hf⟩
 simp only at hl hf |-
 
 ((refine Todo.of ?_); (repeat' (first | ((with_reducible refine Todo.to ?_); (repeat (simp only [↓rP,rT,rU,zb,dval,zn,↓reduceIte,reduceCtorEq,zcv ]))))))
 refine z0 v (fun k (n : Nat) => ⟨[(0,.sl (v.map cIr)),(3,.int .i64 n),(9,.sl (v.map cIr)),(10,.int .i64 v.length),(11,.int .i64 k)],hp⟩) (fun k r n => n + r.flatten.length = v.flatten.length) 0 trivial (by simp only [zfi,List.map_cons,List.map_nil,zc,Nk.get_nil,Nat.reduceEqDiff,↓reduceIte,reduceCtorEq] <;> rfl) (by simp) (fun k x r n d hx hd hr => ?_) (fun k n e hr => ?_)
 . simp only [List.flatten_cons,List.length_append] at hr
   ((have hcondQ := Bool.and_self; refine Todo.of ?_); (repeat' (first | ((with_reducible refine Todo.to ?_); (repeat (first | (simp only [↓rP,rT,rU,zb,dval,dBin,dInt,zh,za,Nat.reduceEqDiff,↓reduceIte,reduceCtorEq,za9,d,zm cIr hx ,hcondQ]) | ((simp (disch := omega) only [z6]))))) | ((with_reducible refine And.intro ?_ ?_); . omega) | (((((with_reducible refine zd (t := ?_) ?_ (fun hcQ => ?_) (fun hcQ => ?_)); rotate_left; . (rfl))) <;> (have hn := hcQ; have hcondQ := hcQ) <;> (try simp only [decide_eq_true_eq,decide_eq_false_iff_not] at hn) <;> (try (exfalso; omega)) <;> (refine Todo.of ?_))) | fail)))
   exact ⟨n + x.length,by simp only [zfi,List.map_cons,List.map_nil,zc,Nk.get_nil,Nat.reduceEqDiff,↓reduceIte,Nat.succ_ne_self,reduceCtorEq,Int.natCast_add,Int.natCast_one] <;> rfl,by omega⟩
 simp only [List.flatten_nil,List.length_nil,Nat.add_zero] at hr
 subst hr
 have e1 := ybs v.flatten.length hp
 ((refine Todo.of ?_); (repeat' (first | ((with_reducible refine Todo.to ?_); (repeat (simp only [↓rP,rT,rU,zb,dval,dBin,dInt,Nat.reduceEqDiff,↓reduceIte,reduceCtorEq,e,e1 ]))) | ((with_reducible refine And.intro ?_ ?_); . trivial) | fail)))
 refine z0 v (fun k (o : List Int) => ⟨[(6,.own (hp.length + (gH v.flatten.length).length) o.length 0 o.length),(25,.sl (v.map cIr)),(26,.int .i64 v.length),(27,.int .i64 k)],hp ++ (gH v.flatten.length ++ [⟨.imm,1,il o⟩])⟩) (fun k r o => o ++ r.flatten = v.flatten) [] trivial (by simp only [zfi,List.map_cons,List.map_nil,zc,Nk.get_nil,Nat.reduceEqDiff,↓reduceIte,List.length_nil] <;> rfl) rfl (fun k x r o d hx hd hr => ?_) (fun k o e hr => ?_)
 . simp only [List.flatten_cons] at hr
   have hb : o.length + x.length <= v.flatten.length := by rw [<- hr]; simp
   ((refine Todo.of ?_); (repeat' (first | ((with_reducible refine Todo.to ?_); (repeat (first | (simp only [↓rP,rT,rU,zb,dval,dBin,dInt,zh,za,zy,zax,zat,Nat.reduceEqDiff,↓reduceIte,za9,z8c,d,zm cIr hx,last_get,last_set,zx7 ]) | ((simp (disch := omega) only [z6]))))) | ((with_reducible refine And.intro ?_ ?_); . omega) | fail)))
   exact ⟨o ++ x,by simp only [zfi,List.map_cons,List.map_nil,zc,Nk.get_nil,Nat.reduceEqDiff,↓reduceIte,Nat.succ_ne_self,Int.natCast_add,Int.natCast_one,List.length_append] <;> rfl,by simpa using hr⟩
 . simp only [List.flatten_nil,List.append_nil] at hr
   subst hr
   ((refine Todo.of ?_); (repeat' (first | ((with_reducible refine Todo.to ?_); (repeat (simp only [↓rP,rT,rU,zb,dval,dBin,dInt,retV,DR.val,Nat.reduceEqDiff,↓reduceIte,e ]))))))
structure Told where
 v : List Int
 n : Int
 e : Int
@[reducible] def z3g (t : Told) : List DV := [.sl (il t.v),.int .i64 t.n,.int .i64 t.e]
def zbv (n : Int) : List Int := List.replicate n.toNat 0
def runF (p : Pln) (old : List Int) (fuel : Int) : Told :=
 let r := vmF p.code (old ++ zbv p.len) fuel
 if r.2.2 = 0 then ⟨r.1.drop old.length,r.2.1,0⟩ else ⟨[],r.2.1,r.2.2⟩
def oneM (p : Pln) (old : List Int) (fuel : Int) : Told :=
 if p.kind = 1 then ⟨(old.take (p.old + p.len).toNat).drop p.old.toNat,0,0⟩ else if p.kind = 2 then ⟨p.init,0,0⟩ else runF p old fuel
structure okOne (p : Pln) (old : List Int) (fuel : Int) : Prop where
 l0 : 1 <= p.len
 l8 : p.len <= 8
 o : old.length <= 1100
 k1 : p.kind = 1 -> 0 <= p.old /\ p.old + p.len <= old.length
 i : p.init.length <= 20
 c : p.code.length <= 1500
 f : fuel <= 20000
 ci : ∀ x ∈ old,in64 x
 ins : ∀ i ∈ p.code,in64 i.n
theorem okOne.vm {p : Pln} {old : List Int} {fuel : Int} (h : okOne p old fuel) : okVm p.code (old ++ zbv p.len) fuel := by
 have := h.o; have := h.l8; have := h.c; have := h.f; have := h.l0
 refine ⟨by omega,by omega,h.ins,by simp [zbv]; omega,fun x hx => ?_⟩
 rcases List.mem_append.1 hx with hx | hx
 . exact h.ci x hx
 . simp only [zbv,List.mem_replicate] at hx; rw [hx.2]; exact ⟨by omega,by omega⟩
theorem zth {code : List Ins} {cells : List Int} {fuel : Int} (h : okVm code cells fuel) : ((vmF code cells fuel).2.2 = 0 -> (vmF code cells fuel).1.length = cells.length) /\ 0 <= (vmF code cells fuel).2.1 /\ (vmF code cells fuel).2.1 <= fuel.toNat := by
 have h1 := h.len; have h2 := h.fuel
 have := zm1 code h.ins h.len fuel.toNat (m0 cells) (okM_0 h.c h.ci) (by simp [m0]) (by simp [m0]; omega)
 obtain ⟨r1,r2,r3,r4⟩ := this
 have z : (m0 cells).used = 0 := rfl
 rw [z] at r3 r4
 unfold vmF
 dsimp only
 generalize runN code fuel.toNat (m0 cells) = R at *
 split
 . exact ⟨fun _ => rfl,r3,by simp only; omega⟩
 . exact ⟨fun _ => r2,r3,by simp only; omega⟩
theorem one_n {p : Pln} {old : List Int} {fuel : Int} (h : okOne p old fuel) : 0 <= (oneM p old fuel).n /\ (oneM p old fuel).n <= fuel.toNat := by
 unfold oneM
 split
 . exact ⟨Int.le_refl _,by simp only; omega⟩
 split
 . exact ⟨Int.le_refl _,by simp only; omega⟩
 unfold runF
 have := (zth h.vm).2
 dsimp only
 split <;> exact this
theorem one_v {p : Pln} {old : List Int} {fuel : Int} (h : okOne p old fuel) : (oneM p old fuel).v.length <= 20 := by
 have h8 := h.l8; have h0 := h.l0
 unfold oneM
 split
 . rename_i k
   have := h.k1 k
   simp; omega
 split
 . exact h.i
 unfold runF
 have := (zth h.vm).1
 dsimp only
 split
 . rename_i e
   have := this e
   show ((vmF p.code (old ++ zbv p.len) fuel).1.drop old.length).length <= 20
   rw [List.length_drop,this,List.length_append]; simp only [zbv,List.length_replicate]; omega
 . simp
theorem il_rep (n : Nat) : List.replicate n [DV.int .i64 0] = il (List.replicate n 0) := by simp [il]
theorem slice_il {hp : List DObj} {l : List Int} {a b : Int} (h1 : 0 <= a) (h2 : a <= b) (h3 : b <= l.length) : zc2 hp 1 (.sl (il l)) (some (.int .i64 a)) (some (.int .i64 b)) none = (True,.sl (il ((l.take b.toNat).drop a.toNat))) := by
 simp only [zc2,zbq,za9,Option.isSome_none,Prod.mk.injEq]
 refine ⟨eq_true ⟨zpl l,trivial,trivial,trivial,by simp,h1,h2,Int.le_refl _,h3⟩,?_⟩
 simp [il]
theorem yfb {hp : List DObj} {l : List Int} {a : Int} (h1 : 0 <= a) (h3 : a <= l.length) : zc2 hp 1 (.sl (il l)) (some (.int .i64 a)) none none = (True,.sl (il (l.drop a.toNat))) := by
 simp only [zc2,zbq,za9,Option.isSome_none,Prod.mk.injEq]
 refine ⟨eq_true ⟨zpl l,trivial,trivial,trivial,by simp,h1,h3,Int.le_refl _,Int.le_refl _⟩,?_⟩
 rw [Int.toNat_natCast,List.take_of_length_le (by rw [za9]; exact Nat.le_refl _)]
 simp [il]
theorem ycr {a b o : DObj} {g : List DObj} : (a :: b :: (g ++ [o]))[2 + g.length]? = some o := by
 rw [show 2 + g.length = g.length + 1 + 1 by omega,List.getElem?_cons_succ,List.getElem?_cons_succ,List.getElem?_append_right (Nat.le_refl _)]; simp
theorem ygp {a b o o' : DObj} {g : List DObj} : (a :: b :: (g ++ [o])).set (2 + g.length) o' = a :: b :: (g ++ [o']) := by
 rw [show 2 + g.length = g.length + 1 + 1 by omega,List.set_cons_succ,List.set_cons_succ,List.set_append_right _ _ (Nat.le_refl _)]; simp
noncomputable def yd1 : List DV -> Prop × DV := zec ePln eIl eI fun p o f => (okOne p o f,.agg (z3g (runF p o f)))
theorem ye7 (p : Pln) (o : List Int) (f : Int) : yd1 [.agg (cPln p),.sl (il o),.int .i64 f] = (okOne p o f,.agg (z3g (runF p o f))) := za2 z1g zsa zcr _ p o f
theorem z45 : OkP Tryz.prog 71 yd1 := by
 refine OkP.mk3 (ps := [(95,s_vm)]) (hs := [(94,zvp)]) ⟨ok_vm,trivial⟩ ⟨zf9,trivial⟩ ya1 fun p old fuel h => ?_
 have ho := h.o; have h8 := h.l8; have h0 := h.l0
 have ev := s_vm_at p.code (old ++ zbv p.len) fuel
 have hk := h.vm
 unfold fVm at ev
 rw [eq_true hk] at ev
 have fl : [old,List.replicate p.len.toNat 0].flatten = old ++ zbv p.len := by simp [zbv]
 have ec := fun hp => z12 [old,List.replicate p.len.toNat 0] hp
 simp only [fl,List.map_cons,List.map_nil] at ec
 have hl : (old ++ zbv p.len).length <= 1000000000 := by simp [zbv]; omega
 have tk : (il (old ++ zbv p.len)).take (old ++ zbv p.len).length = il (old ++ zbv p.len) := List.take_of_length_le (by rw [za9]; exact Nat.le_refl _)
 have tz : (il (List.replicate p.len.toNat 0)).take p.len.toNat = il (List.replicate p.len.toNat 0) := List.take_of_length_le (by rw [za9,List.length_replicate]; exact Nat.le_refl _)
 have hr := (zth hk).1
 have hll : (old ++ zbv p.len).length = old.length + p.len.toNat := by simp [zbv]
 generalize hcs : old ++ zbv p.len = cs at *
 have eR : runF p old fuel = (let r := vmF p.code cs fuel; if r.2.2 = 0 then ⟨r.1.drop old.length,r.2.1,0⟩ else ⟨[],r.2.1,r.2.2⟩) := by rw [<- hcs]; rfl
 
 by_cases e : (vmF p.code cs fuel).2.2 = 0
 . have hr := hr e
   have e2 : runF p old fuel = ⟨(vmF p.code cs fuel).1.drop old.length,(vmF p.code cs fuel).2.1,0⟩ := by rw [eR]; dsimp only; rw [if_pos e]
   rw [e2]
   generalize vmF p.code cs fuel = R at *
   have sl := fun hp => yfb (hp := hp) (l := R.1) (a := (old.length : Int)) (by omega) (by omega)
   rw [Int.toNat_natCast] at sl
   ((have hcondQ := Bool.and_self; refine Todo.of ?_); (repeat' (first | ((with_reducible refine Todo.to ?_); (repeat (simp only [↓rP,rT,rU,eI,eA,zr,zb,dval,dBin,dInt,zh,za,retV,DR.val,fzT,fzVs,fzV,fz1,DV.immB,ze,zf,zp,zo,zi,zq,zy,zw,DV.one,freezeAt,fzLL,fzL,bRow,bU,cellsOf,zk,DV.isU,zlr,Nat.reduceEqDiff,Nat.reduceAdd,↓reduceIte,reduceCtorEq,Nat.reduceLeDiff,Nat.reduceLT,forall_const,zqn,eIl,ePln,za9,ec,ev,hl,tk,tz,e,sl,il_rep,ycr,ygp,hcondQ]))) | ((with_reducible refine And.intro ?_ ?_); . omega) | fail)) <;> (try (exact Nat.le_refl _)))
 . have e2 : runF p old fuel = ⟨[],(vmF p.code cs fuel).2.1,(vmF p.code cs fuel).2.2⟩ := by rw [eR]; dsimp only; rw [if_neg e]
   rw [e2]
   generalize vmF p.code cs fuel = R at *
   have e3 : (R.2.2 != 0) = true := by simp [e]
   ((have hcondQ := Bool.and_self; refine Todo.of ?_); (repeat' (first | ((with_reducible refine Todo.to ?_); (repeat (simp only [↓rP,rT,rU,eI,eA,zr,zb,dval,dBin,dInt,zh,za,retV,DR.val,fzT,fzVs,fzV,fz1,DV.immB,ze,zf,zp,zo,zi,zq,zy,zw,DV.one,freezeAt,fzLL,fzL,bRow,bU,cellsOf,zk,DV.isU,zlr,Nat.reduceEqDiff,Nat.reduceAdd,↓reduceIte,reduceCtorEq,Nat.reduceLeDiff,Nat.reduceLT,forall_const,zqn,eIl,ePln,za9,ec,ev,hl,tk,tz,e3,il_rep,ycr,ygp,hcondQ]))) | ((with_reducible refine And.intro ?_ ?_); . omega) | fail)))
   all_goals rfl
set_option linter.all false
set_option maxRecDepth 20000
open Go.Nk
noncomputable def z8m : List DV -> Prop × DV := zec ePln eIl eI fun p o f => (okOne p o f,.agg (z3g (oneM p o f)))
theorem z40 (p : Pln) (o : List Int) (f : Int) : z8m [.agg (cPln p),.sl (il o),.int .i64 f] = (okOne p o f,.agg (z3g (oneM p o f))) := za2 z1g zsa zcr _ p o f
theorem zwz : OkP Tryz.prog 45 z8m := by
 refine OkP.mk3 (ps := [(71,yd1),(52,znq)]) (hs := []) ⟨z45,zuk,trivial⟩ trivial ybl fun p old fuel h => ?_
 try dsimp only at h
 have ho := h.o; have h8 := h.l8; have h0 := h.l0; have hi := h.i
 by_cases k1 : p.kind = 1
 . obtain ⟨q1,q2⟩ := h.k1 k1
   have e2 : oneM p old fuel = ⟨(old.take (p.old + p.len).toNat).drop p.old.toNat,0,0⟩ := by unfold oneM; rw [if_pos k1]
   have w : IntKind.i64.wrap (p.old + p.len) = p.old + p.len := z9 (by omega)
   have sl := fun hp => slice_il (hp := hp) (l := old) (a := p.old) (b := p.old + p.len) q1 (by omega) q2
   have hl : ((old.take (p.old + p.len).toNat).drop p.old.toNat).length <= 4294967296 := by simp; omega
   have ecl := zi5 ((old.take (p.old + p.len).toNat).drop p.old.toNat)
   rw [e2]
   ((have hcondQ := Bool.and_self; refine Todo.of ?_); (repeat' (first | ((with_reducible refine Todo.to ?_); (repeat (simp only [↓rP,rT,rU,eI,eA,zr,zb,dval,dBin,dInt,zh,za,retV,DR.val,fzT,fzVs,fzV,fz1,DV.immB,ze,zf,zp,zo,zi,zq,zw,DV.one,fzL,cellsOf,zk,DV.isU,Nat.reduceEqDiff,Nat.reduceAdd,↓reduceIte,reduceCtorEq,Nat.reduceLeDiff,Nat.reduceLT,forall_const,zk7,eIl,ePln,k1,w,sl,hl,ecl ,hcondQ]))))))
 by_cases k2 : p.kind = 2
 . have e2 : oneM p old fuel = ⟨p.init,0,0⟩ := by unfold oneM; rw [if_neg k1,if_pos k2]
   have hl : p.init.length <= 4294967296 := by omega
   have ecl := zi5 p.init
   rw [e2]
   ((have hcondQ := Bool.and_self; refine Todo.of ?_); (repeat' (first | ((with_reducible refine Todo.to ?_); (repeat (simp only [↓rP,rT,rU,eI,eA,zr,zb,dval,dBin,dInt,zh,za,retV,DR.val,fzT,fzVs,fzV,fz1,DV.immB,ze,zf,zp,zo,zi,zq,zw,DV.one,fzL,cellsOf,zk,DV.isU,Nat.reduceEqDiff,Nat.reduceAdd,↓reduceIte,reduceCtorEq,Nat.reduceLeDiff,Nat.reduceLT,Int.reduceBEq,forall_const,zk7,eIl,ePln,k2,hl,ecl ,hcondQ]))))))
 . have e2 : oneM p old fuel = runF p old fuel := by unfold oneM; rw [if_neg k1,if_neg k2]
   rw [e2]
   ((have hcondQ := Bool.and_self; refine Todo.of ?_); (repeat' (first | ((with_reducible refine Todo.to ?_); (repeat (simp only [↓rP,rT,rU,eI,eA,zb,dval,dBin,dInt,zh,za,retV,DR.val,fzT,fzVs,fzV,fz1,DV.immB,ze,zf,zp,zo,zx,zi,zq,zw,DV.one,fzL,cellsOf,zk,Nat.reduceEqDiff,Nat.reduceAdd,↓reduceIte,reduceCtorEq,Nat.reduceLeDiff,Nat.reduceLT,forall_const,zk7,ye7,eIl,ePln,h ,hcondQ]))) | (((((with_reducible refine zd (t := ?_) ?_ (fun hcQ => ?_) (fun hcQ => ?_)); rotate_left; . (rfl))) <;> (have hn := hcQ; have hcondQ := hcQ) <;> (try simp only [beq_iff_eq,ne_eq,beq_eq_false_iff_ne] at hn) <;> (try (exfalso; omega)) <;> (refine Todo.of ?_))) | fail)))
def zui (p : Pln) (c : Int) : Bool := zfs { p with at_ := 0 } 0 c
def zxf (p : Pln) (old : List Int) (fuel : Int) : Told := if zui p old.length = true then oneM p old fuel else ⟨[],0,1⟩
structure okP1 (p : Pln) (old : List Int) (fuel : Int) : Prop where
 o : old.length <= 1100
 i : p.init.length <= 20
 c : p.code.length <= 1500
 f : fuel <= 20000
 ci : ∀ x ∈ old,in64 x
 ins : ∀ i ∈ p.code,in64 i.n
theorem okOne_of {p : Pln} {old : List Int} {fuel : Int} {b : Int} (h : okP1 p old fuel) (hr : zfs p b old.length = true) : okOne p old fuel := by
 obtain ⟨q1,q2,_⟩ := zic hr
 refine ⟨q1,q2,h.o,fun k => ?_,h.i,h.c,h.f,h.ci,h.ins⟩
 simp only [zfs,Bool.and_eq_true,decide_eq_true_eq,if_pos k] at hr
 omega
theorem z0t {p : Pln} {old : List Int} {fuel : Int} (h : okP1 p old fuel) (hr : zui p old.length = true) : okOne p old fuel := by
 have := okOne_of (p := { p with at_ := 0 }) (b := 0) (old := old) (fuel := fuel) ⟨h.o,h.i,h.c,h.f,h.ci,h.ins⟩ hr
 exact ⟨this.l0,this.l8,this.o,this.k1,this.i,this.c,this.f,this.ci,this.ins⟩
theorem ya8 (p : Pln) (c : Int) : zd7 [{ p with at_ := 0 }] 0 c = zui p c := by simp [zd7,zui]
noncomputable def yct : List DV -> Prop × DV := zec ePln eIl eI fun p o f => (okP1 p o f,.tup (z3g (zxf p o f)))
theorem yc6 (p : Pln) (o : List Int) (f : Int) : yct [.agg (cPln p),.sl (il o),.int .i64 f] = (okP1 p o f,.tup (z3g (zxf p o f))) := za2 z1g zsa zcr _ p o f
theorem z6s : OkP Tryz.prog 20 yct := by
 refine OkP.mk3 (ps := [(24,zj0),(45,z8m)]) (hs := []) ⟨zm5,zwz,trivial⟩ trivial yaz fun p old fuel h => ?_
 try dsimp only at h
 have ho := h.o
 have er := zj2 [{ p with at_ := 0 }] old.length
 simp only [List.map_cons,List.map_nil,ya8] at er
 cases hr : zui p old.length
 . have e2 : zxf p old fuel = ⟨[],0,1⟩ := by unfold zxf; rw [hr]; rfl
   rw [e2]
   ((have hcondQ := Bool.and_self; refine Todo.of ?_); (repeat' (first | ((with_reducible refine Todo.to ?_); (repeat (simp only [↓rP,rT,rU,eI,eA,zb,dval,dUn,zh,za,retV,retL,DR.val,fzT,fzVs,fzV,fz1,DV.immB,ze,zf,zp,zo,zi,zq,zw,DV.one,alive,fzLL,fzL,bRow,bU,cellsOf,zk,DV.isU,Nat.reduceEqDiff,Nat.reduceAdd,↓reduceIte,reduceCtorEq,Nat.reduceLeDiff,forall_const,zpp,eIl,ePln,za9,er,hr,za9,hcondQ]))) | ((with_reducible refine And.intro ?_ ?_); . omega) | fail)))
   all_goals rfl
 . have h1 := z0t h hr
   have e2 : zxf p old fuel = oneM p old fuel := by unfold zxf; rw [hr]; rfl
   rw [e2]
   ((have hcondQ := Bool.and_self; refine Todo.of ?_); (repeat' (first | ((with_reducible refine Todo.to ?_); (repeat (simp only [↓rP,rT,rU,eI,eA,zb,dval,dUn,zh,za,retV,retL,DR.val,fzT,fzVs,fzV,fz1,DV.immB,ze,zf,zp,zo,zx,zi,zq,zw,DV.one,alive,fzLL,fzL,bRow,bU,cellsOf,zk,DV.isU,Nat.reduceEqDiff,Nat.reduceAdd,↓reduceIte,reduceCtorEq,Nat.reduceLeDiff,Nat.reduceLT,forall_const,zpp,z40,eIl,ePln,za9,er,hr,h1,za9,hcondQ]))) | ((with_reducible refine And.intro ?_ ?_); . omega) | fail)) <;> (try (omega)))
   all_goals rfl
set_option linter.all false
set_option maxRecDepth 20000
open Go.Nk
structure okPs (l : List Pln) (old : List Int) (fuel : Int) : Prop where
 n : l.length <= 150
 o : old.length <= 1100
 p : ∀ p ∈ l,p.init.length <= 20 /\ p.code.length <= 1500 /\ ∀ i ∈ p.code,in64 i.n
 f : in64 fuel /\ fuel <= 20000
 ci : ∀ x ∈ old,in64 x
theorem okPs.one {l : List Pln} {old : List Int} {fuel f : Int} (h : okPs l old fuel) (hf : f <= 20000) {p : Pln} (hp : p ∈ l) : okP1 p old f :=
 ⟨h.o,(h.p p hp).1,(h.p p hp).2.1,hf,h.ci,(h.p p hp).2.2⟩
def zdt : List Pln -> List Int -> Int -> List Told
 | [],_,_ => []
 | p :: r,old,fuel => oneM p old fuel :: (if (oneM p old fuel).e = 0 then zdt r old (fuel - (oneM p old fuel).n) else [])
def zgm : List Told -> List Int -> Int -> List Int × Int × Int
 | [],out,used => (out,used,0)
 | t :: r,out,used => if t.e = 0 then zgm r (out ++ t.v) (used + t.n) else ([],used + t.n,t.e)
def allF (l : List Pln) (old : List Int) (fuel : Int) : List Int × Int × Int :=
 if zd7 l 0 old.length = true then zgm (zdt l old fuel) [] 0 else ([],0,1)
theorem zw3 {p : Pln} {r : List Pln} {b c : Int} (h : zd7 (p :: r) b c = true) : zfs p b c = true /\ zd7 r (b + p.len) c = true := by
 simpa [zd7] using h
theorem z2v {p : Pln} {b c : Int} (hb : 0 <= b) (h : zfs p b c = true) : zui p c = true := by
 obtain ⟨q1,q2,q3⟩ := zic h
 simp only [zui,zfs,Bool.and_eq_true,decide_eq_true_eq,beq_iff_eq] at h |-
 exact ⟨⟨⟨⟨trivial,q1⟩,q2⟩,by omega⟩,h.2⟩
def resA (R : List Int × Int × Int) : DV := .tup [.sl (il R.1),.int .i64 R.2.1,.int .i64 R.2.2]
set_option linter.all false
set_option maxRecDepth 20000
open Go.Nk
theorem z5v {α : Type} {l : List α} {n : Nat} {x : α} {r : List α} (h : l.drop n = x :: r) : l[n]? = some x /\ l.drop (n + 1) = r /\ n + 1 <= l.length := by
 have hl : n < l.length := by
   rcases Nat.lt_or_ge n l.length with h1 | h1
   . exact h1
   . rw [List.drop_of_length_le h1] at h; cases h
 rw [List.drop_eq_getElem_cons hl] at h
 injection h with h1 h2
 exact ⟨by rw [<- h1]; exact List.getElem?_eq_getElem hl,h2,hl⟩
theorem zr2 {α : Type} {l : List α} {n : Nat} (h : l.drop n = []) (hn : n <= l.length) : n = l.length := by
 have := List.drop_eq_nil_iff.1 h
 omega
abbrev X3 := List Pln × List Int × Int
def z0q (t : Told) : List DV := [.agg (z3g t)]
@[reducible] def aEach (x : X3) : List DV := [.ref [.sl (x.1.map cPln)],.ref [.sl (il x.2.1)],.agg [.int .i64 x.2.2]]
theorem inj_each : InjL aEach := fun x y h => by
 obtain ⟨a,b,c⟩ := x; obtain ⟨a',b',c'⟩ := y
 simp only [aEach,List.cons.injEq,DV.ref.injEq,DV.sl.injEq,DV.agg.injEq,DV.int.injEq,true_and,and_true] at h
 obtain ⟨h1,h2,rfl⟩ := h
 rw [zdm ztl _ _ h1,zwb h2]
def yeu (x : X3) : Prop := okPs x.1 x.2.1 x.2.2 /\ zd7 x.1 0 x.2.1.length = true
noncomputable def z0f : List DV -> Prop × List (List DV) := zjz aEach fun x => (yeu x,(zdt x.1 x.2.1 x.2.2).map z0q)
theorem z98 (l : List Pln) (old : List Int) (fuel : Int) : z0f [.ref [.sl (l.map cPln)],.ref [.sl (il old)],.agg [.int .i64 fuel]] = (yeu (l,old,fuel),(zdt l old fuel).map z0q) := ztj inj_each _ (l,old,fuel)
theorem ydc : OkI Tryz.prog 54 z0f := by
 refine OkI.mkB (ps := [(45,z8m)]) (hs := []) (is := []) ⟨zwz,trivial⟩ trivial trivial zz7 rfl (fun _ => rfl) fun x l h => ?_
 obtain ⟨li,old,fuel⟩ := x
 obtain ⟨h,hr⟩ := h
 simp only at h hr
 have hn := h.n; have ho := h.o
 dsimp only
 simp only [zd3]
 generalize hxs : (zdt li old fuel).map z0q = xs
 
 (have hcondQ := Bool.and_self; refine Todo.of ?_); (repeat' (first | ((with_reducible refine Todo.to ?_); (repeat (simp only [rT,rU,zb,dval,zn,zh,za,Nat.reduceAdd,↓reduceIte,rI,zlc,zn6,hcondQ])))))
 refine zot li (fun k (u : Int) => (⟨[(0,.yld l),(2,.ref [.sl (il old)]),(3,.ptr 0 1 0 0),(8,.sl (li.map cPln)),(9,.int .i64 li.length),(10,.int .i64 k)],[⟨.loc,1,[[.int .i64 (fuel - u)]]⟩]⟩,some k))
   (fun k r u => xs.drop k = (zdt r old (fuel - u)).map z0q /\ k <= xs.length /\ 0 <= u /\ u <= fuel.toNat /\ ∃ b,0 <= b /\ zd7 r b old.length = true) 0 (by simp only [zg,List.map_cons,List.map_nil,zc,Nk.get_nil,Nat.reduceEqDiff,↓reduceIte,Nat.succ_ne_self,DV.cut,DV.inB,DObj.cut,List.take_nil,reduceCtorEq,Nat.zero_lt_one,decide_true,List.take_succ_cons,Int.sub_zero] <;> rfl) ⟨by rw [<- hxs,Int.sub_zero]; rfl,Nat.zero_le _,Int.le_refl _,by omega,0,Int.le_refl _,hr⟩ (fun k x r u d hx hd hi => ?_) (fun k u e hi => ?_)
 . obtain ⟨hi,hk,u0,u1,b,b0,hb⟩ := hi
   obtain ⟨f1,f2⟩ := h.f
   obtain ⟨f3,f4⟩ := f1
   have hq := zw3 hb
   have hx' : x ∈ li := List.mem_of_getElem? hx
   have hp1 := h.one (f := fuel - u) (by omega) hx'
   have ho1 := z0t hp1 (z2v b0 hq.1)
   have on := one_n ho1
   have e1 := z40 x old (fuel - u)
   rw [eq_true ho1] at e1
   simp only [zdt,List.map_cons] at hi
   obtain ⟨a1,a2,a3⟩ := z5v hi
   generalize oneM x old (fuel - u) = t at *
   have w2 : IntKind.i64.wrap (fuel - u - t.n) = fuel - (u + t.n) := by rw [z9 (by omega)]; omega
   have q1 := zic hq.1
   simp only [z0q] at a1
   by_cases c : t.e = 0
   . rw [if_pos c,show fuel - u - t.n = fuel - (u + t.n) by omega] at a2
     (have hcondQ := Bool.and_self; refine Todo.of ?_); (repeat' (first | ((with_reducible refine Todo.to ?_); (repeat (first | (simp only [rT,rU,zb,dval,dBin,dInt,dUn,zh,za,fzVs,fzV,fz1,DV.immB,ze,zf,zp,zo,zx,zi,zq,zw,DV.one,alive,fzL,cellsOf,zk,Nat.reduceEqDiff,Nat.reduceAdd,↓reduceIte,reduceCtorEq,Nat.reduceLeDiff,Nat.reduceLT,forall_const,rI,zlc,immV,zsx,d,zm cPln hx,e1,w2,c,a1 ,hcondQ]) | ((simp (disch := omega) only [z6]))))) | ((with_reducible refine And.intro ?_ ?_); . first | (omega) | ((simp; omega))) | fail))
     exact ⟨u + t.n,by simp only [zg,List.map_cons,List.map_nil,zc,Nk.get_nil,Nat.reduceEqDiff,↓reduceIte,Nat.succ_ne_self,DV.cut,DV.inB,DObj.cut,List.take_zero,reduceCtorEq,Nat.zero_lt_one,decide_true,List.take_succ_cons,Int.natCast_add,Int.natCast_one] <;> rfl,a2,a3,by omega,by omega,b + x.len,by omega,hq.2⟩
   . rw [if_neg c] at a2
     have e2 := zr2 a2 a3
     (have hcondQ := Bool.and_self; refine Todo.of ?_); (repeat' (first | ((with_reducible refine Todo.to ?_); (repeat (simp only [rT,rU,zb,dval,dBin,dInt,dUn,zh,za,fzVs,fzV,fz1,DV.immB,ze,zf,zp,zo,zx,zi,zq,zw,DV.one,alive,fzL,cellsOf,zk,Nat.reduceEqDiff,Nat.reduceAdd,↓reduceIte,reduceCtorEq,Nat.reduceLeDiff,Nat.reduceLT,forall_const,rI,zlc,immV,zsx,d,zm cPln hx,e1,w2,a1 ,hcondQ]))) | ((with_reducible refine And.intro ?_ ?_); . omega) | (((((with_reducible refine yb2 (t := ?_) ?_ (fun hcQ => ?_) (fun hcQ => ?_)); rotate_left; . (rfl))) <;> (have hn := hcQ; have hcondQ := hcQ) <;> (try simp only [bne_iff_ne,ne_eq,bne_eq_false_iff_eq] at hn) <;> (try (exfalso; omega)) <;> (refine Todo.of ?_))) | fail))
     rw [e2]
 . obtain ⟨hi,hk,_⟩ := hi
   have e2 := zr2 hi hk
   (have hcondQ := Bool.and_self; refine Todo.of ?_); (repeat' (first | ((with_reducible refine Todo.to ?_); (repeat (simp only [rT,rU,zb,dval,dBin,dInt,Nat.reduceEqDiff,↓reduceIte,reduceCtorEq,rI,zlc,e,hcondQ])))))
   rw [<- e,e2]
noncomputable def z8t : List DV -> List DObj -> Res := zrr (fun (x : X3 × Nat) a hp => a = [.sl (x.1.1.map cPln),.sl (il x.1.2.1),.int .i64 x.1.2.2] /\ x.2 = hp.length)
 (fun x => (True,.clo 54 [.ref [.sl (x.1.1.map cPln)],.ref [.sl (il x.1.2.1)],.ptr x.2 1 0 0])) fun x hp => hp ++ [⟨.loc,1,[[.int .i64 x.1.2.2]]⟩]
theorem ybf (l : List Pln) (old : List Int) (fuel : Int) (hp : List DObj) : z8t [.sl (l.map cPln),.sl (il old),.int .i64 fuel] hp = ⟨True,.clo 54 [.ref [.sl (l.map cPln)],.ref [.sl (il old)],.ptr hp.length 1 0 0],hp ++ [⟨.loc,1,[[.int .i64 fuel]]⟩]⟩ := by
 refine zis (x := ((l,old,fuel),hp.length)) ?_ ⟨rfl,rfl⟩
 rintro ⟨⟨a,b,c⟩,m⟩ ⟨⟨a',b',c'⟩,m'⟩ w hp ⟨rfl,rfl⟩ ⟨h,rfl⟩
 simp only [List.cons.injEq,DV.sl.injEq,DV.int.injEq,true_and,and_true] at h
 obtain ⟨h1,h2,rfl⟩ := h
 rw [zdm ztl _ _ h1,zwb h2]
theorem z4j : OkH Tryz.prog 25 z8t := by
 refine OkH.mkGH (ps := []) (hs := []) trivial trivial z5j (by rintro x a hp ⟨rfl,_⟩; rfl) ?_
 rintro ⟨⟨l,old,fuel⟩,m⟩ a hp ⟨rfl,rfl⟩ _
 
 ((have hcondQ := Bool.and_self; refine Todo.of ?_); (repeat' (first | ((with_reducible refine Todo.to ?_); (repeat (simp only [↓rP,rT,rU,zb,dval,zn,retV,DR.val,DV.immB,DV.one,cellsOf,Nat.reduceEqDiff,Nat.reduceAdd,↓reduceIte,reduceCtorEq,forall_const,zvv,hcondQ]))))))
theorem zz1 {l : List Pln} {old : List Int} {fuel : Int} (h : okPs l old fuel) : ∀ (r : List Pln) (u b : Int),(∀ p ∈ r,p ∈ l) -> 0 <= u -> u <= fuel.toNat -> 0 <= b -> zd7 r b old.length = true -> ∀ t ∈ zdt r old (fuel - u),t.v.length <= 20 /\ 0 <= t.n /\ t.n <= 20000
 | [],u,b,_,_,_,_,_,t,ht => by simp [zdt] at ht
 | p :: r,u,b,hs,u0,u1,b0,hr,t,ht => by
   obtain ⟨f1,f2⟩ := h.f
   have hq := zw3 hr
   have hp1 := h.one (f := fuel - u) (by omega) (hs p (by simp))
   have ho1 := z0t hp1 (z2v b0 hq.1)
   have on := one_n ho1
   have ov := one_v ho1
   have q1 := zic hq.1
   simp only [zdt] at ht
   rcases List.mem_cons.1 ht with rfl | ht
   . exact ⟨ov,on.1,by omega⟩
   . split at ht
     . rw [show fuel - u - (oneM p old (fuel - u)).n = fuel - (u + (oneM p old (fuel - u)).n) by omega] at ht
       exact zz1 h r _ (b + p.len) (fun q hq => hs q (by simp [hq])) (by omega) (by omega) (by omega) hq.2 t ht
     . simp at ht
theorem zw5 (old : List Int) : ∀ (r : List Pln) (f : Int),(zdt r old f).length <= r.length
 | [],f => Nat.le_refl _
 | p :: r,f => by
   simp only [zdt,List.length_cons]
   split
   . have := zw5 old r (f - (oneM p old f).n); omega
   . simp
noncomputable def yex : List DV -> Prop × DV := zec yb6 eIl eI fun l o f => (okPs l o f,resA (allF l o f))
theorem yfd (l : List Pln) (o : List Int) (f : Int) : yex [.sl (l.map cPln),.sl (il o),.int .i64 f] = (okPs l o f,resA (allF l o f)) := za2 z7y zsa zcr _ l o f
theorem z55 : OkP Tryz.prog 10 yex := by
 refine OkP.mk3I (ps := [(24,zj0)]) (hs := [(25,z8t)]) (is := [(54,z0f)]) ⟨zm5,trivial⟩ ⟨z4j,trivial⟩ ⟨ydc,trivial⟩ z97 fun l old fuel h => ?_
 have ho := h.o; have hn := h.n
 
 cases hr : zd7 l 0 old.length
 . have e2 : allF l old fuel = ([],0,1) := by unfold allF; rw [hr]; rfl
   rw [e2]
   ((refine Todo.of ?_); (repeat' (first | ((with_reducible refine Todo.to ?_); (repeat (simp only [↓rP,rT,rU,eI,eL,zb,dval,zn,dUn,zh,za,retV,retL,DR.val,fzT,fzVs,fzV,fz1,DV.immB,ze,zf,zp,zo,zi,zq,zw,DV.one,cellsOf,zk,Nat.reduceEqDiff,Nat.reduceAdd,↓reduceIte,reduceCtorEq,Nat.reduceLeDiff,forall_const,zq2,zj2,eIl,yb6,za9,zsx,hr,resA,za9 ]))) | ((with_reducible refine And.intro ?_ ?_); . omega) | fail)))
   all_goals rfl
 have e2 : allF l old fuel = zgm (zdt l old fuel) [] 0 := by unfold allF; rw [hr]; rfl
 rw [e2]
 have ee := fun hp => ybf l old fuel hp
 have q1 : (Orc.ofI [(24,zj0)] [(25,z8t)] [(54,z0f)]).i 54 [.ref [.sl (l.map cPln)],.ref [.sl (il old)],.agg [.int .i64 fuel]] = (True,(zdt l old fuel).map z0q) := by
   rw [ofI_i,ztq,if_pos rfl,z98]
   rw [eq_true (show yeu (l,old,fuel) from ⟨h,hr⟩)]
 have nT : ∀ t ∈ zdt l old fuel,t.v.length <= 20 /\ 0 <= t.n /\ t.n <= 20000 := by
   have := zz1 h l 0 0 (fun _ h => h) (Int.le_refl _) (by omega) (Int.le_refl _) hr
   rwa [Int.sub_zero] at this
 have nL := zw5 old l fuel
 ((refine Todo.of ?_); (repeat' (first | ((with_reducible refine Todo.to ?_); (repeat (simp only [↓rP,rT,rU,eI,eL,zb,dval,zn,dUn,DV.immB,ze,zf,zp,zo,zi,zq,zw,DV.one,cellsOf,zk,Nat.reduceEqDiff,Nat.reduceAdd,↓reduceIte,reduceCtorEq,Nat.reduceLeDiff,forall_const,zq2,zj2,eIl,yb6,za9,zsx,ofI_h,hr,za9,ee,↓z9l ]))) | ((with_reducible refine And.intro ?_ ?_); . omega) | fail)))
 left
 refine yap (zdt l old fuel) z0q (fun _ (a : List Int × Int) => [⟨.loc,1,[[.nil]]⟩,⟨.loc,1,[[.int .i64 0]]⟩,⟨.loc,1,[[.int .i64 0]]⟩,⟨.loc,1,[[.own 5 a.1.length 0 a.1.length]]⟩,⟨.loc,1,[[.int .i64 a.2]]⟩,⟨.imm,1,il a.1⟩,⟨.dead,1,[[.int .i64 fuel]]⟩])
   (fun k r a => zgm (zdt l old fuel) [] 0 = zgm r a.1 a.2 /\ a.1.length <= 20 * k /\ 0 <= a.2 /\ a.2 <= 20000 * k) ([],0) [(6,.ptr 0 1 0 0),(7,.ptr 1 1 0 0),(8,.ptr 2 1 0 0),(9,.ptr 3 1 0 0),(10,.ptr 4 1 0 0)]
   (Nat.zero_le _) rfl (by simp only [zg,List.map_cons,List.map_nil,zc,Nk.get_nil,Nat.reduceEqDiff,↓reduceIte,DV.cut,DV.inB,DObj.cut,List.take_nil,reduceCtorEq,decide_true,Nat.reduceLT,List.take_succ_cons]) ?_ ?_ q1 rfl ?_ ⟨rfl,Nat.le_refl _,Int.le_refl _,by simp⟩ (fun k x r a hx hd hi => ?_) (fun k a e hi => ?_)
 . simp only [zg,List.map_cons,List.map_nil,zc,Nk.get_nil,Nat.reduceEqDiff,↓reduceIte,DV.cut,DV.inB,DObj.cut,List.take_nil,reduceCtorEq,decide_true,Nat.reduceLT,List.take_succ_cons]
   simp [zbm,DV.immB]
 . simp only [zg,List.map_cons,List.map_nil,zc,Nk.get_nil,Nat.reduceEqDiff,↓reduceIte,DV.cut,DV.inB,DObj.cut,List.take_nil,reduceCtorEq,decide_true,Nat.reduceLT,List.take_succ_cons]
   simp [zbm]
 . simp only [zg,List.map_cons,List.map_nil,zc,Nk.get_nil,Nat.reduceEqDiff,↓reduceIte,DV.cut,DV.inB,DObj.cut,List.take_nil,reduceCtorEq,decide_true,Nat.reduceLT,List.take_succ_cons]
   simp [zbm,il]
 . obtain ⟨out,used⟩ := a
   obtain ⟨hi,hl,u0,u1⟩ := hi
   simp only at hi hl u0 u1
   have hk : k < (zdt l old fuel).length := (List.getElem?_eq_some_iff.1 hx).1
   obtain ⟨n1,n2,n3⟩ := nT x (List.mem_of_getElem? hx)
   have w2 : IntKind.i64.wrap (used + x.n) = used + x.n := z9 (by omega)
   simp only [zgm] at hi
   refine ⟨rfl,?_⟩
   by_cases c : x.e = 0
   . rw [if_pos c] at hi
     have lb : out.length + x.v.length <= 4294967296 := by omega
     ((refine Todo.of ?_); (repeat' (first | ((with_reducible refine Todo.to ?_); (repeat (simp only [↓rP,rT,rU,zb,dval,dBin,dInt,dStr,zh,za,zy,zax,zw,DV.one,alive,cellsOf,zk,zat,Nat.reduceEqDiff,Nat.reduceAdd,↓reduceIte,reduceCtorEq,Nat.reduceLeDiff,Nat.reduceLT,forall_const,za9,z8c,zff,z0q,List.zip_cons_cons,List.zip_nil_right,w2,c,lb,zx7 ]))))))
     refine ⟨(out ++ x.v,used + x.n),?_,hi,by simp; omega,by simp only; omega,by simp only; omega⟩
     simp only [zg,List.map_cons,List.map_nil,zc,Nk.get_nil,↓reduceIte,DV.cut,DV.inB,DObj.cut,List.take_zero,reduceCtorEq,decide_true,Nat.reduceLT,List.take_succ_cons,List.length_append,Nat.reduceLT]
   . rw [if_neg c] at hi
     rw [hi]
     have c1 : (x.e != 0) = true := by simp [c]
     ((refine Todo.of ?_); (repeat' (first | ((with_reducible refine Todo.to ?_); (repeat (simp only [↓rP,rT,rU,zjq,sepB,hdl,zb,dval,dBin,dInt,dStr,zh,za,retV,retL,DR.val,fzT,fzVs,fzV,fz1,DV.immB,zw,DV.one,alive,cellsOf,zk,Nat.reduceEqDiff,Nat.reduceAdd,↓reduceIte,reduceCtorEq,Nat.reduceLeDiff,Nat.reduceLT,forall_const,zff,z0q,List.zip_cons_cons,List.zip_nil_right,w2,c1,resA ]))))))
     all_goals rfl
 . obtain ⟨out,used⟩ := a
   obtain ⟨hi,_⟩ := hi
   simp only [zgm] at hi
   rw [hi]
   have tk : (il out).take out.length = il out := List.take_of_length_le (by rw [za9]; exact Nat.le_refl _)
   ((refine Todo.of ?_); (repeat' (first | ((with_reducible refine Todo.to ?_); (repeat (simp only [↓rP,rT,rU,zjq,sepB,hdl,zb,dval,zh,za,retV,retL,DR.val,fzT,fzVs,fzV,fz1,DV.immB,zy,zw,DV.one,freezeAt,cellsOf,zk,Nat.reduceEqDiff,↓reduceIte,reduceCtorEq,Nat.reduceLeDiff,forall_const,za9,resA,tk ]))))) <;> (try (exact Nat.le_refl _)))
end Go.Proofs.YtjgefhgkinocmaaGreat
