/- Which slots, shapes and images may be, by the document. -/
import Derived.Test.YtjgefhgkinocmaaGreatDfF
set_option linter.all false
set_option maxRecDepth 20000
namespace Go.Proofs.YtjgefhgkinocmaaGreat
open Go.Nk
theorem yb4 {hp : List DObj} {l : List Slt} {b : Int} (h2 : 0 <= b) (h3 : b <= l.length) : zc2 hp 6 (.sl (l.map cSlt)) none (some (.int .i64 b)) none = (True,.sl ((l.take b.toNat).map cSlt)) := by
 have hz : ∀ e ∈ l.map cSlt,e.length = 6 := by simp
 simp only [zc2,zbq,List.length_map,Option.isSome_none,Prod.mk.injEq]
 refine ⟨eq_true ⟨hz,trivial,trivial,trivial,by simp,Int.le_refl _,h2,Int.le_refl _,h3⟩,?_⟩
 simp
def zy5 (l : List En) (s : List Slt) (k : Nat) (x : Slt) : Bool := yfx x.path && zdh l x.ty x.ini && x.at_ == sumC (s.take k) && fndI s x.path == k
def znu (l : List En) (s : List Slt) : List Slt -> Nat -> Bool
 | [],_ => true
 | x :: r,k => zy5 l s k x && znu l s r (k + 1)
def zm6 (l : List En) (s : List Slt) : Bool := decide (s.length <= 120) && decide (sumC s <= 1000) && znu l s s 0
noncomputable def z1v : List DV -> Prop × DV := zbw eEns zs1 fun l s => (s.length <= 1000000 /\ (∀ x ∈ s,x.path.length <= 1000000 /\ x.ini.length <= 1000000),.bool (zm6 l s))
theorem z6e (l : List En) (s : List Slt) : z1v [.sl (l.map cEn),.sl (s.map cSlt)] = (s.length <= 1000000 /\ (∀ x ∈ s,x.path.length <= 1000000 /\ x.ini.length <= 1000000),.bool (zm6 l s)) := zac zfe zox _ l s
theorem zmx : OkP Tryz.prog 34 z1v := by
 refine OkP.mk2 (ps := [(18,z7u),(61,z9w),(19,ztt),(29,zhk)]) (hs := []) ⟨zx8,zhc,zry,zco,trivial⟩ trivial zpj fun l s h => ?_
 try dsimp only at h
 obtain ⟨h1,h2⟩ := h
 have e1 := zt2 s
 rw [eq_true (show s.length <= 1000000000 by omega)] at e1
 by_cases q : s.length <= 120 /\ sumC s <= 1000
 rotate_left
 . have hr : zm6 l s = false := by
     simp only [zm6]; grind
   ((have hcondQ := Bool.and_self; refine Todo.of ?_); (repeat' (first | ((with_reducible refine Todo.to ?_); (repeat (simp only [↓rP,rT,rU,eL,zb,dval,dBin,dInt,retV,DR.val,fzT,fzV,fz1,DV.immB,ze,zf,zp,zo,zi,zq,Nat.reduceEqDiff,↓reduceIte,zeq,eEns,zs1,e1,hr ,hcondQ]))) | (((first | ((with_reducible refine zd (t := ?_) ?_ (fun hcQ => ?_) (fun hcQ => ?_)); rotate_left; . (rfl)) | ((with_reducible refine zl (t := ?_) ?_ (fun hcQ => ?_) (fun hcQ => ?_)); rotate_left; . (rfl))) <;> (have hn := hcQ; have hcondQ := hcQ) <;> (try simp only [decide_eq_true_eq,decide_eq_false_iff_not] at hn) <;> (try (exfalso; omega)) <;> (refine Todo.of ?_))) | fail)))
   all_goals (exfalso; apply q; exact ⟨by omega,by omega⟩)
 obtain ⟨q1,q2⟩ := q
 have hr : zm6 l s = znu l s s 0 := by simp [zm6,q1,q2]
 rw [hr]
 ((have hcondQ := Bool.and_self; refine Todo.of ?_); (repeat' (first | ((with_reducible refine Todo.to ?_); (repeat (simp only [↓rP,rT,rU,eL,zb,dval,dBin,dInt,DV.immB,ze,zf,zp,zo,zi,zq,Nat.reduceEqDiff,↓reduceIte,zeq,eEns,zs1,e1 ,hcondQ]))) | (((first | ((with_reducible refine zd (t := ?_) ?_ (fun hcQ => ?_) (fun hcQ => ?_)); rotate_left; . (rfl)) | ((with_reducible refine zl (t := ?_) ?_ (fun hcQ => ?_) (fun hcQ => ?_)); rotate_left; . (rfl))) <;> (have hn := hcQ; have hcondQ := hcQ) <;> (try simp only [decide_eq_true_eq,decide_eq_false_iff_not] at hn) <;> (try (exfalso; omega)) <;> (refine Todo.of ?_))) | fail)))
 refine z0 s (fun k (_ : Unit) => ⟨[(0,.sl (l.map cEn)),(1,.sl (s.map cSlt)),(5,.int .i64 k)],[]⟩) (fun k r _ => znu l s r k = znu l s s 0) () (Nat.zero_le _) (by simp only [zg,List.map_cons,List.map_nil,zc,Nk.get_nil,Nat.reduceEqDiff,↓reduceIte,Nat.succ_ne_self,DV.cut,DV.inB,List.take_nil,reduceCtorEq] <;> rfl) rfl (fun k x r _ d hx hd hr2 => ?_) (fun k _ e hr2 => ?_)
 . obtain ⟨m1,m2⟩ := h2 x (zfd hd)
   have e2 := z4q x.path
   rw [eq_true m1] at e2
   have e3 := zvt l x.ty x.ini
   rw [eq_true (show x.ini.length <= 1000000000 by omega)] at e3
   have e4 := zt2 (s.take k)
   rw [eq_true (show (s.take k).length <= 1000000000 by simp; omega)] at e4
   have e5 := zdu s x.path
   rw [eq_true h1] at e5
   have e6 := @yb4 [] s (k : Int) (by omega) (by omega)
   simp only [Int.toNat_natCast] at e6
   simp only [znu] at hr2
   simp only [cTy] at e3
   ((have hcondQ := Bool.and_self; refine Todo.of ?_); (repeat' (first | ((with_reducible refine Todo.to ?_); (repeat (first | (simp only [↓rP,rT,rU,zb,dval,dBin,dInt,dUn,zh,za,retV,DR.val,fzT,fzV,fz1,DV.immB,ze,zf,zp,zo,zx,zi,zq,Nat.reduceEqDiff,Nat.reduceAdd,↓reduceIte,reduceCtorEq,Nat.reduceLeDiff,Nat.reduceLT,d,zm cSlt hx,e2,e3,e4,e5,e6 ,hcondQ]) | ((simp (disch := omega) only [z6]))))) | ((with_reducible refine And.intro ?_ ?_); . omega) | (((first | ((with_reducible refine zd (t := ?_) ?_ (fun hcQ => ?_) (fun hcQ => ?_)); rotate_left; . (rfl)) | ((with_reducible refine zl (t := ?_) ?_ (fun hcQ => ?_) (fun hcQ => ?_)); rotate_left; . (rfl))) <;> (have hn := hcQ; have hcondQ := hcQ) <;> (try simp only [bne_iff_ne,ne_eq,bne_eq_false_iff_eq,Bool.not_eq_true',Bool.not_eq_false'] at hn) <;> (refine Todo.of ?_))) | fail)))
   all_goals first
     | exact ⟨(),by simp only [zg,List.map_cons,List.map_nil,zc,Nk.get_nil,Nat.reduceEqDiff,↓reduceIte,Nat.succ_ne_self,DV.cut,DV.inB,List.take_nil,reduceCtorEq,Int.natCast_add,Int.natCast_one] <;> rfl,by grind [zy5]⟩
     | grind [zy5]
 . simp only [znu] at hr2
   ((refine Todo.of ?_); (repeat' (first | ((with_reducible refine Todo.to ?_); (repeat (simp only [↓rP,rT,rU,zb,dval,dBin,dInt,retV,DR.val,fzT,fzV,fz1,DV.immB,Nat.reduceEqDiff,↓reduceIte,reduceCtorEq,e,<- hr2 ]))))))
def zl0 (s : ShpF) (k : Int) : Bool := k == 1 || k == 2 || (decide (3 <= k) && decide (k < 3 + s.ctors.length))
noncomputable def zzq : List DV -> Prop × DV := zbw ycm eI fun s k => (s.ctors.length <= 1000000,.bool (zl0 s k))
theorem z6m (s : ShpF) (k : Int) : zzq [.agg (cShp s),.int .i64 k] = (s.ctors.length <= 1000000,.bool (zl0 s k)) := zac z79 zcr _ s k
theorem znb : OkP Tryz.prog 64 zzq := by
 refine OkP.mk2 (ps := []) (hs := []) trivial trivial zp2 fun s k h => ?_
 try dsimp only at h
 have h : s.ctors.length <= 1000000 := h
 ((have hcondQ := Bool.and_self; refine Todo.of ?_); (repeat' (first | ((with_reducible refine Todo.to ?_); (repeat (first | (simp only [↓rP,rT,rU,eI,eA,zb,dval,dBin,dInt,zh,za,retV,DR.val,fzT,fzV,fz1,DV.immB,DV.one,alive,cellsOf,Nat.reduceEqDiff,Nat.reduceAdd,↓reduceIte,reduceCtorEq,Nat.reduceLT,forall_const,zib,ycm,zae,hcondQ]) | ((simp (disch := omega) only [z6]))))) | (((((with_reducible refine zl (t := ?_) ?_ (fun hcQ => ?_) (fun hcQ => ?_)); rotate_left; . (rfl))) <;> (have hn := hcQ; have hcondQ := hcQ) <;> (try simp only [decide_eq_true_eq,decide_eq_false_iff_not,beq_iff_eq,ne_eq,beq_eq_false_iff_ne] at hn) <;> (refine Todo.of ?_))) | fail)))
 all_goals grind [zl0]
def zjt (s : ShpF) : Bool := decide (s.ctors.length <= 4) && decide (s.kinds.length <= 1000) && decide (0 <= s.lo) && decide (s.hi <= s.kinds.length) && decide (s.lo <= s.hi) && s.ctors.all (fun n => decide (1 <= n)) && s.kinds.all (zl0 s)
noncomputable def zuc : List DV -> Prop × DV := zbp ycm fun s => (True,.bool (zjt s))
theorem z35 (s : ShpF) : zuc [.agg (cShp s)] = (True,.bool (zjt s)) := z8 z79 _ s
theorem zl2 : OkP Tryz.prog 38 zuc := by
 refine OkP.mk1 (ps := [(64,zzq)]) (hs := []) ⟨znb,trivial⟩ trivial zoe fun s _ => ?_
 by_cases q : s.ctors.length <= 4 /\ s.kinds.length <= 1000 /\ 0 <= s.lo /\ s.hi <= s.kinds.length /\ s.lo <= s.hi
 rotate_left
 . have hr : zjt s = false := by
     simp only [zjt]; grind
   ((have hcondQ := Bool.and_self; refine Todo.of ?_); (repeat' (first | ((with_reducible refine Todo.to ?_); (repeat (simp only [↓rP,rT,rU,eA,zb,dval,dBin,dInt,zh,za,retV,DR.val,fzT,fzV,fz1,DV.immB,DV.one,alive,cellsOf,Nat.reduceEqDiff,Nat.reduceAdd,↓reduceIte,reduceCtorEq,Nat.reduceLT,forall_const,zeu,ycm,zae,hr ,hcondQ]))) | (((first | ((with_reducible refine zd (t := ?_) ?_ (fun hcQ => ?_) (fun hcQ => ?_)); rotate_left; . (rfl)) | ((with_reducible refine zl (t := ?_) ?_ (fun hcQ => ?_) (fun hcQ => ?_)); rotate_left; . (rfl))) <;> (have hn := hcQ; have hcondQ := hcQ) <;> (try simp only [decide_eq_true_eq,decide_eq_false_iff_not] at hn) <;> (try (exfalso; omega)) <;> (refine Todo.of ?_))) | fail)))
   all_goals (exfalso; apply q; exact ⟨by omega,by omega,by omega,by omega,by omega⟩)
 obtain ⟨q1,q2,q3,q4,q5⟩ := q
 have hr : zjt s = (s.ctors.all (fun n => decide (1 <= n)) && s.kinds.all (zl0 s)) := by simp [zjt,q1,q2,q3,q4,q5]
 rw [hr]
 clear hr
 ((have hcondQ := Bool.and_self; refine Todo.of ?_); (repeat' (first | ((with_reducible refine Todo.to ?_); (repeat (simp only [↓rP,rT,rU,eA,zb,dval,dBin,dInt,zh,za,DV.one,alive,cellsOf,Nat.reduceEqDiff,Nat.reduceAdd,↓reduceIte,reduceCtorEq,Nat.reduceLT,forall_const,zeu,ycm,zae,hcondQ]))) | (((first | ((with_reducible refine zd (t := ?_) ?_ (fun hcQ => ?_) (fun hcQ => ?_)); rotate_left; . (rfl)) | ((with_reducible refine zl (t := ?_) ?_ (fun hcQ => ?_) (fun hcQ => ?_)); rotate_left; . (rfl))) <;> (have hn := hcQ; have hcondQ := hcQ) <;> (try simp only [decide_eq_true_eq,decide_eq_false_iff_not] at hn) <;> (try (exfalso; omega)) <;> (refine Todo.of ?_))) | fail)))
 refine z0 s.ctors (fun k (_ : Unit) => ⟨[(1,.ptr 0 1 0 0),(3,.int .i64 k)],[⟨.loc,4,[cShp s]⟩]⟩) (fun k r _ => r.all (fun n => decide (1 <= n)) = s.ctors.all (fun n => decide (1 <= n))) () (Nat.zero_le _) (by simp only [zg,List.map_cons,List.map_nil,zc,Nk.get_nil,Nat.reduceEqDiff,↓reduceIte,DV.cut,DV.inB,DObj.cut,List.take_nil,Nat.zero_lt_one,decide_true,List.take_succ_cons] <;> rfl) rfl (fun k x r _ d hx hd hr => ?_) (fun k _ e hr => ?_)
 . simp only [List.all_cons] at hr
   ((have hcondQ := Bool.and_self; refine Todo.of ?_); (repeat' (first | ((with_reducible refine Todo.to ?_); (repeat (first | (simp only [↓rP,rT,rU,zb,dval,dBin,dInt,zh,za,retV,DR.val,fzT,fzV,fz1,DV.immB,alive,Nat.reduceEqDiff,Nat.reduceAdd,↓reduceIte,reduceCtorEq,Nat.reduceLT,zae,d,ils_at hx ,hcondQ]) | ((simp (disch := omega) only [z6]))))) | ((with_reducible refine And.intro ?_ ?_); . omega) | (((((with_reducible refine zd (t := ?_) ?_ (fun hcQ => ?_) (fun hcQ => ?_)); rotate_left; . (rfl))) <;> (have hn := hcQ; have hcondQ := hcQ) <;> (try simp only [decide_eq_true_eq,decide_eq_false_iff_not] at hn) <;> (refine Todo.of ?_))) | fail)))
   all_goals first
     | exact ⟨(),by simp only [zg,List.map_cons,List.map_nil,zc,Nk.get_nil,Nat.reduceEqDiff,↓reduceIte,DV.cut,DV.inB,DObj.cut,List.take_nil,Nat.zero_lt_one,decide_true,List.take_succ_cons,Int.natCast_add,Int.natCast_one] <;> rfl,by grind⟩
     | grind
 simp only [List.all_nil] at hr
 rw [<- hr,Bool.true_and]
 ((refine Todo.of ?_); (repeat' (first | ((with_reducible refine Todo.to ?_); (repeat (simp only [↓rP,rT,rU,zb,dval,dBin,dInt,zh,za,alive,Nat.reduceEqDiff,Nat.reduceAdd,↓reduceIte,reduceCtorEq,Nat.reduceLT,zae,e ]))))))
 refine z0 s.kinds (fun k (_ : Unit) => ⟨[(1,.ptr 0 1 0 0),(4,.int .i64 k)],[⟨.loc,4,[cShp s]⟩]⟩) (fun k r _ => r.all (zl0 s) = s.kinds.all (zl0 s)) () (Nat.zero_le _) (by simp only [zg,List.map_cons,List.map_nil,zc,Nk.get_nil,Nat.reduceEqDiff,↓reduceIte,DV.cut,DV.inB,DObj.cut,List.take_nil,Nat.zero_lt_one,decide_true,List.take_succ_cons] <;> rfl) rfl (fun k x r _ d hx hd hr => ?_) (fun k _ e hr => ?_)
 . simp only [List.all_cons] at hr
   have e1 := z6m s x
   rw [eq_true (show s.ctors.length <= 1000000 by omega)] at e1
   simp only [cShp] at e1
   ((have hcondQ := Bool.and_self; refine Todo.of ?_); (repeat' (first | ((with_reducible refine Todo.to ?_); (repeat (first | (simp only [↓rP,rT,rU,zb,dval,dBin,dInt,dUn,zh,za,retV,DR.val,fzT,fzV,fz1,DV.immB,ze,zf,zp,zo,zx,zi,zq,alive,Nat.reduceEqDiff,Nat.reduceAdd,↓reduceIte,reduceCtorEq,Nat.reduceLeDiff,Nat.reduceLT,zae,d,ils_at hx,e1 ,hcondQ]) | ((simp (disch := omega) only [z6]))))) | ((with_reducible refine And.intro ?_ ?_); . omega) | (((((with_reducible refine zd (t := ?_) ?_ (fun hcQ => ?_) (fun hcQ => ?_)); rotate_left; . (rfl))) <;> (have hn := hcQ; have hcondQ := hcQ) <;> (try simp only [Bool.not_eq_true',Bool.not_eq_false'] at hn) <;> (refine Todo.of ?_))) | fail)))
   all_goals first
     | exact ⟨(),by simp only [zg,List.map_cons,List.map_nil,zc,Nk.get_nil,Nat.reduceEqDiff,↓reduceIte,DV.cut,DV.inB,DObj.cut,List.take_nil,Nat.zero_lt_one,decide_true,List.take_succ_cons,Int.natCast_add,Int.natCast_one] <;> rfl,by grind⟩
     | grind
 . simp only [List.all_nil] at hr
   ((refine Todo.of ?_); (repeat' (first | ((with_reducible refine Todo.to ?_); (repeat (simp only [↓rP,rT,rU,zb,dval,dBin,dInt,zh,za,retV,DR.val,fzT,fzV,fz1,DV.immB,alive,Nat.reduceEqDiff,Nat.reduceAdd,↓reduceIte,reduceCtorEq,Nat.reduceLT,zae,e,<- hr ]))))))
set_option linter.all false
set_option maxRecDepth 20000
open Go.Nk
def zya (l : List En) (p : Prt) : Bool := lowF p.name && zbj l p.ty
def zvb (l : List Prt) : List (List UInt8) := l.map (·.name)
def zpr (x : Img) : Bool := zm8 x.en == 0 && decide (x.ins.length <= 6) && decide (1 <= x.outs.length) && decide (x.outs.length <= 6) && zm6 x.en x.slots && (x.ins ++ x.outs).all (zya x.en) && zsm (zvb (x.ins ++ x.outs)) && zjt (z4a x)
def yfm (x : Img) : Prop := z5x x /\ ∀ s ∈ x.slots,s.path.length <= 1000000 /\ s.ini.length <= 1000000
noncomputable def yd7 : List DV -> Prop × DV := zbp eImg fun x => (yfm x,.bool (zpr x))
theorem z2o (x : Img) : yd7 [.agg (cImg x)] = (yfm x,.bool (zpr x)) := z8 za4 _ x
theorem zo3 : OkP Tryz.prog 15 yd7 := by
 refine OkP.mk1 (ps := [(33,z10),(34,z1v),(35,yaa),(36,zdy),(37,z3c),(39,z7i),(38,zuc)]) (hs := []) ⟨zmf,zmx,zdd,zel,zet,zmi,zl2,trivial⟩ trivial zrm fun x h => ?_
 try dsimp only at h
 obtain ⟨h1,h2⟩ := h
 have h1' := h1
 obtain ⟨l1,l2,l3,l4,l5⟩ := h1
 have e1 := z6a x.en
 have e2 := z6e x.en x.slots
 rw [eq_true (show x.slots.length <= 1000000 /\ (∀ s ∈ x.slots,s.path.length <= 1000000 /\ s.ini.length <= 1000000) from ⟨l2,h2⟩)] at e2
 by_cases q : zm8 x.en = 0 /\ x.ins.length <= 6 /\ 1 <= x.outs.length /\ x.outs.length <= 6 /\ zm6 x.en x.slots = true
 rotate_left
 . have hr : zpr x = false := by
     simp only [zpr]; grind
   ((have hcondQ := Bool.and_self; refine Todo.of ?_); (repeat' (first | ((with_reducible refine Todo.to ?_); (repeat (simp only [↓rP,rT,rU,eA,zb,DOp.kind,dval,dBin,dInt,dUn,zh,za,retV,DR.val,fzT,fzV,fz1,DV.immB,ze,zf,zp,zo,zi,zq,zy,zax,fzLL,cellsOf,zat,Nat.reduceEqDiff,Nat.reduceAdd,↓reduceIte,reduceCtorEq,Nat.reduceLT,forall_const,zfh,eImg,e1,e2,hr ,hcondQ]))) | ((with_reducible refine And.intro ?_ ?_); . (simp; omega)) | (((first | ((with_reducible refine zd (t := ?_) ?_ (fun hcQ => ?_) (fun hcQ => ?_)); rotate_left; . (rfl)) | ((with_reducible refine zl (t := ?_) ?_ (fun hcQ => ?_) (fun hcQ => ?_)); rotate_left; . (rfl))) <;> (have hn := hcQ; have hcondQ := hcQ) <;> (try simp only [decide_eq_true_eq,decide_eq_false_iff_not,bne_iff_ne,ne_eq,bne_eq_false_iff_eq,Bool.not_eq_true',Bool.not_eq_false'] at hn) <;> (refine Todo.of ?_))) | fail)))
   all_goals (exfalso; apply q; refine ⟨?_,by omega,by omega,by omega,?_⟩ <;> grind)
 obtain ⟨q1,q2,q3,q4,q5⟩ := q
 have hr : zpr x = ((x.ins ++ x.outs).all (zya x.en) && (zsm (zvb (x.ins ++ x.outs)) && zjt (z4a x))) := by simp [zpr,q1,q2,q3,q4,q5,Bool.and_assoc]
 rw [hr]
 clear hr
 have r1 := ztm x.ins
 have r2 := ztm x.outs
 rw [q1] at e1
 rw [q5] at e2
 ((have hcondQ := Bool.and_self; refine Todo.of ?_); (repeat' (first | ((with_reducible refine Todo.to ?_); (repeat (simp only [↓rP,rT,rU,eA,zb,DOp.kind,dval,dBin,dInt,dUn,zh,za,DV.immB,ze,zf,zp,zo,zi,zq,zy,zax,fzLL,cellsOf,zat,Nat.reduceEqDiff,Nat.reduceAdd,↓reduceIte,reduceCtorEq,Nat.reduceLT,forall_const,zfh,eImg,e1,e2,hcondQ]))) | ((with_reducible refine And.intro ?_ ?_); . (simp; omega)) | (((((with_reducible refine zl (t := ?_) ?_ (fun hcQ => ?_) (fun hcQ => ?_)); rotate_left; . (rfl))) <;> (have hn := hcQ; have hcondQ := hcQ) <;> (try simp only [decide_eq_true_eq,decide_eq_false_iff_not] at hn) <;> (try (exfalso; omega)) <;> (refine Todo.of ?_))) | fail)))
 refine z0 (x.ins ++ x.outs) (fun k (o : List (List UInt8)) => ⟨[(1,.ref (cImg x)),(3,.own 0 (x.ins.length + x.outs.length) 0 (x.ins.length + x.outs.length)),(4,.own 1 o.length 0 o.length),(5,.int .i64 k)],[⟨.imm,4,(x.ins ++ x.outs).map cPrt⟩,⟨.imm,1,sls o⟩]⟩)
   (fun k r o => r.all (zya x.en) = (x.ins ++ x.outs).all (zya x.en) /\ o ++ zvb r = zvb (x.ins ++ x.outs) /\ o.length = k) [] (Nat.zero_le _) (by simp only [zg,List.map_cons,List.map_nil,zc,Nk.get_nil,Nat.reduceEqDiff,↓reduceIte,DV.cut,DV.inB,DObj.cut,List.take_nil,reduceCtorEq,decide_true,Nat.reduceLT,List.take_succ_cons,List.length_nil,List.map_append] <;> rfl) ⟨rfl,rfl,rfl⟩ (fun k y r o d hy hd hr2 => ?_) (fun k o e hr2 => ?_)
 . obtain ⟨g1,g2,g3⟩ := hr2
   simp only [List.all_cons] at g1
   simp only [zvb,List.map_cons] at g2
   rw [List.length_append] at d
   have e3 := zb0 x.en y.ty
   simp only [cTy] at e3
   ((have hcondQ := Bool.and_self; refine Todo.of ?_); (repeat' (first | ((with_reducible refine Todo.to ?_); (repeat (first | (simp only [↓rP,rT,rU,zb,dval,dBin,dInt,dUn,zh,za,retV,DR.val,fzT,fzV,fz1,DV.immB,ze,zf,zp,zo,zx,zi,zq,zy,zax,alive,fzLL,fzL,bRow,bU,cellsOf,DV.isU,zat,Nat.reduceEqDiff,Nat.reduceAdd,↓reduceIte,reduceCtorEq,Nat.reduceLeDiff,Nat.reduceLT,forall_const,zk4,z7,d,zm cPrt hy,e3,ztn ,hcondQ]) | ((simp (disch := omega) only [z6]))))) | ((with_reducible refine And.intro ?_ ?_); . omega) | (((first | ((with_reducible refine zd (t := ?_) ?_ (fun hcQ => ?_) (fun hcQ => ?_)); rotate_left; . (rfl)) | ((with_reducible refine zl (t := ?_) ?_ (fun hcQ => ?_) (fun hcQ => ?_)); rotate_left; . (rfl))) <;> (have hn := hcQ; have hcondQ := hcQ) <;> (try simp only [Bool.not_eq_true',Bool.not_eq_false'] at hn) <;> (refine Todo.of ?_))) | fail)))
   all_goals first
     | exact ⟨o ++ [y.name],by simp only [zg,List.map_cons,List.map_nil,zc,Nk.get_nil,Nat.reduceEqDiff,↓reduceIte,DV.cut,DV.inB,DObj.cut,List.take_nil,reduceCtorEq,decide_true,Nat.reduceLT,List.take_succ_cons,Int.natCast_add,Int.natCast_one,List.length_append,List.length_cons,List.length_nil,Nat.zero_add,List.map_append] <;> rfl,by grind [zya],by simpa [zvb] using g2,by simp [g3]⟩
     | grind [zya]
 obtain ⟨g1,g2,g3⟩ := hr2
 simp only [List.all_nil] at g1
 rw [<- g1,Bool.true_and]
 rw [show zvb [] = [] from rfl,List.append_nil] at g2
 rw [<- g2]
 rw [List.length_append] at e
 have e3 := zu2 o
 rw [eq_true (show o.length <= 1000000000 by omega)] at e3
 have e4 := ybe x
 rw [eq_true h1'] at e4
 have e5 := z35 (z4a x)
 simp only [cImg] at e4
 ((have hcondQ := Bool.and_self; refine Todo.of ?_); (repeat' (first | ((with_reducible refine Todo.to ?_); (repeat (simp only [↓rP,rT,rU,zb,dval,dBin,dInt,zh,za,retV,DR.val,fzT,fzVs,fzV,fz1,DV.immB,ze,zf,zp,zo,zx,zi,zq,zy,alive,fzL,Nat.reduceEqDiff,Nat.reduceAdd,↓reduceIte,reduceCtorEq,Nat.reduceLeDiff,z7,zwo,e,e3,e4,e5,zwo ,hcondQ]))) | ((with_reducible refine And.intro ?_ ?_); . omega) | (((((with_reducible refine zl (t := ?_) ?_ (fun hcQ => ?_) (fun hcQ => ?_)); rotate_left; . (rfl))) <;> (have hn := hcQ; have hcondQ := hcQ) <;> (try simp only [decide_eq_true_eq,decide_eq_false_iff_not,beq_iff_eq,bne_iff_ne,ne_eq,Bool.and_eq_true,Bool.or_eq_true,Bool.not_eq_true,Bool.not_eq_false,beq_eq_false_iff_ne,bne_eq_false_iff_eq,Bool.not_eq_true',Bool.not_eq_false',Int.ofNat_lt,Int.ofNat_le,Bool.or_eq_false_iff,Bool.and_eq_false_imp,Decidable.not_not,gt_iff_lt,ge_iff_le] at hn) <;> (refine Todo.of ?_))) | fail)))
 all_goals grind
theorem z2g {l : List En} {s : List Slt} : ∀ (r : List Slt) (k : Nat),znu l s r k = true -> ∀ (j : Nat) (x : Slt),r[j]? = some x -> zy5 l s (k + j) x = true
 | [],_,_,j,x,h => by simp at h
 | y :: r,k,h,j,x,hx => by
   simp only [znu,Bool.and_eq_true] at h
   cases j with
   | zero => simp at hx; subst hx; exact h.1
   | succ j =>
     have := z2g r (k + 1) h.2 j x (by simpa using hx)
     rw [show k + (j + 1) = k + 1 + j by omega]
     exact this
theorem zrf {x : Img} (h : fewF x = true) : yfm x := by
 simp only [fewF,zgh,Bool.and_eq_true,decide_eq_true_eq,List.all_eq_true] at h
 obtain ⟨⟨⟨⟨⟨⟨⟨h1,h2⟩,h3⟩,h4⟩,h5⟩,h6⟩,h7⟩,h8⟩ := h
 refine ⟨⟨by omega,by omega,by omega,by omega,by omega⟩,fun s hs => ?_⟩
 have := h8 s hs
 simp only [fewS,Bool.and_eq_true,decide_eq_true_eq] at this
 omega
end Go.Proofs.YtjgefhgkinocmaaGreat
