/- A plan that keeps each slot: what it makes of a state is the state. -/
import Derived.Test.YtjgefhgkinocmaaGreatMvE
import Derived.Test.YtjgefhgkinocmaaGreatDfI
import Derived.Test.YtjgefhgkinocmaaGreatTyM
import Derived.Test.YtjgefhgkinocmaaGreatNkZ6
set_option linter.all false
set_option maxRecDepth 20000
namespace Go.Proofs.YtjgefhgkinocmaaGreat
open Go.Nk
def sumR (l : List Slt) : Int := (l.map fun s => zt s.ty).sum
theorem z7q : ∀ l : List Slt,0 <= sumR l
 | [] => by simp [sumR]
 | x :: l => by
   have h := zad x.ty
   have ih := z7q l
   unfold sumR at ih |-
   simp only [List.map_cons,List.sum_cons]
   omega
theorem zh3 (x : Slt) (l : List Slt) : sumR (x :: l) = zt x.ty + sumR l := by simp [sumR]
def z1e : Int -> List Slt -> Prop
 | _,[] => True
 | a,s :: r => s.at_ = a /\ z1e (a + zt s.ty) r
theorem z5c (l : List Slt) : sumC l = sumR l := by
 have key : ∀ (l : List Slt) (n : Int),l.foldl (fun n s => n + zt s.ty) n = n + sumR l := by
   intro l
   induction l with
   | nil => intro n; simp [sumR]
   | cons x l ih => intro n; rw [List.foldl_cons,ih,zh3]; omega
 have := key l 0
 rw [Int.zero_add] at this
 exact this
theorem zyn {l : List Slt} (h : ∀ (k : Nat) x,l[k]? = some x -> x.at_ = sumC (l.take k)) : ∀ m k,m + k = l.length -> z1e (sumC (l.take k)) (l.drop k)
 | 0,k,e => by rw [List.drop_of_length_le (by omega)]; trivial
 | m + 1,k,e => by
   have hk : k < l.length := by omega
   have hx : l[k]? = some l[k] := List.getElem?_eq_getElem hk
   rw [List.drop_eq_getElem_cons hk]
   have e1 : l.getD k default = l[k] := by simp [hk]
   have ih := zyn h m (k + 1) (by omega)
   rw [zub hk,e1] at ih
   exact ⟨h k _ hx,ih⟩
theorem chain_of {l : List Slt} (h : ∀ (k : Nat) x,l[k]? = some x -> x.at_ = sumC (l.take k)) : z1e 0 l := by
 have := zyn h l.length 0 (by omega)
 rwa [List.take_zero,List.drop_zero] at this
set_option linter.all false
set_option maxRecDepth 20000
open Go.Nk
structure Cll where
 path : List UInt8
 vals : List Int
@[reducible] def cCll (c : Cll) : List DV := [.str c.path,.sl (ils c.vals)]
theorem cll_snoc (o : List Cll) (p : List UInt8) (v : List Int) : o.map cCll ++ [[.str p,.sl (ils v)]] = (o ++ [(⟨p,v⟩ : Cll)]).map cCll := by simp
def znx (m : List Int) (x : Slt) : Bool := decide (0 <= x.at_) && decide (x.at_ <= m.length - zt x.ty)
def zud (m : List Int) (x : Slt) : Cll := ⟨x.path,(m.take (x.at_ + zt x.ty).toNat).drop x.at_.toNat⟩
def zkh (s : List Slt) (m : List Int) : List Cll := if s.all (znx m) = true then s.map (zud m) else []
noncomputable def yge : List DV -> Prop × DV := zbw zs1 eIls fun s m => (s.length <= 1000000 /\ m.length <= 1000000000000000,.sl ((zkh s m).map cCll))
theorem ycx (s : List Slt) (m : List Int) : yge [.sl (s.map cSlt),.sl (ils m)] = (s.length <= 1000000 /\ m.length <= 1000000000000000,.sl ((zkh s m).map cCll)) := zac zox zl3 _ s m
theorem znz : OkP Tryz.prog 17 yge := by
 refine OkP.mk2 (ps := [(30,zcg)]) (hs := []) ⟨zc6,trivial⟩ trivial zq4 fun s m h => ?_
 try dsimp only at h
 obtain ⟨h1,h2⟩ := h
 ((refine Todo.of ?_); (repeat' (first | ((with_reducible refine Todo.to ?_); (repeat (simp only [↓rP,rT,rU,eL,zb,dval,fzLL,Nat.reduceAdd,↓reduceIte,reduceCtorEq,forall_const,zh9,eIls,zs1 ]))))))
 refine z0 s (fun k (o : List Cll) => ⟨[(0,.sl (s.map cSlt)),(1,.sl (ils m)),(5,.own 0 o.length 0 o.length),(6,.int .i64 k)],[⟨.imm,2,o.map cCll⟩]⟩)
   (fun k r o => o.length = k /\ zkh s m = if r.all (znx m) = true then o ++ r.map (zud m) else []) [] (Nat.zero_le _) (by simp only [zg,List.map_cons,List.map_nil,zc,Nk.get_nil,Nat.reduceEqDiff,↓reduceIte,Nat.succ_ne_self,DV.cut,DV.inB,DObj.cut,List.take_nil,reduceCtorEq,Nat.zero_lt_one,decide_true,List.take_succ_cons,List.length_nil] <;> rfl) ⟨rfl,rfl⟩ (fun k x r o d hx hd hr => ?_) (fun k o e hr => ?_)
 . obtain ⟨g1,g2⟩ := hr
   have e1 := zbn x.ty
   have hb := zad x.ty
   simp only [cTy] at e1
   have w1 : IntKind.i64.wrap ((m.length : Int) - zt x.ty) = m.length - zt x.ty := z9 (by omega)
   cases hq : znx m x
   . have hr : zkh s m = [] := by rw [g2,List.all_cons,hq,Bool.false_and]; rfl
     rw [hr]
     simp only [znx,Bool.and_eq_false_iff,decide_eq_false_iff_not] at hq
     ((have hcondQ := Bool.and_self; refine Todo.of ?_); (repeat' (first | ((with_reducible refine Todo.to ?_); (repeat (simp only [↓rP,rT,rU,zb,dval,dBin,dInt,zh,za,retV,DR.val,fzT,fzV,fz1,DV.immB,ze,zf,zp,zo,zx,zi,zq,Nat.reduceEqDiff,Nat.reduceAdd,↓reduceIte,reduceCtorEq,Nat.reduceLeDiff,Nat.reduceLT,zae,d,zm cSlt hx,e1,w1 ,hcondQ]))) | ((with_reducible refine And.intro ?_ ?_); . omega) | (((first | ((with_reducible refine zd (t := ?_) ?_ (fun hcQ => ?_) (fun hcQ => ?_)); rotate_left; . (rfl)) | ((with_reducible refine zl (t := ?_) ?_ (fun hcQ => ?_) (fun hcQ => ?_)); rotate_left; . (rfl))) <;> (have hn := hcQ; have hcondQ := hcQ) <;> (try simp only [decide_eq_true_eq,decide_eq_false_iff_not] at hn) <;> (try (exfalso; omega)) <;> (refine Todo.of ?_))) | fail)))
     all_goals first | rfl | omega
   . simp only [List.all_cons,hq,Bool.true_and] at g2
     simp only [znx,Bool.and_eq_true,decide_eq_true_eq] at hq
     obtain ⟨q1,q2⟩ := hq
     have w2 : IntKind.i64.wrap (x.at_ + zt x.ty) = x.at_ + zt x.ty := z9 (by omega)
     have c1 : decide (x.at_ < 0) = false := decide_eq_false (by omega)
     have c2 : decide (x.at_ > (m.length : Int) - zt x.ty) = false := decide_eq_false (by omega)
     have c3 : decide ((m.length : Int) - zt x.ty < x.at_) = false := decide_eq_false (by omega)
     have e2 := fun hp => zv9 (hp := hp) (l := m) (a := x.at_) (b := x.at_ + zt x.ty) q1 (by omega) (by omega)
     ((have hcondQ := Bool.and_self; refine Todo.of ?_); (repeat' (first | ((with_reducible refine Todo.to ?_); (repeat (first | (simp only [↓rP,rT,rU,zr,zb,DOp.kind,dval,dBin,dInt,zh,za,fz1,DV.immB,ze,zf,zp,zo,zx,zi,zq,zy,zax,fzLL,fzL,bRow,bU,cellsOf,zk,DV.isU,zat,Nat.reduceEqDiff,Nat.reduceAdd,↓reduceIte,reduceCtorEq,Nat.reduceLeDiff,Nat.reduceLT,forall_const,zae,d,zm cSlt hx,e1,e2,w1,w2,c1,c2,cll_snoc ,hcondQ]) | ((simp (disch := omega) only [z6]))))) | ((with_reducible refine And.intro ?_ ?_); . omega) | fail)))
     all_goals first
       | exact ⟨o ++ [zud m x],by simp only [zg,List.map_cons,List.map_nil,zc,Nk.get_nil,Nat.reduceEqDiff,↓reduceIte,Nat.succ_ne_self,DV.cut,DV.inB,DObj.cut,List.take_nil,reduceCtorEq,Nat.zero_lt_one,decide_true,List.take_succ_cons,Int.natCast_add,Int.natCast_one,List.length_append,List.length_cons,List.length_nil,Nat.zero_add,List.map_append] <;> rfl,by simp; omega,by rw [g2]; simp [zud]⟩
 . obtain ⟨g1,g2⟩ := hr
   simp only [List.all_nil,if_true,List.map_nil,List.append_nil] at g2
   rw [g2]
   ((refine Todo.of ?_); (repeat' (first | ((with_reducible refine Todo.to ?_); (repeat (simp only [↓rP,rT,rU,zb,dval,dBin,dInt,retV,DR.val,fzT,fzV,fz1,zy,freezeAt,Nat.reduceEqDiff,↓reduceIte,reduceCtorEq,e ]))) | ((with_reducible refine And.intro ?_ ?_); . omega) | fail)))
   all_goals first
     | exact congrArg DV.sl (List.take_of_length_le (by simp))
def zfx (l : List En) : List Slt -> List Cll -> Bool
 | s :: r,c :: q => zdh l s.ty c.vals && zfx l r q
 | _,_ => true
def ze9 (x : Img) (st : List Int) : Bool := (st.length : Int) == sumC x.slots && (zkh x.slots st).length == x.slots.length && zfx x.en x.slots (zkh x.slots st)
noncomputable def zxi : List DV -> Prop × DV := zbw eImg eIls fun x st => (x.slots.length <= 1000000 /\ st.length <= 1000000000000000,.bool (ze9 x st))
theorem zrs (x : Img) (st : List Int) : zxi [.agg (cImg x),.sl (ils st)] = (x.slots.length <= 1000000 /\ st.length <= 1000000000000000,.bool (ze9 x st)) := zac za4 zl3 _ x st
theorem zme : OkP Tryz.prog 6 zxi := by
 refine OkP.mk2 (ps := [(17,yge),(18,z7u),(19,ztt)]) (hs := []) ⟨znz,zx8,zry,trivial⟩ trivial zng fun x st h => ?_
 try dsimp only at h
 obtain ⟨h1,h2⟩ := h
 have e1 := ycx x.slots st
 rw [eq_true (show x.slots.length <= 1000000 /\ st.length <= 1000000000000000 from ⟨h1,h2⟩)] at e1
 have e2 := zt2 x.slots
 rw [eq_true (show x.slots.length <= 1000000000 by omega)] at e2
 have rl : (zkh x.slots st).length <= x.slots.length := by unfold zkh; split <;> simp
 by_cases q : (st.length : Int) = sumC x.slots /\ (zkh x.slots st).length = x.slots.length
 rotate_left
 . have hr : ze9 x st = false := by
     unfold ze9
     by_cases q1 : (st.length : Int) = sumC x.slots
     . have q2 : ¬ (zkh x.slots st).length = x.slots.length := fun h => q ⟨q1,h⟩
       simp [q2]
     . simp [q1]
   rw [hr]
   ((have hcondQ := Bool.and_self; refine Todo.of ?_); (repeat' (first | ((with_reducible refine Todo.to ?_); (repeat (simp only [↓rP,rT,rU,eA,zb,dval,dBin,dInt,zh,za,retV,DR.val,fzT,fzVs,fzV,fz1,DV.immB,ze,zf,zp,zo,zi,zq,cellsOf,Nat.reduceEqDiff,Nat.reduceAdd,↓reduceIte,reduceCtorEq,Nat.reduceLT,zed,eIls,eImg,zae,e1,e2 ,hcondQ]))) | (((first | ((with_reducible refine zd (t := ?_) ?_ (fun hcQ => ?_) (fun hcQ => ?_)); rotate_left; . (rfl)) | ((with_reducible refine zl (t := ?_) ?_ (fun hcQ => ?_) (fun hcQ => ?_)); rotate_left; . (rfl))) <;> (have hn := hcQ; have hcondQ := hcQ) <;> (try simp only [bne_iff_ne,ne_eq,bne_eq_false_iff_eq] at hn) <;> (try (exfalso; omega)) <;> (refine Todo.of ?_))) | fail)))
   all_goals (exfalso; apply q; refine ⟨?_,?_⟩ <;> grind)
 obtain ⟨q1,q2⟩ := q
 have c1 : ((st.length : Int) != sumC x.slots) = false := by simp [q1]
 have c2 : (((zkh x.slots st).length : Int) != (x.slots.length : Int)) = false := by simp [q2]
 have hr : ze9 x st = zfx x.en x.slots (zkh x.slots st) := by simp [ze9,q1,q2]
 have hv : ∀ c ∈ zkh x.slots st,c.vals.length <= 1000000000 := by
   intro c hc
   unfold zkh at hc
   split at hc
   . rename_i ha
     obtain ⟨s,hs,rfl⟩ := List.mem_map.1 hc
     have := List.all_eq_true.1 ha s hs
     simp only [znx,Bool.and_eq_true,decide_eq_true_eq] at this
     have hb := zad s.ty
     simp only [zud,List.length_drop,List.length_take]
     omega
   . simp at hc
 rw [hr]
 generalize zkh x.slots st = cs at *
 ((have hcondQ := Bool.and_self; refine Todo.of ?_); (repeat' (first | ((with_reducible refine Todo.to ?_); (repeat (simp only [↓rP,rT,rU,eA,zb,dval,dBin,dInt,zh,za,fzVs,fzV,fz1,DV.immB,ze,zf,zp,zo,zi,zq,cellsOf,Nat.reduceEqDiff,Nat.reduceAdd,↓reduceIte,reduceCtorEq,Nat.reduceLT,zed,eIls,eImg,zae,e1,e2,c1,c2 ,hcondQ]))))))
 refine z0 cs (fun k (_ : Unit) => ⟨[(2,.ref (cImg x)),(5,.sl (cs.map cCll)),(6,.int .i64 k)],[]⟩)
   (fun k r _ => zfx x.en x.slots cs = zfx x.en (x.slots.drop k) r) () (Nat.zero_le _) (by simp only [zg,List.map_cons,List.map_nil,zc,Nk.get_nil,Nat.reduceEqDiff,↓reduceIte,DV.cut,DV.inB,List.take_nil] <;> rfl) rfl (fun k c r _ d hc hd hr => ?_) (fun k _ e hr => ?_)
 . have d2 : k < x.slots.length := by omega
   have hs : x.slots[k]? = some x.slots[k] := List.getElem?_eq_getElem d2
   rw [List.drop_eq_getElem_cons d2] at hr
   generalize x.slots[k] = s at hs hr
   have e3 := zvt x.en s.ty c.vals
   rw [eq_true (hv c (List.mem_of_getElem? hc))] at e3
   simp only [cTy] at e3
   cases q3 : zdh x.en s.ty c.vals
   . have hr : zfx x.en x.slots cs = false := by rw [hr]; simp [zfx,q3]
     rw [hr]
     ((refine Todo.of ?_); (repeat' (first | ((with_reducible refine Todo.to ?_); (repeat (simp only [↓rP,rT,rU,zb,dval,dBin,dInt,dUn,zh,za,retV,DR.val,fzT,fzV,fz1,DV.immB,ze,zf,zp,zo,zx,zi,zq,Nat.reduceEqDiff,Nat.reduceAdd,↓reduceIte,Nat.reduceLeDiff,Nat.reduceLT,d,zm cSlt hs,zm cCll hc,e3,q3 ]))) | ((with_reducible refine And.intro ?_ ?_); . omega) | fail)) <;> (try (omega)))
   . have hr : zfx x.en x.slots cs = zfx x.en (x.slots.drop (k + 1)) r := by rw [hr]; simp [zfx,q3]
     ((refine Todo.of ?_); (repeat' (first | ((with_reducible refine Todo.to ?_); (repeat (first | (simp only [↓rP,rT,rU,zb,dval,dBin,dInt,dUn,zh,za,DV.immB,ze,zf,zp,zo,zx,zi,zq,Nat.reduceEqDiff,Nat.reduceAdd,↓reduceIte,Nat.reduceLeDiff,Nat.reduceLT,d,zm cSlt hs,zm cCll hc,e3,q3 ]) | ((simp (disch := omega) only [z6]))))) | ((with_reducible refine And.intro ?_ ?_); . omega) | fail)))
     all_goals first
       | exact ⟨(),by simp only [zg,List.map_cons,List.map_nil,zc,Nk.get_nil,Nat.reduceEqDiff,↓reduceIte,DV.cut,DV.inB,List.take_nil,Int.natCast_add,Int.natCast_one] <;> rfl,hr⟩
 . have hr : zfx x.en x.slots cs = true := by rw [hr]; cases (x.slots.drop k) <;> rfl
   rw [hr]
   ((refine Todo.of ?_); (repeat' (first | ((with_reducible refine Todo.to ?_); (repeat (simp only [↓rP,rT,rU,zb,dval,dBin,dInt,retV,DR.val,fzT,fzV,fz1,DV.immB,Nat.reduceEqDiff,↓reduceIte,e ]))))))
end Go.Proofs.YtjgefhgkinocmaaGreat
