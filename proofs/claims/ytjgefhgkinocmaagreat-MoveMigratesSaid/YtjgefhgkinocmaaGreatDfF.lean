/- Where a path is; what becomes of a type. -/
import Derived.Test.YtjgefhgkinocmaaGreatDfA
import Derived.Test.YtjgefhgkinocmaaGreatTyM
import Derived.Test.YtjgefhgkinocmaaGreatTyT
set_option linter.all false
set_option maxRecDepth 20000
namespace Go.Proofs.YtjgefhgkinocmaaGreat
open Go.Nk
@[reducible] def eRS (s : List UInt8) : DV := .ref [.str s]
theorem inj_RS : Inj eRS := fun _ _ h => by simpa [eRS] using h
noncomputable def ydr : List DV -> Prop × DV := zbw eSlt eRS fun c p => (True,.bool (decide (c.path = p)))
theorem yez (c : Slt) (p : List UInt8) : ydr [.agg (cSlt c),.ref [.str p]] = (True,.bool (decide (c.path = p))) := zac z1i inj_RS _ c p
theorem zxu : OkP Tryz.prog 77 ydr := by
 refine OkP.mk2 (ps := []) (hs := []) trivial trivial zzz fun c p _ => ?_
 ((refine Todo.of ?_); (repeat' (first | ((with_reducible refine Todo.to ?_); (repeat (simp only [↓rP,rT,rU,eA,zb,dval,dBin,dStr,zh,za,retV,DR.val,fzT,fzV,fz1,DV.immB,DV.one,alive,cellsOf,Nat.reduceEqDiff,Nat.reduceAdd,↓reduceIte,reduceCtorEq,Nat.reduceLT,forall_const,znf,eRS,eSlt ]))))))
 all_goals (rw [Bool.eq_iff_iff]; simp)
@[reducible] def z0v (s : List UInt8) : DV := .clo 77 [.ref [.str s]]
theorem ybz : Inj z0v := fun _ _ h => by simpa [z0v] using h
def fndO (m : List Slt) (p : List UInt8) : Option Nat := m.findIdx? fun c => decide (c.path = p)
def fndI (m : List Slt) (p : List UInt8) : Int := match fndO m p with | some k => k | none => -1
noncomputable def s_IxS : List DV -> Prop × DV := zbw zs1 z0v fun m p => (m.length <= 1000000,.int .i64 (fndI m p))
theorem s_IxS_at (m : List Slt) (p : List UInt8) : s_IxS [.sl (m.map cSlt),.clo 77 [.ref [.str p]]] = (m.length <= 1000000,.int .i64 (fndI m p)) := zac zox ybz _ m p
theorem zdk : OkP Tryz.prog 76 s_IxS := by
 refine OkP.mk2 (ps := [(77,ydr)]) (hs := []) ⟨zxu,trivial⟩ trivial zdr fun m p h => ?_
 try dsimp only at h
 have h : m.length <= 1000000 := h
 ((refine Todo.of ?_); (repeat' (first | ((with_reducible refine Todo.to ?_); (repeat (simp only [↓rP,rT,rU,eL,zb,dval,↓reduceIte,reduceCtorEq,Int.reduceNeg,zbl,z0v,zs1 ]))))))
 refine z0 m (fun k (_ : Unit) => ⟨[(0,.sl (m.map cSlt)),(1,.clo 77 [.ref [.str p]]),(7,.int .i64 m.length),(8,.int .i64 k)],[]⟩) (fun k r _ => (r.findIdx? fun c => decide (c.path = p)).map (· + k) = fndO m p) () (Nat.zero_le _) (by simp only [zg,List.map_cons,List.map_nil,zc,Nk.get_nil,Nat.reduceEqDiff,↓reduceIte,Nat.succ_ne_self,DV.cut,DV.inB,List.take_nil,DV.inBL,Bool.and_true,reduceCtorEq] <;> rfl) (by simp [fndO]) (fun k x r _ d hx hd hr => ?_) (fun k _ e hr => ?_)
 . rw [List.findIdx?_cons] at hr
   have e1 := yez x p
   simp only [cSlt] at e1
   ((have hcondQ := Bool.and_self; refine Todo.of ?_); (repeat' (first | ((with_reducible refine Todo.to ?_); (repeat (first | (simp only [↓rP,rT,rU,zb,dval,dBin,dInt,zh,za,retV,DR.val,fzT,fzV,fz1,DV.immB,ze,zf,zp,zo,zx,zi,zq,Nat.reduceEqDiff,Nat.reduceAdd,↓reduceIte,reduceCtorEq,Nat.reduceLeDiff,Int.reduceNeg,d,zm cSlt hx,e1 ,hcondQ]) | ((simp (disch := omega) only [z6]))))) | ((with_reducible refine And.intro ?_ ?_); . omega) | (((((with_reducible refine zd (t := ?_) ?_ (fun hcQ => ?_) (fun hcQ => ?_)); rotate_left; . (rfl))) <;> (have hn := hcQ; have hcondQ := hcQ) <;> (try simp only [decide_eq_true_eq,decide_eq_false_iff_not] at hn) <;> (refine Todo.of ?_))) | fail)))
   all_goals first
     | (have e : x.path = p := by first | exact hn | simpa using hn
        simp [e] at hr
        simp [fndI,<- hr]; done)
     | (have e : x.path ≠ p := by first | exact hn | simpa using hn
        refine ⟨(),by simp only [zg,List.map_cons,List.map_nil,zc,Nk.get_nil,Nat.reduceEqDiff,↓reduceIte,Nat.succ_ne_self,DV.cut,DV.inB,List.take_nil,DV.inBL,Bool.and_true,reduceCtorEq,Int.natCast_add,Int.natCast_one] <;> rfl,?_⟩
        simp [e] at hr
        rw [<- hr]
        congr 1
        funext y
        simp; omega)
 . simp only [List.findIdx?_nil,Option.map_none] at hr
   ((refine Todo.of ?_); (repeat' (first | ((with_reducible refine Todo.to ?_); (repeat (simp only [↓rP,rT,rU,zb,dval,dBin,dInt,retV,DR.val,fzT,fzV,fz1,DV.immB,Nat.reduceEqDiff,↓reduceIte,reduceCtorEq,Int.reduceNeg,e,fndI,<- hr ]))))))
noncomputable def zhk : List DV -> Prop × DV := zbw zs1 eS fun m p => (m.length <= 1000000,.int .i64 (fndI m p))
theorem zdu (m : List Slt) (p : List UInt8) : zhk [.sl (m.map cSlt),.str p] = (m.length <= 1000000,.int .i64 (fndI m p)) := zac zox zml _ m p
theorem zd4 : OkP Tryz.prog 48 zhk := by
 refine OkP.mk2 (ps := [(76,s_IxS)]) (hs := []) ⟨zdk,trivial⟩ trivial z7k fun m p h => ?_
 try dsimp only at h
 have h : m.length <= 1000000 := h
 have e1 := s_IxS_at m p
 rw [eq_true h] at e1
 ((refine Todo.of ?_); (repeat' (first | ((with_reducible refine Todo.to ?_); (repeat (simp only [↓rP,rT,rU,eS,eL,zb,dval,retV,DR.val,fzT,fzV,fz1,DV.immB,ze,zf,zp,zo,capVL,capV,zi,zq,DV.one,cellsOf,Nat.reduceEqDiff,↓reduceIte,reduceCtorEq,forall_const,zu3,zs1,e1 ]))))))
theorem zco : OkP Tryz.prog 29 zhk := by
 refine OkP.mk2 (ps := []) (hs := []) trivial trivial zqb fun m p h => ?_
 try dsimp only at h
 have h : m.length <= 1000000 := h
 ((refine Todo.of ?_); (repeat' (first | ((with_reducible refine Todo.to ?_); (repeat (simp only [↓rP,rT,eS,eL,zb,dval,Int.reduceNeg,zh7,zs1 ]))))))
 refine z0 m (fun k (_ : Unit) => ⟨[(0,.sl (m.map cSlt)),(1,.str p),(5,.int .i64 k)],[]⟩) (fun k r _ => (r.findIdx? fun c => decide (c.path = p)).map (· + k) = fndO m p) () (Nat.zero_le _) (by simp only [zg,List.map_cons,List.map_nil,zc,Nk.get_nil,Nat.reduceEqDiff,↓reduceIte,Nat.succ_ne_self,DV.cut,DV.inB,List.take_nil,reduceCtorEq] <;> rfl) (by simp [fndO]) (fun k x r _ d hx hd hr => ?_) (fun k _ e hr => ?_)
 . rw [List.findIdx?_cons] at hr
   ((have hcondQ := Bool.and_self; refine Todo.of ?_); (repeat' (first | ((with_reducible refine Todo.to ?_); (repeat (first | (simp only [↓rP,rT,rU,zb,dval,dBin,dInt,dStr,zh,za,retV,DR.val,fzT,fzV,fz1,DV.immB,Nat.reduceEqDiff,Nat.reduceAdd,↓reduceIte,reduceCtorEq,Nat.reduceLT,Int.reduceNeg,d,zm cSlt hx ,hcondQ]) | ((simp (disch := omega) only [z6]))))) | ((with_reducible refine And.intro ?_ ?_); . omega) | (((((with_reducible refine zd (t := ?_) ?_ (fun hcQ => ?_) (fun hcQ => ?_)); rotate_left; . (rfl))) <;> (have hn := hcQ; have hcondQ := hcQ) <;> (try simp only [beq_iff_eq,ne_eq,beq_eq_false_iff_ne] at hn) <;> (refine Todo.of ?_))) | fail)))
   all_goals first
     | (have e : x.path = p := by first | exact hn | simpa using hn
        simp [e] at hr
        simp [fndI,<- hr]; done)
     | (have e : x.path ≠ p := by first | exact hn | simpa using hn
        refine ⟨(),by simp only [zg,List.map_cons,List.map_nil,zc,Nk.get_nil,Nat.reduceEqDiff,↓reduceIte,Nat.succ_ne_self,DV.cut,DV.inB,List.take_nil,reduceCtorEq,Int.natCast_add,Int.natCast_one] <;> rfl,?_⟩
        simp [e] at hr
        rw [<- hr]
        congr 1
        funext y
        simp; omega)
 . simp only [List.findIdx?_nil,Option.map_none] at hr
   ((refine Todo.of ?_); (repeat' (first | ((with_reducible refine Todo.to ?_); (repeat (simp only [↓rP,rT,rU,zb,dval,dBin,dInt,retV,DR.val,fzT,fzV,fz1,DV.immB,Nat.reduceEqDiff,↓reduceIte,reduceCtorEq,Int.reduceNeg,e,fndI,<- hr ]))))))
def oneT (t : Ty) : Ty := ⟨t.k,t.e,0⟩
noncomputable def zy2 : List DV -> Prop × DV := zbp eTy fun t => (True,.agg (cTy (oneT t)))
theorem zvf (t : Ty) : zy2 [.agg (cTy t)] = (True,.agg (cTy (oneT t))) := z8 zii _ t
theorem z2r : OkP Tryz.prog 107 zy2 := by
 refine OkP.mk1 (ps := []) (hs := []) trivial trivial m_ty_One fun t _ => ?_
 ((refine Todo.of ?_); (repeat' (first | ((with_reducible refine Todo.to ?_); (repeat (simp only [↓rP,rT,rU,eA,zb,dval,zh,za,retV,DR.val,fzT,fzV,fz1,DV.immB,zw,DV.one,alive,fzL,cellsOf,zk,Nat.reduceEqDiff,Nat.reduceAdd,↓reduceIte,reduceCtorEq,Nat.reduceLeDiff,forall_const,z76,eTy,oneT ]))))))
theorem zq7 : OkP Tryz.prog 87 zy2 := by
 refine OkP.mk1 (ps := []) (hs := []) trivial trivial ztd fun t _ => ?_
 ((refine Todo.of ?_); (repeat' (first | ((with_reducible refine Todo.to ?_); (repeat (simp only [↓rP,rT,rU,eA,zb,dval,zh,za,retV,DR.val,fzT,fzV,fz1,DV.immB,zw,DV.one,alive,fzL,cellsOf,zk,Nat.reduceEqDiff,Nat.reduceAdd,↓reduceIte,reduceCtorEq,Nat.reduceLeDiff,forall_const,zji,eTy,oneT ]))))))
def zgb (a b : List En) (t : Ty) : List En -> Int -> Ty × Bool
 | [],_ => (⟨0,0,0⟩,false)
 | _ :: r,i => if zem a (oneT t) b ⟨3,i,0⟩ then (⟨3,i,t.n⟩,true) else zgb a b t r (i + 1)
theorem z2j {a b : List En} {t : Ty} {x : En} {r : List En} {k : Int} (h : zem a (oneT t) b ⟨3,k,0⟩ = true) : zgb a b t (x :: r) k = (⟨3,k,t.n⟩,true) := by simp [zgb,h]
theorem z8x {a b : List En} {t : Ty} {x : En} {r : List En} {k : Int} (h : zem a (oneT t) b ⟨3,k,0⟩ = false) : zgb a b t (x :: r) k = zgb a b t r (k + 1) := by simp [zgb,h]
def zcc (a b : List En) (t : Ty) : Ty × Bool := if zbj a t then (if t.k = 3 then zgb a b t b 0 else (t,true)) else (⟨0,0,0⟩,false)
noncomputable def zvn : List DV -> Prop × DV := zec eEns eEns eTy fun a b t => (zgi a /\ zgi b /\ b.length <= 1000000,.tup [.agg (cTy (zcc a b t).1),.bool (zcc a b t).2])
theorem zn8 (a : List En) (b : List En) (t : Ty) : zvn [.sl (a.map cEn),.sl (b.map cEn),.agg (cTy t)] = (zgi a /\ zgi b /\ b.length <= 1000000,.tup [.agg (cTy (zcc a b t).1),.bool (zcc a b t).2]) := za2 zfe zfe zii _ a b t
theorem zim : OkP Tryz.prog 75 zvn := by
 refine OkP.mk3 (ps := [(105,zdy),(107,zy2),(106,zw4)]) (hs := []) ⟨zx5,z2r,ok_Alike,trivial⟩ trivial z3n fun a b t h => ?_
 try dsimp only at h
 obtain ⟨h1,h2,h3⟩ := h
 have e1 := zb0 a t
 simp only [cTy] at e1
 by_cases q : zbj a t = true
 rotate_left
 . have hr : zcc a b t = (⟨0,0,0⟩,false) := by simp [zcc,q]
   rw [Bool.not_eq_true] at q
   rw [q] at e1
   ((refine Todo.of ?_); (repeat' (first | ((with_reducible refine Todo.to ?_); (repeat (simp only [↓rP,rT,rU,eL,eA,zr,zb,dval,dUn,zh,za,retV,retL,DR.val,fzT,fzVs,fzV,fz1,DV.immB,ze,zf,zp,zo,zx,zi,zq,zw,DV.one,fzL,cellsOf,zk,Nat.reduceEqDiff,Nat.reduceAdd,↓reduceIte,reduceCtorEq,Nat.reduceLeDiff,forall_const,zhn,eEns,eTy,hr,e1 ]))))))
 rw [q] at e1
 by_cases k3 : t.k = 3
 rotate_left
 . have hr : zcc a b t = (t,true) := by simp [zcc,q,k3]
   ((have hcondQ := Bool.and_self; refine Todo.of ?_); (repeat' (first | ((with_reducible refine Todo.to ?_); (repeat (simp only [↓rP,rT,rU,eL,eA,zb,dval,dBin,dInt,dUn,zh,za,retV,retL,DR.val,fzT,fzVs,fzV,fz1,DV.immB,ze,zf,zp,zo,zx,zi,zq,zw,DV.one,alive,fzL,cellsOf,zk,Nat.reduceEqDiff,Nat.reduceAdd,↓reduceIte,reduceCtorEq,Nat.reduceLeDiff,Nat.reduceLT,forall_const,zhn,eEns,eTy,hr,e1 ,hcondQ]))) | (((((with_reducible refine zd (t := ?_) ?_ (fun hcQ => ?_) (fun hcQ => ?_)); rotate_left; . (rfl))) <;> (have hn := hcQ; have hcondQ := hcQ) <;> (try simp only [bne_iff_ne,ne_eq,bne_eq_false_iff_eq] at hn) <;> (try (exfalso; omega)) <;> (refine Todo.of ?_))) | fail)))
 have hr : zcc a b t = zgb a b t b 0 := by simp [zcc,q,k3]
 obtain ⟨tk,te,tn⟩ := t
 simp only at k3
 subst k3
 rw [hr]
 ((refine Todo.of ?_); (repeat' (first | ((with_reducible refine Todo.to ?_); (repeat (simp only [↓rP,rT,rU,eL,eA,zb,dval,dBin,dInt,dUn,zh,za,DV.immB,ze,zf,zp,zo,zx,zi,zq,DV.one,alive,cellsOf,Nat.reduceEqDiff,Nat.reduceAdd,↓reduceIte,reduceCtorEq,Nat.reduceLeDiff,Nat.reduceLT,forall_const,zhn,eEns,eTy,e1 ]))))))
 refine z0 b (fun k (_ : Unit) => ⟨[(0,.sl (a.map cEn)),(1,.sl (b.map cEn)),(5,.ptr 0 1 0 0),(6,.ptr 1 1 0 0),(19,.int .i64 b.length),(20,.int .i64 k)],[⟨.loc,3,[cTy ⟨3,te,tn⟩]⟩,⟨.loc,3,[[.int .i64 0,.int .i64 0,.int .i64 0]]⟩]⟩) (fun k r _ => zgb a b ⟨3,te,tn⟩ r k = zgb a b ⟨3,te,tn⟩ b 0) () (Nat.zero_le _) (by simp only [zg,List.map_cons,List.map_nil,zc,Nk.get_nil,Nat.reduceEqDiff,↓reduceIte,Nat.succ_ne_self,DV.cut,DV.inB,DObj.cut,List.take_nil,reduceCtorEq,decide_true,Nat.reduceLT,List.take_succ_cons] <;> rfl) rfl (fun k x r _ d hx hd hr2 => ?_) (fun k _ e hr2 => ?_)
 . have e2 := zyy a (oneT ⟨3,te,tn⟩) b ⟨3,(k : Int),0⟩
   rw [eq_true (show zgi a /\ zgi b from ⟨h1,h2⟩)] at e2
   have e3 := zvf ⟨3,te,tn⟩
   cases qa : zem a (oneT ⟨3,te,tn⟩) b ⟨3,(k : Int),0⟩ <;> rw [qa] at e2 <;> simp only [cTy,oneT] at e2 e3
   . rw [z8x qa] at hr2
     ((have hcondQ := Bool.and_self; refine Todo.of ?_); (repeat' (first | ((with_reducible refine Todo.to ?_); (repeat (first | (simp only [↓rP,rT,rU,zr,zb,dval,dBin,dInt,zh,za,DV.immB,ze,zf,zp,zo,zx,zi,zq,cellsOf,zk,DV.isU,Nat.reduceEqDiff,Nat.reduceAdd,↓reduceIte,reduceCtorEq,Nat.reduceLeDiff,d,e2,e3 ,hcondQ]) | ((simp (disch := omega) only [z6]))))))))
     exact ⟨(),by simp only [zg,List.map_cons,List.map_nil,zc,Nk.get_nil,Nat.reduceEqDiff,↓reduceIte,Nat.succ_ne_self,DV.cut,DV.inB,DObj.cut,List.take_nil,reduceCtorEq,decide_true,Nat.reduceLT,List.take_succ_cons,Int.natCast_add,Int.natCast_one] <;> rfl,by rw [<- hr2]; rfl⟩
   . rw [z2j qa] at hr2
     rw [<- hr2]
     ((have hcondQ := Bool.and_self; refine Todo.of ?_); (repeat' (first | ((with_reducible refine Todo.to ?_); (repeat (simp only [↓rP,rT,rU,zr,zb,dval,dBin,dInt,zh,za,retV,retL,DR.val,fzT,fzVs,fzV,fz1,DV.immB,ze,zf,zp,zo,zx,zi,zq,zw,DV.one,alive,fzL,cellsOf,zk,DV.isU,Nat.reduceEqDiff,Nat.reduceAdd,↓reduceIte,reduceCtorEq,Nat.reduceLeDiff,forall_const,d,e2,e3 ,hcondQ]))))))
 . simp only [zgb] at hr2
   rw [<- hr2]
   ((refine Todo.of ?_); (repeat' (first | ((with_reducible refine Todo.to ?_); (repeat (simp only [↓rP,rT,rU,zr,zb,dval,dBin,dInt,zh,za,retV,retL,DR.val,fzT,fzVs,fzV,fz1,DV.immB,zw,DV.one,fzL,cellsOf,zk,Nat.reduceEqDiff,Nat.reduceAdd,↓reduceIte,reduceCtorEq,Nat.reduceLeDiff,forall_const,e ]))))))
theorem zoq : OkP Tryz.prog 57 zvn := by
 refine OkP.mk3 (ps := [(36,zdy),(87,zy2),(86,zw4)]) (hs := []) ⟨zel,zq7,z5o,trivial⟩ trivial zqj fun a b t h => ?_
 try dsimp only at h
 obtain ⟨h1,h2,h3⟩ := h
 have e1 := zb0 a t
 simp only [cTy] at e1
 by_cases q : zbj a t = true
 rotate_left
 . have hr : zcc a b t = (⟨0,0,0⟩,false) := by simp [zcc,q]
   rw [Bool.not_eq_true] at q
   rw [q] at e1
   ((refine Todo.of ?_); (repeat' (first | ((with_reducible refine Todo.to ?_); (repeat (simp only [↓rP,rT,rU,eL,eA,zr,zb,dval,dUn,zh,za,retV,retL,DR.val,fzT,fzVs,fzV,fz1,DV.immB,ze,zf,zp,zo,zx,zi,zq,zw,DV.one,fzL,cellsOf,zk,Nat.reduceEqDiff,Nat.reduceAdd,↓reduceIte,reduceCtorEq,Nat.reduceLeDiff,forall_const,zc5,eEns,eTy,hr,e1 ]))))))
 rw [q] at e1
 by_cases k3 : t.k = 3
 rotate_left
 . have hr : zcc a b t = (t,true) := by simp [zcc,q,k3]
   ((have hcondQ := Bool.and_self; refine Todo.of ?_); (repeat' (first | ((with_reducible refine Todo.to ?_); (repeat (simp only [↓rP,rT,rU,eL,eA,zb,dval,dBin,dInt,dUn,zh,za,retV,retL,DR.val,fzT,fzVs,fzV,fz1,DV.immB,ze,zf,zp,zo,zx,zi,zq,zw,DV.one,alive,fzL,cellsOf,zk,Nat.reduceEqDiff,Nat.reduceAdd,↓reduceIte,reduceCtorEq,Nat.reduceLeDiff,Nat.reduceLT,forall_const,zc5,eEns,eTy,hr,e1 ,hcondQ]))) | (((((with_reducible refine zd (t := ?_) ?_ (fun hcQ => ?_) (fun hcQ => ?_)); rotate_left; . (rfl))) <;> (have hn := hcQ; have hcondQ := hcQ) <;> (try simp only [bne_iff_ne,ne_eq,bne_eq_false_iff_eq] at hn) <;> (try (exfalso; omega)) <;> (refine Todo.of ?_))) | fail)))
 have hr : zcc a b t = zgb a b t b 0 := by simp [zcc,q,k3]
 obtain ⟨tk,te,tn⟩ := t
 simp only at k3
 subst k3
 rw [hr]
 ((refine Todo.of ?_); (repeat' (first | ((with_reducible refine Todo.to ?_); (repeat (simp only [↓rP,rT,rU,eL,eA,zb,dval,dBin,dInt,dUn,zh,za,DV.immB,ze,zf,zp,zo,zx,zi,zq,DV.one,alive,cellsOf,Nat.reduceEqDiff,Nat.reduceAdd,↓reduceIte,reduceCtorEq,Nat.reduceLeDiff,Nat.reduceLT,forall_const,zc5,eEns,eTy,e1 ]))))))
 refine z0 b (fun k (_ : Unit) => ⟨[(0,.sl (a.map cEn)),(1,.sl (b.map cEn)),(5,.ptr 0 1 0 0),(6,.ptr 1 1 0 0),(8,.int .i64 k)],[⟨.loc,3,[cTy ⟨3,te,tn⟩]⟩,⟨.loc,3,[[.int .i64 0,.int .i64 0,.int .i64 0]]⟩]⟩) (fun k r _ => zgb a b ⟨3,te,tn⟩ r k = zgb a b ⟨3,te,tn⟩ b 0) () (Nat.zero_le _) (by simp only [zg,List.map_cons,List.map_nil,zc,Nk.get_nil,Nat.reduceEqDiff,↓reduceIte,Nat.succ_ne_self,DV.cut,DV.inB,DObj.cut,List.take_nil,reduceCtorEq,decide_true,Nat.reduceLT,List.take_succ_cons] <;> rfl) rfl (fun k x r _ d hx hd hr2 => ?_) (fun k _ e hr2 => ?_)
 . have e2 := zyy a (oneT ⟨3,te,tn⟩) b ⟨3,(k : Int),0⟩
   rw [eq_true (show zgi a /\ zgi b from ⟨h1,h2⟩)] at e2
   have e3 := zvf ⟨3,te,tn⟩
   cases qa : zem a (oneT ⟨3,te,tn⟩) b ⟨3,(k : Int),0⟩ <;> rw [qa] at e2 <;> simp only [cTy,oneT] at e2 e3
   . rw [z8x qa] at hr2
     ((have hcondQ := Bool.and_self; refine Todo.of ?_); (repeat' (first | ((with_reducible refine Todo.to ?_); (repeat (first | (simp only [↓rP,rT,rU,zr,zb,dval,dBin,dInt,zh,za,DV.immB,ze,zf,zp,zo,zx,zi,zq,cellsOf,zk,DV.isU,Nat.reduceEqDiff,Nat.reduceAdd,↓reduceIte,reduceCtorEq,Nat.reduceLeDiff,d,e2,e3 ,hcondQ]) | ((simp (disch := omega) only [z6]))))))))
     exact ⟨(),by simp only [zg,List.map_cons,List.map_nil,zc,Nk.get_nil,Nat.reduceEqDiff,↓reduceIte,Nat.succ_ne_self,DV.cut,DV.inB,DObj.cut,List.take_nil,reduceCtorEq,decide_true,Nat.reduceLT,List.take_succ_cons,Int.natCast_add,Int.natCast_one] <;> rfl,by rw [<- hr2]; rfl⟩
   . rw [z2j qa] at hr2
     rw [<- hr2]
     ((have hcondQ := Bool.and_self; refine Todo.of ?_); (repeat' (first | ((with_reducible refine Todo.to ?_); (repeat (simp only [↓rP,rT,rU,zr,zb,dval,dBin,dInt,zh,za,retV,retL,DR.val,fzT,fzVs,fzV,fz1,DV.immB,ze,zf,zp,zo,zx,zi,zq,zw,DV.one,alive,fzL,cellsOf,zk,DV.isU,Nat.reduceEqDiff,Nat.reduceAdd,↓reduceIte,reduceCtorEq,Nat.reduceLeDiff,forall_const,d,e2,e3 ,hcondQ]))))))
 . simp only [zgb] at hr2
   rw [<- hr2]
   ((refine Todo.of ?_); (repeat' (first | ((with_reducible refine Todo.to ?_); (repeat (simp only [↓rP,rT,rU,zr,zb,dval,dBin,dInt,zh,za,retV,retL,DR.val,fzT,fzVs,fzV,fz1,DV.immB,zw,DV.one,fzL,cellsOf,zk,Nat.reduceEqDiff,Nat.reduceAdd,↓reduceIte,reduceCtorEq,Nat.reduceLeDiff,forall_const,e ]))))))
set_option linter.all false
set_option maxRecDepth 20000
open Go.Nk
theorem zca {m : List Slt} {p : List UInt8} (h : ¬ fndI m p < 0) : ∃ k : Nat,fndI m p = k /\ k < m.length := by
 unfold fndI at h |-
 cases q : fndO m p with
 | none => rw [q] at h; simp at h
 | some k =>
   refine ⟨k,rfl,?_⟩
   have := List.findIdx?_eq_some_iff_findIdx_eq.1 q
   exact this.1
def eqT (t u : Ty) : Bool := t.k == u.k && (t.e == u.e && t.n == u.n)
theorem aeqT (neg : Bool) (a b c a' b' c' : Int) : dAeq neg [0,0,0] (.agg [.int .i64 a,.int .i64 b,.int .i64 c]) (.agg [.int .i64 a',.int .i64 b',.int .i64 c']) = (True,.bool (if neg then !(eqT ⟨a,b,c⟩ ⟨a',b',c'⟩) else eqT ⟨a,b,c⟩ ⟨a',b',c'⟩)) := by
 have : zbt [0,0,0] [.int .i64 a,.int .i64 b,.int .i64 c] [.int .i64 a',.int .i64 b',.int .i64 c'] = some (eqT ⟨a,b,c⟩ ⟨a',b',c'⟩) := by
   simp only [zbt,if_true,eqT]
   cases (a == a') <;> cases (b == b') <;> cases (c == c') <;> rfl
 simp [dAeq,this]
def yan (y : Ty × Bool) (t : Ty) : Int := if (y.2 && eqT y.1 t) = true then 1 else 2
theorem zo6 (y t : Ty) (o : Bool) : yan (y,o) t = if (o && eqT y t) = true then 1 else 2 := rfl
def zc8 (a b : Img) (s : Slt) : Int := if fndI a.slots s.path < 0 then 3 else yan (zcc a.en b.en (a.slots.getD (fndI a.slots s.path).toNat default).ty) s.ty
def zj9 (x : Img) : Prop := zgi x.en /\ x.en.length <= 1000000 /\ x.slots.length <= 1000000
noncomputable def z31 : List DV -> Prop × DV := zec eImg eImg eSlt fun a b s => (zj9 a /\ zj9 b,.int .i64 (zc8 a b s))
theorem z4v (a : Img) (b : Img) (s : Slt) : z31 [.agg (cImg a),.agg (cImg b),.agg (cSlt s)] = (zj9 a /\ zj9 b,.int .i64 (zc8 a b s)) := za2 za4 za4 z1i _ a b s
theorem z4z (t : Ty) (u : Ty) : yan (u,false) t = 2 := by simp [yan]
theorem zxo : OkP Tryz.prog 47 z31 := by
 refine OkP.mk3 (ps := [(48,zhk),(75,zvn)]) (hs := []) ⟨zd4,zim,trivial⟩ trivial zzv fun a b s h => ?_
 try dsimp only at h
 obtain ⟨⟨h1,h2,h3⟩,h4,h5,h6⟩ := h
 have e1 := zdu a.slots s.path
 rw [eq_true h3] at e1
 by_cases q : fndI a.slots s.path < 0
 . have hr : zc8 a b s = 3 := by simp [zc8,q]
   ((have hcondQ := Bool.and_self; refine Todo.of ?_); (repeat' (first | ((with_reducible refine Todo.to ?_); (repeat (simp only [↓rP,rT,rU,eA,zb,dval,dBin,dInt,zh,za,retV,DR.val,fzT,fzV,fz1,DV.immB,ze,zf,zp,zo,zi,zq,cellsOf,Nat.reduceEqDiff,Nat.reduceAdd,↓reduceIte,reduceCtorEq,Nat.reduceLT,zee,eImg,eSlt,e1,hr ,hcondQ]))) | (((((with_reducible refine zd (t := ?_) ?_ (fun hcQ => ?_) (fun hcQ => ?_)); rotate_left; . (rfl))) <;> (have hn := hcQ; have hcondQ := hcQ) <;> (try simp only [decide_eq_true_eq,decide_eq_false_iff_not] at hn) <;> (try (exfalso; omega)) <;> (refine Todo.of ?_))) | fail)))
 obtain ⟨k,hk,lk⟩ := zca q
 have hr : zc8 a b s = yan (zcc a.en b.en (a.slots.getD k default).ty) s.ty := by
   simp only [zc8,hk,Int.toNat_natCast]
   rw [if_neg (by omega)]
 have g1 := zzo lk
 rw [hk] at e1
 rw [hr]
 clear hr
 generalize a.slots.getD k default = x at *
 have e2 := zn8 a.en b.en x.ty
 rw [eq_true (show zgi a.en /\ zgi b.en /\ b.en.length <= 1000000 from ⟨h1,h4,h5⟩)] at e2
 generalize zcc a.en b.en x.ty = y at *
 obtain ⟨⟨yk,ye,yn⟩,yo⟩ := y
 simp only [cTy] at e2
 have k0 : decide ((k : Int) < 0) = false := by simp
 obtain ⟨sp,⟨sk,se,sn⟩,sa,si⟩ := s
 cases yo
 . ((have hcondQ := Bool.and_self; refine Todo.of ?_); (repeat' (first | ((with_reducible refine Todo.to ?_); (repeat (simp only [↓rP,rT,rU,eA,zb,dval,dBin,dInt,dUn,zh,za,retV,DR.val,fzT,fzVs,fzV,fz1,DV.immB,ze,zf,zp,zo,zx,zi,zq,zw,DV.one,fzL,cellsOf,zk,Nat.reduceEqDiff,Nat.reduceAdd,↓reduceIte,reduceCtorEq,Nat.reduceLeDiff,Nat.reduceLT,forall_const,zee,eImg,eSlt,e1,e2,g1,z4z,k0 ,hcondQ]))) | ((with_reducible refine And.intro ?_ ?_); . omega) | fail)) <;> (try (assumption)))
 . cases q2 : eqT ⟨yk,ye,yn⟩ ⟨sk,se,sn⟩
   . ((have hcondQ := Bool.and_self; refine Todo.of ?_); (repeat' (first | ((with_reducible refine Todo.to ?_); (repeat (simp only [↓rP,rT,rU,eA,zb,dval,dBin,dInt,dUn,zh,za,retV,DR.val,fzT,fzVs,fzV,fz1,DV.immB,ze,zf,zp,zo,zx,zi,zq,zw,DV.one,fzL,cellsOf,zk,Nat.reduceEqDiff,Nat.reduceAdd,↓reduceIte,reduceCtorEq,Nat.reduceLeDiff,Nat.reduceLT,forall_const,zee,eImg,eSlt,e1,e2,g1,aeqT,q2,k0,zo6,Bool.false_eq_true,hcondQ]))) | ((with_reducible refine And.intro ?_ ?_); . omega) | fail)) <;> (try (assumption)))
   . ((have hcondQ := Bool.and_self; refine Todo.of ?_); (repeat' (first | ((with_reducible refine Todo.to ?_); (repeat (simp only [↓rP,rT,rU,eA,zb,dval,dBin,dInt,dUn,zh,za,retV,DR.val,fzT,fzVs,fzV,fz1,DV.immB,ze,zf,zp,zo,zx,zi,zq,zw,DV.one,fzL,cellsOf,zk,Nat.reduceEqDiff,Nat.reduceAdd,↓reduceIte,reduceCtorEq,Nat.reduceLeDiff,Nat.reduceLT,forall_const,zee,eImg,eSlt,e1,e2,g1,aeqT,q2,k0,zo6,Bool.false_eq_true,hcondQ]))) | ((with_reducible refine And.intro ?_ ?_); . omega) | fail)) <;> (try (assumption)))
theorem zm7 : OkP Tryz.prog 28 z31 := by
 refine OkP.mk3 (ps := [(29,zhk),(57,zvn)]) (hs := []) ⟨zco,zoq,trivial⟩ trivial zq9 fun a b s h => ?_
 try dsimp only at h
 obtain ⟨⟨h1,h2,h3⟩,h4,h5,h6⟩ := h
 have e1 := zdu a.slots s.path
 rw [eq_true h3] at e1
 by_cases q : fndI a.slots s.path < 0
 . have hr : zc8 a b s = 3 := by simp [zc8,q]
   ((have hcondQ := Bool.and_self; refine Todo.of ?_); (repeat' (first | ((with_reducible refine Todo.to ?_); (repeat (simp only [↓rP,rT,rU,eA,zb,dval,dBin,dInt,zh,za,retV,DR.val,fzT,fzV,fz1,DV.immB,ze,zf,zp,zo,zi,zq,cellsOf,Nat.reduceEqDiff,Nat.reduceAdd,↓reduceIte,reduceCtorEq,Nat.reduceLT,zb8,eImg,eSlt,e1,hr ,hcondQ]))) | (((((with_reducible refine zd (t := ?_) ?_ (fun hcQ => ?_) (fun hcQ => ?_)); rotate_left; . (rfl))) <;> (have hn := hcQ; have hcondQ := hcQ) <;> (try simp only [decide_eq_true_eq,decide_eq_false_iff_not] at hn) <;> (try (exfalso; omega)) <;> (refine Todo.of ?_))) | fail)))
 obtain ⟨k,hk,lk⟩ := zca q
 have hr : zc8 a b s = yan (zcc a.en b.en (a.slots.getD k default).ty) s.ty := by
   simp only [zc8,hk,Int.toNat_natCast]
   rw [if_neg (by omega)]
 have g1 := zzo lk
 rw [hk] at e1
 rw [hr]
 clear hr
 generalize a.slots.getD k default = x at *
 have e2 := zn8 a.en b.en x.ty
 rw [eq_true (show zgi a.en /\ zgi b.en /\ b.en.length <= 1000000 from ⟨h1,h4,h5⟩)] at e2
 generalize zcc a.en b.en x.ty = y at *
 obtain ⟨⟨yk,ye,yn⟩,yo⟩ := y
 simp only [cTy] at e2
 have k0 : decide ((k : Int) < 0) = false := by simp
 obtain ⟨sp,⟨sk,se,sn⟩,sa,si⟩ := s
 cases yo
 . ((have hcondQ := Bool.and_self; refine Todo.of ?_); (repeat' (first | ((with_reducible refine Todo.to ?_); (repeat (simp only [↓rP,rT,rU,eA,zb,dval,dBin,dInt,zh,za,retV,DR.val,fzT,fzVs,fzV,fz1,DV.immB,ze,zf,zp,zo,zx,zi,zq,zw,DV.one,fzL,cellsOf,zk,Nat.reduceEqDiff,Nat.reduceAdd,↓reduceIte,reduceCtorEq,Nat.reduceLeDiff,Nat.reduceLT,forall_const,zb8,eImg,eSlt,e1,e2,g1,z4z,k0 ,hcondQ]))) | ((with_reducible refine And.intro ?_ ?_); . omega) | fail)) <;> (try (assumption)))
 . cases q2 : eqT ⟨yk,ye,yn⟩ ⟨sk,se,sn⟩
   . ((have hcondQ := Bool.and_self; refine Todo.of ?_); (repeat' (first | ((with_reducible refine Todo.to ?_); (repeat (simp only [↓rP,rT,rU,eA,zb,dval,dBin,dInt,zh,za,retV,DR.val,fzT,fzVs,fzV,fz1,DV.immB,ze,zf,zp,zo,zx,zi,zq,zw,DV.one,fzL,cellsOf,zk,Nat.reduceEqDiff,Nat.reduceAdd,↓reduceIte,reduceCtorEq,Nat.reduceLeDiff,Nat.reduceLT,forall_const,zb8,eImg,eSlt,e1,e2,g1,aeqT,q2,k0,zo6,Bool.false_eq_true,hcondQ]))) | ((with_reducible refine And.intro ?_ ?_); . omega) | fail)) <;> (try (assumption)))
   . ((have hcondQ := Bool.and_self; refine Todo.of ?_); (repeat' (first | ((with_reducible refine Todo.to ?_); (repeat (simp only [↓rP,rT,rU,eA,zb,dval,dBin,dInt,zh,za,retV,DR.val,fzT,fzVs,fzV,fz1,DV.immB,ze,zf,zp,zo,zx,zi,zq,zw,DV.one,fzL,cellsOf,zk,Nat.reduceEqDiff,Nat.reduceAdd,↓reduceIte,reduceCtorEq,Nat.reduceLeDiff,Nat.reduceLT,forall_const,zb8,eImg,eSlt,e1,e2,g1,aeqT,q2,k0,zo6,Bool.false_eq_true,hcondQ]))) | ((with_reducible refine And.intro ?_ ?_); . omega) | fail)) <;> (try (assumption)))
def newF (a b : Img) : List Chg := b.slots.map fun s => ⟨s.path,zc8 a b s⟩
def z0z (b : Img) (l : List Slt) : List Chg := (l.filter fun s => decide (fndI b.slots s.path < 0)).map fun s => ⟨s.path,4⟩
def z0c (a b : Img) : List Chg := newF a b ++ z0z b a.slots
noncomputable def ygd : List DV -> Prop × DV := zbw eImg eImg fun a b => (zj9 a /\ zj9 b,.sl ((z0c a b).map cChg))
theorem ydt (a : Img) (b : Img) : ygd [.agg (cImg a),.agg (cImg b)] = (zj9 a /\ zj9 b,.sl ((z0c a b).map cChg)) := zac za4 za4 _ a b
theorem yet {b : Img} {x : Slt} {r : List Slt} (h : fndI b.slots x.path < 0) : z0z b (x :: r) = ⟨x.path,4⟩ :: z0z b r := by simp [z0z,h]
theorem goneF_no {b : Img} {x : Slt} {r : List Slt} (h : ¬ fndI b.slots x.path < 0) : z0z b (x :: r) = z0z b r := by
 simp only [z0z,List.filter_cons,decide_eq_true_eq,if_neg h]
theorem zxm : OkP Tryz.prog 22 ygd := by
 refine OkP.mk2 (ps := [(47,z31),(48,zhk)]) (hs := []) ⟨zxo,zd4,trivial⟩ trivial z0y fun a b h => ?_
 try dsimp only at h
 obtain ⟨ha,hb⟩ := h
 ((refine Todo.of ?_); (repeat' (first | ((with_reducible refine Todo.to ?_); (repeat (simp only [↓rP,rT,rU,eA,zb,dval,zh,za,DV.one,alive,cellsOf,Nat.reduceEqDiff,Nat.reduceAdd,↓reduceIte,reduceCtorEq,Nat.reduceLT,forall_const,zpd,eImg ]))))))
 refine z0 b.slots (fun k (o : List Chg) => ⟨[(2,.ptr 0 1 0 0),(3,.ptr 1 1 0 0),(5,.own 2 o.length 0 o.length),(11,.sl (b.slots.map cSlt)),(12,.int .i64 b.slots.length),(13,.int .i64 k)],[⟨.loc,6,[cImg a]⟩,⟨.loc,6,[cImg b]⟩,⟨.imm,2,o.map cChg⟩]⟩) (fun k r o => o ++ (r.map fun s => (⟨s.path,zc8 a b s⟩ : Chg)) = newF a b /\ o.length <= k) [] (Nat.zero_le _) (by simp only [zg,List.map_cons,List.map_nil,zc,Nk.get_nil,Nat.reduceEqDiff,↓reduceIte,DV.cut,DV.inB,DObj.cut,List.take_nil,reduceCtorEq,decide_true,Nat.reduceLT,List.take_succ_cons,List.length_nil] <;> rfl) ⟨rfl,Nat.le_refl _⟩ (fun k x r o d hx hd hr => ?_) (fun k o e hr => ?_)
 . obtain ⟨g1,g2⟩ := hr
   have e1 := z4v a b x
   rw [eq_true (show zj9 a /\ zj9 b from ⟨ha,hb⟩)] at e1
   have hl := hb.2.2
   simp only [cSlt,cImg] at e1
   ((have hcondQ := Bool.and_self; refine Todo.of ?_); (repeat' (first | ((with_reducible refine Todo.to ?_); (repeat (first | (simp only [↓rP,rT,rU,zr,zb,dval,dBin,dInt,zh,za,fz1,DV.immB,ze,zf,zp,zo,zx,zi,zq,zy,zax,zw,DV.one,alive,fzLL,fzL,bRow,bU,cellsOf,zk,DV.isU,zat,Nat.reduceEqDiff,Nat.reduceAdd,↓reduceIte,reduceCtorEq,Nat.reduceLeDiff,Nat.reduceLT,forall_const,d,zm cSlt hx,e1,hcondQ]) | ((simp (disch := omega) only [z6]))))) | ((with_reducible refine And.intro ?_ ?_); . omega) | fail)))
   exact ⟨o ++ [⟨x.path,zc8 a b x⟩],by simp only [zg,List.map_cons,List.map_nil,zc,Nk.get_nil,Nat.reduceEqDiff,↓reduceIte,Nat.succ_ne_self,DV.cut,DV.inB,DObj.cut,List.take_zero,reduceCtorEq,decide_true,Nat.reduceLT,List.take_succ_cons,Int.natCast_add,Int.natCast_one,List.length_append,List.length_cons,List.length_nil,Nat.zero_add,List.map_append] <;> rfl,by simpa using g1,by simp; omega⟩
 obtain ⟨g1,g2⟩ := hr
 simp only [List.map_nil,List.append_nil] at g1
 subst g1
 have hl := ha.2.2
 have hn : (newF a b).length <= 1000000 := by have := hb.2.2; simp only [newF,List.length_map]; exact this
 ((refine Todo.of ?_); (repeat' (first | ((with_reducible refine Todo.to ?_); (repeat (simp only [↓rP,rT,rU,zb,dval,dBin,dInt,zh,za,alive,Nat.reduceEqDiff,Nat.reduceAdd,↓reduceIte,reduceCtorEq,Nat.reduceLT,e ]))))))
 refine z0 a.slots (fun k (o : List Chg) => ⟨[(3,.ptr 1 1 0 0),(5,.own 2 o.length 0 o.length),(29,.sl (a.slots.map cSlt)),(30,.int .i64 a.slots.length),(31,.int .i64 k)],[⟨.loc,6,[cImg a]⟩,⟨.loc,6,[cImg b]⟩,⟨.imm,2,o.map cChg⟩]⟩) (fun k r o => o ++ z0z b r = z0c a b /\ o.length <= 1000000 + k) (newF a b) (Nat.zero_le _) (by simp only [zg,List.map_cons,List.map_nil,zc,Nk.get_nil,Nat.reduceEqDiff,↓reduceIte,Nat.succ_ne_self,DV.cut,DV.inB,DObj.cut,List.take_nil,reduceCtorEq,decide_true,Nat.reduceLT,List.take_succ_cons] <;> rfl) ⟨rfl,hn⟩ (fun k x r o d hx hd hr => ?_) (fun k o e hr => ?_)
 . obtain ⟨g1,g2⟩ := hr
   have e1 := zdu b.slots x.path
   rw [eq_true hb.2.2] at e1
   by_cases q : fndI b.slots x.path < 0
   . rw [yet q] at g1
     have q' := decide_eq_true q
     ((have hcondQ := Bool.and_self; refine Todo.of ?_); (repeat' (first | ((with_reducible refine Todo.to ?_); (repeat (first | (simp only [↓rP,rT,rU,zr,zb,dval,dBin,dInt,zh,za,fz1,DV.immB,ze,zf,zp,zo,zi,zq,zy,zax,zw,DV.one,alive,fzLL,fzL,bRow,bU,cellsOf,zk,DV.isU,zat,Nat.reduceEqDiff,Nat.reduceAdd,↓reduceIte,reduceCtorEq,Nat.reduceLeDiff,Nat.reduceLT,forall_const,d,zm cSlt hx,e1,q',hcondQ]) | ((simp (disch := omega) only [z6]))))) | ((with_reducible refine And.intro ?_ ?_); . omega) | fail)))
     exact ⟨o ++ [⟨x.path,4⟩],by simp only [zg,List.map_cons,List.map_nil,zc,Nk.get_nil,Nat.reduceEqDiff,↓reduceIte,Nat.succ_ne_self,DV.cut,DV.inB,DObj.cut,List.take_zero,reduceCtorEq,decide_true,Nat.reduceLT,List.take_succ_cons,Int.natCast_add,Int.natCast_one,List.length_append,List.length_cons,List.length_nil,Nat.zero_add,List.map_append] <;> rfl,by simpa using g1,by simp; omega⟩
   . rw [goneF_no q] at g1
     have q' := decide_eq_false q
     ((refine Todo.of ?_); (repeat' (first | ((with_reducible refine Todo.to ?_); (repeat (first | (simp only [↓rP,rT,rU,zb,dval,dBin,dInt,zh,za,DV.immB,ze,zf,zp,zo,zi,zq,zw,DV.one,alive,cellsOf,zk,Nat.reduceEqDiff,Nat.reduceAdd,↓reduceIte,reduceCtorEq,Nat.reduceLeDiff,Nat.reduceLT,forall_const,d,zm cSlt hx,e1,q' ]) | ((simp (disch := omega) only [z6]))))) | ((with_reducible refine And.intro ?_ ?_); . omega) | fail)))
     exact ⟨o,by simp only [zg,List.map_cons,List.map_nil,zc,Nk.get_nil,Nat.reduceEqDiff,↓reduceIte,Nat.succ_ne_self,DV.cut,DV.inB,DObj.cut,List.take_zero,reduceCtorEq,decide_true,Nat.reduceLT,List.take_succ_cons,Int.natCast_add,Int.natCast_one] <;> rfl,g1,by omega⟩
 obtain ⟨g1,g2⟩ := hr
 rw [show z0z b [] = [] from rfl,List.append_nil] at g1
 subst g1
 ((refine Todo.of ?_); (repeat' (first | ((with_reducible refine Todo.to ?_); (repeat (simp only [↓rP,rT,rU,zb,dval,dBin,dInt,retV,DR.val,fzT,fzV,fz1,zy,freezeAt,Nat.reduceEqDiff,↓reduceIte,reduceCtorEq,e ]))) | ((with_reducible refine And.intro ?_ ?_); . omega) | fail)))
 all_goals exact congrArg DV.sl (List.take_of_length_le (by simp))
set_option linter.all false
set_option maxRecDepth 20000
open Go.Nk
theorem zok {x : Img} (h : fewF x = true) : zj9 x /\ x.slots.length <= 150 /\ ∀ s ∈ x.slots,s.path.length <= 300 := by
 simp only [fewF,zgh,Bool.and_eq_true,decide_eq_true_eq,List.all_eq_true] at h
 obtain ⟨⟨⟨⟨⟨⟨⟨h1,h2⟩,h3⟩,h4⟩,h5⟩,h6⟩,h7⟩,h8⟩ := h
 refine ⟨⟨fun e he => ?_,by omega,by omega⟩,h4,fun s hs => ?_⟩
 . have := h2 e he
   simp only [zli,Bool.and_eq_true,decide_eq_true_eq] at this
   omega
 . have := h8 s hs
   simp only [fewS,Bool.and_eq_true,decide_eq_true_eq] at this
   omega
set_option linter.all false
set_option maxRecDepth 20000
open Go.Nk
theorem cShp_inj : ∀ x y,cShp x = cShp y -> x = y := fun x y h => by
 cases x; cases y
 simp only [cShp,List.cons.injEq,DV.int.injEq,DV.sl.injEq,true_and,and_true] at h
 obtain ⟨h1,h2,h3,h4⟩ := h
 rw [zjx h1,zjx h2,h3,h4]
abbrev ycm : ShpF -> DV := eA cShp
theorem z79 : Inj ycm := zt8 cShp_inj
def zf1 (c : UInt8) : List UInt8 -> List UInt8 -> List (List UInt8)
 | cur,[] => [cur]
 | cur,x :: r => if x = c then cur :: zf1 c [] r else zf1 c (cur ++ [x]) r
def zjf (c : UInt8) (s : List UInt8) : List (List UInt8) := zf1 c [] s
theorem zky (c : UInt8) : ∀ (l cur : List UInt8),1 <= (zf1 c cur l).length /\ (zf1 c cur l).length <= l.length + 1
 | [],cur => by simp [zf1]
 | x :: r,cur => by
   unfold zf1
   split
   . have := zky c r []
     simp only [List.length_cons]; omega
   . have := zky c r (cur ++ [x])
     simp only [List.length_cons]; omega
theorem zqe (c : UInt8) : ∀ (l cur : List UInt8) (p : List UInt8),p ∈ zf1 c cur l -> p.length <= cur.length + l.length
 | [],cur,p,h => by
   simp only [zf1,List.mem_singleton] at h
   subst h; simp
 | x :: r,cur,p,h => by
   unfold zf1 at h
   split at h
   . rcases List.mem_cons.1 h with h | h
     . subst h; omega
     . have := zqe c r [] p h
       simp only [List.length_nil,List.length_cons] at *; omega
   . have := zqe c r (cur ++ [x]) p h
     simp only [List.length_append,List.length_cons,List.length_nil] at *; omega
def zsy (c : UInt8) (s : List UInt8) (k f : Nat) : List (List UInt8) := if k <= s.length then zf1 c ((s.take k).drop f) (s.drop k) else []
theorem tail_end {c : UInt8} {s : List UInt8} {f : Nat} : zsy c s s.length f = [(s.take s.length).drop f] := by
 simp [zsy,zf1]
theorem z9v {c : UInt8} {s : List UInt8} {k f : Nat} (h : s.length < k) : zsy c s k f = [] := by
 unfold zsy; rw [if_neg (by omega)]
theorem tail_sep {c : UInt8} {s : List UInt8} {k f : Nat} (h : s[k]? = some c) : zsy c s k f = (s.take k).drop f :: zsy c s (k + 1) (k + 1) := by
 obtain ⟨hk,hc⟩ := List.getElem?_eq_some_iff.1 h
 have hd : s.drop k = c :: s.drop (k + 1) := by rw [List.drop_eq_getElem_cons hk,hc]
 have ht : (s.take (k + 1)).drop (k + 1) = [] := List.drop_eq_nil_of_le (by simp; omega)
 unfold zsy
 rw [if_pos (by omega),if_pos (by omega),hd,ht]
 simp [zf1]
theorem tail_no {c x : UInt8} {s : List UInt8} {k f : Nat} (h : s[k]? = some x) (hx : x ≠ c) (hf : f <= k) : zsy c s k f = zsy c s (k + 1) f := by
 obtain ⟨hk,hc⟩ := List.getElem?_eq_some_iff.1 h
 have hd : s.drop k = x :: s.drop (k + 1) := by rw [List.drop_eq_getElem_cons hk,hc]
 have ht : (s.take (k + 1)).drop f = (s.take k).drop f ++ [x] := by
   rw [List.take_add_one,h]
   simp only [Option.toList_some]
   rw [List.drop_append_of_le_length (by simp; omega)]
 unfold zsy
 rw [if_pos (by omega),if_pos (by omega),hd,ht]
 simp [zf1,hx]
noncomputable def s_cut : List DV -> Prop × DV := zbw eS eY fun s c => (s.length <= 1000000,.sl (sls (zjf c s)))
theorem z9k (s : List UInt8) (c : UInt8) : s_cut [.str s,.int .u8 c.toNat] = (s.length <= 1000000,.sl (sls (zjf c s))) := zac zml ya7 _ s c
theorem zrg : OkP Tryz.prog 88 s_cut := by
 refine OkP.mk2 (ps := []) (hs := []) trivial trivial zsl fun s c h => ?_
 try dsimp only at h
 have h : s.length <= 1000000 := h
 ((refine Todo.of ?_); (repeat' (first | ((with_reducible refine Todo.to ?_); (repeat (simp only [↓rP,rT,rU,eS,zb,dval,fzLL,↓reduceIte,reduceCtorEq,forall_const,zje,eY ]))))))
 refine zfk (fun a : Nat × Nat × List (List UInt8) => ⟨[(0,.str s),(1,.int .u8 c.toNat),(5,.own 0 a.2.2.length 0 a.2.2.length),(6,.int .i64 a.2.1),(7,.int .i64 a.1)],[⟨.imm,1,sls a.2.2⟩]⟩)
   (fun a => a.1 <= s.length + 1 /\ a.2.1 <= a.1 /\ a.2.2.length <= a.1 /\ a.2.2 ++ zsy c s a.1 a.2.1 = zjf c s) (fun a => s.length + 1 - a.1) (0,0,[]) (by exact Nat.zero_le _) (by simp only [zg,List.map_cons,List.map_nil,zc,Nk.get_nil,Nat.reduceEqDiff,↓reduceIte,Nat.succ_ne_self,DV.cut,DV.inB,DObj.cut,List.take_nil,reduceCtorEq,Nat.zero_lt_one,decide_true,List.take_succ_cons,List.length_nil] <;> rfl) ⟨by simp,Nat.le_refl _,Nat.le_refl _,by simp [zsy,zjf]⟩ (fun a ha => ?_)
 obtain ⟨k,f,o⟩ := a
 obtain ⟨g1,g2,g3,g4⟩ := ha
 simp only at g1 g2 g3 g4
 by_cases d : k <= s.length
 . by_cases dk : k = s.length
   . subst dk
     rw [tail_end,List.take_length] at g4
     ((have hcondQ := Bool.and_self; refine Todo.of ?_); (repeat' (first | ((with_reducible refine Todo.to ?_); (repeat (first | (simp only [↓rP,rT,rU,zb,dval,dBin,dInt,fz1,DV.immB,zy,zax,fzLL,fzL,bRow,bU,cellsOf,DV.isU,zat,Nat.reduceEqDiff,↓reduceIte,reduceCtorEq,Nat.reduceLeDiff,forall_const,z7,zqy,zbq,ztn ,hcondQ]) | ((simp (disch := omega) only [z6]))))) | ((with_reducible refine And.intro ?_ ?_); . omega) | (((((with_reducible refine zd (t := ?_) ?_ (fun hcQ => ?_) (fun hcQ => ?_)); rotate_left; . (rfl))) <;> (have hn := hcQ; have hcondQ := hcQ) <;> (try simp only [decide_eq_true_eq,decide_eq_false_iff_not,Int.ofNat_le] at hn) <;> (try (exfalso; omega)) <;> (refine Todo.of ?_))) | fail)))
     exact ⟨(s.length + 1,s.length + 1,o ++ [s.drop f]),by simp only [zg,List.map_cons,List.map_nil,zc,Nk.get_nil,Nat.reduceEqDiff,↓reduceIte,Nat.succ_ne_self,DV.cut,DV.inB,DObj.cut,List.take_nil,reduceCtorEq,Nat.zero_lt_one,decide_true,List.take_succ_cons,Int.natCast_add,Int.natCast_one,List.length_append,List.length_cons,List.length_nil,Nat.zero_add] <;> rfl,⟨by simp,by simp,by simp; omega,by simp only; rw [z9v (by omega),List.append_nil]; exact g4⟩,by simp only; omega⟩
   . have hx : s[k]? = some s[k] := List.getElem?_eq_getElem (by omega)
     have hg := getD_some (d := 0) hx
     generalize s[k] = x at *
     by_cases hc : x = c
     . subst hc
       rw [tail_sep hx] at g4
       ((have hcondQ := Bool.and_self; refine Todo.of ?_); (repeat' (first | ((with_reducible refine Todo.to ?_); (repeat (first | (simp only [↓rP,rT,rU,zb,dval,dBin,dInt,fz1,DV.immB,zy,zax,fzLL,fzL,bRow,bU,cellsOf,DV.isU,zat,Nat.reduceEqDiff,↓reduceIte,reduceCtorEq,Nat.reduceLeDiff,forall_const,z7,zqy,zbq,ztn,hg ,hcondQ]) | ((simp (disch := omega) only [z6]))))) | ((with_reducible refine And.intro ?_ ?_); . omega) | (((first | ((with_reducible refine zd (t := ?_) ?_ (fun hcQ => ?_) (fun hcQ => ?_)); rotate_left; . (rfl)) | ((with_reducible refine zl (t := ?_) ?_ (fun hcQ => ?_) (fun hcQ => ?_)); rotate_left; . (rfl))) <;> (have hn := hcQ; have hcondQ := hcQ) <;> (try simp only [decide_eq_true_eq,decide_eq_false_iff_not,beq_iff_eq,ne_eq,beq_eq_false_iff_ne,Int.ofNat_le] at hn) <;> (try (exfalso; omega)) <;> (refine Todo.of ?_))) | fail)))
       exact ⟨(k + 1,k + 1,o ++ [(s.take k).drop f]),by simp only [zg,List.map_cons,List.map_nil,zc,Nk.get_nil,Nat.reduceEqDiff,↓reduceIte,Nat.succ_ne_self,DV.cut,DV.inB,DObj.cut,List.take_nil,reduceCtorEq,Nat.zero_lt_one,decide_true,List.take_succ_cons,Int.natCast_add,Int.natCast_one,List.length_append,List.length_cons,List.length_nil,Nat.zero_add] <;> rfl,⟨by simp only; omega,by simp,by simp; omega,by simpa using g4⟩,by simp only; omega⟩
     . rw [tail_no hx hc (by omega)] at g4
       have hb : ((x.toNat : Int) == (c.toNat : Int)) = false := by rw [z73]; simpa using hc
       ((have hcondQ := Bool.and_self; refine Todo.of ?_); (repeat' (first | ((with_reducible refine Todo.to ?_); (repeat (first | (simp only [↓rP,rT,zb,dval,dBin,dInt,Nat.reduceEqDiff,↓reduceIte,reduceCtorEq,hg,hb ,hcondQ]) | ((simp (disch := omega) only [z6]))))) | ((with_reducible refine And.intro ?_ ?_); . omega) | (((first | ((with_reducible refine zd (t := ?_) ?_ (fun hcQ => ?_) (fun hcQ => ?_)); rotate_left; . (rfl)) | ((with_reducible refine zl (t := ?_) ?_ (fun hcQ => ?_) (fun hcQ => ?_)); rotate_left; . (rfl))) <;> (have hn := hcQ; have hcondQ := hcQ) <;> (try simp only [decide_eq_true_eq,decide_eq_false_iff_not,beq_iff_eq,ne_eq,beq_eq_false_iff_ne,Int.ofNat_le] at hn) <;> (try (exfalso; omega)) <;> (refine Todo.of ?_))) | fail)))
       exact ⟨(k + 1,f,o),by simp only [zg,List.map_cons,List.map_nil,zc,Nk.get_nil,Nat.reduceEqDiff,↓reduceIte,Nat.succ_ne_self,DV.cut,DV.inB,DObj.cut,List.take_nil,reduceCtorEq,Nat.zero_lt_one,decide_true,List.take_succ_cons,Int.natCast_add,Int.natCast_one] <;> rfl,⟨by simp only; omega,by simp only; omega,by simp only; omega,g4⟩,by simp only; omega⟩
 . rw [z9v (by omega),List.append_nil] at g4
   subst g4
   ((have hcondQ := Bool.and_self; refine Todo.of ?_); (repeat' (first | ((with_reducible refine Todo.to ?_); (repeat (simp only [↓rP,rT,rU,zb,dval,dBin,dInt,retV,DR.val,fzT,fzV,fz1,zy,freezeAt,Nat.reduceEqDiff,↓reduceIte,reduceCtorEq,z7,zwo,zwo ,hcondQ]))) | (((((with_reducible refine zd (t := ?_) ?_ (fun hcQ => ?_) (fun hcQ => ?_)); rotate_left; . (rfl))) <;> (have hn := hcQ; have hcondQ := hcQ) <;> (try simp only [decide_eq_true_eq,decide_eq_false_iff_not,Int.ofNat_le] at hn) <;> (try (exfalso; omega)) <;> (refine Todo.of ?_))) | fail)) <;> (try (exact Nat.le_refl _)))
def numSh (b : List UInt8) : Bool := decide (1 <= b.length) && decide (b.length <= 3) && (b.getD 0 0 != 48) && b.all (fun x => inY x 48 57)
def segP : List (List UInt8) -> Bool
 | [a] => lowF a
 | [a,b] => lowF a && numSh b
 | _ => false
def segF (x : List UInt8) : Bool := segP (zjf 46 x)
theorem segF_eq (x : List UInt8) : segF x = segP (zjf 46 x) := rfl
def yfx (s : List UInt8) : Bool := (zjf 47 s).all segF
theorem beq48 (x : UInt8) : ((x.toNat : Int) == 48) = (x == 48) := by
 have := z73 x 48
 simpa using this
noncomputable def z9w : List DV -> Prop × DV := zbp eS fun s => (s.length <= 1000000,.bool (yfx s))
theorem z4q (s : List UInt8) : z9w [.str s] = (s.length <= 1000000,.bool (yfx s)) := z8 zml _ s
theorem zhc : OkP Tryz.prog 61 z9w := by
 refine OkP.mk1 (ps := [(88,s_cut),(35,yaa),(89,s_in)]) (hs := []) ⟨zrg,zdd,zjn,trivial⟩ trivial zpz fun s h => ?_
 try dsimp only at h
 have h : s.length <= 1000000 := h
 have e0 := z9k s 47
 rw [eq_true h] at e0
 have y0 : (47 : UInt8).toNat = 47 := rfl
 simp only [y0,Int.cast_ofNat_Int] at e0
 have hm := zqe 47 s []
 have hl := (zky 47 s []).2
 rw [show zf1 47 [] s = zjf 47 s from rfl] at hm hl
 rw [show yfx s = (zjf 47 s).all segF from rfl]
 generalize zjf 47 s = l at *
 ((refine Todo.of ?_); (repeat' (first | ((with_reducible refine Todo.to ?_); (repeat (simp only [↓rP,rT,rU,eS,zb,dval,fzVs,fzV,fz1,DV.immB,ze,zf,zp,zo,zi,zq,↓reduceIte,reduceCtorEq,zie,e0 ]))))))
 refine z0 l (fun k (_ : Unit) => ⟨[(3,.sl (sls l)),(4,.int .i64 k)],[]⟩) (fun k r _ => r.all segF = l.all segF) () (Nat.zero_le _) (by simp only [zg,List.map_cons,List.map_nil,zc,Nk.get_nil,Nat.reduceEqDiff,↓reduceIte,DV.cut,DV.inB,List.take_nil] <;> rfl) rfl (fun k x r _ d hx hd hr => ?_) (fun k _ e hr => ?_)
 . simp only [List.all_cons] at hr
   have e1 := z9k x 46
   have y1 : (46 : UInt8).toNat = 46 := rfl
   have hxm : x.length <= 1000000 := by
     have := hm x (zfd hd)
     simp only [List.length_nil] at this
     omega
   rw [eq_true hxm] at e1
   simp only [y1,Int.cast_ofNat_Int] at e1
   have hp := (zky 46 x []).1
   rw [show zf1 46 [] x = zjf 46 x from rfl] at hp
   rw [segF_eq] at hr
   generalize zjf 46 x = p at *
   rcases p with _ | ⟨a,_ | ⟨b,_ | ⟨c,p⟩⟩⟩
   . simp at hp
   . simp only [segP] at hr
     simp only [sls,List.map_cons,List.map_nil] at e1
     ((have hcondQ := Bool.and_self; refine Todo.of ?_); (repeat' (first | ((with_reducible refine Todo.to ?_); (repeat (first | (simp only [↓rP,rT,rU,zb,dval,dBin,dInt,dUn,zh,za,retV,DR.val,fzT,fzVs,fzV,fz1,DV.immB,ze,zf,zp,zo,zi,zq,Nat.reduceEqDiff,↓reduceIte,reduceCtorEq,Int.reduceToNat,Int.reduceLE,Int.reduceLT,zk4,z7,d,zvg hx,e1 ,hcondQ]) | ((simp (disch := omega) only [z6]))))) | ((with_reducible refine And.intro ?_ ?_); . omega) | (((((with_reducible refine zd (t := ?_) ?_ (fun hcQ => ?_) (fun hcQ => ?_)); rotate_left; . (rfl))) <;> (have hn := hcQ; have hcondQ := hcQ) <;> (try simp only [Bool.not_eq_true',Bool.not_eq_false'] at hn) <;> (refine Todo.of ?_))) | fail)))
     all_goals first
       | exact ⟨(),by simp only [zg,List.map_cons,List.map_nil,zc,Nk.get_nil,Nat.reduceEqDiff,↓reduceIte,DV.cut,DV.inB,List.take_nil,Int.natCast_add,Int.natCast_one] <;> rfl,by grind⟩
       | grind
   . simp only [segP] at hr
     simp only [sls,List.map_cons,List.map_nil] at e1
     by_cases q : lowF a = true /\ 1 <= b.length /\ b.length <= 3 /\ (b.getD 0 0 == 48) = false
     rotate_left
     . have hf : l.all segF = false := by
         rw [<- hr]
         simp only [numSh]
         grind
       rw [hf]
       ((have hcondQ := Bool.and_self; refine Todo.of ?_); (repeat' (first | ((with_reducible refine Todo.to ?_); (repeat (simp only [↓rP,rT,rU,zb,dval,dBin,dInt,dUn,zh,za,retV,DR.val,fzT,fzVs,fzV,fz1,DV.immB,ze,zf,zp,zo,zi,zq,Nat.reduceEqDiff,Nat.reduceAdd,↓reduceIte,reduceCtorEq,Int.reduceToNat,Int.reduceLE,Int.reduceLT,zk4,z7,d,zvg hx,e1,beq48 ,hcondQ]))) | ((with_reducible refine And.intro ?_ ?_); . omega) | (((first | ((with_reducible refine zd (t := ?_) ?_ (fun hcQ => ?_) (fun hcQ => ?_)); rotate_left; . (rfl)) | ((with_reducible refine zl (t := ?_) ?_ (fun hcQ => ?_) (fun hcQ => ?_)); rotate_left; . (rfl))) <;> (have hn := hcQ; have hcondQ := hcQ) <;> (try simp only [decide_eq_true_eq,decide_eq_false_iff_not,beq_iff_eq,ne_eq,beq_eq_false_iff_ne,Bool.not_eq_true',Bool.not_eq_false'] at hn) <;> (refine Todo.of ?_))) | fail)))
       all_goals grind
     obtain ⟨q1,q2,q3,q4⟩ := q
     ((have hcondQ := Bool.and_self; refine Todo.of ?_); (repeat' (first | ((with_reducible refine Todo.to ?_); (repeat (simp only [↓rP,rT,rU,zb,dval,dBin,dInt,dUn,zh,za,fzVs,fzV,fz1,DV.immB,ze,zf,zp,zo,zi,zq,Nat.reduceEqDiff,Nat.reduceAdd,↓reduceIte,reduceCtorEq,Int.reduceToNat,Int.reduceLE,Int.reduceLT,zk4,z7,d,zvg hx,e1,beq48,q1,q4 ,hcondQ]))) | ((with_reducible refine And.intro ?_ ?_); . omega) | (((((with_reducible refine zl (t := ?_) ?_ (fun hcQ => ?_) (fun hcQ => ?_)); rotate_left; . (rfl))) <;> (have hn := hcQ; have hcondQ := hcQ) <;> (try simp only [decide_eq_true_eq,decide_eq_false_iff_not] at hn) <;> (try (exfalso; omega)) <;> (refine Todo.of ?_))) | fail)))
     have hnum : numSh b = b.all (fun x => inY x 48 57) := by
       simp only [numSh,q2,q3,decide_true,Bool.true_and,bne,q4,Bool.not_false]
     rw [q1,hnum,Bool.true_and] at hr
     refine z0 b (fun j (_ : Unit) => ⟨[(3,.sl (sls l)),(4,.int .i64 k),(6,.str b),(7,.int .i64 j)],[]⟩) (fun j r' _ => (r'.all fun x => inY x 48 57) = b.all fun x => inY x 48 57) () (Nat.zero_le _) (by simp only [zg,List.map_cons,List.map_nil,zc,Nk.get_nil,Nat.reduceEqDiff,↓reduceIte,Nat.succ_ne_self,DV.cut,DV.inB,List.take_nil] <;> rfl) rfl (fun j y r' _ d' hy hd' hr' => ?_) (fun j _ e' hr' => ?_)
     . simp only [List.all_cons] at hr'
       have e4 := zrj y 48 57
       have y5 : (48 : UInt8).toNat = 48 := rfl
       have y6 : (57 : UInt8).toNat = 57 := rfl
       simp only [y5,y6,Int.cast_ofNat_Int] at e4
       ((have hcondQ := Bool.and_self; refine Todo.of ?_); (repeat' (first | ((with_reducible refine Todo.to ?_); (repeat (first | (simp only [↓rP,rT,rU,zb,dval,dBin,dInt,dUn,retV,DR.val,fzT,fzV,fz1,DV.immB,ze,zf,zp,zo,zi,zq,Nat.reduceEqDiff,↓reduceIte,d',getD_some hy,e4 ,hcondQ]) | ((simp (disch := omega) only [z6]))))) | ((with_reducible refine And.intro ?_ ?_); . omega) | (((((with_reducible refine zd (t := ?_) ?_ (fun hcQ => ?_) (fun hcQ => ?_)); rotate_left; . (rfl))) <;> (have hn := hcQ; have hcondQ := hcQ) <;> (try simp only [Bool.not_eq_true',Bool.not_eq_false'] at hn) <;> (refine Todo.of ?_))) | fail)))
       all_goals first
         | exact ⟨(),by simp only [zg,List.map_cons,List.map_nil,zc,Nk.get_nil,Nat.reduceEqDiff,↓reduceIte,Nat.succ_ne_self,DV.cut,DV.inB,List.take_nil,Int.natCast_add,Int.natCast_one] <;> rfl,by grind⟩
         | grind
     . simp only [List.all_nil] at hr'
       rw [<- hr',Bool.true_and] at hr
       ((refine Todo.of ?_); (repeat' (first | ((with_reducible refine Todo.to ?_); (repeat (first | (simp only [↓rP,rT,rU,zb,dval,dBin,dInt,Nat.reduceEqDiff,↓reduceIte,e' ]) | ((simp (disch := omega) only [z6]))))))))
       exact ⟨(),by simp only [zg,List.map_cons,List.map_nil,zc,Nk.get_nil,Nat.reduceEqDiff,↓reduceIte,DV.cut,DV.inB,List.take_nil,Int.natCast_add,Int.natCast_one] <;> rfl,hr⟩
   . simp only [segP] at hr
     simp only [sls,List.map_cons] at e1
     ((have hcondQ := Bool.and_self; refine Todo.of ?_); (repeat' (first | ((with_reducible refine Todo.to ?_); (repeat (simp only [↓rP,rT,rU,zb,dval,dBin,dInt,zh,za,retV,DR.val,fzT,fzVs,fzV,fz1,DV.immB,ze,zf,zp,zo,zi,zq,Nat.reduceEqDiff,↓reduceIte,reduceCtorEq,z7,d,zvg hx,e1 ,hcondQ]))) | ((with_reducible refine And.intro ?_ ?_); . omega) | (((((with_reducible refine zl (t := ?_) ?_ (fun hcQ => ?_) (fun hcQ => ?_)); rotate_left; . (rfl))) <;> (have hn := hcQ; have hcondQ := hcQ) <;> (try simp only [decide_eq_true_eq,decide_eq_false_iff_not] at hn) <;> (try (exfalso; omega)) <;> (refine Todo.of ?_))) | fail)) <;> (try (assumption)))
     all_goals grind
 . simp only [List.all_nil] at hr
   ((refine Todo.of ?_); (repeat' (first | ((with_reducible refine Todo.to ?_); (repeat (simp only [↓rP,rT,rU,zb,dval,dBin,dInt,retV,DR.val,fzT,fzV,fz1,DV.immB,Nat.reduceEqDiff,↓reduceIte,z7,e,<- hr ]))))))
end Go.Proofs.YtjgefhgkinocmaaGreat
