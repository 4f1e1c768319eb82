/- Types, enums: which are right, how many cells, which are alike. -/
import Derived.Test.YtfaailjhioobhaaGreatBa
import Derived.Test.YtfaailjhioobhaaGreatI4
import Derived.Test.YtfaailjhioobhaaGreatIdx
import Derived.Test.YtfaailjhioobhaaGreatNkZ3
set_option linter.all false
set_option maxRecDepth 20000
namespace Go.Proofs.YtfaailjhioobhaaGreat
open Go.Nk
structure Ty where
 k : Int
 e : Int
 n : Int
@[reducible] def cTy (t : Ty) : List DV := [.int .i64 t.k,.int .i64 t.e,.int .i64 t.n]
theorem z2r : ∀ x y,cTy x = cTy y → x = y := fun x y h => by
 cases x; cases y
 simp only [cTy,List.cons.injEq,DV.int.injEq,true_and,and_true] at h
 obtain ⟨rfl,rfl,rfl⟩ := h
 rfl
instance : Inhabited Ty := ⟨⟨0,0,0⟩⟩
abbrev eTy : Ty → DV := eA cTy
theorem inj_Ty : Inj eTy := inj_A z2r
structure En where
 name : List UInt8
 ct : List (List UInt8)
@[reducible] def cEn (x : En) : List DV := [.str x.name,.sl (sls x.ct)]
theorem z9q : ∀ x y,cEn x = cEn y → x = y := fun x y h => by
 cases x; cases y
 simp only [cEn,List.cons.injEq,DV.str.injEq,DV.sl.injEq,and_true] at h
 obtain ⟨rfl,h2⟩ := h
 rw [z91 h2]
instance : Inhabited En := ⟨⟨[],[]⟩⟩
abbrev eEns : List En → DV := eL cEn
def zbh (t : Ty) : Int := if t.n < 1 then 1 else if 8 < t.n then 8 else t.n
noncomputable def zf8 : List DV → Prop × DV := zdu eTy fun t => (True,.int .i64 (zbh t))
theorem zg9 (t : Ty) : zf8 [.agg (cTy t)] = (True,.int .i64 (zbh t)) := zan inj_Ty _ _
theorem zof : OkP Tryz.prog 69 zf8 := by
 refine OkP.mk1 (ps := []) (hs := []) trivial trivial zo4 fun t _ => ?_
 (have hcondQ := Bool.and_self; refine Todo.of ?_; repeat' (first | ((with_reducible refine Todo.to ?_); try simp only [↓rP,rT,rU,zc,dval,dBin,dInt,zg,zb,retV,DR.val,fzT,fzV,fz1,DV.immB,DV.one,alive,cellsOf,Nat.reduceEqDiff,Nat.reduceAdd,↓reduceIte,reduceCtorEq,forall_const,zgx,hcondQ]) | ((with_reducible refine And.intro ?_ ?_); · first | trivial | omega | (simp; done) | (simp; omega)) | ((first | ((with_reducible refine zw (t := ?_) ?_ (fun hcQ => ?_) (fun hcQ => ?_)); rotate_left; · rfl) | ((with_reducible refine z7 (t := ?_) ?_ (fun hcQ => ?_) (fun hcQ => ?_)); rotate_left; · rfl)) <;> (have hn := hcQ; have hcondQ := hcQ) <;> (try simp only [decide_eq_true_eq,decide_eq_false_iff_not] at hn) <;> (try (exfalso; omega)) <;> (refine Todo.of ?_)) | (((with_reducible refine zdh ?_ ?_ ?_); · rfl) <;> (refine Todo.of ?_))))
 all_goals grind [zbh]
theorem zvy : OkP Tryz.prog 88 zf8 := by
 refine OkP.mk1 (ps := []) (hs := []) trivial trivial z7h fun t _ => ?_
 (have hcondQ := Bool.and_self; refine Todo.of ?_; repeat' (first | ((with_reducible refine Todo.to ?_); try simp only [↓rP,rT,rU,zc,dval,zg,zb,retV,DR.val,fzT,fzV,fz1,DV.immB,DV.one,alive,cellsOf,Nat.reduceEqDiff,Nat.reduceAdd,↓reduceIte,reduceCtorEq,forall_const,zvt]) | ((with_reducible refine And.intro ?_ ?_); · first | trivial | omega | (simp; done) | (simp; omega)) | (((with_reducible refine zdh ?_ ?_ ?_); · rfl) <;> (refine Todo.of ?_))))
 all_goals grind [zbh]
noncomputable def zpz : List DV → Prop × DV := zzt eSs eSs fun a b => (a.length ≤ 1000000000,.bool (decide (a = b)))
theorem zwk (a b : List (List UInt8)) : zpz [.sl (sls a),.sl (sls b)] = (a.length ≤ 1000000000,.bool (decide (a = b))) := zsk inj_Ss inj_Ss _ _ _
theorem ok_Names : OkP Tryz.prog 126 zpz := by
 refine OkP.mk2 (ps := []) (hs := []) trivial trivial zo8 fun a b h => ?_
 by_cases c : a.length = b.length
 rotate_left
 · have c1 : ((a.length : Int) != (b.length : Int)) = true := by simp; omega
   have c2 : decide (a = b) = false := by simp; intro e; rw [e] at c; exact c rfl
   (have hcondQ := Bool.and_self; refine Todo.of ?_; repeat' (first | ((with_reducible refine Todo.to ?_); try simp only [↓rP,rT,zc,dval,dBin,dInt,retV,DR.val,fzT,fzV,fz1,DV.immB,Nat.reduceEqDiff,↓reduceIte,reduceCtorEq,zd8,eSs,zek,c1,c2]) | ((with_reducible refine And.intro ?_ ?_); · first | trivial | omega | (simp; done) | (simp; omega)) | (((with_reducible refine zdh ?_ ?_ ?_); · rfl) <;> (refine Todo.of ?_))))
 have c1 : ((a.length : Int) != (b.length : Int)) = false := by simp; omega
 (have hcondQ := Bool.and_self; refine Todo.of ?_; repeat' (first | ((with_reducible refine Todo.to ?_); try simp only [↓rP,rT,zc,dval,dBin,dInt,Nat.reduceEqDiff,↓reduceIte,reduceCtorEq,zd8,eSs,zek,c1]) | ((with_reducible refine And.intro ?_ ?_); · first | trivial | omega | (simp; done) | (simp; omega)) | (((with_reducible refine zdh ?_ ?_ ?_); · rfl) <;> (refine Todo.of ?_))))
 refine zaa (fun k : Nat => ⟨[(0,.sl (sls a)),(1,.sl (sls b)),(5,.int .i64 k)],[]⟩) (fun k => k ≤ a.length ∧ a.take k = b.take k) (fun k => a.length - k) 0 (by exact Nat.zero_le _) ?_ ⟨Nat.zero_le _,rfl⟩ fun k hk => ?_
 · simp only [zk,List.map_cons,List.map_nil,zd,Nk.get_nil,Nat.reduceEqDiff,↓reduceIte,Nat.succ_ne_self,DV.cut,DV.inB,List.take_nil,reduceCtorEq]
   rfl
 obtain ⟨hk,ht⟩ := hk
 have h' : a.length ≤ 1000000000 := h
 by_cases d : k < a.length
 · have w : IntKind.i64.wrap ((k : Int) + 1) = ((k + 1 : Nat) : Int) := by rw [zt (by omega)]; omega
   have e1 := zsw d
   have e2 := zsw (l := b) (i := k) (by omega)
   have d2 : k < b.length := by omega
   (have hcondQ := Bool.and_self; refine Todo.of ?_; repeat' (first | ((with_reducible refine Todo.to ?_); try simp only [↓rP,rT,rU,zc,dval,dBin,dInt,dStr,zg,zb,retV,DR.val,fzT,fzV,fz1,DV.immB,Nat.reduceEqDiff,↓reduceIte,reduceCtorEq,zek,e1,e2,d,d2,w,hcondQ]) | ((with_reducible refine And.intro ?_ ?_); · first | trivial | omega | (simp; done) | (simp; omega)) | ((first | ((with_reducible refine zw (t := ?_) ?_ (fun hcQ => ?_) (fun hcQ => ?_)); rotate_left; · rfl) | ((with_reducible refine z7 (t := ?_) ?_ (fun hcQ => ?_) (fun hcQ => ?_)); rotate_left; · rfl)) <;> (have hn := hcQ; have hcondQ := hcQ) <;> (try simp only [beq_iff_eq,ne_eq,beq_eq_false_iff_ne,Bool.not_eq_true',Bool.not_eq_false'] at hn) <;> (try (exfalso; omega)) <;> (refine Todo.of ?_)) | (((with_reducible refine zdh ?_ ?_ ?_); · rfl) <;> (refine Todo.of ?_))))
   · have : a ≠ b := fun e => by subst e; simp_all
     simp [this]
   · refine ⟨k + 1,?_,⟨by omega,z4f d d2 ht (by simp_all)⟩,by omega⟩
     simp only [zk,List.map_cons,List.map_nil,zd,Nk.get_nil,Nat.reduceEqDiff,↓reduceIte,Nat.succ_ne_self,DV.cut,DV.inB,List.take_nil,reduceCtorEq]
 · have e : a = b := by
     have hk2 : k = a.length := by omega
     rw [hk2,List.take_length,c,List.take_length] at ht
     exact ht
   (have hcondQ := Bool.and_self; refine Todo.of ?_; repeat' (first | ((with_reducible refine Todo.to ?_); try simp only [↓rP,rT,rU,zc,dval,dBin,dInt,retV,DR.val,fzT,fzV,fz1,DV.immB,Nat.reduceEqDiff,↓reduceIte,reduceCtorEq,zek,e,hcondQ]) | ((with_reducible refine And.intro ?_ ?_); · first | trivial | omega | (simp; done) | (simp; omega)) | ((first | ((with_reducible refine zw (t := ?_) ?_ (fun hcQ => ?_) (fun hcQ => ?_)); rotate_left; · rfl) | ((with_reducible refine z7 (t := ?_) ?_ (fun hcQ => ?_) (fun hcQ => ?_)); rotate_left; · rfl)) <;> (have hn := hcQ; have hcondQ := hcQ) <;> (try simp only [decide_eq_true_eq,decide_eq_false_iff_not] at hn) <;> (try (exfalso; omega)) <;> (refine Todo.of ?_)) | (((with_reducible refine zdh ?_ ?_ ?_); · rfl) <;> (refine Todo.of ?_))))
theorem ok_Equal : OkP Tryz.prog 103 zpz := by
 refine OkP.mk2 (ps := []) (hs := []) trivial trivial zf2 fun a b h => ?_
 by_cases c : a.length = b.length
 rotate_left
 · have c1 : ((a.length : Int) != (b.length : Int)) = true := by simp; omega
   have c2 : decide (a = b) = false := by simp; intro e; rw [e] at c; exact c rfl
   (have hcondQ := Bool.and_self; refine Todo.of ?_; repeat' (first | ((with_reducible refine Todo.to ?_); try simp only [↓rP,rT,zc,dval,dBin,dInt,retV,DR.val,fzT,fzV,fz1,DV.immB,Nat.reduceEqDiff,↓reduceIte,reduceCtorEq,zbl,eSs,zek,c1,c2]) | ((with_reducible refine And.intro ?_ ?_); · first | trivial | omega | (simp; done) | (simp; omega)) | (((with_reducible refine zdh ?_ ?_ ?_); · rfl) <;> (refine Todo.of ?_))))
 have c1 : ((a.length : Int) != (b.length : Int)) = false := by simp; omega
 (have hcondQ := Bool.and_self; refine Todo.of ?_; repeat' (first | ((with_reducible refine Todo.to ?_); try simp only [↓rP,rT,zc,dval,dBin,dInt,Nat.reduceEqDiff,↓reduceIte,reduceCtorEq,zbl,eSs,zek,c1]) | ((with_reducible refine And.intro ?_ ?_); · first | trivial | omega | (simp; done) | (simp; omega)) | (((with_reducible refine zdh ?_ ?_ ?_); · rfl) <;> (refine Todo.of ?_))))
 refine zaa (fun k : Nat => ⟨[(0,.sl (sls a)),(1,.sl (sls b)),(12,.int .i64 a.length),(13,.int .i64 k)],[]⟩) (fun k => k ≤ a.length ∧ a.take k = b.take k) (fun k => a.length - k) 0 (by exact Nat.zero_le _) ?_ ⟨Nat.zero_le _,rfl⟩ fun k hk => ?_
 · simp only [zk,List.map_cons,List.map_nil,zd,Nk.get_nil,Nat.reduceEqDiff,↓reduceIte,Nat.succ_ne_self,DV.cut,DV.inB,List.take_nil,reduceCtorEq]
   rfl
 obtain ⟨hk,ht⟩ := hk
 have h' : a.length ≤ 1000000000 := h
 by_cases d : k < a.length
 · have w : IntKind.i64.wrap ((k : Int) + 1) = ((k + 1 : Nat) : Int) := by rw [zt (by omega)]; omega
   have e1 := zsw d
   have e2 := zsw (l := b) (i := k) (by omega)
   have d2 : k < b.length := by omega
   (have hcondQ := Bool.and_self; refine Todo.of ?_; repeat' (first | ((with_reducible refine Todo.to ?_); try simp only [↓rP,rT,rU,zc,dval,dBin,dInt,dStr,zg,zb,retV,DR.val,fzT,fzV,fz1,DV.immB,Nat.reduceEqDiff,↓reduceIte,reduceCtorEq,zek,e1,e2,d,d2,w,hcondQ]) | ((with_reducible refine And.intro ?_ ?_); · first | trivial | omega | (simp; done) | (simp; omega)) | ((first | ((with_reducible refine zw (t := ?_) ?_ (fun hcQ => ?_) (fun hcQ => ?_)); rotate_left; · rfl) | ((with_reducible refine z7 (t := ?_) ?_ (fun hcQ => ?_) (fun hcQ => ?_)); rotate_left; · rfl)) <;> (have hn := hcQ; have hcondQ := hcQ) <;> (try simp only [beq_iff_eq,ne_eq,beq_eq_false_iff_ne,Bool.not_eq_true',Bool.not_eq_false'] at hn) <;> (try (exfalso; omega)) <;> (refine Todo.of ?_)) | (((with_reducible refine zdh ?_ ?_ ?_); · rfl) <;> (refine Todo.of ?_))))
   · have : a ≠ b := fun e => by subst e; simp_all
     simp [this]
   · refine ⟨k + 1,?_,⟨by omega,z4f d d2 ht (by simp_all)⟩,by omega⟩
     simp only [zk,List.map_cons,List.map_nil,zd,Nk.get_nil,Nat.reduceEqDiff,↓reduceIte,Nat.succ_ne_self,DV.cut,DV.inB,List.take_nil,reduceCtorEq]
 · have e : a = b := by
     have hk2 : k = a.length := by omega
     rw [hk2,List.take_length,c,List.take_length] at ht
     exact ht
   (have hcondQ := Bool.and_self; refine Todo.of ?_; repeat' (first | ((with_reducible refine Todo.to ?_); try simp only [↓rP,rT,rU,zc,dval,dBin,dInt,retV,DR.val,fzT,fzV,fz1,DV.immB,Nat.reduceEqDiff,↓reduceIte,reduceCtorEq,e,hcondQ]) | ((with_reducible refine And.intro ?_ ?_); · first | trivial | omega | (simp; done) | (simp; omega)) | ((first | ((with_reducible refine zw (t := ?_) ?_ (fun hcQ => ?_) (fun hcQ => ?_)); rotate_left; · rfl) | ((with_reducible refine z7 (t := ?_) ?_ (fun hcQ => ?_) (fun hcQ => ?_)); rotate_left; · rfl)) <;> (have hn := hcQ; have hcondQ := hcQ) <;> (try simp only [decide_eq_true_eq,decide_eq_false_iff_not] at hn) <;> (try (exfalso; omega)) <;> (refine Todo.of ?_)) | (((with_reducible refine zdh ?_ ?_ ?_); · rfl) <;> (refine Todo.of ?_))))
end Go.Proofs.YtfaailjhioobhaaGreat
set_option linter.all false
set_option maxRecDepth 20000
namespace Go.Proofs.YtfaailjhioobhaaGreat
open Go.Nk
end Go.Proofs.YtfaailjhioobhaaGreat
set_option linter.all false
set_option maxRecDepth 20000
namespace Go.Proofs.YtfaailjhioobhaaGreat
open Go.Nk
structure Prt where
 name : List UInt8
 ty : Ty
@[reducible] def cPrt (p : Prt) : List DV := [.str p.name,.int .i64 p.ty.k,.int .i64 p.ty.e,.int .i64 p.ty.n]
theorem zsq : ∀ x y,cPrt x = cPrt y → x = y := fun x y h => by
 obtain ⟨n,k,e,m⟩ := x; obtain ⟨n',k',e',m'⟩ := y
 simp only [cPrt,List.cons.injEq,DV.str.injEq,DV.int.injEq,true_and,and_true] at h
 obtain ⟨rfl,rfl,rfl,rfl⟩ := h
 rfl
instance : Inhabited Prt := ⟨⟨[],default⟩⟩
abbrev z7u : List Prt → DV := eL cPrt
structure Slt where
 path : List UInt8
 ty : Ty
 at_ : Int
 ini : List Int
@[reducible] def cSlt (s : Slt) : List DV := [.str s.path,.int .i64 s.ty.k,.int .i64 s.ty.e,.int .i64 s.ty.n,.int .i64 s.at_,.sl (ils s.ini)]
theorem z4t : ∀ x y,cSlt x = cSlt y → x = y := fun x y h => by
 obtain ⟨n,⟨k,e,m⟩,a,i⟩ := x; obtain ⟨n',⟨k',e',m'⟩,a',i'⟩ := y
 simp only [cSlt,List.cons.injEq,DV.str.injEq,DV.int.injEq,DV.sl.injEq,true_and,and_true] at h
 obtain ⟨rfl,rfl,rfl,rfl,rfl,h⟩ := h
 rw [z2x h]
instance : Inhabited Slt := ⟨⟨[],default,0,[]⟩⟩
@[reducible] def cIn4 (x : In4) : List DV := [.int .i64 x.op,.int .i64 x.a,.int .i64 x.b,.int .i64 x.n]
theorem cIn4_inj : ∀ x y,cIn4 x = cIn4 y → x = y := fun x y h => by
 cases x; cases y
 simp only [cIn4,List.cons.injEq,DV.int.injEq,true_and,and_true] at h
 obtain ⟨rfl,rfl,rfl,rfl⟩ := h
 rfl
structure Img where
 en : List En
 ins : List Prt
 outs : List Prt
 slots : List Slt
 loc : List Int
 code : List In4
@[reducible] def cImg (x : Img) : List DV := [.sl (x.en.map cEn),.sl (x.ins.map cPrt),.sl (x.outs.map cPrt),.sl (x.slots.map cSlt),.sl (ils x.loc),.sl (x.code.map cIn4)]
theorem z5u : ∀ x y,cImg x = cImg y → x = y := fun x y h => by
 cases x; cases y
 simp only [cImg,List.cons.injEq,DV.sl.injEq,and_true] at h
 obtain ⟨h1,h2,h3,h4,h5,h6⟩ := h
 rw [zk3 z9q _ _ h1,zk3 zsq _ _ h2,zk3 zsq _ _ h3,zk3 z4t _ _ h4,z2x h5,zk3 cIn4_inj _ _ h6]
abbrev eImg : Img → DV := eA cImg
theorem z9g : Inj eImg := inj_A z5u
end Go.Proofs.YtfaailjhioobhaaGreat
set_option linter.all false
set_option maxRecDepth 20000
namespace Go.Proofs.YtfaailjhioobhaaGreat
open Go.Nk
end Go.Proofs.YtfaailjhioobhaaGreat
set_option linter.all false
set_option maxRecDepth 20000
namespace Go.Proofs.YtfaailjhioobhaaGreat
open Go.Nk
end Go.Proofs.YtfaailjhioobhaaGreat
set_option linter.all false
set_option maxRecDepth 20000
namespace Go.Proofs.YtfaailjhioobhaaGreat
open Go.Nk
theorem ztu (t : Ty) : 1 ≤ zbh t ∧ zbh t ≤ 8 := by
 unfold zbh
 by_cases h1 : t.n < 1
 · rw [if_pos h1]; omega
 · rw [if_neg h1]
   by_cases h2 : 8 < t.n
   · rw [if_pos h2]; omega
   · rw [if_neg h2]; omega
abbrev eSlts : List Slt → DV := eL cSlt
end Go.Proofs.YtfaailjhioobhaaGreat
set_option linter.all false
set_option maxRecDepth 20000
namespace Go.Proofs.YtfaailjhioobhaaGreat
open Go.Nk
end Go.Proofs.YtfaailjhioobhaaGreat
set_option linter.all false
set_option maxRecDepth 20000
namespace Go.Proofs.YtfaailjhioobhaaGreat
open Go.Nk
end Go.Proofs.YtfaailjhioobhaaGreat
set_option linter.all false
set_option maxRecDepth 20000
namespace Go.Proofs.YtfaailjhioobhaaGreat
open Go.Nk
def okLen (x : Img) : Prop := x.ins.length ≤ 1000000000000000000 ∧ x.outs.length ≤ 1000000000000000000
end Go.Proofs.YtfaailjhioobhaaGreat
set_option linter.all false
set_option maxRecDepth 20000
namespace Go.Proofs.YtfaailjhioobhaaGreat
open Go.Nk
noncomputable def z8o : List DV → Prop × DV := zk8 eIls (fun l => l.length ≤ 1000000000)
theorem z2u (l : List Int) (h : l.length ≤ 1000000000) : z8o [.sl (ils l),.sl (ils l)] = (True,.bool true) := zcx eIls h
theorem zoh : OkP Tryz.prog 127 z8o := by
 refine OkP.mkE (ps := []) (hs := []) trivial trivial zq5 fun l h => ?_
 
 (refine Todo.of ?_); (repeat' (first | ((with_reducible refine Todo.to ?_); (repeat (simp only [↓rP,rT,zc,dval,dBin,dInt,Nat.reduceEqDiff,↓reduceIte,reduceCtorEq,zh8,eIls,zbq ])))))
 refine zad l (fun k (_ : Unit) => ⟨[(0,.sl (ils l)),(1,.sl (ils l)),(5,.int .i64 k)],[]⟩) (fun _ _ _ => True) () (Nat.zero_le _) (by simp only [zk,List.map_cons,List.map_nil,zd,Nk.get_nil,Nat.reduceEqDiff,↓reduceIte,Nat.succ_ne_self,DV.cut,DV.inB,List.take_nil,reduceCtorEq] <;> rfl) trivial (fun k x r _ d hx _ _ => ?_) (fun k _ e _ => ?_)
 · (refine Todo.of ?_); (repeat' (first | ((with_reducible refine Todo.to ?_); (repeat (first | (simp only [↓rP,rT,rU,zc,dval,dBin,dInt,zg,zb,Nat.reduceEqDiff,↓reduceIte,reduceCtorEq,zbq,d,zrt hx ]) | ((simp (disch := omega) only [zko]))))) | ((with_reducible refine And.intro ?_ ?_); · omega) | fail))
   exact ⟨(),by simp only [zk,List.map_cons,List.map_nil,zd,Nk.get_nil,Nat.reduceEqDiff,↓reduceIte,Nat.succ_ne_self,DV.cut,DV.inB,List.take_nil,reduceCtorEq,Int.natCast_add,Int.natCast_one] <;> rfl⟩
 · (refine Todo.of ?_); (repeat' (first | ((with_reducible refine Todo.to ?_); (repeat (simp only [↓rP,rT,rU,zc,dval,dBin,dInt,retV,DR.val,fzT,fzV,fz1,DV.immB,Nat.reduceEqDiff,↓reduceIte,reduceCtorEq,zbq,e ])))))
end Go.Proofs.YtfaailjhioobhaaGreat
