/- Instructions: which may be. -/
import Derived.Test.YtjgefhgkinocmaaGreatArithB
import Derived.Test.YtjgefhgkinocmaaGreatNkZ3
set_option linter.all false
set_option maxRecDepth 20000
namespace Go.Proofs.YtjgefhgkinocmaaGreat
open Go.Nk
structure Ins where
 o : Int
 a : Int
 b : Int
 n : Int
@[reducible] def cIns (x : Ins) : List DV := [.int .i64 x.o,.int .i64 x.a,.int .i64 x.b,.int .i64 x.n]
theorem zk0 : ∀ x y,cIns x = cIns y -> x = y := fun x y h => by
 cases x; cases y
 simp only [cIns,List.cons.injEq,DV.int.injEq,true_and,and_true] at h
 obtain ⟨rfl,rfl,rfl,rfl⟩ := h
 rfl
instance : Inhabited Ins := ⟨⟨0,0,0,0⟩⟩
def zdl (n lo hi : Int) : Bool := decide (lo <= n) && decide (n <= hi)
def zho (x : Ins) : Bool :=
 if x.o = 1 then zdl x.a 1 1000 else if x.o = 4 then x.a == 1 || x.a == 2 else if x.o = 5 then zdl x.a 3 16 else if x.o = 10 then x.a == 0 else zdl x.a 0 65535
def zb7 (x : Ins) : Bool :=
 decide (1 <= x.o) && decide (x.o <= 10) && zho x && (x.o == 1 || x.n == 0) && (if x.o = 8 \/ x.o = 9 then zdl x.b 1 8 else x.b == 0)
noncomputable def ztv : List DV -> Prop × DV := zec eI eI eI fun n a b => (True,.bool (zdl n a b))
theorem zux (n a b : Int) : ztv [.int .i64 n,.int .i64 a,.int .i64 b] = (True,.bool (zdl n a b)) := za2 zcr zcr zcr _ _ _ _
theorem zjw : OkP Tryz.prog 145 ztv := by
 refine OkP.mk3 (ps := []) (hs := []) trivial trivial zxx fun n a b _ => ?_
 (have hcondQ := Bool.and_self; refine Todo.of ?_; repeat' (first | ((with_reducible refine Todo.to ?_); try simp only [↓rP,rT,rU,eI,zb,dval,dBin,dInt,retV,DR.val,fzT,fzV,fz1,DV.immB,Nat.reduceEqDiff,↓reduceIte,reduceCtorEq,zlp,hcondQ]) | ((with_reducible refine And.intro ?_ ?_); . first | trivial | omega | (simp; done) | (simp; omega)) | ((first | ((with_reducible refine zd (t := ?_) ?_ (fun hcQ => ?_) (fun hcQ => ?_)); rotate_left; . rfl) | ((with_reducible refine zl (t := ?_) ?_ (fun hcQ => ?_) (fun hcQ => ?_)); rotate_left; . rfl)) <;> (have hn := hcQ; have hcondQ := hcQ) <;> (try simp only [decide_eq_true_eq,decide_eq_false_iff_not] at hn) <;> (try (exfalso; omega)) <;> (refine Todo.of ?_)) | (((with_reducible refine zu ?_ ?_ ?_); . rfl) <;> (refine Todo.of ?_))))
 all_goals grind [zdl]
abbrev eIns : Ins -> DV := eA cIns
noncomputable def z5q : List DV -> Prop × DV := zbp eIns fun x => (True,.bool (zb7 x))
theorem ya3 (x : Ins) : z5q [.agg (cIns x)] = (True,.bool (zb7 x)) := z8 (zt8 zk0) _ _
noncomputable def z59 : List DV -> Prop × DV := zbp eIns fun x => (True,.bool (zho x))
theorem ych (x : Ins) : z59 [.agg (cIns x)] = (True,.bool (zho x)) := z8 (zt8 zk0) _ _
theorem zxy : OkP Tryz.prog 144 z59 := by
 refine OkP.mk1 (ps := [(145,ztv)]) (hs := []) ⟨zjw,trivial⟩ trivial z1d fun x _ => ?_
 (have hcondQ := Bool.and_self; refine Todo.of ?_; repeat' (first | ((with_reducible refine Todo.to ?_); try simp only [↓rP,rT,rU,zb,dval,dBin,dInt,zh,za,retV,DR.val,fzT,fzV,fz1,DV.immB,ze,zf,zp,zo,zi,zq,DV.one,alive,cellsOf,Nat.reduceEqDiff,Nat.reduceAdd,↓reduceIte,reduceCtorEq,Nat.reduceLT,forall_const,zo9,zux,hcondQ]) | ((with_reducible refine And.intro ?_ ?_); . first | trivial | omega | (simp; done) | (simp; omega)) | ((first | ((with_reducible refine zd (t := ?_) ?_ (fun hcQ => ?_) (fun hcQ => ?_)); rotate_left; . rfl) | ((with_reducible refine zl (t := ?_) ?_ (fun hcQ => ?_) (fun hcQ => ?_)); rotate_left; . rfl)) <;> (have hn := hcQ; have hcondQ := hcQ) <;> (try simp only [beq_iff_eq,ne_eq,beq_eq_false_iff_ne] at hn) <;> (try (exfalso; omega)) <;> (refine Todo.of ?_)) | (((with_reducible refine zu ?_ ?_ ?_); . rfl) <;> (refine Todo.of ?_))))
 all_goals (obtain ⟨o,a,b,n⟩ := x; simp only at *; grind [zho])
def nameI (o : Int) : List UInt8 :=
 if o = 1 then [112,117,115,104] else if o = 2 then [108,111,97,100] else if o = 3 then [115,116,111,114,101] else if o = 4 then [117,110] else if o = 5 then [98,105,110] else
 if o = 6 then [106,117,109,112] else if o = 7 then [122,101,114,111] else if o = 8 then [103,101,116] else if o = 9 then [112,117,116] else if o = 10 then [104,97,108,116] else []
def wideF (o : Int) : Bool := o == 1 || o == 2 || o == 3 || o == 6 || o == 7 || o == 8 || o == 9
def fOf (o : Int) : Prop × DV := (True,.tup [.agg [.str (nameI o),.bool (wideF o),.bool (o == 4 || o == 5),.bool (o == 8 || o == 9),.bool (o == 1)],.bool (decide (1 <= o) && decide (o <= 10))])
noncomputable def s_of : List DV -> Prop × DV := zbp eI fOf
theorem s_of_at (o : Int) : s_of [.int .i64 o] = fOf o := z8 zcr _ _
theorem z66 : OkP Tryz.prog 143 s_of := by
 refine OkP.mk1 (ps := []) (hs := []) trivial trivial yb8 fun o _ => ?_
 (have hcondQ := Bool.and_self; refine Todo.of ?_; repeat' (first | ((with_reducible refine Todo.to ?_); try simp only [↓rP,rT,rU,eI,zr,zb,dval,dBin,dInt,zh,za,retV,retL,DR.val,fzT,fzVs,fzV,fz1,DV.immB,zw,DV.one,fzL,cellsOf,zk,DV.isU,Nat.reduceEqDiff,Nat.reduceAdd,↓reduceIte,reduceCtorEq,Nat.reduceLeDiff,forall_const,zza,fOf,hcondQ]) | ((with_reducible refine And.intro ?_ ?_); . first | trivial | omega | (simp; done) | (simp; omega)) | ((first | ((with_reducible refine zd (t := ?_) ?_ (fun hcQ => ?_) (fun hcQ => ?_)); rotate_left; . rfl) | ((with_reducible refine zl (t := ?_) ?_ (fun hcQ => ?_) (fun hcQ => ?_)); rotate_left; . rfl)) <;> (have hn := hcQ; have hcondQ := hcQ) <;> (try simp only [beq_iff_eq,ne_eq,beq_eq_false_iff_ne] at hn) <;> (try (exfalso; omega)) <;> (refine Todo.of ?_)) | (((with_reducible refine zu ?_ ?_ ?_); . rfl) <;> (refine Todo.of ?_))))
 all_goals grind [nameI,wideF]
theorem zxp : OkP Tryz.prog 132 z5q := by
 refine OkP.mk1 (ps := [(143,s_of),(144,z59),(145,ztv)]) (hs := []) ⟨z66,zxy,zjw,trivial⟩ trivial z0p fun x _ => ?_
 have e := ych x
 (have hcondQ := Bool.and_self; refine Todo.of ?_; repeat' (first | ((with_reducible refine Todo.to ?_); try simp only [↓rP,rT,rU,zb,dval,dBin,dInt,dUn,zh,za,retV,DR.val,fzT,fzVs,fzV,fz1,DV.immB,ze,zf,zp,zo,zx,zi,zq,zw,DV.one,alive,cellsOf,zk,Nat.reduceEqDiff,Nat.reduceAdd,↓reduceIte,reduceCtorEq,Nat.reduceLeDiff,Nat.reduceLT,forall_const,zow,s_of_at,zux,fOf,e,hcondQ]) | ((with_reducible refine And.intro ?_ ?_); . first | trivial | omega | (simp; done) | (simp; omega)) | ((first | ((with_reducible refine zd (t := ?_) ?_ (fun hcQ => ?_) (fun hcQ => ?_)); rotate_left; . rfl) | ((with_reducible refine zl (t := ?_) ?_ (fun hcQ => ?_) (fun hcQ => ?_)); rotate_left; . rfl)) <;> (have hn := hcQ; have hcondQ := hcQ) <;> (try simp only [decide_eq_true_eq,decide_eq_false_iff_not,beq_iff_eq,bne_iff_ne,ne_eq,Bool.and_eq_true,Bool.or_eq_true,beq_eq_false_iff_ne,bne_eq_false_iff_eq,Bool.not_eq_true',Bool.not_eq_false',Bool.or_eq_false_iff,Bool.and_eq_false_imp] at hn) <;> (try (exfalso; omega)) <;> (refine Todo.of ?_)) | (((with_reducible refine zu ?_ ?_ ?_); . rfl) <;> (refine Todo.of ?_))))
 all_goals (obtain ⟨o,a,b,n⟩ := x; simp only at *; grind [zb7,zho])
end Go.Proofs.YtjgefhgkinocmaaGreat
