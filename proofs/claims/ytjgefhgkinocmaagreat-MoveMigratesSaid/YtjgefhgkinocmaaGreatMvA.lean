/- Steps of a plan: which may be; numbers one behind the other. -/
import Derived.Test.YtjgefhgkinocmaaGreatVm9
import Derived.Test.YtjgefhgkinocmaaGreatVmL
import Derived.Test.YtjgefhgkinocmaaGreatNkZ6
set_option linter.all false
set_option maxRecDepth 20000
namespace Go.Proofs.YtjgefhgkinocmaaGreat
open Go.Nk
@[reducible] def cIr (l : List Int) : List DV := [.sl (il l)]
theorem cIr_inj : ∀ x y,cIr x = cIr y -> x = y := fun x y h => zwb (by simpa using h)
structure Pln where
 kind : Int
 at_ : Int
 len : Int
 old : Int
 init : List Int
 code : List Ins
@[reducible] def cPln (p : Pln) : List DV := [.int .i64 p.kind,.int .i64 p.at_,.int .i64 p.len,.int .i64 p.old,.sl (il p.init),.sl (p.code.map cIns)]
theorem ztl : ∀ x y,cPln x = cPln y -> x = y := fun x y h => by
 cases x; cases y
 simp only [cPln,List.cons.injEq,DV.int.injEq,DV.sl.injEq,true_and,and_true] at h
 obtain ⟨rfl,rfl,rfl,rfl,h1,h2⟩ := h
 rw [zwb h1,zdm zk0 _ _ h2]
instance : Inhabited Pln := ⟨⟨0,0,0,0,[],[]⟩⟩
abbrev ePln : Pln -> DV := eA cPln
theorem z1g : Inj ePln := zt8 ztl
abbrev yb6 : List Pln -> DV := eL cPln
theorem z7y : Inj yb6 := yaw ztl
def zfs (x : Pln) (b c : Int) : Bool :=
 x.at_ == b && decide (1 <= x.len) && decide (x.len <= 8) && decide (b <= 1000 - x.len) &&
 (if x.kind = 1 then decide (0 <= x.old) && decide (x.old <= c) && decide (x.len <= c - x.old) else if x.kind = 2 then decide ((x.init.length : Int) = x.len) else decide (x.kind = 3))
def zd7 : List Pln -> Int -> Int -> Bool
 | [],_,_ => true
 | x :: r,b,c => zfs x b c && zd7 r (b + x.len) c
noncomputable def zws : List DV -> Prop × DV := zec ePln eI eI fun x b c => (0 <= b /\ b <= 1000 /\ 0 <= c /\ c <= 1000000000,.bool (zfs x b c))
theorem zsh (x : Pln) (b : Int) (c : Int) : zws [.agg (cPln x),.int .i64 b,.int .i64 c] = (0 <= b /\ b <= 1000 /\ 0 <= c /\ c <= 1000000000,.bool (zfs x b c)) := za2 z1g zcr zcr _ x b c
theorem zzu : OkP Tryz.prog 53 zws := by
 refine OkP.mk3 (ps := []) (hs := []) trivial trivial z4d fun x b c h => ?_
 try dsimp only at h
 obtain ⟨h1,h2,h3,h4⟩ := h
 ((have hcondQ := Bool.and_self; refine Todo.of ?_); (repeat' (first | ((with_reducible refine Todo.to ?_); (repeat (first | (simp only [↓rP,rT,rU,eI,eA,zb,dval,dBin,dInt,zh,za,retV,DR.val,fzT,fzV,fz1,DV.immB,cellsOf,Nat.reduceEqDiff,Nat.reduceAdd,↓reduceIte,reduceCtorEq,Nat.reduceLT,zsd,ePln,za9 ,hcondQ]) | ((simp (disch := omega) only [z6]))))) | (((first | ((with_reducible refine zd (t := ?_) ?_ (fun hcQ => ?_) (fun hcQ => ?_)); rotate_left; . (rfl)) | ((with_reducible refine zl (t := ?_) ?_ (fun hcQ => ?_) (fun hcQ => ?_)); rotate_left; . (rfl))) <;> (have hn := hcQ; have hcondQ := hcQ) <;> (try simp only [decide_eq_true_eq,decide_eq_false_iff_not,beq_iff_eq,ne_eq,beq_eq_false_iff_ne] at hn) <;> (refine Todo.of ?_))) | fail)))
 all_goals (obtain ⟨kind,at_,len,old,init,code⟩ := x; simp only at *; grind [zfs])
noncomputable def zj0 : List DV -> Prop × DV := zbw yb6 eI fun l c => (l.length <= 1000000 /\ 0 <= c /\ c <= 1000000000,.bool (zd7 l 0 c))
theorem zj2 (l : List Pln) (c : Int) : zj0 [.sl (l.map cPln),.int .i64 c] = (l.length <= 1000000 /\ 0 <= c /\ c <= 1000000000,.bool (zd7 l 0 c)) := zac z7y zcr _ l c
theorem zic {x : Pln} {b c : Int} (h : zfs x b c = true) : 1 <= x.len /\ x.len <= 8 /\ b + x.len <= 1000 := by
 simp only [zfs,Bool.and_eq_true,decide_eq_true_eq] at h
 omega
theorem zm5 : OkP Tryz.prog 24 zj0 := by
 refine OkP.mk2 (ps := [(53,zws)]) (hs := []) ⟨zzu,trivial⟩ trivial z4r fun l c h => ?_
 try dsimp only at h
 obtain ⟨h1,h3,h4⟩ := h
 ((refine Todo.of ?_); (repeat' (first | ((with_reducible refine Todo.to ?_); (repeat (simp only [↓rP,rT,rU,eI,eL,zb,dval,↓reduceIte,reduceCtorEq,zsg,yb6 ]))))))
 refine z0 l (fun k (n : Int) => ⟨[(1,.int .i64 c),(5,.int .i64 n),(8,.sl (l.map cPln)),(9,.int .i64 l.length),(10,.int .i64 k)],[]⟩) (fun k r n => zd7 l 0 c = zd7 r n c /\ 0 <= n /\ n <= 1000) 0 (Nat.le_refl _) (by simp only [zg,List.map_cons,List.map_nil,zc,Nk.get_nil,Nat.reduceEqDiff,↓reduceIte,Nat.succ_ne_self,DV.cut,DV.inB,List.take_nil] <;> rfl) ⟨rfl,by omega,by omega⟩ (fun k x r n d hx hd hr => ?_) (fun k n e hr => ?_)
 . obtain ⟨hr,n0,n1⟩ := hr
   have hq : zd7 (x :: r) n c = (zfs x n c && zd7 r (n + x.len) c) := rfl
   rw [hq] at hr
   cases hb : zfs x n c
   . rw [hb,Bool.false_and] at hr
     ((refine Todo.of ?_); (repeat' (first | ((with_reducible refine Todo.to ?_); (repeat (simp only [↓rP,rT,rU,zb,dval,dBin,dInt,dUn,zh,za,retV,DR.val,fzT,fzV,fz1,DV.immB,ze,zf,zp,zo,zx,zi,zq,zw,DV.one,cellsOf,zk,Nat.reduceEqDiff,Nat.reduceAdd,↓reduceIte,reduceCtorEq,Nat.reduceLeDiff,forall_const,zsh,d,zm cPln hx,hb,hr,n0,n1 ]))) | ((with_reducible refine And.intro ?_ ?_); . first | (trivial) | (omega)) | fail)) <;> (try (assumption)))
   . rw [hb,Bool.true_and] at hr
     obtain ⟨q1,q2,q3⟩ := zic hb
     ((refine Todo.of ?_); (repeat' (first | ((with_reducible refine Todo.to ?_); (repeat (first | (simp only [↓rP,rT,rU,zb,dval,dBin,dInt,dUn,zh,za,DV.immB,ze,zf,zp,zo,zx,zi,zq,zw,DV.one,alive,cellsOf,zk,Nat.reduceEqDiff,Nat.reduceAdd,↓reduceIte,reduceCtorEq,Nat.reduceLeDiff,Nat.reduceLT,forall_const,zsh,d,zm cPln hx,hb,n0,n1 ]) | ((simp (disch := omega) only [z6]))))) | ((with_reducible refine And.intro ?_ ?_); . first | (trivial) | (omega)) | fail)))
     exact ⟨n + x.len,by simp only [zg,List.map_cons,List.map_nil,zc,Nk.get_nil,Nat.reduceEqDiff,↓reduceIte,Nat.succ_ne_self,DV.cut,DV.inB,List.take_zero,Int.natCast_add,Int.natCast_one] <;> rfl,hr,by omega,by omega⟩
 . obtain ⟨hr,_⟩ := hr
   ((refine Todo.of ?_); (repeat' (first | ((with_reducible refine Todo.to ?_); (repeat (simp only [↓rP,rT,rU,zb,dval,dBin,dInt,retV,DR.val,fzT,fzV,fz1,DV.immB,Nat.reduceEqDiff,↓reduceIte,e,hr,zd7 ]))))))
end Go.Proofs.YtjgefhgkinocmaaGreat
