/- The examples, and what the laws call. -/
import Derived.Test.YtjgefhgkinocmaaGreatVm6
set_option linter.all false
set_option maxRecDepth 20000
namespace Go.Proofs.YtjgefhgkinocmaaGreat
open Go.Nk
theorem getD_eq {a b : List Int} {k : Nat} (ha : k < a.length) (hb : k < b.length) (h : a.take k = b.take k) (e : a.getD k 0 = b.getD k 0) : a.take (k + 1) = b.take (k + 1) := by
 rw [List.take_add_one,List.take_add_one,h]
 simp only [List.getD_eq_getElem?_getD,List.getElem?_eq_getElem ha,List.getElem?_eq_getElem hb,Option.getD_some] at e
 simp [ha,hb,e]
noncomputable def zz8 : List DV -> Prop × DV := zbw eIl eIl fun a b => (a.length <= 1000000000,.bool (decide (a = b)))
theorem zyb (a b : List Int) : zz8 [.sl (il a),.sl (il b)] = (a.length <= 1000000000,.bool (decide (a = b))) := zac zsa zsa _ _ _
theorem yfo : OkP Tryz.prog 12 zz8 := by
 refine OkP.mk2 (ps := []) (hs := []) trivial trivial zq8 fun a b h => ?_
 by_cases c : a.length = b.length
 rotate_left
 . have c1 : ((a.length : Int) != (b.length : Int)) = true := by simp; omega
   have c2 : decide (a = b) = false := by simp; intro e; rw [e] at c; exact c rfl
   (have hcondQ := Bool.and_self; refine Todo.of ?_; repeat' (first | ((with_reducible refine Todo.to ?_); try simp only [↓rP,rT,zb,dval,dBin,dInt,retV,DR.val,fzT,fzV,fz1,DV.immB,Nat.reduceEqDiff,↓reduceIte,reduceCtorEq,ze7,eIl,za9,c1,c2]) | ((with_reducible refine And.intro ?_ ?_); . first | trivial | omega | (simp; done) | (simp; omega)) | (((with_reducible refine zu ?_ ?_ ?_); . rfl) <;> (refine Todo.of ?_))))
 have c1 : ((a.length : Int) != (b.length : Int)) = false := by simp; omega
 (have hcondQ := Bool.and_self; refine Todo.of ?_; repeat' (first | ((with_reducible refine Todo.to ?_); try simp only [↓rP,rT,zb,dval,dBin,dInt,Nat.reduceEqDiff,↓reduceIte,reduceCtorEq,ze7,eIl,za9,c1]) | ((with_reducible refine And.intro ?_ ?_); . first | trivial | omega | (simp; done) | (simp; omega)) | (((with_reducible refine zu ?_ ?_ ?_); . rfl) <;> (refine Todo.of ?_))))
 refine zfk (fun k : Nat => ⟨[(0,.sl (il a)),(1,.sl (il b)),(5,.int .i64 k)],[]⟩) (fun k => k <= a.length /\ a.take k = b.take k) (fun k => a.length - k) 0 (by exact Nat.zero_le _) ?_ ⟨Nat.zero_le _,rfl⟩ fun k hk => ?_
 . simp only [zg,List.map_cons,List.map_nil,zc,Nk.get_nil,Nat.reduceEqDiff,↓reduceIte,Nat.succ_ne_self,DV.cut,DV.inB,List.take_nil,reduceCtorEq]
   rfl
 obtain ⟨hk,ht⟩ := hk
 have h' : a.length <= 1000000000 := h
 by_cases d : k < a.length
 . have w : IntKind.i64.wrap ((k : Int) + 1) = ((k + 1 : Nat) : Int) := by rw [z9 (by omega)]; omega
   have e1 := zq6 d
   have e2 := zq6 (l := b) (k := k) (by omega)
   have d2 : k < b.length := by omega
   (have hcondQ := Bool.and_self; refine Todo.of ?_; repeat' (first | ((with_reducible refine Todo.to ?_); try simp only [↓rP,rT,rU,zb,dval,dBin,dInt,zh,za,retV,DR.val,fzT,fzV,fz1,DV.immB,Nat.reduceEqDiff,↓reduceIte,reduceCtorEq,za9,e1,e2,d,d2,w,hcondQ]) | ((with_reducible refine And.intro ?_ ?_); . first | trivial | omega | (simp; done) | (simp; omega)) | ((first | ((with_reducible refine zd (t := ?_) ?_ (fun hcQ => ?_) (fun hcQ => ?_)); rotate_left; . rfl) | ((with_reducible refine zl (t := ?_) ?_ (fun hcQ => ?_) (fun hcQ => ?_)); rotate_left; . rfl)) <;> (have hn := hcQ; have hcondQ := hcQ) <;> (try simp only [bne_iff_ne,ne_eq,bne_eq_false_iff_eq] at hn) <;> (try (exfalso; omega)) <;> (refine Todo.of ?_)) | (((with_reducible refine zu ?_ ?_ ?_); . rfl) <;> (refine Todo.of ?_))))
   . have : a ≠ b := fun e => by subst e; simp_all
     simp [this]
   . refine ⟨k + 1,?_,⟨by omega,getD_eq d d2 ht (by assumption)⟩,by omega⟩
     simp only [zg,List.map_cons,List.map_nil,zc,Nk.get_nil,Nat.reduceEqDiff,↓reduceIte,Nat.succ_ne_self,DV.cut,DV.inB,List.take_nil,reduceCtorEq]
 . have e : a = b := by
     have hk2 : k = a.length := by omega
     rw [hk2,List.take_length,c,List.take_length] at ht
     exact ht
   (have hcondQ := Bool.and_self; refine Todo.of ?_; repeat' (first | ((with_reducible refine Todo.to ?_); try simp only [↓rP,rT,rU,zb,dval,dBin,dInt,retV,DR.val,fzT,fzV,fz1,DV.immB,Nat.reduceEqDiff,↓reduceIte,reduceCtorEq,za9,e,hcondQ]) | ((with_reducible refine And.intro ?_ ?_); . first | trivial | omega | (simp; done) | (simp; omega)) | ((first | ((with_reducible refine zd (t := ?_) ?_ (fun hcQ => ?_) (fun hcQ => ?_)); rotate_left; . rfl) | ((with_reducible refine zl (t := ?_) ?_ (fun hcQ => ?_) (fun hcQ => ?_)); rotate_left; . rfl)) <;> (have hn := hcQ; have hcondQ := hcQ) <;> (try simp only [decide_eq_true_eq,decide_eq_false_iff_not] at hn) <;> (try (exfalso; omega)) <;> (refine Todo.of ?_)) | (((with_reducible refine zu ?_ ?_ ?_); . rfl) <;> (refine Todo.of ?_))))
end Go.Proofs.YtjgefhgkinocmaaGreat
