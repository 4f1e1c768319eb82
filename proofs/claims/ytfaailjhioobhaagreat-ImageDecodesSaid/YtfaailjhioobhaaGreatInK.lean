/- Instructions: which may be; their texts. -/
import Derived.Test.YtfaailjhioobhaaGreatI4
import Derived.Test.YtfaailjhioobhaaGreatBa
import Derived.Test.YtfaailjhioobhaaGreatNkZ6
import Derived.Test.YtfaailjhioobhaaGreatWr4
import Derived.Test.YtfaailjhioobhaaGreatRdLive
import Derived.Test.YtfaailjhioobhaaGreatOcPl
set_option maxHeartbeats 4000000
set_option linter.all false
set_option maxRecDepth 20000
namespace Go.Proofs.YtfaailjhioobhaaGreat
open Go.Nk
abbrev eIn4 : In4 → DV := eA cIn
theorem yau : Inj eIn4 := inj_A z2z
abbrev z7s : List In4 → DV := eL cIn
theorem z3h : Inj z7s := yaq z2z
theorem in_tk0 (l : List In4) : (l.map cIn).take l.length = l.map cIn := List.take_of_length_le (by rw [List.length_map]; exact Nat.le_refl _)
def okOp (op : Int) : Prop := op = 1 ∨ op = 2 ∨ op = 3 ∨ op = 4 ∨ op = 5 ∨ op = 6 ∨ op = 7 ∨ op = 8 ∨ op = 9 ∨ op = 10
structure noOp (op : Int) : Prop where
 n1 : (op == 1) = false
 n2 : (op == 2) = false
 n3 : (op == 3) = false
 n4 : (op == 4) = false
 n5 : (op == 5) = false
 n6 : (op == 6) = false
 n7 : (op == 7) = false
 n8 : (op == 8) = false
 n9 : (op == 9) = false
 n10 : (op == 10) = false
theorem zqf (op : Int) : noOp op ∨ okOp op := by
 by_cases h : okOp op
 · exact .inr h
 · unfold okOp at h
   simp only [not_or] at h
   obtain ⟨h1,h2,h3,h4,h5,h6,h7,h8,h9,h10⟩ := h
   refine .inl ⟨?_,?_,?_,?_,?_,?_,?_,?_,?_,?_⟩ <;> simpa using ‹_›
structure Fm where
 nm : List UInt8
 w : Bool
 s : Bool
 b : Bool
 n : Bool
 ok : Bool
def fmI (op : Int) : Fm :=
 if op = 1 then ⟨[112,117,115,104],true,false,false,true,true⟩ else
 if op = 2 then ⟨[108,111,97,100],true,false,false,false,true⟩ else
 if op = 3 then ⟨[115,116,111,114,101],true,false,false,false,true⟩ else
 if op = 4 then ⟨[117,110],false,true,false,false,true⟩ else
 if op = 5 then ⟨[98,105,110],false,true,false,false,true⟩ else
 if op = 6 then ⟨[106,117,109,112],true,false,false,false,true⟩ else
 if op = 7 then ⟨[122,101,114,111],true,false,false,false,true⟩ else
 if op = 8 then ⟨[103,101,116],true,false,true,false,true⟩ else
 if op = 9 then ⟨[112,117,116],true,false,true,false,true⟩ else
 if op = 10 then ⟨[104,97,108,116],false,false,false,false,true⟩ else ⟨[],false,false,false,false,false⟩
theorem z0m {op : Int} (h : noOp op) : fmI op = ⟨[],false,false,false,false,false⟩ := by
 obtain ⟨h1,h2,h3,h4,h5,h6,h7,h8,h9,h10⟩ := h
 simp only [beq_eq_false_iff_ne] at h1 h2 h3 h4 h5 h6 h7 h8 h9 h10
 unfold fmI
 rw [if_neg h1,if_neg h2,if_neg h3,if_neg h4,if_neg h5,if_neg h6,if_neg h7,if_neg h8,if_neg h9,if_neg h10]
@[reducible] def fmV (f : Fm) : DV := .tup [.agg [.str f.nm,.bool f.w,.bool f.s,.bool f.b,.bool f.n],.bool f.ok]
noncomputable def s_of : List DV → Prop × DV := zdu eI fun op => (True,fmV (fmI op))
theorem z2i (op : Int) : s_of [.int .i64 op] = (True,fmV (fmI op)) := zan z2d _ op
theorem zmz : OkP Tryz.prog 129 s_of := by
 refine OkP.mk1 (ps := []) (hs := []) trivial trivial z7b fun op _ => ?_
 rcases zqf op with h | rfl | rfl | rfl | rfl | rfl | rfl | rfl | rfl | rfl | rfl
 · rw [z0m h]
   (refine Todo.of ?_); (repeat' (first | ((with_reducible refine Todo.to ?_); (repeat (simp only [↓rP,rT,rU,eI,zj,zc,dval,dBin,dInt,zg,zb,retV,retL,DR.val,fzT,fzVs,fzV,fz1,DV.immB,zo,DV.one,fzL,cellsOf,zf,Nat.reduceEqDiff,Nat.reduceAdd,↓reduceIte,reduceCtorEq,Nat.reduceLeDiff,forall_const,zqk,h.n1,h.n2,h.n3,h.n4,h.n5,h.n6,h.n7,h.n8,h.n9,h.n10 ])))))
 all_goals (refine Todo.of ?_); (repeat' (first | ((with_reducible refine Todo.to ?_); (repeat (simp only [↓rP,rT,rU,eI,zj,zc,dval,dBin,dInt,zg,zb,retV,retL,DR.val,fzT,fzVs,fzV,fz1,DV.immB,zo,DV.one,fzL,cellsOf,zf,DV.isU,Nat.reduceEqDiff,Nat.reduceAdd,↓reduceIte,reduceCtorEq,Nat.reduceLeDiff,Int.reduceBEq,forall_const,zqk ]))) | ((with_reducible refine And.intro ?_ ?_); · trivial) | fail))
 all_goals rfl
noncomputable def zsl : List DV → Prop × DV := yby eI eI eI fun n lo hi => (True,.bool (decide (lo ≤ n) && decide (n ≤ hi)))
theorem zjd (n : Int) (lo : Int) (hi : Int) : zsl [.int .i64 n,.int .i64 lo,.int .i64 hi] = (True,.bool (decide (lo ≤ n) && decide (n ≤ hi))) := spec3_at z2d z2d z2d _ n lo hi
theorem zkg : OkP Tryz.prog 131 zsl := by
 refine OkP.mk3 (ps := []) (hs := []) trivial trivial zve fun n lo hi _ => ?_
 by_cases h : lo ≤ n
 · (refine Todo.of ?_); (repeat' (first | ((with_reducible refine Todo.to ?_); (repeat (simp only [↓rP,rT,rU,eI,zc,dval,dBin,dInt,retV,DR.val,fzT,fzV,fz1,DV.immB,Nat.reduceEqDiff,↓reduceIte,reduceCtorEq,zhv,h ])))))
 · (refine Todo.of ?_); (repeat' (first | ((with_reducible refine Todo.to ?_); (repeat (simp only [↓rP,rT,rU,eI,zc,dval,dBin,dInt,retV,DR.val,fzT,fzV,fz1,DV.immB,Nat.reduceEqDiff,↓reduceIte,reduceCtorEq,zhv,h ])))))
noncomputable def z24 : List DV → Prop × DV := zdu eI fun n => (True,.bool (decide (0 ≤ n) && decide (n ≤ 65535)))
theorem z67 (n : Int) : z24 [.int .i64 n] = (True,.bool (decide (0 ≤ n) && decide (n ≤ 65535))) := zan z2d _ n
theorem zns : OkP Tryz.prog 113 z24 := by
 refine OkP.mk1 (ps := []) (hs := []) trivial trivial zoo fun n _ => ?_
 by_cases h : 0 ≤ n
 · (refine Todo.of ?_); (repeat' (first | ((with_reducible refine Todo.to ?_); (repeat (simp only [↓rP,rT,rU,eI,zc,dval,dBin,dInt,retV,DR.val,fzT,fzV,fz1,DV.immB,Nat.reduceEqDiff,↓reduceIte,reduceCtorEq,zdx,h ])))))
 · (refine Todo.of ?_); (repeat' (first | ((with_reducible refine Todo.to ?_); (repeat (simp only [↓rP,rT,rU,eI,zc,dval,dBin,dInt,retV,DR.val,fzT,fzV,fz1,DV.immB,Nat.reduceEqDiff,↓reduceIte,reduceCtorEq,zdx,h ])))))
def zgh (op a : Int) : Bool :=
 if op = 1 then decide (1 ≤ a) && decide (a ≤ 1000) else if op = 4 then a == 1 || a == 2 else if op = 5 then decide (3 ≤ a) && decide (a ≤ 16) else if op = 10 then a == 0 else decide (0 ≤ a) && decide (a ≤ 65535)
def zaw (x : In4) : Bool := (fmI x.op).ok && zgh x.op x.a && ((fmI x.op).n || x.n == 0) && (if (fmI x.op).b then decide (1 ≤ x.b) && decide (x.b ≤ 8) else x.b == 0)
noncomputable def z29 : List DV → Prop × DV := zdu eIn4 fun x => (True,.bool (zgh x.op x.a))
theorem z7m (x : In4) : z29 [.agg (cIn x)] = (True,.bool (zgh x.op x.a)) := zan yau _ x
theorem zvo : OkP Tryz.prog 130 z29 := by
 refine OkP.mk1 (ps := [(131,zsl)]) (hs := []) ⟨zkg,trivial⟩ trivial zyz fun x _ => ?_
 obtain ⟨op,a,b,n⟩ := x
 rcases zqf op with h | rfl | rfl | rfl | rfl | rfl | rfl | rfl | rfl | rfl | rfl
 · have e : zgh op a = (decide (0 ≤ a) && decide (a ≤ 65535)) := by
     obtain ⟨h1,h2,h3,h4,h5,h6,h7,h8,h9,h10⟩ := h
     simp only [beq_eq_false_iff_ne] at h1 h2 h3 h4 h5 h6 h7 h8 h9 h10
     simp only [zgh,if_neg h1,if_neg h4,if_neg h5,if_neg h10]
   simp only [e]
   (refine Todo.of ?_); (repeat' (first | ((with_reducible refine Todo.to ?_); (repeat (simp only [↓rP,rT,rU,eA,zc,dval,dBin,dInt,zg,zb,retV,DR.val,fzT,fzV,fz1,DV.immB,zp,zq,z1,zz,zu,z6,DV.one,alive,cellsOf,Nat.reduceEqDiff,Nat.reduceAdd,↓reduceIte,reduceCtorEq,Nat.reduceLT,forall_const,zi5,zjd,eIn4,h.n1,h.n4,h.n5,h.n10 ])))))
 all_goals (have hcondQ := Bool.and_self; refine Todo.of ?_); (repeat' (first | ((with_reducible refine Todo.to ?_); (repeat (simp only [↓rP,rT,rU,eA,zc,dval,dBin,dInt,zg,zb,retV,DR.val,fzT,fzV,fz1,DV.immB,zp,zq,z1,zz,zu,z6,DV.one,alive,cellsOf,Nat.reduceEqDiff,Nat.reduceAdd,↓reduceIte,reduceCtorEq,Nat.reduceLT,Int.reduceBEq,forall_const,zi5,zjd,eIn4,hcondQ]))) | (((((with_reducible refine z7 (t := ?_) ?_ (fun hcQ => ?_) (fun hcQ => ?_)); rotate_left; · (rfl))) <;> (have hn := hcQ; have hcondQ := hcQ) <;> (try simp only [beq_iff_eq,ne_eq,beq_eq_false_iff_ne] at hn) <;> (refine Todo.of ?_))) | fail))
 all_goals simp_all [zgh]
end Go.Proofs.YtfaailjhioobhaaGreat
set_option linter.all false
set_option maxRecDepth 20000
namespace Go.Proofs.YtfaailjhioobhaaGreat
open Go.Nk
noncomputable def zhc : List DV → Prop × DV := zdu eIn4 fun x => (True,.bool (zaw x))
theorem zi1 (x : In4) : zhc [.agg (cIn x)] = (True,.bool (zaw x)) := zan yau _ x
theorem zhr : OkP Tryz.prog 108 zhc := by
 refine OkP.mk1 (ps := [(129,s_of),(130,z29),(131,zsl)]) (hs := []) ⟨zmz,zvo,zkg,trivial⟩ trivial zxm fun x _ => ?_
 obtain ⟨op,a,b,n⟩ := x
 have e1 := z2i op
 have e2 := z7m ⟨op,a,b,n⟩
 simp only [fmV] at e1
 simp only [cIn] at e2
 generalize hf : fmI op = f at e1
 have hr : zaw ⟨op,a,b,n⟩ = (f.ok && zgh op a && (f.n || n == 0) && (if f.b then decide (1 ≤ b) && decide (b ≤ 8) else b == 0)) := by rw [← hf]; rfl
 rw [hr]
 obtain ⟨nm,w,s,fb,fn,ok⟩ := f
 generalize zgh op a = r at e2
 cases ok
 · (have hcondQ := Bool.and_self; refine Todo.of ?_); (repeat' (first | ((with_reducible refine Todo.to ?_); (repeat (simp only [↓rP,rT,rU,eA,zc,dval,dUn,zg,zb,retV,DR.val,fzT,fzVs,fzV,fz1,DV.immB,zp,zq,z1,zz,zu,z6,zo,DV.one,alive,cellsOf,zf,Nat.reduceEqDiff,Nat.reduceAdd,↓reduceIte,reduceCtorEq,Nat.reduceLeDiff,Nat.reduceLT,forall_const,zbm,eIn4,e1 ,hcondQ])))))
 cases r
 · (have hcondQ := Bool.and_self; refine Todo.of ?_); (repeat' (first | ((with_reducible refine Todo.to ?_); (repeat (simp only [↓rP,rT,rU,eA,zc,dval,dUn,zg,zb,retV,DR.val,fzT,fzVs,fzV,fz1,DV.immB,zp,zq,z1,zz,za4,zu,z6,zo,DV.one,alive,cellsOf,zf,Nat.reduceEqDiff,Nat.reduceAdd,↓reduceIte,reduceCtorEq,Nat.reduceLeDiff,Nat.reduceLT,forall_const,zbm,eIn4,e1,e2 ,hcondQ])))))
 cases fn <;> cases fb
 · by_cases n0 : n = 0
   · have n1 : (n != 0) = false := by simp [n0]
     (have hcondQ := Bool.and_self; refine Todo.of ?_); (repeat' (first | ((with_reducible refine Todo.to ?_); (repeat (simp only [↓rP,rT,rU,eA,zc,dval,dBin,dInt,dUn,zg,zb,retV,DR.val,fzT,fzVs,fzV,fz1,DV.immB,zp,zq,z1,zz,za4,zu,z6,zo,DV.one,alive,cellsOf,zf,Nat.reduceEqDiff,Nat.reduceAdd,↓reduceIte,reduceCtorEq,Nat.reduceLeDiff,Nat.reduceLT,forall_const,zbm,eIn4,e1,e2,n1 ,hcondQ])))))
     all_goals simp_all
   · have n1 : (n != 0) = true := by simpa using n0
     (have hcondQ := Bool.and_self; refine Todo.of ?_); (repeat' (first | ((with_reducible refine Todo.to ?_); (repeat (simp only [↓rP,rT,rU,eA,zc,dval,dBin,dInt,dUn,zg,zb,retV,DR.val,fzT,fzVs,fzV,fz1,DV.immB,zp,zq,z1,zz,za4,zu,z6,zo,DV.one,alive,cellsOf,zf,Nat.reduceEqDiff,Nat.reduceAdd,↓reduceIte,reduceCtorEq,Nat.reduceLeDiff,Nat.reduceLT,forall_const,zbm,eIn4,e1,e2,n1 ,hcondQ])))))
     all_goals simp_all
 · by_cases n0 : n = 0
   · have n1 : (n != 0) = false := by simp [n0]
     (have hcondQ := Bool.and_self; refine Todo.of ?_); (repeat' (first | ((with_reducible refine Todo.to ?_); (repeat (simp only [↓rP,rT,rU,eA,zc,dval,dBin,dInt,dUn,zg,zb,retV,DR.val,fzT,fzVs,fzV,fz1,DV.immB,zp,zq,z1,zz,za4,zu,z6,zo,DV.one,alive,cellsOf,zf,Nat.reduceEqDiff,Nat.reduceAdd,↓reduceIte,reduceCtorEq,Nat.reduceLeDiff,Nat.reduceLT,forall_const,zbm,zjd,eIn4,e1,e2,n1 ,hcondQ])))))
     all_goals simp_all
   · have n1 : (n != 0) = true := by simpa using n0
     (have hcondQ := Bool.and_self; refine Todo.of ?_); (repeat' (first | ((with_reducible refine Todo.to ?_); (repeat (simp only [↓rP,rT,rU,eA,zc,dval,dBin,dInt,dUn,zg,zb,retV,DR.val,fzT,fzVs,fzV,fz1,DV.immB,zp,zq,z1,zz,za4,zu,z6,zo,DV.one,alive,cellsOf,zf,Nat.reduceEqDiff,Nat.reduceAdd,↓reduceIte,reduceCtorEq,Nat.reduceLeDiff,Nat.reduceLT,forall_const,zbm,eIn4,e1,e2,n1 ,hcondQ])))))
     all_goals simp_all
 · (have hcondQ := Bool.and_self; refine Todo.of ?_); (repeat' (first | ((with_reducible refine Todo.to ?_); (repeat (simp only [↓rP,rT,rU,eA,zc,dval,dBin,dInt,dUn,zg,zb,retV,DR.val,fzT,fzVs,fzV,fz1,DV.immB,zp,zq,z1,zz,za4,zu,z6,zo,DV.one,alive,cellsOf,zf,Nat.reduceEqDiff,Nat.reduceAdd,↓reduceIte,reduceCtorEq,Nat.reduceLeDiff,Nat.reduceLT,forall_const,zbm,eIn4,e1,e2 ,hcondQ])))))
   all_goals simp_all
 · (have hcondQ := Bool.and_self; refine Todo.of ?_); (repeat' (first | ((with_reducible refine Todo.to ?_); (repeat (simp only [↓rP,rT,rU,eA,zc,dval,dUn,zg,zb,retV,DR.val,fzT,fzVs,fzV,fz1,DV.immB,zp,zq,z1,zz,za4,zu,z6,zo,DV.one,alive,cellsOf,zf,Nat.reduceEqDiff,Nat.reduceAdd,↓reduceIte,reduceCtorEq,Nat.reduceLeDiff,Nat.reduceLT,forall_const,zbm,zjd,eIn4,e1,e2 ,hcondQ])))))
   all_goals simp_all
theorem zgm : OkP Tryz.prog 65 zhc := by
 refine OkP.mk1 (ps := [(113,z24)]) (hs := []) ⟨zns,trivial⟩ trivial zoi fun x _ => ?_
 obtain ⟨op,a,b,n⟩ := x
 rcases zqf op with h | rfl | rfl | rfl | rfl | rfl | rfl | rfl | rfl | rfl | rfl
 · have e : zaw ⟨op,a,b,n⟩ = false := by simp [zaw,z0m h]
   rw [e]
   obtain ⟨h1,h2,h3,h4,h5,h6,h7,h8,h9,h10⟩ := h
   have g1 : (op != 1) = true := by simpa using h1
   have g8 : (op != 8) = true := by simpa using h8
   have g9 : (op != 9) = true := by simpa using h9
   (have hcondQ := Bool.and_self; refine Todo.of ?_); (repeat' (first | ((with_reducible refine Todo.to ?_); (repeat (simp only [↓rP,rT,rU,eA,zc,dval,dBin,dInt,zg,zb,retV,DR.val,fzT,fzV,fz1,DV.immB,DV.one,alive,cellsOf,Nat.reduceEqDiff,Nat.reduceAdd,↓reduceIte,reduceCtorEq,Nat.reduceLT,forall_const,zd3,eIn4,h1,h2,h3,h4,h5,h6,h7,h8,h9,h10,g1,g8,g9 ,hcondQ]))) | (((first | ((with_reducible refine zw (t := ?_) ?_ (fun hcQ => ?_) (fun hcQ => ?_)); rotate_left; · (rfl)) | ((with_reducible refine z7 (t := ?_) ?_ (fun hcQ => ?_) (fun hcQ => ?_)); rotate_left; · (rfl))) <;> (have hn := hcQ; have hcondQ := hcQ) <;> (try simp only [bne_iff_ne,ne_eq,bne_eq_false_iff_eq] at hn) <;> (refine Todo.of ?_))) | fail))
 all_goals (have hcondQ := Bool.and_self; refine Todo.of ?_); (repeat' (first | ((with_reducible refine Todo.to ?_); (repeat (simp only [↓rP,rT,rU,eA,zc,dval,dBin,dInt,zg,zb,retV,DR.val,fzT,fzV,fz1,DV.immB,zp,zq,z1,zz,zu,z6,DV.one,alive,cellsOf,Nat.reduceEqDiff,Nat.reduceAdd,↓reduceIte,reduceCtorEq,Nat.reduceLT,Int.reduceBEq,Int.reduceBNe,forall_const,zd3,z67,eIn4,hcondQ]))) | (((first | ((with_reducible refine zw (t := ?_) ?_ (fun hcQ => ?_) (fun hcQ => ?_)); rotate_left; · (rfl)) | ((with_reducible refine z7 (t := ?_) ?_ (fun hcQ => ?_) (fun hcQ => ?_)); rotate_left; · (rfl))) <;> (have hn := hcQ; have hcondQ := hcQ) <;> (try simp only [decide_eq_true_eq,decide_eq_false_iff_not,beq_iff_eq,bne_iff_ne,ne_eq,Bool.and_eq_true,beq_eq_false_iff_ne,bne_eq_false_iff_eq,Bool.and_eq_false_imp] at hn) <;> (refine Todo.of ?_))) | fail))
 all_goals (simp_all [zaw,zgh,fmI]; try omega)
structure ok64 (x : In4) : Prop where
 a : zbd x.a
 b : zbd x.b
 n : zbd x.n
theorem zse {x : In4} (h : zaw x = true) : okOp x.op := by
 rcases zqf x.op with ho | ho
 · simp [zaw,z0m ho] at h
 · exact ho
end Go.Proofs.YtfaailjhioobhaaGreat
set_option linter.all false
set_option maxRecDepth 20000
namespace Go.Proofs.YtfaailjhioobhaaGreat
open Go.Nk
def hw (g : Bool) (hp : List DObj) (n m : Nat) (b : List UInt8) : List DObj := setW g hp n m (some b)
section
variable {g : Bool} {hp t : List DObj} {n m : Nat} {b b' : List UInt8} {o o1 o2 o3 o' : DObj}
theorem zgu : (hw g hp n m b).length = hp.length := by simp [hw,setW]
theorem z66 (h1 : n < hp.length) (h2 : m < hp.length) (h3 : n ≠ m) : isW g (hw g hp n m b ++ t) n m (some b) := by
 refine ⟨?_,?_,h3⟩
 · rw [List.getElem?_append_left (by rw [zgu]; exact h1)]
   simp [hw,setW,h1]
 · rw [List.getElem?_append_left (by rw [zgu]; exact h2)]
   simp [hw,setW,h2,h3]
theorem zzg (h1 : n < hp.length) (h2 : m < hp.length) (h3 : n ≠ m) : setW g (hw g hp n m b ++ t) n m (some b') = hw g hp n m b' ++ t := by
 show ((hw g hp n m b ++ t).set m _).set n _ = _
 rw [List.set_append_left _ _ (by rw [zgu]; exact h2),List.set_append_left _ _ (by simp [zgu]; exact h1)]
 congr 1
 simp only [hw,setW]
 rw [List.set_comm _ _ (Ne.symm h3),List.set_set,List.set_comm _ _ h3,List.set_set]
theorem hw_b : (hw g hp n m b ++ (o :: t))[hp.length]? = some o := by
 rw [List.getElem?_append_right (by simp [zgu])]; simp [zgu]
theorem hw_b1 : (hw g hp n m b ++ (o1 :: o :: t))[hp.length + 1]? = some o := by
 rw [List.getElem?_append_right (by simp [zgu])]; simp [zgu]
theorem hw_b2 : (hw g hp n m b ++ (o1 :: o2 :: o :: t))[hp.length + 2]? = some o := by
 rw [List.getElem?_append_right (by simp [zgu])]; simp [zgu]
theorem hw_sb2 : (hw g hp n m b ++ (o1 :: o2 :: o :: t)).set (hp.length + 2) o' = hw g hp n m b ++ (o1 :: o2 :: o' :: t) := by
 rw [List.set_append_right _ _ (by simp [zgu])]; simp [zgu]
theorem hw_end (h1 : n < hp.length) (h2 : m < hp.length) : ∀ (i : Nat) (x : DObj),(hw g hp n m b)[i]? = some x → hp[i]? = some x ∨ x.cut hp.length = x := by
 intro i x hx
 simp only [hw,setW] at hx
 by_cases e1 : i = n
 · subst e1
   rw [List.getElem?_set_self (by rw [List.length_set]; exact h1)] at hx
   injection hx with hx; subst hx
   refine .inr ?_
   simp [DObj.cut,DV.cut,DV.inB,h2]
 · rw [List.getElem?_set_ne (fun e => e1 e.symm)] at hx
   by_cases e2 : i = m
   · subst e2
     rw [List.getElem?_set_self h2] at hx
     injection hx with hx; subst hx; exact .inr rfl
   · rw [List.getElem?_set_ne (fun e => e2 e.symm)] at hx
     exact .inl hx
end
theorem z5i {hp : List DObj} {n m : Nat} (h1 : n < hp.length) (h2 : m < hp.length) (h3 : n ≠ m) (b : List UInt8) (t : List DObj) {k z : Int} (hb : b.length + 4 ≤ 4294967296) (hz : z = 1 ∨ z = 2) (hk : 0 ≤ k ∧ k < 256 ^ z.toNat) :
   ze4 [.ptr n 1 0 0,.int .i64 k,.int .i64 z] (hw true hp n m b ++ t) = ⟨True,.tup [],hw true hp n m (b ++ putL k.toNat z.toNat) ++ t⟩ := by
 have hk2 : k < 65536 := by rcases hz with rfl | rfl <;> simp at hk <;> omega
 rw [zoc (z66 h1 h2 h3),eq_true (show b.length + 4 ≤ 4294967296 ∧ k < 9223372036854775808 by omega)]
 have e : wNum b k z = some (b ++ putL k.toNat z.toNat) := by
   unfold wNum
   rw [if_neg]
   simp only [not_or]
   refine ⟨by omega,by omega,by omega,?_⟩
   have := hk.2
   push_cast
   omega
 rw [e,zzg h1 h2 h3]
theorem hu_num {hp : List DObj} {n m : Nat} (h1 : n < hp.length) (h2 : m < hp.length) (h3 : n ≠ m) (b : List UInt8) (t : List DObj) {k z : Int} (hb : b.length + 4 ≤ 4294967296) (hz : z = 1 ∨ z = 2) (hk : 0 ≤ k ∧ k < 256 ^ z.toNat) :
   zd5 [.ptr n 1 0 0,.int .i64 k,.int .i64 z] (hw false hp n m b ++ t) = ⟨True,.tup [],hw false hp n m (b ++ putL k.toNat z.toNat) ++ t⟩ := by
 have hk2 : k < 65536 := by rcases hz with rfl | rfl <;> simp at hk <;> omega
 rw [znx (z66 h1 h2 h3),eq_true (show b.length + 4 ≤ 4294967296 ∧ k < 9223372036854775808 by omega)]
 have e : wNum b k z = some (b ++ putL k.toNat z.toNat) := by
   unfold wNum
   rw [if_neg]
   simp only [not_or]
   refine ⟨by omega,by omega,by omega,?_⟩
   have := hk.2
   push_cast
   omega
 rw [e,zzg h1 h2 h3]
def intL (x : Int) : List UInt8 := putL (intF x).length 1 ++ intF x
theorem zye (b : List UInt8) (x : Int) : wLen b (intF x) 1 = some (b ++ intL x) := by
 have := zdk x
 have e : wNum b (intF x).length 1 = some (b ++ putL (intF x).length 1) := by
   unfold wNum
   rw [if_neg]
   · rfl
   · simp only [not_or]
     exact ⟨by omega,by omega,by omega,by simp; omega⟩
 unfold wLen
 rw [e]
 simp [intL]
theorem hw_int {hp : List DObj} {n m : Nat} (h1 : n < hp.length) (h2 : m < hp.length) (h3 : n ≠ m) (b : List UInt8) (t : List DObj) {x : Int} (hb : b.length + 20 ≤ 4294967296) (hx : -9223372036854775808 ≤ x ∧ x < 9223372036854775808) :
   zwi [.ptr n 1 0 0,.int .i64 x] (hw true hp n m b ++ t) = ⟨True,.tup [],hw true hp n m (b ++ intL x) ++ t⟩ := by
 rw [ybm (z66 h1 h2 h3),eq_true (show b.length + 20 ≤ 4294967296 ∧ -9223372036854775808 ≤ x ∧ x < 9223372036854775808 from ⟨hb,hx⟩),zye,zzg h1 h2 h3]
theorem hu_int {hp : List DObj} {n m : Nat} (h1 : n < hp.length) (h2 : m < hp.length) (h3 : n ≠ m) (b : List UInt8) (t : List DObj) {x : Int} (hb : b.length + 20 ≤ 4294967296) (hx : -9223372036854775808 ≤ x ∧ x < 9223372036854775808) :
   zrd [.ptr n 1 0 0,.int .i64 x] (hw false hp n m b ++ t) = ⟨True,.tup [],hw false hp n m (b ++ intL x) ++ t⟩ := by
 rw [z9f (z66 h1 h2 h3),eq_true (show b.length + 20 ≤ 4294967296 ∧ -9223372036854775808 ≤ x ∧ x < 9223372036854775808 from ⟨hb,hx⟩),zye,zzg h1 h2 h3]
def zaj (x : In4) : List UInt8 :=
 putL x.op.toNat 1 ++ ((if (fmI x.op).w then putL x.a.toNat 2 else []) ++ (if (fmI x.op).s then putL x.a.toNat 1 else []) ++ (if (fmI x.op).b then putL x.b.toNat 1 else []) ++ (if (fmI x.op).n then intL x.n else []))
theorem intL_len (x : Int) : (intL x).length ≤ 9 := by
 have := zdk x
 simp only [intL,List.length_append,ze]; omega
theorem zw1 (x : In4) : (zaj x).length ≤ 14 ∧ 1 ≤ (zaj x).length := by
 have := intL_len x.n
 unfold zaj
 simp only [List.length_append,ze]
 split <;> split <;> split <;> split <;> simp [ze] <;> omega
end Go.Proofs.YtfaailjhioobhaaGreat
set_option linter.all false
set_option maxRecDepth 20000
namespace Go.Proofs.YtfaailjhioobhaaGreat
open Go.Nk
structure WX where
 n : Nat
 m : Nat
 b : List UInt8
 x : In4
def rWX (w : WX) (a : List DV) (hp : List DObj) : Prop := a = [.agg [.ptr w.n 1 0 0],.agg (cIn w.x)] ∧ isW true hp w.n w.m (some w.b)
theorem rWX_u : ∀ x y a hp,rWX x a hp → rWX y a hp → x = y := by
 rintro ⟨n,m,b,x⟩ ⟨n',m',b',x'⟩ a hp ⟨h1,h2⟩ ⟨h3,h4⟩
 subst h1
 simp only [List.cons.injEq,DV.agg.injEq,DV.ptr.injEq,and_true] at h3
 obtain ⟨h3,h5⟩ := h3
 subst h3
 have h6 := z2z _ _ (by simpa [cIn] using h5)
 simp only at h2 h4
 have h7 := h2.1.symm.trans h4.1
 simp only [Option.some.injEq,DObj.mk.injEq,List.cons.injEq,DV.own.injEq,and_true,true_and] at h7
 obtain ⟨rfl,_⟩ := h7
 have h8 := h2.2.1.symm.trans h4.2.1
 simp only [Option.some.injEq,DObj.mk.injEq,true_and] at h8
 rw [zfo h8,h6]
noncomputable def zo6 : List DV → List DObj → Res := zee rWX (fun w => (zaw w.x = true ∧ ok64 w.x ∧ w.b.length + 40 ≤ 4294967296,.tup [])) (fun w hp => hw true hp w.n w.m (w.b ++ zaj w.x))
theorem z18 {hp : List DObj} {n m : Nat} {b : List UInt8} (x : In4) (h : isW true hp n m (some b)) :
   zo6 [.agg [.ptr n 1 0 0],.agg (cIn x)] hp = ⟨zaw x = true ∧ ok64 x ∧ b.length + 40 ≤ 4294967296,.tup [],hw true hp n m (b ++ zaj x)⟩ :=
 za5 (x := ⟨n,m,b,x⟩) rWX_u ⟨rfl,h⟩
theorem zpj {x : In4} (h : zaw x = true) : (0 ≤ x.op ∧ x.op < 256) ∧ ((fmI x.op).w = true → 0 ≤ x.a ∧ x.a < 65536) ∧ ((fmI x.op).s = true → 0 ≤ x.a ∧ x.a < 256) ∧ ((fmI x.op).b = true → 0 ≤ x.b ∧ x.b < 256) := by
 have ho := zse h
 obtain ⟨op,a,b,n⟩ := x
 simp only at ho ⊢
 unfold okOp at ho
 rcases ho with rfl | rfl | rfl | rfl | rfl | rfl | rfl | rfl | rfl | rfl
 all_goals simp [zaw,fmI,zgh] at h ⊢
 all_goals omega
theorem zha : OkH Tryz.prog 109 zo6 := by
 refine OkH.mkG (ps := [(129,s_of)]) (hs := [(20,ze4),(107,zwi)]) ⟨zmz,trivial⟩ ⟨zhu,z73,trivial⟩ zqm (fun x a hp h => by rw [h.1]; rfl) (fun w a hp h hp1 => ?_)
 obtain ⟨n,m,b,x⟩ := w
 obtain ⟨rfl,hW⟩ := h
 obtain ⟨hr,hx,hb⟩ := hp1
 simp only at hr hx hb hW ⊢
 have h1 := zh9 hW
 have h2 := zi2 hW
 have h3 := hW.2.2
 have es : (⟨za 0 [.agg [.ptr n 1 0 0],.agg (cIn x)],hp⟩ : DS) = ⟨za 0 [.agg [.ptr n 1 0 0],.agg (cIn x)],hw true hp n m b ++ []⟩ := by rw [List.append_nil,hw,set_w hW]
 rw [es]
 have rng := zpj hr
 have ho := zse hr
 have ef := z2i x.op
 have hp0 := ze x.op.toNat 1
 have hp2 := ze x.a.toNat 2
 have q0 := fun t => z5i h1 h2 h3 b t (k := x.op) (z := 1) (by omega) (.inl rfl) (by simpa using rng.1)
 have q1 : (fmI x.op).w = true → ∀ t,_ := fun h t => z5i h1 h2 h3 (b ++ putL x.op.toNat 1) t (k := x.a) (z := 2) (by rw [List.length_append]; omega) (.inr rfl) (by simpa using rng.2.1 h)
 have q2 : (fmI x.op).s = true → ∀ t,_ := fun h t => z5i h1 h2 h3 (b ++ putL x.op.toNat 1) t (k := x.a) (z := 1) (by rw [List.length_append]; omega) (.inl rfl) (by simpa using rng.2.2.1 h)
 have q3 : (fmI x.op).b = true → ∀ t,_ := fun h t => z5i h1 h2 h3 (b ++ (putL x.op.toNat 1 ++ putL x.a.toNat 2)) t (k := x.b) (z := 1) (by rw [List.length_append,List.length_append]; omega) (.inl rfl) (by simpa using rng.2.2.2 h)
 have q4 := fun t => hw_int h1 h2 h3 (b ++ (putL x.op.toNat 1 ++ putL x.a.toNat 2)) t (x := x.n) (by rw [List.length_append,List.length_append]; omega) hx.n
 clear hp0 hp2 rng hr
 obtain ⟨op,a,bb,nn⟩ := x
 simp only at q0 q1 q2 q3 q4 ho ef ⊢
 
 unfold okOp at ho
 rcases ho with rfl | rfl | rfl | rfl | rfl | rfl | rfl | rfl | rfl | rfl
 all_goals first | (have q1 := q1 rfl) | skip
 all_goals first | (have q2 := q2 rfl) | skip
 all_goals first | (have q3 := q3 rfl) | skip
 all_goals simp only [fmV,fmI,↓reduceIte,Int.reduceEq] at ef
 all_goals simp only [Int.reduceToNat] at q0
 all_goals first | (simp only [Int.reduceToNat] at q1) | skip
 all_goals first | (simp only [Int.reduceToNat] at q2) | skip
 all_goals first | (simp only [Int.reduceToNat] at q3) | skip
 all_goals first | (simp only [Int.reduceToNat] at q4) | skip
 all_goals simp only [zaj,fmI,↓reduceIte,Int.reduceEq,Bool.false_eq_true,List.append_nil,List.nil_append]
 all_goals (have hcondQ := Bool.and_self; refine Todo.of ?_); (repeat' (first | ((with_reducible refine Todo.to ?_); (repeat (simp only [↓rP,rT,rU,zc,dval,za,zg,zb,retV,retL,fzVs,fzV,fz1,DV.immB,zp,zq,z1,zz,zu,z6,zo,DV.one,alive,cellsOf,zf,Nat.reduceEqDiff,Nat.reduceAdd,↓reduceIte,reduceCtorEq,Int.reduceToNat,Nat.reduceLeDiff,Nat.reduceLT,forall_const,ziw,ef,q0,q1,q2,q3,q4,zgu,hw_b,hw_b1,hw_b2,hw_sb2,List.append_assoc,Nat.add_zero ,hcondQ]))) | ((with_reducible refine And.intro ?_ ?_); · first | (trivial) | ((simp; done))) | fail))
 all_goals exact hw_end h1 h2
def putI (l : List In4) : Option (List UInt8) := if l.all zaw && decide (l.length ≤ 6000) then some (l.flatMap zaj) else none
def putV (s : Option (List UInt8)) : DV := .tup [.sl (bsl (s.getD [])),.bool s.isSome]
def okIns (l : List In4) : Prop := l.length ≤ 100000 ∧ ∀ x ∈ l,ok64 x
theorem zlm : ∀ (l : List In4),(l.flatMap zaj).length ≤ 14 * l.length ∧ l.length ≤ (l.flatMap zaj).length
 | [] => by simp
 | x :: r => by
   have h1 := zlm r
   have h2 := zw1 x
   simp only [List.flatMap_cons,List.length_append,List.length_cons]
   omega
theorem zz4 {l : List In4} {k : Nat} {x : In4} (h : l[k]? = some x) : (l.take (k + 1)).flatMap zaj = (l.take k).flatMap zaj ++ zaj x := by
 rw [List.take_add_one,h]; simp
theorem oInstr_x (x : In4) (b : List UInt8) (o1 : DObj) (t : List DObj) (hr : zaw x = true) (hx : ok64 x) (hb : b.length + 40 ≤ 4294967296) :
   zo6 [.agg [.ptr 0 1 0 0],.agg (cIn x)] (⟨.loc,2,[[.own 2 b.length 0 b.length,.bool true]]⟩ :: o1 :: ⟨.imm,1,bsl b⟩ :: t) =
     ⟨True,.tup [],⟨.loc,2,[[.own 2 (b ++ zaj x).length 0 (b ++ zaj x).length,.bool true]]⟩ :: o1 :: ⟨.imm,1,bsl (b ++ zaj x)⟩ :: t⟩ := by
 rw [z18 (n := 0) (m := 2) (b := b) x ⟨rfl,rfl,by decide⟩,eq_true (show zaw x = true ∧ ok64 x ∧ b.length + 40 ≤ 4294967296 from ⟨hr,hx,hb⟩)]
 rfl
theorem wBytes_x (b : List UInt8) (o1 : DObj) (t : List DObj) (h0 : b ≠ []) (hb : b.length ≤ 4294967296) :
   zeu [.ptr 0 1 0 0] (⟨.loc,2,[[.own 2 b.length 0 b.length,.bool true]]⟩ :: o1 :: ⟨.imm,1,bsl b⟩ :: t) =
     ⟨True,.own (t.length + 3) b.length 0 b.length,(⟨.loc,2,[[.own 2 b.length 0 b.length,.bool true]]⟩ :: o1 :: ⟨.imm,1,bsl b⟩ :: t) ++ [⟨.imm,1,bsl b⟩]⟩ := by
 rw [znv (n := 0) (m := 2) (b := b) ⟨rfl,rfl,by decide⟩,eq_true (show b ≠ [] ∧ b.length ≤ 4294967296 from ⟨h0,hb⟩)]
 rfl
noncomputable def zpe : List DV → List DObj → Res := fun a hp => ⟨a = [.nil],.nil,hp⟩
theorem z3c (hp : List DObj) : zpe [.nil] hp = ⟨True,.nil,hp⟩ := by unfold zpe; simp
theorem z9h : OkH Tryz.prog 64 zpe := by
 refine OkH.mk (ps := []) (hs := []) (n := 1) trivial trivial zce fun a hp h => ?_
 have h : a = [.nil] := h
 subst h
 refine ⟨rfl,?_⟩
 simp only [↓sqP,sqT,zaq,zpe,↓zh,zc,dval,za,↓reduceIte,retV,DR.val,reduceCtorEq]
noncomputable def ziq : List DV → List DObj → Res := fun a hp => ⟨∃ n,a = [.ptr n 1 0 0] ∧ hp[n]? = some ⟨.loc,2,[[.nil,.bool true]]⟩,.nil,hp⟩
theorem z00 {hp : List DObj} {n : Nat} (h : hp[n]? = some ⟨.loc,2,[[.nil,.bool true]]⟩) : ziq [.ptr n 1 0 0] hp = ⟨True,.nil,hp⟩ := by
 unfold ziq
 rw [eq_true (show ∃ n',[DV.ptr n 1 0 0] = [.ptr n' 1 0 0] ∧ hp[n']? = some ⟨.loc,2,[[.nil,.bool true]]⟩ from ⟨n,rfl,h⟩)]
noncomputable def z05 : List DV → List DObj → Res := fun a hp => ⟨∃ n,a = [.ptr n 1 0 0] ∧ hp[n]? = some ⟨.loc,2,[[.nil,.bool true]]⟩,.bool true,hp⟩
theorem z8f {hp : List DObj} {n : Nat} (h : hp[n]? = some ⟨.loc,2,[[.nil,.bool true]]⟩) : z05 [.ptr n 1 0 0] hp = ⟨True,.bool true,hp⟩ := by
 unfold z05
 rw [eq_true (show ∃ n',[DV.ptr n 1 0 0] = [.ptr n' 1 0 0] ∧ hp[n']? = some ⟨.loc,2,[[.nil,.bool true]]⟩ from ⟨n,rfl,h⟩)]
theorem ok_wOkN : OkH Tryz.prog 57 z05 := by
 refine OkH.mk (ps := []) (hs := []) (n := 1) trivial trivial zhh fun a hp h => ?_
 obtain ⟨n,rfl,h⟩ := h
 refine ⟨rfl,?_⟩
 have hl := (List.getElem?_eq_some_iff.1 h).1
 simp only [↓sqP,sqT,zbz,z05,List.drop_succ_cons,zc,zm,dval,za,Nat.reduceEqDiff,↓reduceIte,zg,zb,retV,DR.val,reduceCtorEq,List.length_cons,List.length_nil,List.getD_cons_zero,alive,List.drop_zero,ne_eq,List.cons.injEq,h]
theorem z51 : OkH Tryz.prog 24 ziq := by
 refine OkH.mk (ps := []) (hs := [(57,z05),(64,zpe)]) (n := 1) trivial ⟨ok_wOkN,z9h,trivial⟩ zfk fun a hp h => ?_
 obtain ⟨n,rfl,h⟩ := h
 refine ⟨rfl,?_⟩
 have hl := (List.getElem?_eq_some_iff.1 h).1
 have e1 := z8f h
 have e2 := z3c hp
 simp only [↓sqP,sqT,zbb,ziq,↓zh,zc,dval,za,Nat.reduceEqDiff,Nat.reduceAdd,↓reduceIte,dUn,zg,zb,retV,DR.val,List.map_cons,List.map_nil,Bool.false_eq_true,reduceCtorEq,List.length_cons,List.length_nil,List.getD_cons_zero,Nat.reduceLT,alive,List.drop_zero,ne_eq,List.cons.injEq,e1,e2,h]
end Go.Proofs.YtfaailjhioobhaaGreat
set_option linter.all false
set_option maxRecDepth 20000
namespace Go.Proofs.YtfaailjhioobhaaGreat
open Go.Nk
theorem OkP.two {P : Program} {f : FuncId} {α : Type} {e : α → DV} (he : Inj e) {pre : α → Prop} {val : α → DV} {c : α → Prop} (h1 : OkP P f (zdu e fun l => (pre l ∧ c l,val l))) (h2 : OkP P f (zdu e fun l => (pre l ∧ ¬ c l,val l))) :
   OkP P f (zdu e fun l => (pre l,val l)) := by
 intro a hp
 unfold zdu at hp ⊢
 split at hp
 · rename_i h
   rw [dif_pos h]
   have hx := h.choose_spec
   generalize h.choose = l at *
   subst hx
   have hp : pre l := hp
   by_cases hc : c l
   · have := h1 [e l] (by rw [zan he]; exact ⟨hp,hc⟩)
     rw [zan he] at this
     exact this
   · have := h2 [e l] (by rw [zan he]; exact ⟨hp,hc⟩)
     rw [zan he] at this
     exact this
 · exact hp.elim
noncomputable def z0v : List DV → Prop × DV := zdu z7s fun l => (okIns l,putV (putI l))
theorem zzf (l : List In4) : z0v [.sl (l.map cIn)] = (okIns l,putV (putI l)) := zan z3h _ l
theorem z4a : zpq [] [] = ⟨True,.ptr 0 1 0 0,[⟨.loc,2,[[.nil,.bool true]]⟩]⟩ := ztz []
theorem z0h : OkP Tryz.prog 56 z0v := by
 refine OkP.two (c := fun l => l = []) z3h ?_ ?_
 · refine OkP.mk1 (ps := [(108,zhc)]) (hs := [(18,zpq),(109,zo6),(24,ziq)]) ⟨zhr,trivial⟩ ⟨zyn,zha,z51,trivial⟩ zu6 fun l h => ?_
   obtain ⟨_,rfl⟩ := h
   have e0 : putI [] = some [] := rfl
   rw [e0]
   
   have eb : ∀ t,ziq [.ptr 0 1 0 0] (⟨.loc,2,[[.nil,.bool true]]⟩ :: t) = ⟨True,.nil,⟨.loc,2,[[.nil,.bool true]]⟩ :: t⟩ := fun t => z00 rfl
   simp only []
   (refine Todo.of ?_); (repeat' (first | ((with_reducible refine Todo.to ?_); (repeat (simp only [↓rP,rT,rU,eL,zj,zc,dval,zo,DV.one,cellsOf,zf,DV.isU,Nat.reduceEqDiff,↓reduceIte,Nat.reduceLeDiff,forall_const,znl,z7s,z4a ])))))
   refine zyu ?_
   (refine Todo.of ?_); (repeat' (first | ((with_reducible refine Todo.to ?_); (repeat (simp only [↓rP,rT,rU,zc,dval,Nat.reduceEqDiff,↓reduceIte,reduceCtorEq ])))))
   refine zaa (fun _ : Unit => ⟨[(0,.sl []),(4,.ptr 1 1 0 0),(9,.sl []),(10,.int .i64 0),(11,.int .i64 0)],[⟨.loc,2,[[.nil,.bool true]]⟩,⟨.loc,1,[[.ptr 0 1 0 0]]⟩]⟩) (fun _ => True) (fun _ => 0) () (Nat.zero_le _) (by simp only [zk,List.map_cons,List.map_nil,zd,Nk.get_nil,Nat.reduceEqDiff,↓reduceIte,DV.cut,DV.inB,DObj.cut,List.take_nil,reduceCtorEq,decide_true,Nat.reduceLT,List.take_succ_cons] <;> rfl) trivial fun _ _ => ?_
   (refine Todo.of ?_); (repeat' (first | ((with_reducible refine Todo.to ?_); (repeat (simp only [↓rP,rT,rU,zc,dval,dBin,dInt,zg,zb,retV,retL,DR.val,fzT,fzVs,fzV,fz1,DV.immB,alive,Nat.reduceEqDiff,↓reduceIte,reduceCtorEq,Int.reduceLT,eb ])))))
   all_goals rfl
 · refine OkP.mk1 (ps := [(108,zhc)]) (hs := [(18,zpq),(109,zo6),(24,zeu)]) ⟨zhr,trivial⟩ ⟨zyn,zha,zs8,trivial⟩ zu6 fun l h => ?_
   obtain ⟨⟨hl,hx⟩,hne⟩ := h
   
   (refine Todo.of ?_); (repeat' (first | ((with_reducible refine Todo.to ?_); (repeat (simp only [↓rP,rT,rU,eL,zj,zc,dval,zo,DV.one,cellsOf,zf,DV.isU,Nat.reduceEqDiff,↓reduceIte,Nat.reduceLeDiff,forall_const,znl,z7s,z4a ])))))
   refine za9 ?_
   (refine Todo.of ?_); (repeat' (first | ((with_reducible refine Todo.to ?_); (repeat (simp only [↓rP,rT,rU,zc,dval,Nat.reduceEqDiff,Nat.reduceAdd,↓reduceIte,reduceCtorEq ])))))
   have hB : ∀ k,((l.take k).flatMap zaj).length ≤ 1400000 := fun k => by
     have := (zlm (l.take k)).1
     rw [List.length_take] at this
     omega
   refine zad l (fun (k : Nat) (_ : Unit) => ⟨[(0,.sl (l.map cIn)),(4,.ptr 1 1 0 0),(9,.sl (l.map cIn)),(10,.int .i64 l.length),(11,.int .i64 k)],[⟨.loc,2,[[.own 2 ((l.take k).flatMap zaj).length 0 ((l.take k).flatMap zaj).length,.bool true]]⟩,⟨.loc,1,[[.ptr 0 1 0 0]]⟩,⟨.imm,1,bsl ((l.take k).flatMap zaj)⟩]⟩)
     (fun _ r _ => r.all zaw = l.all zaw) () (Nat.zero_le _) (by simp only [zk,List.map_cons,List.map_nil,zd,Nk.get_nil,Nat.reduceEqDiff,↓reduceIte,DV.cut,DV.inB,DObj.cut,List.take_nil,List.take_zero,reduceCtorEq,decide_true,Nat.reduceLT,List.take_succ_cons] <;> rfl) rfl (fun k x rr _ d hgx hd hr => ?_) fun k _ hk hr => ?_
   · have w : IntKind.i64.wrap ((k : Int) + 1) = ((k + 1 : Nat) : Int) := by rw [zt (by omega)]; omega
     have k0 : (0 : Int) ≤ k := Int.natCast_nonneg k
     have hrow := za8 cIn hgx
     have hxm := List.mem_of_getElem? hgx
     have er := zi1 x
     cases c : zaw x
     · rw [c] at er
       have e : putI l = none := by
         unfold putI
         rw [← hr,List.all_cons,c]; rfl
       rw [e]
       (refine Todo.of ?_); (repeat' (first | ((with_reducible refine Todo.to ?_); (repeat (simp only [↓rP,rT,rU,zc,dval,dBin,dInt,dUn,zg,zb,retV,retL,DR.val,fzT,fzVs,fzV,fz1,DV.immB,zp,zq,z1,zz,za4,zu,z6,zo,DV.one,cellsOf,zf,Nat.reduceEqDiff,Nat.reduceAdd,↓reduceIte,reduceCtorEq,Nat.reduceLeDiff,forall_const,d,k0,hrow,er ])))))
       all_goals rfl
     · rw [c] at er
       have eo := fun t => oInstr_x x ((l.take k).flatMap zaj) ⟨.loc,1,[[.ptr 0 1 0 0]]⟩ t c (hx x hxm) (by have := hB k; omega)
       have hft := zz4 hgx
       (refine Todo.of ?_); (repeat' (first | ((with_reducible refine Todo.to ?_); (repeat (simp only [↓rP,rT,rU,zc,dval,dBin,dInt,dUn,zg,zb,DV.immB,zp,zq,z1,zz,za4,zu,z6,zo,DV.one,cellsOf,zf,Nat.reduceEqDiff,Nat.reduceAdd,↓reduceIte,reduceCtorEq,Nat.reduceLeDiff,forall_const,d,k0,hrow,er,eo,w ])))))
       exact ⟨(),by simp only [zk,List.map_cons,List.map_nil,zd,Nk.get_nil,Nat.reduceEqDiff,↓reduceIte,Nat.succ_ne_self,DV.cut,DV.inB,DObj.cut,List.take_zero,reduceCtorEq,decide_true,Nat.reduceLT,List.take_succ_cons,Int.natCast_add,Int.natCast_one,List.length_append,hft] <;> rfl,by rw [← hr,List.all_cons,c]; rfl⟩
   · have d2 : ¬ k < l.length := by omega
     have hft : (l.take k).flatMap zaj = l.flatMap zaj := by rw [List.take_of_length_le (by omega)]
     have hfl := zlm l
     rw [hft]
     have hne2 : l.flatMap zaj ≠ [] := fun e => by
       have h2 := hfl.2
       rw [e] at h2
       exact hne (List.length_eq_zero_iff.1 (Nat.le_zero.1 h2))
     have eb := fun t => wBytes_x (l.flatMap zaj) ⟨.loc,1,[[.ptr 0 1 0 0]]⟩ t hne2 (by omega)
     have hall : l.all zaw = true := by rw [← hr]; rfl
     by_cases q : 6000 < l.length
     · have q2 : (6000 : Int) < l.length := by omega
       have e : putI l = none := by
         unfold putI
         rw [hall,decide_eq_false (by omega)]; rfl
       rw [e]
       (refine Todo.of ?_); (repeat' (first | ((with_reducible refine Todo.to ?_); (repeat (simp only [↓rP,rT,rU,zc,dval,dBin,dInt,retV,retL,DR.val,fzT,fzVs,fzV,fz1,DV.immB,Nat.reduceEqDiff,↓reduceIte,reduceCtorEq,d2,q2 ])))))
       all_goals rfl
     · have q2 : ¬ (6000 : Int) < l.length := by omega
       have e : putI l = some (l.flatMap zaj) := by
         unfold putI
         rw [hall,decide_eq_true (by omega)]; rfl
       rw [e]
       (refine Todo.of ?_); (repeat' (first | ((with_reducible refine Todo.to ?_); (repeat (simp only [↓rP,rT,rU,zc,dval,dBin,dInt,zg,zb,retV,retL,DR.val,fzT,fzVs,fzV,fz1,DV.immB,zi,alive,freezeAt,Nat.reduceEqDiff,↓reduceIte,reduceCtorEq,d2,q2,eb ]))) | ((with_reducible refine And.intro ?_ ?_); · omega) | fail))
       rw [List.take_of_length_le (by rw [zab]; exact Nat.le_refl _)]
       rfl
theorem z5c {b : List UInt8} (t : List DObj) {k z : Int} (hb : b.length + 4 ≤ 4294967296) (hz : z = 1 ∨ z = 2) (hk : 0 ≤ k ∧ k < 256 ^ z.toNat) :
   zd5 [.ptr 0 1 0 0,.int .i64 k,.int .i64 z] (⟨.loc,2,[[.own 1 b.length 0 b.length,.bool false]]⟩ :: ⟨.imm,1,bsl b⟩ :: t) =
     ⟨True,.tup [],⟨.loc,2,[[.own 1 (b ++ putL k.toNat z.toNat).length 0 (b ++ putL k.toNat z.toNat).length,.bool false]]⟩ :: ⟨.imm,1,bsl (b ++ putL k.toNat z.toNat)⟩ :: t⟩ := 
 hu_num (hp := [⟨.loc,2,[[.own 1 b.length 0 b.length,.bool false]]⟩,⟨.imm,1,bsl b⟩]) (n := 0) (m := 1) (by simp) (by simp) (by decide) b t hb hz hk
theorem uInt_x {b : List UInt8} (t : List DObj) {x : Int} (hb : b.length + 20 ≤ 4294967296) (hx : -9223372036854775808 ≤ x ∧ x < 9223372036854775808) :
   zrd [.ptr 0 1 0 0,.int .i64 x] (⟨.loc,2,[[.own 1 b.length 0 b.length,.bool false]]⟩ :: ⟨.imm,1,bsl b⟩ :: t) =
     ⟨True,.tup [],⟨.loc,2,[[.own 1 (b ++ intL x).length 0 (b ++ intL x).length,.bool false]]⟩ :: ⟨.imm,1,bsl (b ++ intL x)⟩ :: t⟩ := 
 hu_int (hp := [⟨.loc,2,[[.own 1 b.length 0 b.length,.bool false]]⟩,⟨.imm,1,bsl b⟩]) (n := 0) (m := 1) (by simp) (by simp) (by decide) b t hb hx
theorem zqn : OkP Tryz.prog 25 z0v := by
 refine OkP.mk1 (ps := [(65,zhc)]) (hs := [(30,zd5),(66,zrd)]) ⟨zgm,trivial⟩ ⟨zhs,yan,trivial⟩ zr2 fun l h => ?_
 obtain ⟨hl,hx⟩ := h
 
 by_cases q : 6000 < l.length
 · have q2 : (6000 : Int) < l.length := by omega
   have e : putI l = none := by
     unfold putI
     rw [decide_eq_false (by omega),Bool.and_false]; rfl
   rw [e]
   (refine Todo.of ?_); (repeat' (first | ((with_reducible refine Todo.to ?_); (repeat (simp only [↓rP,rT,rU,eL,zc,dval,dBin,dInt,retV,retL,DR.val,fzT,fzVs,fzV,fz1,DV.immB,Nat.reduceEqDiff,↓reduceIte,reduceCtorEq,zfn,z7s,q2 ])))))
   all_goals rfl
 have q2 : ¬ (6000 : Int) < l.length := by omega
 (refine Todo.of ?_); (repeat' (first | ((with_reducible refine Todo.to ?_); (repeat (simp only [↓rP,rT,rU,eL,zj,zc,dval,dBin,dInt,DV.one,cellsOf,Nat.reduceAdd,↓reduceIte,reduceCtorEq,forall_const,zfn,z7s,q2 ])))))
 refine za9 ?_
 (refine Todo.of ?_); (repeat' (first | ((with_reducible refine Todo.to ?_); (repeat (simp only [↓rP,rT,rU,zc,dval,↓reduceIte ])))))
 have hB : ∀ k,((l.take k).flatMap zaj).length ≤ 1400000 := fun k => by
   have := (zlm (l.take k)).1
   rw [List.length_take] at this
   omega
 refine zad l (fun (k : Nat) (_ : Unit) => ⟨[(0,.sl (l.map cIn)),(4,.ptr 0 1 0 0),(5,.int .i64 k)],[⟨.loc,2,[[.own 1 ((l.take k).flatMap zaj).length 0 ((l.take k).flatMap zaj).length,.bool false]]⟩,⟨.imm,1,bsl ((l.take k).flatMap zaj)⟩]⟩)
   (fun _ r _ => r.all zaw = l.all zaw) () (Nat.zero_le _) (by simp only [zk,List.map_cons,List.map_nil,zd,Nk.get_nil,Nat.reduceEqDiff,↓reduceIte,DV.cut,DV.inB,DObj.cut,List.take_nil,List.take_zero,reduceCtorEq,decide_true,Nat.reduceLT,List.take_succ_cons] <;> rfl) rfl (fun k x rr _ d hgx hd hr => ?_) fun k _ hk hr => ?_
 · have w : IntKind.i64.wrap ((k : Int) + 1) = ((k + 1 : Nat) : Int) := by rw [zt (by omega)]; omega
   have k0 : (0 : Int) ≤ k := Int.natCast_nonneg k
   have hrow := za8 cIn hgx
   have hxm := List.mem_of_getElem? hgx
   have er := zi1 x
   cases c : zaw x
   · rw [c] at er
     have e : putI l = none := by
       unfold putI
       rw [← hr,List.all_cons,c]; rfl
     rw [e]
     (refine Todo.of ?_); (repeat' (first | ((with_reducible refine Todo.to ?_); (repeat (simp only [↓rP,rT,rU,zc,dval,dBin,dInt,dUn,zg,zb,retV,retL,DR.val,fzT,fzVs,fzV,fz1,DV.immB,zp,zq,z1,zz,za4,zu,z6,zo,DV.one,cellsOf,zf,Nat.reduceEqDiff,Nat.reduceAdd,↓reduceIte,reduceCtorEq,Nat.reduceLeDiff,forall_const,d,k0,hrow,er ])))))
     all_goals rfl
   rw [c] at er
   have hft := zz4 hgx
   have hb := hB k
   generalize (l.take k).flatMap zaj = b at hft hb
   rw [List.all_cons,c] at hr
   have hx64 := hx x hxm
   clear hgx hd hxm
   have rng := zpj c
   have ho := zse c
   have hp0 := ze x.op.toNat 1
   have hp2 := ze x.a.toNat 2
   have q0 := fun t => z5c (b := b) t (k := x.op) (z := 1) (by omega) (.inl rfl) (by simpa using rng.1)
   have q1 : (fmI x.op).w = true → ∀ t,_ := fun h t => z5c (b := b ++ putL x.op.toNat 1) t (k := x.a) (z := 2) (by rw [List.length_append]; omega) (.inr rfl) (by simpa using rng.2.1 h)
   have q2' : (fmI x.op).s = true → ∀ t,_ := fun h t => z5c (b := b ++ putL x.op.toNat 1) t (k := x.a) (z := 1) (by rw [List.length_append]; omega) (.inl rfl) (by simpa using rng.2.2.1 h)
   have q3 : (fmI x.op).b = true → ∀ t,_ := fun h t => z5c (b := b ++ (putL x.op.toNat 1 ++ putL x.a.toNat 2)) t (k := x.b) (z := 1) (by rw [List.length_append,List.length_append]; omega) (.inl rfl) (by simpa using rng.2.2.2 h)
   have q4 := fun t => uInt_x (b := b ++ (putL x.op.toNat 1 ++ putL x.a.toNat 2)) t (x := x.n) (by rw [List.length_append,List.length_append]; omega) hx64.n
   clear hp0 hp2 rng c
   obtain ⟨op,a,bb,nn⟩ := x
   simp only at q0 q1 q2' q3 q4 ho hrow er
   unfold okOp at ho
   rcases ho with rfl | rfl | rfl | rfl | rfl | rfl | rfl | rfl | rfl | rfl
   all_goals first | (have q1 := q1 rfl) | skip
   all_goals first | (have q2' := q2' rfl) | skip
   all_goals first | (have q3 := q3 rfl) | skip
   all_goals simp only [Int.reduceToNat,List.length_append] at q0
   all_goals first | (simp only [Int.reduceToNat,List.length_append,List.append_assoc] at q1) | skip
   all_goals first | (simp only [Int.reduceToNat,List.length_append,List.append_assoc] at q2') | skip
   all_goals first | (simp only [Int.reduceToNat,List.length_append,List.append_assoc] at q3) | skip
   all_goals first | (simp only [Int.reduceToNat,List.length_append,List.append_assoc] at q4) | skip
   all_goals simp only [zaj,fmI,↓reduceIte,Int.reduceEq,Bool.false_eq_true,List.append_nil,List.nil_append,Int.reduceToNat] at hft
   all_goals (refine Todo.of ?_); (repeat' (first | ((with_reducible refine Todo.to ?_); (repeat (simp only [↓rP,rT,rU,zc,dval,dBin,dInt,dUn,zg,zb,DV.immB,zp,zq,z1,zz,za4,zu,z6,zo,DV.one,alive,cellsOf,zf,Nat.reduceEqDiff,Nat.reduceAdd,↓reduceIte,reduceCtorEq,Nat.reduceLeDiff,Nat.reduceLT,Int.reduceBEq,forall_const,d,k0,hrow,er,w,q0,q1,q2',q3,q4 ])))))
   all_goals exact ⟨(),by simp only [zk,List.map_cons,List.map_nil,zd,Nk.get_nil,Nat.reduceEqDiff,↓reduceIte,DV.cut,DV.inB,DObj.cut,List.take_zero,reduceCtorEq,decide_true,Nat.reduceLT,List.take_succ_cons,Int.natCast_add,Int.natCast_one,List.length_append,hft] <;> rfl,by rw [← hr]; rfl⟩
 · have d2 : ¬ k < l.length := by omega
   have hft : (l.take k).flatMap zaj = l.flatMap zaj := by rw [List.take_of_length_le (by omega)]
   rw [hft]
   have hall : l.all zaw = true := by rw [← hr]; rfl
   have e : putI l = some (l.flatMap zaj) := by
     unfold putI
     rw [hall,decide_eq_true (by omega)]; rfl
   rw [e]
   (refine Todo.of ?_); (repeat' (first | ((with_reducible refine Todo.to ?_); (repeat (simp only [↓rP,rT,rU,zc,dval,dBin,dInt,zg,zb,retV,retL,DR.val,fzT,fzVs,fzV,fz1,DV.immB,zi,alive,freezeAt,Nat.reduceEqDiff,Nat.reduceAdd,↓reduceIte,reduceCtorEq,Nat.reduceLT,d2 ]))) | ((with_reducible refine And.intro ?_ ?_); · omega) | fail))
   rw [List.take_of_length_le (by rw [zab]; exact Nat.le_refl _)]
   rfl
end Go.Proofs.YtfaailjhioobhaaGreat
set_option linter.all false
set_option maxRecDepth 20000
namespace Go.Proofs.YtfaailjhioobhaaGreat
open Go.Nk
section
variable {hp t : List DObj} {m : Nat} {o o' a b c : DObj}
theorem one_b3 : (one hp m o ++ (a :: b :: c :: o' :: t))[hp.length + 3]? = some o' := by
 rw [List.getElem?_append_right (by simp [one])]; simp [one]
theorem zuf : (one hp m o ++ (a :: b :: c :: t)).set (hp.length + 2) o' = one hp m o ++ (a :: b :: o' :: t) := by
 rw [List.set_append_right _ _ (by simp [one])]; simp [one]
theorem z0i {d : DObj} : (one hp m o ++ (a :: b :: c :: d :: t)).set (hp.length + 3) o' = one hp m o ++ (a :: b :: c :: o' :: t) := by
 rw [List.set_append_right _ _ (by simp [one])]; simp [one]
end
theorem zbw (r : RS) (k : Nat) : (oP r).cut k = oP r := by
 rcases r with _ | ⟨l,a⟩ <;> rfl
theorem zk7 (r : QS) (k : Nat) : (oR r).cut k = oR r := by
 obtain ⟨l,_ | a⟩ := r <;> rfl
def oneI (r : RS) : In4 × RS :=
 let f := fmI (numV r 1)
 let r1 := z9 r (szN 1)
 let r2 := if f.w then z9 r1 (szN 2) else r1
 let r3 := if f.s then z9 r2 (szN 1) else r2
 let r4 := if f.b then z9 r3 (szN 1) else r3
 let r5 := if f.n then intS r4 else r4
 (⟨numV r 1,if f.s then numV r2 1 else if f.w then numV r1 2 else 0,if f.b then numV r3 1 else 0,if f.n then intV r4 else 0⟩,r5)
def rRX (x : Nat × RS) (a : List DV) (hp : List DObj) : Prop := a = [.agg [.ptr x.1 1 0 0]] ∧ hp[x.1]? = some (oP x.2)
theorem rRX_u : ∀ x y a hp,rRX x a hp → rRX y a hp → x = y := by
 rintro ⟨n,r⟩ ⟨n',r'⟩ a hp ⟨h1,h2⟩ ⟨h3,h4⟩
 subst h1
 simp only [List.cons.injEq,DV.agg.injEq,DV.ptr.injEq,and_true] at h3
 subst h3
 have := h2.symm.trans h4
 simp only [Option.some.injEq] at this
 rw [zod _ _ this]
noncomputable def zsp : List DV → List DObj → Res := zee rRX (fun x => (okP x.2,.agg (cIn (oneI x.2).1))) (fun x hp => one hp x.1 (oP (oneI x.2).2))
theorem z17 {hp : List DObj} {n : Nat} {r : RS} (h : hp[n]? = some (oP r)) : zsp [.agg [.ptr n 1 0 0]] hp = ⟨okP r,.agg (cIn (oneI r).1),one hp n (oP (oneI r).2)⟩ := za5 (x := (n,r)) rRX_u ⟨rfl,h⟩
theorem zd7 {hp : List DObj} {n : Nat} (hn : n < hp.length) {r : RS} (h : okP r) (k : Int) (t : List DObj) : zj1 [.ptr n 1 0 0,.int .i64 k] (one hp n (oP r) ++ t) = ⟨True,.int .i64 (numV r k),one hp n (oP (z9 r (szN k))) ++ t⟩ := by
 rw [zpm (zd9 hn),eq_true h,zi8 hn]
theorem yb2 {hp : List DObj} {n : Nat} (hn : n < hp.length) {r : RS} (h : okP r) (t : List DObj) : zz0 [.ptr n 1 0 0] (one hp n (oP r) ++ t) = ⟨True,.int .i64 (intV r),one hp n (oP (intS r)) ++ t⟩ := by
 rw [yax (zd9 hn),eq_true h,zi8 hn]
theorem zrc : OkH Tryz.prog 122 zsp := by
 refine OkH.mkG (ps := [(129,s_of)]) (hs := [(76,zj1),(121,zz0)]) ⟨zmz,trivial⟩ ⟨zam,zpk,trivial⟩ zr1 (fun x a hp h => by rw [h.1]; rfl) (fun x a hp h h1 => ?_)
 obtain ⟨n,r⟩ := x
 obtain ⟨rfl,hh⟩ := h
 have h1 : okP r := h1
 simp only at hh ⊢
 have hn := (List.getElem?_eq_some_iff.1 hh).1
 have es : (⟨za 0 [.agg [.ptr n 1 0 0]],hp⟩ : DS) = ⟨za 0 [.agg [.ptr n 1 0 0]],one hp n (oP r) ++ []⟩ := by rw [List.append_nil,zeh hh]
 rw [es]
 have q0 := zd7 hn h1 1
 have hk1 := zav (szN 1) h1
 generalize ho : oneI r = O
 unfold oneI at ho
 dsimp only at ho
 generalize z9 r (szN 1) = r1 at q0 hk1 ho
 generalize numV r 1 = op at q0 ho
 have ef := z2i op
 have q1 := zd7 hn hk1 2
 have q2 := zd7 hn hk1 1
 have hk2 := zav (szN 2) hk1
 generalize z9 r1 (szN 2) = r2 at q1 hk2 ho
 have q3 := zd7 hn hk2 1
 have q4 := yb2 hn hk2
 
 rcases zqf op with h | rfl | rfl | rfl | rfl | rfl | rfl | rfl | rfl | rfl | rfl
 · simp only [z0m h,fmV,Bool.false_eq_true,↓reduceIte] at ef ho
   subst ho
   (have hcondQ := Bool.and_self; refine Todo.of ?_); (repeat' (first | ((with_reducible refine Todo.to ?_); (repeat (simp only [↓rP,rT,rU,zj,zc,dval,za,zg,zb,retV,DR.val,fzVs,fzV,fz1,DV.immB,zp,zq,z1,zz,zu,z6,zo,DV.one,alive,cellsOf,zf,DV.isU,Nat.reduceEqDiff,Nat.reduceAdd,↓reduceIte,reduceCtorEq,Nat.reduceLeDiff,Nat.reduceLT,forall_const,zfp,ef,q0,z8,zb6,zds,z8u,one_b3,zat,zuf,z0i,List.append_assoc,Nat.add_zero ,hcondQ]))) | ((with_reducible refine And.intro ?_ ?_); · first | (trivial) | ((simp; done))) | fail))
   all_goals exact za1 (zbw _ _)
 all_goals simp only [fmV,fmI,↓reduceIte,Int.reduceEq,Bool.false_eq_true] at ef ho
 all_goals subst ho
 all_goals (have hcondQ := Bool.and_self; refine Todo.of ?_); (repeat' (first | ((with_reducible refine Todo.to ?_); (repeat (simp only [↓rP,rT,rU,zj,zc,dval,za,zg,zb,retV,DR.val,fzVs,fzV,fz1,DV.immB,zp,zq,z1,zz,zu,z6,zo,DV.one,alive,cellsOf,zf,DV.isU,Nat.reduceEqDiff,Nat.reduceAdd,↓reduceIte,reduceCtorEq,Nat.reduceLeDiff,Nat.reduceLT,forall_const,zfp,ef,q0,q1,q2,q3,q4,z8,zb6,zds,z8u,one_b3,zat,zuf,z0i,List.append_assoc,Nat.add_zero ,hcondQ]))) | ((with_reducible refine And.intro ?_ ?_); · first | (trivial) | ((simp; done))) | fail))
 all_goals exact za1 (zbw _ _)
def oneQ (r : QS) : In4 × QS :=
 let f := fmI (zax r 1)
 let r1 := qS r (szN 1)
 let r2 := if f.w then qS r1 (szN 2) else r1
 let r3 := if f.s then qS r2 (szN 1) else r2
 let r4 := if f.b then qS r3 (szN 1) else r3
 let r5 := if f.n then zef r4 else r4
 (⟨zax r 1,if f.s then zax r2 1 else if f.w then zax r1 2 else 0,if f.b then zax r3 1 else 0,if f.n then zm4 r4 else 0⟩,r5)
theorem z0s (r : QS) : (zef r).1 = r.1 := by
 unfold zef
 split
 · split <;> rfl
 · rfl
theorem zxb (l : List UInt8) (s : Option Nat) : (oneI (toP l s)).1 = (oneQ (l,s)).1 ∧ (oneI (toP l s)).2 = toP l (oneQ (l,s)).2.2 ∧ (oneQ (l,s)).2.1 = l := by
 have hq : ∀ (r : QS) (k : Int),qS r k = (r.1,(qS r k).2) := fun r k => rfl
 have hi : ∀ r : QS,zef r = (r.1,(zef r).2) := fun r => by rw [← z0s r]
 unfold oneI oneQ
 simp only [zf5,zdz]
 rw [hq (l,s) (szN 1)]
 simp only
 generalize (qS (l,s) (szN 1)).2 = s1
 generalize fmI (zax (l,s) 1) = f
 obtain ⟨nm,fw,fs,fb,fn,fo⟩ := f
 cases fw <;> cases fs <;> cases fb <;> cases fn <;> simp only [Bool.false_eq_true,↓reduceIte,zf5,zdz,z76,yb4]
 all_goals (refine ⟨?_,?_,?_⟩ <;> first | rfl | trivial | exact z0s _)
def rQX (x : Nat × QS) (a : List DV) (hp : List DObj) : Prop := a = [.ptr x.1 1 0 0] ∧ hp[x.1]? = some (oR x.2)
theorem rQX_u : ∀ x y a hp,rQX x a hp → rQX y a hp → x = y := by
 rintro ⟨n,r⟩ ⟨n',r'⟩ a hp ⟨h1,h2⟩ ⟨h3,h4⟩
 subst h1
 simp only [List.cons.injEq,DV.ptr.injEq,and_true] at h3
 subst h3
 have := h2.symm.trans h4
 simp only [Option.some.injEq] at this
 rw [ztw _ _ this]
noncomputable def s_one : List DV → List DObj → Res := zee rQX (fun x => (okQ x.2,.agg (cIn (oneQ x.2).1))) (fun x hp => one hp x.1 (oR (oneQ x.2).2))
theorem s_one_at {hp : List DObj} {n : Nat} {r : QS} (h : hp[n]? = some (oR r)) : s_one [.ptr n 1 0 0] hp = ⟨okQ r,.agg (cIn (oneQ r).1),one hp n (oR (oneQ r).2)⟩ := za5 (x := (n,r)) rQX_u ⟨rfl,h⟩
theorem zc0 {hp : List DObj} {n : Nat} (hn : n < hp.length) {r : QS} (h : okQ r) (k : Int) (t : List DObj) : zg3 [.ptr n 1 0 0,.int .i64 k] (one hp n (oR r) ++ t) = ⟨True,.int .i64 (zax r k),one hp n (oR (qS r (szN k))) ++ t⟩ := by
 rw [zk9 (zd9 hn),eq_true h,zi8 hn]
theorem z3s {hp : List DObj} {n : Nat} (hn : n < hp.length) {r : QS} (h : okQ r) (t : List DObj) : zzc [.ptr n 1 0 0] (one hp n (oR r) ++ t) = ⟨True,.int .i64 (zm4 r),one hp n (oR (zef r)) ++ t⟩ := by
 rw [yba (zd9 hn),eq_true h,zi8 hn]
theorem zpx : OkH Tryz.prog 97 s_one := by
 refine OkH.mkG (ps := []) (hs := [(91,zg3),(96,zzc)]) trivial ⟨zb4,zte,trivial⟩ zr8 (fun x a hp h => by rw [h.1]; rfl) (fun x a hp h h1 => ?_)
 obtain ⟨n,r⟩ := x
 obtain ⟨rfl,hh⟩ := h
 have h1 : okQ r := h1
 simp only at hh ⊢
 have hn := (List.getElem?_eq_some_iff.1 hh).1
 have es : (⟨za 0 [.ptr n 1 0 0],hp⟩ : DS) = ⟨za 0 [.ptr n 1 0 0],one hp n (oR r) ++ []⟩ := by rw [List.append_nil,zeh hh]
 rw [es]
 have q0 := zc0 hn h1 1
 have hk1 := zb3 (szN 1) h1
 generalize ho : oneQ r = O
 unfold oneQ at ho
 dsimp only at ho
 generalize qS r (szN 1) = r1 at q0 hk1 ho
 generalize zax r 1 = op at q0 ho
 have q1 := zc0 hn hk1 2
 have q2 := zc0 hn hk1 1
 have hk2 := zb3 (szN 2) hk1
 generalize qS r1 (szN 2) = r2 at q1 hk2 ho
 have q3 := zc0 hn hk2 1
 have q4 := z3s hn hk2
 
 rcases zqf op with h | rfl | rfl | rfl | rfl | rfl | rfl | rfl | rfl | rfl | rfl
 · simp only [z0m h,Bool.false_eq_true,↓reduceIte] at ho
   subst ho
   (refine Todo.of ?_); (repeat' (first | ((with_reducible refine Todo.to ?_); (repeat (simp only [↓rP,rT,rU,zj,zc,dval,za,dBin,dInt,zg,zb,retV,DR.val,zo,DV.one,alive,cellsOf,zf,DV.isU,Nat.reduceEqDiff,Nat.reduceAdd,↓reduceIte,reduceCtorEq,Nat.reduceLeDiff,Nat.reduceLT,forall_const,zfr,h.n1,h.n2,h.n3,h.n4,h.n5,h.n6,h.n7,h.n8,h.n9,q0,z8,zb6,zds,zbx,zat,List.append_assoc,Nat.add_zero ]))) | ((with_reducible refine And.intro ?_ ?_); · first | (trivial) | ((simp; done))) | fail))
   all_goals exact za1 (zk7 _ _)
 all_goals simp only [fmI,↓reduceIte,Int.reduceEq,Bool.false_eq_true] at ho
 all_goals subst ho
 all_goals (refine Todo.of ?_); (repeat' (first | ((with_reducible refine Todo.to ?_); (repeat (simp only [↓rP,rT,rU,zj,zc,dval,za,dBin,dInt,zg,zb,retV,DR.val,zo,DV.one,alive,cellsOf,zf,DV.isU,Nat.reduceEqDiff,Nat.reduceAdd,↓reduceIte,reduceCtorEq,Nat.reduceLeDiff,Nat.reduceLT,Int.reduceBEq,forall_const,zfr,q0,q1,q2,q3,q4,z8,zb6,zds,zbx,zat,List.append_assoc,Nat.add_zero ]))) | ((with_reducible refine And.intro ?_ ?_); · first | (trivial) | ((simp; done))) | fail))
 all_goals exact za1 (zk7 _ _)
end Go.Proofs.YtfaailjhioobhaaGreat
set_option linter.all false
set_option maxRecDepth 20000
namespace Go.Proofs.YtfaailjhioobhaaGreat
open Go.Nk
def getL : Nat → List UInt8 → Option Nat → List In4 → Option (List In4)
 | 0,_,_,_ => none
 | f + 1,l,s,acc => if zky (l,s) then (if (oneQ (l,s)).2.2.isSome && zaw (oneQ (l,s)).1 && !(acc.length == 6000) then getL f l (oneQ (l,s)).2.2 (acc ++ [(oneQ (l,s)).1]) else none) else some acc
def getI (l : List UInt8) : Option (List In4) := getL (l.length + 1) l (some 0) []
def getV (o : Option (List In4)) : DV := .tup [.sl ((o.getD []).map cIn),.bool o.isSome]
theorem qS_step {l : List UInt8} {s : Option Nat} {k : Int} {a' : Nat} (hk : 0 ≤ k) (h : (qS (l,s) k).2 = some a') : ∃ a,s = some a ∧ a' = a + k.toNat ∧ a' ≤ l.length := by
 cases s with
 | none => cases h
 | some a =>
   have h : (nxt l (some a) k).2 = some a' := h
   simp only [nxt] at h
   split at h
   · injection h with h
     exact ⟨a,rfl,h.symm,by omega⟩
   · cases h
theorem z1j {l : List UInt8} {s : Option Nat} {k : Int} {a' : Nat} (h : (qS (l,s) k).2 = some a') : ∃ a,s = some a ∧ a ≤ a' := by
 cases s with
 | none => cases h
 | some a =>
   have h : (nxt l (some a) k).2 = some a' := h
   simp only [nxt] at h
   split at h
   · injection h with h
     exact ⟨a,rfl,by omega⟩
   · cases h
theorem yb9 {l : List UInt8} {s : Option Nat} {a' : Nat} (h : (zef (l,s)).2 = some a') : ∃ a,s = some a ∧ a ≤ a' := by
 unfold zef at h
 split at h
 · split at h
   · cases h
   · obtain ⟨b,hb,h1⟩ := z1j h
     obtain ⟨c,hc,h2⟩ := z1j hb
     exact ⟨c,hc,by omega⟩
 · cases h
def lq (r r' : QS) : Prop := ∀ a',r'.2 = some a' → ∃ a,r.2 = some a ∧ a ≤ a'
theorem lq_refl (r : QS) : lq r r := fun a h => ⟨a,h,Nat.le_refl _⟩
theorem lq_S {r0 r : QS} {k : Int} (h : lq r0 r) : lq r0 (qS r k) := fun a' h1 => by
 obtain ⟨b,hb,h2⟩ := z1j (l := r.1) (s := r.2) h1
 obtain ⟨c,hc,h3⟩ := h b hb
 exact ⟨c,hc,by omega⟩
theorem lq_I {r0 r : QS} (h : lq r0 r) : lq r0 (zef r) := fun a' h1 => by
 obtain ⟨b,hb,h2⟩ := yb9 (l := r.1) (s := r.2) h1
 obtain ⟨c,hc,h3⟩ := h b hb
 exact ⟨c,hc,by omega⟩
theorem z80 {r : QS} (h : okQ r) : okQ (oneQ r).2 := by
 unfold oneQ
 dsimp only
 have h1 := zb3 (szN 1) h
 generalize qS r (szN 1) = r1 at h1 ⊢
 have h2 := zb3 (szN 2) h1
 split <;> split <;> split <;> split <;> first | exact zex (zb3 _ (zb3 _ h2)) | exact zex (zb3 _ h2) | exact zex h2 | exact zb3 _ (zb3 _ h2) | exact zb3 _ h2 | exact h2 | exact zex (zb3 _ (zb3 _ h1)) | exact zex (zb3 _ h1) | exact zex h1 | exact zb3 _ (zb3 _ h1) | exact zb3 _ h1 | exact h1
theorem z8i {l : List UInt8} {a a' : Nat} (h : (oneQ (l,some a)).2.2 = some a') : a < a' := by
 unfold oneQ at h
 dsimp only at h
 have h1 : ∀ b,(qS (l,some a) (szN 1)).2 = some b → a < b := fun b hb => by
   obtain ⟨c,hc,h2,_⟩ := qS_step (by decide) hb
   injection hc with hc
   subst hc
   have : (szN 1).toNat = 1 := by decide
   omega
 have go : ∀ r1 : QS,∀ r5 : QS,lq r1 r5 → r1 = qS (l,some a) (szN 1) → r5.2 = some a' → a < a' := fun r1 r5 hl e h5 => by
   obtain ⟨b,hb,h2⟩ := hl _ h5
   subst e
   have := h1 b hb
   omega
 refine go _ _ ?_ rfl h
 generalize qS (l,some a) (szN 1) = r1
 split <;> split <;> split <;> split <;> (repeat (first | exact lq_refl _ | refine lq_I ?_ | refine lq_S ?_))
theorem zpb {f : Nat} {l : List UInt8} {s : Option Nat} {acc : List In4} (h : zky (l,s) = false) : getL (f + 1) l s acc = some acc := by unfold getL; rw [h]; rfl
theorem zx5 {f : Nat} {l : List UInt8} {s : Option Nat} {acc : List In4} (h : zky (l,s) = true) (h2 : ((oneQ (l,s)).2.2.isSome && zaw (oneQ (l,s)).1 && !(acc.length == 6000)) = false) : getL (f + 1) l s acc = none := by
 unfold getL; rw [if_pos h,if_neg (by rw [h2]; decide)]
theorem zxc {f : Nat} {l : List UInt8} {s : Option Nat} {acc : List In4} (h : zky (l,s) = true) (h2 : ((oneQ (l,s)).2.2.isSome && zaw (oneQ (l,s)).1 && !(acc.length == 6000)) = true) : getL (f + 1) l s acc = getL f l (oneQ (l,s)).2.2 (acc ++ [(oneQ (l,s)).1]) := by
 rw [getL,if_pos h,if_pos h2]
def zqc (l : List UInt8) : Prop × DV := (l.length ≤ 131072,getV (getI l))
structure GI (l : List UInt8) (G : Option (List In4)) (f a : Nat) (acc : List In4) : Prop where
 ha : a ≤ l.length
 hf : l.length - a < f
 hg : getL f l (some a) acc = G
 hl : acc.length ≤ a
theorem yao (l : List In4) (x : In4) : l.map cIn ++ [[.int .i64 x.op,.int .i64 x.a,.int .i64 x.b,.int .i64 x.n]] = (l ++ [x]).map cIn := by simp
theorem ybz (l : List UInt8) : zi0 [.sl (bsl l)] [] = ⟨True,.ptr 0 1 0 0,[oR (l,some 0)]⟩ := zww l []
theorem zqg : OkP Tryz.prog 43 (zby zqc) := by
 refine OkP.mk (ps := [(65,zhc)]) (hs := [(90,zi0),(93,zq4),(97,s_one)]) (n := 1) ⟨zgm,trivial⟩ ⟨zup,ztp,zpx,trivial⟩ zsb
   (zfi fun l h => ?_)
 have h : l.length ≤ 131072 := h
 unfold zqc
 dsimp only
 generalize hG : getI l = G
 
 (refine Todo.of ?_); (repeat' (first | ((with_reducible refine Todo.to ?_); (repeat (simp only [↓rP,rT,rU,zc,dval,fzLL,Nat.reduceAdd,↓reduceIte,reduceCtorEq,forall_const,zjl,ybz ])))))
 refine zaa (fun x : Nat × Nat × List In4 => ⟨[(4,.ptr 0 1 0 0),(5,.own 1 x.2.2.length 0 x.2.2.length)],[oR (l,some x.2.1),⟨.imm,4,x.2.2.map cIn⟩]⟩) (fun x => GI l G x.1 x.2.1 x.2.2) (fun x => l.length - x.2.1) (l.length + 1,0,[]) (Nat.zero_le _) (by simp only [zk,List.map_cons,List.map_nil,zd,Nk.get_nil,Nat.reduceEqDiff,↓reduceIte,DV.cut,DV.inB,DObj.cut,List.take_nil,reduceCtorEq,decide_true,Nat.reduceLT,List.take_succ_cons,List.length_nil,oR] <;> rfl) ⟨Nat.zero_le _,by simp only; omega,hG,Nat.zero_le _⟩ fun x hx => ?_
 obtain ⟨f,a,acc⟩ := x
 obtain ⟨ha,hf,hg,hl⟩ := hx
 simp only at ha hf hg hl ⊢
 obtain ⟨f,rfl⟩ : ∃ f',f = f' + 1 := ⟨f - 1,by omega⟩
 have hok : okQ (l,some a) := ⟨ha,by show l.length ≤ 4294967296; omega⟩
 have eM : ∀ t,zq4 [.ptr 0 1 0 0] (oR (l,some a) :: t) = ⟨True,.bool (zky (l,some a)),oR (l,some a) :: t⟩ := fun t => zv2 rfl
 cases c : zky (l,some a)
 · rw [zpb c] at hg
   rw [c] at eM
   subst hg
   (refine Todo.of ?_); (repeat' (first | ((with_reducible refine Todo.to ?_); (repeat (simp only [↓rP,rT,rU,zc,dval,retV,retL,DR.val,fzT,fzVs,fzV,fz1,DV.immB,zi,freezeAt,Nat.reduceEqDiff,↓reduceIte,reduceCtorEq,in_tk0,eM ]))) | ((with_reducible refine And.intro ?_ ?_); · omega) | fail))
   rfl
 rw [c] at eM
 have eO : ∀ t,s_one [.ptr 0 1 0 0] (oR (l,some a) :: t) = ⟨True,.agg (cIn (oneQ (l,some a)).1),oR (oneQ (l,some a)).2 :: t⟩ := fun t => by
   rw [s_one_at (r := (l,some a)) rfl,eq_true hok]; rfl
 have hin := z80 hok
 have hgo : ∀ a',(oneQ (l,some a)).2.2 = some a' → a < a' := fun a' => z8i
 have hfst : (oneQ (l,some a)).2.1 = l := (zxb l (some a)).2.2
 have hbad := zx5 (f := f) (acc := acc) c
 have hgg := zxc (f := f) (acc := acc) c
 rw [hg] at hbad hgg
 generalize oneQ (l,some a) = O at eO hin hgo hfst hbad hgg
 obtain ⟨x,l',s'⟩ := O
 simp only at hfst hin hgo hbad hgg eO
 subst hfst
 have er := zi1 x
 have len6 : ((acc.length : Int) == 6000) = (acc.length == 6000) := by
   rw [Bool.eq_iff_iff]; simp; omega
 rcases s' with _ | a'
 · have e := hbad (by simp)
   subst e
   have o5 : oR (l',none) = ⟨.loc,3,[[.sl (bsl l'),.int .i64 0,.bool true]]⟩ := rfl
   (refine Todo.of ?_); (repeat' (first | ((with_reducible refine Todo.to ?_); (repeat (simp only [↓rP,rT,rU,zc,dval,zg,zb,retV,retL,DR.val,fzT,fzVs,fzV,fz1,DV.immB,zo,DV.one,alive,cellsOf,zf,Nat.reduceEqDiff,Nat.reduceAdd,↓reduceIte,reduceCtorEq,Nat.reduceLeDiff,forall_const,eM,eO,o5 ])))))
   all_goals rfl
 have h1 := hgo a' rfl
 have h2 : a' ≤ l'.length := hin.1
 have o5 : oR (l',some a') = ⟨.loc,3,[[.sl (bsl l'),.int .i64 a',.bool false]]⟩ := rfl
 cases r : zaw x
 · have e := hbad (by simp [r])
   subst e
   rw [r] at er
   (refine Todo.of ?_); (repeat' (first | ((with_reducible refine Todo.to ?_); (repeat (simp only [↓rP,rT,rU,zc,dval,dUn,zg,zb,retV,retL,DR.val,fzT,fzVs,fzV,fz1,DV.immB,zp,zq,z1,zz,za4,zu,z6,zo,DV.one,alive,cellsOf,zf,Nat.reduceEqDiff,Nat.reduceAdd,↓reduceIte,reduceCtorEq,Nat.reduceLeDiff,forall_const,eM,eO,o5,er ])))))
   all_goals rfl
 cases k6 : (acc.length == 6000)
 rotate_left
 · have e := hbad (by simp [r,k6])
   subst e
   rw [r] at er
   rw [k6] at len6
   (refine Todo.of ?_); (repeat' (first | ((with_reducible refine Todo.to ?_); (repeat (simp only [↓rP,rT,rU,zc,dval,dBin,dInt,dUn,zg,zb,retV,retL,DR.val,fzT,fzVs,fzV,fz1,DV.immB,zp,zq,z1,zz,za4,zu,z6,zo,DV.one,alive,cellsOf,zf,Nat.reduceEqDiff,Nat.reduceAdd,↓reduceIte,reduceCtorEq,Nat.reduceLeDiff,forall_const,eM,eO,o5,er,len6 ])))))
   all_goals rfl
 have e := hgg (by simp [r,k6])
 rw [r] at er
 rw [k6] at len6
 (have hcondQ := Bool.and_self; refine Todo.of ?_); (repeat' (first | ((with_reducible refine Todo.to ?_); (repeat (simp only [↓rP,rT,rU,zc,dval,dBin,dInt,dUn,zg,zb,fz1,DV.immB,zp,zq,z1,zz,za4,zu,z6,zi,zao,zo,DV.one,alive,fzLL,fzL,bRow,bU,cellsOf,zf,DV.isU,zal,Nat.reduceEqDiff,Nat.reduceAdd,↓reduceIte,reduceCtorEq,Nat.reduceLeDiff,forall_const,eM,eO,o5,er,len6,yao,hcondQ]))) | ((with_reducible refine And.intro ?_ ?_); · omega) | fail))
 all_goals first | omega | exact ⟨(f,a',acc ++ [x]),by simp only [zk,List.map_cons,List.map_nil,zd,Nk.get_nil,Nat.reduceEqDiff,↓reduceIte,DV.cut,DV.inB,DObj.cut,List.take_zero,reduceCtorEq,decide_true,Nat.reduceLT,List.take_succ_cons,List.length_append,List.length_cons,List.length_nil,Nat.zero_add,oR] <;> rfl,⟨h2,by simp only; omega,e.symm,by simp only [List.length_append,List.length_cons,List.length_nil]; omega⟩,by simp only; omega⟩
theorem zzr : OkP Tryz.prog 89 (zby zqc) := by
 refine OkP.mk (ps := [(108,zhc)]) (hs := [(75,zk1),(79,zjv),(122,zsp),(78,s_Ok)]) (n := 1) ⟨zhr,trivial⟩ ⟨zhp,zhl,zrc,za0,trivial⟩ z1w
   (zfi fun l h => ?_)
 have h : l.length ≤ 131072 := h
 unfold zqc
 dsimp only
 generalize hG : getI l = G
 
 have eF : ∀ o,zk1 [.sl (bsl l)] [o] = ⟨True,.ptr 1 1 0 0,[o,oP (some (l,0))]⟩ := fun o => by
   rw [zq9,eq_true (show l.length ≤ 4294967296 by omega)]; rfl
 (refine Todo.of ?_); (repeat' (first | ((with_reducible refine Todo.to ?_); (repeat (simp only [↓rP,rT,rU,zj,zc,dval,zo,DV.one,cellsOf,zf,DV.isU,Nat.reduceEqDiff,Nat.reduceAdd,↓reduceIte,reduceCtorEq,Nat.reduceLeDiff,forall_const,ztf,eF ])))))
 refine zaa (fun x : Nat × Nat × List In4 => ⟨[(4,.own 0 x.2.2.length 0 x.2.2.length),(5,.ptr 2 1 0 0)],[⟨.imm,4,x.2.2.map cIn⟩,oP (some (l,x.2.1)),⟨.loc,1,[[.ptr 1 1 0 0]]⟩]⟩) (fun x => GI l G x.1 x.2.1 x.2.2) (fun x => l.length - x.2.1) (l.length + 1,0,[]) (Nat.zero_le _) (by simp only [zk,List.map_cons,List.map_nil,zd,Nk.get_nil,Nat.reduceEqDiff,↓reduceIte,DV.cut,DV.inB,DObj.cut,List.take_nil,reduceCtorEq,decide_true,Nat.reduceLT,List.take_succ_cons,List.length_nil,oP] <;> rfl) ⟨Nat.zero_le _,by simp only; omega,hG,Nat.zero_le _⟩ fun x hx => ?_
 obtain ⟨f,a,acc⟩ := x
 obtain ⟨ha,hf,hg,hl⟩ := hx
 simp only at ha hf hg hl ⊢
 obtain ⟨f,rfl⟩ : ∃ f',f = f' + 1 := ⟨f - 1,by omega⟩
 have hok : okP (some (l,a)) := ⟨ha,by show l.length ≤ 4294967296; omega⟩
 have hokq : okQ (l,some a) := ⟨ha,by show l.length ≤ 4294967296; omega⟩
 have eM : ∀ o t,zjv [.ptr 1 1 0 0] (o :: oP (some (l,a)) :: t) = ⟨True,.bool (zky (l,some a)),o :: oP (some (l,a)) :: t⟩ := fun o t => zgi (r := some (l,a)) rfl
 cases c : zky (l,some a)
 · rw [zpb c] at hg
   rw [c] at eM
   subst hg
   (refine Todo.of ?_); (repeat' (first | ((with_reducible refine Todo.to ?_); (repeat (simp only [↓rP,rT,rU,zc,dval,zg,zb,retV,retL,DR.val,fzT,fzVs,fzV,fz1,DV.immB,zi,alive,freezeAt,Nat.reduceEqDiff,↓reduceIte,reduceCtorEq,in_tk0,eM ]))) | ((with_reducible refine And.intro ?_ ?_); · omega) | fail))
   rfl
 rw [c] at eM
 have hto := zxb l (some a)
 have eO : ∀ o t,zsp [.agg [.ptr 1 1 0 0]] (o :: oP (some (l,a)) :: t) = ⟨True,.agg (cIn (oneQ (l,some a)).1),o :: oP (toP l (oneQ (l,some a)).2.2) :: t⟩ := fun o t => by
   rw [z17 (r := some (l,a)) rfl,eq_true hok,← hto.1,← hto.2.1]; rfl
 have hin := z80 hokq
 have hgo : ∀ a',(oneQ (l,some a)).2.2 = some a' → a < a' := fun a' => z8i
 have hfst : (oneQ (l,some a)).2.1 = l := hto.2.2
 have hbad := zx5 (f := f) (acc := acc) c
 have hgg := zxc (f := f) (acc := acc) c
 rw [hg] at hbad hgg
 clear hto
 generalize oneQ (l,some a) = O at eO hin hgo hfst hbad hgg
 obtain ⟨x,l',s'⟩ := O
 simp only at hfst hin hgo hbad hgg eO
 subst hfst
 have er := zi1 x
 have len6 : ((acc.length : Int) == 6000) = (acc.length == 6000) := by
   rw [Bool.eq_iff_iff]; simp; omega
 have eK : ∀ o t,s_Ok [.ptr 1 1 0 0] (o :: oP (toP l' s') :: t) = ⟨True,.bool s'.isSome,o :: oP (toP l' s') :: t⟩ := fun o t => by
   rw [zf6 (r := toP l' s') rfl]; cases s' <;> rfl
 rcases s' with _ | a'
 · have e := hbad (by simp)
   subst e
   simp only [Option.isSome_none] at eK
   (refine Todo.of ?_); (repeat' (first | ((with_reducible refine Todo.to ?_); (repeat (simp only [↓rP,rT,rU,zc,dval,dUn,zg,zb,retV,retL,DR.val,fzT,fzVs,fzV,fz1,DV.immB,zo,DV.one,alive,cellsOf,zf,Nat.reduceEqDiff,Nat.reduceAdd,↓reduceIte,reduceCtorEq,Nat.reduceLeDiff,forall_const,eM,eO,eK ])))))
   all_goals rfl
 have h1 := hgo a' rfl
 have h2 : a' ≤ l'.length := hin.1
 simp only [Option.isSome_some] at eK
 cases r : zaw x
 · have e := hbad (by simp [r])
   subst e
   rw [r] at er
   (refine Todo.of ?_); (repeat' (first | ((with_reducible refine Todo.to ?_); (repeat (simp only [↓rP,rT,rU,zc,dval,dUn,zg,zb,retV,retL,DR.val,fzT,fzVs,fzV,fz1,DV.immB,zp,zq,z1,zz,za4,zu,z6,zo,DV.one,alive,cellsOf,zf,Nat.reduceEqDiff,Nat.reduceAdd,↓reduceIte,reduceCtorEq,Nat.reduceLeDiff,forall_const,eM,eO,eK,er ])))))
   all_goals rfl
 cases k6 : (acc.length == 6000)
 rotate_left
 · have e := hbad (by simp [r,k6])
   subst e
   rw [r] at er
   rw [k6] at len6
   (refine Todo.of ?_); (repeat' (first | ((with_reducible refine Todo.to ?_); (repeat (simp only [↓rP,rT,rU,zc,dval,dBin,dInt,dUn,zg,zb,retV,retL,DR.val,fzT,fzVs,fzV,fz1,DV.immB,zp,zq,z1,zz,za4,zu,z6,zo,DV.one,alive,cellsOf,zf,Nat.reduceEqDiff,Nat.reduceAdd,↓reduceIte,reduceCtorEq,Nat.reduceLeDiff,forall_const,eM,eO,eK,er,len6 ])))))
   all_goals rfl
 have e := hgg (by simp [r,k6])
 rw [r] at er
 rw [k6] at len6
 (have hcondQ := Bool.and_self; refine Todo.of ?_); (repeat' (first | ((with_reducible refine Todo.to ?_); (repeat (simp only [↓rP,rT,rU,zc,dval,dBin,dInt,dUn,zg,zb,fz1,DV.immB,zp,zq,z1,zz,za4,zu,z6,zi,zao,zo,DV.one,alive,fzLL,fzL,bRow,bU,cellsOf,zf,DV.isU,zal,Nat.reduceEqDiff,Nat.reduceAdd,↓reduceIte,reduceCtorEq,Nat.reduceLeDiff,forall_const,eM,eO,eK,er,len6,yao,hcondQ]))) | ((with_reducible refine And.intro ?_ ?_); · omega) | fail))
 all_goals first | omega | exact ⟨(f,a',acc ++ [x]),by simp only [zk,List.map_cons,List.map_nil,zd,Nk.get_nil,Nat.reduceEqDiff,↓reduceIte,Nat.succ_ne_self,DV.cut,DV.inB,DObj.cut,List.take_zero,reduceCtorEq,decide_true,Nat.reduceLT,List.take_succ_cons,List.length_append,List.length_cons,List.length_nil,Nat.zero_add,oP,toP,Option.map_some] <;> rfl,⟨h2,by simp only; omega,e.symm,by simp only [List.length_append,List.length_cons,List.length_nil]; omega⟩,by simp only; omega⟩
end Go.Proofs.YtfaailjhioobhaaGreat
set_option linter.all false
set_option maxRecDepth 20000
namespace Go.Proofs.YtfaailjhioobhaaGreat
open Go.Nk
def AtB (l : List UInt8) (a : Nat) (c : List UInt8) : Prop := ∃ pre post,l = pre ++ (c ++ post) ∧ a = pre.length
theorem AtB.app {l : List UInt8} {a : Nat} {c d : List UInt8} (h : AtB l a (c ++ d)) : AtB l a c ∧ AtB l (a + c.length) d := by
 obtain ⟨pre,post,rfl,rfl⟩ := h
 exact ⟨⟨pre,d ++ post,by simp,rfl⟩,⟨pre ++ c,post,by simp,by simp⟩⟩
theorem AtB.join {l : List UInt8} {a : Nat} {c d : List UInt8} (h : AtB l a c) (k : AtB l (a + c.length) d) : AtB l a (c ++ d) := by
 obtain ⟨pre,post,rfl,rfl⟩ := h
 obtain ⟨p2,q2,h1,h2⟩ := k
 rw [← List.append_assoc] at h1
 have h3 : pre ++ c = p2 ∧ post = d ++ q2 := List.append_inj h1 (by simp; omega)
 exact ⟨pre,q2,by rw [h3.2]; simp,rfl⟩
theorem AtB.drop {l : List UInt8} {a : Nat} {d : List UInt8} (h : AtB l a d) : l.drop a = d ++ l.drop (a + d.length) := by
 obtain ⟨pre,post,rfl,rfl⟩ := h
 rw [List.drop_left,← List.append_assoc,← List.length_append,List.drop_left]
theorem zix {l : List UInt8} {a : Nat} {k z : Int} (h : AtB l a (putL k.toNat z.toNat)) (hz : z = 1 ∨ z = 2) (hk : 0 ≤ k ∧ k < 256 ^ z.toNat) : numV (some (l,a)) z = k ∧ z9 (some (l,a)) (szN z) = some (l,a + z.toNat) := by
 obtain ⟨pre,post,rfl,rfl⟩ := h
 refine zyc pre post (by omega) (by omega) (by omega) ?_
 have := hk.2
 push_cast
 omega
theorem at_int {l : List UInt8} {a : Nat} {x : Int} (h : AtB l a (intL x)) (hx : zbd x) : intV (some (l,a)) = x ∧ intS (some (l,a)) = some (l,a + (intL x).length) := by
 obtain ⟨pre,post,rfl,rfl⟩ := h
 have := int_back pre post hx
 unfold intL
 rw [List.append_assoc]
 refine ⟨this.1,this.2.trans ?_⟩
 rw [List.length_append,ze,Nat.add_assoc]
theorem zri {x : In4} (h : zaw x = true) : (x.op = 1 ∧ zaj x = putL 1 1 ++ (putL x.a.toNat 2 ++ intL x.n)) ∨ ((x.op = 2 ∨ x.op = 3 ∨ x.op = 6 ∨ x.op = 7) ∧ zaj x = putL x.op.toNat 1 ++ putL x.a.toNat 2) ∨
   ((x.op = 4 ∨ x.op = 5) ∧ zaj x = putL x.op.toNat 1 ++ putL x.a.toNat 1) ∨ ((x.op = 8 ∨ x.op = 9) ∧ zaj x = putL x.op.toNat 1 ++ (putL x.a.toNat 2 ++ putL x.b.toNat 1)) ∨ (x.op = 10 ∧ zaj x = putL x.op.toNat 1) := by
 have ho := zse h
 obtain ⟨op,a,b,n⟩ := x
 simp only at ho ⊢
 unfold okOp at ho
 rcases ho with rfl | rfl | rfl | rfl | rfl | rfl | rfl | rfl | rfl | rfl <;> simp [zaj,fmI]
theorem one_back {l : List UInt8} {a : Nat} {x : In4} (h : AtB l a (zaj x)) (hr : zaw x = true) (hn : zbd x.n) : oneI (some (l,a)) = (x,some (l,a + (zaj x).length)) := by
 have rng := zpj hr
 have hk := zri hr
 obtain ⟨op,aa,b,n⟩ := x
 simp only at hk rng hn
 rcases hk with ⟨rfl,e⟩ | ⟨ho,e⟩ | ⟨ho,e⟩ | ⟨ho,e⟩ | ⟨rfl,e⟩ <;> rw [e] at h ⊢
 · obtain ⟨h1,h2⟩ := h.app
   obtain ⟨h2,h3⟩ := h2.app
   have n1 := zix (k := 1) (z := 1) h1 (.inl rfl) (by decide)
   rw [ze] at h2 h3
   have n2 := zix (k := aa) (z := 2) h2 (.inr rfl) (by simpa using rng.2.1 rfl)
   rw [ze] at h3
   have n3 := at_int h3 hn
   have hb : b = 0 := by simp [zaw,fmI,zgh] at hr; omega
   simp only [Int.toNat_one,Int.reduceToNat] at n1 n2
   simp only [oneI,n1.1,n1.2,n2.1,n2.2,n3.1,n3.2,fmI,↓reduceIte,Bool.false_eq_true,hb,List.length_append,ze,Nat.add_assoc]
 · obtain ⟨h1,h2⟩ := h.app
   have n1 := zix (k := op) (z := 1) h1 (.inl rfl) (by simpa using rng.1)
   rw [ze] at h2
   have hw : (fmI op).w = true ∧ (fmI op).s = false ∧ (fmI op).b = false ∧ (fmI op).n = false := by rcases ho with rfl | rfl | rfl | rfl <;> decide
   have hz : b = 0 ∧ n = 0 := by rcases ho with rfl | rfl | rfl | rfl <;> (simp [zaw,fmI,zgh] at hr; omega)
   have n2 := zix (k := aa) (z := 2) h2 (.inr rfl) (by simpa using rng.2.1 hw.1)
   simp only [Int.toNat_one,Int.reduceToNat] at n1 n2
   simp only [oneI,n1.1,n1.2,n2.1,n2.2,hw.1,hw.2.1,hw.2.2.1,hw.2.2.2,↓reduceIte,Bool.false_eq_true,hz.1,hz.2,List.length_append,ze,Nat.add_assoc]
 · obtain ⟨h1,h2⟩ := h.app
   have n1 := zix (k := op) (z := 1) h1 (.inl rfl) (by simpa using rng.1)
   rw [ze] at h2
   have hw : (fmI op).w = false ∧ (fmI op).s = true ∧ (fmI op).b = false ∧ (fmI op).n = false := by rcases ho with rfl | rfl <;> decide
   have hz : b = 0 ∧ n = 0 := by rcases ho with rfl | rfl <;> (simp [zaw,fmI,zgh] at hr; omega)
   have n2 := zix (k := aa) (z := 1) h2 (.inl rfl) (by simpa using rng.2.2.1 hw.2.1)
   simp only [Int.toNat_one] at n1 n2
   simp only [oneI,n1.1,n1.2,n2.1,n2.2,hw.1,hw.2.1,hw.2.2.1,hw.2.2.2,↓reduceIte,Bool.false_eq_true,hz.1,hz.2,List.length_append,ze,Nat.add_assoc]
 · obtain ⟨h1,h2⟩ := h.app
   obtain ⟨h2,h3⟩ := h2.app
   have n1 := zix (k := op) (z := 1) h1 (.inl rfl) (by simpa using rng.1)
   rw [ze] at h2 h3
   have hw : (fmI op).w = true ∧ (fmI op).s = false ∧ (fmI op).b = true ∧ (fmI op).n = false := by rcases ho with rfl | rfl <;> decide
   have hz : n = 0 := by rcases ho with rfl | rfl <;> (simp [zaw,fmI,zgh] at hr; omega)
   have n2 := zix (k := aa) (z := 2) h2 (.inr rfl) (by simpa using rng.2.1 hw.1)
   rw [ze] at h3
   have n3 := zix (k := b) (z := 1) h3 (.inl rfl) (by simpa using rng.2.2.2 hw.2.2.1)
   simp only [Int.toNat_one,Int.reduceToNat] at n1 n2 n3
   simp only [oneI,n1.1,n1.2,n2.1,n2.2,n3.1,n3.2,hw.1,hw.2.1,hw.2.2.1,hw.2.2.2,↓reduceIte,Bool.false_eq_true,hz,List.length_append,ze,Nat.add_assoc]
 · have n1 := zix (k := 10) (z := 1) h (.inl rfl) (by decide)
   have hz : aa = 0 ∧ b = 0 ∧ n = 0 := by simp [zaw,fmI,zgh] at hr; omega
   simp only [Int.toNat_one] at n1
   simp only [oneI,n1.1,n1.2,fmI,↓reduceIte,Int.reduceEq,Bool.false_eq_true,hz.1,hz.2.1,hz.2.2,ze]
theorem ztx {l : List UInt8} {a a' : Nat} {k : Int} (h : (nxt l (some a) k).2 = some a') : 0 ≤ k ∧ a' = a + k.toNat ∧ a' ≤ l.length ∧ (nxt l (some a) k).1 = some ((l.take a').drop a) := by
 simp only [nxt] at h ⊢
 split at h
 · rename_i c
   injection h with h
   rw [if_pos c]
   exact ⟨c.1,h.symm,by omega,by rw [h]⟩
 · cases h
theorem ztq {l : List UInt8} {a a' : Nat} (h : a ≤ a') (h2 : a' ≤ l.length) : AtB l a ((l.take a').drop a) := by
 refine ⟨l.take a,l.drop a',?_,by rw [List.length_take]; omega⟩
 have e1 : l.take a ++ (l.take a').drop a = l.take a' := by
   have := List.take_append_drop a (l.take a')
   rw [List.take_take,Nat.min_eq_left h] at this
   exact this
 rw [← List.append_assoc,e1,List.take_append_drop]
theorem zem {l : List UInt8} {a a' : Nat} {z : Int} (hz : z = 1 ∨ z = 2) (h : z9 (some (l,a)) (szN z) = some (l,a')) :
   a' = a + z.toNat ∧ a' ≤ l.length ∧ AtB l a (putL (numV (some (l,a)) z).toNat z.toNat) ∧ 0 ≤ numV (some (l,a)) z := by
 have hs : szN z = z := by rcases hz with rfl | rfl <;> decide
 rw [hs] at h
 have h2 : (nxt l (some a) z).2 = some a' := by
   unfold z9 toP at h
   cases q : (nxt l (some a) z).2 with
   | none => simp [q] at h
   | some b => simp [q] at h; rw [h]
 obtain ⟨h3,h4,h5,h6⟩ := ztx h2
 have hc : ((l.take a').drop a).length = z.toNat := by rw [List.length_drop,List.length_take]; omega
 have h8 : z.toNat ≤ 8 := by rcases hz with rfl | rfl <;> decide
 have hlt := zlc ((l.take a').drop a) (by omega)
 rw [hc] at hlt
 have hv : numV (some (l,a)) z = (getF ((l.take a').drop a) : Int) := by
   unfold numV zb1
   rw [hs]
   simp only [h6,Option.getD_some]
   rw [zt]
   have : 256 ^ z.toNat ≤ 65536 := by rcases hz with rfl | rfl <;> decide
   omega
 refine ⟨h4,h5,?_,by rw [hv]; omega⟩
 rw [hv,Int.toNat_natCast]
 have := zo7 ((l.take a').drop a) (by omega)
 rw [hc] at this
 rw [this]
 exact ztq (by omega) h5
theorem int_inv {l : List UInt8} {a a' : Nat} (h : intS (some (l,a)) = some (l,a')) : a' = a + (intL (intV (some (l,a)))).length ∧ a' ≤ l.length ∧ AtB l a (intL (intV (some (l,a)))) ∧ zbd (intV (some (l,a))) := by
 unfold intS at h
 cases hr : rawV (some (l,a)) 1 with
 | none => simp [hr] at h
 | some c =>
   simp only [hr] at h
   cases hb : bad c
   rotate_left
   · simp [hb] at h
   simp only [hb,Bool.false_eq_true,↓reduceIte] at h
   have hv : intV (some (l,a)) = sgn c := by unfold intV; simp only [hr,hb,Bool.false_eq_true,↓reduceIte]
   obtain ⟨e1,e2,e3⟩ := z33 c hb
   rw [hv]
   unfold intL
   rw [e1]
   unfold rawS at h
   unfold rawV at hr
   cases h1 : z9 (some (l,a)) (szN 1) with
   | none => rw [h1] at h; cases h
   | some q =>
     have hq : q.1 = l := by
       unfold z9 toP at h1
       cases w : (nxt l (some a) (szN 1)).2 with
       | none => simp [w] at h1
       | some d => simp [w] at h1; rw [← h1]
     obtain ⟨ql,b⟩ := q
     simp only at hq
     subst hq
     obtain ⟨n1,n2,n3,n4⟩ := zem (.inl rfl) h1
     rw [h1] at h hr
     generalize numV (some (ql,a)) 1 = k at h hr n3 n4
     have h2 : (nxt ql (some b) k).2 = some a' := by
       unfold z9 toP at h
       cases w : (nxt ql (some b) k).2 with
       | none => simp [w] at h
       | some d => simp [w] at h; rw [h]
     obtain ⟨m1,m2,m3,m4⟩ := ztx h2
     have hc : c = (ql.take a').drop b := by
       have : zb1 (some (ql,b)) k = some c := hr
       unfold zb1 at this
       simp only [m4,Option.some.injEq] at this
       exact this.symm
     have hlen : c.length = k.toNat := by rw [hc,List.length_drop,List.length_take]; omega
     have g : AtB ql b c := by rw [hc]; exact ztq (by omega) m3
     have h1n : (1 : Int).toNat = 1 := rfl
     rw [h1n] at n1 n3
     rw [hlen]
     refine ⟨by rw [List.length_append,ze,hlen]; omega,m3,n3.join ?_,e2,e3⟩
     rw [ze,← n1]
     exact g
theorem zij {l : List UInt8} {a : Nat} {k : Int} {q : List UInt8 × Nat} (h : z9 (some (l,a)) k = some q) : ∃ b,q = (l,b) := by
 unfold z9 toP at h
 cases w : (nxt l (some a) k).2 with
 | none => simp [w] at h
 | some d => simp [w] at h; exact ⟨d,h.symm⟩
theorem one_inv {l : List UInt8} {a a' : Nat} {x : In4} (h : oneI (some (l,a)) = (x,some (l,a'))) (hr : zaw x = true) : a' = a + (zaj x).length ∧ a' ≤ l.length ∧ AtB l a (zaj x) ∧ ok64 x := by
 have rng := zpj hr
 have hk := zri hr
 have h1n : (1 : Int).toNat = 1 := rfl
 have h2n : (2 : Int).toNat = 2 := rfl
 unfold oneI at h
 dsimp only at h
 rw [Prod.mk.injEq] at h
 obtain ⟨hx,hs⟩ := h
 have hop : x.op = numV (some (l,a)) 1 := by rw [← hx]
 rw [← hop] at hx hs
 generalize hr1 : z9 (some (l,a)) (szN 1) = r1 at hx hs
 have g1 : r1 = none ∨ ∃ b,r1 = some (l,b) := by
   cases r1 with
   | none => exact .inl rfl
   | some q => obtain ⟨b,rfl⟩ := zij hr1; exact .inr ⟨b,rfl⟩
 rcases hk with ⟨ho,e⟩ | ⟨ho,e⟩ | ⟨ho,e⟩ | ⟨ho,e⟩ | ⟨ho,e⟩ <;> rw [e]
 · have hw : (fmI x.op).w = true ∧ (fmI x.op).s = false ∧ (fmI x.op).b = false ∧ (fmI x.op).n = true := by rw [ho]; decide
   simp only [hw.1,hw.2.1,hw.2.2.1,hw.2.2.2,↓reduceIte,Bool.false_eq_true] at hx hs
   rcases g1 with rfl | ⟨b,rfl⟩
   · cases hs
   obtain ⟨n1,n2,n3,n4⟩ := zem (.inl rfl) hr1
   generalize hr2 : z9 (some (l,b)) (szN 2) = r2 at hx hs
   cases r2 with
   | none => cases hs
   | some q =>
     obtain ⟨c,rfl⟩ := zij hr2
     obtain ⟨m1,m2,m3,m4⟩ := zem (.inr rfl) hr2
     obtain ⟨k1,k2,k3,k4⟩ := int_inv hs
     have ea : x.a = numV (some (l,b)) 2 := by rw [← hx]
     have en : x.n = intV (some (l,c)) := by rw [← hx]
     have eb : x.b = 0 := by rw [← hx]
     rw [← hop,ho] at n3
     rw [← ea] at m3
     rw [← en] at k1 k3 k4
     rw [h1n] at n1 n3
     rw [h2n] at m1 m3
     have ra := rng.2.1 hw.1
     refine ⟨by simp only [List.length_append,ze]; omega,k2,n3.join (by rw [ze,← n1]; exact m3.join (by rw [ze,← m1]; exact k3)),⟨by unfold zbd; omega,by unfold zbd; omega,k4⟩⟩
 · have hw : (fmI x.op).w = true ∧ (fmI x.op).s = false ∧ (fmI x.op).b = false ∧ (fmI x.op).n = false := by rcases ho with ho | ho | ho | ho <;> rw [ho] <;> decide
   simp only [hw.1,hw.2.1,hw.2.2.1,hw.2.2.2,↓reduceIte,Bool.false_eq_true] at hx hs
   rcases g1 with rfl | ⟨b,rfl⟩
   · cases hs
   obtain ⟨n1,n2,n3,n4⟩ := zem (.inl rfl) hr1
   obtain ⟨m1,m2,m3,m4⟩ := zem (.inr rfl) hs
   have ea : x.a = numV (some (l,b)) 2 := by rw [← hx]
   have en : x.n = 0 := by rw [← hx]
   have eb : x.b = 0 := by rw [← hx]
   rw [← hop] at n3
   rw [← ea] at m3
   rw [h1n] at n1 n3
   rw [h2n] at m1 m3
   have ra := rng.2.1 hw.1
   exact ⟨by simp only [List.length_append,ze]; omega,m2,n3.join (by rw [ze,← n1]; exact m3),⟨by unfold zbd; omega,by unfold zbd; omega,by unfold zbd; omega⟩⟩
 · have hw : (fmI x.op).w = false ∧ (fmI x.op).s = true ∧ (fmI x.op).b = false ∧ (fmI x.op).n = false := by rcases ho with ho | ho <;> rw [ho] <;> decide
   simp only [hw.1,hw.2.1,hw.2.2.1,hw.2.2.2,↓reduceIte,Bool.false_eq_true] at hx hs
   rcases g1 with rfl | ⟨b,rfl⟩
   · cases hs
   obtain ⟨n1,n2,n3,n4⟩ := zem (.inl rfl) hr1
   obtain ⟨m1,m2,m3,m4⟩ := zem (.inl rfl) hs
   have ea : x.a = numV (some (l,b)) 1 := by rw [← hx]
   have en : x.n = 0 := by rw [← hx]
   have eb : x.b = 0 := by rw [← hx]
   rw [← hop] at n3
   rw [← ea] at m3
   rw [h1n] at n1 n3 m1 m3
   have ra := rng.2.2.1 hw.2.1
   exact ⟨by simp only [List.length_append,ze]; omega,m2,n3.join (by rw [ze,← n1]; exact m3),⟨by unfold zbd; omega,by unfold zbd; omega,by unfold zbd; omega⟩⟩
 · have hw : (fmI x.op).w = true ∧ (fmI x.op).s = false ∧ (fmI x.op).b = true ∧ (fmI x.op).n = false := by rcases ho with ho | ho <;> rw [ho] <;> decide
   simp only [hw.1,hw.2.1,hw.2.2.1,hw.2.2.2,↓reduceIte,Bool.false_eq_true] at hx hs
   rcases g1 with rfl | ⟨b,rfl⟩
   · cases hs
   obtain ⟨n1,n2,n3,n4⟩ := zem (.inl rfl) hr1
   generalize hr2 : z9 (some (l,b)) (szN 2) = r2 at hx hs
   cases r2 with
   | none => cases hs
   | some q =>
     obtain ⟨c,rfl⟩ := zij hr2
     obtain ⟨m1,m2,m3,m4⟩ := zem (.inr rfl) hr2
     obtain ⟨k1,k2,k3,k4⟩ := zem (.inl rfl) hs
     have ea : x.a = numV (some (l,b)) 2 := by rw [← hx]
     have en : x.n = 0 := by rw [← hx]
     have eb : x.b = numV (some (l,c)) 1 := by rw [← hx]
     rw [← hop] at n3
     rw [← ea] at m3
     rw [← eb] at k3
     rw [h1n] at n1 n3 k1 k3
     rw [h2n] at m1 m3
     have ra := rng.2.1 hw.1
     have rb := rng.2.2.2 hw.2.2.1
     exact ⟨by simp only [List.length_append,ze]; omega,k2,n3.join (by rw [ze,← n1]; exact m3.join (by rw [ze,← m1]; exact k3)),⟨by unfold zbd; omega,by unfold zbd; omega,by unfold zbd; omega⟩⟩
 · have hw : (fmI x.op).w = false ∧ (fmI x.op).s = false ∧ (fmI x.op).b = false ∧ (fmI x.op).n = false := by rw [ho]; decide
   simp only [hw.1,hw.2.1,hw.2.2.1,hw.2.2.2,↓reduceIte,Bool.false_eq_true] at hx hs
   subst hs
   obtain ⟨n1,n2,n3,n4⟩ := zem (.inl rfl) hr1
   have ea : x.a = 0 := by rw [← hx]
   have en : x.n = 0 := by rw [← hx]
   have eb : x.b = 0 := by rw [← hx]
   rw [← hop] at n3
   rw [h1n] at n1 n3
   exact ⟨by simp only [ze]; omega,n2,n3,⟨by unfold zbd; omega,by unfold zbd; omega,by unfold zbd; omega⟩⟩
theorem z0r {c : List UInt8} : ∀ (l : List In4) (a f : Nat) (acc : List In4),AtB c a (l.flatMap zaj) → a + (l.flatMap zaj).length = c.length → l.length < f → (∀ x ∈ l,zaw x = true ∧ zbd x.n) → acc.length + l.length ≤ 6000 →
   getL f c (some a) acc = some (acc ++ l)
 | [],a,f,acc,_,he,hf,_,_ => by
   obtain ⟨f,rfl⟩ : ∃ f',f = f' + 1 := ⟨f - 1,by simp at hf; omega⟩
   rw [zpb (by simp only [zky]; simp at he ⊢; omega),List.append_nil]
 | x :: r,a,f,acc,h,he,hf,hx,h6 => by
   obtain ⟨f,rfl⟩ : ∃ f',f = f' + 1 := ⟨f - 1,by simp at hf; omega⟩
   rw [List.flatMap_cons] at h he
   obtain ⟨g1,g2⟩ := h.app
   obtain ⟨hr,hn⟩ := hx x List.mem_cons_self
   have hb := one_back g1 hr hn
   have hto := zxb c (some a)
   have hto1 : (oneQ (c,some a)).1 = x := by rw [← hto.1]; exact congrArg Prod.fst hb
   have hto2 : (oneQ (c,some a)).2.2 = some (a + (zaj x).length) := by
     have h1 : toP c (oneQ (c,some a)).2.2 = some (c,a + (zaj x).length) := by rw [← hto.2.1]; exact congrArg Prod.snd hb
     unfold toP at h1
     cases w : (oneQ (c,some a)).2.2 with
     | none => rw [w] at h1; cases h1
     | some d => rw [w] at h1; simp at h1; rw [h1]
   have hbl := zw1 x
   simp only [List.length_cons] at hf h6
   rw [List.length_append] at he
   rw [zxc (by simp only [zky]; simp; omega) (by rw [hto1,hto2,hr]; simp; omega),hto1,hto2,
     z0r r _ f _ g2 (by omega) (by omega) (fun y hy => hx y (List.mem_cons_of_mem _ hy)) (by simp only [List.length_append,List.length_cons,List.length_nil]; omega)]
   simp
theorem put_get {l : List In4} {c : List UInt8} (h : putI l = some c) (hx : ∀ x ∈ l,ok64 x) : getI c = some l := by
 unfold putI at h
 split at h
 · rename_i hc
   injection h with h
   simp only [Bool.and_eq_true,List.all_eq_true,decide_eq_true_eq] at hc
   have hl := (zlm l).2
   subst h
   unfold getI
   rw [z0r l 0 _ [] ⟨[],[],by simp,rfl⟩ (by omega) (by omega) (fun x hy => ⟨hc.1 x hy,(hx x hy).n⟩) (by simpa using hc.2)]
   rfl
 · cases h
theorem z4v {c : List UInt8} : ∀ (f a : Nat) (acc m : List In4),a ≤ c.length → getL f c (some a) acc = some m → acc.length ≤ 6000 →
   ∃ l,m = acc ++ l ∧ c.drop a = l.flatMap zaj ∧ (∀ x ∈ l,zaw x = true ∧ ok64 x) ∧ m.length ≤ 6000
 | 0,a,acc,m,_,h,_ => by cases h
 | f + 1,a,acc,m,ha,h,h6 => by
   cases q : zky (c,some a)
   · rw [zpb q] at h
     injection h with h
     subst h
     simp only [zky,decide_eq_false_iff_not] at q
     exact ⟨[],by simp,by rw [List.drop_of_length_le (by omega)]; rfl,by simp,h6⟩
   cases q2 : ((oneQ (c,some a)).2.2.isSome && zaw (oneQ (c,some a)).1 && !(acc.length == 6000))
   · rw [zx5 q q2] at h; cases h
   rw [zxc q q2] at h
   simp only [Bool.and_eq_true,Bool.not_eq_true',beq_eq_false_iff_ne] at q2
   obtain ⟨⟨q3,q4⟩,q5⟩ := q2
   have hto := zxb c (some a)
   cases w : (oneQ (c,some a)).2.2 with
   | none => rw [w] at q3; cases q3
   | some a' =>
     rw [w] at h hto
     have hv : oneI (some (c,a)) = ((oneQ (c,some a)).1,some (c,a')) := Prod.ext hto.1 hto.2.1
     obtain ⟨k1,k2,k3,k4⟩ := one_inv hv q4
     obtain ⟨l,e1,e2,e3,e4⟩ := z4v f a' _ m k2 h (by simp only [List.length_append,List.length_cons,List.length_nil]; omega)
     refine ⟨(oneQ (c,some a)).1 :: l,by rw [e1]; simp,?_,fun x hx => ?_,e4⟩
     · rw [List.flatMap_cons,← e2,k1]
       exact k3.drop
     · rcases List.mem_cons.1 hx with rfl | hx
       · exact ⟨q4,k4⟩
       · exact e3 x hx
theorem zhq {c : List UInt8} {m : List In4} (h : getI c = some m) : putI m = some c ∧ (∀ x ∈ m,ok64 x) ∧ m.length ≤ 6000 := by
 obtain ⟨l,e1,e2,e3,e4⟩ := z4v _ 0 [] m (Nat.zero_le _) h (by decide)
 simp only [List.nil_append] at e1
 subst e1
 rw [List.drop_zero] at e2
 refine ⟨?_,fun x hx => (e3 x hx).2,e4⟩
 unfold putI
 rw [if_pos (by simp only [Bool.and_eq_true,List.all_eq_true,decide_eq_true_eq]; exact ⟨fun x hx => (e3 x hx).1,e4⟩),e2]
end Go.Proofs.YtfaailjhioobhaaGreat
