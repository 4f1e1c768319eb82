/- The operators: what each function tells. -/
import Derived.Test.YtjgefhgkinocmaaGreatFns
set_option linter.all false
set_option maxRecDepth 20000
namespace Go.Proofs.YtjgefhgkinocmaaGreat
open Go.Nk
def tr (b : Bool) : Int := if b then 1 else 0
def in64 (x : Int) : Prop := -9223372036854775808 <= x /\ x < 9223372036854775808
theorem w64_eq (x : Int) : IntKind.i64.wrap x = (x + 9223372036854775808) % 18446744073709551616 - 9223372036854775808 := IntKind.wrap_i64 x
theorem w64_id {x : Int} (h : in64 x) : IntKind.i64.wrap x = x := by unfold in64 at h; rw [IntKind.wrap_i64]; omega
theorem z2h (x : Int) : in64 (IntKind.i64.wrap x) := by unfold in64; rw [IntKind.wrap_i64]; omega
theorem zt1 {x y : Int} (h : x % 18446744073709551616 = y % 18446744073709551616) : IntKind.i64.wrap x = IntKind.i64.wrap y := by rw [IntKind.wrap_i64,IntKind.wrap_i64]; omega
theorem w64_mod (x : Int) : IntKind.i64.wrap x % 18446744073709551616 = x % 18446744073709551616 := by rw [IntKind.wrap_i64]; omega
def zrt (b : Bool) : Prop × DV := (True,.int .i64 (tr b))
noncomputable def zmu : List DV -> Prop × DV := zbp eB zrt
theorem zk9 (b : Bool) : zmu [.bool b] = zrt b := z8 inj_B _ _
theorem zll : OkP Tryz.prog 149 zmu := by
 refine OkP.mk1 (ps := []) (hs := []) trivial trivial z1p fun b _ => ?_
 cases b <;> simp only [↓sqP,sqT,zm9,eB,↓zab,zb,dval,↓reduceIte,retV,DR.val,fzT,fzV,fz1,DV.immB,Bool.false_eq_true,reduceCtorEq,zrt,tr]
theorem zr8 : OkP Tryz.prog 113 zmu := by
 refine OkP.mk1 (ps := []) (hs := []) trivial trivial zn7 fun b _ => ?_
 cases b <;> simp only [↓sqP,sqT,zhm,eB,↓zab,zb,dval,↓reduceIte,retV,DR.val,fzT,fzV,fz1,DV.immB,Bool.false_eq_true,reduceCtorEq,zrt,tr]
def unF (op a : Int) : Int × Int := if op = 1 then (IntKind.i64.wrap (0 - a),0) else if op = 2 then (tr (a == 0),0) else (0,1)
def fUn (op a : Int) : Prop × DV := (True,.tup [.int .i64 (unF op a).1,.int .i64 (unF op a).2])
noncomputable def s_Un : List DV -> Prop × DV := zbw eI eI fUn
theorem ycv (op a : Int) : s_Un [.int .i64 op,.int .i64 a] = fUn op a := zac zcr zcr _ _ _
theorem z6u : OkP Tryz.prog 147 s_Un := by
 refine OkP.mk2 (ps := [(149,zmu)]) (hs := []) ⟨zll,trivial⟩ trivial yce fun op a _ => ?_
 by_cases h1 : op = 1
 . subst h1
   simp only [↓sqP,sqT,zk6,eI,↓zab,zb,dval,Nat.reduceEqDiff,↓reduceIte,dBin,dInt,dUn,retV,retL,DR.val,fzT,fzVs,fzV,fz1,DV.immB,reduceCtorEq,IntKind.wrap_i64,beq_self_eq_true,fUn,unF]
 by_cases h2 : op = 2
 . have e1 : (op == 1) = false := by simp [h1]
   subst h2
   simp only [↓sqP,sqT,zk6,eI,↓zab,zb,dval,Nat.reduceEqDiff,↓reduceIte,dBin,dInt,retV,retL,DR.val,fzT,fzVs,fzV,fz1,DV.immB,List.map_cons,List.map_nil,Bool.false_eq_true,reduceCtorEq,ze,zf,zp,zo,zi,zq,beq_self_eq_true,Int.reduceBEq,Int.reduceEq,fUn,unF,zk9,zrt]
 . have e1 : (op == 1) = false := by simp [h1]
   have e2 : (op == 2) = false := by simp [h2]
   simp only [↓sqP,sqT,zk6,eI,↓zab,zb,dval,Nat.reduceEqDiff,↓reduceIte,dBin,dInt,retV,retL,DR.val,fzT,fzVs,fzV,fz1,DV.immB,Bool.false_eq_true,reduceCtorEq,e1,e2,fUn,unF,h1,h2]
theorem ygs : OkP Tryz.prog 84 s_Un := by
 refine OkP.mk2 (ps := [(113,zmu)]) (hs := []) ⟨zr8,trivial⟩ trivial zwy fun op a _ => ?_
 by_cases h1 : op = 1
 . subst h1
   simp only [↓sqP,sqT,zer,eI,↓zab,zb,dval,Nat.reduceEqDiff,↓reduceIte,dBin,dInt,retV,retL,DR.val,fzT,fzVs,fzV,fz1,DV.immB,reduceCtorEq,IntKind.wrap_u64,IntKind.wrap_i64,beq_self_eq_true,List.cons.injEq,fUn,unF]
   omega
 by_cases h2 : op = 2
 . have e1 : (op == 1) = false := by simp [h1]
   subst h2
   simp only [↓sqP,sqT,zer,eI,↓zab,zb,dval,Nat.reduceEqDiff,↓reduceIte,dBin,dInt,retV,retL,DR.val,fzT,fzVs,fzV,fz1,DV.immB,List.map_cons,List.map_nil,Bool.false_eq_true,reduceCtorEq,ze,zf,zp,zo,zi,zq,beq_self_eq_true,Int.reduceBEq,Int.reduceEq,fUn,unF,zk9,zrt]
 . have e1 : (op == 1) = false := by simp [h1]
   have e2 : (op == 2) = false := by simp [h2]
   simp only [↓sqP,sqT,zer,eI,↓zab,zb,dval,Nat.reduceEqDiff,↓reduceIte,dBin,dInt,retV,retL,DR.val,fzT,fzVs,fzV,fz1,DV.immB,Bool.false_eq_true,reduceCtorEq,e1,e2,fUn,unF,h1,h2]
def zkt (a b : Int) : Prop × DV := (in64 a /\ in64 b /\ b ≠ 0,.tup [.int .i64 (IntKind.i64.wrap (a.tdiv b)),.int .i64 (a.tmod b)])
noncomputable def zt7 : List DV -> Prop × DV := zbw eI eI zkt
theorem zsb (a b : Int) : zt7 [.int .i64 a,.int .i64 b] = zkt a b := zac zcr zcr _ _ _
theorem ztc : OkP Tryz.prog 152 zt7 := by
 refine OkP.mk2 (ps := []) (hs := []) trivial trivial zu7 fun a b h => ?_
 obtain ⟨ha,hb,h0⟩ := h
 by_cases h1 : b = -1
 . have e1 : (b == -1) = true := by simp [h1]
   simp only [↓sqP,sqT,zgj,eI,↓zab,zb,dval,Nat.reduceEqDiff,↓reduceIte,dBin,dInt,dUn,retV,retL,DR.val,fzT,fzVs,fzV,fz1,DV.immB,reduceCtorEq,IntKind.wrap_i64,beq_self_eq_true,Int.reduceNeg,ne_eq,List.cons.injEq,zkt,h1]
   simp [Int.tdiv_neg,Int.tmod_neg]
 . have e1 : (b == -1) = false := by simp [h1]
   simp only [↓sqP,sqT,zgj,eI,↓zab,zb,dval,Nat.reduceEqDiff,↓reduceIte,dBin,dInt,retV,retL,DR.val,fzT,fzVs,fzV,fz1,DV.immB,Bool.false_eq_true,reduceCtorEq,IntKind.wrap_i64,Int.reduceNeg,ne_eq,e1,zkt,h0,ne_eq]
def yaf (a : Int) : Prop × DV := (in64 a,.int .u64 a.natAbs)
noncomputable def yel : List DV -> Prop × DV := zbp eI yaf
theorem z3w (a : Int) : yel [.int .i64 a] = yaf a := z8 zcr _ _
theorem z7m : OkP Tryz.prog 131 yel := by
 refine OkP.mk1 (ps := []) (hs := []) trivial trivial zp8 fun a h => ?_
 have h' : -9223372036854775808 <= a /\ a < 9223372036854775808 := h
 by_cases h1 : a < 0
 . simp only [↓sqP,sqT,zfa,eI,↓zab,zb,dval,↓reduceIte,dBin,dInt,retV,DR.val,fzT,fzV,fz1,DV.immB,reduceCtorEq,IntKind.wrap_u64,yaf,h1]
   omega
 . simp only [↓sqP,sqT,zfa,eI,↓zab,zb,dval,↓reduceIte,dBin,dInt,retV,DR.val,fzT,fzV,fz1,DV.immB,Bool.false_eq_true,reduceCtorEq,IntKind.wrap_u64,yaf,h1]
   omega
theorem tdiv_abs (a b : Int) : a.tdiv b = (if decide (a < 0) == decide (b < 0) then ((a.natAbs / b.natAbs : Nat) : Int) else -((a.natAbs / b.natAbs : Nat) : Int)) := by
 have key : ∀ m n : Nat,(m : Int).tdiv n = ((m / n : Nat) : Int) := fun m n => by simp
 by_cases ha : a < 0 <;> by_cases hb : b < 0
 . have h1 : (a.natAbs : Int) = -a := by omega
   have h2 : (b.natAbs : Int) = -b := by omega
   simp only [ha,hb,decide_true,BEq.rfl,if_true]
   rw [<- key,h1,h2,Int.neg_tdiv_neg]
 . have h1 : a = -(a.natAbs : Int) := by omega
   have h2 : b = (b.natAbs : Int) := by omega
   simp only [ha,hb,decide_true,decide_false]
   simp only [show (true == false) = false from rfl,Bool.false_eq_true,if_false]
   rw [<- key,<- Int.neg_tdiv,<- h1,<- h2]
 . have h1 : a = (a.natAbs : Int) := by omega
   have h2 : b = -(b.natAbs : Int) := by omega
   simp only [ha,hb,decide_true,decide_false]
   simp only [show (false == true) = false from rfl,Bool.false_eq_true,if_false]
   rw [<- key,<- Int.tdiv_neg,<- h1,<- h2]
 . have h1 : a = (a.natAbs : Int) := by omega
   have h2 : b = (b.natAbs : Int) := by omega
   simp only [ha,hb,decide_false,BEq.rfl,if_true]
   rw [<- key,<- h1,<- h2]
def ycb (a b : Int) : Prop × DV := (in64 a /\ in64 b /\ b ≠ 0,.int .i64 (IntKind.i64.wrap (a.tdiv b)))
noncomputable def zpv : List DV -> Prop × DV := zbw eI eI ycb
theorem zn1 (a b : Int) : zpv [.int .i64 a,.int .i64 b] = ycb a b := zac zcr zcr _ _ _
theorem zt9 : OkP Tryz.prog 125 zpv := by
 refine OkP.mk2 (ps := [(131,yel)]) (hs := []) ⟨z7m,trivial⟩ trivial zko fun a b h => ?_
 obtain ⟨ha,hb,h0⟩ := h
 have hne : ((b.natAbs : Nat) : Int) ≠ 0 := by omega
 have hd : ((a.natAbs : Int).tdiv (b.natAbs : Int)) = ((a.natAbs / b.natAbs : Nat) : Int) := by simp
 have hle : a.natAbs / b.natAbs <= a.natAbs := Nat.div_le_self _ _
 have hle2 : a.natAbs / b.natAbs <= 9223372036854775808 := by unfold in64 at ha; omega
 have hq := tdiv_abs a b
 have hd' : (if decide (a < 0) == decide (b < 0) then ((a.natAbs / b.natAbs : Nat) : Int) else -((a.natAbs / b.natAbs : Nat) : Int)) = a.tdiv b := hq.symm
 cases c : (decide (a < 0) == decide (b < 0)) with
 | true =>
   rw [c] at hq
   simp only [↓sqP,sqT,zcz,eI,↓zab,zb,dval,Nat.reduceEqDiff,↓reduceIte,dBin,dInt,dBeq,retV,DR.val,fzT,fzV,fz1,DV.immB,List.map_cons,List.map_nil,Bool.false_eq_true,reduceCtorEq,IntKind.wrap_u64,IntKind.wrap_i64,ze,zf,zp,zo,zi,zq,ne_eq,z3w,yaf,ycb,ha,hb,h0,hne,ne_eq,c,hd]
   simp only [if_true] at hq
   rw [hq]
   generalize a.natAbs / b.natAbs = q at *
   omega
 | false =>
   rw [c] at hq
   simp only [↓sqP,sqT,zcz,eI,↓zab,zb,dval,Nat.reduceEqDiff,↓reduceIte,dBin,dInt,dBeq,retV,DR.val,fzT,fzV,fz1,DV.immB,List.map_cons,List.map_nil,reduceCtorEq,IntKind.wrap_u64,IntKind.wrap_i64,ze,zf,zp,zo,zi,zq,ne_eq,z3w,yaf,ycb,ha,hb,h0,hne,ne_eq,c,hd]
   simp only [Bool.false_eq_true,if_false] at hq
   rw [hq]
   generalize a.natAbs / b.natAbs = q at *
   omega
def numF (op a b : Int) : Int × Int :=
 if op = 3 then (IntKind.i64.wrap (a + b),0) else if op = 4 then (IntKind.i64.wrap (a - b),0) else if op = 5 then (IntKind.i64.wrap (a * b),0) else
 if b = 0 then (0,15) else if op = 6 then (IntKind.i64.wrap (a.tdiv b),0) else (a.tmod b,0)
def zdo (op a b : Int) : Prop × DV := (in64 a /\ in64 b,.tup [.int .i64 (numF op a b).1,.int .i64 (numF op a b).2])
noncomputable def zon : List DV -> Prop × DV := zec eI eI eI zdo
theorem zua (op a b : Int) : zon [.int .i64 op,.int .i64 a,.int .i64 b] = zdo op a b := za2 zcr zcr zcr _ _ _ _
theorem sub_wrap (a b q : Int) : IntKind.i64.wrap ((a % 18446744073709551616 - b % 18446744073709551616 * (q % 18446744073709551616) % 18446744073709551616) % 18446744073709551616) = IntKind.i64.wrap (a - b * q) := by
 refine zt1 ?_
 rw [<- Int.mul_emod b q]
 omega
theorem mul_wrap (a b : Int) : IntKind.i64.wrap (a % 18446744073709551616 * (b % 18446744073709551616) % 18446744073709551616) = IntKind.i64.wrap (a * b) := by
 refine zt1 ?_
 rw [<- Int.mul_emod a b]
 omega
theorem ycz (a b q : Int) : IntKind.i64.wrap (a - b * IntKind.i64.wrap q) = IntKind.i64.wrap (a - b * q) := by
 refine zt1 ?_
 rw [Int.sub_emod,Int.mul_emod,w64_mod,<- Int.mul_emod,<- Int.sub_emod]
theorem ye1 {a b : Int} (h : in64 a) (hb : in64 b) (h0 : b ≠ 0) : in64 (a.tmod b) := by
 unfold in64 at *
 have h1 : (a.tmod b).natAbs < b.natAbs := by
   rw [Int.natAbs_tmod]
   exact Nat.mod_lt _ (by omega)
 omega
theorem zwt : OkP Tryz.prog 150 zon := by
 refine OkP.mk3 (ps := [(152,zt7)]) (hs := []) ⟨ztc,trivial⟩ trivial zxv fun op a b h => ?_
 obtain ⟨ha,hb⟩ := h
 by_cases h3 : op = 3
 . subst h3
   simp only [↓sqP,sqT,zb3,eI,↓zab,zb,dval,Nat.reduceEqDiff,↓reduceIte,dBin,dInt,retV,retL,DR.val,fzT,fzVs,fzV,fz1,DV.immB,reduceCtorEq,IntKind.wrap_i64,beq_self_eq_true,zdo,numF]
 have e3 : (op == 3) = false := by simp [h3]
 by_cases h4 : op = 4
 . subst h4
   simp only [↓sqP,sqT,zb3,eI,↓zab,zb,dval,Nat.reduceEqDiff,↓reduceIte,dBin,dInt,retV,retL,DR.val,fzT,fzVs,fzV,fz1,DV.immB,Bool.false_eq_true,reduceCtorEq,IntKind.wrap_i64,beq_self_eq_true,Int.reduceBEq,Int.reduceEq,zdo,numF]
 have e4 : (op == 4) = false := by simp [h4]
 by_cases h5 : op = 5
 . subst h5
   simp only [↓sqP,sqT,zb3,eI,↓zab,zb,dval,Nat.reduceEqDiff,↓reduceIte,dBin,dInt,retV,retL,DR.val,fzT,fzVs,fzV,fz1,DV.immB,Bool.false_eq_true,reduceCtorEq,IntKind.wrap_i64,beq_self_eq_true,Int.reduceBEq,Int.reduceEq,zdo,numF]
 have e5 : (op == 5) = false := by simp [h5]
 by_cases h0 : b = 0
 . subst h0
   simp only [↓sqP,sqT,zb3,eI,↓zab,zb,dval,Nat.reduceEqDiff,↓reduceIte,dBin,dInt,retV,retL,DR.val,fzT,fzVs,fzV,fz1,DV.immB,Bool.false_eq_true,reduceCtorEq,beq_self_eq_true,zdo,numF,e3,e4,e5,h3,h4,h5]
 have e0 : (b == 0) = false := by simp [h0]
 by_cases h6 : op = 6
 . subst h6
   simp only [↓sqP,sqT,zb3,eI,↓zab,zb,dval,Nat.reduceEqDiff,Nat.reduceAdd,↓reduceIte,dBin,dInt,retV,retL,DR.val,fzT,fzVs,fzV,fz1,DV.immB,List.map_cons,List.map_nil,Bool.false_eq_true,reduceCtorEq,List.length_cons,List.length_nil,List.getD_cons_zero,List.getD_cons_succ,Nat.reduceLT,IntKind.wrap_i64,ze,zf,zp,zo,zi,zq,List.all_cons,List.all_nil,beq_self_eq_true,Int.reduceBEq,Int.reduceEq,ne_eq,e0,h0,zsb,zkt,zdo,numF,ha,hb]
 . have e6 : (op == 6) = false := by simp [h6]
   simp only [↓sqP,sqT,zb3,eI,↓zab,zb,dval,Nat.reduceEqDiff,Nat.reduceAdd,↓reduceIte,dBin,dInt,retV,retL,DR.val,fzT,fzVs,fzV,fz1,DV.immB,List.map_cons,List.map_nil,Bool.false_eq_true,reduceCtorEq,List.length_cons,List.length_nil,List.getD_cons_zero,List.getD_cons_succ,Nat.reduceLT,IntKind.wrap_i64,ze,zf,zp,zo,zi,zq,List.all_cons,List.all_nil,ne_eq,e0,h0,zsb,zkt,zdo,numF,ha,hb,e6,h6,e3,e4,e5,h3,h4,h5]
theorem z04 : OkP Tryz.prog 114 zon := by
 refine OkP.mk3 (ps := [(125,zpv)]) (hs := []) ⟨zt9,trivial⟩ trivial zmg fun op a b h => ?_
 obtain ⟨ha,hb⟩ := h
 by_cases h3 : op = 3
 . subst h3
   simp only [↓sqP,sqT,zaw,eI,↓zab,zb,dval,Nat.reduceEqDiff,↓reduceIte,dBin,dInt,retV,retL,DR.val,fzT,fzVs,fzV,fz1,DV.immB,reduceCtorEq,IntKind.wrap_u64,IntKind.wrap_i64,beq_self_eq_true,List.cons.injEq,zdo,numF]
   omega
 have e3 : (op == 3) = false := by simp [h3]
 by_cases h4 : op = 4
 . subst h4
   simp only [↓sqP,sqT,zaw,eI,↓zab,zb,dval,Nat.reduceEqDiff,↓reduceIte,dBin,dInt,retV,retL,DR.val,fzT,fzVs,fzV,fz1,DV.immB,Bool.false_eq_true,reduceCtorEq,IntKind.wrap_u64,IntKind.wrap_i64,beq_self_eq_true,Int.reduceBEq,Int.reduceEq,List.cons.injEq,zdo,numF]
   omega
 have e4 : (op == 4) = false := by simp [h4]
 by_cases h5 : op = 5
 . subst h5
   simp only [↓sqP,sqT,zaw,eI,↓zab,zb,dval,Nat.reduceEqDiff,↓reduceIte,dBin,dInt,retV,retL,DR.val,fzT,fzVs,fzV,fz1,DV.immB,Bool.false_eq_true,reduceCtorEq,IntKind.wrap_u64,IntKind.wrap_i64,beq_self_eq_true,Int.reduceBEq,Int.reduceEq,List.cons.injEq,zdo,numF]
   have := mul_wrap a b
   simp only [w64_eq] at this
   exact this
 have e5 : (op == 5) = false := by simp [h5]
 by_cases h0 : b = 0
 . subst h0
   simp only [↓sqP,sqT,zaw,eI,↓zab,zb,dval,Nat.reduceEqDiff,↓reduceIte,dBin,dInt,retV,retL,DR.val,fzT,fzVs,fzV,fz1,DV.immB,Bool.false_eq_true,reduceCtorEq,beq_self_eq_true,zdo,numF,e3,e4,e5,h3,h4,h5]
 have e0 : (b == 0) = false := by simp [h0]
 by_cases h6 : op = 6
 . subst h6
   simp only [↓sqP,sqT,zaw,eI,↓zab,zb,dval,Nat.reduceEqDiff,↓reduceIte,dBin,dInt,retV,retL,DR.val,fzT,fzVs,fzV,fz1,DV.immB,List.map_cons,List.map_nil,Bool.false_eq_true,reduceCtorEq,IntKind.wrap_i64,ze,zf,zp,zo,zi,zq,beq_self_eq_true,Int.reduceBEq,Int.reduceEq,ne_eq,e0,h0,zn1,ycb,zdo,numF,ha,hb]
 . have e6 : (op == 6) = false := by simp [h6]
   simp only [↓sqP,sqT,zaw,eI,↓zab,zb,dval,Nat.reduceEqDiff,↓reduceIte,dBin,dInt,retV,retL,DR.val,fzT,fzVs,fzV,fz1,DV.immB,List.map_cons,List.map_nil,Bool.false_eq_true,reduceCtorEq,IntKind.wrap_u64,IntKind.wrap_i64,ze,zf,zp,zo,zi,zq,ne_eq,List.cons.injEq,e0,h0,zn1,ycb,zdo,numF,ha,hb,e6,h6,e3,e4,e5,h3,h4,h5]
   have h1 := sub_wrap a b (IntKind.i64.wrap (a.tdiv b))
   rw [ycz] at h1
   have h2 : a - b * a.tdiv b = a.tmod b := by have := Int.mul_tdiv_add_tmod a b; omega
   rw [h2,w64_id (ye1 ha hb h0)] at h1
   simp only [w64_eq] at h1
   exact h1
set_option linter.all false
set_option maxRecDepth 20000
open Go.Nk
def grpF (op : Int) : Int := if 3 <= op /\ op <= 7 then 1 else if 8 <= op /\ op <= 10 then 2 else if 11 <= op /\ op <= 12 then 4 else if 13 <= op /\ op <= 16 then 3 else 0
def zwk (op : Int) : Prop × DV := (True,.int .i64 (grpF op))
noncomputable def z1y : List DV -> Prop × DV := zbp eI zwk
theorem zq0 (op : Int) : z1y [.int .i64 op] = zwk op := z8 zcr _ _
theorem z0h (op : Int) : ((op == 1) = false /\ (op == 2) = false /\ (op == 3) = false /\ (op == 4) = false /\ (op == 5) = false /\ (op == 6) = false /\ (op == 7) = false /\ (op == 8) = false /\ (op == 9) = false /\ (op == 10) = false /\ (op == 11) = false /\ (op == 12) = false /\ (op == 13) = false /\ (op == 14) = false /\ (op == 15) = false /\ (op == 16) = false /\ (op < 1 \/ 16 < op)) \/ op = 1 \/ op = 2 \/ op = 3 \/ op = 4 \/ op = 5 \/ op = 6 \/ op = 7 \/ op = 8 \/ op = 9 \/ op = 10 \/ op = 11 \/ op = 12 \/ op = 13 \/ op = 14 \/ op = 15 \/ op = 16 := by
 simp only [beq_eq_false_iff_ne]
 omega
theorem zlt : OkP Tryz.prog 141 z1y := by
 refine OkP.mk1 (ps := []) (hs := []) trivial trivial z1x fun op _ => ?_
 rcases z0h op with ⟨h1,h2,h3,h4,h5,h6,h7,h8,h9,h10,h11,h12,h13,h14,h15,h16,hr⟩ | rfl | rfl | rfl | rfl | rfl | rfl | rfl | rfl | rfl | rfl | rfl | rfl | rfl | rfl | rfl | rfl
 . have e : grpF op = 0 := by unfold grpF; split <;> first | omega | (split <;> first | omega | (split <;> first | omega | (split <;> omega)))
   simp only [↓sqP,sqT,zi1,eI,↓zab,zb,dval,Nat.reduceEqDiff,↓reduceIte,dBin,dInt,retV,DR.val,fzT,fzV,fz1,DV.immB,Bool.false_eq_true,reduceCtorEq,zwk,e,h3,h4,h5,h6,h7,h8,h9,h10,h11,h12,h13,h14,h15,h16]
 all_goals simp only [↓sqP,sqT,zi1,eI,↓zab,zb,dval,Nat.reduceEqDiff,↓reduceIte,dBin,dInt,retV,DR.val,fzT,fzV,fz1,DV.immB,Bool.false_eq_true,reduceCtorEq,Int.reduceLE,beq_self_eq_true,Int.reduceBEq,zwk,grpF]
def z4p (op a b : Int) : Bool :=
 if op = 8 then a != 0 && b != 0 else if op = 9 then a != 0 || b != 0 else if op = 10 then (a != 0) != (b != 0) else if op = 11 then a == b else if op = 12 then a != b
 else if op = 13 then decide (a < b) else if op = 14 then decide (a <= b) else if op = 15 then decide (b < a) else decide (b <= a)
def z8n (op a b : Int) : Prop × DV := (8 <= op /\ op <= 16,.bool (z4p op a b))
noncomputable def z47 : List DV -> Prop × DV := zec eI eI eI z8n
theorem ya5 (op a b : Int) : z47 [.int .i64 op,.int .i64 a,.int .i64 b] = z8n op a b := za2 zcr zcr zcr _ _ _ _
theorem zx0 : OkP Tryz.prog 151 z47 := by
 refine OkP.mk3 (ps := []) (hs := []) trivial trivial z0o fun op a b h => ?_
 have h' : op = 8 \/ op = 9 \/ op = 10 \/ op = 11 \/ op = 12 \/ op = 13 \/ op = 14 \/ op = 15 \/ op = 16 := by have := h.1; have := h.2; omega
 rcases h' with rfl | rfl | rfl | rfl | rfl | rfl | rfl | rfl | rfl <;> cases ca : (a != 0) <;> cases cb : (b != 0) <;>
   simp only [↓sqP,sqT,zos,eI,↓zab,zb,zkj,dval,Nat.reduceEqDiff,↓reduceIte,bne_self_eq_false,dBin,dInt,dBeq,retV,DR.val,fzT,fzV,fz1,DV.immB,Bool.false_eq_true,reduceCtorEq,Int.reduceLE,beq_self_eq_true,gt_iff_lt,ge_iff_le,Int.reduceBEq,Int.reduceEq,z8n,z4p,ca,cb] <;> rfl
def binF (op a b : Int) : Int × Int := if 3 <= op /\ op <= 7 then numF op a b else if 8 <= op /\ op <= 16 then (tr (z4p op a b),0) else (0,1)
def fBin (op a b : Int) : Prop × DV := (in64 a /\ in64 b,.tup [.int .i64 (binF op a b).1,.int .i64 (binF op a b).2])
noncomputable def ygo : List DV -> Prop × DV := zec eI eI eI fBin
theorem z8z (op a b : Int) : ygo [.int .i64 op,.int .i64 a,.int .i64 b] = fBin op a b := za2 zcr zcr zcr _ _ _ _
theorem z2k : OkP Tryz.prog 148 ygo := by
 refine OkP.mk3 (ps := [(149,zmu),(141,z1y),(150,zon),(151,z47)]) (hs := []) ⟨zll,zlt,zwt,zx0,trivial⟩ trivial z68 fun op a b h => ?_
 obtain ⟨ha,hb⟩ := h
 rcases z0h op with ⟨h1,h2,h3,h4,h5,h6,h7,h8,h9,h10,h11,h12,h13,h14,h15,h16,hr⟩ | rfl | rfl | rfl | rfl | rfl | rfl | rfl | rfl | rfl | rfl | rfl | rfl | rfl | rfl | rfl | rfl
 . have e : grpF op = 0 := by unfold grpF; split <;> first | omega | (split <;> first | omega | (split <;> first | omega | (split <;> omega)))
   have e1 : ¬ (3 <= op /\ op <= 7) := by omega
   have e2 : ¬ (8 <= op /\ op <= 16) := by omega
   simp only [↓sqP,sqT,zmr,eI,↓zab,zb,dval,Nat.reduceEqDiff,↓reduceIte,dBin,dInt,retV,retL,DR.val,fzT,fzVs,fzV,fz1,DV.immB,List.map_cons,List.map_nil,reduceCtorEq,ze,zf,zp,zo,zi,zq,beq_self_eq_true,zq0,zwk,e,fBin,binF,e1,e2]
 all_goals simp only [↓sqP,sqT,zmr,eI,↓zab,zb,dval,Nat.reduceEqDiff,Nat.reduceAdd,↓reduceIte,dBin,dInt,retV,retL,DR.val,fzT,fzVs,fzV,fz1,DV.immB,List.map_cons,List.map_nil,Bool.false_eq_true,reduceCtorEq,List.length_cons,List.length_nil,List.getD_cons_zero,List.getD_cons_succ,Int.reduceLE,Nat.reduceLT,ze,zf,zp,zo,zi,zq,List.all_cons,List.all_nil,beq_self_eq_true,Int.reduceBEq,zq0,zwk,grpF,fBin,binF,zua,zdo,ya5,z8n,zk9,zrt,ha,hb]
theorem ya9 : OkP Tryz.prog 85 ygo := by
 refine OkP.mk3 (ps := [(113,zmu),(114,zon)]) (hs := []) ⟨zr8,z04,trivial⟩ trivial zs9 fun op a b h => ?_
 obtain ⟨ha,hb⟩ := h
 rcases z0h op with ⟨h1,h2,h3,h4,h5,h6,h7,h8,h9,h10,h11,h12,h13,h14,h15,h16,hr⟩ | rfl | rfl | rfl | rfl | rfl | rfl | rfl | rfl | rfl | rfl | rfl | rfl | rfl | rfl | rfl | rfl
 . have e1 : ¬ (3 <= op /\ op <= 7) := by omega
   have e2 : ¬ (8 <= op /\ op <= 16) := by omega
   simp only [↓sqP,sqT,zfw,eI,↓zab,zb,dval,Nat.reduceEqDiff,↓reduceIte,dBin,dInt,retV,retL,DR.val,fzT,fzVs,fzV,fz1,DV.immB,Bool.false_eq_true,reduceCtorEq,fBin,binF,e1,e2,h3,h4,h5,h6,h7,h8,h9,h10,h11,h12,h13,h14,h15,h16]
 all_goals cases ca : (a != 0) <;> cases cb : (b != 0) <;> simp only [↓sqP,sqT,zfw,eI,↓zab,zb,zkj,dval,Nat.reduceEqDiff,Nat.reduceAdd,↓reduceIte,bne_self_eq_false,dBin,dInt,dBeq,retV,retL,DR.val,fzT,fzVs,fzV,fz1,DV.immB,List.map_cons,List.map_nil,Bool.false_eq_true,reduceCtorEq,List.length_cons,List.length_nil,List.getD_cons_zero,List.getD_cons_succ,Int.reduceLE,Nat.reduceLT,ze,zf,zp,zo,zi,zq,List.all_cons,List.all_nil,beq_self_eq_true,gt_iff_lt,ge_iff_le,Int.reduceBEq,Int.reduceEq,List.cons.injEq,fBin,binF,zua,zdo,z4p,zk9,zrt,ha,hb,ca,cb] <;> rfl
end Go.Proofs.YtjgefhgkinocmaaGreat
