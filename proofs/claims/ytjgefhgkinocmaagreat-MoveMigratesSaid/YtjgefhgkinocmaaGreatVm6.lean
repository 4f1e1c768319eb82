/- The machine of the program: what its steps tell, and make of it. -/
import Derived.Test.YtjgefhgkinocmaaGreatVmR
import Derived.Test.YtjgefhgkinocmaaGreatArithB
import Derived.Test.YtjgefhgkinocmaaGreatNkZ3
set_option linter.all false
set_option maxRecDepth 20000
namespace Go.Proofs.YtjgefhgkinocmaaGreat
open Go.Nk
def il (l : List Int) : List (List DV) := l.map fun x => [.int .i64 x]
theorem za9 (l : List Int) : (il l).length = l.length := by simp [il]
theorem zwb {l l' : List Int} (h : il l = il l') : l = l' := by
 have : ∀ x y : Int,[DV.int .i64 x] = [.int .i64 y] -> x = y := fun x y h => by simpa using h
 exact List.map_inj_right (fun x y => this x y) |>.1 h
theorem zq6 {l : List Int} {k : Nat} (h : k < l.length) : (il l).getD k [] = [.int .i64 (l.getD k 0)] := by simp [il,List.getD,h]
theorem il_set (l : List Int) (k : Nat) (x : Int) : (il l).set k [.int .i64 x] = il (l.set k x) := by simp [il,List.map_set]
theorem zpl (l : List Int) : ∀ e ∈ il l,e.length = 1 := by intro e h; simp [il] at h; obtain ⟨x,_,rfl⟩ := h; rfl
structure MS where
 cells : List Int
 raw : List Int
 hi : Int
 pc : Int
 used : Int
def mRow (m : Nat) (v : MS) : List DV := .own m v.cells.length 0 v.cells.length :: (v.raw.map (DV.int .i64 ·) ++ [.int .i64 v.hi,.int .i64 v.pc,.int .i64 v.used])
def TM : Duo MS := ⟨fun m v => ⟨.loc,20,[mRow m v]⟩,fun v => ⟨.imm,1,il v.cells⟩⟩
theorem zig : TM.ok where
 inj1 m v m' v' h := by simp [TM,mRow] at h; exact h.1.1
 inj2 m v v' h h2 := by
   simp only [TM,mRow,DObj.mk.injEq,List.cons.injEq,true_and,and_true] at h h2
   have h3 := zwb h2
   have h4 := h.2
   have h5 := congrArg List.reverse h4
   simp at h5
   obtain ⟨e1,e2,e3,e4⟩ := h5
   have e5 : v.raw = v'.raw := List.map_inj_right (fun x y e => by simpa using e) |>.1 e4
   cases v; cases v'; simp_all
 cut1 m v k h := by
   have : ∀ l : List Int,(l.map (DV.int .i64 ·)).map (DV.cut k) = l.map (DV.int .i64 ·) := fun l => by simp [DV.cut,DV.inB]
   simp only [TM,mRow,DObj.cut,if_true,List.map_cons,List.map_append,List.map_nil,this]
   simp [DV.cut,DV.inB,h]
 cut2 v k := by simp [TM,DObj.cut]
section
variable {hp t : List DObj} {n m : Nat} {v : MS}
theorem TM_o (k : zby hp n m) : (TM.put hp n m v ++ t)[n]? = some ⟨.loc,20,[mRow m v]⟩ := Duo.get_o k
theorem TM_c (k : zby hp n m) : (TM.put hp n m v ++ t)[m]? = some ⟨.imm,1,il v.cells⟩ := Duo.get_c k
theorem TM_b {o : DObj} : (TM.put hp n m v ++ (o :: t))[hp.length]? = some o := Duo.get_b
theorem yf4 {v' : MS} (k : zby hp n m) (h : v'.cells = v.cells) : (TM.put hp n m v ++ t).set n ⟨.loc,20,[mRow m v']⟩ = TM.put hp n m v' ++ t := Duo.set_o (T := TM) k (by simp [TM,h])
theorem TM_sc {c : List Int} (k : zby hp n m) (h : c.length = v.cells.length) : (TM.put hp n m v ++ t).set m ⟨.imm,1,il c⟩ = TM.put hp n m { v with cells := c } ++ t := by
 have := Duo.set_c (T := TM) (v := v) (v' := { v with cells := c }) (t := t) k (by simp [TM,mRow,h])
 exact this
end
section
variable {m : Nat} {v : MS}
theorem zez (h : v.raw.length = 16) : (mRow m v).length = 20 := by simp [mRow,h]
theorem z27 : (mRow m v).getD 0 .undef = .own m v.cells.length 0 v.cells.length := rfl
theorem z1k (h : v.raw.length = 16) : (mRow m v).drop 17 = [.int .i64 v.hi,.int .i64 v.pc,.int .i64 v.used] := by
 rw [mRow,List.drop_succ_cons,List.drop_append,List.drop_of_length_le (by simp [h])]; simp [h]
theorem z0l (h : v.raw.length = 16) : (mRow m v).drop 18 = [.int .i64 v.pc,.int .i64 v.used] := by
 rw [mRow,List.drop_succ_cons,List.drop_append,List.drop_of_length_le (by simp [h])]; simp [h]
theorem z69 (h : v.raw.length = 16) : (mRow m v).drop 19 = [.int .i64 v.used] := by
 rw [mRow,List.drop_succ_cons,List.drop_append,List.drop_of_length_le (by simp [h])]; simp [h]
theorem mRow_i (h : v.raw.length = 16) (i : Nat) (hi : i < 16) : ((mRow m v).drop (1 + i)).getD 0 .undef = .int .i64 (v.raw.getD i 0) := by
 rw [mRow,Nat.add_comm,List.drop_succ_cons]
 simp only [List.getD_eq_getElem?_getD,List.getElem?_drop,Nat.add_zero]
 rw [List.getElem?_append_left (by simp [h]; omega)]
 simp [h,hi]
theorem z9f (h : v.raw.length = 16) (x : Int) : zk (mRow m v) 17 [.int .i64 x] = mRow m { v with hi := x } := by
 simp only [zk,mRow]
 rw [List.set_cons_succ,List.set_append_right _ _ (by simp [h])]; simp [h]
theorem mRow_s18 (h : v.raw.length = 16) (x : Int) : zk (mRow m v) 18 [.int .i64 x] = mRow m { v with pc := x } := by
 simp only [zk,mRow]
 rw [List.set_cons_succ,List.set_append_right _ _ (by simp [h])]; simp [h]
theorem mRow_s19 (h : v.raw.length = 16) (x : Int) : zk (mRow m v) 19 [.int .i64 x] = mRow m { v with used := x } := by
 simp only [zk,mRow]
 rw [List.set_cons_succ,List.set_append_right _ _ (by simp [h])]; simp [h]
theorem mRow_si (h : v.raw.length = 16) (i : Nat) (hi : i < 16) (x : Int) : zk (mRow m v) (1 + i) [.int .i64 x] = mRow m { v with raw := v.raw.set i x } := by
 simp only [zk,mRow]
 rw [Nat.add_comm,List.set_cons_succ,List.set_append_left _ _ (by simp [h]; omega)]; simp [List.map_set]
end
structure okM (v : MS) : Prop where
 r : v.raw.length = 16
 h0 : 0 <= v.hi
 h1 : v.hi <= 16
 p0 : 0 <= v.pc
 p1 : v.pc <= 1000000000
 u0 : 0 <= v.used
 u1 : v.used <= 1000000000
 c : v.cells.length <= 1000000
 ri : ∀ x ∈ v.raw,in64 x
 ci : ∀ x ∈ v.cells,in64 x
noncomputable def z7g := zf5 TM (fun n : Int => [.int .i64 n]) fun v n => (okM v,.bool (decide (n <= v.hi)),v)
theorem zke {hp t : List DObj} {n m : Nat} {v : MS} (k : zby hp n m) (a : Int) : z7g [.ptr n 1 0 0,.int .i64 a] (TM.put hp n m v ++ t) = ⟨okM v,.bool (decide (a <= v.hi)),TM.put hp n m v ++ t⟩ := zbi zig z9t _ k a
theorem z41 : OkH Tryz.prog 136 z7g := by
 refine OkH.mkT (ps := []) (hs := []) zig trivial trivial zsq (fun _ => rfl) (fun _ _ _ => rfl) fun n m hp v a k h => ?_
 have r := h.r
 (have hcondQ := Bool.and_self; refine Todo.of ?_; repeat' (first | ((with_reducible refine Todo.to ?_); try simp only [↓rP,rT,rU,zb,dval,zn,dBin,dInt,zh,za,retV,DR.val,alive,Nat.reduceEqDiff,Nat.reduceAdd,↓reduceIte,reduceCtorEq,Nat.reduceLT,zi8,k,TM_o,z1k,r,zcm]) | ((with_reducible refine And.intro ?_ ?_); . first | trivial | omega | (simp; done) | (simp; omega)) | (((with_reducible refine zu ?_ ?_ ?_); . rfl) <;> (refine Todo.of ?_))))
 all_goals exact ⟨_,_,rfl,rfl⟩
def popV (v : MS) : Int := v.raw.getD (v.hi - 1).toNat 0
def popS (v : MS) : MS := { v with hi := v.hi - 1 }
noncomputable def z5s := zf5 TM (fun _ : Unit => []) fun v _ => (okM v /\ 1 <= v.hi,.int .i64 (popV v),popS v)
theorem zj5 {hp t : List DObj} {n m : Nat} {v : MS} (k : zby hp n m) : z5s [.ptr n 1 0 0] (TM.put hp n m v ++ t) = ⟨okM v /\ 1 <= v.hi,.int .i64 (popV v),TM.put hp n m (popS v) ++ t⟩ := zbi zig (yfn _) _ k ()
theorem z24 : OkH Tryz.prog 137 z5s := by
 refine OkH.mkT (ps := []) (hs := []) zig trivial trivial zsp (fun _ => rfl) (fun _ _ _ => rfl) fun n m hp v a k h => ?_
 obtain ⟨h,h2⟩ := h
 have r := h.r
 have := h.h1
 have w : IntKind.i64.wrap (v.hi - 1) = v.hi - 1 := z9 (by omega)
 have r2 : ({ v with hi := v.hi - 1 } : MS).raw.length = 16 := r
 have i1 := mRow_i (m := m) r2 (v.hi - 1).toNat (by omega)
 have i2 : 0 <= v.hi - 1 /\ v.hi - 1 < 16 := by omega
 (have hcondQ := Bool.and_self; refine Todo.of ?_; repeat' (first | ((with_reducible refine Todo.to ?_); try simp only [↓rP,rT,rU,zb,dval,zn,dBin,dInt,zh,za,retV,DR.val,zw,DV.one,alive,cellsOf,Nat.reduceEqDiff,Nat.reduceAdd,↓reduceIte,reduceCtorEq,Nat.reduceLeDiff,Nat.reduceLT,forall_const,zjc,k,TM_o,z1k,z9f,zez,yf4,r,zcm,w,i1,popV,popS,i2,List.length_drop]) | ((with_reducible refine And.intro ?_ ?_); . first | trivial | omega | (simp; done) | (simp; omega)) | (((with_reducible refine zu ?_ ?_ ?_); . rfl) <;> (refine Todo.of ?_))))
 all_goals exact ⟨_,_,rfl,rfl⟩
def zsi (v : MS) : Int := if v.hi = 16 then 13 else 0
def ziq (v : MS) (x : Int) : MS := if v.hi = 16 then v else { v with raw := v.raw.set v.hi.toNat x,hi := v.hi + 1 }
noncomputable def zyq := zf5 TM (fun n : Int => [.int .i64 n]) fun v x => (okM v,.int .i64 (zsi v),ziq v x)
theorem zk5 {hp t : List DObj} {n m : Nat} {v : MS} (k : zby hp n m) (a : Int) : zyq [.ptr n 1 0 0,.int .i64 a] (TM.put hp n m v ++ t) = ⟨okM v,.int .i64 (zsi v),TM.put hp n m (ziq v a) ++ t⟩ := zbi zig z9t _ k a
theorem z0x : OkH Tryz.prog 133 zyq := by
 refine OkH.mkT (ps := []) (hs := []) zig trivial trivial zps (fun _ => rfl) (fun _ _ _ => rfl) fun n m hp v a k h => ?_
 have r := h.r
 have := h.h1
 have := h.h0
 have w : IntKind.i64.wrap (v.hi + 1) = v.hi + 1 := z9 (by omega)
 have r2 : ({ v with raw := v.raw.set v.hi.toNat a } : MS).raw.length = 16 := by simp [r]
 by_cases c : v.hi = 16
 . have c' : (v.hi == 16) = true := by simp [c]
   (have hcondQ := Bool.and_self; refine Todo.of ?_; repeat' (first | ((with_reducible refine Todo.to ?_); try simp only [↓rP,rT,rU,zb,dval,zn,dBin,dInt,zh,za,retV,DR.val,alive,Nat.reduceAdd,↓reduceIte,reduceCtorEq,Nat.reduceLT,ze8,k,TM_o,z1k,r,zcm,zsi,ziq,c]) | ((with_reducible refine And.intro ?_ ?_); . first | trivial | omega | (simp; done) | (simp; omega)) | (((with_reducible refine zu ?_ ?_ ?_); . rfl) <;> (refine Todo.of ?_))))
   all_goals exact ⟨_,_,rfl,rfl⟩
 . have c' : (v.hi == 16) = false := by simp [c]
   have i1 := mRow_si (m := m) r v.hi.toNat (by omega) a
   have i2 : 0 <= v.hi /\ v.hi < 16 := by omega
   have i3 : 1 + v.hi.toNat + 1 <= 20 := by omega
   (have hcondQ := Bool.and_self; refine Todo.of ?_; repeat' (first | ((with_reducible refine Todo.to ?_); try simp only [↓rP,rT,rU,zb,dval,zn,dBin,dInt,zh,za,retV,DR.val,zw,DV.one,alive,cellsOf,Nat.reduceEqDiff,Nat.reduceAdd,↓reduceIte,reduceCtorEq,Nat.reduceLeDiff,Nat.reduceLT,forall_const,ze8,k,TM_o,z1k,z9f,zez,yf4,r,r2,zcm,c',zsi,ziq,c,w,i1,i2,i3]) | ((with_reducible refine And.intro ?_ ?_); . first | trivial | omega | (simp; done) | (simp; omega)) | (((with_reducible refine zu ?_ ?_ ?_); . rfl) <;> (refine Todo.of ?_))))
   all_goals exact ⟨_,_,rfl,rfl⟩
theorem injL_ii : InjL (fun x : Int × Int => [DV.int .i64 x.1,.int .i64 x.2]) := fun x y h => by
 obtain ⟨a,b⟩ := x; obtain ⟨c,d⟩ := y; simp at h; simp [h]
def zbz (v : MS) (a b : Int) : Bool := decide (a <= (v.cells.length : Int) - b)
noncomputable def zxl := zf5 TM (fun x : Int × Int => [.int .i64 x.1,.int .i64 x.2]) fun v x => (okM v /\ 0 <= x.2 /\ x.2 <= 8,.bool (zbz v x.1 x.2),v)
theorem zmt {hp t : List DObj} {n m : Nat} {v : MS} (k : zby hp n m) (a b : Int) : zxl [.ptr n 1 0 0,.int .i64 a,.int .i64 b] (TM.put hp n m v ++ t) = ⟨okM v /\ 0 <= b /\ b <= 8,.bool (zbz v a b),TM.put hp n m v ++ t⟩ := zbi zig injL_ii _ k (a,b)
theorem z08 : OkH Tryz.prog 146 zxl := by
 refine OkH.mkT (ps := []) (hs := []) zig trivial trivial zov (fun _ => rfl) (fun _ _ _ => rfl) fun n m hp v a k h => ?_
 obtain ⟨a,b⟩ := a
 obtain ⟨h,h2⟩ := h
 simp only at h2
 have r := h.r
 have := h.c
 have w : IntKind.i64.wrap ((v.cells.length : Int) - b) = (v.cells.length : Int) - b := z9 (by omega)
 (have hcondQ := Bool.and_self; refine Todo.of ?_; repeat' (first | ((with_reducible refine Todo.to ?_); try simp only [↓rP,rT,rU,zb,dval,zn,dBin,dInt,zh,za,retV,DR.val,alive,Nat.reduceEqDiff,Nat.reduceAdd,↓reduceIte,reduceCtorEq,Nat.reduceLT,zhg,k,TM_o,TM_c,za9,z27,zez,r,zcm,w,zbz]) | ((with_reducible refine And.intro ?_ ?_); . first | trivial | omega | (simp; done) | (simp; omega)) | (((with_reducible refine zu ?_ ?_ ?_); . rfl) <;> (refine Todo.of ?_))))
 all_goals exact ⟨_,_,rfl,rfl⟩
set_option linter.all false
set_option maxRecDepth 20000
open Go.Nk
theorem zcu {v : MS} (h : okM v) (h1 : 1 <= v.hi) : okM (popS v) :=
 ⟨h.r,by have := h.h0; simp only [popS]; omega,by have := h.h1; simp only [popS]; omega,h.p0,h.p1,h.u0,h.u1,h.c,h.ri,h.ci⟩
theorem zxa {v : MS} (h : okM v) : in64 (popV v) := by
 unfold popV
 rw [List.getD_eq_getElem?_getD]
 cases e : v.raw[(v.hi - 1).toNat]? with
 | none => simp [in64]
 | some x => exact h.ri x (List.mem_of_getElem? e)
theorem zuv {v : MS} (h : okM v) (h1 : 1 <= v.hi) : in64 (popV (popS v)) := zxa (zcu h h1)
theorem znr : InjL (fun x : Ins => [DV.agg (cIns x)]) := fun x y h => zk0 x y (by simpa using h)
def getR (v : MS) (x : Ins) : Int × MS :=
 if v.hi < 1 \/ zbz v x.a x.b = false then (13,v) else if popV v < 0 \/ x.b <= popV v then (16,popS v) else
   (zsi (popS v),ziq (popS v) (v.cells.getD (x.a.toNat + (popV v).toNat) 0))
noncomputable def s_get := zf5 TM (fun x : Ins => [.agg (cIns x)]) fun v x => (okM v /\ 0 <= x.a /\ x.a <= 65535 /\ 1 <= x.b /\ x.b <= 8,.int .i64 (getR v x).1,(getR v x).2)
theorem ok_get : OkH Tryz.prog 138 s_get := by
 refine OkH.mkT (ps := []) (hs := [(136,z7g),(146,zxl),(137,z5s),(133,zyq)]) zig trivial ⟨z41,z08,z24,z0x,trivial⟩ zsk (fun _ => rfl) (fun _ _ _ => rfl) fun n m hp v x k h => ?_
 obtain ⟨h,a0,a1,b0,b1⟩ := h
 have r := h.r
 have hb : 0 <= x.b /\ x.b <= 8 := ⟨by omega,b1⟩
 (have hcondQ := Bool.and_self; refine Todo.of ?_; repeat' (first | ((with_reducible refine Todo.to ?_); try simp only [↓rP,rT,rU,zb,dval,zn,dBin,dInt,dUn,zh,za,retV,DR.val,DV.one,alive,cellsOf,Nat.reduceEqDiff,Nat.reduceAdd,↓reduceIte,reduceCtorEq,Nat.reduceLT,forall_const,zjj,k,TM_o,TM_c,TM_b,za9,z27,List.append_assoc,Nat.add_zero,Duo.put_len,zcm,zc2,zbq,zke,zmt,zj5,zbz,h,hb ,hcondQ]) | ((with_reducible refine And.intro ?_ ?_); . first | trivial | exact zcu h (by omega) | omega | (simp; done) | (simp; omega)) | ((first | ((with_reducible refine zd (t := ?_) ?_ (fun hcQ => ?_) (fun hcQ => ?_)); rotate_left; . rfl) | ((with_reducible refine zl (t := ?_) ?_ (fun hcQ => ?_) (fun hcQ => ?_)); rotate_left; . rfl)) <;> (have hn := hcQ; have hcondQ := hcQ) <;> (try simp only [decide_eq_true_eq,decide_eq_false_iff_not,Bool.not_eq_true',Bool.not_eq_false'] at hn) <;> (try (exfalso; omega)) <;> (refine Todo.of ?_)) | (((with_reducible refine zu ?_ ?_ ?_); . rfl) <;> (refine Todo.of ?_))))
 (all_goals (first | exact ⟨_,_,rfl,rfl⟩ | (refine ⟨?_,_,_,rfl,?_⟩ <;> grind [getR,zbz]) | (refine ⟨_,_,rfl,?_⟩; grind [getR,zbz]) | skip))
 have i1 : 0 <= popV v := by omega
 have i2 : x.a.toNat + (popV v).toNat < v.cells.length := by omega
 have e1 : (popS v).cells = v.cells := rfl
 have e2 := zq6 i2
 have e3 : x.a.toNat + (popV v).toNat < (popS v).cells.length := i2
 have e4 := zez (m := m) (v := popS v) r
 have e5 : 0 <= popV v /\ popV v < ↑(v.cells.length - x.a.toNat) := by omega
 have e6 := zcu h (by omega)
 have e7 : x.a <= (v.cells.length : Int) := by omega
 (have hcondQ := Bool.and_self; refine Todo.of ?_; repeat' (first | ((with_reducible refine Todo.to ?_); try simp only [rT,rU,Nat.reduceLT,e1,e2,e4,i2,k,zk5,e5,e6,e7,a0]) | ((with_reducible refine And.intro ?_ ?_); . first | trivial | omega | (simp; done) | (simp; omega)) | (((with_reducible refine zu ?_ ?_ ?_); . rfl) <;> (refine Todo.of ?_))))
 (all_goals (first | exact ⟨_,_,rfl,rfl⟩ | (refine ⟨?_,_,_,rfl,?_⟩ <;> grind [getR,zbz]) | (refine ⟨_,_,rfl,?_⟩; grind [getR,zbz]) | skip))
def putR (v : MS) (x : Ins) : Int × MS :=
 if v.hi < 2 \/ zbz v x.a x.b = false then (13,v) else if popV v < 0 \/ x.b <= popV v then (16,popS (popS v)) else
   (0,{ popS (popS v) with cells := v.cells.set (x.a.toNat + (popV v).toNat) (popV (popS v)) })
noncomputable def yfi := zf5 TM (fun x : Ins => [.agg (cIns x)]) fun v x => (okM v /\ 0 <= x.a /\ x.a <= 65535 /\ 1 <= x.b /\ x.b <= 8,.int .i64 (putR v x).1,(putR v x).2)
theorem ok_putI : OkH Tryz.prog 139 yfi := by
 refine OkH.mkT (ps := []) (hs := [(136,z7g),(146,zxl),(137,z5s)]) zig trivial ⟨z41,z08,z24,trivial⟩ zst (fun _ => rfl) (fun _ _ _ => rfl) fun n m hp v x k h => ?_
 obtain ⟨h,a0,a1,b0,b1⟩ := h
 have r := h.r
 have hb : 0 <= x.b /\ x.b <= 8 := ⟨by omega,b1⟩
 (have hcondQ := Bool.and_self; refine Todo.of ?_; repeat' (first | ((with_reducible refine Todo.to ?_); try simp only [↓rP,rT,rU,zb,dval,zn,dBin,dInt,dUn,zh,za,retV,DR.val,fz1,DV.immB,zw,DV.one,alive,fzL,cellsOf,zk,Nat.reduceEqDiff,Nat.reduceAdd,↓reduceIte,reduceCtorEq,Nat.reduceLT,forall_const,zjo,k,TM_o,TM_c,TM_b,za9,z27,List.append_assoc,Nat.add_zero,Duo.put_len,zcm,zc2,zbq,zke,zmt,zj5,zbz,h,hb ,hcondQ]) | ((with_reducible refine And.intro ?_ ?_); . first | trivial | exact zcu h (by omega) | exact ⟨zcu h (by omega),by simp only [popS]; omega⟩ | omega | (simp; done) | (simp; omega)) | ((first | ((with_reducible refine zd (t := ?_) ?_ (fun hcQ => ?_) (fun hcQ => ?_)); rotate_left; . rfl) | ((with_reducible refine zl (t := ?_) ?_ (fun hcQ => ?_) (fun hcQ => ?_)); rotate_left; . rfl)) <;> (have hn := hcQ; have hcondQ := hcQ) <;> (try simp only [decide_eq_true_eq,decide_eq_false_iff_not,Bool.not_eq_true',Bool.not_eq_false'] at hn) <;> (try (exfalso; omega)) <;> (refine Todo.of ?_)) | (((with_reducible refine zu ?_ ?_ ?_); . rfl) <;> (refine Todo.of ?_))))
 (all_goals (first | exact ⟨_,_,rfl,rfl⟩ | (refine ⟨?_,_,_,rfl,?_⟩ <;> grind [putR,zbz]) | (refine ⟨_,_,rfl,?_⟩; grind [putR,zbz]) | skip))
 have i1 : 0 <= popV v := by omega
 have i2 : x.a.toNat + (popV v).toNat < v.cells.length := by omega
 have e1 : (popS (popS v)).cells = v.cells := rfl
 have e2 := zq6 i2
 have e4 := zez (m := m) (v := popS (popS v)) r
 have e5 : 0 <= popV v /\ popV v < ↑(v.cells.length - x.a.toNat) := by omega
 have e7 : x.a <= (v.cells.length : Int) := by omega
 have e8 := fun y => TM_sc (v := popS (popS v)) (t := [⟨.loc,4,[cIns x]⟩]) (c := v.cells.set (x.a.toNat + (popV v).toNat) y) k (by simp [e1])
 (have hcondQ := Bool.and_self; refine Todo.of ?_; repeat' (first | ((with_reducible refine Todo.to ?_); try simp only [rT,rU,Nat.reduceLeDiff,Nat.reduceLT,e1,e2,e4,i2,e5,e7,a0,il_set,e8]) | ((with_reducible refine And.intro ?_ ?_); . first | trivial | omega | (simp; done) | (simp; omega)) | (((with_reducible refine zu ?_ ?_ ?_); . rfl) <;> (refine Todo.of ?_))))
 (all_goals (first | exact ⟨_,_,rfl,rfl⟩ | (refine ⟨?_,_,_,rfl,?_⟩ <;> grind [putR,zbz]) | (refine ⟨_,_,rfl,?_⟩; grind [putR,zbz]) | skip))
def zkg (v : MS) (x : Ins) : Int × MS :=
 if zbz v x.a 1 = false then (13,v) else if x.o = 2 then (zsi v,ziq v (v.cells.getD x.a.toNat 0)) else if v.hi < 1 then (13,v) else
   (0,{ popS v with cells := v.cells.set x.a.toNat (popV v) })
theorem low_pop {hp t : List DObj} {n m : Nat} {v : MS} (k : zby hp n m) (r : v.raw.length = 16) : OnlyK (some n) 17 (TM.put hp n m v ++ t) (TM.put hp n m (popS v) ++ t) := by
 intro h
 refine ⟨fun hne => ?_,fun e => ?_⟩
 . have hne' : n ≠ h := fun e => hne (by rw [e])
   have : TM.put hp n m (popS v) ++ t = (TM.put hp n m v ++ t).set n ⟨.loc,20,[mRow m (popS v)]⟩ := (yf4 (v := v) (v' := popS v) k rfl).symm
   rw [this,List.getElem?_set,if_neg hne']
 . cases e
   rw [TM_o k,TM_o k]
   refine ⟨rfl,rfl,rfl,fun i => ?_⟩
   cases i with
   | zero =>
     refine ⟨by simp [zez r,zez (v := popS v) r],?_⟩
     simp only [List.getD_cons_zero,mRow,popS,List.take_succ_cons,List.cons.injEq,true_and]
     rw [List.take_append_of_le_length (by simp [r]),List.take_append_of_le_length (by simp [r])]
   | succ i => simp
noncomputable def yc3 := zf5 TM (fun x : Ins => [.agg (cIns x)]) fun v x => (okM v /\ 0 <= x.a /\ x.a <= 65535,.int .i64 (zkg v x).1,(zkg v x).2)
theorem ok_move : OkH Tryz.prog 134 yc3 := by
 refine OkH.mkT (ps := []) (hs := [(136,z7g),(146,zxl),(137,z5s),(133,zyq)]) zig trivial ⟨z41,z08,z24,z0x,trivial⟩ zro (fun _ => rfl) (fun _ _ _ => rfl) fun n m hp v x k h => ?_
 obtain ⟨h,a0,a1⟩ := h
 have r := h.r
 (have hcondQ := Bool.and_self; refine Todo.of ?_; repeat' (first | ((with_reducible refine Todo.to ?_); try simp only [↓rP,rT,rU,zjq,hdl,zb,dval,zn,dBin,dInt,dUn,zh,za,retV,DR.val,fz1,DV.immB,zw,DV.one,alive,fzL,cellsOf,zk,Nat.reduceEqDiff,Nat.reduceAdd,↓reduceIte,reduceCtorEq,Int.reduceLE,Nat.reduceLT,forall_const,zhs,k,TM_o,TM_c,TM_b,za9,z27,zez,r,List.append_assoc,Nat.add_zero,Duo.put_len,zcm,zke,zmt,zj5,zbz,h,a0,zkp,low_pop,hcondQ]) | ((with_reducible refine And.intro ?_ ?_); . first | trivial | omega | (simp; done) | (simp; omega)) | ((first | ((with_reducible refine zd (t := ?_) ?_ (fun hcQ => ?_) (fun hcQ => ?_)); rotate_left; . rfl) | ((with_reducible refine zl (t := ?_) ?_ (fun hcQ => ?_) (fun hcQ => ?_)); rotate_left; . rfl)) <;> (have hn := hcQ; have hcondQ := hcQ) <;> (try simp only [decide_eq_true_eq,decide_eq_false_iff_not,beq_iff_eq,ne_eq,beq_eq_false_iff_ne,Bool.not_eq_true',Bool.not_eq_false'] at hn) <;> (try (exfalso; omega)) <;> (refine Todo.of ?_)) | (((with_reducible refine zu ?_ ?_ ?_); . rfl) <;> (refine Todo.of ?_))))
 (all_goals (first | exact ⟨_,_,rfl,rfl⟩ | (refine ⟨?_,_,_,rfl,?_⟩ <;> grind [zkg,zbz]) | (refine ⟨_,_,rfl,?_⟩; grind [zkg,zbz]) | skip))
 . have i1 : x.a.toNat < v.cells.length := by omega
   have e2 := zq6 i1
   (have hcondQ := Bool.and_self; refine Todo.of ?_; repeat' (first | ((with_reducible refine Todo.to ?_); try simp only [rT,rU,i1,e2,k,zk5,h]) | ((with_reducible refine And.intro ?_ ?_); . first | trivial | omega | (simp; done) | (simp; omega)) | (((with_reducible refine zu ?_ ?_ ?_); . rfl) <;> (refine Todo.of ?_))))
   (all_goals (first | exact ⟨_,_,rfl,rfl⟩ | (refine ⟨?_,_,_,rfl,?_⟩ <;> grind [zkg,zbz]) | (refine ⟨_,_,rfl,?_⟩; grind [zkg,zbz]) | skip))
 . have i1 : x.a.toNat < v.cells.length := by omega
   have e2 := zq6 i1
   have e1 : (popS v).cells = v.cells := rfl
   have e7 : x.a < (v.cells.length : Int) := by omega
   have e8 := fun y => TM_sc (v := popS v) (t := [⟨.loc,4,[cIns x]⟩]) (c := v.cells.set x.a.toNat y) k (by simp [e1])
   (have hcondQ := Bool.and_self; refine Todo.of ?_; repeat' (first | ((with_reducible refine Todo.to ?_); try simp only [rT,rU,Nat.reduceLeDiff,i1,e1,e2,e7,e8,il_set]) | ((with_reducible refine And.intro ?_ ?_); . first | trivial | omega | (simp; done) | (simp; omega)) | (((with_reducible refine zu ?_ ?_ ?_); . rfl) <;> (refine Todo.of ?_))))
   (all_goals (first | exact ⟨_,_,rfl,rfl⟩ | (refine ⟨?_,_,_,rfl,?_⟩ <;> grind [zkg,zbz]) | (refine ⟨_,_,rfl,?_⟩; grind [zkg,zbz]) | skip))
theorem z8w {hp t : List DObj} {n m : Nat} {v : MS} (k : zby hp n m) : Only (some n) (TM.put hp n m v ++ t) (TM.put hp n m (popS v) ++ t) := Duo.only_o k rfl
def zs4 (v : MS) (x : Ins) : MS := if x.o = 4 then popS v else popS (popS v)
def zso (v : MS) (x : Ins) : Int × Int := if x.o = 4 then unF x.a (popV v) else binF x.a (popV (popS v)) (popV v)
def zmy (v : MS) (x : Ins) : Int × MS :=
 if v.hi < (if x.o = 4 then 1 else 2) then (13,v) else if (zso v x).2 ≠ 0 then ((zso v x).2,zs4 v x) else (zsi (zs4 v x),ziq (zs4 v x) (zso v x).1)
noncomputable def zwm := zf5 TM (fun x : Ins => [.agg (cIns x)]) fun v x => (okM v,.int .i64 (zmy v x).1,(zmy v x).2)
theorem yas : OkH Tryz.prog 135 zwm := by
 refine OkH.mkT (ps := [(147,s_Un),(148,ygo)]) (hs := [(136,z7g),(137,z5s),(133,zyq)]) zig ⟨z6u,z2k,trivial⟩ ⟨z41,z24,z0x,trivial⟩ zlf (fun _ => rfl) (fun _ _ _ => rfl) fun n m hp v x k h => ?_
 have r := h.r
 have k1 := k.1
 (have hcondQ := Bool.and_self; refine Todo.of ?_; repeat' (first | ((with_reducible refine Todo.to ?_); try simp only [↓rP,rT,rU,zjq,sepB,hdl,zb,dval,zn,dBin,dInt,dUn,zh,za,retV,DR.val,DV.immB,ze,zf,zp,zo,zi,zq,DV.one,alive,cellsOf,Nat.reduceEqDiff,Nat.reduceAdd,↓reduceIte,reduceCtorEq,Nat.reduceLT,forall_const,zfy,k,TM_b,List.append_assoc,Nat.add_zero,Duo.put_len,zcm,zke,zj5,zk5,ycv,z8z,fUn,fBin,hcondQ]) | ((with_reducible refine And.intro ?_ ?_); . first | trivial | exact zcu h (by omega) | exact zcu (zcu h (by omega)) (by simp only [popS]; omega) | exact ⟨h,by omega⟩ | exact ⟨⟨h,by omega⟩,z8w k⟩ | exact ⟨⟨zcu h (by omega),by simp only [popS]; omega⟩,z8w k⟩ | exact ⟨zuv h (by omega),zxa h⟩ | omega | (simp; done) | (simp; omega)) | ((first | ((with_reducible refine zd (t := ?_) ?_ (fun hcQ => ?_) (fun hcQ => ?_)); rotate_left; . rfl) | ((with_reducible refine zl (t := ?_) ?_ (fun hcQ => ?_) (fun hcQ => ?_)); rotate_left; . rfl)) <;> (have hn := hcQ; have hcondQ := hcQ) <;> (try simp only [decide_eq_true_eq,decide_eq_false_iff_not,beq_iff_eq,bne_iff_ne,ne_eq,beq_eq_false_iff_ne,bne_eq_false_iff_eq,Bool.not_eq_true',Bool.not_eq_false'] at hn) <;> (try (exfalso; omega)) <;> (refine Todo.of ?_)) | (((with_reducible refine zu ?_ ?_ ?_); . rfl) <;> (refine Todo.of ?_))))
 (all_goals (first | exact ⟨_,_,rfl,rfl⟩ | (refine ⟨?_,_,_,rfl,?_⟩ <;> grind [zmy,zso,zs4]) | (refine ⟨_,_,rfl,?_⟩; grind [zmy,zso,zs4]) | skip))
set_option linter.all false
set_option maxRecDepth 20000
open Go.Nk
section
variable {hp t : List DObj} {n m : Nat} {v : MS}
theorem yfy (k : zby hp n m) (x : Ins) : s_get [.ptr n 1 0 0,.agg (cIns x)] (TM.put hp n m v ++ t) = ⟨okM v /\ 0 <= x.a /\ x.a <= 65535 /\ 1 <= x.b /\ x.b <= 8,.int .i64 (getR v x).1,TM.put hp n m (getR v x).2 ++ t⟩ := zbi zig znr _ k x
theorem yat (k : zby hp n m) (x : Ins) : yfi [.ptr n 1 0 0,.agg (cIns x)] (TM.put hp n m v ++ t) = ⟨okM v /\ 0 <= x.a /\ x.a <= 65535 /\ 1 <= x.b /\ x.b <= 8,.int .i64 (putR v x).1,TM.put hp n m (putR v x).2 ++ t⟩ := zbi zig znr _ k x
theorem z94 (k : zby hp n m) (x : Ins) : yc3 [.ptr n 1 0 0,.agg (cIns x)] (TM.put hp n m v ++ t) = ⟨okM v /\ 0 <= x.a /\ x.a <= 65535,.int .i64 (zkg v x).1,TM.put hp n m (zkg v x).2 ++ t⟩ := zbi zig znr _ k x
theorem z1s (k : zby hp n m) (x : Ins) : zwm [.ptr n 1 0 0,.agg (cIns x)] (TM.put hp n m v ++ t) = ⟨okM v,.int .i64 (zmy v x).1,TM.put hp n m (zmy v x).2 ++ t⟩ := zbi zig znr _ k x
end
def doR (v : MS) (x : Ins) : Int × MS :=
 if zb7 x = false then (13,v) else
 let u : MS := { v with pc := v.pc + 1 }
 if x.o = 1 then (zsi u,ziq u x.n) else if x.o = 2 \/ x.o = 3 then zkg u x else if x.o = 4 \/ x.o = 5 then zmy u x else if x.o = 6 then (0,{ u with pc := x.a }) else
 if x.o = 7 then (if u.hi < 1 then (13,u) else if popV u = 0 then (0,{ popS u with pc := x.a }) else (0,popS u)) else
 if x.o = 8 then getR u x else if x.o = 9 then putR u x else (0,u)
noncomputable def s_do := zf5 TM (fun x : Ins => [.agg (cIns x)]) fun v x => (okM v /\ v.pc < 1000000000,.int .i64 (doR v x).1,(doR v x).2)
theorem s_do_run {hp t : List DObj} {n m : Nat} {v : MS} (k : zby hp n m) (x : Ins) : s_do [.ptr n 1 0 0,.agg (cIns x)] (TM.put hp n m v ++ t) = ⟨okM v /\ v.pc < 1000000000,.int .i64 (doR v x).1,TM.put hp n m (doR v x).2 ++ t⟩ := zbi zig znr _ k x
theorem yft {x : Ins} (h : zb7 x = true) : 0 <= x.a /\ x.a <= 65535 := by
 obtain ⟨o,a,b,n⟩ := x
 simp only [zb7,zho,zdl,Bool.and_eq_true,Bool.or_eq_true,decide_eq_true_eq,beq_iff_eq] at h |-
 obtain ⟨⟨⟨⟨h1,h2⟩,h3⟩,h4⟩,h5⟩ := h
 repeat' split at h3
 all_goals simp at h3
 all_goals omega
theorem right_b {x : Ins} (h : zb7 x = true) (ho : x.o = 8 \/ x.o = 9) : 1 <= x.b /\ x.b <= 8 := by
 obtain ⟨o,a,b,n⟩ := x
 simp only [zb7,zho,zdl,Bool.and_eq_true] at h ho |-
 have h5 := h.2
 rw [if_pos ho] at h5
 simpa using h5
theorem ok_do : OkH Tryz.prog 126 s_do := by
 refine OkH.mkT (ps := [(132,z5q)]) (hs := [(136,z7g),(137,z5s),(133,zyq),(138,s_get),(139,yfi),(134,yc3),(135,zwm)]) zig ⟨zxp,trivial⟩ ⟨z41,z24,z0x,ok_get,ok_putI,ok_move,yas,trivial⟩ zwa (fun _ => rfl) (fun _ _ _ => rfl) fun n m hp v x k h => ?_
 obtain ⟨h,hpc⟩ := h
 have r := h.r
 have p0 := h.p0
 have e := ya3 x
 by_cases hr : zb7 x = true
 rotate_left
 . have hr' : zb7 x = false := by simpa using hr
   (have hcondQ := Bool.and_self; refine Todo.of ?_; repeat' (first | ((with_reducible refine Todo.to ?_); try simp only [↓rP,rT,rU,zb,dval,zn,dUn,zh,za,retV,DR.val,DV.immB,ze,zf,zp,zo,zx,zi,zq,DV.one,cellsOf,Nat.reduceEqDiff,Nat.reduceAdd,↓reduceIte,reduceCtorEq,Nat.reduceLeDiff,forall_const,zgq,TM_b,List.append_assoc,Nat.add_zero,Duo.put_len,zcm,e,hr']) | ((with_reducible refine And.intro ?_ ?_); . first | trivial | omega | (simp; done) | (simp; omega)) | (((with_reducible refine zu ?_ ?_ ?_); . rfl) <;> (refine Todo.of ?_))))
   (all_goals (first | exact ⟨_,_,rfl,rfl⟩ | (refine ⟨?_,_,_,rfl,?_⟩ <;> grind [doR]) | (refine ⟨_,_,rfl,?_⟩; grind [doR]) | skip))
 have hu : okM { v with pc := v.pc + 1 } := ⟨h.r,h.h0,h.h1,by simp only; omega,by simp only; omega,h.u0,h.u1,h.c,h.ri,h.ci⟩
 have w : IntKind.i64.wrap (v.pc + 1) = v.pc + 1 := z9 (by omega)
 have ra := yft hr
 have rp : (popS { v with pc := v.pc + 1 }).raw.length = 16 := h.r
 have rb := fun h => right_b hr h
 (have hcondQ := Bool.and_self; refine Todo.of ?_; repeat' (first | ((with_reducible refine Todo.to ?_); try simp only [↓rP,rT,rU,zb,dval,zn,dBin,dInt,dUn,zh,za,retV,DR.val,DV.immB,ze,zf,zp,zo,zx,zi,zq,zw,DV.one,alive,cellsOf,Nat.reduceEqDiff,Nat.reduceAdd,↓reduceIte,reduceCtorEq,Nat.reduceLeDiff,Nat.reduceLT,forall_const,zgq,k,TM_o,TM_b,yf4,z0l,mRow_s18,zez,r,rp,List.append_assoc,Nat.add_zero,Duo.put_len,zcm,e,hr,w,zke,zj5,zk5,yfy,yat,z94,z1s,hu,ra ,hcondQ]) | ((with_reducible refine And.intro ?_ ?_); . first | trivial | exact ⟨hu,ra⟩ | exact ⟨hu,ra.1,ra.2,rb (by omega)⟩ | omega | (simp; done) | (simp; omega)) | ((first | ((with_reducible refine zd (t := ?_) ?_ (fun hcQ => ?_) (fun hcQ => ?_)); rotate_left; . rfl) | ((with_reducible refine zl (t := ?_) ?_ (fun hcQ => ?_) (fun hcQ => ?_)); rotate_left; . rfl)) <;> (have hn := hcQ; have hcondQ := hcQ) <;> (try simp only [decide_eq_true_eq,decide_eq_false_iff_not,beq_iff_eq,ne_eq,beq_eq_false_iff_ne,Bool.not_eq_true',Bool.not_eq_false'] at hn) <;> (try (exfalso; omega)) <;> (refine Todo.of ?_)) | (((with_reducible refine zu ?_ ?_ ?_); . rfl) <;> (refine Todo.of ?_))))
 (all_goals (first | exact ⟨_,_,rfl,rfl⟩ | (refine ⟨?_,_,_,rfl,?_⟩ <;> grind [doR]) | (refine ⟨_,_,rfl,?_⟩; grind [doR]) | skip))
set_option linter.all false
set_option maxRecDepth 20000
open Go.Nk
theorem tr_in (b : Bool) : in64 (tr b) := by cases b <;> simp [tr,in64]
theorem unF_in (op a : Int) : in64 (unF op a).1 := by
 unfold unF
 split
 . exact z2h _
 . split
   . exact tr_in _
   . simp [in64]
theorem numF_in {op a b : Int} (ha : in64 a) (hb : in64 b) : in64 (numF op a b).1 := by
 unfold numF
 split
 . exact z2h _
 . split
   . exact z2h _
   . split
     . exact z2h _
     . split
       . simp [in64]
       . rename_i h0
         split
         . exact z2h _
         . exact ye1 ha hb h0
theorem yf7 {op a b : Int} (ha : in64 a) (hb : in64 b) : in64 (binF op a b).1 := by
 unfold binF
 split
 . exact numF_in ha hb
 . split
   . exact tr_in _
   . simp [in64]
theorem okM_push {v : MS} {x : Int} (h : okM v) (hx : in64 x) : okM (ziq v x) := by
 unfold ziq
 split
 . exact h
 . rename_i hne
   refine ⟨by simp [h.r],by have := h.h0; simp only; omega,by have := h.h1; simp only; omega,h.p0,h.p1,h.u0,h.u1,h.c,fun y hy => ?_,h.ci⟩
   rcases List.mem_or_eq_of_mem_set hy with hy | rfl
   . exact h.ri y hy
   . exact hx
theorem z4b {v : MS} {i : Nat} {x : Int} (h : okM v) (hx : in64 x) : okM { v with cells := v.cells.set i x } := by
 refine ⟨h.r,h.h0,h.h1,h.p0,h.p1,h.u0,h.u1,by simpa using h.c,h.ri,fun y hy => ?_⟩
 rcases List.mem_or_eq_of_mem_set hy with hy | rfl
 . exact h.ci y hy
 . exact hx
theorem yg7 {v : MS} {x : Int} (h : okM v) (h0 : 0 <= x) (h1 : x <= 1000000000) : okM { v with pc := x } := ⟨h.r,h.h0,h.h1,h0,h1,h.u0,h.u1,h.c,h.ri,h.ci⟩
theorem z07 {v : MS} {x : Int} (h : okM v) (h0 : 0 <= x) (h1 : x <= 1000000000) : okM { v with used := x } := ⟨h.r,h.h0,h.h1,h.p0,h.p1,h0,h1,h.c,h.ri,h.ci⟩
theorem yg6 {v : MS} (h : okM v) (i : Nat) : in64 (v.cells.getD i 0) := by
 rw [List.getD_eq_getElem?_getD]
 cases e : v.cells[i]? with
 | none => simp [in64]
 | some x => exact h.ci x (List.mem_of_getElem? e)
structure After (v u : MS) (p : Int) : Prop where
 ok : okM u
 pc : u.pc <= p
 used : u.used = v.used
 len : u.cells.length = v.cells.length
theorem pushS_pc (v : MS) (x : Int) : (ziq v x).pc = v.pc := by unfold ziq; split <;> rfl
theorem ycn (v : MS) (x : Int) : (ziq v x).used = v.used := by unfold ziq; split <;> rfl
theorem z7f (v : MS) (x : Int) : (ziq v x).cells = v.cells := by unfold ziq; split <;> rfl
theorem zk2 {v : MS} {x : Int} (h : okM v) (hx : in64 x) : After v (ziq v x) v.pc := ⟨okM_push h hx,by rw [pushS_pc]; exact Int.le_refl _,ycn _ _,by rw [z7f]⟩
theorem yds {v : MS} {x : Ins} (h : okM v) : After v (getR v x).2 v.pc := by
 unfold getR
 split
 . exact ⟨h,Int.le_refl _,rfl,rfl⟩
 . rename_i hc
   have hp := zcu h (by omega)
   split
   . exact ⟨hp,Int.le_refl _,rfl,rfl⟩
   . have := zk2 hp (yg6 h (x.a.toNat + (popV v).toNat))
     exact ⟨this.ok,this.pc,this.used,this.len⟩
theorem yd5 {v : MS} {x : Ins} (h : okM v) : After v (putR v x).2 v.pc := by
 unfold putR
 split
 . exact ⟨h,Int.le_refl _,rfl,rfl⟩
 . rename_i hc
   have hp := zcu h (by omega)
   have hp2 := zcu hp (by simp only [popS]; omega)
   split
   . exact ⟨hp2,Int.le_refl _,rfl,rfl⟩
   . exact ⟨z4b (v := popS (popS v)) hp2 (zxa hp),Int.le_refl _,rfl,by simp⟩
theorem ycd {v : MS} {x : Ins} (h : okM v) : After v (zkg v x).2 v.pc := by
 unfold zkg
 split
 . exact ⟨h,Int.le_refl _,rfl,rfl⟩
 . split
   . exact zk2 h (yg6 h _)
   . split
     . exact ⟨h,Int.le_refl _,rfl,rfl⟩
     . rename_i hc
       have hp := zcu h (by omega)
       exact ⟨z4b (v := popS v) hp (zxa h),Int.le_refl _,rfl,by simp⟩
theorem operV_in {v : MS} {x : Ins} (h : okM v) (h1 : ¬ v.hi < (if x.o = 4 then 1 else 2)) : in64 (zso v x).1 := by
 unfold zso
 split
 . exact unF_in _ _
 . rename_i c
   rw [if_neg c] at h1
   exact yf7 (zuv h (by omega)) (zxa h)
theorem operS_ok {v : MS} {x : Ins} (h : okM v) (h1 : ¬ v.hi < (if x.o = 4 then 1 else 2)) : After v (zs4 v x) v.pc := by
 unfold zs4
 split
 . rename_i c
   rw [if_pos c] at h1
   exact ⟨zcu h (by omega),Int.le_refl _,rfl,rfl⟩
 . rename_i c
   rw [if_neg c] at h1
   exact ⟨zcu (zcu h (by omega)) (by simp only [popS]; omega),Int.le_refl _,rfl,rfl⟩
theorem ya6 {v : MS} {x : Ins} (h : okM v) : After v (zmy v x).2 v.pc := by
 unfold zmy
 by_cases hc : v.hi < (if x.o = 4 then 1 else 2)
 . rw [if_pos hc]; exact ⟨h,Int.le_refl _,rfl,rfl⟩
 . rw [if_neg hc]
   have hs := operS_ok h hc
   split
   . exact hs
   . have := zk2 hs.ok (operV_in h hc)
     exact ⟨this.ok,Int.le_trans this.pc hs.pc,this.used.trans hs.used,this.len.trans hs.len⟩
theorem z11 {v : MS} {x : Ins} (h : okM v) (hp : v.pc < 1000000) (hn : in64 x.n) : After v (doR v x).2 1000000 := by
 unfold doR
 have p0 := h.p0
 have hu : okM { v with pc := v.pc + 1 } := yg7 h (by omega) (by omega)
 have lift : ∀ {u : MS} {p : Int},p <= 1000000 -> After { v with pc := v.pc + 1 } u p -> After v u 1000000 := fun hp a => ⟨a.ok,Int.le_trans a.pc hp,a.used,a.len⟩
 split
 . exact ⟨h,by simp only; omega,rfl,rfl⟩
 . rename_i hr
   have hr' : zb7 x = true := by simpa using hr
   have ra := yft hr'
   dsimp only
   split
   . exact lift (p := v.pc + 1) (by omega) (zk2 hu hn)
   . split
     . exact lift (p := v.pc + 1) (by omega) (ycd hu)
     . split
       . exact lift (p := v.pc + 1) (by omega) (ya6 hu)
       . split
         . exact ⟨yg7 h (by omega) (by omega),by simp only; omega,rfl,rfl⟩
         . split
           . split
             . exact ⟨hu,by simp only; omega,rfl,rfl⟩
             . rename_i hc
               have hc' : ¬ v.hi < 1 := hc
               have hq := zcu hu (by simp only; omega)
               split
               . exact ⟨yg7 hq (by omega) (by omega),by simp only; omega,rfl,rfl⟩
               . exact ⟨hq,by simp only [popS]; omega,rfl,rfl⟩
           . split
             . exact lift (p := v.pc + 1) (by omega) (yds hu)
             . split
               . exact lift (p := v.pc + 1) (by omega) (yd5 hu)
               . exact ⟨hu,by simp only; omega,rfl,rfl⟩
def runN (code : List Ins) : Nat -> MS -> Int × MS
 | 0,v => if (code.length : Int) <= v.pc then (13,v) else (17,v)
 | k + 1,v => if (code.length : Int) <= v.pc then (13,v) else
   let r := doR { v with used := v.used + 1 } (code.getD v.pc.toNat default)
   if r.1 ≠ 0 \/ (code.getD v.pc.toNat default).o = 10 then r else runN code k r.2
theorem injL_run : InjL (fun x : List Ins × Int => [DV.sl (x.1.map cIns),.int .i64 x.2]) := fun x y h => by
 obtain ⟨a,b⟩ := x; obtain ⟨c,d⟩ := y
 simp only [List.cons.injEq,DV.sl.injEq,DV.int.injEq,true_and,and_true] at h
 obtain ⟨h1,rfl⟩ := h
 rw [List.map_inj_right (fun x y e => zk0 x y e) |>.1 h1]
structure okRun (v : MS) (x : List Ins × Int) : Prop where
 ok : okM v
 pc : v.pc <= 1000000
 used : v.used = 0
 len : x.1.length <= 1000000
 fuel : x.2 <= 1000000
 ins : ∀ i ∈ x.1,in64 i.n
noncomputable def s_run := zf5 TM (fun x : List Ins × Int => [.sl (x.1.map cIns),.int .i64 x.2]) fun v x => (okRun v x,.int .i64 (runN x.1 x.2.toNat v).1,(runN x.1 x.2.toNat v).2)
theorem yeg {hp t : List DObj} {n m : Nat} {v : MS} (k : zby hp n m) (x : List Ins × Int) : s_run [.ptr n 1 0 0,.sl (x.1.map cIns),.int .i64 x.2] (TM.put hp n m v ++ t) = ⟨okRun v x,.int .i64 (runN x.1 x.2.toNat v).1,TM.put hp n m (runN x.1 x.2.toNat v).2 ++ t⟩ := zbi zig injL_run _ k x
theorem ok_run : OkH Tryz.prog 117 s_run := by
 refine OkH.mkT (ps := []) (hs := [(126,s_do)]) zig trivial ⟨ok_do,trivial⟩ zsj (fun _ => rfl) (fun _ _ _ => rfl) fun n m hp v x k h => ?_
 obtain ⟨code,fuel⟩ := x
 obtain ⟨h,hpc,hu0,hlen,hfuel,hins⟩ := h
 simp only at hlen hfuel hins |-
 (have hcondQ := Bool.and_self; refine Todo.of ?_; repeat' (first | ((with_reducible refine Todo.to ?_); try simp only [↓rP,rT,zb,dval,zn,Nat.reduceAdd,zi7]) | ((with_reducible refine And.intro ?_ ?_); . first | trivial | omega | (simp; done) | (simp; omega)) | (((with_reducible refine zu ?_ ?_ ?_); . rfl) <;> (refine Todo.of ?_))))
 refine zfk (fun x : MS × List DObj => ⟨[(0,.ptr n 1 0 0),(1,.sl (code.map cIns)),(2,.int .i64 fuel)],TM.put hp n m x.1 ++ x.2⟩)
   (fun x => okM x.1 /\ x.1.pc <= 1000000 /\ (x.1.used <= fuel \/ x.1.used = 0) /\ runN code (fuel - x.1.used).toNat x.1 = runN code fuel.toNat v) (fun x => (fuel - x.1.used).toNat) (v,[]) (by exact trivial) ?_ ⟨h,hpc,.inr hu0,by rw [hu0,Int.sub_zero]⟩ fun x hx => ?_
 . simp only [DS.cut,List.map_cons,List.map_nil,zc,Nat.reduceEqDiff,↓reduceIte,Nat.succ_ne_self]
 obtain ⟨u,t⟩ := x
 obtain ⟨hu,hp',hus,hR⟩ := hx
 simp only at hu hp' hus hR |-
 have r := hu.r
 have p0 := hu.p0
 have u0 := hu.u0
 by_cases c1 : (code.length : Int) <= u.pc
 . have e : runN code (fuel - u.used).toNat u = (13,u) := by cases (fuel - u.used).toNat <;> simp [runN,c1]
   rw [<- hR,e]
   (have hcondQ := Bool.and_self; refine Todo.of ?_; repeat' (first | ((with_reducible refine Todo.to ?_); try simp only [↓rP,rT,rU,zb,dval,dBin,dInt,zh,za,retV,DR.val,alive,Nat.reduceEqDiff,Nat.reduceAdd,↓reduceIte,reduceCtorEq,Nat.reduceLT,k,TM_o,z0l,r,zcm,c1]) | ((with_reducible refine And.intro ?_ ?_); . first | trivial | omega | (simp; done) | (simp; omega)) | (((with_reducible refine zu ?_ ?_ ?_); . rfl) <;> (refine Todo.of ?_))))
   (all_goals (first | exact ⟨_,_,rfl,rfl⟩ | (refine ⟨?_,_,_,rfl,?_⟩ <;> grind [runN]) | (refine ⟨_,_,rfl,?_⟩; grind [runN]) | skip))
 by_cases c2 : fuel <= u.used
 . have e0 : (fuel - u.used).toNat = 0 := by omega
   have e : runN code (fuel - u.used).toNat u = (17,u) := by rw [e0]; simp [runN,c1]
   rw [<- hR,e]
   (have hcondQ := Bool.and_self; refine Todo.of ?_; repeat' (first | ((with_reducible refine Todo.to ?_); try simp only [↓rP,rT,rU,zb,dval,dBin,dInt,zh,za,retV,DR.val,alive,Nat.reduceEqDiff,Nat.reduceAdd,↓reduceIte,reduceCtorEq,Nat.reduceLT,k,TM_o,z0l,z69,r,zcm,c1,c2]) | ((with_reducible refine And.intro ?_ ?_); . first | trivial | omega | (simp; done) | (simp; omega)) | (((with_reducible refine zu ?_ ?_ ?_); . rfl) <;> (refine Todo.of ?_))))
   (all_goals (first | exact ⟨_,_,rfl,rfl⟩ | (refine ⟨?_,_,_,rfl,?_⟩ <;> grind [runN]) | (refine ⟨_,_,rfl,?_⟩; grind [runN]) | skip))
 obtain ⟨q,hq⟩ : ∃ q,(fuel - u.used).toNat = q + 1 := ⟨(fuel - u.used).toNat - 1,by omega⟩
 have hx : u.pc.toNat < code.length := by omega
 have hrow := getD_map cIns code u.pc.toNat hx
 have w : IntKind.i64.wrap (u.used + 1) = u.used + 1 := z9 (by omega)
 have hk : okM { u with used := u.used + 1 } := z07 hu (by omega) (by omega)
 have hin : in64 (code.getD u.pc.toNat default).n := hins _ (by rw [List.getD_eq_getElem?_getD,List.getElem?_eq_getElem hx]; exact List.getElem_mem hx)
 have ha := z11 (x := code.getD u.pc.toNat default) hk (by simp only; omega) hin
 rw [hq] at hR
 simp only [runN,c1,if_false] at hR
 have hb : 0 <= u.pc /\ u.pc < (code.length : Int) := by omega
 generalize hX : code.getD u.pc.toNat default = X at hrow ha hR hin
 (have hcondQ := Bool.and_self; refine Todo.of ?_; repeat' (first | ((with_reducible refine Todo.to ?_); try simp only [↓rP,rT,rU,zb,dval,dBin,dInt,zh,za,retV,DR.val,zw,DV.one,alive,cellsOf,zk,Nat.reduceEqDiff,Nat.reduceAdd,↓reduceIte,reduceCtorEq,Nat.reduceLeDiff,Nat.reduceLT,forall_const,k,TM_o,yf4,z0l,z69,mRow_s19,zez,r,List.append_assoc,Nat.add_zero,Duo.put_len,zcm,c1,c2,hb,hrow,w,Duo.get_bt,Duo.set_bt,s_do_run ,hcondQ]) | ((with_reducible refine And.intro ?_ ?_); . first | trivial | exact ⟨hk,by omega⟩ | omega | (simp; done) | (simp; omega)) | ((first | ((with_reducible refine zd (t := ?_) ?_ (fun hcQ => ?_) (fun hcQ => ?_)); rotate_left; . rfl) | ((with_reducible refine zl (t := ?_) ?_ (fun hcQ => ?_) (fun hcQ => ?_)); rotate_left; . rfl)) <;> (have hn := hcQ; have hcondQ := hcQ) <;> (try simp only [beq_iff_eq,bne_iff_ne,ne_eq,beq_eq_false_iff_ne,bne_eq_false_iff_eq] at hn) <;> (try (exfalso; omega)) <;> (refine Todo.of ?_)) | (((with_reducible refine zu ?_ ?_ ?_); . rfl) <;> (refine Todo.of ?_))))
 . rw [if_pos (by grind)] at hR; rw [<- hR]; exact ⟨rfl,_,_,rfl,rfl⟩
 . rw [if_pos (by grind)] at hR; rw [<- hR]; exact ⟨rfl,_,_,rfl,rfl⟩
 . rw [if_neg (by grind)] at hR
   have hu2 := ha.used
   simp only at hu2
   have e2 : (fuel - (u.used + 1)).toNat = q := by omega
   simp only [DS.cut,List.map_cons,List.map_nil,zc,Nat.reduceEqDiff,↓reduceIte,Nat.succ_ne_self]
   refine ⟨((doR { u with used := u.used + 1 } X).2,_),rfl,⟨ha.ok,ha.pc,.inl (by rw [hu2]; omega),by rw [hu2,e2]; exact hR⟩,by rw [hu2]; omega⟩
set_option linter.all false
set_option maxRecDepth 20000
open Go.Nk
@[reducible] def eIl (l : List Int) : DV := .sl (il l)
theorem zsa : Inj eIl := fun _ _ h => zwb (by simpa [eIl] using h)
@[reducible] def eCode (l : List Ins) : DV := .sl (l.map cIns)
theorem inj_Code : Inj eCode := fun _ _ h => (List.map_inj_right (fun x y e => zk0 x y e)).1 (by simpa [eCode] using h)
theorem ye0 (x : Int) (y : List Int) : il (x :: y) = [.int .i64 x] :: il y := rfl
noncomputable def ztx : List DV -> List DObj -> Res := fun a hp => ⟨∃ l : List Int,a = [eIl l] /\ l.length <= 4294967296,match a with | [.sl es] => .own hp.length es.length 0 es.length | _ => .undef,match a with | [.sl es] => hp ++ [⟨.imm,1,es⟩] | _ => []⟩
theorem zt0 (l : List Int) (hp : List DObj) : ztx [.sl (il l)] hp = ⟨l.length <= 4294967296,.own hp.length l.length 0 l.length,hp ++ [⟨.imm,1,il l⟩]⟩ := by
 unfold ztx
 simp only [Res.mk.injEq,za9,and_true]
 refine propext ⟨fun ⟨l',h1,h2⟩ => ?_,fun h => ⟨l,rfl,h⟩⟩
 have := zwb (by simpa [eIl] using h1 : il l = il l')
 rw [this]; exact h2
theorem getL (hp : List DObj) (a : DObj) : (hp ++ [a])[hp.length]? = some a := by simp
theorem setL (hp : List DObj) (a b : DObj) : (hp ++ [a]).set hp.length b = hp ++ [b] := by
 rw [List.set_append_right _ _ (Nat.le_refl _)]; simp
theorem ygx : OkH Tryz.prog 52 ztx := by
 refine OkH.mk (ps := []) (hs := []) (n := 1) trivial trivial zdg fun a hp h => ?_
 obtain ⟨l,rfl,hl⟩ := h
 refine ⟨rfl,?_⟩
 have r := zpl l
 have hb : l.length <= zat := hl
 rw [zt0]
 cases l with
 | nil =>
   (have hcondQ := Bool.and_self; refine Todo.of ?_; repeat' (first | ((with_reducible refine Todo.to ?_); try simp only [↓rP,rT,rU,zb,dval,zn,retV,DR.val,zy,zax,fzLL,zat,Nat.reduceEqDiff,↓reduceIte,reduceCtorEq,Nat.reduceLeDiff,forall_const,zau,eIl,il,getL,setL ]) | ((with_reducible refine And.intro ?_ ?_); . first | trivial | exact Nat.zero_le _ | omega | (simp; done) | (simp; omega)) | (((with_reducible refine zu ?_ ?_ ?_); . rfl) <;> (refine Todo.of ?_))))
   all_goals first | exact Nat.zero_le _
 | cons x y =>
   have hb' : y.length + 1 <= zat := hb
   have r' := zpl y
   have hb2 : y.length <= 4294967295 := by unfold zat at hb'; omega
   have tk : (il y).take y.length = il y := List.take_of_length_le (by rw [za9]; exact Nat.le_refl _)
   (have hcondQ := Bool.and_self; refine Todo.of ?_; repeat' (first | ((with_reducible refine Todo.to ?_); try simp only [↓rP,rT,rU,zb,dval,zn,retV,DR.val,zy,zax,fzLL,zat,Nat.reduceEqDiff,↓reduceIte,reduceCtorEq,Nat.reduceLeDiff,forall_const,zau,eIl,ye0,za9,getL,setL ]) | ((with_reducible refine And.intro ?_ ?_); . first | trivial | exact ⟨hb',r'⟩ | omega | (simp; done) | (simp; omega)) | (((with_reducible refine zu ?_ ?_ ?_); . rfl) <;> (refine Todo.of ?_))))
   all_goals first | exact Nat.zero_le _ | exact r' | exact tk | exact hb2 | exact Nat.le_refl _ | exact ⟨⟨r',hb2⟩,Nat.le_refl _⟩
noncomputable def znq : List DV -> Prop × DV := zbp eIl fun l => (l.length <= 4294967296,eIl l)
theorem zi5 (l : List Int) : znq [.sl (il l)] = (l.length <= 4294967296,.sl (il l)) := z8 zsa _ _
theorem zuk : OkP Tryz.prog 52 znq := by
 refine OkP.mk1 (ps := []) (hs := []) trivial trivial zdg fun l h => ?_
 cases l with
 | nil =>
   (have hcondQ := Bool.and_self; refine Todo.of ?_; repeat' (first | ((with_reducible refine Todo.to ?_); try simp only [↓rP,rT,rU,zb,dval,retV,DR.val,fzT,fzV,fz1,zy,zax,freezeAt,fzLL,zat,Nat.reduceEqDiff,↓reduceIte,reduceCtorEq,Nat.reduceLeDiff,forall_const,zau,eIl,il ]) | ((with_reducible refine And.intro ?_ ?_); . first | trivial | exact Nat.zero_le _ | omega | (simp; done) | (simp; omega)) | (((with_reducible refine zu ?_ ?_ ?_); . rfl) <;> (refine Todo.of ?_))))
   all_goals first | exact Nat.zero_le _
 | cons x y =>
   have hb' : y.length + 1 <= zat := h
   have r' := zpl y
   have hb2 : y.length <= 4294967295 := by unfold zat at hb'; omega
   have tk : (il y).take y.length = il y := List.take_of_length_le (by rw [za9]; exact Nat.le_refl _)
   (have hcondQ := Bool.and_self; refine Todo.of ?_; repeat' (first | ((with_reducible refine Todo.to ?_); try simp only [↓rP,rT,rU,zb,dval,retV,DR.val,fzT,fzV,fz1,zy,zax,freezeAt,fzLL,zat,Nat.reduceEqDiff,↓reduceIte,reduceCtorEq,Nat.reduceLeDiff,forall_const,zau,eIl,ye0,za9,tk ]) | ((with_reducible refine And.intro ?_ ?_); . first | trivial | exact ⟨hb',r'⟩ | omega | (simp; done) | (simp; omega)) | (((with_reducible refine zu ?_ ?_ ?_); . rfl) <;> (refine Todo.of ?_))))
   all_goals first | exact Nat.zero_le _ | exact r' | exact tk | exact hb2 | exact Nat.le_refl _ | exact ⟨⟨r',hb2⟩,Nat.le_refl _⟩
def m0 (cells : List Int) : MS := ⟨cells,[0,0,0,0,0,0,0,0,0,0,0,0,0,0,0,0],0,0,0⟩
def vmF (code : List Ins) (cells : List Int) (fuel : Int) : List Int × Int × Int :=
 let r := runN code fuel.toNat (m0 cells)
 if r.1 ≠ 0 then (cells,r.2.used,r.1) else (r.2.cells,r.2.used,0)
structure okVm (code : List Ins) (cells : List Int) (fuel : Int) : Prop where
 len : code.length <= 1000000
 fuel : fuel <= 1000000
 ins : ∀ i ∈ code,in64 i.n
 c : cells.length <= 1000000
 ci : ∀ x ∈ cells,in64 x
def fVm (code : List Ins) (cells : List Int) (fuel : Int) : Prop × DV := (okVm code cells fuel,.tup [.sl (il (vmF code cells fuel).1),.int .i64 (vmF code cells fuel).2.1,.int .i64 (vmF code cells fuel).2.2])
noncomputable def s_vm : List DV -> Prop × DV := zec eCode eIl eI fVm
theorem s_vm_at (code : List Ins) (cells : List Int) (fuel : Int) : s_vm [.sl (code.map cIns),.sl (il cells),.int .i64 fuel] = fVm code cells fuel := za2 inj_Code zsa zcr _ _ _ _
theorem okM_0 {cells : List Int} (c : cells.length <= 1000000) (ci : ∀ x ∈ cells,in64 x) : okM (m0 cells) :=
 ⟨rfl,by simp [m0],by simp [m0],by simp [m0],by simp [m0],by simp [m0],by simp [m0],c,fun x hx => by simp [m0] at hx; subst hx; simp [in64],ci⟩
theorem zm1 (code : List Ins) (hin : ∀ i ∈ code,in64 i.n) (hl : code.length <= 1000000) : ∀ (k : Nat) (v : MS),okM v -> v.pc <= 1000000 -> v.used + k <= 1000000 ->
   okM (runN code k v).2 /\ (runN code k v).2.cells.length = v.cells.length /\ v.used <= (runN code k v).2.used /\ (runN code k v).2.used <= v.used + k
 | 0,v,h,_,_ => by unfold runN; split <;> exact ⟨h,rfl,by simp only; omega,by simp only; omega⟩
 | k + 1,v,h,hp,hu => by
   unfold runN
   split
   . exact ⟨h,rfl,by simp only; omega,by simp only; omega⟩
   . rename_i c
     have p0 := h.p0
     have u0 := h.u0
     have hx : v.pc.toNat < code.length := by omega
     have hi : in64 (code.getD v.pc.toNat default).n := hin _ (by rw [List.getD_eq_getElem?_getD,List.getElem?_eq_getElem hx]; exact List.getElem_mem hx)
     have ha := z11 (x := code.getD v.pc.toNat default) (z07 h (x := v.used + 1) (by omega) (by omega)) (by simp only; omega) hi
     have hq := ha.used
     simp only at hq
     dsimp only
     split
     . exact ⟨ha.ok,ha.len,by rw [hq]; omega,by rw [hq]; omega⟩
     . obtain ⟨r1,r2,r3,r4⟩ := zm1 code hin hl k _ ha.ok ha.pc (by rw [hq]; omega)
       exact ⟨r1,r2.trans ha.len,by rw [hq] at r3; omega,by rw [hq] at r4; omega⟩
theorem ok_vm : OkP Tryz.prog 95 s_vm := by
 refine OkP.mk3 (ps := [(52,znq)]) (hs := [(52,ztx),(117,s_run)]) ⟨zuk,trivial⟩ ⟨ygx,ok_run,trivial⟩ m_vm_Run fun code cells fuel h => ?_
 have hk := okM_0 h.c h.ci
 have hc : cells.length <= 4294967296 := by have := h.c; omega
 have e1 := zt0 cells []
 rw [eq_true hc] at e1
 simp only [List.nil_append,List.length_nil] at e1
 obtain ⟨H,eH⟩ : ∃ H : List DObj,H = [⟨.imm,1,il cells⟩,⟨.loc,20,[mRow 0 (m0 cells)]⟩] := ⟨_,rfl⟩
 have hk3 : zby H 1 0 := by subst eH; exact ⟨by simp,by simp,by decide⟩
 have e2 := yeg (t := []) hk3 (v := m0 cells) (code,fuel)
 have e3 : okRun (m0 cells) (code,fuel) := ⟨hk,by simp [m0],rfl,h.len,h.fuel,h.ins⟩
 rw [eq_true e3] at e2
 have e4 : TM.put H 1 0 (m0 cells) ++ [] = [⟨.imm,1,il cells⟩,⟨.loc,20,[[.own 0 cells.length 0 cells.length,.int .i64 0,.int .i64 0,.int .i64 0,.int .i64 0,.int .i64 0,.int .i64 0,.int .i64 0,.int .i64 0,.int .i64 0,.int .i64 0,.int .i64 0,.int .i64 0,.int .i64 0,.int .i64 0,.int .i64 0,.int .i64 0,.int .i64 0,.int .i64 0,.int .i64 0]]⟩] := by subst eH; rfl
 rw [e4] at e2
 simp only at e2
 have h1 := h.len
 have h2 := h.fuel
 obtain ⟨r1,r2,r3,r4⟩ := zm1 code h.ins h.len fuel.toNat (m0 cells) hk (by simp [m0]) (by simp [m0]; omega)
 have hm : (m0 cells).cells = cells := rfl
 rw [hm] at r2
 generalize eR : runN code fuel.toNat (m0 cells) = R at *
 have r := r1.r
 have tk : (il R.2.cells).take cells.length = il R.2.cells := List.take_of_length_le (by rw [za9,r2]; exact Nat.le_refl _)
 (have hcondQ := Bool.and_self; refine Todo.of ?_; repeat' (first | ((with_reducible refine Todo.to ?_); try simp only [↓rP,rT,rU,eI,zr,zb,dval,dBin,dInt,zh,za,retV,retL,DR.val,fzT,fzVs,fzV,fz1,DV.immB,ze,zf,zp,zo,zi,zq,zy,DV.one,alive,freezeAt,cellsOf,zk,DV.isU,Nat.reduceEqDiff,Nat.reduceAdd,↓reduceIte,reduceCtorEq,Nat.reduceLeDiff,Nat.reduceLT,forall_const,z71,e1,e2,za9,hc,zi5,hk3,TM_o,TM_c,z27,zez,z69,r,r2,tk,fVm,vmF,eR,hcondQ]) | ((with_reducible refine And.intro ?_ ?_); . first | trivial | omega | (simp; done) | (simp; omega)) | ((first | ((with_reducible refine zd (t := ?_) ?_ (fun hcQ => ?_) (fun hcQ => ?_)); rotate_left; . rfl) | ((with_reducible refine zl (t := ?_) ?_ (fun hcQ => ?_) (fun hcQ => ?_)); rotate_left; . rfl)) <;> (have hn := hcQ; have hcondQ := hcQ) <;> (try simp only [bne_iff_ne,ne_eq,bne_eq_false_iff_eq] at hn) <;> (try (exfalso; omega)) <;> (refine Todo.of ?_)) | (((with_reducible refine zu ?_ ?_ ?_); . rfl) <;> (refine Todo.of ?_))))
 all_goals simp_all
end Go.Proofs.YtjgefhgkinocmaaGreat
