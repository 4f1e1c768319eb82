/- Types, enums: which are right, how many cells, which are alike. -/
import Derived.Test.YtjgefhgkinocmaaGreatBa
import Derived.Test.YtjgefhgkinocmaaGreatIdx
import Derived.Test.YtjgefhgkinocmaaGreatNkZ3
set_option linter.all false
set_option maxRecDepth 20000
namespace Go.Proofs.YtjgefhgkinocmaaGreat
open Go.Nk
structure Ty where
 k : Int
 e : Int
 n : Int
@[reducible] def cTy (t : Ty) : List DV := [.int .i64 t.k,.int .i64 t.e,.int .i64 t.n]
theorem zpy : ∀ x y,cTy x = cTy y -> x = y := fun x y h => by
 cases x; cases y
 simp only [cTy,List.cons.injEq,DV.int.injEq,true_and,and_true] at h
 obtain ⟨rfl,rfl,rfl⟩ := h
 rfl
instance : Inhabited Ty := ⟨⟨0,0,0⟩⟩
abbrev eTy : Ty -> DV := eA cTy
theorem zii : Inj eTy := zt8 zpy
structure En where
 name : List UInt8
 ct : List (List UInt8)
@[reducible] def cEn (x : En) : List DV := [.str x.name,.sl (sls x.ct)]
theorem z6z : ∀ x y,cEn x = cEn y -> x = y := fun x y h => by
 cases x; cases y
 simp only [cEn,List.cons.injEq,DV.str.injEq,DV.sl.injEq,and_true] at h
 obtain ⟨rfl,h2⟩ := h
 rw [z6r h2]
instance : Inhabited En := ⟨⟨[],[]⟩⟩
abbrev eEns : List En -> DV := eL cEn
theorem zfe : Inj eEns := yaw z6z
def zbj (l : List En) (t : Ty) : Bool :=
 decide (1 <= t.k) && decide (t.k <= 3) && decide (0 <= t.n) && decide (t.n <= 8) && (if t.k = 3 then decide (0 <= t.e) && decide (t.e < l.length) else t.e == 0)
noncomputable def zdy : List DV -> Prop × DV := zbw eEns eTy fun l t => (True,.bool (zbj l t))
theorem zb0 (l : List En) (t : Ty) : zdy [.sl (l.map cEn),.agg (cTy t)] = (True,.bool (zbj l t)) := zac zfe zii _ _ _
theorem zel : OkP Tryz.prog 36 zdy := by
 refine OkP.mk2 (ps := []) (hs := []) trivial trivial zpf fun l t _ => ?_
 (have hcondQ := Bool.and_self; refine Todo.of ?_; repeat' (first | ((with_reducible refine Todo.to ?_); try simp only [↓rP,rT,rU,zb,dval,dBin,dInt,zh,za,retV,DR.val,fzT,fzV,fz1,DV.immB,DV.one,alive,cellsOf,Nat.reduceEqDiff,Nat.reduceAdd,↓reduceIte,reduceCtorEq,Nat.reduceLT,forall_const,zg4,hcondQ]) | ((with_reducible refine And.intro ?_ ?_); . first | trivial | omega | (simp; done) | (simp; omega)) | ((first | ((with_reducible refine zd (t := ?_) ?_ (fun hcQ => ?_) (fun hcQ => ?_)); rotate_left; . rfl) | ((with_reducible refine zl (t := ?_) ?_ (fun hcQ => ?_) (fun hcQ => ?_)); rotate_left; . rfl)) <;> (have hn := hcQ; have hcondQ := hcQ) <;> (try simp only [decide_eq_true_eq,decide_eq_false_iff_not,beq_iff_eq,ne_eq,beq_eq_false_iff_ne] at hn) <;> (try (exfalso; omega)) <;> (refine Todo.of ?_)) | (((with_reducible refine zu ?_ ?_ ?_); . rfl) <;> (refine Todo.of ?_))))
 all_goals grind [zbj]
theorem zx5 : OkP Tryz.prog 105 zdy := by
 refine OkP.mk2 (ps := []) (hs := []) trivial trivial ybh fun l t _ => ?_
 (have hcondQ := Bool.and_self; refine Todo.of ?_; repeat' (first | ((with_reducible refine Todo.to ?_); try simp only [↓rP,rT,rU,zb,dval,dBin,dInt,zh,za,retV,DR.val,fzT,fzV,fz1,DV.immB,DV.one,alive,cellsOf,Nat.reduceEqDiff,Nat.reduceAdd,↓reduceIte,reduceCtorEq,Nat.reduceLT,forall_const,zys,hcondQ]) | ((with_reducible refine And.intro ?_ ?_); . first | trivial | omega | (simp; done) | (simp; omega)) | ((first | ((with_reducible refine zd (t := ?_) ?_ (fun hcQ => ?_) (fun hcQ => ?_)); rotate_left; . rfl) | ((with_reducible refine zl (t := ?_) ?_ (fun hcQ => ?_) (fun hcQ => ?_)); rotate_left; . rfl)) <;> (have hn := hcQ; have hcondQ := hcQ) <;> (try simp only [decide_eq_true_eq,decide_eq_false_iff_not,beq_iff_eq,ne_eq,beq_eq_false_iff_ne] at hn) <;> (try (exfalso; omega)) <;> (refine Todo.of ?_)) | (((with_reducible refine zu ?_ ?_ ?_); . rfl) <;> (refine Todo.of ?_))))
 all_goals grind [zbj]
def zt (t : Ty) : Int := if t.n < 1 then 1 else if 8 < t.n then 8 else t.n
noncomputable def zcg : List DV -> Prop × DV := zbp eTy fun t => (True,.int .i64 (zt t))
theorem zbn (t : Ty) : zcg [.agg (cTy t)] = (True,.int .i64 (zt t)) := z8 zii _ _
theorem zc6 : OkP Tryz.prog 30 zcg := by
 refine OkP.mk1 (ps := []) (hs := []) trivial trivial zoi fun t _ => ?_
 (have hcondQ := Bool.and_self; refine Todo.of ?_; repeat' (first | ((with_reducible refine Todo.to ?_); try simp only [↓rP,rT,rU,zb,dval,dBin,dInt,zh,za,retV,DR.val,fzT,fzV,fz1,DV.immB,DV.one,alive,cellsOf,Nat.reduceEqDiff,Nat.reduceAdd,↓reduceIte,reduceCtorEq,forall_const,zhe,hcondQ]) | ((with_reducible refine And.intro ?_ ?_); . first | trivial | omega | (simp; done) | (simp; omega)) | ((first | ((with_reducible refine zd (t := ?_) ?_ (fun hcQ => ?_) (fun hcQ => ?_)); rotate_left; . rfl) | ((with_reducible refine zl (t := ?_) ?_ (fun hcQ => ?_) (fun hcQ => ?_)); rotate_left; . rfl)) <;> (have hn := hcQ; have hcondQ := hcQ) <;> (try simp only [decide_eq_true_eq,decide_eq_false_iff_not] at hn) <;> (try (exfalso; omega)) <;> (refine Todo.of ?_)) | (((with_reducible refine zu ?_ ?_ ?_); . rfl) <;> (refine Todo.of ?_))))
 all_goals grind [zt]
theorem zqq : OkP Tryz.prog 49 zcg := by
 refine OkP.mk1 (ps := []) (hs := []) trivial trivial ybn fun t _ => ?_
 (have hcondQ := Bool.and_self; refine Todo.of ?_; repeat' (first | ((with_reducible refine Todo.to ?_); try simp only [↓rP,rT,rU,zb,dval,zh,za,retV,DR.val,fzT,fzV,fz1,DV.immB,DV.one,alive,cellsOf,Nat.reduceEqDiff,Nat.reduceAdd,↓reduceIte,reduceCtorEq,forall_const,zy8]) | ((with_reducible refine And.intro ?_ ?_); . first | trivial | omega | (simp; done) | (simp; omega)) | (((with_reducible refine zu ?_ ?_ ?_); . rfl) <;> (refine Todo.of ?_))))
 all_goals grind [zt]
noncomputable def zuz : List DV -> Prop × DV := zbw eSs eSs fun a b => (a.length <= 1000000000,.bool (decide (a = b)))
theorem zzf (a b : List (List UInt8)) : zuz [.sl (sls a),.sl (sls b)] = (a.length <= 1000000000,.bool (decide (a = b))) := zac yfg yfg _ _ _
theorem ok_Names : OkP Tryz.prog 115 zuz := by
 refine OkP.mk2 (ps := []) (hs := []) trivial trivial zpg fun a b h => ?_
 by_cases c : a.length = b.length
 rotate_left
 . have c1 : ((a.length : Int) != (b.length : Int)) = true := by simp; omega
   have c2 : decide (a = b) = false := by simp; intro e; rw [e] at c; exact c rfl
   (have hcondQ := Bool.and_self; refine Todo.of ?_; repeat' (first | ((with_reducible refine Todo.to ?_); try simp only [↓rP,rT,zb,dval,dBin,dInt,retV,DR.val,fzT,fzV,fz1,DV.immB,Nat.reduceEqDiff,↓reduceIte,reduceCtorEq,zeh,eSs,z7,c1,c2]) | ((with_reducible refine And.intro ?_ ?_); . first | trivial | omega | (simp; done) | (simp; omega)) | (((with_reducible refine zu ?_ ?_ ?_); . rfl) <;> (refine Todo.of ?_))))
 have c1 : ((a.length : Int) != (b.length : Int)) = false := by simp; omega
 (have hcondQ := Bool.and_self; refine Todo.of ?_; repeat' (first | ((with_reducible refine Todo.to ?_); try simp only [↓rP,rT,zb,dval,dBin,dInt,Nat.reduceEqDiff,↓reduceIte,reduceCtorEq,zeh,eSs,z7,c1]) | ((with_reducible refine And.intro ?_ ?_); . first | trivial | omega | (simp; done) | (simp; omega)) | (((with_reducible refine zu ?_ ?_ ?_); . rfl) <;> (refine Todo.of ?_))))
 refine zfk (fun k : Nat => ⟨[(0,.sl (sls a)),(1,.sl (sls b)),(5,.int .i64 k)],[]⟩) (fun k => k <= a.length /\ a.take k = b.take k) (fun k => a.length - k) 0 (by exact Nat.zero_le _) ?_ ⟨Nat.zero_le _,rfl⟩ fun k hk => ?_
 . simp only [zg,List.map_cons,List.map_nil,zc,Nk.get_nil,Nat.reduceEqDiff,↓reduceIte,Nat.succ_ne_self,DV.cut,DV.inB,List.take_nil,reduceCtorEq]
   rfl
 obtain ⟨hk,ht⟩ := hk
 have h' : a.length <= 1000000000 := h
 by_cases d : k < a.length
 . have w : IntKind.i64.wrap ((k : Int) + 1) = ((k + 1 : Nat) : Int) := by rw [z9 (by omega)]; omega
   have e1 := zoc d
   have e2 := zoc (l := b) (i := k) (by omega)
   have d2 : k < b.length := by omega
   (have hcondQ := Bool.and_self; refine Todo.of ?_; repeat' (first | ((with_reducible refine Todo.to ?_); try simp only [↓rP,rT,rU,zb,dval,dBin,dInt,dStr,zh,za,retV,DR.val,fzT,fzV,fz1,DV.immB,Nat.reduceEqDiff,↓reduceIte,reduceCtorEq,z7,e1,e2,d,d2,w,hcondQ]) | ((with_reducible refine And.intro ?_ ?_); . first | trivial | omega | (simp; done) | (simp; omega)) | ((first | ((with_reducible refine zd (t := ?_) ?_ (fun hcQ => ?_) (fun hcQ => ?_)); rotate_left; . rfl) | ((with_reducible refine zl (t := ?_) ?_ (fun hcQ => ?_) (fun hcQ => ?_)); rotate_left; . rfl)) <;> (have hn := hcQ; have hcondQ := hcQ) <;> (try simp only [beq_iff_eq,ne_eq,beq_eq_false_iff_ne,Bool.not_eq_true',Bool.not_eq_false'] at hn) <;> (try (exfalso; omega)) <;> (refine Todo.of ?_)) | (((with_reducible refine zu ?_ ?_ ?_); . rfl) <;> (refine Todo.of ?_))))
   . have : a ≠ b := fun e => by subst e; simp_all
     simp [this]
   . refine ⟨k + 1,?_,⟨by omega,z8r d d2 ht (by simp_all)⟩,by omega⟩
     simp only [zg,List.map_cons,List.map_nil,zc,Nk.get_nil,Nat.reduceEqDiff,↓reduceIte,Nat.succ_ne_self,DV.cut,DV.inB,List.take_nil,reduceCtorEq]
 . have e : a = b := by
     have hk2 : k = a.length := by omega
     rw [hk2,List.take_length,c,List.take_length] at ht
     exact ht
   (have hcondQ := Bool.and_self; refine Todo.of ?_; repeat' (first | ((with_reducible refine Todo.to ?_); try simp only [↓rP,rT,rU,zb,dval,dBin,dInt,retV,DR.val,fzT,fzV,fz1,DV.immB,Nat.reduceEqDiff,↓reduceIte,reduceCtorEq,z7,e,hcondQ]) | ((with_reducible refine And.intro ?_ ?_); . first | trivial | omega | (simp; done) | (simp; omega)) | ((first | ((with_reducible refine zd (t := ?_) ?_ (fun hcQ => ?_) (fun hcQ => ?_)); rotate_left; . rfl) | ((with_reducible refine zl (t := ?_) ?_ (fun hcQ => ?_) (fun hcQ => ?_)); rotate_left; . rfl)) <;> (have hn := hcQ; have hcondQ := hcQ) <;> (try simp only [decide_eq_true_eq,decide_eq_false_iff_not] at hn) <;> (try (exfalso; omega)) <;> (refine Todo.of ?_)) | (((with_reducible refine zu ?_ ?_ ?_); . rfl) <;> (refine Todo.of ?_))))
theorem ok_Equal : OkP Tryz.prog 122 zuz := by
 refine OkP.mk2 (ps := []) (hs := []) trivial trivial zga fun a b h => ?_
 by_cases c : a.length = b.length
 rotate_left
 . have c1 : ((a.length : Int) != (b.length : Int)) = true := by simp; omega
   have c2 : decide (a = b) = false := by simp; intro e; rw [e] at c; exact c rfl
   (have hcondQ := Bool.and_self; refine Todo.of ?_; repeat' (first | ((with_reducible refine Todo.to ?_); try simp only [↓rP,rT,zb,dval,dBin,dInt,retV,DR.val,fzT,fzV,fz1,DV.immB,Nat.reduceEqDiff,↓reduceIte,reduceCtorEq,zbk,eSs,z7,c1,c2]) | ((with_reducible refine And.intro ?_ ?_); . first | trivial | omega | (simp; done) | (simp; omega)) | (((with_reducible refine zu ?_ ?_ ?_); . rfl) <;> (refine Todo.of ?_))))
 have c1 : ((a.length : Int) != (b.length : Int)) = false := by simp; omega
 (have hcondQ := Bool.and_self; refine Todo.of ?_; repeat' (first | ((with_reducible refine Todo.to ?_); try simp only [↓rP,rT,zb,dval,dBin,dInt,Nat.reduceEqDiff,↓reduceIte,reduceCtorEq,zbk,eSs,z7,c1]) | ((with_reducible refine And.intro ?_ ?_); . first | trivial | omega | (simp; done) | (simp; omega)) | (((with_reducible refine zu ?_ ?_ ?_); . rfl) <;> (refine Todo.of ?_))))
 refine zfk (fun k : Nat => ⟨[(0,.sl (sls a)),(1,.sl (sls b)),(12,.int .i64 a.length),(13,.int .i64 k)],[]⟩) (fun k => k <= a.length /\ a.take k = b.take k) (fun k => a.length - k) 0 (by exact Nat.zero_le _) ?_ ⟨Nat.zero_le _,rfl⟩ fun k hk => ?_
 . simp only [zg,List.map_cons,List.map_nil,zc,Nk.get_nil,Nat.reduceEqDiff,↓reduceIte,Nat.succ_ne_self,DV.cut,DV.inB,List.take_nil,reduceCtorEq]
   rfl
 obtain ⟨hk,ht⟩ := hk
 have h' : a.length <= 1000000000 := h
 by_cases d : k < a.length
 . have w : IntKind.i64.wrap ((k : Int) + 1) = ((k + 1 : Nat) : Int) := by rw [z9 (by omega)]; omega
   have e1 := zoc d
   have e2 := zoc (l := b) (i := k) (by omega)
   have d2 : k < b.length := by omega
   (have hcondQ := Bool.and_self; refine Todo.of ?_; repeat' (first | ((with_reducible refine Todo.to ?_); try simp only [↓rP,rT,rU,zb,dval,dBin,dInt,dStr,zh,za,retV,DR.val,fzT,fzV,fz1,DV.immB,Nat.reduceEqDiff,↓reduceIte,reduceCtorEq,z7,e1,e2,d,d2,w,hcondQ]) | ((with_reducible refine And.intro ?_ ?_); . first | trivial | omega | (simp; done) | (simp; omega)) | ((first | ((with_reducible refine zd (t := ?_) ?_ (fun hcQ => ?_) (fun hcQ => ?_)); rotate_left; . rfl) | ((with_reducible refine zl (t := ?_) ?_ (fun hcQ => ?_) (fun hcQ => ?_)); rotate_left; . rfl)) <;> (have hn := hcQ; have hcondQ := hcQ) <;> (try simp only [beq_iff_eq,ne_eq,beq_eq_false_iff_ne,Bool.not_eq_true',Bool.not_eq_false'] at hn) <;> (try (exfalso; omega)) <;> (refine Todo.of ?_)) | (((with_reducible refine zu ?_ ?_ ?_); . rfl) <;> (refine Todo.of ?_))))
   . have : a ≠ b := fun e => by subst e; simp_all
     simp [this]
   . refine ⟨k + 1,?_,⟨by omega,z8r d d2 ht (by simp_all)⟩,by omega⟩
     simp only [zg,List.map_cons,List.map_nil,zc,Nk.get_nil,Nat.reduceEqDiff,↓reduceIte,Nat.succ_ne_self,DV.cut,DV.inB,List.take_nil,reduceCtorEq]
 . have e : a = b := by
     have hk2 : k = a.length := by omega
     rw [hk2,List.take_length,c,List.take_length] at ht
     exact ht
   (have hcondQ := Bool.and_self; refine Todo.of ?_; repeat' (first | ((with_reducible refine Todo.to ?_); try simp only [↓rP,rT,rU,zb,dval,dBin,dInt,retV,DR.val,fzT,fzV,fz1,DV.immB,Nat.reduceEqDiff,↓reduceIte,reduceCtorEq,e,hcondQ]) | ((with_reducible refine And.intro ?_ ?_); . first | trivial | omega | (simp; done) | (simp; omega)) | ((first | ((with_reducible refine zd (t := ?_) ?_ (fun hcQ => ?_) (fun hcQ => ?_)); rotate_left; . rfl) | ((with_reducible refine zl (t := ?_) ?_ (fun hcQ => ?_) (fun hcQ => ?_)); rotate_left; . rfl)) <;> (have hn := hcQ; have hcondQ := hcQ) <;> (try simp only [decide_eq_true_eq,decide_eq_false_iff_not] at hn) <;> (try (exfalso; omega)) <;> (refine Todo.of ?_)) | (((with_reducible refine zu ?_ ?_ ?_); . rfl) <;> (refine Todo.of ?_))))
set_option linter.all false
set_option maxRecDepth 20000
open Go.Nk
def zgi (l : List En) : Prop := ∀ x ∈ l,x.ct.length <= 1000000000
def zyi (x y : En) : Bool := decide (x.name = y.name) && decide (x.ct = y.ct)
def zem (a : List En) (t : Ty) (b : List En) (u : Ty) : Bool :=
 zbj a t && zbj b u && t.k == u.k && t.n == u.n && (if t.k = 3 then zyi (a.getD t.e.toNat default) (b.getD u.e.toNat default) else true)
noncomputable def zw4 : List DV -> Prop × DV := zxn eEns eTy eEns eTy fun a t b u => (zgi a /\ zgi b,.bool (zem a t b u))
theorem zyy (a : List En) (t : Ty) (b : List En) (u : Ty) : zw4 [.sl (a.map cEn),.agg (cTy t),.sl (b.map cEn),.agg (cTy u)] = (zgi a /\ zgi b,.bool (zem a t b u)) := zzn zfe zii zfe zii _ _ _ _ _
theorem zre {l : List En} {j : Nat} (h : j < l.length) : (l.map cEn).getD j [] = cEn (l.getD j default) := by simp [h]
theorem z9m {l : List En} (h : zgi l) (j : Nat) : (l.getD j default).ct.length <= 1000000000 := by
 by_cases hj : j < l.length
 . have : l.getD j default = l[j] := by simp [hj]
   rw [this]; exact h _ (List.getElem_mem hj)
 . have : l.getD j default = default := by simp [hj]
   rw [this]; exact Nat.zero_le _
theorem zwl {l : List En} {t : Ty} (h : zbj l t = true) (hk : t.k = 3) : ∃ j : Nat,t.e = j /\ j < l.length := by
 simp only [zbj,hk,if_true,Bool.and_eq_true,decide_eq_true_eq] at h
 exact ⟨t.e.toNat,by omega,by omega⟩
theorem z5o : OkP Tryz.prog 86 zw4 := by
 refine OkP.mk4 (ps := [(36,zdy),(115,zuz)]) (hs := []) ⟨zel,ok_Names,trivial⟩ trivial zny fun a t b u h => ?_
 obtain ⟨ha,hb⟩ := h
 have e1 := zb0 a t
 have e2 := zb0 b u
 simp only [cTy] at e1 e2
 by_cases q : zbj a t = true /\ zbj b u = true /\ t.k = u.k /\ t.n = u.n
 rotate_left
 . (have hcondQ := Bool.and_self; refine Todo.of ?_; repeat' (first | ((with_reducible refine Todo.to ?_); try simp only [↓rP,rT,rU,zb,dval,dBin,dInt,dStr,dUn,zh,za,retV,DR.val,fzT,fzV,fz1,DV.immB,ze,zf,zp,zo,zx,zi,zq,DV.one,alive,cellsOf,Nat.reduceEqDiff,Nat.reduceAdd,↓reduceIte,reduceCtorEq,Nat.reduceLeDiff,Nat.reduceLT,forall_const,zcn,e1,e2,hcondQ]) | ((with_reducible refine And.intro ?_ ?_); . first | trivial | omega | (simp; done) | (simp; omega)) | ((first | ((with_reducible refine zd (t := ?_) ?_ (fun hcQ => ?_) (fun hcQ => ?_)); rotate_left; . rfl) | ((with_reducible refine zl (t := ?_) ?_ (fun hcQ => ?_) (fun hcQ => ?_)); rotate_left; . rfl)) <;> (have hn := hcQ; have hcondQ := hcQ) <;> (try simp only [bne_iff_ne,ne_eq,bne_eq_false_iff_eq,Bool.not_eq_true',Bool.not_eq_false'] at hn) <;> (try (exfalso; omega)) <;> (refine Todo.of ?_)) | (((with_reducible refine zu ?_ ?_ ?_); . rfl) <;> (refine Todo.of ?_))))
   all_goals grind [zem]
 obtain ⟨q1,q2,q3,q4⟩ := q
 have n3 : (t.k != u.k) = false := by simp [q3]
 have n4 : (t.n != u.n) = false := by simp [q4]
 by_cases k3 : t.k = 3
 . obtain ⟨i,hi,li⟩ := zwl q1 k3
   obtain ⟨j,hj,lj⟩ := zwl q2 (q3 ▸ k3)
   have g1 := zre li
   have g2 := zre lj
   simp only [cEn] at g1 g2
   have f1 := z9m ha i
   have hr : zem a t b u = zyi (a.getD i default) (b.getD j default) := by
     simp only [zem,q1,q2,q3,q4,hi,hj,Int.toNat_natCast,beq_self_eq_true,Bool.and_true,Bool.true_and]
     rw [if_pos (q3 ▸ k3)]
   have e3 := zzf (a.getD i default).ct (b.getD j default).ct
   rw [eq_true f1] at e3
   have n5 : (t.k != 3) = false := by simp [k3]
   rw [hr]
   rw [hi] at e1
   rw [hj] at e2
   generalize hx : a.getD i default = x at *
   generalize hy : b.getD j default = y at *
   (have hcondQ := Bool.and_self; refine Todo.of ?_; repeat' (first | ((with_reducible refine Todo.to ?_); try simp only [↓rP,rT,rU,zb,dval,dBin,dInt,dStr,dUn,zh,za,retV,DR.val,fzT,fzV,fz1,DV.immB,ze,zf,zp,zo,zx,zi,zq,DV.one,alive,cellsOf,Nat.reduceEqDiff,Nat.reduceAdd,↓reduceIte,reduceCtorEq,Nat.reduceLeDiff,Nat.reduceLT,forall_const,zcn,e1,e2,q1,q2,n3,n4,n5,hi,hj,li,lj,g1,g2,e3,hcondQ]) | ((with_reducible refine And.intro ?_ ?_); . first | trivial | omega | (simp; done) | (simp; omega)) | ((first | ((with_reducible refine zd (t := ?_) ?_ (fun hcQ => ?_) (fun hcQ => ?_)); rotate_left; . rfl) | ((with_reducible refine zl (t := ?_) ?_ (fun hcQ => ?_) (fun hcQ => ?_)); rotate_left; . rfl)) <;> (have hn := hcQ; have hcondQ := hcQ) <;> (try simp only [beq_iff_eq,ne_eq,beq_eq_false_iff_ne] at hn) <;> (try (exfalso; omega)) <;> (refine Todo.of ?_)) | (((with_reducible refine zu ?_ ?_ ?_); . rfl) <;> (refine Todo.of ?_))))
   all_goals grind [zyi]
 . have hr : zem a t b u = true := by
     simp only [zem,q1,q2,q3,q4,beq_self_eq_true,Bool.and_true,Bool.true_and]
     rw [if_neg (q3 ▸ k3)]
   have n5 : (t.k != 3) = true := by simp [k3]
   (have hcondQ := Bool.and_self; refine Todo.of ?_; repeat' (first | ((with_reducible refine Todo.to ?_); try simp only [↓rP,rT,rU,zb,dval,dBin,dInt,dUn,zh,za,retV,DR.val,fzT,fzV,fz1,DV.immB,ze,zf,zp,zo,zx,zi,zq,DV.one,alive,cellsOf,Nat.reduceEqDiff,Nat.reduceAdd,↓reduceIte,reduceCtorEq,Nat.reduceLeDiff,Nat.reduceLT,forall_const,zcn,e1,e2,q1,q2,n3,n4,n5,hr]) | ((with_reducible refine And.intro ?_ ?_); . first | trivial | omega | (simp; done) | (simp; omega)) | (((with_reducible refine zu ?_ ?_ ?_); . rfl) <;> (refine Todo.of ?_))))
theorem ok_Alike : OkP Tryz.prog 106 zw4 := by
 refine OkP.mk4 (ps := [(105,zdy),(122,zuz)]) (hs := []) ⟨zx5,ok_Equal,trivial⟩ trivial yco fun a t b u h => ?_
 obtain ⟨ha,hb⟩ := h
 have e1 := zb0 a t
 have e2 := zb0 b u
 simp only [cTy] at e1 e2
 by_cases q : zbj a t = true /\ zbj b u = true /\ t.k = u.k /\ t.n = u.n
 rotate_left
 . (have hcondQ := Bool.and_self; refine Todo.of ?_; repeat' (first | ((with_reducible refine Todo.to ?_); try simp only [↓rP,rT,rU,zjq,zb,DOp.kind,dval,dBin,dInt,dStr,dUn,zh,za,retV,DR.val,fzT,fzV,fz1,DV.immB,ze,zf,zp,zo,zx,zi,zq,zw,DV.one,alive,cellsOf,Nat.reduceEqDiff,Nat.reduceAdd,↓reduceIte,reduceCtorEq,Nat.reduceLeDiff,Nat.reduceLT,zk1,e1,e2,hcondQ]) | ((with_reducible refine And.intro ?_ ?_); . first | trivial | omega | (simp; done) | (simp; omega)) | ((first | ((with_reducible refine zd (t := ?_) ?_ (fun hcQ => ?_) (fun hcQ => ?_)); rotate_left; . rfl) | ((with_reducible refine zl (t := ?_) ?_ (fun hcQ => ?_) (fun hcQ => ?_)); rotate_left; . rfl)) <;> (have hn := hcQ; have hcondQ := hcQ) <;> (try simp only [bne_iff_ne,ne_eq,bne_eq_false_iff_eq,Bool.not_eq_true',Bool.not_eq_false'] at hn) <;> (try (exfalso; omega)) <;> (refine Todo.of ?_)) | (((with_reducible refine zu ?_ ?_ ?_); . rfl) <;> (refine Todo.of ?_))))
   all_goals grind [zem]
 obtain ⟨q1,q2,q3,q4⟩ := q
 have n3 : (t.k != u.k) = false := by simp [q3]
 have n4 : (t.n != u.n) = false := by simp [q4]
 by_cases k3 : t.k = 3
 . obtain ⟨i,hi,li⟩ := zwl q1 k3
   obtain ⟨j,hj,lj⟩ := zwl q2 (q3 ▸ k3)
   have g1 := zre li
   have g2 := zre lj
   simp only [cEn] at g1 g2
   have f1 := z9m ha i
   have hr : zem a t b u = zyi (a.getD i default) (b.getD j default) := by
     simp only [zem,q1,q2,q3,q4,hi,hj,Int.toNat_natCast,beq_self_eq_true,Bool.and_true,Bool.true_and]
     rw [if_pos (q3 ▸ k3)]
   have e3 := zzf (a.getD i default).ct (b.getD j default).ct
   rw [eq_true f1] at e3
   have n5 : (t.k != 3) = false := by simp [k3]
   rw [hr]
   rw [hi] at e1
   rw [hj] at e2
   generalize hx : a.getD i default = x at *
   generalize hy : b.getD j default = y at *
   (have hcondQ := Bool.and_self; refine Todo.of ?_; repeat' (first | ((with_reducible refine Todo.to ?_); try simp only [↓rP,rT,rU,zjq,zb,DOp.kind,dval,dBin,dInt,dStr,dUn,zh,za,retV,DR.val,fzT,fzV,fz1,DV.immB,ze,zf,zp,zo,zx,zi,zq,zw,DV.one,alive,cellsOf,zk,Nat.reduceEqDiff,Nat.reduceAdd,↓reduceIte,reduceCtorEq,Nat.reduceLeDiff,Nat.reduceLT,forall_const,zk1,e1,e2,q1,q2,n3,n4,n5,hi,hj,li,lj,g1,g2,e3,hcondQ]) | ((with_reducible refine And.intro ?_ ?_); . first | trivial | omega | (simp; done) | (simp; omega)) | ((first | ((with_reducible refine zd (t := ?_) ?_ (fun hcQ => ?_) (fun hcQ => ?_)); rotate_left; . rfl) | ((with_reducible refine zl (t := ?_) ?_ (fun hcQ => ?_) (fun hcQ => ?_)); rotate_left; . rfl)) <;> (have hn := hcQ; have hcondQ := hcQ) <;> (try simp only [beq_iff_eq,ne_eq,beq_eq_false_iff_ne] at hn) <;> (try (exfalso; omega)) <;> (refine Todo.of ?_)) | (((with_reducible refine zu ?_ ?_ ?_); . rfl) <;> (refine Todo.of ?_))))
   all_goals grind [zyi]
 . have hr : zem a t b u = true := by
     simp only [zem,q1,q2,q3,q4,beq_self_eq_true,Bool.and_true,Bool.true_and]
     rw [if_neg (q3 ▸ k3)]
   have n5 : (t.k != 3) = true := by simp [k3]
   (have hcondQ := Bool.and_self; refine Todo.of ?_; repeat' (first | ((with_reducible refine Todo.to ?_); try simp only [↓rP,rT,rU,zb,dval,dBin,dInt,dUn,zh,za,retV,DR.val,fzT,fzV,fz1,DV.immB,ze,zf,zp,zo,zx,zi,zq,cellsOf,Nat.reduceEqDiff,Nat.reduceAdd,↓reduceIte,reduceCtorEq,Nat.reduceLeDiff,Nat.reduceLT,zk1,e1,e2,q1,q2,n3,n4,n5,hr,hcondQ]) | ((with_reducible refine And.intro ?_ ?_); . first | trivial | omega | (simp; done) | (simp; omega)) | (((with_reducible refine zu ?_ ?_ ?_); . rfl) <;> (refine Todo.of ?_))))
set_option linter.all false
set_option maxRecDepth 20000
open Go.Nk
structure Prt where
 name : List UInt8
 ty : Ty
@[reducible] def cPrt (p : Prt) : List DV := [.str p.name,.int .i64 p.ty.k,.int .i64 p.ty.e,.int .i64 p.ty.n]
theorem z89 : ∀ x y,cPrt x = cPrt y -> x = y := fun x y h => by
 obtain ⟨n,k,e,m⟩ := x; obtain ⟨n',k',e',m'⟩ := y
 simp only [cPrt,List.cons.injEq,DV.str.injEq,DV.int.injEq,true_and,and_true] at h
 obtain ⟨rfl,rfl,rfl,rfl⟩ := h
 rfl
instance : Inhabited Prt := ⟨⟨[],default⟩⟩
structure Slt where
 path : List UInt8
 ty : Ty
 at_ : Int
 ini : List Int
@[reducible] def cSlt (s : Slt) : List DV := [.str s.path,.int .i64 s.ty.k,.int .i64 s.ty.e,.int .i64 s.ty.n,.int .i64 s.at_,.sl (ils s.ini)]
theorem z1q : ∀ x y,cSlt x = cSlt y -> x = y := fun x y h => by
 obtain ⟨n,⟨k,e,m⟩,a,i⟩ := x; obtain ⟨n',⟨k',e',m'⟩,a',i'⟩ := y
 simp only [cSlt,List.cons.injEq,DV.str.injEq,DV.int.injEq,DV.sl.injEq,true_and,and_true] at h
 obtain ⟨rfl,rfl,rfl,rfl,rfl,h⟩ := h
 rw [zjx h]
instance : Inhabited Slt := ⟨⟨[],default,0,[]⟩⟩
@[reducible] def cIn4 (x : In4) : List DV := [.int .i64 x.op,.int .i64 x.a,.int .i64 x.b,.int .i64 x.n]
theorem z00 : ∀ x y,cIn4 x = cIn4 y -> x = y := fun x y h => by
 cases x; cases y
 simp only [cIn4,List.cons.injEq,DV.int.injEq,true_and,and_true] at h
 obtain ⟨rfl,rfl,rfl,rfl⟩ := h
 rfl
structure Img where
 en : List En
 ins : List Prt
 outs : List Prt
 slots : List Slt
 loc : List Int
 code : List In4
@[reducible] def cImg (x : Img) : List DV := [.sl (x.en.map cEn),.sl (x.ins.map cPrt),.sl (x.outs.map cPrt),.sl (x.slots.map cSlt),.sl (ils x.loc),.sl (x.code.map cIn4)]
theorem z16 : ∀ x y,cImg x = cImg y -> x = y := fun x y h => by
 cases x; cases y
 simp only [cImg,List.cons.injEq,DV.sl.injEq,and_true] at h
 obtain ⟨h1,h2,h3,h4,h5,h6⟩ := h
 rw [zdm z6z _ _ h1,zdm z89 _ _ h2,zdm z89 _ _ h3,zdm z1q _ _ h4,zjx h5,zdm z00 _ _ h6]
abbrev eImg : Img -> DV := eA cImg
theorem za4 : Inj eImg := zt8 z16
set_option linter.all false
set_option maxRecDepth 20000
open Go.Nk
set_option linter.all false
set_option maxRecDepth 20000
open Go.Nk
def oneV (l : List En) (t : Ty) (n : Int) : Bool := if t.k = 2 then n == 0 || n == 1 else t.k == 1 || (decide (0 <= n) && decide (n < (l.getD t.e.toNat default).ct.length))
def oneF (l : List En) (t : Ty) (n : Int) : Bool := zbj l t && oneV l t n
noncomputable def s_One : List DV -> Prop × DV := zec eEns eTy eI fun l t n => (True,.bool (oneF l t n))
theorem s_One_at (l : List En) (t : Ty) (n : Int) : s_One [.sl (l.map cEn),.agg (cTy t),.int .i64 n] = (True,.bool (oneF l t n)) := za2 zfe zii zcr _ _ _ _
theorem ye9 {l : List En} {t : Ty} (h : zbj l t = true) : t.k = 1 \/ t.k = 2 \/ t.k = 3 := by
 simp only [zbj,Bool.and_eq_true,decide_eq_true_eq] at h
 omega
theorem ycw : OkP Tryz.prog 44 s_One := by
 refine OkP.mk3 (ps := [(36,zdy)]) (hs := []) ⟨zel,trivial⟩ trivial zs8 fun l t n _ => ?_
 have e1 := zb0 l t
 simp only [cTy] at e1
 by_cases q : zbj l t = true
 rotate_left
 . (have hcondQ := Bool.and_self; refine Todo.of ?_; repeat' (first | ((with_reducible refine Todo.to ?_); try simp only [↓rP,rT,rU,eI,zb,dval,dUn,zh,za,retV,DR.val,fzT,fzV,fz1,DV.immB,ze,zf,zp,zo,zx,zi,zq,DV.one,cellsOf,Nat.reduceEqDiff,Nat.reduceAdd,↓reduceIte,reduceCtorEq,Nat.reduceLeDiff,forall_const,zcf,e1,q]) | ((with_reducible refine And.intro ?_ ?_); . first | trivial | omega | (simp; done) | (simp; omega)) | (((with_reducible refine zu ?_ ?_ ?_); . rfl) <;> (refine Todo.of ?_))))
   all_goals grind [oneF]
 have hr : oneF l t n = oneV l t n := by simp [oneF,q]
 rw [hr]
 rcases ye9 q with k | k | k
 . have k1 : (t.k == 1) = true := by simp [k]
   have k2 : (t.k == 2) = false := by simp [k]
   (have hcondQ := Bool.and_self; refine Todo.of ?_; repeat' (first | ((with_reducible refine Todo.to ?_); try simp only [↓rP,rT,rU,eI,zb,dval,dBin,dInt,dUn,zh,za,retV,DR.val,fzT,fzV,fz1,DV.immB,ze,zf,zp,zo,zx,zi,zq,DV.one,alive,cellsOf,Nat.reduceEqDiff,Nat.reduceAdd,↓reduceIte,reduceCtorEq,Nat.reduceLeDiff,Nat.reduceLT,forall_const,zcf,e1,q,k1,k2]) | ((with_reducible refine And.intro ?_ ?_); . first | trivial | omega | (simp; done) | (simp; omega)) | (((with_reducible refine zu ?_ ?_ ?_); . rfl) <;> (refine Todo.of ?_))))
   all_goals grind [oneV]
 . have k2 : (t.k == 2) = true := by simp [k]
   (have hcondQ := Bool.and_self; refine Todo.of ?_; repeat' (first | ((with_reducible refine Todo.to ?_); try simp only [↓rP,rT,rU,eI,zb,dval,dBin,dInt,dUn,zh,za,retV,DR.val,fzT,fzV,fz1,DV.immB,ze,zf,zp,zo,zx,zi,zq,DV.one,alive,cellsOf,Nat.reduceEqDiff,Nat.reduceAdd,↓reduceIte,reduceCtorEq,Nat.reduceLeDiff,Nat.reduceLT,forall_const,zcf,e1,q,k2,hcondQ]) | ((with_reducible refine And.intro ?_ ?_); . first | trivial | omega | (simp; done) | (simp; omega)) | ((first | ((with_reducible refine zd (t := ?_) ?_ (fun hcQ => ?_) (fun hcQ => ?_)); rotate_left; . rfl) | ((with_reducible refine zl (t := ?_) ?_ (fun hcQ => ?_) (fun hcQ => ?_)); rotate_left; . rfl)) <;> (have hn := hcQ; have hcondQ := hcQ) <;> (try simp only [beq_iff_eq,ne_eq,beq_eq_false_iff_ne] at hn) <;> (try (exfalso; omega)) <;> (refine Todo.of ?_)) | (((with_reducible refine zu ?_ ?_ ?_); . rfl) <;> (refine Todo.of ?_))))
   all_goals grind [oneV]
 . have k1 : (t.k == 1) = false := by simp [k]
   have k2 : (t.k == 2) = false := by simp [k]
   obtain ⟨i,hi,li⟩ := zwl q k
   have g1 := zre li
   simp only [cEn] at g1
   have hv : oneV l t n = (decide (0 <= n) && decide (n < (l.getD i default).ct.length)) := by
     unfold oneV
     rw [if_neg (by omega),k1,hi]
     rfl
   rw [hv]
   rw [hi] at e1
   generalize l.getD i default = x at *
   (have hcondQ := Bool.and_self; refine Todo.of ?_; repeat' (first | ((with_reducible refine Todo.to ?_); try simp only [↓rP,rT,rU,eI,zb,dval,dBin,dInt,dUn,zh,za,retV,DR.val,fzT,fzV,fz1,DV.immB,ze,zf,zp,zo,zx,zi,zq,DV.one,alive,cellsOf,Nat.reduceEqDiff,Nat.reduceAdd,↓reduceIte,reduceCtorEq,Nat.reduceLeDiff,Nat.reduceLT,forall_const,zcf,z7,e1,q,k1,k2,hi,li,g1,hcondQ]) | ((with_reducible refine And.intro ?_ ?_); . first | trivial | omega | (simp; done) | (simp; omega)) | ((first | ((with_reducible refine zd (t := ?_) ?_ (fun hcQ => ?_) (fun hcQ => ?_)); rotate_left; . rfl) | ((with_reducible refine zl (t := ?_) ?_ (fun hcQ => ?_) (fun hcQ => ?_)); rotate_left; . rfl)) <;> (have hn := hcQ; have hcondQ := hcQ) <;> (try simp only [decide_eq_true_eq,decide_eq_false_iff_not] at hn) <;> (try (exfalso; omega)) <;> (refine Todo.of ?_)) | (((with_reducible refine zu ?_ ?_ ?_); . rfl) <;> (refine Todo.of ?_))))
   all_goals grind
set_option linter.all false
set_option maxRecDepth 20000
open Go.Nk
def zdh (l : List En) (t : Ty) (v : List Int) : Bool := zbj l t && (v.length : Int) == zt t && v.all (oneF l t)
noncomputable def ztt : List DV -> Prop × DV := zec eEns eTy eIls fun l t v => (v.length <= 1000000000,.bool (zdh l t v))
theorem zvt (l : List En) (t : Ty) (v : List Int) : ztt [.sl (l.map cEn),.agg (cTy t),.sl (ils v)] = (v.length <= 1000000000,.bool (zdh l t v)) := za2 zfe zii zl3 _ _ _ _
theorem zry : OkP Tryz.prog 19 ztt := by
 refine OkP.mk3 (ps := [(36,zdy),(30,zcg),(44,s_One)]) (hs := []) ⟨zel,zc6,ycw,trivial⟩ trivial zol fun l t v h => ?_
 have e1 := zb0 l t
 have e2 := zbn t
 simp only [cTy] at e1 e2
 by_cases q : zbj l t = true /\ (v.length : Int) = zt t
 rotate_left
 . (have hcondQ := Bool.and_self; refine Todo.of ?_; repeat' (first | ((with_reducible refine Todo.to ?_); try simp only [↓rP,rT,rU,zb,dval,dBin,dInt,dUn,zh,za,retV,DR.val,fzT,fzV,fz1,DV.immB,ze,zf,zp,zo,zx,zi,zq,DV.one,cellsOf,Nat.reduceEqDiff,Nat.reduceAdd,↓reduceIte,reduceCtorEq,Nat.reduceLeDiff,forall_const,zev,eIls,zae,e1,e2,hcondQ]) | ((with_reducible refine And.intro ?_ ?_); . first | trivial | omega | (simp; done) | (simp; omega)) | ((first | ((with_reducible refine zd (t := ?_) ?_ (fun hcQ => ?_) (fun hcQ => ?_)); rotate_left; . rfl) | ((with_reducible refine zl (t := ?_) ?_ (fun hcQ => ?_) (fun hcQ => ?_)); rotate_left; . rfl)) <;> (have hn := hcQ; have hcondQ := hcQ) <;> (try simp only [bne_iff_ne,ne_eq,bne_eq_false_iff_eq,Bool.not_eq_true',Bool.not_eq_false'] at hn) <;> (try (exfalso; omega)) <;> (refine Todo.of ?_)) | (((with_reducible refine zu ?_ ?_ ?_); . rfl) <;> (refine Todo.of ?_))))
   all_goals grind [zdh]
 obtain ⟨q1,q2⟩ := q
 have n1 : ((v.length : Int) != zt t) = false := by simp [q2]
 have hr : zdh l t v = v.all (oneF l t) := by simp [zdh,q1,q2]
 (have hcondQ := Bool.and_self; refine Todo.of ?_; repeat' (first | ((with_reducible refine Todo.to ?_); try simp only [↓rP,rT,rU,zb,dval,dBin,dInt,dUn,zh,za,DV.immB,ze,zf,zp,zo,zx,zi,zq,DV.one,cellsOf,Nat.reduceEqDiff,Nat.reduceAdd,↓reduceIte,reduceCtorEq,Nat.reduceLeDiff,forall_const,zev,eIls,zae,e1,e2,q1,n1]) | ((with_reducible refine And.intro ?_ ?_); . first | trivial | omega | (simp; done) | (simp; omega)) | (((with_reducible refine zu ?_ ?_ ?_); . rfl) <;> (refine Todo.of ?_))))
 refine zfk (fun k : Nat => ⟨[(0,.sl (l.map cEn)),(2,.sl (ils v)),(4,.ptr 0 1 0 0),(7,.int .i64 k)],[⟨.loc,3,[cTy t]⟩]⟩) (fun k => k <= v.length /\ ∀ x ∈ v.take k,(fun n => !oneF l t n) x = false) (fun k => v.length - k) 0 (by exact Nat.zero_le _) ?_ ⟨Nat.zero_le _,by simp⟩ fun k hk => ?_
 . simp only [zg,List.map_cons,List.map_nil,zc,Nk.get_nil,Nat.reduceEqDiff,↓reduceIte,Nat.succ_ne_self,DV.cut,DV.inB,DObj.cut,List.take_nil,reduceCtorEq,Nat.zero_lt_one,decide_true,List.take_succ_cons]
   rfl
 obtain ⟨hk,ht⟩ := hk
 have hl : v.length <= 1000000000 := h
 by_cases d : k < v.length
 . have w : IntKind.i64.wrap ((k : Int) + 1) = ((k + 1 : Nat) : Int) := by rw [z9 (by omega)]; omega
   have e3 := ils_getD d
   have e4 := s_One_at l t (v.getD k 0)
   simp only [cTy] at e4
   (have hcondQ := Bool.and_self; refine Todo.of ?_; repeat' (first | ((with_reducible refine Todo.to ?_); try simp only [↓rP,rT,rU,zb,dval,dBin,dInt,dUn,zh,za,retV,DR.val,fzT,fzV,fz1,DV.immB,ze,zf,zp,zo,zx,zi,zq,Nat.reduceEqDiff,Nat.reduceAdd,↓reduceIte,reduceCtorEq,Nat.reduceLeDiff,zae,e3,e4,d,w,hcondQ]) | ((with_reducible refine And.intro ?_ ?_); . first | trivial | omega | (simp; done) | (simp; omega)) | ((first | ((with_reducible refine zd (t := ?_) ?_ (fun hcQ => ?_) (fun hcQ => ?_)); rotate_left; . rfl) | ((with_reducible refine zl (t := ?_) ?_ (fun hcQ => ?_) (fun hcQ => ?_)); rotate_left; . rfl)) <;> (have hn := hcQ; have hcondQ := hcQ) <;> (try simp only [Bool.not_eq_true',Bool.not_eq_false'] at hn) <;> (try (exfalso; omega)) <;> (refine Todo.of ?_)) | (((with_reducible refine zu ?_ ?_ ?_); . rfl) <;> (refine Todo.of ?_))))
   . have : v.all (oneF l t) = false := by
       rw [List.all_eq_false]
       exact ⟨v[k],List.getElem_mem d,by simp_all⟩
     simp [hr,this]
   . refine ⟨k + 1,?_,⟨by omega,take_noI d ht (by simp_all)⟩,by omega⟩
     simp only [zg,List.map_cons,List.map_nil,zc,Nk.get_nil,Nat.reduceEqDiff,↓reduceIte,DV.cut,DV.inB,DObj.cut,List.take_nil,reduceCtorEq,Nat.zero_lt_one,decide_true,List.take_succ_cons]
 . have hk2 : k = v.length := by omega
   have hc : v.all (oneF l t) = true := by
     rw [hk2,List.take_length] at ht
     rw [List.all_eq_true]
     intro x hx
     simpa using ht x hx
   rw [hc] at hr
   (have hcondQ := Bool.and_self; refine Todo.of ?_; repeat' (first | ((with_reducible refine Todo.to ?_); try simp only [↓rP,rT,rU,zb,dval,dBin,dInt,retV,DR.val,fzT,fzV,fz1,DV.immB,Nat.reduceEqDiff,↓reduceIte,reduceCtorEq,zae,d,hr]) | ((with_reducible refine And.intro ?_ ?_); . first | trivial | omega | (simp; done) | (simp; omega)) | (((with_reducible refine zu ?_ ?_ ?_); . rfl) <;> (refine Todo.of ?_))))
def sumC (l : List Slt) : Int := l.foldl (fun n s => n + zt s.ty) 0
theorem zad (t : Ty) : 1 <= zt t /\ zt t <= 8 := by
 unfold zt
 by_cases h1 : t.n < 1
 . rw [if_pos h1]; omega
 . rw [if_neg h1]
   by_cases h2 : 8 < t.n
   . rw [if_pos h2]; omega
   . rw [if_neg h2]; omega
theorem zub {l : List Slt} {k : Nat} (h : k < l.length) : sumC (l.take (k + 1)) = sumC (l.take k) + zt (l.getD k default).ty := by
 have e : l.getD k default = l[k] := by simp [h]
 have e2 : l[k]? = some l[k] := List.getElem?_eq_getElem h
 rw [List.take_add_one,e,e2]
 simp only [sumC,List.foldl_append,Option.toList_some,List.foldl_cons,List.foldl_nil]
theorem sumC_b : ∀ (l : List Slt) (k : Nat),k <= l.length -> 0 <= sumC (l.take k) /\ sumC (l.take k) <= 8 * k
 | l,0,_ => by simp [sumC]
 | l,k + 1,h => by
   have ih := sumC_b l k (by omega)
   rw [zub (by omega)]
   have := zad (l.getD k default).ty
   omega
abbrev zs1 : List Slt -> DV := eL cSlt
theorem zox : Inj zs1 := yaw z1q
theorem zzo {l : List Slt} {j : Nat} (h : j < l.length) : (l.map cSlt).getD j [] = cSlt (l.getD j default) := by simp [h]
noncomputable def z7u : List DV -> Prop × DV := zbp zs1 fun l => (l.length <= 1000000000,.int .i64 (sumC l))
theorem zt2 (l : List Slt) : z7u [.sl (l.map cSlt)] = (l.length <= 1000000000,.int .i64 (sumC l)) := z8 zox _ _
theorem zx8 : OkP Tryz.prog 18 z7u := by
 refine OkP.mk1 (ps := [(30,zcg)]) (hs := []) ⟨zc6,trivial⟩ trivial zn9 fun l h => ?_
 have hl : l.length <= 1000000000 := h
 (have hcondQ := Bool.and_self; refine Todo.of ?_; repeat' (first | ((with_reducible refine Todo.to ?_); try simp only [↓rP,rT,zb,dval,zg9]) | ((with_reducible refine And.intro ?_ ?_); . first | trivial | omega | (simp; done) | (simp; omega)) | (((with_reducible refine zu ?_ ?_ ?_); . rfl) <;> (refine Todo.of ?_))))
 refine zfk (fun k : Nat => ⟨[(0,.sl (l.map cSlt)),(3,.int .i64 (sumC (l.take k))),(4,.int .i64 k)],[]⟩) (fun k => k <= l.length) (fun k => l.length - k) 0 (by exact Nat.zero_le _) ?_ (Nat.zero_le _) fun k hk => ?_
 . simp only [zg,List.map_cons,List.map_nil,zc,Nk.get_nil,Nat.reduceEqDiff,↓reduceIte,DV.cut,DV.inB,List.take_nil,List.take_zero,reduceCtorEq]
   rfl
 by_cases d : k < l.length
 . have w : IntKind.i64.wrap ((k : Int) + 1) = ((k + 1 : Nat) : Int) := by rw [z9 (by omega)]; omega
   have e1 := zzo d
   have b1 := sumC_b l k hk
   have s1 := zub d
   generalize l.getD k default = x at *
   have e2 := zbn x.ty
   have b2 := zad x.ty
   have w2 : IntKind.i64.wrap (sumC (l.take k) + zt x.ty) = sumC (l.take (k + 1)) := by rw [z9 (by omega),s1]
   simp only [cTy,cSlt] at e1 e2
   (have hcondQ := Bool.and_self; refine Todo.of ?_; repeat' (first | ((with_reducible refine Todo.to ?_); try simp only [↓rP,rT,rU,zb,dval,dBin,dInt,zh,za,DV.immB,ze,zf,zp,zo,zx,zi,zq,Nat.reduceEqDiff,Nat.reduceAdd,↓reduceIte,reduceCtorEq,Nat.reduceLeDiff,e1,e2,d,w,w2]) | ((with_reducible refine And.intro ?_ ?_); . first | trivial | omega | (simp; done) | (simp; omega)) | (((with_reducible refine zu ?_ ?_ ?_); . rfl) <;> (refine Todo.of ?_))))
   refine ⟨k + 1,?_,by omega,by omega⟩
   simp only [zg,List.map_cons,List.map_nil,zc,Nk.get_nil,Nat.reduceEqDiff,↓reduceIte,DV.cut,DV.inB,List.take_nil,reduceCtorEq]
 . have e : l.take k = l := List.take_of_length_le (by omega)
   (have hcondQ := Bool.and_self; refine Todo.of ?_; repeat' (first | ((with_reducible refine Todo.to ?_); try simp only [↓rP,rT,rU,zb,dval,dBin,dInt,retV,DR.val,fzT,fzV,fz1,DV.immB,Nat.reduceEqDiff,↓reduceIte,reduceCtorEq,d,e]) | ((with_reducible refine And.intro ?_ ?_); . first | trivial | omega | (simp; done) | (simp; omega)) | (((with_reducible refine zu ?_ ?_ ?_); . rfl) <;> (refine Todo.of ?_))))
set_option linter.all false
set_option maxRecDepth 20000
open Go.Nk
def zb5 (t : Ty) : Int := if t.k = 1 \/ t.k = 2 then t.k else if t.k = 3 /\ 0 <= t.e /\ t.e <= 1000 then 3 + t.e else 0
noncomputable def zpw : List DV -> Prop × DV := zbp eTy fun t => (True,.int .i64 (zb5 t))
theorem zku (t : Ty) : zpw [.agg (cTy t)] = (True,.int .i64 (zb5 t)) := z8 zii _ _
theorem z9x : OkP Tryz.prog 109 zpw := by
 refine OkP.mk1 (ps := []) (hs := []) trivial trivial ya4 fun t _ => ?_
 by_cases q : 0 <= t.e /\ t.e <= 1000
 . have w : IntKind.i64.wrap (3 + t.e) = 3 + t.e := z9 (by omega)
   (have hcondQ := Bool.and_self; refine Todo.of ?_; repeat' (first | ((with_reducible refine Todo.to ?_); try simp only [↓rP,rT,rU,zb,dval,dBin,dInt,zh,za,retV,DR.val,fzT,fzV,fz1,DV.immB,cellsOf,Nat.reduceEqDiff,Nat.reduceAdd,↓reduceIte,Nat.reduceLT,zqz,w,hcondQ]) | ((with_reducible refine And.intro ?_ ?_); . first | trivial | omega | (simp; done) | (simp; omega)) | ((first | ((with_reducible refine zd (t := ?_) ?_ (fun hcQ => ?_) (fun hcQ => ?_)); rotate_left; . rfl) | ((with_reducible refine zl (t := ?_) ?_ (fun hcQ => ?_) (fun hcQ => ?_)); rotate_left; . rfl)) <;> (have hn := hcQ; have hcondQ := hcQ) <;> (try simp only [decide_eq_true_eq,decide_eq_false_iff_not,beq_iff_eq,ne_eq,beq_eq_false_iff_ne] at hn) <;> (try (exfalso; omega)) <;> (refine Todo.of ?_)) | (((with_reducible refine zu ?_ ?_ ?_); . rfl) <;> (refine Todo.of ?_))))
   all_goals grind [zb5]
 . (have hcondQ := Bool.and_self; refine Todo.of ?_; repeat' (first | ((with_reducible refine Todo.to ?_); try simp only [↓rP,rT,rU,zb,dval,dBin,dInt,zh,za,retV,DR.val,fzT,fzV,fz1,DV.immB,cellsOf,Nat.reduceEqDiff,Nat.reduceAdd,↓reduceIte,Nat.reduceLT,zqz,hcondQ]) | ((with_reducible refine And.intro ?_ ?_); . first | trivial | omega | (simp; done) | (simp; omega)) | ((first | ((with_reducible refine zd (t := ?_) ?_ (fun hcQ => ?_) (fun hcQ => ?_)); rotate_left; . rfl) | ((with_reducible refine zl (t := ?_) ?_ (fun hcQ => ?_) (fun hcQ => ?_)); rotate_left; . rfl)) <;> (have hn := hcQ; have hcondQ := hcQ) <;> (try simp only [decide_eq_true_eq,decide_eq_false_iff_not,beq_iff_eq,ne_eq,beq_eq_false_iff_ne] at hn) <;> (try (exfalso; omega)) <;> (refine Todo.of ?_)) | (((with_reducible refine zu ?_ ?_ ?_); . rfl) <;> (refine Todo.of ?_))))
   all_goals grind [zb5]
theorem z7c : OkP Tryz.prog 91 zpw := by
 refine OkP.mk1 (ps := []) (hs := []) trivial trivial zqd fun t _ => ?_
 by_cases q : 0 <= t.e /\ t.e <= 1000
 . have w : IntKind.i64.wrap (3 + t.e) = 3 + t.e := z9 (by omega)
   (have hcondQ := Bool.and_self; refine Todo.of ?_; repeat' (first | ((with_reducible refine Todo.to ?_); try simp only [↓rP,rT,rU,zb,dval,dBin,dInt,zh,za,retV,DR.val,fzT,fzV,fz1,DV.immB,cellsOf,Nat.reduceEqDiff,Nat.reduceAdd,↓reduceIte,Nat.reduceLT,ze6,w,hcondQ]) | ((with_reducible refine And.intro ?_ ?_); . first | trivial | omega | (simp; done) | (simp; omega)) | ((first | ((with_reducible refine zd (t := ?_) ?_ (fun hcQ => ?_) (fun hcQ => ?_)); rotate_left; . rfl) | ((with_reducible refine zl (t := ?_) ?_ (fun hcQ => ?_) (fun hcQ => ?_)); rotate_left; . rfl)) <;> (have hn := hcQ; have hcondQ := hcQ) <;> (try simp only [decide_eq_true_eq,decide_eq_false_iff_not,beq_iff_eq,ne_eq,beq_eq_false_iff_ne] at hn) <;> (try (exfalso; omega)) <;> (refine Todo.of ?_)) | (((with_reducible refine zu ?_ ?_ ?_); . rfl) <;> (refine Todo.of ?_))))
   all_goals grind [zb5]
 . (have hcondQ := Bool.and_self; refine Todo.of ?_; repeat' (first | ((with_reducible refine Todo.to ?_); try simp only [↓rP,rT,rU,zb,dval,dBin,dInt,zh,za,retV,DR.val,fzT,fzV,fz1,DV.immB,cellsOf,Nat.reduceEqDiff,Nat.reduceAdd,↓reduceIte,Nat.reduceLT,ze6,hcondQ]) | ((with_reducible refine And.intro ?_ ?_); . first | trivial | omega | (simp; done) | (simp; omega)) | ((first | ((with_reducible refine zd (t := ?_) ?_ (fun hcQ => ?_) (fun hcQ => ?_)); rotate_left; . rfl) | ((with_reducible refine zl (t := ?_) ?_ (fun hcQ => ?_) (fun hcQ => ?_)); rotate_left; . rfl)) <;> (have hn := hcQ; have hcondQ := hcQ) <;> (try simp only [decide_eq_true_eq,decide_eq_false_iff_not,beq_iff_eq,ne_eq,beq_eq_false_iff_ne] at hn) <;> (try (exfalso; omega)) <;> (refine Todo.of ?_)) | (((with_reducible refine zu ?_ ?_ ?_); . rfl) <;> (refine Todo.of ?_))))
   all_goals grind [zb5]
set_option linter.all false
set_option maxRecDepth 20000
open Go.Nk
def smallC (l : List (List UInt8)) : Bool := l.all fun s => decide (s.length <= 100)
def zli (x : En) : Bool := decide (x.ct.length <= 12) && decide (x.name.length <= 100) && smallC x.ct
def zgh (l : List En) : Bool := decide (l.length <= 8) && l.all zli
noncomputable def z5l : List DV -> Prop × DV := zbp eEns fun l => (True,.bool (zgh l))
theorem zzk (l : List En) : z5l [.sl (l.map cEn)] = (True,.bool (zgh l)) := z8 zfe _ _
theorem ok_Small : OkP Tryz.prog 31 z5l := by
 refine OkP.mk1 (ps := []) (hs := []) trivial trivial zn0 fun l _ => ?_
 by_cases q : l.length <= 8
 rotate_left
 . have n1 : (8 : Int) < (l.length : Int) := by omega
   have hr : zgh l = false := by simp [zgh]; intro h; omega
   (have hcondQ := Bool.and_self; refine Todo.of ?_; repeat' (first | ((with_reducible refine Todo.to ?_); try simp only [↓rP,rT,rU,zb,dval,dBin,dInt,retV,DR.val,fzT,fzV,fz1,DV.immB,↓reduceIte,reduceCtorEq,zeg,n1,hr]) | ((with_reducible refine And.intro ?_ ?_); . first | trivial | omega | (simp; done) | (simp; omega)) | (((with_reducible refine zu ?_ ?_ ?_); . rfl) <;> (refine Todo.of ?_))))
 have n1 : ¬ (8 : Int) < (l.length : Int) := by omega
 have hr : zgh l = l.all zli := by simp [zgh,q]
 (have hcondQ := Bool.and_self; refine Todo.of ?_; repeat' (first | ((with_reducible refine Todo.to ?_); try simp only [↓rP,rT,rU,zb,dval,dBin,dInt,↓reduceIte,reduceCtorEq,zeg,n1]) | ((with_reducible refine And.intro ?_ ?_); . first | trivial | omega | (simp; done) | (simp; omega)) | (((with_reducible refine zu ?_ ?_ ?_); . rfl) <;> (refine Todo.of ?_))))
 refine zfk (fun k : Nat => ⟨[(0,.sl (l.map cEn)),(3,.int .i64 k)],[]⟩) (fun k => k <= l.length /\ ∀ x ∈ l.take k,zli x = true) (fun k => l.length - k) 0 (by exact Nat.zero_le _) ?_ ⟨Nat.zero_le _,by simp⟩ fun k hk => ?_
 . simp only [zg,List.map_cons,List.map_nil,zc,Nk.get_nil,↓reduceIte,DV.cut,DV.inB,List.take_nil,reduceCtorEq]
   rfl
 obtain ⟨hk,ht⟩ := hk
 by_cases d : k < l.length
 rotate_left
 . have e := z8d d ht
   rw [e] at hr
   (have hcondQ := Bool.and_self; refine Todo.of ?_; repeat' (first | ((with_reducible refine Todo.to ?_); try simp only [↓rP,rT,rU,zb,dval,dBin,dInt,retV,DR.val,fzT,fzV,fz1,DV.immB,Nat.reduceEqDiff,↓reduceIte,reduceCtorEq,d,hr]) | ((with_reducible refine And.intro ?_ ?_); . first | trivial | omega | (simp; done) | (simp; omega)) | (((with_reducible refine zu ?_ ?_ ?_); . rfl) <;> (refine Todo.of ?_))))
 have w : IntKind.i64.wrap ((k : Int) + 1) = ((k + 1 : Nat) : Int) := by rw [z9 (by omega)]; omega
 have e1 := zre d
 have n2 := @ygz _ zli l default k d
 have n3 := @z8i _ zli l default k d ht
 generalize l.getD k default = x at *
 simp only [cEn] at e1
 by_cases c : x.ct.length <= 12 /\ x.name.length <= 100
 rotate_left
 . have := n2 (by simp only [zli]; grind)
   rw [this] at hr
   (have hcondQ := Bool.and_self; refine Todo.of ?_; repeat' (first | ((with_reducible refine Todo.to ?_); try simp only [↓rP,rT,rU,zb,dval,dBin,dInt,zh,za,retV,DR.val,fzT,fzV,fz1,DV.immB,Nat.reduceEqDiff,Nat.reduceAdd,↓reduceIte,reduceCtorEq,Nat.reduceLT,z7,e1,d,hr,hcondQ]) | ((with_reducible refine And.intro ?_ ?_); . first | trivial | omega | (simp; done) | (simp; omega)) | ((first | ((with_reducible refine zd (t := ?_) ?_ (fun hcQ => ?_) (fun hcQ => ?_)); rotate_left; . rfl) | ((with_reducible refine zl (t := ?_) ?_ (fun hcQ => ?_) (fun hcQ => ?_)); rotate_left; . rfl)) <;> (have hn := hcQ; have hcondQ := hcQ) <;> (try simp only [decide_eq_true_eq,decide_eq_false_iff_not] at hn) <;> (try (exfalso; omega)) <;> (refine Todo.of ?_)) | (((with_reducible refine zu ?_ ?_ ?_); . rfl) <;> (refine Todo.of ?_))))
   all_goals (exfalso; omega)
 obtain ⟨c1,c2⟩ := c
 have m1 : ¬ (12 : Int) < (x.ct.length : Int) := by omega
 have m2 : ¬ (100 : Int) < (x.name.length : Int) := by omega
 have hx : zli x = smallC x.ct := by simp [zli,c1,c2]
 (have hcondQ := Bool.and_self; refine Todo.of ?_; repeat' (first | ((with_reducible refine Todo.to ?_); try simp only [↓rP,rT,rU,zb,dval,dBin,dInt,zh,za,Nat.reduceEqDiff,Nat.reduceAdd,↓reduceIte,reduceCtorEq,Nat.reduceLT,z7,e1,d,m1,m2]) | ((with_reducible refine And.intro ?_ ?_); . first | trivial | omega | (simp; done) | (simp; omega)) | (((with_reducible refine zu ?_ ?_ ?_); . rfl) <;> (refine Todo.of ?_))))
 refine zfk (fun j : Nat => ⟨[(0,.sl (l.map cEn)),(3,.int .i64 k),(4,.int .i64 j)],[]⟩) (fun j => j <= x.ct.length /\ ∀ s ∈ x.ct.take j,(fun s : List UInt8 => decide (s.length <= 100)) s = true) (fun j => x.ct.length - j) 0 (by exact Nat.zero_le _) ?_ ⟨Nat.zero_le _,by simp⟩ fun j hj => ?_
 . simp only [zg,List.map_cons,List.map_nil,zc,Nk.get_nil,Nat.reduceEqDiff,↓reduceIte,DV.cut,DV.inB,List.take_nil,reduceCtorEq]
   rfl
 obtain ⟨hj,hs⟩ := hj
 by_cases dj : j < x.ct.length
 rotate_left
 . have e := z8d dj hs
   have := n3 (by rw [hx]; exact e)
   (have hcondQ := Bool.and_self; refine Todo.of ?_; repeat' (first | ((with_reducible refine Todo.to ?_); try simp only [↓rP,rT,rU,zb,dval,dBin,dInt,zh,za,Nat.reduceEqDiff,Nat.reduceAdd,↓reduceIte,reduceCtorEq,z7,e1,d,dj,w]) | ((with_reducible refine And.intro ?_ ?_); . first | trivial | omega | (simp; done) | (simp; omega)) | (((with_reducible refine zu ?_ ?_ ?_); . rfl) <;> (refine Todo.of ?_))))
   refine ⟨k + 1,?_,⟨by omega,this⟩,by omega⟩
   simp only [zg,List.map_cons,List.map_nil,zc,Nk.get_nil,↓reduceIte,DV.cut,DV.inB,List.take_nil,reduceCtorEq]
 have wj : IntKind.i64.wrap ((j : Int) + 1) = ((j + 1 : Nat) : Int) := by rw [z9 (by omega)]; omega
 have e2 := zoc dj
 have n4 := @ygz _ (fun s : List UInt8 => decide (s.length <= 100)) x.ct [] j dj
 have n5 := @z8i _ (fun s : List UInt8 => decide (s.length <= 100)) x.ct [] j dj hs
 generalize x.ct.getD j [] = y at *
 (have hcondQ := Bool.and_self; refine Todo.of ?_; repeat' (first | ((with_reducible refine Todo.to ?_); try simp only [↓rP,rT,rU,zb,dval,dBin,dInt,zh,za,retV,DR.val,fzT,fzV,fz1,DV.immB,Nat.reduceEqDiff,Nat.reduceAdd,↓reduceIte,reduceCtorEq,z7,e1,e2,d,dj,wj,hcondQ]) | ((with_reducible refine And.intro ?_ ?_); . first | trivial | omega | (simp; done) | (simp; omega)) | ((first | ((with_reducible refine zd (t := ?_) ?_ (fun hcQ => ?_) (fun hcQ => ?_)); rotate_left; . rfl) | ((with_reducible refine zl (t := ?_) ?_ (fun hcQ => ?_) (fun hcQ => ?_)); rotate_left; . rfl)) <;> (have hn := hcQ; have hcondQ := hcQ) <;> (try simp only [decide_eq_true_eq,decide_eq_false_iff_not] at hn) <;> (try (exfalso; omega)) <;> (refine Todo.of ?_)) | (((with_reducible refine zu ?_ ?_ ?_); . rfl) <;> (refine Todo.of ?_))))
 all_goals first
   | (have := n2 (by rw [hx]; exact n4 (by simp only [decide_eq_false_iff_not]; omega))
      simp only [hr,this]; done)
   | (refine ⟨j + 1,?_,⟨by omega,fun s hs' => of_decide_eq_true (n5 (by simp only [decide_eq_true_eq]; omega) s hs')⟩,by omega⟩
      simp only [zg,List.map_cons,List.map_nil,zc,Nk.get_nil,Nat.reduceEqDiff,↓reduceIte,DV.cut,DV.inB,List.take_nil,reduceCtorEq])
set_option linter.all false
set_option maxRecDepth 20000
open Go.Nk
def fewP (p : Prt) : Bool := decide (p.name.length <= 200)
def fewS (s : Slt) : Bool := decide (s.path.length <= 300) && decide (s.ini.length <= 300)
def fewF (x : Img) : Bool := zgh x.en && decide (x.ins.length + x.outs.length <= 50) && decide (x.slots.length <= 150) && decide (x.loc.length <= 1100) && decide (x.code.length <= 800) && (x.ins ++ x.outs).all fewP && x.slots.all fewS
def zv3 (x : Img) : Prop := x.ins.length <= 1000000000000000000 /\ x.outs.length <= 1000000000000000000
noncomputable def s_Few : List DV -> Prop × DV := zbp eImg fun x => (zv3 x,.bool (fewF x))
theorem z83 (x : Img) : s_Few [.agg (cImg x)] = (zv3 x,.bool (fewF x)) := z8 za4 _ x
theorem ztm (l : List Prt) : ∀ e ∈ l.map cPrt,e.length = 4 := by simp
theorem zp5 : OkP Tryz.prog 13 s_Few := by
 refine OkP.mk1 (ps := [(31,z5l)]) (hs := []) ⟨ok_Small,trivial⟩ trivial zs3 fun x h => ?_
 try dsimp only at h
 obtain ⟨h1,h2⟩ := h
 by_cases q : zgh x.en = true /\ x.ins.length + x.outs.length <= 50 /\ x.slots.length <= 150 /\ x.loc.length <= 1100 /\ x.code.length <= 800
 rotate_left
 . have hr : fewF x = false := by
     rw [Bool.eq_false_iff]
     intro hh
     simp only [fewF,Bool.and_eq_true,decide_eq_true_eq] at hh
     exact q ⟨hh.1.1.1.1.1.1,hh.1.1.1.1.1.2,hh.1.1.1.1.2,hh.1.1.1.2,hh.1.1.2⟩
   ((have hcondQ := Bool.and_self; refine Todo.of ?_); (repeat' (first | ((with_reducible refine Todo.to ?_); (repeat (first | (simp only [↓rP,rT,rU,eA,zb,DOp.kind,dval,dBin,dInt,dUn,zh,za,retV,DR.val,fzT,fzV,fz1,DV.immB,ze,zf,zp,zo,zi,zq,zy,zax,fzLL,cellsOf,zat,Nat.reduceEqDiff,Nat.reduceAdd,↓reduceIte,reduceCtorEq,Nat.reduceLT,forall_const,zfu,zzk,eImg,zae,hr ,hcondQ]) | ((simp (disch := omega) only [z6]))))) | ((with_reducible refine And.intro ?_ ?_); . (simp; omega)) | (((first | ((with_reducible refine zd (t := ?_) ?_ (fun hcQ => ?_) (fun hcQ => ?_)); rotate_left; . (rfl)) | ((with_reducible refine zl (t := ?_) ?_ (fun hcQ => ?_) (fun hcQ => ?_)); rotate_left; . (rfl))) <;> (have hn := hcQ; have hcondQ := hcQ) <;> (try simp only [decide_eq_true_eq,decide_eq_false_iff_not,Bool.not_eq_true',Bool.not_eq_false'] at hn) <;> (refine Todo.of ?_))) | fail)))
   all_goals (exfalso; apply q; refine ⟨by grind,by omega,by omega,by omega,by omega⟩)
 obtain ⟨q0,q1,q2,q3,q4⟩ := q
 have hr : fewF x = ((x.ins ++ x.outs).all fewP && x.slots.all fewS) := by simp [fewF,q0,q1,q2,q3,q4]
 have r1 := ztm x.ins
 have r2 := ztm x.outs
 ((have hcondQ := Bool.and_self; refine Todo.of ?_); (repeat' (first | ((with_reducible refine Todo.to ?_); (repeat (first | (simp only [↓rP,rT,rU,eA,zb,DOp.kind,dval,dBin,dInt,dUn,zh,za,DV.immB,ze,zf,zp,zo,zi,zq,zy,zax,fzLL,cellsOf,zat,Nat.reduceEqDiff,Nat.reduceAdd,↓reduceIte,reduceCtorEq,Nat.reduceLT,forall_const,zfu,zzk,eImg,zae,q0,hcondQ]) | ((simp (disch := omega) only [z6]))))) | ((with_reducible refine And.intro ?_ ?_); . (simp; omega)) | (((first | ((with_reducible refine zd (t := ?_) ?_ (fun hcQ => ?_) (fun hcQ => ?_)); rotate_left; . (rfl)) | ((with_reducible refine zl (t := ?_) ?_ (fun hcQ => ?_) (fun hcQ => ?_)); rotate_left; . (rfl))) <;> (have hn := hcQ; have hcondQ := hcQ) <;> (try simp only [decide_eq_true_eq,decide_eq_false_iff_not] at hn) <;> (try (exfalso; omega)) <;> (refine Todo.of ?_))) | fail)))
 refine z0 (x.ins ++ x.outs) (fun k (_ : Unit) => ⟨[(1,.ref (cImg x)),(3,.own 0 (x.ins.length + x.outs.length) 0 (x.ins.length + x.outs.length)),(4,.int .i64 k)],[⟨.imm,4,(x.ins ++ x.outs).map cPrt⟩]⟩) (fun k r _ => k <= 100 /\ r.all fewP = (x.ins ++ x.outs).all fewP) () (Nat.zero_le _) (by simp only [zg,List.map_cons,List.map_nil,zc,Nk.get_nil,Nat.reduceEqDiff,↓reduceIte,DV.cut,DV.inB,DObj.cut,List.take_nil,reduceCtorEq,Nat.zero_lt_one,decide_true,List.take_succ_cons,List.map_append] <;> rfl) ⟨by omega,rfl⟩ (fun k y r _ d hy hd hr2 => ?_) (fun k _ e hr2 => ?_)
 . obtain ⟨hk,hr2⟩ := hr2
   simp only [List.all_cons] at hr2
   rw [List.length_append] at d
   ((have hcondQ := Bool.and_self; refine Todo.of ?_); (repeat' (first | ((with_reducible refine Todo.to ?_); (repeat (first | (simp only [↓rP,rT,rU,zb,dval,dBin,dInt,zh,za,retV,DR.val,fzT,fzV,fz1,DV.immB,alive,Nat.reduceEqDiff,Nat.reduceAdd,↓reduceIte,reduceCtorEq,Nat.reduceLeDiff,Nat.reduceLT,d,zm cPrt hy,hcondQ]) | ((simp (disch := omega) only [z6]))))) | ((with_reducible refine And.intro ?_ ?_); . omega) | (((((with_reducible refine zd (t := ?_) ?_ (fun hcQ => ?_) (fun hcQ => ?_)); rotate_left; . (rfl))) <;> (have hn := hcQ; have hcondQ := hcQ) <;> (try simp only [decide_eq_true_eq,decide_eq_false_iff_not] at hn) <;> (refine Todo.of ?_))) | fail)))
   all_goals first
     | exact ⟨(),by simp only [zg,List.map_cons,List.map_nil,zc,Nk.get_nil,Nat.reduceEqDiff,↓reduceIte,DV.cut,DV.inB,DObj.cut,List.take_nil,reduceCtorEq,Nat.zero_lt_one,decide_true,List.take_succ_cons,Int.natCast_add,Int.natCast_one,List.map_append] <;> rfl,by omega,by grind [fewP]⟩
     | grind [fewP]
 obtain ⟨hk,hr2⟩ := hr2
 simp only [List.all_nil] at hr2
 rw [<- hr2,Bool.true_and] at hr
 rw [List.length_append] at e
 ((refine Todo.of ?_); (repeat' (first | ((with_reducible refine Todo.to ?_); (repeat (simp only [↓rP,rT,rU,zb,dval,dBin,dInt,alive,Nat.reduceEqDiff,↓reduceIte,reduceCtorEq,e ]))))))
 refine z0 x.slots (fun k (_ : Unit) => ⟨[(1,.ref (cImg x)),(5,.int .i64 k)],[⟨.imm,4,(x.ins ++ x.outs).map cPrt⟩]⟩) (fun k r _ => r.all fewS = x.slots.all fewS) () (Nat.zero_le _) (by simp only [zg,List.map_cons,List.map_nil,zc,Nk.get_nil,Nat.reduceEqDiff,↓reduceIte,DV.cut,DV.inB,DObj.cut,List.take_nil,reduceCtorEq,List.take_succ_cons,Int.natCast_add,List.map_append] <;> rfl) rfl (fun k y r _ d hy hd hr3 => ?_) (fun k _ e hr3 => ?_)
 . simp only [List.all_cons] at hr3
   ((have hcondQ := Bool.and_self; refine Todo.of ?_); (repeat' (first | ((with_reducible refine Todo.to ?_); (repeat (first | (simp only [↓rP,rT,rU,zb,dval,dBin,dInt,zh,za,retV,DR.val,fzT,fzV,fz1,DV.immB,Nat.reduceEqDiff,Nat.reduceAdd,↓reduceIte,Nat.reduceLT,zae,d,zm cSlt hy ,hcondQ]) | ((simp (disch := omega) only [z6]))))) | ((with_reducible refine And.intro ?_ ?_); . omega) | (((first | ((with_reducible refine zd (t := ?_) ?_ (fun hcQ => ?_) (fun hcQ => ?_)); rotate_left; . (rfl)) | ((with_reducible refine zl (t := ?_) ?_ (fun hcQ => ?_) (fun hcQ => ?_)); rotate_left; . (rfl))) <;> (have hn := hcQ; have hcondQ := hcQ) <;> (try simp only [decide_eq_true_eq,decide_eq_false_iff_not] at hn) <;> (refine Todo.of ?_))) | fail)))
   all_goals first
     | exact ⟨(),by simp only [zg,List.map_cons,List.map_nil,zc,Nk.get_nil,Nat.reduceEqDiff,↓reduceIte,DV.cut,DV.inB,DObj.cut,List.take_nil,reduceCtorEq,List.take_succ_cons,Int.natCast_add,Int.natCast_one,List.map_append] <;> rfl,by grind [fewS]⟩
     | grind [fewS]
 . simp only [List.all_nil] at hr3
   ((refine Todo.of ?_); (repeat' (first | ((with_reducible refine Todo.to ?_); (repeat (simp only [↓rP,rT,rU,zb,dval,dBin,dInt,zh,za,retV,DR.val,fzT,fzV,fz1,DV.immB,Nat.reduceEqDiff,Nat.reduceAdd,↓reduceIte,Nat.reduceLT,e ]))))))
   grind
set_option linter.all false
set_option maxRecDepth 20000
open Go.Nk
set_option linter.all false
set_option maxRecDepth 20000
open Go.Nk
def zct (t : Ty) : List Int := List.replicate (zt t).toNat (zb5 t)
theorem zt6 (t : Ty) : (zct t).length = (zt t).toNat := by simp [zct]
theorem z6q {t : Ty} {x : Int} (h : x ∈ zct t) : x = zb5 t := List.eq_of_mem_replicate h
structure rK where
 t : Ty
 m : Nat
 ks : List Int
def relK (x : rK) (a : List DV) (hp : List DObj) : Prop := a = [.own x.m x.ks.length 0 x.ks.length,.agg (cTy x.t)] /\ hp[x.m]? = some ⟨.imm,1,ils x.ks⟩
theorem relK_u : ∀ x y a hp,relK x a hp -> relK y a hp -> x = y := by
 rintro ⟨t,m,ks⟩ ⟨t',m',ks'⟩ a hp ⟨h1,h2⟩ ⟨h3,h4⟩
 subst h1
 simp only [List.cons.injEq,DV.own.injEq,DV.agg.injEq,and_true] at h3
 obtain ⟨⟨rfl,h5,_⟩,h6⟩ := h3
 simp only at h2 h4
 rw [h2] at h4
 injection h4 with h4
 injection h4 with _ _ h4
 have e1 := zjx h4
 have e2 : t = t' := zpy _ _ (by simpa using h6)
 subst e1 e2; rfl
noncomputable def z5p : List DV -> List DObj -> Res := zrr relK (fun x => (x.ks.length <= 1000000000,.own x.m (x.ks ++ zct x.t).length 0 (x.ks ++ zct x.t).length)) fun x hp => one hp x.m ⟨.imm,1,ils (x.ks ++ zct x.t)⟩
theorem zmm (t : Ty) (m : Nat) (ks : List Int) (hp : List DObj) (h : hp[m]? = some ⟨.imm,1,ils ks⟩) : z5p [.own m ks.length 0 ks.length,.agg (cTy t)] hp =
   ⟨ks.length <= 1000000000,.own m (ks ++ zct t).length 0 (ks ++ zct t).length,one hp m ⟨.imm,1,ils (ks ++ zct t)⟩⟩ := zis relK_u (x := ⟨t,m,ks⟩) ⟨rfl,h⟩
theorem zlx : OkH Tryz.prog 65 z5p := by
 refine OkH.mkG (ps := [(30,zcg),(91,zpw)]) (hs := []) ⟨zc6,z7c,trivial⟩ trivial zog (by rintro x a hp ⟨rfl,_⟩; rfl) ?_
 rintro ⟨t,m,ks⟩ a hp ⟨rfl,h⟩ hl
 simp only at h hl |-
 have hm := zay h
 have hh := one_is h
 have hc := zt6 t
 have hb := zad t
 have e0 : (⟨zn 0 [.own m ks.length 0 ks.length,.agg (cTy t)],hp⟩ : DS) = (⟨zn 0 [.own m ks.length 0 ks.length,.agg (cTy t)],one hp m ⟨.imm,1,ils ks⟩ ++ []⟩ : DS) := by rw [hh,List.append_nil]
 rw [e0]
 
 ((refine Todo.of ?_); (repeat' (first | ((with_reducible refine Todo.to ?_); (repeat (simp only [↓rP,rT,rU,zb,dval,zn,DV.one,cellsOf,Nat.reduceAdd,↓reduceIte,forall_const,zhh,List.append_assoc,Nat.add_zero,yed ]))))))
 refine z0 (zct t) (fun k (o : List Int) => ⟨[(0,.own m o.length 0 o.length),(3,.ptr hp.length 1 0 0),(5,.int .i64 k)],one hp m ⟨.imm,1,ils o⟩ ++ [⟨.loc,3,[cTy t]⟩]⟩) (fun k r o => o ++ r = ks ++ zct t /\ o.length <= 1000000000 + k) ks trivial (by simp only [zfi,List.map_cons,List.map_nil,zc,Nk.get_nil,Nat.reduceEqDiff,↓reduceIte,reduceCtorEq] <;> rfl) ⟨rfl,by omega⟩ (fun k x r o d hx hd hr => ?_) (fun k o e hr => ?_)
 . obtain ⟨h1,h2⟩ := hr
   have hx2 := z6q (zfd hd)
   subst hx2
   ((have hcondQ := Bool.and_self; refine Todo.of ?_); (repeat' (first | ((with_reducible refine Todo.to ?_); (repeat (first | (simp only [↓rP,rT,rU,zb,dval,dBin,dInt,zh,za,fz1,DV.immB,ze,zf,zp,zo,zx,zi,zq,zy,zax,fzLL,fzL,bRow,bU,cellsOf,DV.isU,zat,Nat.reduceEqDiff,Nat.reduceAdd,↓reduceIte,reduceCtorEq,Nat.reduceLeDiff,forall_const,zbn,zku,zae,one_get hm,one_set hm,one_b,zkv ,hcondQ]) | ((simp (disch := omega) only [z6]))))) | ((with_reducible refine And.intro ?_ ?_); . omega) | (((((with_reducible refine zd (t := ?_) ?_ (fun hcQ => ?_) (fun hcQ => ?_)); rotate_left; . (rfl))) <;> (have hn := hcQ; have hcondQ := hcQ) <;> (try simp only [decide_eq_true_eq,decide_eq_false_iff_not] at hn) <;> (try (exfalso; omega)) <;> (refine Todo.of ?_))) | fail)))
   exact ⟨o ++ [zb5 t],by simp only [zfi,List.map_cons,List.map_nil,zc,Nk.get_nil,Nat.reduceEqDiff,↓reduceIte,reduceCtorEq,Int.natCast_add,Int.natCast_one,List.length_append,List.length_cons,List.length_nil,Nat.zero_add] <;> rfl,by simpa using h1,by simp; omega⟩
 . obtain ⟨h1,h2⟩ := hr
   rw [List.append_nil] at h1
   subst h1
   ((have hcondQ := Bool.and_self; refine Todo.of ?_); (repeat' (first | ((with_reducible refine Todo.to ?_); (repeat (simp only [↓rP,rT,rU,zb,dval,dBin,dInt,zh,za,retV,DR.val,DV.immB,ze,zf,zp,zo,zx,zi,zq,Nat.reduceEqDiff,Nat.reduceAdd,↓reduceIte,reduceCtorEq,Nat.reduceLeDiff,zbn,e,yed,one_b,hcondQ]))) | (((((with_reducible refine zd (t := ?_) ?_ (fun hcQ => ?_) (fun hcQ => ?_)); rotate_left; . (rfl))) <;> (have hn := hcQ; have hcondQ := hcQ) <;> (try simp only [decide_eq_true_eq,decide_eq_false_iff_not] at hn) <;> (try (exfalso; omega)) <;> (refine Todo.of ?_))) | fail)))
   exact ⟨by simp [DV.inB,hm],⟨_,rfl⟩,one_end ygc⟩
set_option linter.all false
set_option maxRecDepth 20000
open Go.Nk
structure Shp where
 hc : Nat
 lc : Nat
 ks : List Int
 lo : Int
 hi : Int
@[reducible] def TS : Duo Shp := ⟨fun m v => ⟨.loc,4,[[.own v.hc v.lc 0 v.lc,.own m v.ks.length 0 v.ks.length,.int .i64 v.lo,.int .i64 v.hi]]⟩,fun v => ⟨.imm,1,ils v.ks⟩⟩
structure rS where
 t : Ty
 n : Nat
 m : Nat
 v : Shp
theorem TS_set {hp t : List DObj} {n m : Nat} {v : Shp} {x : Int} (k : zby hp n m) :
   ((TS.put hp n m v ++ t).set m ⟨.imm,1,ils (v.ks ++ [x])⟩).set n ⟨.loc,4,[[.own v.hc v.lc 0 v.lc,.own m (v.ks.length + 1) 0 (v.ks.length + 1),.int .i64 v.lo,.int .i64 v.hi]]⟩ = TS.put hp n m { v with ks := v.ks ++ [x] } ++ t := by
 obtain ⟨k1,k2,k3⟩ := k
 rw [List.set_append_left _ _ (by simpa [Duo.put] using k2),List.set_append_left _ _ (by simpa [Duo.put] using k1)]
 congr 1
 unfold Duo.put
 refine List.ext_getElem? fun i => ?_
 by_cases h1 : n = i <;> by_cases h2 : m = i <;> simp_all []
theorem TS_get {hp t : List DObj} {n m : Nat} {v : Shp} {o : DObj} (k : zby hp n m) : ((TS.put hp n m v ++ t).set m o)[n]? = some (TS.o m v) := by
 rw [List.getElem?_set_ne (fun h => k.2.2 h.symm)]
 exact Duo.get_o k
set_option linter.all false
set_option maxRecDepth 20000
open Go.Nk
def zln (l : List Ty) : List Int := (l.map zct).flatten
theorem zmj (t : Ty) (l : List Ty) : zln (t :: l) = zct t ++ zln l := by simp [zln]
theorem zrq : zln [] = [] := rfl
theorem zw6 (t : Ty) : (zct t).length <= 8 := by
 rw [zt6]; have := zad t; omega
structure ShpF where
 ctors : List Int
 kinds : List Int
 lo : Int
 hi : Int
@[reducible] def cShp (v : ShpF) : List DV := [.sl (ils v.ctors),.sl (ils v.kinds),.int .i64 v.lo,.int .i64 v.hi]
def za6 (x : Img) : List Int := x.en.map fun e => (e.ct.length : Int)
def kS (x : Img) : List Int := zln (x.slots.map (·.ty))
def kI (x : Img) : List Int := kS x ++ zln (x.ins.map (·.ty))
def kO (x : Img) : List Int := kI x ++ zln (x.outs.map (·.ty))
def z4a (x : Img) : ShpF := ⟨za6 x,kO x ++ x.loc,(kS x).length,(kI x).length⟩
def z5x (x : Img) : Prop := x.en.length <= 1000000 /\ x.slots.length <= 1000000 /\ x.ins.length <= 1000000 /\ x.outs.length <= 1000000 /\ x.loc.length <= 1000000
noncomputable def z7i : List DV -> Prop × DV := zbp eImg fun x => (z5x x,.agg (cShp (z4a x)))
theorem ybe (x : Img) : z7i [.agg (cImg x)] = (z5x x,.agg (cShp (z4a x))) := z8 za4 _ x
theorem zmi : OkP Tryz.prog 39 z7i := by
 refine OkP.mk1 (ps := []) (hs := [(65,z5p)]) trivial ⟨zlx,trivial⟩ zpi fun x h => ?_
 obtain ⟨h1,h2,h3,h4,h5⟩ := h
 
 ((refine Todo.of ?_); (repeat' (first | ((with_reducible refine Todo.to ?_); (repeat (simp only [↓rP,rT,rU,eA,zr,zb,dval,zw,DV.one,cellsOf,zk,Nat.reduceEqDiff,Nat.reduceAdd,↓reduceIte,Nat.reduceLeDiff,forall_const,zhp,eImg ]))))))
 refine zef ?_
 ((refine Todo.of ?_); (repeat' (first | ((with_reducible refine Todo.to ?_); (repeat (simp only [rT,rU,Nat.reduceAdd,↓reduceIte ]))))))
 refine zef ?_
 ((refine Todo.of ?_); (repeat' (first | ((with_reducible refine Todo.to ?_); (repeat (simp only [↓rP,rT,rU,zb,dval,Nat.reduceAdd,↓reduceIte ]))))))
 refine z0 x.en (fun k (o : List Int) => ⟨[(1,.ptr 0 1 0 0),(2,.ptr 1 1 0 0),(3,.ptr 2 1 0 0),(4,.int .i64 k)],[⟨.loc,6,[cImg x]⟩,⟨.loc,4,[[.nil,.nil,.int .i64 0,.int .i64 0]]⟩,⟨.loc,4,[[.own 4 (o).length 0 (o).length,.own 3 (([] : List Int)).length 0 (([] : List Int)).length,.int .i64 0,.int .i64 0]]⟩,⟨.imm,1,ils (([] : List Int))⟩,⟨.imm,1,ils (o)⟩]⟩) (fun k r o => o ++ (r.map fun e => (e.ct.length : Int)) = za6 x /\ o.length <= k) [] (Nat.zero_le _) (by simp only [zg,List.map_cons,List.map_nil,zc,Nk.get_nil,Nat.reduceEqDiff,↓reduceIte,DV.cut,DV.inB,DObj.cut,List.take_nil,reduceCtorEq,decide_true,Nat.reduceLT,List.take_succ_cons,List.length_nil] <;> rfl) ⟨rfl,by simp⟩ (fun k y r o d hx hd hr => ?_) (fun k o e hr => ?_)
 . obtain ⟨h1,h2⟩ := hr
   simp only [List.map_cons] at h1
   ((have hcondQ := Bool.and_self; refine Todo.of ?_); (repeat' (first | ((with_reducible refine Todo.to ?_); (repeat (first | (simp only [↓rP,rT,rU,zb,dval,dBin,dInt,zh,za,fz1,DV.immB,zy,zax,zw,DV.one,alive,fzLL,fzL,bRow,bU,cellsOf,zk,DV.isU,zat,Nat.reduceEqDiff,Nat.reduceAdd,↓reduceIte,reduceCtorEq,Nat.reduceLeDiff,Nat.reduceLT,forall_const,z7,zae,d,zm cEn hx,zkv ,hcondQ]) | ((simp (disch := omega) only [z6]))))) | ((with_reducible refine And.intro ?_ ?_); . omega) | fail)))
   exact ⟨o ++ [(y.ct.length : Int)],by simp only [zg,List.map_cons,List.map_nil,zc,Nk.get_nil,Nat.reduceEqDiff,↓reduceIte,Nat.succ_ne_self,DV.cut,DV.inB,DObj.cut,List.take_nil,reduceCtorEq,decide_true,Nat.reduceLT,List.take_succ_cons,Int.natCast_add,Int.natCast_one,List.length_append,List.length_cons,List.length_nil,Nat.zero_add] <;> rfl,by simpa using h1,by simp; omega⟩
 obtain ⟨h1,h2⟩ := hr
 simp only [List.map_nil,List.append_nil] at h1
 subst h1
 ((refine Todo.of ?_); (repeat' (first | ((with_reducible refine Todo.to ?_); (repeat (simp only [↓rP,rT,rU,zb,dval,dBin,dInt,zh,za,alive,Nat.reduceEqDiff,Nat.reduceAdd,↓reduceIte,reduceCtorEq,Nat.reduceLT,e ]))))))
 refine z0 x.slots (fun k (o : List Int) => ⟨[(1,.ptr 0 1 0 0),(2,.ptr 1 1 0 0),(3,.ptr 2 1 0 0),(5,.int .i64 k)],[⟨.loc,6,[cImg x]⟩,⟨.loc,4,[[.nil,.nil,.int .i64 0,.int .i64 0]]⟩,⟨.loc,4,[[.own 4 (za6 x).length 0 (za6 x).length,.own 3 (o).length 0 (o).length,.int .i64 0,.int .i64 0]]⟩,⟨.imm,1,ils (o)⟩,⟨.imm,1,ils (za6 x)⟩]⟩) (fun k r o => o ++ zln (r.map (·.ty)) = kS x /\ o.length <= 0 + 8 * k) [] (Nat.zero_le _) (by simp only [zg,List.map_cons,List.map_nil,zc,Nk.get_nil,Nat.reduceEqDiff,↓reduceIte,Nat.succ_ne_self,DV.cut,DV.inB,DObj.cut,List.take_nil,reduceCtorEq,decide_true,Nat.reduceLT,List.take_succ_cons,List.length_nil] <;> rfl) ⟨rfl,by simp⟩ (fun k y r o d hx hd hr => ?_) (fun k o e hr => ?_)
 . obtain ⟨h1,h2⟩ := hr
   have hb := zw6 y.ty
   simp only [List.map_cons,zmj] at h1
   have e1 := zmm y.ty 3 o ([⟨.loc,6,[cImg x]⟩,⟨.loc,4,[[.nil,.nil,.int .i64 0,.int .i64 0]]⟩,⟨.loc,4,[[.own 4 (za6 x).length 0 (za6 x).length,.own 3 (o).length 0 (o).length,.int .i64 0,.int .i64 0]]⟩,⟨.imm,1,ils (o)⟩,⟨.imm,1,ils (za6 x)⟩]) rfl
   simp only [cTy] at e1
   ((refine Todo.of ?_); (repeat' (first | ((with_reducible refine Todo.to ?_); (repeat (first | (simp only [↓rP,rT,rU,zb,dval,dBin,dInt,zh,za,zw,DV.one,alive,cellsOf,zk,Nat.reduceEqDiff,Nat.reduceAdd,↓reduceIte,reduceCtorEq,Nat.reduceLeDiff,Nat.reduceLT,forall_const,d,zm cSlt hx,e1,one ]) | ((simp (disch := omega) only [z6]))))) | ((with_reducible refine And.intro ?_ ?_); . omega) | fail)))
   exact ⟨o ++ zct y.ty,by simp only [zg,List.map_cons,List.map_nil,zc,Nk.get_nil,Nat.reduceEqDiff,↓reduceIte,Nat.succ_ne_self,DV.cut,DV.inB,DObj.cut,List.take_nil,reduceCtorEq,decide_true,Nat.reduceLT,List.take_succ_cons,Int.natCast_add,Int.natCast_one,List.length_append] <;> rfl,by simpa using h1,by simp; omega⟩
 obtain ⟨h1,h2⟩ := hr
 simp only [List.map_nil,zrq,List.append_nil] at h1
 subst h1
 ((refine Todo.of ?_); (repeat' (first | ((with_reducible refine Todo.to ?_); (repeat (simp only [↓rP,rT,rU,zb,dval,dBin,dInt,zh,za,zw,DV.one,alive,cellsOf,zk,Nat.reduceEqDiff,Nat.reduceAdd,↓reduceIte,reduceCtorEq,Nat.reduceLeDiff,Nat.reduceLT,forall_const,zae,e ]))))))
 refine z0 x.ins (fun k (o : List Int) => ⟨[(1,.ptr 0 1 0 0),(2,.ptr 1 1 0 0),(3,.ptr 2 1 0 0),(6,.int .i64 k)],[⟨.loc,6,[cImg x]⟩,⟨.loc,4,[[.nil,.nil,.int .i64 0,.int .i64 0]]⟩,⟨.loc,4,[[.own 4 (za6 x).length 0 (za6 x).length,.own 3 (o).length 0 (o).length,.int .i64 ((kS x).length : Int),.int .i64 0]]⟩,⟨.imm,1,ils (o)⟩,⟨.imm,1,ils (za6 x)⟩]⟩) (fun k r o => o ++ zln (r.map (·.ty)) = kI x /\ o.length <= 8000000 + 8 * k) (kS x) (Nat.zero_le _) (by simp only [zg,List.map_cons,List.map_nil,zc,Nk.get_nil,Nat.reduceEqDiff,↓reduceIte,Nat.succ_ne_self,DV.cut,DV.inB,DObj.cut,List.take_nil,reduceCtorEq,decide_true,Nat.reduceLT,List.take_succ_cons] <;> rfl) ⟨rfl,by omega⟩ (fun k y r o d hx hd hr => ?_) (fun k o e hr => ?_)
 . obtain ⟨h1,h2⟩ := hr
   have hb := zw6 y.ty
   simp only [List.map_cons,zmj] at h1
   have e1 := zmm y.ty 3 o ([⟨.loc,6,[cImg x]⟩,⟨.loc,4,[[.nil,.nil,.int .i64 0,.int .i64 0]]⟩,⟨.loc,4,[[.own 4 (za6 x).length 0 (za6 x).length,.own 3 (o).length 0 (o).length,.int .i64 ((kS x).length : Int),.int .i64 0]]⟩,⟨.imm,1,ils (o)⟩,⟨.imm,1,ils (za6 x)⟩]) rfl
   simp only [cTy] at e1
   ((refine Todo.of ?_); (repeat' (first | ((with_reducible refine Todo.to ?_); (repeat (first | (simp only [↓rP,rT,rU,zb,dval,dBin,dInt,zh,za,zw,DV.one,alive,cellsOf,zk,Nat.reduceEqDiff,Nat.reduceAdd,↓reduceIte,reduceCtorEq,Nat.reduceLeDiff,Nat.reduceLT,forall_const,d,zm cPrt hx,e1,one ]) | ((simp (disch := omega) only [z6]))))) | ((with_reducible refine And.intro ?_ ?_); . omega) | fail)))
   exact ⟨o ++ zct y.ty,by simp only [zg,List.map_cons,List.map_nil,zc,Nk.get_nil,Nat.reduceEqDiff,↓reduceIte,Nat.succ_ne_self,DV.cut,DV.inB,DObj.cut,List.take_nil,reduceCtorEq,decide_true,Nat.reduceLT,List.take_succ_cons,Int.natCast_add,Int.natCast_one,List.length_append] <;> rfl,by simpa using h1,by simp; omega⟩
 obtain ⟨h1,h2⟩ := hr
 simp only [List.map_nil,zrq,List.append_nil] at h1
 subst h1
 ((refine Todo.of ?_); (repeat' (first | ((with_reducible refine Todo.to ?_); (repeat (simp only [↓rP,rT,rU,zb,dval,dBin,dInt,zh,za,zw,DV.one,alive,cellsOf,zk,Nat.reduceEqDiff,Nat.reduceAdd,↓reduceIte,reduceCtorEq,Nat.reduceLeDiff,Nat.reduceLT,forall_const,zae,e ]))))))
 refine z0 x.outs (fun k (o : List Int) => ⟨[(1,.ptr 0 1 0 0),(2,.ptr 1 1 0 0),(3,.ptr 2 1 0 0),(7,.int .i64 k)],[⟨.loc,6,[cImg x]⟩,⟨.loc,4,[[.nil,.nil,.int .i64 0,.int .i64 0]]⟩,⟨.loc,4,[[.own 4 (za6 x).length 0 (za6 x).length,.own 3 (o).length 0 (o).length,.int .i64 ((kS x).length : Int),.int .i64 ((kI x).length : Int)]]⟩,⟨.imm,1,ils (o)⟩,⟨.imm,1,ils (za6 x)⟩]⟩) (fun k r o => o ++ zln (r.map (·.ty)) = kO x /\ o.length <= 16000000 + 8 * k) (kI x) (Nat.zero_le _) (by simp only [zg,List.map_cons,List.map_nil,zc,Nk.get_nil,Nat.reduceEqDiff,↓reduceIte,Nat.succ_ne_self,DV.cut,DV.inB,DObj.cut,List.take_nil,reduceCtorEq,decide_true,Nat.reduceLT,List.take_succ_cons] <;> rfl) ⟨rfl,by omega⟩ (fun k y r o d hx hd hr => ?_) (fun k o e hr => ?_)
 . obtain ⟨h1,h2⟩ := hr
   have hb := zw6 y.ty
   simp only [List.map_cons,zmj] at h1
   have e1 := zmm y.ty 3 o ([⟨.loc,6,[cImg x]⟩,⟨.loc,4,[[.nil,.nil,.int .i64 0,.int .i64 0]]⟩,⟨.loc,4,[[.own 4 (za6 x).length 0 (za6 x).length,.own 3 (o).length 0 (o).length,.int .i64 ((kS x).length : Int),.int .i64 ((kI x).length : Int)]]⟩,⟨.imm,1,ils (o)⟩,⟨.imm,1,ils (za6 x)⟩]) rfl
   simp only [cTy] at e1
   ((refine Todo.of ?_); (repeat' (first | ((with_reducible refine Todo.to ?_); (repeat (first | (simp only [↓rP,rT,rU,zb,dval,dBin,dInt,zh,za,zw,DV.one,alive,cellsOf,zk,Nat.reduceEqDiff,Nat.reduceAdd,↓reduceIte,reduceCtorEq,Nat.reduceLeDiff,Nat.reduceLT,forall_const,d,zm cPrt hx,e1,one ]) | ((simp (disch := omega) only [z6]))))) | ((with_reducible refine And.intro ?_ ?_); . omega) | fail)))
   exact ⟨o ++ zct y.ty,by simp only [zg,List.map_cons,List.map_nil,zc,Nk.get_nil,Nat.reduceEqDiff,↓reduceIte,Nat.succ_ne_self,DV.cut,DV.inB,DObj.cut,List.take_nil,reduceCtorEq,decide_true,Nat.reduceLT,List.take_succ_cons,Int.natCast_add,Int.natCast_one,List.length_append] <;> rfl,by simpa using h1,by simp; omega⟩
 obtain ⟨h1,h2⟩ := hr
 simp only [List.map_nil,zrq,List.append_nil] at h1
 subst h1
 ((refine Todo.of ?_); (repeat' (first | ((with_reducible refine Todo.to ?_); (repeat (simp only [↓rP,rT,rU,zb,dval,dBin,dInt,zh,za,retV,DR.val,fzT,fzV,fz1,DV.immB,zy,zax,zw,DV.one,alive,freezeAt,fzL,cellsOf,zk,zat,Nat.reduceEqDiff,Nat.reduceAdd,↓reduceIte,reduceCtorEq,Nat.reduceLeDiff,Nat.reduceLT,forall_const,zae,z4t,z0b,e ]))) | ((with_reducible refine And.intro ?_ ?_); . first | (trivial) | (omega)) | fail)))
 repeat' (refine And.intro ?_ ?_)
 all_goals first
   | rfl
   | exact Nat.le_refl _
   | (rw [List.take_of_length_le (by rw [zae]; exact Nat.le_refl _)]; rfl)
   | (rw [zpu,List.take_of_length_le (by rw [zae,List.length_append]; exact Nat.le_refl _)]; rfl)
end Go.Proofs.YtjgefhgkinocmaaGreat
