/- Expressions: what they are at the data level; how great they are. -/
import Derived.Test.YtjgefhgkinocmaaGreatTyM
import Derived.Test.YtjgefhgkinocmaaGreatNkZ6
import Derived.Test.YtjgefhgkinocmaaGreatDfF
set_option linter.all false
set_option maxRecDepth 20000
namespace Go.Proofs.YtjgefhgkinocmaaGreat
open Go.Nk
inductive Ex where
 | mk (kind n : Int) (name : List UInt8) (op : Int) (arms : List (List UInt8)) (subs : List Ex)
namespace Ex
def kind : Ex -> Int | mk k _ _ _ _ _ => k
def n : Ex -> Int | mk _ n _ _ _ _ => n
def name : Ex -> List UInt8 | mk _ _ s _ _ _ => s
def op : Ex -> Int | mk _ _ _ o _ _ => o
def arms : Ex -> List (List UInt8) | mk _ _ _ _ a _ => a
def subs : Ex -> List Ex | mk _ _ _ _ _ l => l
end Ex
instance : Inhabited Ex := ⟨.mk 0 0 [] 0 [] []⟩
mutual
def cEx : Ex -> List DV
 | .mk k n s o a l => [.int .i64 k,.int .i64 n,.str s,.int .i64 o,.sl (sls a),.sl (cExL l)]
def cExL : List Ex -> List (List DV)
 | [] => []
 | x :: l => cEx x :: cExL l
end
theorem z82 : ∀ l : List Ex,cExL l = l.map cEx
 | [] => rfl
 | x :: l => by rw [cExL,z82 l]; rfl
theorem zj : ∀ e : Ex,cEx e = [.int .i64 e.kind,.int .i64 e.n,.str e.name,.int .i64 e.op,.sl (sls e.arms),.sl (e.subs.map cEx)]
 | .mk k n s o a l => by rw [cEx,z82]; rfl
theorem Ex.ind {C : Ex -> Prop} (h : ∀ e,(∀ x ∈ e.subs,C x) -> C e) (e : Ex) : C e :=
 @Ex.rec C (fun l => ∀ x ∈ l,C x) (fun _ _ _ _ _ _ ih => h _ ih) (fun x hx => by simp at hx) (fun y l hy hl x hx => by
   rcases List.mem_cons.1 hx with e | hx
   . rw [e]; exact hy
   . exact hl x hx) e
theorem zmv : ∀ x y,cEx x = cEx y -> x = y := by
 intro x
 induction x using Ex.ind with
 | h e ih =>
   intro y h
   rw [zj,zj] at h
   simp only [List.cons.injEq,DV.int.injEq,DV.str.injEq,DV.sl.injEq,true_and,and_true] at h
   obtain ⟨h1,h2,h3,h4,h5,h6⟩ := h
   have q5 := z6r h5
   clear h5
   have key : ∀ (l m : List Ex),(∀ x ∈ l,∀ y,cEx x = cEx y -> x = y) -> l.map cEx = m.map cEx -> l = m := by
     intro l
     induction l with
     | nil => intro m _ h; cases m with
       | nil => rfl
       | cons => simp at h
     | cons a l il => intro m hl h; cases m with
       | nil => simp at h
       | cons b m =>
         simp only [List.map_cons,List.cons.injEq] at h
         rw [hl a (by simp) b h.1,il m (fun x hx => hl x (by simp [hx])) h.2]
   have q6 := key _ _ ih h6
   clear h6
   obtain ⟨k,n,s,o,a,l⟩ := e
   obtain ⟨k',n',s',o',a',l'⟩ := y
   simp only [Ex.kind,Ex.n,Ex.name,Ex.op,Ex.arms,Ex.subs] at h1 h2 h3 h4 q5 q6
   subst h1 h2 h3 h4 q5 q6
   rfl
abbrev eEx : Ex -> DV := eA cEx
theorem zdf : Inj eEx := zt8 zmv
abbrev eExs : List Ex -> DV := eL cEx
theorem inj_Exs : Inj eExs := yaw zmv
theorem ex_len (e : Ex) : (cEx e).length = 6 := by rw [zj]; rfl
theorem szLL_mem {es : List (List DV)} {x : List DV} (h : x ∈ es) : szL x <= szLL es := by
 induction es with
 | nil => simp at h
 | cons e es ih =>
   simp only [szLL]
   rcases List.mem_cons.1 h with rfl | h
   . omega
   . have := ih h; omega
theorem znn {e x : Ex} (h : x ∈ e.subs) : szL (cEx x) < szL (cEx e) := by
 have := szLL_mem (List.mem_map.2 ⟨x,h,rfl⟩ : cEx x ∈ e.subs.map cEx)
 rw [zj e]
 simp only [szL,DV.sz]
 omega
mutual
def zaq : Ex -> Int
 | .mk _ _ _ _ _ l => 1 + zbg l
def zbg : List Ex -> Int
 | [] => 0
 | x :: l => zaq x + zbg l
end
theorem za7 : ∀ e : Ex,zaq e = 1 + zbg e.subs
 | .mk .. => by rw [zaq]; rfl
theorem zar (e : Ex) : 1 <= zaq e /\ 0 <= zbg e.subs := by
 induction e using Ex.ind with
 | h e ih =>
   have key : ∀ l : List Ex,(∀ x ∈ l,1 <= zaq x) -> 0 <= zbg l := by
     intro l
     induction l with
     | nil => intro _; rw [zbg]; omega
     | cons x l il => intro h; rw [zbg]; have := h x (by simp); have := il fun y hy => h y (by simp [hy]); omega
   have := key e.subs fun x hx => (ih x hx).1
   rw [za7]
   omega
theorem zbh (l : List Ex) : (l.length : Int) <= zbg l := by
 induction l with
 | nil => rw [zbg]; simp
 | cons x l ih => rw [zbg]; have := zar x; simp; omega
noncomputable def z36 : List DV -> Prop × DV := zbp eEx fun e => (zaq e <= 1000000000,.int .i64 (zaq e))
theorem z4l (e : Ex) : z36 [.agg (cEx e)] = (zaq e <= 1000000000,.int .i64 (zaq e)) := z8 zdf _ e
theorem zor : OkP Tryz.prog 40 z36 := by
 refine OkP.rec fun N ih => ?_
 unfold z36
 rw [zv7]
 refine OkP.mk1 (ps := [(40,lim N z36)]) (hs := []) ⟨ih,trivial⟩ trivial zp9 fun e h => ?_
 try dsimp only at h
 obtain ⟨h1,h2⟩ := h
 have hq := za7 e
 have hp := zar e
 have hl := zbh e.subs
 ((have hcondQ := Bool.and_self; refine Todo.of ?_); (repeat' (first | ((with_reducible refine Todo.to ?_); (repeat (simp only [↓rP,rT,rU,eA,zb,dval,DV.immB,cellsOf,↓reduceIte,zh4,eEx,zj e ,hcondQ]))))))
 refine z0 e.subs (fun k (n : Int) => ⟨[(1,.ref (cEx e)),(3,.int .i64 n),(4,.int .i64 k)],[]⟩) (fun k r n => n + zbg r = zaq e /\ 1 <= n) 1 (Nat.zero_le _) (by simp only [zg,List.map_cons,List.map_nil,zc,Nk.get_nil,Nat.reduceEqDiff,↓reduceIte,DV.cut,DV.inB,List.take_nil,zj e] <;> rfl) ⟨by omega,Int.le_refl _⟩ (fun k x r n d hx hd hr => ?_) (fun k n e2 hr => ?_)
 . obtain ⟨g1,g2⟩ := hr
   rw [zbg] at g1
   have hpx := zar x
   have hpr := zbh r
   have hs : szL [DV.agg (cEx x)] < N := by
     have := znn (List.mem_of_getElem? hx)
     simp only [szL,DV.sz] at h2 |-
     omega
   have hx1 : zaq x <= 1000000000 := by omega
   have w1 : IntKind.i64.wrap (n + zaq x) = n + zaq x := z9 (by omega)
   have e1 := z4l x
   rw [eq_true hx1] at e1
   simp only [zj x] at e1 hs
   ((refine Todo.of ?_); (repeat' (first | ((with_reducible refine Todo.to ?_); (repeat (first | (simp only [↓rP,rT,rU,zb,dval,dBin,dInt,zh,za,DV.immB,ze,zf,zp,zo,zx,zi,zq,Nat.reduceEqDiff,Nat.reduceAdd,↓reduceIte,Nat.reduceLeDiff,zfn,zj e,d,zm cEx hx,zj x,e1,hs,w1 ]) | ((simp (disch := omega) only [z6]))))) | ((with_reducible refine And.intro ?_ ?_); . omega) | fail)))
   exact ⟨n + zaq x,by simp only [zg,List.map_cons,List.map_nil,zc,Nk.get_nil,Nat.reduceEqDiff,↓reduceIte,DV.cut,DV.inB,List.take_nil,Int.natCast_add,Int.natCast_one] <;> rfl,by omega,by omega⟩
 . obtain ⟨g1,_⟩ := hr
   rw [zbg] at g1
   ((refine Todo.of ?_); (repeat' (first | ((with_reducible refine Todo.to ?_); (repeat (simp only [↓rP,rT,rU,zb,dval,dBin,dInt,zh,za,retV,DR.val,fzT,fzV,fz1,DV.immB,Nat.reduceEqDiff,↓reduceIte,zj e,e2 ]))))) <;> (try (omega)))
   all_goals omega
mutual
def zc0 : Ex -> Int
 | .mk _ _ _ _ _ l => zfz l + 1
def zfz : List Ex -> Int
 | [] => 0
 | x :: l => max (zc0 x) (zfz l)
end
theorem zuq : ∀ e : Ex,zc0 e = zfz e.subs + 1
 | .mk .. => by rw [zc0]; rfl
theorem z8u (e : Ex) : 1 <= zc0 e /\ zc0 e <= zaq e := by
 induction e using Ex.ind with
 | h e ih =>
   have key : ∀ l : List Ex,(∀ x ∈ l,1 <= zc0 x /\ zc0 x <= zaq x) -> 0 <= zfz l /\ zfz l <= zbg l := by
     intro l
     induction l with
     | nil => intro _; rw [zfz,zbg]; omega
     | cons x l il => intro h; rw [zfz,zbg]; have := h x (by simp); have := il fun y hy => h y (by simp [hy]); omega
   have := key e.subs ih
   rw [zuq,za7]
   omega
theorem depthL_b (l : List Ex) : 0 <= zfz l /\ zfz l <= zbg l := by
 induction l with
 | nil => rw [zfz,zbg]; omega
 | cons x l ih => rw [zfz,zbg]; have := z8u x; omega
noncomputable def zvl : List DV -> Prop × DV := zbp eEx fun e => (zaq e <= 1000000000,.int .i64 (zc0 e))
theorem zyp (e : Ex) : zvl [.agg (cEx e)] = (zaq e <= 1000000000,.int .i64 (zc0 e)) := z8 zdf _ e
theorem zms : OkP Tryz.prog 41 zvl := by
 refine OkP.rec fun N ih => ?_
 unfold zvl
 rw [zv7]
 refine OkP.mk1 (ps := [(41,lim N zvl)]) (hs := []) ⟨ih,trivial⟩ trivial znw fun e h => ?_
 try dsimp only at h
 obtain ⟨h1,h2⟩ := h
 have hq := za7 e
 have hq2 := zuq e
 have hp := zar e
 have hl := zbh e.subs
 have hb := depthL_b e.subs
 ((have hcondQ := Bool.and_self; refine Todo.of ?_); (repeat' (first | ((with_reducible refine Todo.to ?_); (repeat (simp only [↓rP,rT,rU,eA,zb,dval,DV.immB,cellsOf,↓reduceIte,zhi,eEx,zj e ,hcondQ]))))))
 refine z0 e.subs (fun k (n : Int) => ⟨[(1,.ref (cEx e)),(3,.int .i64 n),(4,.int .i64 k)],[]⟩) (fun k r n => max n (zfz r) = zfz e.subs /\ 0 <= n /\ zbg r <= zbg e.subs) 0 (Nat.zero_le _) (by simp only [zg,List.map_cons,List.map_nil,zc,Nk.get_nil,Nat.reduceEqDiff,↓reduceIte,DV.cut,DV.inB,List.take_nil,zj e] <;> rfl) ⟨by omega,Int.le_refl _,Int.le_refl _⟩ (fun k x r n d hx hd hr => ?_) (fun k n e2 hr => ?_)
 . obtain ⟨g1,g2,g3⟩ := hr
   rw [zfz] at g1
   rw [zbg] at g3
   have hpx := zar x
   have hpr := zbh r
   have hs : szL [DV.agg (cEx x)] < N := by
     have := znn (List.mem_of_getElem? hx)
     simp only [szL,DV.sz] at h2 |-
     omega
   have e1 := zyp x
   rw [eq_true (show zaq x <= 1000000000 by omega)] at e1
   simp only [zj x] at e1 hs
   ((refine Todo.of ?_); (repeat' (first | ((with_reducible refine Todo.to ?_); (repeat (first | (simp only [↓rP,rT,rU,zb,dval,dBin,dInt,zh,za,DV.immB,ze,zf,zp,zo,zx,zi,zq,Nat.reduceEqDiff,Nat.reduceAdd,↓reduceIte,Nat.reduceLeDiff,zfn,zj e,d,zm cEx hx,zj x,e1,hs ]) | ((simp (disch := omega) only [z6]))))) | ((with_reducible refine And.intro ?_ ?_); . omega) | fail)))
   exact ⟨max n (zc0 x),by simp only [zg,List.map_cons,List.map_nil,zc,Nk.get_nil,Nat.reduceEqDiff,↓reduceIte,DV.cut,DV.inB,List.take_nil,Int.natCast_add,Int.natCast_one] <;> rfl,by omega,by omega,by omega⟩
 . obtain ⟨g1,g2,_⟩ := hr
   rw [zfz] at g1
   ((refine Todo.of ?_); (repeat' (first | ((with_reducible refine Todo.to ?_); (repeat (first | (simp only [↓rP,rT,rU,zb,dval,dBin,dInt,zh,za,retV,DR.val,fzT,fzV,fz1,DV.immB,Nat.reduceEqDiff,↓reduceIte,zj e,e2 ]) | ((simp (disch := omega) only [z6]))))))) <;> (try (omega)))
   all_goals omega
noncomputable def zu0 : List DV -> Prop × DV := zbw eEx eI fun e l => (-1000000000 <= l /\ l <= 1000000000,.int .i64 (max 0 (l - zaq e)))
theorem zyv (e : Ex) (l : Int) : zu0 [.agg (cEx e),.int .i64 l] = (-1000000000 <= l /\ l <= 1000000000,.int .i64 (max 0 (l - zaq e))) := zac zdf zcr _ e l
theorem zl1 : OkP Tryz.prog 58 zu0 := by
 refine OkP.rec fun N ih => ?_
 unfold zu0
 rw [zve]
 refine OkP.mk2 (ps := [(58,lim N zu0)]) (hs := []) ⟨ih,trivial⟩ trivial zoz fun e l h => ?_
 try dsimp only at h
 obtain ⟨⟨h0,h1⟩,h2⟩ := h
 have hq := za7 e
 have hp := zar e
 by_cases c : l <= 0
 . ((have hcondQ := Bool.and_self; refine Todo.of ?_); (repeat' (first | ((with_reducible refine Todo.to ?_); (repeat (simp only [↓rP,rT,rU,eI,eA,zb,dval,dBin,dInt,retV,DR.val,fzT,fzV,fz1,DV.immB,cellsOf,Nat.reduceEqDiff,↓reduceIte,zej,eEx,zj e,c ,hcondQ]))))) <;> (try (omega)))
   all_goals omega
 ((have hcondQ := Bool.and_self; refine Todo.of ?_); (repeat' (first | ((with_reducible refine Todo.to ?_); (repeat (first | (simp only [↓rP,rT,rU,eI,eA,zb,dval,dBin,dInt,DV.immB,cellsOf,Nat.reduceEqDiff,↓reduceIte,zej,eEx,zj e,c ,hcondQ]) | ((simp (disch := omega) only [z6]))))))))
 refine z0 e.subs (fun k (n : Int) => ⟨[(1,.int .i64 n),(2,.ref (cEx e)),(5,.int .i64 k)],[]⟩) (fun k r n => max 0 (n - zbg r) = max 0 (l - zaq e) /\ 0 <= n /\ n <= max 0 (l - 1 - k) /\ k <= l) (l - 1) (Nat.zero_le _) (by simp only [zg,List.map_cons,List.map_nil,zc,Nk.get_nil,Nat.reduceEqDiff,↓reduceIte,Nat.succ_ne_self,DV.cut,DV.inB,List.take_nil,zj e] <;> rfl) ⟨by omega,by omega,by omega,by omega⟩ (fun k x r n d hx hd hr => ?_) (fun k n e2 hr => ?_)
 . obtain ⟨g1,g2,g3,g4⟩ := hr
   rw [zbg] at g1
   have hpx := zar x
   have hpr := zbh r
   by_cases c2 : n <= 0
   . have c3 : decide (n > 0) = false := decide_eq_false (by omega)
     have c4 : decide (0 < n) = false := decide_eq_false (by omega)
     ((refine Todo.of ?_); (repeat' (first | ((with_reducible refine Todo.to ?_); (repeat (simp only [↓rP,rT,rU,zb,dval,dBin,dInt,zh,za,retV,DR.val,fzT,fzV,fz1,DV.immB,Nat.reduceEqDiff,↓reduceIte,zj e,d,c3 ]))))) <;> (try (omega)))
     all_goals omega
   have c3 : decide (n > 0) = true := decide_eq_true (by omega)
   have c4 : decide (0 < n) = true := decide_eq_true (by omega)
   have hs : szL [DV.agg (cEx x),DV.int .i64 n] < N := by
     have := znn (List.mem_of_getElem? hx)
     simp only [szL,DV.sz] at h2 |-
     omega
   have e1 := zyv x n
   rw [eq_true (show -1000000000 <= n /\ n <= 1000000000 by omega)] at e1
   simp only [zj x] at e1 hs
   ((refine Todo.of ?_); (repeat' (first | ((with_reducible refine Todo.to ?_); (repeat (first | (simp only [↓rP,rT,rU,zb,dval,dBin,dInt,zh,za,DV.immB,ze,zf,zp,zo,zx,zi,zq,Nat.reduceEqDiff,Nat.reduceAdd,↓reduceIte,Nat.reduceLeDiff,zfn,zj e,d,zm cEx hx,zj x,e1,hs,c3 ]) | ((simp (disch := omega) only [z6]))))) | ((with_reducible refine And.intro ?_ ?_); . omega) | fail)))
   exact ⟨max 0 (n - zaq x),by simp only [zg,List.map_cons,List.map_nil,zc,Nk.get_nil,Nat.reduceEqDiff,↓reduceIte,Nat.succ_ne_self,DV.cut,DV.inB,List.take_nil,Int.natCast_add,Int.natCast_one] <;> rfl,by omega,by omega,by omega,by omega⟩
 . obtain ⟨g1,g2,_⟩ := hr
   rw [zbg] at g1
   ((refine Todo.of ?_); (repeat' (first | ((with_reducible refine Todo.to ?_); (repeat (simp only [↓rP,rT,rU,zb,dval,dBin,dInt,zh,za,retV,DR.val,fzT,fzV,fz1,DV.immB,Nat.reduceEqDiff,↓reduceIte,zj e,e2 ]))))) <;> (try (omega)))
   all_goals omega
mutual
def zaj : Ex -> List Ex
 | .mk k n s o a l => .mk k n s o a l :: zcd l
def zcd : List Ex -> List Ex
 | [] => []
 | x :: l => zaj x ++ zcd l
end
theorem zcy : ∀ e : Ex,zaj e = e :: zcd e.subs
 | .mk .. => by rw [zaj]; rfl
theorem zk3 (e : Ex) : ((zaj e).length : Int) = zaq e := by
 induction e using Ex.ind with
 | h e ih =>
   have key : ∀ l : List Ex,(∀ x ∈ l,((zaj x).length : Int) = zaq x) -> ((zcd l).length : Int) = zbg l := by
     intro l
     induction l with
     | nil => intro _; rw [zcd,zbg]; rfl
     | cons x l il => intro h; rw [zcd,zbg]; have := h x (by simp); have := il fun y hy => h y (by simp [hy]); simp; omega
   have := key e.subs ih
   rw [zcy,za7]
   simp; omega
noncomputable def zqh : List DV -> Prop × DV := zbp eEx fun e => (zaq e <= 1000000000,.sl ((zaj e).map cEx))
theorem zpx (e : Ex) : zqh [.agg (cEx e)] = (zaq e <= 1000000000,.sl ((zaj e).map cEx)) := z8 zdf _ e
theorem zge : OkP Tryz.prog 42 zqh := by
 refine OkP.rec fun N ih => ?_
 unfold zqh
 rw [zv7]
 refine OkP.mk1 (ps := [(42,lim N zqh)]) (hs := []) ⟨ih,trivial⟩ trivial znh fun e h => ?_
 try dsimp only at h
 obtain ⟨h1,h2⟩ := h
 have hq := za7 e
 have hp := zar e
 have hl := zbh e.subs
 have hpl := zk3 e
 have hz : ∀ l : List Ex,∀ r ∈ l.map cEx,r.length = 6 := fun l r hr => by obtain ⟨x,_,rfl⟩ := List.mem_map.1 hr; exact ex_len x
 ((have hcondQ := Bool.and_self; refine Todo.of ?_); (repeat' (first | ((with_reducible refine Todo.to ?_); (repeat (simp only [↓rP,rT,rU,eA,zb,dval,zh,za,fz1,DV.immB,fzLL,fzL,bRow,bU,cellsOf,DV.isU,Nat.reduceEqDiff,Nat.reduceAdd,↓reduceIte,reduceCtorEq,Nat.reduceLeDiff,forall_const,zg6,eEx,zj e ,hcondQ]))))))
 refine z0 e.subs (fun k (o : List Ex) => ⟨[(1,.ref (cEx e)),(3,.own 0 o.length 0 o.length),(4,.int .i64 k)],[⟨.imm,6,o.map cEx⟩]⟩) (fun k r o => o ++ zcd r = zaj e) [e] (Nat.zero_le _) (by simp only [zg,List.map_cons,List.map_nil,zc,Nk.get_nil,Nat.reduceEqDiff,↓reduceIte,DV.cut,DV.inB,DObj.cut,List.take_nil,reduceCtorEq,Nat.zero_lt_one,decide_true,List.take_succ_cons,List.length_cons,List.length_nil,Nat.zero_add,zj e] <;> rfl) (by rw [zcy]; rfl) (fun k x r o d hx hd hr => ?_) (fun k o e2 hr => ?_)
 . rw [zcd] at hr
   have ho := congrArg List.length hr
   simp only [List.length_append] at ho
   have hpx := zar x
   have hpx2 := zk3 x
   have hs : szL [DV.agg (cEx x)] < N := by
     have := znn (List.mem_of_getElem? hx)
     simp only [szL,DV.sz] at h2 |-
     omega
   have e1 := zpx x
   rw [eq_true (show zaq x <= 1000000000 by omega)] at e1
   have hzx := eq_true (hz (zaj x))
   have lb : o.length + (zaj x).length <= 4294967296 := by omega
   simp only [zj x] at e1 hs
   ((refine Todo.of ?_); (repeat' (first | ((with_reducible refine Todo.to ?_); (repeat (first | (simp only [↓rP,rT,rU,zb,dval,dBin,dInt,zh,za,fzVs,fzV,fz1,DV.immB,ze,zf,zp,zo,zx,zi,zq,zy,zax,fzL,zat,Nat.reduceEqDiff,Nat.reduceAdd,↓reduceIte,reduceCtorEq,Nat.reduceLeDiff,zfn,zj e,d,zm cEx hx,zj x,e1,hs,hzx,lb ]) | ((simp (disch := omega) only [z6]))))) | ((with_reducible refine And.intro ?_ ?_); . omega) | fail)))
   exact ⟨o ++ zaj x,by simp only [zg,List.map_cons,List.map_nil,zc,Nk.get_nil,Nat.reduceEqDiff,↓reduceIte,DV.cut,DV.inB,DObj.cut,List.take_nil,reduceCtorEq,Nat.zero_lt_one,decide_true,List.take_succ_cons,Int.natCast_add,Int.natCast_one,List.length_append,List.map_append] <;> rfl,by simpa using hr⟩
 . rw [zcd,List.append_nil] at hr
   subst hr
   ((refine Todo.of ?_); (repeat' (first | ((with_reducible refine Todo.to ?_); (repeat (simp only [↓rP,rT,rU,zb,dval,dBin,dInt,zh,za,retV,DR.val,fzT,fzV,fz1,zy,freezeAt,Nat.reduceEqDiff,↓reduceIte,reduceCtorEq,zj e,e2 ]))) | ((with_reducible refine And.intro ?_ ?_); . omega) | fail)))
   exact congrArg DV.sl (List.take_of_length_le (by simp))
set_option linter.all false
set_option maxRecDepth 20000
open Go.Nk
def fewX (e : Ex) : Bool := decide (e.name.length <= 200) && decide (e.arms.length <= 20) && e.arms.all fun a => decide (a.length <= 100)
noncomputable def ye8 : List DV -> Prop × DV := zbp eEx fun e => (zaq e <= 1000000000,.bool ((zaj e).all fewX))
theorem yfe (e : Ex) : ye8 [.agg (cEx e)] = (zaq e <= 1000000000,.bool ((zaj e).all fewX)) := z8 zdf _ e
theorem zrc : OkP Tryz.prog 59 ye8 := by
 refine OkP.mk1 (ps := [(42,zqh)]) (hs := []) ⟨zge,trivial⟩ trivial zsv fun e h => ?_
 try dsimp only at h
 have h : zaq e <= 1000000000 := h
 have hpl := zk3 e
 have e1 := zpx e
 rw [eq_true h] at e1
 generalize zaj e = l at *
 simp only [zj e] at e1
 ((have hcondQ := Bool.and_self; refine Todo.of ?_); (repeat' (first | ((with_reducible refine Todo.to ?_); (repeat (simp only [↓rP,rT,rU,eA,zb,dval,zh,za,fzVs,fzV,fz1,DV.immB,ze,zf,zp,zo,zx,zi,zq,fzL,cellsOf,Nat.reduceEqDiff,Nat.reduceAdd,↓reduceIte,reduceCtorEq,Nat.reduceLeDiff,zjl,eEx,zj e,e1 ,hcondQ]))))))
 refine z0 l (fun k (_ : Unit) => ⟨[(3,.sl (l.map cEx)),(4,.int .i64 k)],[]⟩) (fun k r _ => r.all fewX = l.all fewX) () (Nat.zero_le _) (by simp only [zg,List.map_cons,List.map_nil,zc,Nk.get_nil,Nat.reduceEqDiff,↓reduceIte,DV.cut,DV.inB,List.take_nil] <;> rfl) rfl (fun k x r _ d hx hd hr => ?_) (fun k _ e2 hr => ?_)
 . rw [List.all_cons] at hr
   by_cases c1 : 200 < x.name.length
   . have hf : fewX x = false := by simp [fewX]; omega
     have c1' : (200 : Int) < x.name.length := by omega
     have hb : l.all fewX = false := by rw [<- hr,hf,Bool.false_and]
     ((refine Todo.of ?_); (repeat' (first | ((with_reducible refine Todo.to ?_); (repeat (simp only [↓rP,rT,rU,zb,dval,dBin,dInt,zh,za,retV,DR.val,fzT,fzV,fz1,DV.immB,Nat.reduceEqDiff,Nat.reduceAdd,↓reduceIte,Nat.reduceLT,d,zm cEx hx,zj x,c1',hb ]))))) <;> (try (omega)))
   by_cases c2 : 20 < x.arms.length
   . have hf : fewX x = false := by simp [fewX]; omega
     have c1' : ¬ (200 : Int) < x.name.length := by omega
     have c2' : (20 : Int) < x.arms.length := by omega
     have hb : l.all fewX = false := by rw [<- hr,hf,Bool.false_and]
     ((refine Todo.of ?_); (repeat' (first | ((with_reducible refine Todo.to ?_); (repeat (simp only [↓rP,rT,rU,zb,dval,dBin,dInt,zh,za,retV,DR.val,fzT,fzV,fz1,DV.immB,Nat.reduceEqDiff,Nat.reduceAdd,↓reduceIte,Nat.reduceLT,z7,d,zm cEx hx,zj x,c1',c2',hb ]))) | ((with_reducible refine And.intro ?_ ?_); . omega) | fail)) <;> (try (omega)))
   have c1' : ¬ (200 : Int) < x.name.length := by omega
   have c2' : ¬ (20 : Int) < x.arms.length := by omega
   have hf : fewX x = x.arms.all fun a => decide (a.length <= 100) := by
     have q1 : x.name.length <= 200 := by omega
     have q2 : x.arms.length <= 20 := by omega
     simp [fewX,q1,q2]
   ((refine Todo.of ?_); (repeat' (first | ((with_reducible refine Todo.to ?_); (repeat (simp only [↓rP,rT,rU,zb,dval,dBin,dInt,zh,za,Nat.reduceEqDiff,Nat.reduceAdd,↓reduceIte,Nat.reduceLT,z7,d,zm cEx hx,zj x,c1',c2' ]))) | ((with_reducible refine And.intro ?_ ?_); . omega) | fail)))
   refine z0 x.arms (fun j (_ : Unit) => ⟨[(3,.sl (l.map cEx)),(4,.int .i64 k),(5,.int .i64 j)],[]⟩) (fun j q _ => (q.all fun a => decide (a.length <= 100)) = x.arms.all fun a => decide (a.length <= 100)) () (Nat.zero_le _) (by simp only [zg,List.map_cons,List.map_nil,zc,Nk.get_nil,Nat.reduceEqDiff,↓reduceIte,Nat.succ_ne_self,DV.cut,DV.inB,List.take_nil] <;> rfl) rfl (fun j y q _ d2 hy hd2 hq => ?_) (fun j _ e3 hq => ?_)
   . rw [List.all_cons] at hq
     have hy2 := zvg hy
     by_cases c3 : 100 < y.length
     . have c3' : (100 : Int) < y.length := by omega
       have c3'' : decide (y.length <= 100) = false := decide_eq_false (by omega)
       have hb : l.all fewX = false := by rw [<- hr,hf,<- hq,c3'',Bool.false_and,Bool.false_and]
       ((refine Todo.of ?_); (repeat' (first | ((with_reducible refine Todo.to ?_); (repeat (simp only [↓rP,rT,rU,zb,dval,dBin,dInt,zh,za,retV,DR.val,fzT,fzV,fz1,DV.immB,Nat.reduceEqDiff,Nat.reduceAdd,↓reduceIte,Nat.reduceLT,z7,d,d2,zm cEx hx,zj x,hy2,c3',hb ]))) | ((with_reducible refine And.intro ?_ ?_); . omega) | fail)) <;> (try (omega)))
     . have c3' : ¬ (100 : Int) < y.length := by omega
       have c3'' : decide (y.length <= 100) = true := decide_eq_true (by omega)
       rw [c3'',Bool.true_and] at hq
       ((refine Todo.of ?_); (repeat' (first | ((with_reducible refine Todo.to ?_); (repeat (first | (simp only [↓rP,rT,rU,zb,dval,dBin,dInt,zh,za,Nat.reduceEqDiff,Nat.reduceAdd,↓reduceIte,Nat.reduceLT,z7,d,d2,zm cEx hx,zj x,hy2,c3' ]) | ((simp (disch := omega) only [z6]))))) | ((with_reducible refine And.intro ?_ ?_); . omega) | fail)))
       exact ⟨(),by simp only [zg,List.map_cons,List.map_nil,zc,Nk.get_nil,Nat.reduceEqDiff,↓reduceIte,Nat.succ_ne_self,DV.cut,DV.inB,List.take_nil,Int.natCast_add,Int.natCast_one] <;> rfl,hq⟩
   . rw [List.all_nil] at hq
     have hb : r.all fewX = l.all fewX := by rw [<- hr,hf,<- hq,Bool.true_and]
     ((refine Todo.of ?_); (repeat' (first | ((with_reducible refine Todo.to ?_); (repeat (first | (simp only [↓rP,rT,rU,zb,dval,dBin,dInt,zh,za,Nat.reduceEqDiff,Nat.reduceAdd,↓reduceIte,Nat.reduceLT,z7,d,e3,zm cEx hx,zj x ]) | ((simp (disch := omega) only [z6]))))) | ((with_reducible refine And.intro ?_ ?_); . omega) | fail)))
     exact ⟨(),by simp only [zg,List.map_cons,List.map_nil,zc,Nk.get_nil,Nat.reduceEqDiff,↓reduceIte,DV.cut,DV.inB,List.take_nil,Int.natCast_add,Int.natCast_one] <;> rfl,hb⟩
 . rw [List.all_nil] at hr
   rw [<- hr]
   ((refine Todo.of ?_); (repeat' (first | ((with_reducible refine Todo.to ?_); (repeat (simp only [↓rP,rT,rU,zb,dval,dBin,dInt,retV,DR.val,fzT,fzV,fz1,DV.immB,Nat.reduceEqDiff,↓reduceIte,e2 ]))))))
def zgn (e : Ex) : Bool := decide (zaq e < 200) && (zaj e).all fewX
noncomputable def z13 : List DV -> Prop × DV := zbp eEx fun e => (True,.bool (zgn e))
theorem z52 (e : Ex) : z13 [.agg (cEx e)] = (True,.bool (zgn e)) := z8 zdf _ e
theorem zmc : OkP Tryz.prog 32 z13 := by
 refine OkP.mk1 (ps := [(58,zu0),(59,ye8)]) (hs := []) ⟨zl1,zrc,trivial⟩ trivial zm4 fun e h => ?_
 try dsimp only at h
 have e1 := zyv e 200
 have e2 := yfe e
 by_cases c : zaq e < 200
 . have hm : max 0 (200 - zaq e) = 200 - zaq e := by omega
   have c1 : decide (200 - zaq e > 0) = true := decide_eq_true (by omega)
   have c2 : decide (0 < 200 - zaq e) = true := decide_eq_true (by omega)
   have hr : zgn e = (zaj e).all fewX := by simp [zgn,c]
   rw [eq_true (show -1000000000 <= (200 : Int) /\ (200 : Int) <= 1000000000 by omega),hm] at e1
   rw [eq_true (show zaq e <= 1000000000 by omega)] at e2
   rw [hr]
   simp only [zj e] at e1 e2
   ((have hcondQ := Bool.and_self; refine Todo.of ?_); (repeat' (first | ((with_reducible refine Todo.to ?_); (repeat (simp only [↓rP,rT,rU,eA,zb,dval,dBin,dInt,zh,za,retV,DR.val,fzT,fzV,fz1,DV.immB,ze,zf,zp,zo,zx,zi,zq,cellsOf,Nat.reduceEqDiff,Nat.reduceAdd,↓reduceIte,Nat.reduceLeDiff,zew,eEx,zj e,e1,e2,c1,hcondQ]))))))
 . have hm : max 0 (200 - zaq e) = 0 := by omega
   have hr : zgn e = false := by simp [zgn,c]
   rw [eq_true (show -1000000000 <= (200 : Int) /\ (200 : Int) <= 1000000000 by omega),hm] at e1
   rw [hr]
   simp only [zj e] at e1
   ((have hcondQ := Bool.and_self; refine Todo.of ?_); (repeat' (first | ((with_reducible refine Todo.to ?_); (repeat (simp only [↓rP,rT,rU,eA,zb,dval,dBin,dInt,zh,za,retV,DR.val,fzT,fzV,fz1,DV.immB,ze,zf,zp,zo,zx,zi,zq,cellsOf,Nat.reduceEqDiff,Nat.reduceAdd,↓reduceIte,Nat.reduceLeDiff,zew,eEx,zj e,e1 ,hcondQ]))))))
def zf6 (e : Ex) : Bool :=
 decide ((if e.kind = 5 then 1 else if e.kind = 6 then 3 else 0) <= e.op) && decide (e.op <= (if e.kind = 5 then 2 else if e.kind = 6 then 16 else 0)) &&
 (if e.kind = 1 then decide (0 <= e.n) else if e.kind = 2 \/ e.kind = 13 then e.n == 0 || e.n == 1 else e.n == 0)
noncomputable def zuu : List DV -> Prop × DV := zbp eEx fun e => (True,.bool (zf6 e))
theorem z3a (e : Ex) : zuu [.agg (cEx e)] = (True,.bool (zf6 e)) := z8 zdf _ e
theorem zkl : OkP Tryz.prog 66 zuu := by
 refine OkP.mk1 (ps := []) (hs := []) trivial trivial zld fun e _ => ?_
 ((have hcondQ := Bool.and_self; refine Todo.of ?_); (repeat' (first | ((with_reducible refine Todo.to ?_); (repeat (simp only [↓rP,rT,rU,eA,zb,dval,dBin,dInt,zh,za,retV,DR.val,fzT,fzV,fz1,DV.immB,cellsOf,Nat.reduceEqDiff,Nat.reduceAdd,↓reduceIte,Nat.reduceLT,zf2,eEx,zj e ,hcondQ]))) | (((first | ((with_reducible refine zd (t := ?_) ?_ (fun hcQ => ?_) (fun hcQ => ?_)); rotate_left; . (rfl)) | ((with_reducible refine zl (t := ?_) ?_ (fun hcQ => ?_) (fun hcQ => ?_)); rotate_left; . (rfl))) <;> (have hn := hcQ; have hcondQ := hcQ) <;> (try simp only [decide_eq_true_eq,decide_eq_false_iff_not,beq_iff_eq,ne_eq,beq_eq_false_iff_ne] at hn) <;> (try (exfalso; omega)) <;> (refine Todo.of ?_))) | fail)))
 all_goals (obtain ⟨kind,n,name,op,arms,subs⟩ := e; simp only [Ex.kind,Ex.n,Ex.op] at *; grind [zf6,Ex.kind,Ex.n,Ex.op])
def zyx (e : Ex) : Bool :=
 if e.kind = 3 \/ e.kind = 11 \/ e.kind = 12 \/ e.kind = 13 then lowF e.name else if e.kind = 4 then z1j e.name else if e.kind = 17 then yfx e.name else e.name == []
noncomputable def z6k : List DV -> Prop × DV := zbp eEx fun e => (e.name.length <= 1000000,.bool (zyx e))
theorem ycj (e : Ex) : z6k [.agg (cEx e)] = (e.name.length <= 1000000,.bool (zyx e)) := z8 zdf _ e
theorem zmh : OkP Tryz.prog 67 z6k := by
 refine OkP.mk1 (ps := [(35,yaa),(60,z4m),(61,z9w)]) (hs := []) ⟨zdd,zep,zhc,trivial⟩ trivial znt fun e h => ?_
 try dsimp only at h
 have h : e.name.length <= 1000000 := h
 ((have hcondQ := Bool.and_self; refine Todo.of ?_); (repeat' (first | ((with_reducible refine Todo.to ?_); (repeat (simp only [↓rP,rT,rU,eA,zb,dval,dBin,dInt,dStr,zh,za,retV,DR.val,fzT,fzV,fz1,DV.immB,ze,zf,zp,zo,zi,zq,cellsOf,Nat.reduceEqDiff,Nat.reduceAdd,↓reduceIte,Nat.reduceLT,zgy,zk4,zwu,z4q,eEx,zj e ,hcondQ]))) | ((with_reducible refine And.intro ?_ ?_); . trivial) | (((((with_reducible refine zd (t := ?_) ?_ (fun hcQ => ?_) (fun hcQ => ?_)); rotate_left; . (rfl))) <;> (have hn := hcQ; have hcondQ := hcQ) <;> (try simp only [beq_iff_eq,ne_eq,beq_eq_false_iff_ne] at hn) <;> (refine Todo.of ?_))) | fail)))
 all_goals (obtain ⟨kind,n,name,op,arms,subs⟩ := e; simp only [Ex.kind,Ex.name] at *; grind [zyx,Ex.kind,Ex.name])
def armF (s : List UInt8) : Bool := z1j s || s == [116,114,117,101] || s == [102,97,108,115,101]
noncomputable def ygj : List DV -> Prop × DV := zbp eS fun s => (True,.bool (armF s))
theorem z4k (s : List UInt8) : ygj [.str s] = (True,.bool (armF s)) := z8 zml _ s
theorem zp6 : OkP Tryz.prog 92 ygj := by
 refine OkP.mk1 (ps := [(60,z4m)]) (hs := []) ⟨zep,trivial⟩ trivial ztb fun s _ => ?_
 ((have hcondQ := Bool.and_self; refine Todo.of ?_); (repeat' (first | ((with_reducible refine Todo.to ?_); (repeat (simp only [↓rP,rT,rU,eS,zb,dval,dBin,dStr,retV,DR.val,fzT,fzV,fz1,DV.immB,ze,zf,zp,zo,zi,zq,Nat.reduceEqDiff,↓reduceIte,reduceCtorEq,zja,zwu,hcondQ]))) | (((((with_reducible refine zl (t := ?_) ?_ (fun hcQ => ?_) (fun hcQ => ?_)); rotate_left; . (rfl))) <;> (have hn := hcQ; have hcondQ := hcQ) <;> (try simp only [beq_iff_eq,ne_eq,beq_eq_false_iff_ne] at hn) <;> (refine Todo.of ?_))) | fail)))
 all_goals grind [armF]
def z29 (e : Ex) : Bool := e.arms.all armF && (if e.kind = 11 then e.arms.length == 1 else if e.kind = 12 then decide (1 <= e.arms.length) && decide (e.arms.length <= 6) && zsm e.arms else e.arms.length == 0)
noncomputable def yc9 : List DV -> Prop × DV := zbp eEx fun e => (e.arms.length <= 1000000,.bool (z29 e))
theorem ygu (e : Ex) : yc9 [.agg (cEx e)] = (e.arms.length <= 1000000,.bool (z29 e)) := z8 zdf _ e
theorem zoy : OkP Tryz.prog 68 yc9 := by
 refine OkP.mk1 (ps := [(92,ygj),(37,z3c)]) (hs := []) ⟨zp6,zet,trivial⟩ trivial zp4 fun e h => ?_
 try dsimp only at h
 have h : e.arms.length <= 1000000 := h
 have e1 := zu2 e.arms
 rw [eq_true (show e.arms.length <= 1000000000 by omega)] at e1
 ((have hcondQ := Bool.and_self; refine Todo.of ?_); (repeat' (first | ((with_reducible refine Todo.to ?_); (repeat (simp only [↓rP,rT,rU,eA,zb,dval,DV.immB,cellsOf,↓reduceIte,zht,eEx,zj e ,hcondQ]))))))
 refine z0 e.arms (fun k (_ : Unit) => ⟨[(1,.ref (cEx e)),(3,.int .i64 k)],[]⟩) (fun k r _ => r.all armF = e.arms.all armF) () (Nat.zero_le _) (by simp only [zg,List.map_cons,List.map_nil,zc,Nk.get_nil,Nat.reduceEqDiff,↓reduceIte,DV.cut,DV.inB,List.take_nil,zj e] <;> rfl) rfl (fun k x r _ d hx hd hr => ?_) (fun k _ e2 hr => ?_)
 . rw [List.all_cons] at hr
   cases hf : armF x
   . rw [hf,Bool.false_and] at hr
     have hq : z29 e = false := by rw [z29,<- hr,Bool.false_and]
     rw [hq]
     ((refine Todo.of ?_); (repeat' (first | ((with_reducible refine Todo.to ?_); (repeat (simp only [↓rP,rT,rU,zb,dval,dBin,dInt,dUn,zh,za,retV,DR.val,fzT,fzV,fz1,DV.immB,ze,zf,zp,zo,zi,zq,Nat.reduceEqDiff,Nat.reduceAdd,↓reduceIte,Nat.reduceLT,z4k,z7,zj e,d,zvg hx,hf ]))))) <;> (try (omega)))
   . rw [hf,Bool.true_and] at hr
     ((refine Todo.of ?_); (repeat' (first | ((with_reducible refine Todo.to ?_); (repeat (first | (simp only [↓rP,rT,rU,zb,dval,dBin,dInt,dUn,zh,za,DV.immB,ze,zf,zp,zo,zi,zq,Nat.reduceEqDiff,Nat.reduceAdd,↓reduceIte,Nat.reduceLT,z4k,z7,zj e,d,zvg hx,hf ]) | ((simp (disch := omega) only [z6]))))) | ((with_reducible refine And.intro ?_ ?_); . omega) | fail)))
     exact ⟨(),by simp only [zg,List.map_cons,List.map_nil,zc,Nk.get_nil,Nat.reduceEqDiff,↓reduceIte,DV.cut,DV.inB,List.take_nil,Int.natCast_add,Int.natCast_one] <;> rfl,hr⟩
 . rw [List.all_nil] at hr
   ((have hcondQ := Bool.and_self; refine Todo.of ?_); (repeat' (first | ((with_reducible refine Todo.to ?_); (repeat (simp only [↓rP,rT,rU,zb,dval,dBin,dInt,zh,za,retV,DR.val,fzT,fzV,fz1,DV.immB,ze,zf,zp,zo,zi,zq,Nat.reduceEqDiff,Nat.reduceAdd,↓reduceIte,Nat.reduceLT,z7,zj e,e2,e1 ,hcondQ]))) | (((first | ((with_reducible refine zd (t := ?_) ?_ (fun hcQ => ?_) (fun hcQ => ?_)); rotate_left; . (rfl)) | ((with_reducible refine zl (t := ?_) ?_ (fun hcQ => ?_) (fun hcQ => ?_)); rotate_left; . (rfl))) <;> (have hn := hcQ; have hcondQ := hcQ) <;> (try simp only [decide_eq_true_eq,decide_eq_false_iff_not,beq_iff_eq,ne_eq,beq_eq_false_iff_ne] at hn) <;> (refine Todo.of ?_))) | fail)))
   all_goals (obtain ⟨kind,n,name,op,arms,subs⟩ := e; simp only [Ex.kind,Ex.arms] at *; grind [z29,Ex.kind,Ex.arms])
def za8 (e : Ex) : Int × Int :=
 if e.kind = 5 \/ e.kind = 10 \/ e.kind = 11 then (1,1) else if e.kind = 6 \/ e.kind = 8 \/ e.kind = 9 \/ e.kind = 15 then (2,2) else if e.kind = 7 \/ e.kind = 16 then (3,3)
 else if e.kind = 12 then (e.arms.length,e.arms.length) else if e.kind = 13 then (e.n,6 + e.n) else if e.kind = 14 then (1,8) else (0,0)
noncomputable def ye6 : List DV -> Prop × DV := zbp eEx fun e => (e.kind = 13 -> 0 <= e.n /\ e.n <= 1,.tup [.int .i64 (za8 e).1,.int .i64 (za8 e).2])
theorem yc0 (e : Ex) : ye6 [.agg (cEx e)] = (e.kind = 13 -> 0 <= e.n /\ e.n <= 1,.tup [.int .i64 (za8 e).1,.int .i64 (za8 e).2]) := z8 zdf _ e
theorem zpb : OkP Tryz.prog 69 ye6 := by
 refine OkP.mk1 (ps := []) (hs := []) trivial trivial zrk fun e h => ?_
 try dsimp only at h
 ((have hcondQ := Bool.and_self; refine Todo.of ?_); (repeat' (first | ((with_reducible refine Todo.to ?_); (repeat (first | (simp only [↓rP,rT,rU,eA,zb,dval,dBin,dInt,zh,za,retV,retL,DR.val,fzT,fzVs,fzV,fz1,DV.immB,cellsOf,Nat.reduceEqDiff,Nat.reduceAdd,↓reduceIte,Nat.reduceLT,zih,eEx,z7,zj e ,hcondQ]) | ((simp (disch := omega) only [z6]))))) | (((((with_reducible refine zd (t := ?_) ?_ (fun hcQ => ?_) (fun hcQ => ?_)); rotate_left; . (rfl))) <;> (have hn := hcQ; have hcondQ := hcQ) <;> (try simp only [beq_iff_eq,ne_eq,beq_eq_false_iff_ne] at hn) <;> (refine Todo.of ?_))) | fail)))
 all_goals (obtain ⟨kind,n,name,op,arms,subs⟩ := e; simp only [Ex.kind,Ex.n,Ex.arms] at *; grind [za8,Ex.kind,Ex.n,Ex.arms])
set_option linter.all false
set_option maxRecDepth 20000
open Go.Nk
def zdc (e : Ex) : Bool :=
 if e.kind = 5 then e.op == 1 && e.subs.length == 1 && (e.subs.getD 0 default).kind == 1 else e.kind == 1 || e.kind == 2 || e.kind == 4
noncomputable def zv5 : List DV -> Prop × DV := zbp eEx fun e => (True,.bool (zdc e))
theorem zr3 (e : Ex) : zv5 [.agg (cEx e)] = (True,.bool (zdc e)) := z8 zdf _ e
theorem zju : OkP Tryz.prog 93 zv5 := by
 refine OkP.mk1 (ps := []) (hs := []) trivial trivial zle fun e _ => ?_
 by_cases c : 0 < e.subs.length
 . have g0 : (e.subs.map cEx).getD 0 [] = cEx (e.subs.getD 0 default) := zm cEx (by simp [c])
   have hg := zj (e.subs.getD 0 default)
   rw [hg] at g0
   have hr : zdc e = if e.kind = 5 then e.op == 1 && (e.subs.length : Int) == 1 && (e.subs.getD 0 default).kind == 1 else e.kind == 1 || e.kind == 2 || e.kind == 4 := by
     unfold zdc
     have : ((e.subs.length : Int) == 1) = (e.subs.length == 1) := by rw [Bool.eq_iff_iff]; simp; omega
     rw [this]
   rw [hr]
   generalize e.subs.getD 0 default = y at *
   ((have hcondQ := Bool.and_self; refine Todo.of ?_); (repeat' (first | ((with_reducible refine Todo.to ?_); (repeat (simp only [↓rP,rT,rU,eA,zb,dval,dBin,dInt,zh,za,retV,DR.val,fzT,fzV,fz1,DV.immB,cellsOf,Nat.reduceEqDiff,Nat.reduceAdd,↓reduceIte,Int.reduceToNat,Int.reduceLE,Nat.reduceLT,zdq,eEx,zj e,g0 ,hcondQ]))) | ((with_reducible refine And.intro ?_ ?_); . omega) | (((first | ((with_reducible refine zd (t := ?_) ?_ (fun hcQ => ?_) (fun hcQ => ?_)); rotate_left; . (rfl)) | ((with_reducible refine zl (t := ?_) ?_ (fun hcQ => ?_) (fun hcQ => ?_)); rotate_left; . (rfl))) <;> (have hn := hcQ; have hcondQ := hcQ) <;> (try simp only [beq_iff_eq,ne_eq,beq_eq_false_iff_ne] at hn) <;> (refine Todo.of ?_))) | fail)))
   all_goals grind
 . have hl : (e.subs.length : Int) = 0 := by omega
   have hr : zdc e = if e.kind = 5 then false else e.kind == 1 || e.kind == 2 || e.kind == 4 := by
     unfold zdc
     have : (e.subs.length == 1) = false := by simp; omega
     rw [this]; simp
   rw [hr]
   ((have hcondQ := Bool.and_self; refine Todo.of ?_); (repeat' (first | ((with_reducible refine Todo.to ?_); (repeat (simp only [↓rP,rT,rU,eA,zb,dval,dBin,dInt,zh,za,retV,DR.val,fzT,fzV,fz1,DV.immB,cellsOf,Nat.reduceEqDiff,Nat.reduceAdd,↓reduceIte,Nat.reduceLT,Int.reduceBEq,zdq,eEx,zj e,hl ,hcondQ]))) | (((first | ((with_reducible refine zd (t := ?_) ?_ (fun hcQ => ?_) (fun hcQ => ?_)); rotate_left; . (rfl)) | ((with_reducible refine zl (t := ?_) ?_ (fun hcQ => ?_) (fun hcQ => ?_)); rotate_left; . (rfl))) <;> (have hn := hcQ; have hcondQ := hcQ) <;> (try simp only [beq_iff_eq,ne_eq,beq_eq_false_iff_ne] at hn) <;> (refine Todo.of ?_))) | fail)))
   all_goals grind
def zr4 (e : Ex) : Bool := if e.kind = 14 then e.subs.all zdc else zdc e
noncomputable def z0e : List DV -> Prop × DV := zbp eEx fun e => (e.subs.length <= 1000000000,.bool (zr4 e))
theorem z65 (e : Ex) : z0e [.agg (cEx e)] = (e.subs.length <= 1000000000,.bool (zr4 e)) := z8 zdf _ e
theorem zl6 : OkP Tryz.prog 70 z0e := by
 refine OkP.mk1 (ps := [(93,zv5)]) (hs := []) ⟨zju,trivial⟩ trivial zo4 fun e h => ?_
 try dsimp only at h
 have h : e.subs.length <= 1000000000 := h
 have e1 := zr3 e
 simp only [zj e] at e1
 by_cases c : e.kind = 14
 rotate_left
 . have hr : zr4 e = zdc e := by simp [zr4,c]
   have c1 : (e.kind != 14) = true := by simp [c]
   rw [hr]
   ((have hcondQ := Bool.and_self; refine Todo.of ?_); (repeat' (first | ((with_reducible refine Todo.to ?_); (repeat (simp only [↓rP,rT,rU,eA,zb,dval,dBin,dInt,zh,za,retV,DR.val,fzT,fzV,fz1,DV.immB,ze,zf,zp,zo,zx,zi,zq,cellsOf,Nat.reduceEqDiff,Nat.reduceAdd,↓reduceIte,Nat.reduceLeDiff,Nat.reduceLT,zek,eEx,zj e,e1,c1 ,hcondQ]))))))
 have hr : zr4 e = e.subs.all zdc := by simp [zr4,c]
 have c1 : (e.kind != 14) = false := by simp [c]
 rw [hr]
 ((have hcondQ := Bool.and_self; refine Todo.of ?_); (repeat' (first | ((with_reducible refine Todo.to ?_); (repeat (simp only [↓rP,rT,rU,eA,zb,dval,dBin,dInt,zh,za,DV.immB,cellsOf,Nat.reduceEqDiff,Nat.reduceAdd,↓reduceIte,Nat.reduceLT,zek,eEx,zj e,c1 ,hcondQ]))))))
 refine z0 e.subs (fun k (_ : Unit) => ⟨[(1,.ref (cEx e)),(3,.int .i64 k)],[]⟩) (fun k r _ => r.all zdc = e.subs.all zdc) () (Nat.zero_le _) (by simp only [zg,List.map_cons,List.map_nil,zc,Nk.get_nil,Nat.reduceEqDiff,↓reduceIte,DV.cut,DV.inB,List.take_nil,zj e] <;> rfl) rfl (fun k x r _ d hx hd hr => ?_) (fun k _ e2 hr => ?_)
 . rw [List.all_cons] at hr
   have e2 := zr3 x
   simp only [zj x] at e2
   cases hf : zdc x
   . rw [hf,Bool.false_and] at hr
     ((refine Todo.of ?_); (repeat' (first | ((with_reducible refine Todo.to ?_); (repeat (simp only [↓rP,rT,rU,zb,dval,dBin,dInt,dUn,zh,za,retV,DR.val,fzT,fzV,fz1,DV.immB,ze,zf,zp,zo,zx,zi,zq,Nat.reduceEqDiff,Nat.reduceAdd,↓reduceIte,Nat.reduceLeDiff,zj e,d,zm cEx hx,zj x,e2,hf,<- hr ]))))) <;> (try (omega)))
   . rw [hf,Bool.true_and] at hr
     ((refine Todo.of ?_); (repeat' (first | ((with_reducible refine Todo.to ?_); (repeat (first | (simp only [↓rP,rT,rU,zb,dval,dBin,dInt,dUn,zh,za,DV.immB,ze,zf,zp,zo,zx,zi,zq,Nat.reduceEqDiff,Nat.reduceAdd,↓reduceIte,Nat.reduceLeDiff,zj e,d,zm cEx hx,zj x,e2,hf ]) | ((simp (disch := omega) only [z6]))))) | ((with_reducible refine And.intro ?_ ?_); . omega) | fail)))
     exact ⟨(),by simp only [zg,List.map_cons,List.map_nil,zc,Nk.get_nil,Nat.reduceEqDiff,↓reduceIte,DV.cut,DV.inB,List.take_nil,Int.natCast_add,Int.natCast_one] <;> rfl,hr⟩
 . rw [List.all_nil] at hr
   ((refine Todo.of ?_); (repeat' (first | ((with_reducible refine Todo.to ?_); (repeat (simp only [↓rP,rT,rU,zb,dval,dBin,dInt,zh,za,retV,DR.val,fzT,fzV,fz1,DV.immB,Nat.reduceEqDiff,↓reduceIte,zj e,e2,<- hr ]))))))
def zhf (e : Ex) : Bool := decide (1 <= e.kind) && decide (e.kind <= 17) && zf6 e && zyx e && z29 e && decide ((za8 e).1 <= e.subs.length) && decide ((e.subs.length : Int) <= (za8 e).2) && (e.kind != 8 || zr4 (e.subs.getD 0 default))
theorem ydq {e : Ex} (h : zf6 e = true) (k : e.kind = 13) : 0 <= e.n /\ e.n <= 1 := by
 simp only [zf6,k] at h
 simp at h
 omega
noncomputable def yc8 : List DV -> Prop × DV := zbp eEx fun e => (e.name.length <= 1000000 /\ e.arms.length <= 1000000 /\ ∀ x ∈ e.subs,x.subs.length <= 1000000000,.bool (zhf e))
theorem yei (e : Ex) : yc8 [.agg (cEx e)] = (e.name.length <= 1000000 /\ e.arms.length <= 1000000 /\ ∀ x ∈ e.subs,x.subs.length <= 1000000000,.bool (zhf e)) := z8 zdf _ e
theorem zo1 : OkP Tryz.prog 43 yc8 := by
 refine OkP.mk1 (ps := [(66,zuu),(67,z6k),(68,yc9),(69,ye6),(70,z0e)]) (hs := []) ⟨zkl,zmh,zoy,zpb,zl6,trivial⟩ trivial zqw fun e h => ?_
 try dsimp only at h
 obtain ⟨h1,h2,h3⟩ := h
 have e1 := z3a e
 have e2 := ycj e
 have e3 := ygu e
 have e4 := yc0 e
 rw [eq_true h1] at e2
 rw [eq_true h2] at e3
 simp only [zj e] at e1 e2 e3 e4
 by_cases q : 1 <= e.kind /\ e.kind <= 17 /\ zf6 e = true /\ zyx e = true /\ z29 e = true
 rotate_left
 . have hr : zhf e = false := by
     unfold zhf
     by_cases q1 : 1 <= e.kind
     . by_cases q2 : e.kind <= 17
       . cases q3 : zf6 e
         . simp
         . cases q4 : zyx e
           . simp
           . cases q5 : z29 e
             . simp
             . exact absurd ⟨q1,q2,q3,q4,q5⟩ q
       . simp [q2]
     . simp [q1]
   rw [hr]
   ((have hcondQ := Bool.and_self; refine Todo.of ?_); (repeat' (first | ((with_reducible refine Todo.to ?_); (repeat (simp only [↓rP,rT,rU,eA,zb,dval,dBin,dInt,dUn,zh,za,retV,DR.val,fzT,fzV,fz1,DV.immB,ze,zf,zp,zo,zx,zi,zq,cellsOf,Nat.reduceEqDiff,Nat.reduceAdd,↓reduceIte,Nat.reduceLeDiff,Nat.reduceLT,zb9,eEx,zj e,e1,e2,e3,e4 ,hcondQ]))) | (((first | ((with_reducible refine zd (t := ?_) ?_ (fun hcQ => ?_) (fun hcQ => ?_)); rotate_left; . (rfl)) | ((with_reducible refine zl (t := ?_) ?_ (fun hcQ => ?_) (fun hcQ => ?_)); rotate_left; . (rfl))) <;> (have hn := hcQ; have hcondQ := hcQ) <;> (try simp only [decide_eq_true_eq,decide_eq_false_iff_not,Bool.not_eq_true',Bool.not_eq_false'] at hn) <;> (refine Todo.of ?_))) | fail)))
   all_goals (exfalso; apply q; refine ⟨by omega,by omega,?_,?_,?_⟩ <;> grind)
 obtain ⟨q1,q2,q3,q4,q5⟩ := q
 rw [eq_true (ydq q3)] at e4
 have c1 : decide (e.kind < 1) = false := decide_eq_false (by omega)
 have c2 : decide (e.kind > 17) = false := decide_eq_false (by omega)
 have c3 : decide (17 < e.kind) = false := decide_eq_false (by omega)
 have hr : zhf e = (decide ((za8 e).1 <= e.subs.length) && decide ((e.subs.length : Int) <= (za8 e).2) && (e.kind != 8 || zr4 (e.subs.getD 0 default))) := by
   unfold zhf
   rw [decide_eq_true q1,decide_eq_true q2,q3,q4,q5]
   simp only [Bool.true_and]
 rw [hr]
 by_cases q8 : e.kind = 8 /\ 0 < e.subs.length
 . obtain ⟨q8,q9⟩ := q8
   have g0 : (e.subs.map cEx).getD 0 [] = cEx (e.subs.getD 0 default) := zm cEx (by simp [q9])
   have hm : e.subs.getD 0 default ∈ e.subs := by
     have : e.subs[0]? = some (e.subs.getD 0 default) := by simp [q9]
     exact List.mem_of_getElem? this
   have h4 := h3 _ hm
   have e5 := z65 (e.subs.getD 0 default)
   rw [eq_true h4] at e5
   rw [zj] at g0
   generalize e.subs.getD 0 default = y at *
   simp only [zj y] at e5
   have c8 : (e.kind != 8) = false := by simp [q8]
   have q9' : (0 : Int) < e.subs.length := by omega
   rw [c8]
   ((have hcondQ := Bool.and_self; refine Todo.of ?_); (repeat' (first | ((with_reducible refine Todo.to ?_); (repeat (simp only [↓rP,rT,rU,eA,zb,dval,dBin,dInt,dUn,zh,za,retV,DR.val,fzT,fzV,fz1,DV.immB,ze,zf,zp,zo,zx,zi,zq,cellsOf,Nat.reduceEqDiff,Nat.reduceAdd,↓reduceIte,Int.reduceToNat,Int.reduceLE,Nat.reduceLeDiff,Nat.reduceLT,zb9,eEx,zj e,e1,e2,e3,e4,e5,q3,q4,q5,c1,c2,g0,c8,q9' ,hcondQ]))) | (((((with_reducible refine zl (t := ?_) ?_ (fun hcQ => ?_) (fun hcQ => ?_)); rotate_left; . (rfl))) <;> (have hn := hcQ; have hcondQ := hcQ) <;> (try simp only [decide_eq_true_eq,decide_eq_false_iff_not] at hn) <;> (refine Todo.of ?_))) | fail)))
   all_goals grind
 . by_cases q9 : e.kind = 8
   . have hl : (e.subs.length : Int) = 0 := by
       have : ¬ 0 < e.subs.length := fun h => q8 ⟨q9,h⟩
       omega
     have hs : za8 e = (2,2) := by simp [za8,q9]
     rw [hs] at e4 |-
     have c8 : (e.kind != 8) = false := by simp [q9]
     rw [c8,hl]
     ((have hcondQ := Bool.and_self; refine Todo.of ?_); (repeat' (first | ((with_reducible refine Todo.to ?_); (repeat (simp only [↓rP,rT,rU,eA,zb,dval,dBin,dInt,dUn,zh,za,retV,DR.val,fzT,fzV,fz1,DV.immB,ze,zf,zp,zo,zx,zi,zq,cellsOf,Nat.reduceEqDiff,Nat.reduceAdd,↓reduceIte,Int.reduceLE,Nat.reduceLeDiff,Nat.reduceLT,zb9,eEx,zj e,e1,e2,e3,e4,q3,q4,q5,c1,c2,hl ,hcondQ]))))))
     all_goals rfl
   . have c8 : (e.kind != 8) = true := by simp [q9]
     rw [c8]
     ((have hcondQ := Bool.and_self; refine Todo.of ?_); (repeat' (first | ((with_reducible refine Todo.to ?_); (repeat (simp only [↓rP,rT,rU,eA,zb,dval,dBin,dInt,dUn,zh,za,retV,DR.val,fzT,fzV,fz1,DV.immB,ze,zf,zp,zo,zx,zi,zq,cellsOf,Nat.reduceEqDiff,Nat.reduceAdd,↓reduceIte,Nat.reduceLeDiff,Nat.reduceLT,zb9,eEx,zj e,e1,e2,e3,e4,q3,q4,q5,c1,c2,c8 ,hcondQ]))) | (((((with_reducible refine zl (t := ?_) ?_ (fun hcQ => ?_) (fun hcQ => ?_)); rotate_left; . (rfl))) <;> (have hn := hcQ; have hcondQ := hcQ) <;> (try simp only [decide_eq_true_eq,decide_eq_false_iff_not] at hn) <;> (refine Todo.of ?_))) | fail)))
     all_goals grind
def zgl (e : Ex) : Bool := decide (zaq e <= 60) && decide (zc0 e <= 12) && (zaj e).all zhf
theorem yd8 {e x : Ex} (h : x ∈ zaj e) : ∀ y ∈ x.subs,y ∈ zaj e := by
 induction e using Ex.ind with
 | h e ih =>
   have self : ∀ y : Ex,y ∈ zaj y := fun y => by rw [zcy]; simp
   have key : ∀ l : List Ex,∀ z ∈ l,∀ y ∈ zaj z,y ∈ zcd l := by
     intro l
     induction l with
     | nil => intro z hz; simp at hz
     | cons a l il =>
       intro z hz y hy
       rw [zcd]
       rcases List.mem_cons.1 hz with rfl | hz
       . exact List.mem_append.2 (.inl hy)
       . exact List.mem_append.2 (.inr (il z hz y hy))
   have back : ∀ l : List Ex,∀ z ∈ zcd l,∃ a ∈ l,z ∈ zaj a := by
     intro l
     induction l with
     | nil => intro z hz; rw [zcd] at hz; simp at hz
     | cons a l il =>
       intro z hz
       rw [zcd] at hz
       rcases List.mem_append.1 hz with hz | hz
       . exact ⟨a,by simp,hz⟩
       . obtain ⟨b,hb,h⟩ := il z hz
         exact ⟨b,by simp [hb],h⟩
   rw [zcy] at h |-
   intro y hy
   rcases List.mem_cons.1 h with rfl | h
   . exact List.mem_cons_of_mem _ (key _ y hy y (self y))
   . obtain ⟨a,ha,hx⟩ := back _ x h
     exact List.mem_cons_of_mem _ (key _ a ha y (ih a ha hx y hy))
theorem zp1 {e x : Ex} (h : x ∈ zaj e) : zaq x <= zaq e := by
 induction e using Ex.ind with
 | h e ih =>
   have back : ∀ l : List Ex,∀ z ∈ zcd l,∃ a ∈ l,z ∈ zaj a := by
     intro l
     induction l with
     | nil => intro z hz; rw [zcd] at hz; simp at hz
     | cons a l il =>
       intro z hz
       rw [zcd] at hz
       rcases List.mem_append.1 hz with hz | hz
       . exact ⟨a,by simp,hz⟩
       . obtain ⟨b,hb,h⟩ := il z hz
         exact ⟨b,by simp [hb],h⟩
   have le : ∀ l : List Ex,∀ a ∈ l,zaq a <= zbg l := by
     intro l
     induction l with
     | nil => intro a ha; simp at ha
     | cons b l il =>
       intro a ha
       rw [zbg]
       have h1 := zar b
       have h2 := zbh l
       rcases List.mem_cons.1 ha with rfl | ha
       . omega
       . have := il a ha; omega
   rw [zcy] at h
   rcases List.mem_cons.1 h with rfl | h
   . exact Int.le_refl _
   . obtain ⟨a,ha,hx⟩ := back _ x h
     have h1 := ih a ha hx
     have h2 := le _ a ha
     rw [za7 e]; omega
theorem z6n {e x : Ex} (h : zgn e = true) (hx : x ∈ zaj e) : x.name.length <= 1000000 /\ x.arms.length <= 1000000 /\ ∀ y ∈ x.subs,y.subs.length <= 1000000000 := by
 simp only [zgn,Bool.and_eq_true,decide_eq_true_eq,List.all_eq_true] at h
 have h1 := h.2 x hx
 simp only [fewX,Bool.and_eq_true,decide_eq_true_eq] at h1
 refine ⟨by omega,by omega,fun y hy => ?_⟩
 have h2 := zp1 (yd8 hx y hy)
 have h3 := zbh y.subs
 have h4 := za7 y
 omega
noncomputable def z1w : List DV -> Prop × DV := zbp eEx fun e => (zgn e = true,.bool (zgl e))
theorem z7l (e : Ex) : z1w [.agg (cEx e)] = (zgn e = true,.bool (zgl e)) := z8 zdf _ e
theorem zmd : OkP Tryz.prog 16 z1w := by
 refine OkP.mk1 (ps := [(40,z36),(41,zvl),(42,zqh),(43,yc8)]) (hs := []) ⟨zor,zms,zge,zo1,trivial⟩ trivial zo0 fun e h => ?_
 try dsimp only at h
 have h : zgn e = true := h
 have h' := h
 simp only [zgn,Bool.and_eq_true,decide_eq_true_eq] at h'
 have hs : zaq e <= 1000000000 := by omega
 have e1 := z4l e
 have e2 := zyp e
 have e3 := zpx e
 rw [eq_true hs] at e1 e2 e3
 have hpl := zk3 e
 simp only [zj e] at e1 e2 e3
 by_cases q1 : 60 < zaq e
 . have hr : zgl e = false := by simp [zgl]; omega
   rw [hr]
   ((have hcondQ := Bool.and_self; refine Todo.of ?_); (repeat' (first | ((with_reducible refine Todo.to ?_); (repeat (simp only [↓rP,rT,rU,eA,zb,dval,dBin,dInt,zh,za,retV,DR.val,fzT,fzV,fz1,DV.immB,ze,zf,zp,zo,zx,zi,zq,cellsOf,Nat.reduceEqDiff,Nat.reduceAdd,↓reduceIte,Nat.reduceLeDiff,zcp,eEx,zj e,e1,q1 ,hcondQ]))))))
 by_cases q2 : 12 < zc0 e
 . have hr : zgl e = false := by simp [zgl]; omega
   rw [hr]
   ((have hcondQ := Bool.and_self; refine Todo.of ?_); (repeat' (first | ((with_reducible refine Todo.to ?_); (repeat (simp only [↓rP,rT,rU,eA,zb,dval,dBin,dInt,zh,za,retV,DR.val,fzT,fzV,fz1,DV.immB,ze,zf,zp,zo,zx,zi,zq,cellsOf,Nat.reduceEqDiff,Nat.reduceAdd,↓reduceIte,Nat.reduceLeDiff,zcp,eEx,zj e,e1,e2,q1,q2 ,hcondQ]))))))
 have hr : zgl e = (zaj e).all zhf := by
   have a1 : zaq e <= 60 := by omega
   have a2 : zc0 e <= 12 := by omega
   simp [zgl,a1,a2]
 rw [hr]
 have hp : ∀ x ∈ zaj e,x.name.length <= 1000000 /\ x.arms.length <= 1000000 /\ ∀ y ∈ x.subs,y.subs.length <= 1000000000 := fun x hx => z6n h hx
 generalize zaj e = l at *
 ((have hcondQ := Bool.and_self; refine Todo.of ?_); (repeat' (first | ((with_reducible refine Todo.to ?_); (repeat (simp only [↓rP,rT,rU,eA,zb,dval,dBin,dInt,zh,za,fzVs,fzV,fz1,DV.immB,ze,zf,zp,zo,zx,zi,zq,fzL,cellsOf,Nat.reduceEqDiff,Nat.reduceAdd,↓reduceIte,reduceCtorEq,Nat.reduceLeDiff,zcp,eEx,zj e,e1,e2,e3,q1,q2 ,hcondQ]))))))
 refine z0 l (fun k (_ : Unit) => ⟨[(3,.sl (l.map cEx)),(4,.int .i64 k)],[]⟩) (fun k r _ => r.all zhf = l.all zhf) () (Nat.zero_le _) (by simp only [zg,List.map_cons,List.map_nil,zc,Nk.get_nil,Nat.reduceEqDiff,↓reduceIte,DV.cut,DV.inB,List.take_nil] <;> rfl) rfl (fun k x r _ d hx hd hr => ?_) (fun k _ e4 hr => ?_)
 . rw [List.all_cons] at hr
   have e4 := yei x
   rw [eq_true (hp x (List.mem_of_getElem? hx))] at e4
   simp only [zj x] at e4
   cases hf : zhf x
   . rw [hf,Bool.false_and] at hr
     ((refine Todo.of ?_); (repeat' (first | ((with_reducible refine Todo.to ?_); (repeat (simp only [↓rP,rT,rU,zb,dval,dBin,dInt,dUn,zh,za,retV,DR.val,fzT,fzV,fz1,DV.immB,ze,zf,zp,zo,zx,zi,zq,Nat.reduceEqDiff,Nat.reduceAdd,↓reduceIte,Nat.reduceLeDiff,d,zm cEx hx,zj x,e4,hf,<- hr ]))))) <;> (try (omega)))
   . rw [hf,Bool.true_and] at hr
     ((refine Todo.of ?_); (repeat' (first | ((with_reducible refine Todo.to ?_); (repeat (first | (simp only [↓rP,rT,rU,zb,dval,dBin,dInt,dUn,zh,za,DV.immB,ze,zf,zp,zo,zx,zi,zq,Nat.reduceEqDiff,Nat.reduceAdd,↓reduceIte,Nat.reduceLeDiff,d,zm cEx hx,zj x,e4,hf ]) | ((simp (disch := omega) only [z6]))))) | ((with_reducible refine And.intro ?_ ?_); . omega) | fail)))
     exact ⟨(),by simp only [zg,List.map_cons,List.map_nil,zc,Nk.get_nil,Nat.reduceEqDiff,↓reduceIte,DV.cut,DV.inB,List.take_nil,Int.natCast_add,Int.natCast_one] <;> rfl,hr⟩
 . rw [List.all_nil] at hr
   ((refine Todo.of ?_); (repeat' (first | ((with_reducible refine Todo.to ?_); (repeat (simp only [↓rP,rT,rU,zb,dval,dBin,dInt,retV,DR.val,fzT,fzV,fz1,DV.immB,Nat.reduceEqDiff,↓reduceIte,e4,<- hr ]))))))
structure Mov where
 path : List UInt8
 e : Ex
@[reducible] def cMov (m : Mov) : List DV := .str m.path :: cEx m.e
theorem z1c : ∀ x y,cMov x = cMov y -> x = y := fun x y h => by
 obtain ⟨a,b⟩ := x; obtain ⟨c,d⟩ := y
 simp only [cMov,List.cons.injEq,DV.str.injEq] at h
 rw [h.1,zmv _ _ h.2]
instance : Inhabited Mov := ⟨⟨[],default⟩⟩
abbrev eMov : Mov -> DV := eA cMov
theorem zzt : Inj eMov := zt8 z1c
abbrev zgu : List Mov -> DV := eL cMov
theorem zf4 : Inj zgu := yaw z1c
def z2n (m : Mov) : Bool := decide (m.path.length <= 300) && zgn m.e
def fewM (l : List Mov) : Bool := decide (l.length <= 50) && l.all z2n
noncomputable def ydu : List DV -> Prop × DV := zbp zgu fun l => (l.length <= 4611686018427387904,.bool (fewM l))
theorem yf2 (l : List Mov) : ydu [.sl (l.map cMov)] = (l.length <= 4611686018427387904,.bool (fewM l)) := z8 zf4 _ l
theorem zq1 : OkP Tryz.prog 14 ydu := by
 refine OkP.mk1 (ps := [(32,z13)]) (hs := []) ⟨zmc,trivial⟩ trivial zsn fun l h => ?_
 try dsimp only at h
 have h : l.length <= 4611686018427387904 := h
 ((refine Todo.of ?_); (repeat' (first | ((with_reducible refine Todo.to ?_); (repeat (simp only [↓rP,rT,eL,zb,dval,zjd,zgu ]))))))
 refine z0 l (fun k (_ : Unit) => ⟨[(0,.sl (l.map cMov)),(3,.int .i64 k)],[]⟩) (fun k r _ => r.all z2n = l.all z2n /\ k <= 60) () (Nat.zero_le _) (by simp only [zg,List.map_cons,List.map_nil,zc,Nk.get_nil,↓reduceIte,DV.cut,DV.inB,List.take_nil,reduceCtorEq] <;> rfl) ⟨rfl,by omega⟩ (fun k x r _ d hx hd hr => ?_) (fun k _ e2 hr => ?_)
 . obtain ⟨hr,hk⟩ := hr
   rw [List.all_cons] at hr
   by_cases d2 : k < 60
   rotate_left
   . have hq : fewM l = false := by
       have : ¬ l.length <= 50 := by omega
       simp [fewM,this]
     rw [hq]
     ((have hcondQ := Bool.and_self; refine Todo.of ?_); (repeat' (first | ((with_reducible refine Todo.to ?_); (repeat (simp only [↓rP,rT,rU,zb,dval,dBin,dInt,retV,DR.val,fzT,fzV,fz1,DV.immB,Nat.reduceEqDiff,↓reduceIte,reduceCtorEq,Nat.reduceLeDiff,d,hcondQ]))) | (((((with_reducible refine zd (t := ?_) ?_ (fun hcQ => ?_) (fun hcQ => ?_)); rotate_left; . (rfl))) <;> (have hn := hcQ; have hcondQ := hcQ) <;> (try simp only [decide_eq_true_eq,decide_eq_false_iff_not] at hn) <;> (try (exfalso; omega)) <;> (refine Todo.of ?_))) | fail)) <;> (try (omega)))
     all_goals omega
   have e1 := z52 x.e
   simp only [zj x.e] at e1
   by_cases c1 : 300 < x.path.length
   . have hq : fewM l = false := by
       have : z2n x = false := by simp [z2n]; omega
       rw [this,Bool.false_and] at hr
       rw [fewM,<- hr,Bool.and_false]
     have c1' : (300 : Int) < x.path.length := by omega
     rw [hq]
     ((have hcondQ := Bool.and_self; refine Todo.of ?_); (repeat' (first | ((with_reducible refine Todo.to ?_); (repeat (simp only [↓rP,rT,rU,zb,dval,dBin,dInt,zh,za,retV,DR.val,fzT,fzV,fz1,DV.immB,Nat.reduceEqDiff,Nat.reduceAdd,↓reduceIte,reduceCtorEq,Nat.reduceLeDiff,Nat.reduceLT,d,zm cMov hx,zj x.e,c1' ,hcondQ]))) | (((((with_reducible refine zd (t := ?_) ?_ (fun hcQ => ?_) (fun hcQ => ?_)); rotate_left; . (rfl))) <;> (have hn := hcQ; have hcondQ := hcQ) <;> (try simp only [decide_eq_true_eq,decide_eq_false_iff_not] at hn) <;> (try (exfalso; omega)) <;> (refine Todo.of ?_))) | fail)) <;> (try (omega)))
   have c1' : ¬ (300 : Int) < x.path.length := by omega
   have hf : z2n x = zgn x.e := by
     have : x.path.length <= 300 := by omega
     simp [z2n,this]
   rw [hf] at hr
   cases hs : zgn x.e
   . rw [hs,Bool.false_and] at hr
     have hq : fewM l = false := by rw [fewM,<- hr,Bool.and_false]
     rw [hq]
     ((have hcondQ := Bool.and_self; refine Todo.of ?_); (repeat' (first | ((with_reducible refine Todo.to ?_); (repeat (simp only [↓rP,rT,rU,zb,dval,dBin,dInt,dUn,zh,za,retV,DR.val,fzT,fzV,fz1,DV.immB,ze,zf,zp,zo,zx,zi,zq,Nat.reduceEqDiff,Nat.reduceAdd,↓reduceIte,reduceCtorEq,Nat.reduceLeDiff,Nat.reduceLT,d,zm cMov hx,c1',zj x.e,e1,hs ,hcondQ]))) | ((with_reducible refine And.intro ?_ ?_); . omega) | (((((with_reducible refine zd (t := ?_) ?_ (fun hcQ => ?_) (fun hcQ => ?_)); rotate_left; . (rfl))) <;> (have hn := hcQ; have hcondQ := hcQ) <;> (try simp only [decide_eq_true_eq,decide_eq_false_iff_not] at hn) <;> (try (exfalso; omega)) <;> (refine Todo.of ?_))) | fail)) <;> (try (omega)))
   . rw [hs,Bool.true_and] at hr
     ((have hcondQ := Bool.and_self; refine Todo.of ?_); (repeat' (first | ((with_reducible refine Todo.to ?_); (repeat (first | (simp only [↓rP,rT,rU,zb,dval,dBin,dInt,dUn,zh,za,DV.immB,ze,zf,zp,zo,zx,zi,zq,Nat.reduceEqDiff,Nat.reduceAdd,↓reduceIte,reduceCtorEq,Nat.reduceLeDiff,Nat.reduceLT,d,zm cMov hx,c1',zj x.e,e1,hs ,hcondQ]) | ((simp (disch := omega) only [z6]))))) | ((with_reducible refine And.intro ?_ ?_); . omega) | (((((with_reducible refine zd (t := ?_) ?_ (fun hcQ => ?_) (fun hcQ => ?_)); rotate_left; . (rfl))) <;> (have hn := hcQ; have hcondQ := hcQ) <;> (try simp only [decide_eq_true_eq,decide_eq_false_iff_not] at hn) <;> (try (exfalso; omega)) <;> (refine Todo.of ?_))) | fail)))
     exact ⟨(),by simp only [zg,List.map_cons,List.map_nil,zc,Nk.get_nil,↓reduceIte,DV.cut,DV.inB,List.take_nil,reduceCtorEq,Int.natCast_add,Int.natCast_one] <;> rfl,hr,by omega⟩
 . obtain ⟨hr,hk⟩ := hr
   rw [List.all_nil] at hr
   have hq : fewM l = decide ((l.length : Int) <= 50) := by
     rw [fewM,<- hr,Bool.and_true]
     exact decide_eq_decide.2 (by omega)
   rw [hq]
   ((refine Todo.of ?_); (repeat' (first | ((with_reducible refine Todo.to ?_); (repeat (simp only [↓rP,rT,rU,zb,dval,dBin,dInt,retV,DR.val,fzT,fzV,fz1,DV.immB,Nat.reduceEqDiff,↓reduceIte,reduceCtorEq,e2 ]))))))
end Go.Proofs.YtjgefhgkinocmaaGreat
