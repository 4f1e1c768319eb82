/- Constructors, one after the other; whose one is. -/
import Derived.Test.YtjgefhgkinocmaaGreatTyM
import Derived.Test.YtjgefhgkinocmaaGreatNkZ6
set_option linter.all false
set_option maxRecDepth 20000
namespace Go.Proofs.YtjgefhgkinocmaaGreat
open Go.Nk
theorem yb0 {α : Type} {l : List α} {n : Nat} {x : α} {r : List α} (h : l.drop n = x :: r) : l[n]? = some x /\ l.drop (n + 1) = r /\ n + 1 <= l.length := by
 have hl : n < l.length := by
   rcases Nat.lt_or_ge n l.length with h1 | h1
   . exact h1
   . rw [List.drop_of_length_le h1] at h; cases h
 rw [List.drop_eq_getElem_cons hl] at h
 injection h with h1 h2
 exact ⟨by rw [<- h1]; exact List.getElem?_eq_getElem hl,h2,hl⟩
theorem zup {α : Type} {l : List α} {n : Nat} (h : l.drop n = []) (hn : n <= l.length) : n = l.length := by
 have := List.drop_eq_nil_iff.1 h
 omega
abbrev Trio := Nat × Nat × List UInt8
def zkb (i : Nat) : Nat -> List (List UInt8) -> List Trio
 | _,[] => []
 | k,c :: r => (i,k,c) :: zkb i (k + 1) r
def zbu : Nat -> List En -> List Trio
 | _,[] => []
 | i,e :: r => zkb i 0 e.ct ++ zbu (i + 1) r
def encT (x : Trio) : List DV := [.agg [.int .i64 x.1,.int .i64 x.2.1],.str x.2.2]
def okEn (l : List En) : Prop := l.length <= 1000000000 /\ zgi l
noncomputable def ztg : List DV -> Prop × List (List DV) := zjz (fun l : List En => [.ref [.sl (l.map cEn)]]) fun l => (okEn l,(zbu 0 l).map encT)
theorem ycp : InjL (fun l : List En => [DV.ref [.sl (l.map cEn)]]) := fun x y h => by
 injection h with h _
 injection h with h
 injection h with h _
 injection h with h
 exact zdm z6z _ _ h
theorem z6j (l : List En) : ztg [.ref [.sl (l.map cEn)]] = (okEn l,(zbu 0 l).map encT) := ztj ycp _ l
theorem yb3 : OkI Tryz.prog 140 ztg := by
 refine OkI.mkA (ps := []) (hs := []) (is := []) trivial trivial trivial z26 rfl (fun _ => rfl) fun li l h => ?_
 obtain ⟨h,hf⟩ := h
 dsimp only
 generalize hxs : (zbu 0 li).map encT = xs
 
 (have hcondQ := Bool.and_self; refine Todo.of ?_); (repeat' (first | ((with_reducible refine Todo.to ?_); (repeat (simp only [rT,rU,zb,dval,zn,zh,za,↓reduceIte,rI,zlc,zr1,hcondQ])))))
 refine zot li (fun k (n : Nat) => (⟨[(0,.yld l),(7,.sl (li.map cEn)),(8,.int .i64 li.length),(9,.int .i64 k)],[]⟩,some n)) (fun k r n => xs.drop n = (zbu k r).map encT /\ n <= xs.length) 0 (by simp only [zg,List.map_cons,List.map_nil,zc,Nk.get_nil,Nat.reduceEqDiff,↓reduceIte,DV.cut,DV.inB,List.take_nil,reduceCtorEq] <;> rfl) ⟨by rw [<- hxs]; rfl,Nat.zero_le _⟩ (fun k x r n d hx hd hr => ?_) (fun k n e hr => ?_)
 . obtain ⟨hr,hbn⟩ := hr
   have hxc := hf x (zfd hd)
   simp only [zbu] at hr
   (have hcondQ := Bool.and_self; refine Todo.of ?_); (repeat' (first | ((with_reducible refine Todo.to ?_); (repeat (simp only [rT,rU,zb,dval,dBin,dInt,zh,za,zw,DV.one,alive,cellsOf,zk,Nat.reduceEqDiff,Nat.reduceAdd,↓reduceIte,reduceCtorEq,Nat.reduceLeDiff,forall_const,rI,zlc,z7,d,zm cEn hx,z7 ,hcondQ]))) | ((with_reducible refine And.intro ?_ ?_); . omega) | fail))
   refine zot x.ct (fun j (n : Nat) => (⟨[(0,.yld l),(3,.int .i64 k),(7,.sl (li.map cEn)),(8,.int .i64 li.length),(9,.int .i64 k),(15,.sl (sls x.ct)),(16,.int .i64 x.ct.length),(17,.int .i64 j)],[⟨.loc,2,[cEn x]⟩]⟩,some n)) (fun j r2 n => xs.drop n = (zkb k j r2 ++ zbu (k + 1) r).map encT /\ n <= xs.length) n (by simp only [zg,List.map_cons,List.map_nil,zc,Nk.get_nil,Nat.reduceEqDiff,↓reduceIte,Nat.succ_ne_self,DV.cut,DV.inB,DObj.cut,List.take_nil,reduceCtorEq,List.take_succ_cons] <;> rfl) ⟨hr,hbn⟩ (fun j c r2 n d2 hc hd2 hr2 => ?_) (fun j n e hr2 => ?_)
   . obtain ⟨hr2,hbn⟩ := hr2
     simp only [zkb,List.cons_append,List.map_cons] at hr2
     obtain ⟨g1,g2,g3⟩ := yb0 hr2
     simp only [encT] at g1
     (have hcondQ := Bool.and_self; refine Todo.of ?_); (repeat' (first | ((with_reducible refine Todo.to ?_); (repeat (first | (simp only [rT,rU,zr,zb,dval,dBin,dInt,dUn,zh,za,DV.immB,cellsOf,zk,DV.isU,Nat.reduceEqDiff,Nat.reduceAdd,↓reduceIte,reduceCtorEq,Nat.reduceLeDiff,rI,zlc,immV,z7,d2,yg5 hc,z7,g1 ,hcondQ]) | ((simp (disch := omega) only [z6]))))) | ((with_reducible refine And.intro ?_ ?_); . omega) | fail))
     exact ⟨n + 1,by simp only [zg,List.map_cons,List.map_nil,zc,Nk.get_nil,Nat.reduceEqDiff,↓reduceIte,Nat.succ_ne_self,DV.cut,DV.inB,DObj.cut,List.take_nil,reduceCtorEq,List.take_succ_cons,Int.natCast_add,Int.natCast_one] <;> rfl,g2,g3⟩
   . obtain ⟨hr2,hbn⟩ := hr2
     simp only [zkb,List.nil_append] at hr2
     (have hcondQ := Bool.and_self; refine Todo.of ?_); (repeat' (first | ((with_reducible refine Todo.to ?_); (repeat (first | (simp only [rT,rU,zb,dval,dBin,dInt,Nat.reduceEqDiff,↓reduceIte,reduceCtorEq,rI,zlc,e,hcondQ]) | ((simp (disch := omega) only [z6])))))))
     exact ⟨n,by simp only [zg,List.map_cons,List.map_nil,zc,Nk.get_nil,Nat.reduceEqDiff,↓reduceIte,Nat.succ_ne_self,DV.cut,DV.inB,List.take_zero,reduceCtorEq,Int.natCast_add,Int.natCast_one] <;> rfl,hr2,hbn⟩
 . obtain ⟨hr,hbn⟩ := hr
   have e2 := zup hr hbn
   (have hcondQ := Bool.and_self; refine Todo.of ?_); (repeat' (first | ((with_reducible refine Todo.to ?_); (repeat (simp only [rT,rU,zb,dval,dBin,dInt,Nat.reduceEqDiff,↓reduceIte,reduceCtorEq,rI,zlc,e,e2 ,hcondQ])))))
noncomputable def z0r : List DV -> Prop × DV := zbp eEns fun l => (True,.clo 140 [.ref [.sl (l.map cEn)]])
theorem yab (l : List En) : z0r [.sl (l.map cEn)] = (True,.clo 140 [.ref [.sl (l.map cEn)]]) := z8 zfe _ l
theorem z5r : OkP Tryz.prog 127 z0r := by
 refine OkP.mk1 (ps := []) (hs := []) trivial trivial yae fun l _ => ?_
 ((have hcondQ := Bool.and_self; refine Todo.of ?_); (repeat' (first | ((with_reducible refine Todo.to ?_); (repeat (simp only [↓rP,rT,rU,eL,zb,dval,retV,DR.val,fzT,fzV,fz1,DV.immB,cellsOf,Nat.reduceEqDiff,↓reduceIte,zx3,eEns,hcondQ]))))))
def zdx (name : List UInt8) : List Trio -> Int × Int × Bool
 | [] => (0,0,false)
 | (i,k,c) :: r => if c = name then (i,k,true) else zdx name r
def z19 (x : Int × Int × Bool) : DV := .tup [.int .i64 x.1,.int .i64 x.2.1,.bool x.2.2]
noncomputable def z3x : List DV -> Prop × DV := zbw eEns eS fun l n => (okEn l,z19 (zdx n (zbu 0 l)))
theorem z3h (l : List En) (n : List UInt8) : z3x [.sl (l.map cEn),.str n] = (okEn l,z19 (zdx n (zbu 0 l))) := zac zfe zml _ l n
theorem yah : OkP Tryz.prog 118 z3x := by
 refine OkP.mk2I (ps := [(127,z0r)]) (hs := []) (is := [(140,ztg)]) ⟨z5r,trivial⟩ trivial ⟨yb3,trivial⟩ yee fun l nm h => ?_
 have q1 : (Orc.ofI [(127,z0r)] [] [(140,ztg)]).i 140 [.ref [.sl (l.map cEn)]] = (True,(zbu 0 l).map encT) := by
   have := z6j l
   rw [eq_true (show okEn l from h)] at this
   exact this
 dsimp only
 generalize zbu 0 l = xs at q1
 
 ((have hcondQ := Bool.and_self; refine Todo.of ?_); (repeat' (first | ((with_reducible refine Todo.to ?_); (repeat (simp only [↓rP,rT,rU,eS,eL,zb,dval,zn,fzVs,fzV,fz1,DV.immB,ze,zf,zp,zo,zi,zq,cellsOf,Nat.reduceAdd,↓reduceIte,reduceCtorEq,z2l,yab,eEns,zsx,hcondQ]))))))
 refine z3b xs encT (fun _ (_ : Unit) => [⟨.loc,1,[[.int .i64 0]]⟩,⟨.loc,1,[[.int .i64 0]]⟩,⟨.loc,1,[[.bool false]]⟩]) (fun j r _ => zdx nm r = zdx nm xs) ()
   [(3,.ref [.str nm]),(4,.ptr 0 1 0 0),(5,.ptr 1 1 0 0),(6,.ptr 2 1 0 0)] (Nat.zero_le _) rfl rfl q1 rfl (by simp only [zg,List.map_cons,List.map_nil,zc,Nk.get_nil,Nat.reduceEqDiff,↓reduceIte,DV.cut,DV.inB,DObj.cut,List.take_nil,decide_true,Nat.reduceLT,List.take_succ_cons] <;> rfl) rfl (fun j x r _ hx hd hr => ⟨rfl,?_⟩) (fun j _ ej hr => ?_)
 . obtain ⟨i,k,c⟩ := x
   by_cases ce : c = nm
   . subst ce
     simp only [zdx,if_true] at hr
     rw [<- hr]
     ((refine Todo.of ?_); (repeat' (first | ((with_reducible refine Todo.to ?_); (repeat (simp only [↓rP,rT,rU,zjq,sepB,hdl,zb,dval,dBin,dInt,dStr,zh,za,retV,retL,DR.val,fzT,fzVs,fzV,fz1,DV.immB,zw,DV.one,alive,cellsOf,zk,Nat.reduceEqDiff,Nat.reduceAdd,↓reduceIte,reduceCtorEq,Int.reduceToNat,Int.reduceLE,Int.reduceLT,Nat.reduceLeDiff,Nat.reduceLT,forall_const,zff,encT,List.zip_cons_cons,List.zip_nil_right,z19 ]))))))
   . have c2 : (c == nm) = false := by simpa using ce
     simp only [zdx,if_neg ce] at hr
     ((refine Todo.of ?_); (repeat' (first | ((with_reducible refine Todo.to ?_); (repeat (simp only [↓rP,rT,rU,zb,dval,dBin,dInt,dStr,zh,za,zw,DV.one,cellsOf,zk,Nat.reduceEqDiff,Nat.reduceAdd,↓reduceIte,Nat.reduceLeDiff,forall_const,zff,encT,List.zip_cons_cons,List.zip_nil_right,c2 ]))))))
     exact ⟨(),by simp only [zg,List.map_cons,List.map_nil,zc,Nk.get_nil,↓reduceIte,DV.cut,DV.inB,DObj.cut,List.take_zero,List.take_succ_cons] <;> rfl,hr⟩
 . simp only [zdx] at hr
   ((refine Todo.of ?_); (repeat' (first | ((with_reducible refine Todo.to ?_); (repeat (simp only [↓rP,rT,rU,zb,dval,zh,za,retV,retL,DR.val,fzT,fzVs,fzV,fz1,DV.immB,zw,DV.one,cellsOf,zk,Nat.reduceEqDiff,↓reduceIte,reduceCtorEq,Nat.reduceLeDiff,forall_const,<- hr,z19 ]))))))
theorem znl : OkP Tryz.prog 112 z3x := by
 refine OkP.mk2 (ps := []) (hs := []) trivial trivial zpn fun l nm h => ?_
 try dsimp only at h
 obtain ⟨h,hf⟩ := h
 generalize hF : zdx nm (zbu 0 l) = F
 ((refine Todo.of ?_); (repeat' (first | ((with_reducible refine Todo.to ?_); (repeat (simp only [↓rP,rT,eS,eL,zb,dval,zhz,eEns ]))))))
 refine z0 l (fun k (_ : Unit) => ⟨[(0,.sl (l.map cEn)),(1,.str nm),(7,.int .i64 k)],[]⟩) (fun k r _ => zdx nm (zbu k r) = F) () (Nat.zero_le _) (by simp only [zg,List.map_cons,List.map_nil,zc,Nk.get_nil,Nat.reduceEqDiff,↓reduceIte,Nat.succ_ne_self,DV.cut,DV.inB,List.take_nil,reduceCtorEq] <;> rfl) hF (fun k x r _ d hx hd hr => ?_) (fun k _ e hr => ?_)
 . have hxc := hf x (zfd hd)
   simp only [zbu] at hr
   ((refine Todo.of ?_); (repeat' (first | ((with_reducible refine Todo.to ?_); (repeat (simp only [↓rP,rT,rU,zb,dval,dBin,dInt,Nat.reduceEqDiff,↓reduceIte,reduceCtorEq,d ]))))))
   refine z0 x.ct (fun j (_ : Unit) => ⟨[(0,.sl (l.map cEn)),(1,.str nm),(7,.int .i64 k),(8,.int .i64 j)],[]⟩) (fun j r2 _ => zdx nm (zkb k j r2 ++ zbu (k + 1) r) = F) () (Nat.zero_le _) (by simp only [zg,List.map_cons,List.map_nil,zc,Nk.get_nil,Nat.reduceEqDiff,↓reduceIte,Nat.succ_ne_self,DV.cut,DV.inB,List.take_nil,reduceCtorEq] <;> rfl) hr (fun j c r2 _ d2 hc hd2 hr2 => ?_) (fun j _ e hr2 => ?_)
   . simp only [zkb,List.cons_append] at hr2
     by_cases ce : c = nm
     . subst ce
       simp only [zdx,if_true] at hr2
       ((refine Todo.of ?_); (repeat' (first | ((with_reducible refine Todo.to ?_); (repeat (simp only [↓rP,rT,rU,zb,dval,dBin,dInt,dStr,zh,za,retV,retL,DR.val,fzT,fzVs,fzV,fz1,DV.immB,Nat.reduceEqDiff,Nat.reduceAdd,↓reduceIte,reduceCtorEq,z7,d,d2,zm cEn hx,z7,yg5 hc,<- hr2,z19 ]))) | ((with_reducible refine And.intro ?_ ?_); . omega) | fail)) <;> (try (omega)))
     . have c2 : (c == nm) = false := by simpa using ce
       simp only [zdx,if_neg ce] at hr2
       ((refine Todo.of ?_); (repeat' (first | ((with_reducible refine Todo.to ?_); (repeat (first | (simp only [↓rP,rT,rU,zb,dval,dBin,dInt,dStr,zh,za,Nat.reduceEqDiff,Nat.reduceAdd,↓reduceIte,reduceCtorEq,z7,d,d2,zm cEn hx,z7,yg5 hc,c2 ]) | ((simp (disch := omega) only [z6]))))) | ((with_reducible refine And.intro ?_ ?_); . omega) | fail)))
       exact ⟨(),by simp only [zg,List.map_cons,List.map_nil,zc,Nk.get_nil,Nat.reduceEqDiff,↓reduceIte,Nat.succ_ne_self,DV.cut,DV.inB,List.take_nil,reduceCtorEq,Int.natCast_add,Int.natCast_one] <;> rfl,hr2⟩
   . simp only [zkb,List.nil_append] at hr2
     ((refine Todo.of ?_); (repeat' (first | ((with_reducible refine Todo.to ?_); (repeat (first | (simp only [↓rP,rT,rU,zb,dval,dBin,dInt,zh,za,Nat.reduceEqDiff,Nat.reduceAdd,↓reduceIte,reduceCtorEq,z7,d,e,zm cEn hx,z7 ]) | ((simp (disch := omega) only [z6]))))) | ((with_reducible refine And.intro ?_ ?_); . omega) | fail)))
     exact ⟨(),by simp only [zg,List.map_cons,List.map_nil,zc,Nk.get_nil,Nat.reduceEqDiff,↓reduceIte,Nat.succ_ne_self,DV.cut,DV.inB,List.take_nil,reduceCtorEq,Int.natCast_add,Int.natCast_one] <;> rfl,hr2⟩
 . simp only [zbu,zdx] at hr
   ((refine Todo.of ?_); (repeat' (first | ((with_reducible refine Todo.to ?_); (repeat (simp only [↓rP,rT,rU,zb,dval,dBin,dInt,retV,retL,DR.val,fzT,fzVs,fzV,fz1,DV.immB,Nat.reduceEqDiff,↓reduceIte,reduceCtorEq,e,<- hr,z19 ]))))))
end Go.Proofs.YtjgefhgkinocmaaGreat
