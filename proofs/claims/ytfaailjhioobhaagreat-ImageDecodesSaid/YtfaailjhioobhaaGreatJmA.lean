/- What is done with the slots that were read: their places are filled in, and the code is read. -/
import Derived.Test.YtfaailjhioobhaaGreatImW
import Derived.Test.YtfaailjhioobhaaGreatInK
import Derived.Test.YtfaailjhioobhaaGreatCrI
set_option maxHeartbeats 8000000
set_option linter.all false
set_option maxRecDepth 20000
namespace Go.Proofs.YtfaailjhioobhaaGreat
open Go.Nk
def img0 : Img := ⟨[],[],[],[],[],[]⟩
abbrev nil6 : List DV := [.nil,.nil,.nil,.nil,.nil,.nil]
def atF : Int → List Slt → List Slt
 | _,[] => []
 | a,s :: r => ⟨s.path,s.ty,a,s.ini⟩ :: atF (a + zbh s.ty) r
theorem zhj : ∀ (a : Int) (l : List Slt),(atF a l).length = l.length
 | _,[] => rfl
 | a,s :: r => by simp [atF,zhj _ r]
noncomputable abbrev psT : List (FuncId × (List DV → Prop × DV)) := [(88,zf8),(89,zby zqc)]
noncomputable abbrev hsT : List (FuncId × (List DV → List DObj → Res)) := [(75,zk1),(80,z9v),(82,zyl),(84,zx7),(86,z72),(78,s_Ok),(79,zjv)]
structure TkS where
 s0 : RS
 s1 : RS
 s2 : RS
 s3 : RS
 s4 : RS
 s5 : RS
abbrev arrO : DObj := ⟨.loc,1,[[.ptr 2 1 0 0],[.ptr 3 1 0 0],[.ptr 4 1 0 0],[.ptr 5 1 0 0],[.ptr 6 1 0 0],[.ptr 7 1 0 0]]⟩
abbrev tkH (S : TkS) (O8 : DObj) (x : List DV) : List DObj := [⟨.loc,6,[nil6]⟩,arrO,oP S.s0,oP S.s1,oP S.s2,oP S.s3,oP S.s4,oP S.s5,O8,⟨.loc,6,[x]⟩]
theorem ybt (l r : List Slt) (x : Slt) (k : Nat) (h : l.length = k) : ((l ++ x :: r).map cSlt).getD k [] = cSlt x := by
 subst h; simp [List.getD]
theorem z3k (l r : List Slt) (x : Slt) (k : Nat) (h : l.length = k) : ((l ++ x :: r).map cSlt)[k]?.getD [] = cSlt x := by
 subst h; simp
theorem slt_set (l r : List Slt) (x y : Slt) (k : Nat) (h : l.length = k) : ((l ++ x :: r).map cSlt).set k (cSlt y) = (l ++ y :: r).map cSlt := by
 subst h; simp
theorem get5 (l : List (List UInt8)) (h : l.length = 6) : (l.map cBs).getD 5 [] = [.sl (bsl (l.getD 5 []))] := by
 have : 5 < l.length := by omega
 simp [List.getD,this,cBs]
theorem z7w (l : List (List UInt8)) (hl : l.length = 6) (hc : (l.getD 5 []).length ≤ 131072) (e : List En) (i o : List Prt) (lo : List Int) (S : TkS) (rows : List Slt) (hr : rows.length ≤ 255) (hne : 0 < rows.length) :
   dwp (Orc.of psT hsT) 0 zcu (EndP zb0.res (.tup [.agg (cImg ⟨e,i,o,atF 0 rows,lo,(getI (l.getD 5 [])).getD []⟩),.bool (getI (l.getD 5 [])).isSome]))
     ⟨[(0,.sl (l.map cBs)),(2,.ptr 0 1 0 0),(7,.ptr 9 1 0 0)],tkH S ⟨.imm,6,rows.map cSlt⟩ [.sl (e.map cEn),.sl (i.map cPrt),.sl (o.map cPrt),.own 8 rows.length 0 rows.length,.sl (ils lo),.nil]⟩ := by
 obtain ⟨s0,s1,s2,s3,s4,s5⟩ := S
 have hq : (rows.map cSlt).length = rows.length := List.length_map _
 
 unfold zcu
 (refine Todo.of ?_); (repeat' (first | ((with_reducible refine Todo.to ?_); (repeat (simp only [↓rP,rT,rU,zc,dval,zg,zb,alive,Nat.reduceEqDiff,Nat.reduceAdd,↓reduceIte,reduceCtorEq,Nat.reduceLT,zb0 ])))))
 refine zad rows (fun k (a : Int × List Slt × List Slt) => ⟨[(0,.sl (l.map cBs)),(2,.ptr 0 1 0 0),(7,.ptr 9 1 0 0),(10,.int .i64 a.1),(77,.int .i64 rows.length),(78,.int .i64 k)],tkH ⟨s0,s1,s2,s3,s4,s5⟩ ⟨.imm,6,(a.2.1 ++ a.2.2).map cSlt⟩ [.sl (e.map cEn),.sl (i.map cPrt),.sl (o.map cPrt),.own 8 rows.length 0 rows.length,.sl (ils lo),.nil]⟩) (fun k r a => a.2.2 = r ∧ a.2.1.length = k ∧ a.2.1 ++ atF a.1 r = atF 0 rows ∧ 0 ≤ a.1 ∧ a.1 ≤ 8 * k) (0,[],rows) (Nat.zero_le _) (by simp only [zk,List.map_cons,List.map_nil,zd,Nk.get_nil,Nat.reduceEqDiff,↓reduceIte,DV.cut,DV.inB,DObj.cut,List.take_nil,reduceCtorEq,decide_true,Nat.reduceLT,List.take_succ_cons,↓zbw] <;> rfl) ⟨rfl,rfl,rfl,Int.le_refl 0,by simp⟩ (fun k x r a d hx hd hi => ?_) fun k a ek hi => ?_
 · obtain ⟨at_,done,rest⟩ := a
   obtain ⟨h1,h2,h3,h4,h5⟩ := hi
   simp only at h1 h2 h3 h4 h5 ⊢
   subst h1
   have wk := zci d (by omega)
   have d' : decide ((k : Int) < (rows.length : Int)) = true := decide_eq_true (by omega)
   have hL : (done ++ x :: r).length = rows.length := by
     have := congrArg List.length hd
     simp only [List.length_drop,List.length_cons] at this
     simp only [List.length_append,List.length_cons]; omega
   obtain ⟨nm,⟨k1,k2,k3⟩,a0,ini⟩ := x
   have g4 := ybt done r ⟨nm,⟨k1,k2,k3⟩,a0,ini⟩ k h2
   have g5 := ybt done r ⟨nm,⟨k1,k2,k3⟩,at_,ini⟩ k h2
   have g1 := z3k done r ⟨nm,⟨k1,k2,k3⟩,a0,ini⟩ k h2
   have g2 := slt_set done r ⟨nm,⟨k1,k2,k3⟩,a0,ini⟩ ⟨nm,⟨k1,k2,k3⟩,at_,ini⟩ k h2
   have g3 := z3k done r ⟨nm,⟨k1,k2,k3⟩,at_,ini⟩ k h2
   simp only [cSlt] at g1 g2 g3 g4 g5
   have ec := zg9 ⟨k1,k2,k3⟩
   simp only [cTy] at ec
   have hb := ztu ⟨k1,k2,k3⟩
   simp only [atF] at h3
   generalize zbh ⟨k1,k2,k3⟩ = ce at ec hb h3
   have wa : IntKind.i64.wrap (at_ + ce) = at_ + ce := by rw [zt]; omega
   have hL2 : ∀ y,(done ++ y :: r).length = rows.length := fun y => by rw [← hL]; simp
   have hk : k < rows.length := d
   (refine Todo.of ?_); (repeat' (first | ((with_reducible refine Todo.to ?_); (repeat (simp only [↓rP,rT,rU,zc,dval,dBin,dInt,zg,zb,fz1,DV.immB,zp,zq,z1,zz,za4,zu,z6,zo,alive,fzL,cellsOf,zf,Nat.reduceEqDiff,Nat.reduceAdd,↓reduceIte,reduceCtorEq,Nat.reduceLeDiff,Nat.reduceLT,wk,wa,hk,g2,g4,g5,ec,hL,hL2 ]))) | ((with_reducible refine And.intro ?_ ?_); · omega) | fail))
   exact ⟨(at_ + ce,done ++ [⟨nm,⟨k1,k2,k3⟩,at_,ini⟩],r),by simp only [zk,List.map_cons,List.map_nil,zd,Nk.get_nil,Nat.reduceEqDiff,↓reduceIte,DV.cut,DV.inB,DObj.cut,List.take_nil,reduceCtorEq,decide_true,Nat.reduceLT,List.take_succ_cons,Int.natCast_add,Int.natCast_one,↓zbw,List.append_assoc,List.cons_append,List.nil_append] <;> rfl,rfl,by simp; omega,by rw [List.append_assoc]; exact h3,by simp only; omega,by simp only; omega⟩
 · obtain ⟨at_,done,rest⟩ := a
   obtain ⟨h1,h2,h3,h4,h5⟩ := hi
   simp only at h1 h2 h3 h4 h5 ⊢
   subst h1
   subst ek
   have eg := zk6 zqc (l.getD 5 [])
   rw [zqc,eq_true hc] at eg
   simp only [getV] at eg
   have e3 : done = atF 0 rows := by rw [← h3]; simp [atF]
   subst e3
   have r5 := get5 l hl
   have ht : List.take rows.length ((atF 0 rows).map cSlt) = (atF 0 rows).map cSlt := List.take_of_length_le (by simp [zhj])
   (have hcondQ := Bool.and_self; refine Todo.of ?_); (repeat' (first | ((with_reducible refine Todo.to ?_); (repeat (simp only [↓rP,rT,rU,zc,dval,dBin,dInt,zg,zb,retV,retL,DR.val,fzT,fzVs,fzV,fz1,DV.immB,zp,zq,z1,zz,zu,z6,zi,zo,DV.one,alive,freezeAt,fzL,cellsOf,zf,Nat.reduceEqDiff,Nat.reduceAdd,↓reduceIte,reduceCtorEq,Int.reduceToNat,Int.reduceLE,Int.reduceLT,Nat.reduceLeDiff,Nat.reduceLT,forall_const,r5,ht,eg,hl,List.append_nil ,hcondQ]))) | ((with_reducible refine And.intro ?_ ?_); · trivial) | fail)) <;> (try (exact Nat.le_refl _))
   all_goals rfl
theorem z1k (l : List (List UInt8)) (hl : l.length = 6) (hc : (l.getD 5 []).length ≤ 131072) (e : List En) (i o : List Prt) (lo : List Int) (S : TkS) :
   dwp (Orc.of psT hsT) 0 zcu (EndP zb0.res (.tup [.agg (cImg ⟨e,i,o,[],lo,(getI (l.getD 5 [])).getD []⟩),.bool (getI (l.getD 5 [])).isSome]))
     ⟨[(0,.sl (l.map cBs)),(2,.ptr 0 1 0 0),(7,.ptr 9 1 0 0)],tkH S ⟨.dead,0,[]⟩ [.sl (e.map cEn),.sl (i.map cPrt),.sl (o.map cPrt),.sl [],.sl (ils lo),.nil]⟩ := by
 obtain ⟨s0,s1,s2,s3,s4,s5⟩ := S
 
 unfold zcu
 (refine Todo.of ?_); (repeat' (first | ((with_reducible refine Todo.to ?_); (repeat (simp only [↓rP,rT,rU,zc,dval,zg,zb,alive,Nat.reduceEqDiff,Nat.reduceAdd,↓reduceIte,reduceCtorEq,Nat.reduceLT,zb0 ])))))
 refine zaa (fun _ : Unit => ⟨[(0,.sl (l.map cBs)),(2,.ptr 0 1 0 0),(7,.ptr 9 1 0 0),(10,.int .i64 0),(77,.int .i64 0),(78,.int .i64 0)],tkH ⟨s0,s1,s2,s3,s4,s5⟩ ⟨.dead,0,[]⟩ [.sl (e.map cEn),.sl (i.map cPrt),.sl (o.map cPrt),.sl [],.sl (ils lo),.nil]⟩) (fun _ => True) (fun _ => 0) () (Nat.zero_le _) (by simp only [zk,List.map_cons,List.map_nil,zd,Nk.get_nil,Nat.reduceEqDiff,↓reduceIte,DV.cut,DV.inB,DObj.cut,List.take_nil,reduceCtorEq,decide_true,Nat.reduceLT,List.take_succ_cons,↓zbw] <;> rfl) trivial fun _ _ => ?_
 have eg := zk6 zqc (l.getD 5 [])
 rw [zqc,eq_true hc] at eg
 simp only [getV] at eg
 have r5 := get5 l hl
 (have hcondQ := Bool.and_self; refine Todo.of ?_); (repeat' (first | ((with_reducible refine Todo.to ?_); (repeat (simp only [↓rP,rT,rU,zc,dval,dBin,dInt,zg,zb,retV,retL,DR.val,fzT,fzVs,fzV,fz1,DV.immB,zp,zq,z1,zz,zu,z6,zo,DV.one,alive,fzL,cellsOf,zf,Nat.reduceEqDiff,Nat.reduceAdd,↓reduceIte,reduceCtorEq,Int.reduceToNat,Int.reduceLE,Int.reduceLT,Nat.reduceLeDiff,Nat.reduceLT,forall_const,r5,eg,hl ,hcondQ])))))
 all_goals rfl
end Go.Proofs.YtfaailjhioobhaaGreat
set_option linter.all false
set_option maxRecDepth 20000
namespace Go.Proofs.YtfaailjhioobhaaGreat
open Go.Nk
theorem z9s {C : Orc} {h0 : Nat} {c : DCode} {Q : DExit → DS → Prop} {s s' : DS} (e : s = s') (h : dwp C h0 c Q s') : dwp C h0 c Q s := e ▸ h
def good (s : RS) : Bool := s.isSome && !ziy s
def TkS.gs (S : TkS) : List Bool := [good S.s0,good S.s1,good S.s2,good S.s3,good S.s4]
theorem zwq (l : List (List UInt8)) (S : TkS) (O8 : DObj) (x : List DV) (V : DV) (hO : DObj.cut 10 O8 = O8) (hx : x.map (DV.cut 10) = x)
   (hT : S.gs.all id = true → dwp (Orc.of psT hsT) 0 zcu (EndP zb0.res V) ⟨[(0,.sl (l.map cBs)),(2,.ptr 0 1 0 0),(7,.ptr 9 1 0 0)],tkH S O8 x⟩)
   (hF : S.gs.all id = false → V = .tup [.agg (cImg img0),.bool false]) :
   dwp (Orc.of psT hsT) 0 zhm (EndP zb0.res V)
     ⟨[(0,.sl (l.map cBs)),(2,.ptr 0 1 0 0),(4,.ptr 1 1 0 0),(7,.ptr 9 1 0 0)],[⟨.loc,6,[nil6]⟩,⟨.loc,6,[[.ptr 2 1 0 0,.ptr 3 1 0 0,.ptr 4 1 0 0,.ptr 5 1 0 0,.ptr 6 1 0 0,.ptr 7 1 0 0]]⟩,oP S.s0,oP S.s1,oP S.s2,oP S.s3,oP S.s4,oP S.s5,O8,⟨.loc,6,[x]⟩]⟩ := by
 obtain ⟨s0,s1,s2,s3,s4,s5⟩ := S
 
 unfold zhm
 (refine Todo.of ?_); (repeat' (first | ((with_reducible refine Todo.to ?_); (repeat (simp only [↓rP,rT,rU,zc,dval,alive,Nat.reduceEqDiff,Nat.reduceAdd,↓reduceIte,reduceCtorEq,Int.reduceToNat,Int.reduceLE,Nat.reduceLT,zb0 ])))))
 refine zad [0,1,2,3,4] (fun k (_ : Unit) => ⟨[(0,.sl (l.map cBs)),(2,.ptr 0 1 0 0),(7,.ptr 9 1 0 0),(58,.own 1 6 0 5),(59,.int .i64 5),(60,.int .i64 k)],tkH ⟨s0,s1,s2,s3,s4,s5⟩ O8 x⟩) (fun k (_ : List Nat) _ => ((TkS.gs ⟨s0,s1,s2,s3,s4,s5⟩).take k).all id = true) () (Nat.zero_le _) (by simp only [zk,List.map_cons,List.map_nil,zd,Nk.get_nil,Nat.reduceEqDiff,↓reduceIte,DV.cut,DV.inB,DObj.cut,List.take_nil,reduceCtorEq,decide_true,Nat.reduceLT,List.take_succ_cons,↓zbw,↓hO,hx] <;> rfl) rfl (fun k c r _ d hd0 hd hi => ?_) fun k _ e hi => ?_
 · simp only [List.length_cons,List.length_nil,Nat.zero_add,Nat.reduceAdd] at d
   clear hd0 hd
   rcases k with _ | _ | _ | _ | _ | k
   · have q1 : ∀ (o : DObj),s_Ok [.ptr 2 1 0 0] (tkH ⟨s0,s1,s2,s3,s4,s5⟩ O8 x ++ [o]) = ⟨True,.bool s0.isSome,tkH ⟨s0,s1,s2,s3,s4,s5⟩ O8 x ++ [o]⟩ := fun o => zf6 (r := s0) rfl
     have q2 : ∀ (o : DObj),zjv [.ptr 2 1 0 0] (tkH ⟨s0,s1,s2,s3,s4,s5⟩ O8 x ++ [o]) = ⟨True,.bool (ziy s0),tkH ⟨s0,s1,s2,s3,s4,s5⟩ O8 x ++ [o]⟩ := fun o => zgi (r := s0) rfl
     simp only [tkH,List.cons_append,List.nil_append] at q1 q2
     cases c : s0.isSome
     · rw [c] at q1
       obtain rfl := hF (by simp [TkS.gs,good,c])
       (refine Todo.of ?_); (repeat' (first | ((with_reducible refine Todo.to ?_); (repeat (simp only [↓rP,rT,rU,zj,zc,dval,dBin,dInt,dUn,zg,zb,retV,retL,DR.val,fzT,fzVs,fzV,fz1,DV.immB,zo,DV.one,alive,fzL,cellsOf,zf,Nat.reduceEqDiff,Nat.reduceAdd,↓reduceIte,reduceCtorEq,Int.reduceToNat,Int.reduceLE,Int.reduceLT,Nat.reduceLeDiff,Nat.reduceLT,forall_const,q1 ]))) | ((with_reducible refine And.intro ?_ ?_); · trivial) | fail))
       all_goals rfl
     · rw [c] at q1
       cases m : ziy s0
       · rw [m] at q2
         (refine Todo.of ?_); (repeat' (first | ((with_reducible refine Todo.to ?_); (repeat (first | (simp only [↓rP,rT,rU,zc,dval,dBin,dInt,dUn,zg,zb,zo,DV.one,alive,cellsOf,zf,Nat.reduceEqDiff,Nat.reduceAdd,↓reduceIte,reduceCtorEq,Int.reduceToNat,Int.reduceLE,Int.reduceLT,Nat.reduceLeDiff,Nat.reduceLT,Int.reduceAdd,forall_const,q1,q2 ]) | ((simp (disch := omega) only [zko])))))))
         exact ⟨(),by simp only [zk,List.map_cons,List.map_nil,zd,Nk.get_nil,Nat.reduceEqDiff,↓reduceIte,Nat.succ_ne_self,DV.cut,DV.inB,DObj.cut,List.take_zero,reduceCtorEq,decide_true,Nat.reduceLT,List.take_succ_cons,↓zbw,↓hO,hx] <;> rfl,by simpa [TkS.gs,good,c,m] using hi⟩
       · rw [m] at q2
         obtain rfl := hF (by simp [TkS.gs,good,c,m])
         (refine Todo.of ?_); (repeat' (first | ((with_reducible refine Todo.to ?_); (repeat (simp only [↓rP,rT,rU,zj,zc,dval,dBin,dInt,dUn,zg,zb,retV,retL,DR.val,fzT,fzVs,fzV,fz1,DV.immB,zo,DV.one,alive,fzL,cellsOf,zf,Nat.reduceEqDiff,Nat.reduceAdd,↓reduceIte,reduceCtorEq,Int.reduceToNat,Int.reduceLE,Int.reduceLT,Nat.reduceLeDiff,Nat.reduceLT,forall_const,q1,q2 ]))) | ((with_reducible refine And.intro ?_ ?_); · trivial) | fail))
         all_goals rfl
   · have q1 : ∀ (o : DObj),s_Ok [.ptr 3 1 0 0] (tkH ⟨s0,s1,s2,s3,s4,s5⟩ O8 x ++ [o]) = ⟨True,.bool s1.isSome,tkH ⟨s0,s1,s2,s3,s4,s5⟩ O8 x ++ [o]⟩ := fun o => zf6 (r := s1) rfl
     have q2 : ∀ (o : DObj),zjv [.ptr 3 1 0 0] (tkH ⟨s0,s1,s2,s3,s4,s5⟩ O8 x ++ [o]) = ⟨True,.bool (ziy s1),tkH ⟨s0,s1,s2,s3,s4,s5⟩ O8 x ++ [o]⟩ := fun o => zgi (r := s1) rfl
     simp only [tkH,List.cons_append,List.nil_append] at q1 q2
     cases c : s1.isSome
     · rw [c] at q1
       obtain rfl := hF (by simp [TkS.gs,good,c])
       (refine Todo.of ?_); (repeat' (first | ((with_reducible refine Todo.to ?_); (repeat (simp only [↓rP,rT,rU,zj,zc,dval,dBin,dInt,dUn,zg,zb,retV,retL,DR.val,fzT,fzVs,fzV,fz1,DV.immB,zo,DV.one,alive,fzL,cellsOf,zf,Nat.reduceEqDiff,Nat.reduceAdd,↓reduceIte,reduceCtorEq,Int.reduceToNat,Int.reduceLE,Int.reduceLT,Nat.reduceLeDiff,Nat.reduceLT,forall_const,q1 ]))) | ((with_reducible refine And.intro ?_ ?_); · trivial) | fail))
       all_goals rfl
     · rw [c] at q1
       cases m : ziy s1
       · rw [m] at q2
         (refine Todo.of ?_); (repeat' (first | ((with_reducible refine Todo.to ?_); (repeat (first | (simp only [↓rP,rT,rU,zc,dval,dBin,dInt,dUn,zg,zb,zo,DV.one,alive,cellsOf,zf,Nat.reduceEqDiff,Nat.reduceAdd,↓reduceIte,reduceCtorEq,Int.reduceToNat,Int.reduceLE,Int.reduceLT,Nat.reduceLeDiff,Nat.reduceLT,Int.reduceAdd,forall_const,q1,q2 ]) | ((simp (disch := omega) only [zko])))))))
         exact ⟨(),by simp only [zk,List.map_cons,List.map_nil,zd,Nk.get_nil,Nat.reduceEqDiff,↓reduceIte,Nat.succ_ne_self,DV.cut,DV.inB,DObj.cut,List.take_zero,reduceCtorEq,decide_true,Nat.reduceLT,List.take_succ_cons,↓zbw,↓hO,hx] <;> rfl,by simpa [TkS.gs,good,c,m] using hi⟩
       · rw [m] at q2
         obtain rfl := hF (by simp [TkS.gs,good,c,m])
         (refine Todo.of ?_); (repeat' (first | ((with_reducible refine Todo.to ?_); (repeat (simp only [↓rP,rT,rU,zj,zc,dval,dBin,dInt,dUn,zg,zb,retV,retL,DR.val,fzT,fzVs,fzV,fz1,DV.immB,zo,DV.one,alive,fzL,cellsOf,zf,Nat.reduceEqDiff,Nat.reduceAdd,↓reduceIte,reduceCtorEq,Int.reduceToNat,Int.reduceLE,Int.reduceLT,Nat.reduceLeDiff,Nat.reduceLT,forall_const,q1,q2 ]))) | ((with_reducible refine And.intro ?_ ?_); · trivial) | fail))
         all_goals rfl
   · have q1 : ∀ (o : DObj),s_Ok [.ptr 4 1 0 0] (tkH ⟨s0,s1,s2,s3,s4,s5⟩ O8 x ++ [o]) = ⟨True,.bool s2.isSome,tkH ⟨s0,s1,s2,s3,s4,s5⟩ O8 x ++ [o]⟩ := fun o => zf6 (r := s2) rfl
     have q2 : ∀ (o : DObj),zjv [.ptr 4 1 0 0] (tkH ⟨s0,s1,s2,s3,s4,s5⟩ O8 x ++ [o]) = ⟨True,.bool (ziy s2),tkH ⟨s0,s1,s2,s3,s4,s5⟩ O8 x ++ [o]⟩ := fun o => zgi (r := s2) rfl
     simp only [tkH,List.cons_append,List.nil_append] at q1 q2
     cases c : s2.isSome
     · rw [c] at q1
       obtain rfl := hF (by simp [TkS.gs,good,c])
       (refine Todo.of ?_); (repeat' (first | ((with_reducible refine Todo.to ?_); (repeat (simp only [↓rP,rT,rU,zj,zc,dval,dBin,dInt,dUn,zg,zb,retV,retL,DR.val,fzT,fzVs,fzV,fz1,DV.immB,zo,DV.one,alive,fzL,cellsOf,zf,Nat.reduceEqDiff,Nat.reduceAdd,↓reduceIte,reduceCtorEq,Int.reduceToNat,Int.reduceLE,Int.reduceLT,Nat.reduceLeDiff,Nat.reduceLT,forall_const,q1 ]))) | ((with_reducible refine And.intro ?_ ?_); · trivial) | fail))
       all_goals rfl
     · rw [c] at q1
       cases m : ziy s2
       · rw [m] at q2
         (refine Todo.of ?_); (repeat' (first | ((with_reducible refine Todo.to ?_); (repeat (first | (simp only [↓rP,rT,rU,zc,dval,dBin,dInt,dUn,zg,zb,zo,DV.one,alive,cellsOf,zf,Nat.reduceEqDiff,Nat.reduceAdd,↓reduceIte,reduceCtorEq,Int.reduceToNat,Int.reduceLE,Int.reduceLT,Nat.reduceLeDiff,Nat.reduceLT,Int.reduceAdd,forall_const,q1,q2 ]) | ((simp (disch := omega) only [zko])))))))
         exact ⟨(),by simp only [zk,List.map_cons,List.map_nil,zd,Nk.get_nil,Nat.reduceEqDiff,↓reduceIte,Nat.succ_ne_self,DV.cut,DV.inB,DObj.cut,List.take_zero,reduceCtorEq,decide_true,Nat.reduceLT,List.take_succ_cons,↓zbw,↓hO,hx] <;> rfl,by simpa [TkS.gs,good,c,m] using hi⟩
       · rw [m] at q2
         obtain rfl := hF (by simp [TkS.gs,good,c,m])
         (refine Todo.of ?_); (repeat' (first | ((with_reducible refine Todo.to ?_); (repeat (simp only [↓rP,rT,rU,zj,zc,dval,dBin,dInt,dUn,zg,zb,retV,retL,DR.val,fzT,fzVs,fzV,fz1,DV.immB,zo,DV.one,alive,fzL,cellsOf,zf,Nat.reduceEqDiff,Nat.reduceAdd,↓reduceIte,reduceCtorEq,Int.reduceToNat,Int.reduceLE,Int.reduceLT,Nat.reduceLeDiff,Nat.reduceLT,forall_const,q1,q2 ]))) | ((with_reducible refine And.intro ?_ ?_); · trivial) | fail))
         all_goals rfl
   · have q1 : ∀ (o : DObj),s_Ok [.ptr 5 1 0 0] (tkH ⟨s0,s1,s2,s3,s4,s5⟩ O8 x ++ [o]) = ⟨True,.bool s3.isSome,tkH ⟨s0,s1,s2,s3,s4,s5⟩ O8 x ++ [o]⟩ := fun o => zf6 (r := s3) rfl
     have q2 : ∀ (o : DObj),zjv [.ptr 5 1 0 0] (tkH ⟨s0,s1,s2,s3,s4,s5⟩ O8 x ++ [o]) = ⟨True,.bool (ziy s3),tkH ⟨s0,s1,s2,s3,s4,s5⟩ O8 x ++ [o]⟩ := fun o => zgi (r := s3) rfl
     simp only [tkH,List.cons_append,List.nil_append] at q1 q2
     cases c : s3.isSome
     · rw [c] at q1
       obtain rfl := hF (by simp [TkS.gs,good,c])
       (refine Todo.of ?_); (repeat' (first | ((with_reducible refine Todo.to ?_); (repeat (simp only [↓rP,rT,rU,zj,zc,dval,dBin,dInt,dUn,zg,zb,retV,retL,DR.val,fzT,fzVs,fzV,fz1,DV.immB,zo,DV.one,alive,fzL,cellsOf,zf,Nat.reduceEqDiff,Nat.reduceAdd,↓reduceIte,reduceCtorEq,Int.reduceToNat,Int.reduceLE,Int.reduceLT,Nat.reduceLeDiff,Nat.reduceLT,forall_const,q1 ]))) | ((with_reducible refine And.intro ?_ ?_); · trivial) | fail))
       all_goals rfl
     · rw [c] at q1
       cases m : ziy s3
       · rw [m] at q2
         (refine Todo.of ?_); (repeat' (first | ((with_reducible refine Todo.to ?_); (repeat (first | (simp only [↓rP,rT,rU,zc,dval,dBin,dInt,dUn,zg,zb,zo,DV.one,alive,cellsOf,zf,Nat.reduceEqDiff,Nat.reduceAdd,↓reduceIte,reduceCtorEq,Int.reduceToNat,Int.reduceLE,Int.reduceLT,Nat.reduceLeDiff,Nat.reduceLT,Int.reduceAdd,forall_const,q1,q2 ]) | ((simp (disch := omega) only [zko])))))))
         exact ⟨(),by simp only [zk,List.map_cons,List.map_nil,zd,Nk.get_nil,Nat.reduceEqDiff,↓reduceIte,Nat.succ_ne_self,DV.cut,DV.inB,DObj.cut,List.take_zero,reduceCtorEq,decide_true,Nat.reduceLT,List.take_succ_cons,↓zbw,↓hO,hx] <;> rfl,by simpa [TkS.gs,good,c,m] using hi⟩
       · rw [m] at q2
         obtain rfl := hF (by simp [TkS.gs,good,c,m])
         (refine Todo.of ?_); (repeat' (first | ((with_reducible refine Todo.to ?_); (repeat (simp only [↓rP,rT,rU,zj,zc,dval,dBin,dInt,dUn,zg,zb,retV,retL,DR.val,fzT,fzVs,fzV,fz1,DV.immB,zo,DV.one,alive,fzL,cellsOf,zf,Nat.reduceEqDiff,Nat.reduceAdd,↓reduceIte,reduceCtorEq,Int.reduceToNat,Int.reduceLE,Int.reduceLT,Nat.reduceLeDiff,Nat.reduceLT,forall_const,q1,q2 ]))) | ((with_reducible refine And.intro ?_ ?_); · trivial) | fail))
         all_goals rfl
   · have q1 : ∀ (o : DObj),s_Ok [.ptr 6 1 0 0] (tkH ⟨s0,s1,s2,s3,s4,s5⟩ O8 x ++ [o]) = ⟨True,.bool s4.isSome,tkH ⟨s0,s1,s2,s3,s4,s5⟩ O8 x ++ [o]⟩ := fun o => zf6 (r := s4) rfl
     have q2 : ∀ (o : DObj),zjv [.ptr 6 1 0 0] (tkH ⟨s0,s1,s2,s3,s4,s5⟩ O8 x ++ [o]) = ⟨True,.bool (ziy s4),tkH ⟨s0,s1,s2,s3,s4,s5⟩ O8 x ++ [o]⟩ := fun o => zgi (r := s4) rfl
     simp only [tkH,List.cons_append,List.nil_append] at q1 q2
     cases c : s4.isSome
     · rw [c] at q1
       obtain rfl := hF (by simp [TkS.gs,good,c])
       (refine Todo.of ?_); (repeat' (first | ((with_reducible refine Todo.to ?_); (repeat (simp only [↓rP,rT,rU,zj,zc,dval,dBin,dInt,dUn,zg,zb,retV,retL,DR.val,fzT,fzVs,fzV,fz1,DV.immB,zo,DV.one,alive,fzL,cellsOf,zf,Nat.reduceEqDiff,Nat.reduceAdd,↓reduceIte,reduceCtorEq,Int.reduceToNat,Int.reduceLE,Int.reduceLT,Nat.reduceLeDiff,Nat.reduceLT,forall_const,q1 ]))) | ((with_reducible refine And.intro ?_ ?_); · trivial) | fail))
       all_goals rfl
     · rw [c] at q1
       cases m : ziy s4
       · rw [m] at q2
         (refine Todo.of ?_); (repeat' (first | ((with_reducible refine Todo.to ?_); (repeat (first | (simp only [↓rP,rT,rU,zc,dval,dBin,dInt,dUn,zg,zb,zo,DV.one,alive,cellsOf,zf,Nat.reduceEqDiff,Nat.reduceAdd,↓reduceIte,reduceCtorEq,Int.reduceToNat,Int.reduceLE,Int.reduceLT,Nat.reduceLeDiff,Nat.reduceLT,Int.reduceAdd,forall_const,q1,q2 ]) | ((simp (disch := omega) only [zko])))))))
         exact ⟨(),by simp only [zk,List.map_cons,List.map_nil,zd,Nk.get_nil,Nat.reduceEqDiff,↓reduceIte,Nat.succ_ne_self,DV.cut,DV.inB,DObj.cut,List.take_zero,reduceCtorEq,decide_true,Nat.reduceLT,List.take_succ_cons,↓zbw,↓hO,hx] <;> rfl,by simpa [TkS.gs,good,c,m] using hi⟩
       · rw [m] at q2
         obtain rfl := hF (by simp [TkS.gs,good,c,m])
         (refine Todo.of ?_); (repeat' (first | ((with_reducible refine Todo.to ?_); (repeat (simp only [↓rP,rT,rU,zj,zc,dval,dBin,dInt,dUn,zg,zb,retV,retL,DR.val,fzT,fzVs,fzV,fz1,DV.immB,zo,DV.one,alive,fzL,cellsOf,zf,Nat.reduceEqDiff,Nat.reduceAdd,↓reduceIte,reduceCtorEq,Int.reduceToNat,Int.reduceLE,Int.reduceLT,Nat.reduceLeDiff,Nat.reduceLT,forall_const,q1,q2 ]))) | ((with_reducible refine And.intro ?_ ?_); · trivial) | fail))
         all_goals rfl
   · omega
 · simp only [List.length_cons,List.length_nil,Nat.zero_add,Nat.reduceAdd] at e
   subst e
   (refine Todo.of ?_); (repeat' (first | ((with_reducible refine Todo.to ?_); (repeat (simp only [↓rP,rT,rU,zc,dval,dBin,dInt,Nat.reduceEqDiff,↓reduceIte,reduceCtorEq ])))))
   exact ⟨Nat.zero_le _,z9s (by simp only [zk,List.map_cons,List.map_nil,zd,Nk.get_nil,Nat.reduceEqDiff,↓reduceIte,DV.cut,DV.inB,DObj.cut,List.take_nil,reduceCtorEq,decide_true,Nat.reduceLT,List.take_succ_cons,↓zbw,↓hO,hx] <;> rfl) (hT (by simpa [TkS.gs] using hi))⟩
end Go.Proofs.YtfaailjhioobhaaGreat
set_option linter.all false
set_option maxRecDepth 20000
namespace Go.Proofs.YtfaailjhioobhaaGreat
open Go.Nk
def rdC : Nat → List DV
 | 0 => [.nilp,.nilp,.nilp,.nilp,.nilp,.nilp]
 | k + 1 => (rdC k).set k (.ptr (k + 2) 1 0 0)
def rdR (l : List (List UInt8)) (k : Nat) : List DObj := (l.take k).map fun c => oP (some (c,0))
theorem ya1 : ∀ k,(rdC k).length = 6
 | 0 => rfl
 | k + 1 => by simp [rdC,ya1 k]
theorem rdR_len {l : List (List UInt8)} {k : Nat} (h : k ≤ l.length) : (rdR l k).length = k := by simp [rdR]; omega
theorem rdR_step {l : List (List UInt8)} {k : Nat} {c : List UInt8} (h : l[k]? = some c) : rdR l k ++ [oP (some (c,0))] = rdR l (k + 1) := by
 simp [rdR,List.take_add_one,h]
def rdH (l : List (List UInt8)) (k : Nat) : List DObj := ⟨.loc,6,[nil6]⟩ :: ⟨.loc,6,[rdC k]⟩ :: rdR l k
abbrev rdO (c : List UInt8) (a : Int) : DObj := ⟨.loc,3,[[.sl (bsl c),.bool true,.int .i64 a]]⟩
theorem oP_k (r : RS) : (oP r).k = .loc := by rcases r with _ | ⟨l,a⟩ <;> rfl
theorem oP_es (r : RS) : (oP r).es.length = 1 := by rcases r with _ | ⟨l,a⟩ <;> rfl
theorem oP_im (r : RS) : (∀ x ∈ (oP r).es,∀ d ∈ x,d.immB = true) = True := eq_true (by rcases r with _ | ⟨l,a⟩ <;> simp [oP,DV.immB])
theorem rdO_im (c : List UInt8) (a : Int) : (∀ r ∈ [[DV.sl (bsl c),.bool true,.int .i64 a]],∀ d ∈ r,d.immB = true) = True := eq_true (by simp [DV.immB])
def secS (l : List (List UInt8)) : TkS := ⟨(zar enO (some (l.getD 0 [],0)) 1).2,(zar prO (some (l.getD 1 [],0)) 1).2,(zar prO (some (l.getD 2 [],0)) 1).2,(zar slO (some (l.getD 3 [],0)) 1).2,(zar kiO (some (l.getD 4 [],0)) 2).2,some (l.getD 5 [],0)⟩
def zhx (l : List (List UInt8)) : Img × Bool :=
 if (secS l).gs.all id then (⟨(zar enO (some (l.getD 0 [],0)) 1).1,(zar prO (some (l.getD 1 [],0)) 1).1,(zar prO (some (l.getD 2 [],0)) 1).1,atF 0 (zar slO (some (l.getD 3 [],0)) 1).1,(zar kiO (some (l.getD 4 [],0)) 2).1,(getI (l.getD 5 [])).getD []⟩,(getI (l.getD 5 [])).isSome)
 else (img0,false)
theorem z93 {α : Type} {f : RS → α × RS} : ∀ (k : Nat) (r : RS) (acc : List α),(goF f k r acc).1.length ≤ acc.length + k
 | 0,_,_ => Nat.le_refl _
 | k + 1,r,acc => by
   unfold goF
   split
   · have := z93 (f := f) k (f r).2 (acc ++ [(f r).1])
     simp only [List.length_append,List.length_cons,List.length_nil] at this
     omega
   · simp
theorem z88 {α : Type} {f : RS → α × RS} {r : RS} : (zar f r 1).1.length ≤ 255 := by
 have h := z93 (f := f) (numV r 1).toNat (z9 r (szN 1)) []
 have := (zhw r (.inl rfl)).2.2 rfl
 simp only [List.length_nil] at h
 unfold zar
 omega
theorem z8n {c : List UInt8} (h : c.length ≤ 131072) : okP (some (c,0)) := ⟨Nat.zero_le _,by unfold ok62; omega⟩
noncomputable def yar : List DV → Prop × DV := zdu eBss fun l => (l.length = 6 ∧ ∀ c ∈ l,c.length ≤ 131072,.tup [.agg (cImg (zhx l).1),.bool (zhx l).2])
theorem ycd (l : List (List UInt8)) : yar [.sl (l.map cBs)] = (l.length = 6 ∧ ∀ c ∈ l,c.length ≤ 131072,.tup [.agg (cImg (zhx l).1),.bool (zhx l).2]) := zan z79 _ l
theorem zyy : OkP Tryz.prog 36 yar := by
 refine OkP.mk1 (ps := psT) (hs := hsT) ⟨zvy,zzr,trivial⟩ ⟨zhp,z7i,z1l,z26,z6q,za0,zhl,trivial⟩ z0w fun l h => ?_
 obtain ⟨hl,hc⟩ : l.length = 6 ∧ ∀ c ∈ l,c.length ≤ 131072 := h
 have hl2 : ∀ c ∈ l,c.length ≤ 4294967296 := fun c h => by have := hc c h; omega
 
 (refine Todo.of ?_); (repeat' (first | ((with_reducible refine Todo.to ?_); (repeat (simp only [↓rP,rT,rU,eL,zc,dval,Nat.reduceAdd,↓reduceIte,reduceCtorEq,zb0,eBss ])))))
 refine zad l (fun k (_ : Unit) => ⟨[(0,.sl (l.map cBs)),(2,.ptr 0 1 0 0),(4,.ptr 1 1 0 0),(14,.sl (l.map cBs)),(15,.int .i64 l.length),(16,.int .i64 k)],rdH l k⟩) (fun _ _ _ => True) () trivial (by simp only [zn,List.map_cons,List.map_nil,zd,Nk.get_nil,Nat.reduceEqDiff,↓reduceIte,reduceCtorEq] <;> rfl) trivial (fun k c r _ d hx hd _ => ?_) fun k _ e _ => ?_
 · have wk := zci d (by omega)
   have r1 := za8 cBs hx
   have eF := fun hp => zq9 c hp
   rw [eq_true (hl2 c (List.mem_of_getElem? hx))] at eF
   have l1 := rdR_len (l := l) (k := k) (by omega)
   have l2 := ya1 k
   have e1 := rdR_step hx
   have kl : k < 6 := by omega
   unfold rdH
   (refine Todo.of ?_); (repeat' (first | ((with_reducible refine Todo.to ?_); (repeat (simp only [↓rP,rT,rU,zj,zc,dval,dBin,dInt,zg,zb,zo,DV.one,alive,cellsOf,zf,DV.isU,Nat.reduceEqDiff,↓reduceIte,reduceCtorEq,Nat.reduceLeDiff,forall_const,d,wk,r1,eF,l1,l2,e1 ]))) | ((with_reducible refine And.intro ?_ ?_); · omega) | fail))
   exact ⟨(),by simp only [zn,List.map_cons,List.map_nil,zd,Nk.get_nil,Nat.reduceEqDiff,↓reduceIte,Nat.succ_ne_self,reduceCtorEq,Int.natCast_add,Int.natCast_one] <;> rfl⟩
 · subst e
   rw [hl]
   obtain ⟨c0,c1,c2,c3,c4,c5,rfl⟩ : ∃ c0 c1 c2 c3 c4 c5,l = [c0,c1,c2,c3,c4,c5] := by
     rcases l with _ | ⟨c0,_ | ⟨c1,_ | ⟨c2,_ | ⟨c3,_ | ⟨c4,_ | ⟨c5,_ | ⟨c6,l⟩⟩⟩⟩⟩⟩⟩ <;> simp at hl
     exact ⟨c0,c1,c2,c3,c4,c5,rfl⟩
   have h0 := z8n (hc c0 (by simp))
   have h1 := z8n (hc c1 (by simp))
   have h2 := z8n (hc c2 (by simp))
   have h3 := z8n (hc c3 (by simp))
   have h4 := z8n (hc c4 (by simp))
   have h5 : (([c0,c1,c2,c3,c4,c5] : List (List UInt8)).getD 5 []).length ≤ 131072 := hc c5 (by simp)
   have e6 : rdH [c0,c1,c2,c3,c4,c5] 6 = [⟨.loc,6,[nil6]⟩,⟨.loc,6,[[.ptr 2 1 0 0,.ptr 3 1 0 0,.ptr 4 1 0 0,.ptr 5 1 0 0,.ptr 6 1 0 0,.ptr 7 1 0 0]]⟩,rdO c0 0,rdO c1 0,rdO c2 0,rdO c3 0,rdO c4 0,rdO c5 0] := rfl
   rw [e6]
   have gR : ∀ k (o : DObj),(List.replicate k (⟨.dead,0,[]⟩ : DObj) ++ [o])[k]? = some o := fun k o => by rw [List.getElem?_append_right (by simp)]; simp
   have gS : ∀ k (o o' : DObj),one (List.replicate k (⟨.dead,0,[]⟩ : DObj) ++ [o]) k o' = List.replicate k (⟨.dead,0,[]⟩ : DObj) ++ [o'] := fun k o o' => by unfold one; rw [List.set_append_right _ _ (by simp)]; simp
   have f0 : z9v [.agg [.ptr 2 1 0 0],.int .i64 1,.meth 81 [.agg [.ptr 2 1 0 0]]] (List.replicate 2 ⟨.dead,0,[]⟩ ++ [rdO c0 0]) = ⟨True,.sl ((zar enO (some (c0,0)) 1).1.map cEn),List.replicate 2 ⟨.dead,0,[]⟩ ++ [oP (zar enO (some (c0,0)) 1).2]⟩ := by
     refine (zla (G := gEn) (r := some (c0,0)) (z := 1) (gR 2 _)).trans ?_
     rw [gS,eq_true (⟨h0,.inl rfl⟩ : okP (some (c0,0)) ∧ ((1 : Int) = 1 ∨ (1 : Int) = 2))]
   have f1 : zyl [.agg [.ptr 3 1 0 0],.int .i64 1,.meth 83 [.agg [.ptr 3 1 0 0]]] (List.replicate 3 ⟨.dead,0,[]⟩ ++ [rdO c1 0]) = ⟨True,.sl ((zar prO (some (c1,0)) 1).1.map cPrt),List.replicate 3 ⟨.dead,0,[]⟩ ++ [oP (zar prO (some (c1,0)) 1).2]⟩ := by
     refine (zla (G := gPrt) (r := some (c1,0)) (z := 1) (gR 3 _)).trans ?_
     rw [gS,eq_true (⟨h1,.inl rfl⟩ : okP (some (c1,0)) ∧ ((1 : Int) = 1 ∨ (1 : Int) = 2))]
   have f2 : zyl [.agg [.ptr 4 1 0 0],.int .i64 1,.meth 83 [.agg [.ptr 4 1 0 0]]] (List.replicate 4 ⟨.dead,0,[]⟩ ++ [rdO c2 0]) = ⟨True,.sl ((zar prO (some (c2,0)) 1).1.map cPrt),List.replicate 4 ⟨.dead,0,[]⟩ ++ [oP (zar prO (some (c2,0)) 1).2]⟩ := by
     refine (zla (G := gPrt) (r := some (c2,0)) (z := 1) (gR 4 _)).trans ?_
     rw [gS,eq_true (⟨h2,.inl rfl⟩ : okP (some (c2,0)) ∧ ((1 : Int) = 1 ∨ (1 : Int) = 2))]
   have f4 : z72 [.agg [.ptr 6 1 0 0],.int .i64 2,.meth 87 [.agg [.ptr 6 1 0 0]]] (List.replicate 6 ⟨.dead,0,[]⟩ ++ [rdO c4 0]) = ⟨True,.sl (ils (zar kiO (some (c4,0)) 2).1),List.replicate 6 ⟨.dead,0,[]⟩ ++ [oP (zar kiO (some (c4,0)) 2).2]⟩ := by
     refine (zla (G := gKi) (r := some (c4,0)) (z := 2) (gR 6 _)).trans ?_
     rw [gS,eq_true (⟨h4,.inr rfl⟩ : okP (some (c4,0)) ∧ ((2 : Int) = 1 ∨ (2 : Int) = 2))]
     rfl
   have f3 : zx7 [.agg [.ptr 5 1 0 0],.int .i64 1,.meth 85 [.agg [.ptr 5 1 0 0]]] (List.replicate 5 ⟨.dead,0,[]⟩ ++ [rdO c3 0]) = ⟨True,.own (6 + ((zcy (some (c3,0)) 1).p + 1)) (zcy (some (c3,0)) 1).l.length 0 (zcy (some (c3,0)) 1).l.length,(List.replicate 5 ⟨.dead,0,[]⟩ ++ [oP (zcy (some (c3,0)) 1).s]) ++ (⟨.loc,1,[[.ptr 5 1 0 0]]⟩ :: (zcy (some (c3,0)) 1).j)⟩ := by
     refine (soSlt_at (r := some (c3,0)) (z := 1) (gR 5 _)).trans ?_
     rw [gS,eq_true (⟨h3,.inl rfl⟩ : okP (some (c3,0)) ∧ ((1 : Int) = 1 ∨ (1 : Int) = 2))]
     rfl
   have hj : (zcy (some (c3,0)) 1).j[(zcy (some (c3,0)) 1).p]? = some ⟨.imm,6,(zcy (some (c3,0)) 1).l.map cSlt⟩ := goS_at slO _ _ _
   have hs := z7f (some (c3,0)) 1
   have hsl : (zcy (some (c3,0)) 1).l.length ≤ 255 := by
     have := z88 (f := slO) (r := some (c3,0))
     rw [← hs] at this
     exact this
   have gT : zhx [c0,c1,c2,c3,c4,c5] = zhx [c0,c1,c2,c3,c4,c5] := rfl
   generalize hV : zhx [c0,c1,c2,c3,c4,c5] = V at *
   clear gT
   unfold zhx secS at hV
   simp only [List.getD_cons_zero,List.getD_cons_succ,← hs] at hV
   generalize zcy (some (c3,0)) 1 = R at *
   obtain ⟨rows,s3,j,p⟩ := R
   simp only at f3 hj hsl hV
   have g5 : ∀ X : List DObj,(List.replicate 5 (⟨.dead,0,[]⟩ : DObj) ++ [oP s3] ++ X)[5]? = some (oP s3) := fun X => rfl
   have g6 : (List.replicate 5 (⟨.dead,0,[]⟩ : DObj) ++ [oP s3] ++ (⟨.loc,1,[[.ptr 5 1 0 0]]⟩ :: j))[6 + (p + 1)]? = some ⟨.imm,6,rows.map cSlt⟩ := by
     rw [List.getElem?_append_right (by simp)]
     have : 6 + (p + 1) - (List.replicate 5 (⟨.dead,0,[]⟩ : DObj) ++ [oP s3]).length = p + 1 := by simp
     rw [this]
     simpa using hj
   generalize zar enO (some (c0,0)) 1 = r0 at f0 hV
   generalize zar prO (some (c1,0)) 1 = r1 at f1 hV
   generalize zar prO (some (c2,0)) 1 = r2 at f2 hV
   generalize zar kiO (some (c4,0)) 2 = r4 at f4 hV
   obtain ⟨v0,s0⟩ := r0
   obtain ⟨v1,s1⟩ := r1
   obtain ⟨v2,s2⟩ := r2
   obtain ⟨v4,s4⟩ := r4
   simp only at f0 f1 f2 f4 hV
   have oH : ∀ (k f : Nat) (z : Int),([DV.agg [.ptr k 1 0 0],.int .i64 z,.meth f [.agg [.ptr k 1 0 0]]].all (zz3 k)) = true := fun k f z => by simp [zz3,zvu,zv6,DV.immB]
   have iR : ∀ x,immR (.sl x) = true := fun _ => rfl
   have hlm : (rows.map cSlt).length = rows.length := List.length_map _
   have h65 : 5 < 6 + (p + 1) := by omega
   have hF : (TkS.gs ⟨s0,s1,s2,s3,s4,some (c5,0)⟩).all id = false → (.tup [.agg (cImg V.1),.bool V.2] : DV) = .tup [.agg (cImg img0),.bool false] := fun e => by
     rw [e] at hV
     simp only [Bool.false_eq_true,↓reduceIte] at hV
     subst hV
     rfl
   by_cases hL : rows.length = 0
   · obtain rfl : rows = [] := List.length_eq_zero_iff.1 hL
     (refine Todo.of ?_); (repeat' (first | ((with_reducible refine Todo.to ?_); (repeat (simp only [↓rP,rT,rU,zj,zpa,hdl,zc,dval,dBin,dInt,zg,zb,zo,DV.one,alive,cellsOf,zf,DV.isU,Nat.reduceEqDiff,Nat.reduceAdd,↓reduceIte,reduceCtorEq,Int.reduceToNat,Int.reduceLE,Int.reduceLT,Nat.reduceLeDiff,forall_const,viaZ,notZ,hdl,gR,f0,f1,f2,f3,f4,g5,g6,oP_k,oP_es,↓oP_im,↓rdO_im,oH,iR,h65 ])))))
     refine ⟨z4 (n := 2) (o := oP s0),z4 (n := 3) (o := oP s1),z4 (n := 4) (o := oP s2),z4 (n := 6) (o := oP s4),?_⟩
     refine ⟨Nat.zero_le _,z9s (by simp only [zk,List.map_cons,List.map_nil,zd,Nk.get_nil,Nat.reduceEqDiff,↓reduceIte,DV.cut,DV.inB,DObj.cut,List.take_nil,reduceCtorEq,decide_true,Nat.reduceLT,List.take_succ_cons,↓zbw] <;> rfl) (zwq [c0,c1,c2,c3,c4,c5] ⟨s0,s1,s2,s3,s4,some (c5,0)⟩ ⟨.dead,0,[]⟩ [.sl (v0.map cEn),.sl (v1.map cPrt),.sl (v2.map cPrt),.sl [],.sl (ils v4),.nil] _ rfl rfl (fun e => ?_) hF)⟩
     rw [e] at hV
     simp only [↓reduceIte] at hV
     subst hV
     exact z1k [c0,c1,c2,c3,c4,c5] rfl h5 _ _ _ _ _
   · have hL2 : (rows.length = 0) = False := eq_false hL
     (refine Todo.of ?_); (repeat' (first | ((with_reducible refine Todo.to ?_); (repeat (simp only [↓rP,rT,rU,zj,zpa,hdl,zc,dval,dBin,dInt,zg,zb,zo,DV.one,alive,cellsOf,zf,DV.isU,Nat.reduceEqDiff,Nat.reduceAdd,↓reduceIte,reduceCtorEq,Int.reduceToNat,Int.reduceLE,Int.reduceLT,Nat.reduceLeDiff,forall_const,viaZ,notZ,hdl,gR,f0,f1,f2,f3,f4,g5,g6,oP_k,oP_es,↓oP_im,↓rdO_im,oH,iR,hlm,h65,hL2 ])))))
     refine ⟨z4 (n := 2) (o := oP s0),z4 (n := 3) (o := oP s1),z4 (n := 4) (o := oP s2),z4 (n := 6) (o := oP s4),?_⟩
     refine ⟨Nat.zero_le _,z9s (by simp only [zk,List.map_cons,List.map_nil,zd,Nk.get_nil,Nat.reduceEqDiff,↓reduceIte,DV.cut,DV.inB,DObj.cut,List.take_nil,reduceCtorEq,decide_true,Nat.reduceLT,List.take_succ_cons,↓zbw] <;> rfl) (zwq [c0,c1,c2,c3,c4,c5] ⟨s0,s1,s2,s3,s4,some (c5,0)⟩ ⟨.imm,6,rows.map cSlt⟩ [.sl (v0.map cEn),.sl (v1.map cPrt),.sl (v2.map cPrt),.own 8 rows.length 0 rows.length,.sl (ils v4),.nil] _ rfl rfl (fun e => ?_) hF)⟩
     rw [e] at hV
     simp only [↓reduceIte] at hV
     subst hV
     exact z7w [c0,c1,c2,c3,c4,c5] rfl h5 _ _ _ _ _ rows hsl (by omega)
end Go.Proofs.YtfaailjhioobhaaGreat
set_option linter.all false
set_option maxRecDepth 20000
namespace Go.Proofs.YtfaailjhioobhaaGreat
open Go.Nk
def lenR : RS → Nat
 | some (l,_) => l.length
 | none => 0
theorem nextV_le (r : RS) (k : Int) : ((zb1 r k).getD []).length ≤ lenR r := by
 rcases r with _ | ⟨l,a⟩
 · simp [zb1,lenR]
 · unfold zb1 nxt lenR
   simp only
   split <;> simp <;> omega
theorem zsn (r : RS) (k : Int) : lenR (z9 r k) ≤ lenR r := by
 rcases r with _ | ⟨l,a⟩
 · simp [z9,lenR]
 · unfold z9
   simp only [toP]
   cases (nxt l (some a) k).2 <;> simp [lenR]
theorem rawV_le (r : RS) (k : Int) : ((rawV r k).getD []).length ≤ lenR r := Nat.le_trans (nextV_le _ _) (zsn _ _)
theorem rawS_le (r : RS) (k : Int) : lenR (rawS r k) ≤ lenR r := Nat.le_trans (zsn _ _) (zsn _ _)
theorem zzk {L : Nat} : ∀ (k : Nat) (i : Int) (r : RS) (acc : List (List UInt8)),lenR r ≤ L → (∀ c ∈ acc,c.length ≤ L) → (∀ c ∈ (zdr k i r acc).1,c.length ≤ L) ∧ ((zdr k i r acc).2 = true → (zdr k i r acc).1.length = acc.length + k)
 | 0,_,_,_,_,h => ⟨h,fun _ => rfl⟩
 | k + 1,i,r,acc,hr,h => by
   unfold zdr
   split
   · have h1 := zsn r (szN 1)
     have h2 := rawS_le (z9 r (szN 1)) 4
     have ih := zzk (L := L) k (i + 1) (rawS (z9 r (szN 1)) 4) (acc ++ [zj5 (z9 r (szN 1))]) (by omega) (fun c hc => by
       rcases List.mem_append.1 hc with hc | hc
       · exact h c hc
       · rw [List.mem_singleton.1 hc]
         have := rawV_le (z9 r (szN 1)) 4
         unfold zj5; omega)
     refine ⟨ih.1,fun e => ?_⟩
     rw [ih.2 e]
     simp only [List.length_append,List.length_cons,List.length_nil]; omega
   · exact ⟨fun c hc => (by cases hc),fun e => (by cases e)⟩
theorem z0a (b : List UInt8) : (∀ c ∈ (zbr b).1,c.length ≤ b.length) ∧ ((zbr b).2 = true → (zbr b).1.length = 6) := by
 have h := zzk (L := b.length) 6 0 (some (b,0)) [] (Nat.le_refl _) (fun c hc => by cases hc)
 exact ⟨h.1,fun e => by rw [zbr,h.2 e]; rfl⟩
def decB (body : List UInt8) : Img × Int := if (zbr (body.drop 4)).2 then (if (zhx (zbr (body.drop 4)).1).2 then ((zhx (zbr (body.drop 4)).1).1,0) else (img0,11)) else (img0,11)
def decG (b : List UInt8) : Img × Int := if 131072 < b.length then (img0,3) else if b.length < 8 ∨ ¬ b.take 4 = zx then (img0,11) else if (zfh b).isSome then decB (zfq b) else (img0,12)
noncomputable def z87 : List DV → Prop × DV := zdu eBs fun b => (b.length ≤ 131072 ∨ 131072 < b.length,.tup [.agg (cImg (decG b).1),.int .i64 (decG b).2])
theorem z3g (b : List UInt8) : z87 [.sl (bsl b)] = (b.length ≤ 131072 ∨ 131072 < b.length,.tup [.agg (cImg (decG b).1),.int .i64 (decG b).2]) := zan zfu _ b
theorem zkr : OkP Tryz.prog 12 z87 := by
 refine OkP.mk1 (ps := [(33,z3o),(34,ybg),(35,z1u),(36,yar)]) (hs := []) ⟨zok,z1n,zvm,zyy,trivial⟩ trivial zvr fun b h => ?_
 try dsimp only at h
 have h : b.length ≤ 131072 ∨ 131072 < b.length := h
 have p0 : z3o [.sl (bsl b),.sl [[.int .u8 78],[.int .u8 79],[.int .u8 82],[.int .u8 49]]] = (True,.bool (decide (4 ≤ b.length) && (b.take 4 == zx))) := z99 b zx
 by_cases c1 : 131072 < b.length
 · have e : decG b = (img0,3) := if_pos c1
   rw [e]
   (have hcondQ := Bool.and_self; refine Todo.of ?_); (repeat' (first | ((with_reducible refine Todo.to ?_); (repeat (simp only [↓rP,rT,rU,eBs,zj,zc,dval,dBin,dInt,zg,zb,retV,retL,DR.val,fzT,fzVs,fzV,fz1,DV.immB,zo,DV.one,fzL,cellsOf,zf,Nat.reduceEqDiff,Nat.reduceAdd,↓reduceIte,reduceCtorEq,Nat.reduceLeDiff,forall_const,zbn,hcondQ]))) | ((with_reducible refine And.intro ?_ ?_); · trivial) | (((((with_reducible refine zw (t := ?_) ?_ (fun hcQ => ?_) (fun hcQ => ?_)); rotate_left; · (rfl))) <;> (have hn := hcQ; have hcondQ := hcQ) <;> (try simp only [decide_eq_true_eq,decide_eq_false_iff_not] at hn) <;> (try (exfalso; omega)) <;> (refine Todo.of ?_))) | fail))
   all_goals rfl
 by_cases c2 : b.length < 8
 · have e : decG b = (img0,11) := (if_neg c1).trans (if_pos (.inl c2))
   rw [e]
   (have hcondQ := Bool.and_self; refine Todo.of ?_); (repeat' (first | ((with_reducible refine Todo.to ?_); (repeat (simp only [↓rP,rT,rU,eBs,zj,zc,dval,dBin,dInt,zg,zb,retV,retL,DR.val,fzT,fzVs,fzV,fz1,DV.immB,zo,DV.one,fzL,cellsOf,zf,Nat.reduceEqDiff,Nat.reduceAdd,↓reduceIte,reduceCtorEq,Nat.reduceLeDiff,forall_const,zbn,hcondQ]))) | ((with_reducible refine And.intro ?_ ?_); · trivial) | (((first | ((with_reducible refine zw (t := ?_) ?_ (fun hcQ => ?_) (fun hcQ => ?_)); rotate_left; · (rfl)) | ((with_reducible refine z7 (t := ?_) ?_ (fun hcQ => ?_) (fun hcQ => ?_)); rotate_left; · (rfl))) <;> (have hn := hcQ; have hcondQ := hcQ) <;> (try simp only [decide_eq_true_eq,decide_eq_false_iff_not] at hn) <;> (try (exfalso; omega)) <;> (refine Todo.of ?_))) | fail))
   rfl
 rw [decide_eq_true (show 4 ≤ b.length by omega),Bool.true_and] at p0
 by_cases c3 : b.take 4 = zx
 rotate_left
 · have e : decG b = (img0,11) := (if_neg c1).trans (if_pos (.inr c3))
   rw [e]
   rw [beq_eq_false_iff_ne.2 c3] at p0
   (have hcondQ := Bool.and_self; refine Todo.of ?_); (repeat' (first | ((with_reducible refine Todo.to ?_); (repeat (simp only [↓rP,rT,rU,eBs,zj,zc,dval,dBin,dInt,dUn,zg,zb,retV,retL,DR.val,fzT,fzVs,fzV,fz1,DV.immB,zp,zq,z1,zz,zu,z6,zo,DV.one,fzLL,fzL,bRow,bU,cellsOf,zf,DV.isU,Nat.reduceEqDiff,Nat.reduceAdd,↓reduceIte,reduceCtorEq,Nat.reduceLeDiff,Nat.reduceLT,forall_const,zbn,p0 ,hcondQ]))) | ((with_reducible refine And.intro ?_ ?_); · trivial) | (((first | ((with_reducible refine zw (t := ?_) ?_ (fun hcQ => ?_) (fun hcQ => ?_)); rotate_left; · (rfl)) | ((with_reducible refine z7 (t := ?_) ?_ (fun hcQ => ?_) (fun hcQ => ?_)); rotate_left; · (rfl))) <;> (have hn := hcQ; have hcondQ := hcQ) <;> (try simp only [decide_eq_true_eq,decide_eq_false_iff_not] at hn) <;> (try (exfalso; omega)) <;> (refine Todo.of ?_))) | fail))
   rfl
 rw [beq_iff_eq.2 c3] at p0
 have h4 : decG b = if (zfh b).isSome then decB (zfq b) else (img0,12) := (if_neg c1).trans (if_neg (by simp [c2,c3]))
 have o1 := z7y b
 rw [eq_true (show b.length ≤ 100000000 by omega)] at o1
 cases c4 : (zfh b).isSome
 · rw [c4] at h4 o1
   rw [h4]
   (have hcondQ := Bool.and_self; refine Todo.of ?_); (repeat' (first | ((with_reducible refine Todo.to ?_); (repeat (simp only [↓rP,rT,rU,eBs,zj,zc,dval,dBin,dInt,dUn,zg,zb,retV,retL,DR.val,fzT,fzVs,fzV,fz1,DV.immB,zp,zq,z1,zz,zu,z6,zo,DV.one,fzLL,fzL,bRow,bU,cellsOf,zf,DV.isU,Nat.reduceEqDiff,Nat.reduceAdd,↓reduceIte,reduceCtorEq,Nat.reduceLeDiff,Nat.reduceLT,forall_const,zbn,p0,o1 ,hcondQ]))) | ((with_reducible refine And.intro ?_ ?_); · trivial) | (((first | ((with_reducible refine zw (t := ?_) ?_ (fun hcQ => ?_) (fun hcQ => ?_)); rotate_left; · (rfl)) | ((with_reducible refine z7 (t := ?_) ?_ (fun hcQ => ?_) (fun hcQ => ?_)); rotate_left; · (rfl))) <;> (have hn := hcQ; have hcondQ := hcQ) <;> (try simp only [decide_eq_true_eq,decide_eq_false_iff_not] at hn) <;> (try (exfalso; omega)) <;> (refine Todo.of ?_))) | fail))
   rfl
 · rw [c4,if_pos rfl] at h4
   rw [c4] at o1
   rw [h4]
   have hb : (zfq b).length + 4 = b.length := by
     obtain ⟨x,hx⟩ := Option.isSome_iff_exists.1 c4
     have := zz1 hx
     simp only [zfq,hx,Option.getD_some]; exact this
   generalize zfq b = body at o1 hb
   have s1 := fun hp => zo9 (hp := hp) (l := body) (b := 4) (by decide) (by omega)
   have s2 := z6n (body.drop 4)
   have e4 : (4 : Int).toNat = 4 := rfl
   have hd : (body.drop 4).length ≤ 131072 := by simp only [List.length_drop]; omega
   rw [eq_true (show (body.drop 4).length ≤ 4294967296 by omega)] at s2
   obtain ⟨pl1,pl2⟩ := z0a (body.drop 4)
   unfold decB
   generalize zbr (body.drop 4) = P at s2 pl1 pl2
   obtain ⟨l,f⟩ := P
   simp only at s2 pl1 pl2
   cases f
   · simp only [Bool.false_eq_true,↓reduceIte]
     (have hcondQ := Bool.and_self; refine Todo.of ?_); (repeat' (first | ((with_reducible refine Todo.to ?_); (repeat (simp only [↓rP,rT,rU,eBs,zj,zc,dval,dBin,dInt,dUn,zg,zb,retV,retL,DR.val,fzT,fzVs,fzV,fz1,DV.immB,zp,zq,z1,zz,zu,z6,zo,DV.one,fzLL,fzL,bRow,bU,cellsOf,zf,DV.isU,Nat.reduceEqDiff,Nat.reduceAdd,↓reduceIte,reduceCtorEq,Nat.reduceLeDiff,Nat.reduceLT,forall_const,zbn,p0,o1,s1,e4,s2 ,hcondQ]))) | ((with_reducible refine And.intro ?_ ?_); · trivial) | (((first | ((with_reducible refine zw (t := ?_) ?_ (fun hcQ => ?_) (fun hcQ => ?_)); rotate_left; · (rfl)) | ((with_reducible refine z7 (t := ?_) ?_ (fun hcQ => ?_) (fun hcQ => ?_)); rotate_left; · (rfl))) <;> (have hn := hcQ; have hcondQ := hcQ) <;> (try simp only [decide_eq_true_eq,decide_eq_false_iff_not] at hn) <;> (try (exfalso; omega)) <;> (refine Todo.of ?_))) | fail))
     all_goals rfl
   · have s3 := ycd l
     rw [eq_true (⟨pl2 rfl,fun c hc => by have := pl1 c hc; omega⟩ : l.length = 6 ∧ ∀ c ∈ l,c.length ≤ 131072)] at s3
     simp only [↓reduceIte]
     generalize zhx l = T at s3
     obtain ⟨x,g⟩ := T
     simp only at s3
     cases g
     · simp only [Bool.false_eq_true,↓reduceIte]
       (have hcondQ := Bool.and_self; refine Todo.of ?_); (repeat' (first | ((with_reducible refine Todo.to ?_); (repeat (simp only [↓rP,rT,rU,eBs,zj,zc,dval,dBin,dInt,dUn,zg,zb,retV,retL,DR.val,fzT,fzVs,fzV,fz1,DV.immB,zp,zq,z1,zz,zu,z6,zo,DV.one,fzLL,fzL,bRow,bU,cellsOf,zf,DV.isU,Nat.reduceEqDiff,Nat.reduceAdd,↓reduceIte,reduceCtorEq,Nat.reduceLeDiff,Nat.reduceLT,forall_const,zbn,p0,o1,s1,e4,s2,s3 ,hcondQ]))) | ((with_reducible refine And.intro ?_ ?_); · trivial) | (((first | ((with_reducible refine zw (t := ?_) ?_ (fun hcQ => ?_) (fun hcQ => ?_)); rotate_left; · (rfl)) | ((with_reducible refine z7 (t := ?_) ?_ (fun hcQ => ?_) (fun hcQ => ?_)); rotate_left; · (rfl))) <;> (have hn := hcQ; have hcondQ := hcQ) <;> (try simp only [decide_eq_true_eq,decide_eq_false_iff_not] at hn) <;> (try (exfalso; omega)) <;> (refine Todo.of ?_))) | fail))
       all_goals rfl
     · simp only [↓reduceIte]
       (have hcondQ := Bool.and_self; refine Todo.of ?_); (repeat' (first | ((with_reducible refine Todo.to ?_); (repeat (simp only [↓rP,rT,rU,eBs,zc,dval,dBin,dInt,dUn,zg,zb,retV,retL,DR.val,fzT,fzVs,fzV,fz1,DV.immB,zp,zq,z1,zz,zu,z6,zo,DV.one,fzLL,fzL,bRow,bU,cellsOf,zf,DV.isU,Nat.reduceEqDiff,Nat.reduceAdd,↓reduceIte,reduceCtorEq,Nat.reduceLeDiff,Nat.reduceLT,forall_const,zbn,p0,o1,s1,e4,s2,s3 ,hcondQ]))) | (((first | ((with_reducible refine zw (t := ?_) ?_ (fun hcQ => ?_) (fun hcQ => ?_)); rotate_left; · (rfl)) | ((with_reducible refine z7 (t := ?_) ?_ (fun hcQ => ?_) (fun hcQ => ?_)); rotate_left; · (rfl))) <;> (have hn := hcQ; have hcondQ := hcQ) <;> (try simp only [decide_eq_true_eq,decide_eq_false_iff_not] at hn) <;> (try (exfalso; omega)) <;> (refine Todo.of ?_))) | fail))
       all_goals rfl
end Go.Proofs.YtfaailjhioobhaaGreat
