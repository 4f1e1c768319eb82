/- What the document reads of an image's sections: types, kinds, ports. -/
import Derived.Test.YtfaailjhioobhaaGreatJmA
set_option maxHeartbeats 16000000
set_option linter.all false
set_option maxRecDepth 20000
namespace Go.Proofs.YtfaailjhioobhaaGreat
open Go.Nk
noncomputable def zus {α : Type} (V : α → DV) (f : QS → α × QS) : List DV → List DObj → Res := zee rQX (fun x => (okQ x.2,V (f x.2).1)) (fun x hp => one hp x.1 (oR (f x.2).2))
theorem zia {α : Type} {V : α → DV} {f : QS → α × QS} {hp : List DObj} {n : Nat} {r : QS} (h : hp[n]? = some (oR r)) : zus V f [.ptr n 1 0 0] hp = ⟨okQ r,V (f r).1,one hp n (oR (f r).2)⟩ := za5 (x := (n,r)) rQX_u ⟨rfl,h⟩
theorem one_qx {α : Type} {V : α → DV} {f : QS → α × QS} {hp : List DObj} {n : Nat} (hn : n < hp.length) {r : QS} (h : okQ r) (t : List DObj) : zus V f [.ptr n 1 0 0] (one hp n (oR r) ++ t) = ⟨True,V (f r).1,one hp n (oR (f r).2) ++ t⟩ := by
 rw [zia (zd9 hn),eq_true h]
 congr 1
 exact zi8 hn
theorem zny {hp : List DObj} {n : Nat} (hn : n < hp.length) {r : QS} (h : okQ r) (t : List DObj) : zqb [.ptr n 1 0 0] (one hp n (oR r) ++ t) = ⟨True,.str ((rqV r 2).getD []),one hp n (oR (rqS r 2)) ++ t⟩ := by
 rw [z54 (zd9 hn),eq_true h,zi8 hn]
def atQ (r : QS) : Int := match r.2 with
 | some a => a
 | none => 0
theorem oR_k (r : QS) : (oR r).k = .loc := by obtain ⟨l,_ | a⟩ := r <;> rfl
theorem zl5 (r : QS) : (oR r).es = [[.sl (bsl r.1),.int .i64 (atQ r),.bool (!r.2.isSome)]] := by obtain ⟨l,_ | a⟩ := r <;> rfl
theorem zfw (r : QS) {z : Int} (h : z = 1 ∨ z = 2) : 0 ≤ zax r z ∧ zax r z < 65536 ∧ (z = 1 → zax r z < 256) := by
 obtain ⟨l,s⟩ := r
 rw [← zf5]
 exact zhw _ h
def goQ {α : Type} (f : QS → α × QS) : Nat → QS → List α → List α × QS
 | 0,r,acc => (acc,r)
 | k + 1,r,acc => if r.2.isSome then goQ f k (f r).2 (acc ++ [(f r).1]) else (acc,r)
def zay {α : Type} (f : QS → α × QS) (r : QS) (z : Int) : List α × QS := goQ f (zax r z).toNat (qS r (szN z)) []
theorem zlv {α : Type} {f : QS → α × QS} {N k : Nat} {r : QS} {acc : List α} {G : List α × QS} (hk : k < N) (h : goQ f (N - k) r acc = G) :
   if r.2.isSome then goQ f (N - (k + 1)) (f r).2 (acc ++ [(f r).1]) = G else G = (acc,r) := by
 have e : N - k = (N - (k + 1)) + 1 := by omega
 rw [e] at h
 unfold goQ at h
 split
 · rename_i c; rw [if_pos c] at h; exact h
 · rename_i c; rw [if_neg c] at h; exact h.symm
theorem zqw {α : Type} {f : QS → α × QS} {N k : Nat} {r : QS} {acc : List α} {G : List α × QS} (hk : ¬ k < N) (h : goQ f (N - k) r acc = G) : G = (acc,r) := by
 have e : N - k = 0 := by omega
 rw [e] at h
 exact h.symm
theorem goQ_ok {α : Type} {f : QS → α × QS} (hf : ∀ r,okQ r → okQ (f r).2) : ∀ (k : Nat) (r : QS) (acc : List α),okQ r → okQ (goQ f k r acc).2
 | 0,_,_,h => h
 | k + 1,r,acc,h => by
   unfold goQ
   split
   · exact goQ_ok hf k _ _ (hf r h)
   · exact h
theorem zyj {α : Type} {f : QS → α × QS} (hf : ∀ r,okQ r → okQ (f r).2) {r : QS} (h : okQ r) (z : Int) : okQ (zay f r z).2 := goQ_ok hf _ _ _ (zb3 _ h)
section
variable {hp t u : List DObj} {m : Nat} {o o' a b c : DObj}
theorem zkj : (one hp m o ++ (a :: (t ++ b :: u)))[hp.length + (t.length + 1)]? = some b := by
 rw [List.getElem?_append_right (by simp [one])]
 have : hp.length + (t.length + 1) - (one hp m o).length = t.length + 1 := by rw [z8]; omega
 rw [this]
 simp
theorem zwm : (one hp m o ++ (a :: (t ++ b :: c :: u)))[hp.length + (t.length + 1 + 1)]? = some c := by
 rw [List.getElem?_append_right (by simp [one])]
 have : hp.length + (t.length + 1 + 1) - (one hp m o).length = t.length + 1 + 1 := by rw [z8]; omega
 rw [this]
 simp []
theorem zgj : (one hp m o ++ (a :: (t ++ b :: u))).set (hp.length + (t.length + 1)) o' = one hp m o ++ (a :: (t ++ o' :: u)) := by
 rw [List.set_append_right _ _ (by simp [one])]
 have : hp.length + (t.length + 1) - (one hp m o).length = t.length + 1 := by rw [z8]; omega
 rw [this]
 simp
theorem zie : (one hp m o ++ (a :: (t ++ b :: c :: u))).set (hp.length + (t.length + 1 + 1)) o' = one hp m o ++ (a :: (t ++ b :: o' :: u)) := by
 rw [List.set_append_right _ _ (by simp [one])]
 have : hp.length + (t.length + 1 + 1) - (one hp m o).length = t.length + 1 + 1 := by rw [z8]; omega
 rw [this]
 simp [List.set_append_right]
end
def tyQ (r : QS) : Ty × QS := (⟨zax r 1,zax (qS r (szN 1)) 1,zax (qS (qS r (szN 1)) (szN 1)) 1⟩,qS (qS (qS r (szN 1)) (szN 1)) (szN 1))
theorem zt9 {r : QS} (h : okQ r) : okQ (tyQ r).2 := zb3 _ (zb3 _ (zb3 _ h))
noncomputable def s_qTy : List DV → List DObj → Res := zus (fun t => .agg (cTy t)) tyQ
theorem qTy_at {hp : List DObj} {n : Nat} (hn : n < hp.length) {r : QS} (h : okQ r) (t : List DObj) : s_qTy [.ptr n 1 0 0] (one hp n (oR r) ++ t) = ⟨True,.agg (cTy (tyQ r).1),one hp n (oR (tyQ r).2) ++ t⟩ := one_qx hn h t
theorem zgb : OkH Tryz.prog 95 s_qTy := by
 refine OkH.mkG (ps := []) (hs := [(91,zg3)]) trivial ⟨zb4,trivial⟩ zob (fun x a hp h => by rw [h.1]; rfl) (fun x a hp h h1 => ?_)
 obtain ⟨n,r⟩ := x
 obtain ⟨rfl,hh⟩ := h
 have h1 : okQ r := h1
 simp only at hh ⊢
 have hn := (List.getElem?_eq_some_iff.1 hh).1
 have es : (⟨za 0 [.ptr n 1 0 0],hp⟩ : DS) = ⟨za 0 [.ptr n 1 0 0],one hp n (oR r) ++ []⟩ := by rw [List.append_nil,zeh hh]
 rw [es]
 have q0 := zc0 hn h1 1
 have hk1 := zb3 (szN 1) h1
 generalize ho : tyQ r = O
 unfold tyQ at ho
 generalize qS r (szN 1) = r1 at q0 hk1 ho
 have q1 := zc0 hn hk1 1
 have hk2 := zb3 (szN 1) hk1
 generalize qS r1 (szN 1) = r2 at q1 hk2 ho
 have q2 := zc0 hn hk2 1
 subst ho
 
 (refine Todo.of ?_); (repeat' (first | ((with_reducible refine Todo.to ?_); (repeat (simp only [↓rP,rT,rU,zj,zc,dval,za,zg,zb,retV,DR.val,zo,DV.one,alive,cellsOf,zf,DV.isU,Nat.reduceEqDiff,Nat.reduceAdd,↓reduceIte,reduceCtorEq,Nat.reduceLeDiff,forall_const,zhd,q0,q1,q2,z8,zb6,zds,zbx,zat,List.append_assoc,Nat.add_zero ]))) | ((with_reducible refine And.intro ?_ ?_); · first | (trivial) | ((simp; done))) | fail))
 all_goals exact za1 (zk7 _ _)
def kiQ (r : QS) : Int × QS := (zax r 2,qS r (szN 2))
noncomputable def zu5 : List DV → List DObj → Res := zus (fun l => .sl (ils l)) (fun r => zay kiQ r 2)
theorem snI (l : List Int) (x : Int) : ils l ++ [[.int .i64 x]] = ils (l ++ [x]) := by simp [ils]
theorem zji : OkH Tryz.prog 42 zu5 := by
 refine OkH.mkG (ps := []) (hs := [(91,zg3)]) trivial ⟨zb4,trivial⟩ zj0 (fun x a hp h => by rw [h.1]; rfl) (fun x a hp h h1 => ?_)
 obtain ⟨n,r⟩ := x
 obtain ⟨rfl,hh⟩ := h
 have hr : okQ r := h1
 simp only at hh ⊢
 have hn := (List.getElem?_eq_some_iff.1 hh).1
 have es : (⟨za 0 [.ptr n 1 0 0],hp⟩ : DS) = ⟨za 0 [.ptr n 1 0 0],one hp n (oR r) ++ []⟩ := by rw [List.append_nil,zeh hh]
 rw [es]
 have q0 := zc0 hn hr 2
 obtain ⟨n0,n1,-⟩ := zfw r (z := 2) (.inr rfl)
 generalize hG : zay kiQ r 2 = G
 unfold zay at hG
 have hr' := zb3 (szN 2) hr
 generalize qS r (szN 2) = r1 at q0 hG hr'
 generalize zax r 2 = N at q0 n0 n1 hG
 clear hr hh
 
 (refine Todo.of ?_); (repeat' (first | ((with_reducible refine Todo.to ?_); (repeat (simp only [↓rP,rT,rU,zc,dval,za,fzLL,↓reduceIte,reduceCtorEq,forall_const,zei,q0,z8,List.append_assoc,Nat.add_zero ])))))
 refine zaa (fun x : Nat × QS × List Int => ⟨[(0,.ptr n 1 0 0),(3,.own hp.length x.2.2.length 0 x.2.2.length),(4,.int .i64 N),(5,.int .i64 x.1)],one hp n (oR x.2.1) ++ [⟨.imm,1,ils x.2.2⟩]⟩) (fun x => x.1 ≤ N.toNat ∧ x.2.2.length = x.1 ∧ okQ x.2.1 ∧ goQ kiQ (N.toNat - x.1) x.2.1 x.2.2 = G) (fun x => N.toNat - x.1) (0,r1,[]) trivial (by simp only [zn,List.map_cons,List.map_nil,zd,Nk.get_nil,Nat.reduceEqDiff,↓reduceIte,reduceCtorEq,List.length_nil] <;> rfl) ⟨Nat.zero_le _,rfl,hr',hG⟩ fun x hx => ?_
 obtain ⟨k,s,acc⟩ := x
 obtain ⟨hk,hl,hs,hg⟩ := hx
 simp only at hk hl hs hg ⊢
 have gN : ∀ o t,(one hp n o ++ t)[n]? = some o := fun o t => zd9 hn
 have hil : (ils acc).length = acc.length := zbq acc
 by_cases d : (k : Int) < N
 · have wk := zci (k := k) (n := N.toNat) (by omega) (by omega)
   have hkN : k < N.toNat := by omega
   have d' : decide ((k : Int) < N) = true := decide_eq_true d
   have st := zlv hkN hg
   cases c : s.2.isSome
   · rw [c] at st
     simp only [Bool.false_eq_true,↓reduceIte] at st
     subst st
     have ht : List.take acc.length (ils acc) = ils acc := List.take_of_length_le (by rw [hil]; exact Nat.le_refl _)
     (refine Todo.of ?_); (repeat' (first | ((with_reducible refine Todo.to ?_); (repeat (simp only [↓rP,rT,rU,zc,dval,dBin,dInt,dUn,zg,zb,retV,DR.val,fzV,fz1,zi,alive,freezeAt,Nat.reduceEqDiff,↓reduceIte,reduceCtorEq,d',gN,oR_k,zl5,c,ht,hil,z8,zb6,zbx ]))) | ((with_reducible refine And.intro ?_ ?_); · first | (trivial) | (omega) | ((simp; done))) | fail))
     all_goals exact za1 (zk7 _ _)
   · rw [c] at st
     simp only [↓reduceIte] at st
     unfold kiQ at st
     have q1 := zc0 hn hs 2
     have hs2 := zb3 (szN 2) hs
     generalize qS s (szN 2) = s2 at q1 hs2 st
     generalize zax s 2 = v at q1 st
     have hq : acc.length + 1 ≤ 100000 := by omega
     (have hcondQ := Bool.and_self; refine Todo.of ?_); (repeat' (first | ((with_reducible refine Todo.to ?_); (repeat (simp only [↓rP,rT,rU,zc,dval,dBin,dInt,dUn,zg,zb,fz1,DV.immB,zi,zao,alive,fzLL,fzL,bRow,bU,cellsOf,DV.isU,zal,Nat.reduceEqDiff,↓reduceIte,reduceCtorEq,Nat.reduceLeDiff,forall_const,d',wk,gN,oR_k,zl5,c,q1,snI,hil,zb6,zbx,hcondQ]))) | ((with_reducible refine And.intro ?_ ?_); · omega) | fail))
     exact ⟨(k + 1,s2,acc ++ [v]),by simp only [zn,List.map_cons,List.map_nil,zd,Nk.get_nil,Nat.reduceEqDiff,↓reduceIte,Nat.succ_ne_self,reduceCtorEq,Int.natCast_add,Int.natCast_one,List.length_append,List.length_cons,List.length_nil,Nat.zero_add] <;> rfl,⟨by simp only; omega,by simp only [List.length_append,List.length_cons,List.length_nil]; omega,hs2,st⟩,by simp only; omega⟩
 · have d' : decide ((k : Int) < N) = false := decide_eq_false d
   have st := zqw (by omega) hg
   subst st
   have ht : List.take acc.length (ils acc) = ils acc := List.take_of_length_le (by rw [hil]; exact Nat.le_refl _)
   (refine Todo.of ?_); (repeat' (first | ((with_reducible refine Todo.to ?_); (repeat (simp only [↓rP,rT,rU,zc,dval,dBin,dInt,retV,DR.val,fzV,fz1,zi,freezeAt,Nat.reduceEqDiff,↓reduceIte,reduceCtorEq,d',ht,hil,z8,zb6,zbx ]))) | ((with_reducible refine And.intro ?_ ?_); · first | (trivial) | (omega) | ((simp; done))) | fail))
   all_goals exact za1 (zk7 _ _)
def prQ (r : QS) : Prt × QS := (⟨(rqV r 2).getD [],(tyQ (rqS r 2)).1⟩,(tyQ (rqS r 2)).2)
theorem z9i {r : QS} (h : okQ r) : okQ (prQ r).2 := zt9 (zfe 2 h)
noncomputable def zsj : List DV → List DObj → Res := zus (fun l => .sl (l.map cPrt)) (fun r => zay prQ r 1)
theorem zj7 : OkH Tryz.prog 40 zsj := by
 refine OkH.mkG (ps := []) (hs := [(91,zg3),(94,zqb),(95,s_qTy)]) trivial ⟨zb4,zmx,zgb,trivial⟩ zkv (fun x a hp h => by rw [h.1]; rfl) (fun x a hp h h1 => ?_)
 obtain ⟨n,r⟩ := x
 obtain ⟨rfl,hh⟩ := h
 have hr : okQ r := h1
 simp only at hh ⊢
 have hn := (List.getElem?_eq_some_iff.1 hh).1
 have es : (⟨za 0 [.ptr n 1 0 0],hp⟩ : DS) = ⟨za 0 [.ptr n 1 0 0],one hp n (oR r) ++ []⟩ := by rw [List.append_nil,zeh hh]
 rw [es]
 have q0 := zc0 hn hr 1
 obtain ⟨n0,n1,-⟩ := zfw r (z := 1) (.inl rfl)
 generalize hG : zay prQ r 1 = G
 unfold zay at hG
 have hr' := zb3 (szN 1) hr
 generalize qS r (szN 1) = r1 at q0 hG hr'
 generalize zax r 1 = N at q0 n0 n1 hG
 clear hr hh
 
 (refine Todo.of ?_); (repeat' (first | ((with_reducible refine Todo.to ?_); (repeat (simp only [↓rP,rT,rU,zc,dval,za,fzLL,Nat.reduceAdd,↓reduceIte,reduceCtorEq,forall_const,ze2,q0,z8,List.append_assoc,Nat.add_zero ])))))
 refine zaa (fun x : Nat × QS × List Prt × List DObj => ⟨[(0,.ptr n 1 0 0),(3,.own hp.length x.2.2.1.length 0 x.2.2.1.length),(4,.int .i64 N),(5,.int .i64 x.1)],one hp n (oR x.2.1) ++ (⟨.imm,4,x.2.2.1.map cPrt⟩ :: x.2.2.2)⟩) (fun x => x.1 ≤ N.toNat ∧ x.2.2.1.length = x.1 ∧ okQ x.2.1 ∧ goQ prQ (N.toNat - x.1) x.2.1 x.2.2.1 = G) (fun x => N.toNat - x.1) (0,r1,[],[]) trivial (by simp only [zn,List.map_cons,List.map_nil,zd,Nk.get_nil,Nat.reduceEqDiff,↓reduceIte,reduceCtorEq,List.length_nil] <;> rfl) ⟨Nat.zero_le _,rfl,hr',hG⟩ fun x hx => ?_
 obtain ⟨k,s,acc,t⟩ := x
 obtain ⟨hk,hl,hs,hg⟩ := hx
 simp only at hk hl hs hg ⊢
 have gN : ∀ o t,(one hp n o ++ t)[n]? = some o := fun o t => zd9 hn
 by_cases d : (k : Int) < N
 · have wk := zci (k := k) (n := N.toNat) (by omega) (by omega)
   have hkN : k < N.toNat := by omega
   have d' : decide ((k : Int) < N) = true := decide_eq_true d
   have st := zlv hkN hg
   cases c : s.2.isSome
   · rw [c] at st
     simp only [Bool.false_eq_true,↓reduceIte] at st
     subst st
     have ht : List.take acc.length (acc.map cPrt) = acc.map cPrt := List.take_of_length_le (by simp)
     (refine Todo.of ?_); (repeat' (first | ((with_reducible refine Todo.to ?_); (repeat (simp only [↓rP,rT,rU,zc,dval,dBin,dInt,dUn,zg,zb,retV,DR.val,fzV,fz1,zi,alive,freezeAt,Nat.reduceEqDiff,↓reduceIte,reduceCtorEq,d',gN,oR_k,zl5,c,ht,z8,zb6,zbx ]))) | ((with_reducible refine And.intro ?_ ?_); · first | (trivial) | (omega) | ((simp; done))) | fail))
     all_goals exact za1 (zk7 _ _)
   · rw [c] at st
     simp only [↓reduceIte] at st
     rw [show prQ s = (⟨(rqV s 2).getD [],(tyQ (rqS s 2)).1⟩,(tyQ (rqS s 2)).2) from rfl] at st
     have q1 := zny hn hs
     have hs2 := zfe 2 hs
     generalize rqS s 2 = s2 at q1 hs2 st
     generalize (rqV s 2).getD [] = nm at q1 st
     have q2 := qTy_at hn hs2
     have hs3 := zt9 hs2
     generalize tyQ s2 = p at q2 hs3 st
     obtain ⟨⟨k1,k2,k3⟩,s3⟩ := p
     simp only [cTy] at q2 hs3 st
     have hq : acc.length + 1 ≤ 100000 := by omega
     (have hcondQ := Bool.and_self; refine Todo.of ?_); (repeat' (first | ((with_reducible refine Todo.to ?_); (repeat (simp only [↓rP,rT,rU,zj,zc,dval,dBin,dInt,dUn,zg,zb,fz1,DV.immB,zi,zao,zo,DV.one,alive,fzLL,fzL,bRow,bU,cellsOf,zf,DV.isU,zal,Nat.reduceEqDiff,Nat.reduceAdd,↓reduceIte,reduceCtorEq,Nat.reduceLeDiff,forall_const,d',wk,gN,oR_k,zl5,c,q1,q2,snPrt,z8,zb6,zkj,zbx,zgj,List.append_assoc,hcondQ]))) | ((with_reducible refine And.intro ?_ ?_); · omega) | fail))
     exact ⟨(k + 1,s3,acc ++ [⟨nm,⟨k1,k2,k3⟩⟩],t ++ [⟨.loc,4,[cPrt ⟨nm,⟨k1,k2,k3⟩⟩]⟩]),by simp only [zn,List.map_cons,List.map_nil,zd,Nk.get_nil,Nat.reduceEqDiff,↓reduceIte,Nat.succ_ne_self,reduceCtorEq,Int.natCast_add,Int.natCast_one,List.length_append,List.length_cons,List.length_nil,Nat.zero_add] <;> rfl,⟨by simp only; omega,by simp only [List.length_append,List.length_cons,List.length_nil]; omega,hs3,st⟩,by simp only; omega⟩
 · have d' : decide ((k : Int) < N) = false := decide_eq_false d
   have st := zqw (by omega) hg
   subst st
   have ht : List.take acc.length (acc.map cPrt) = acc.map cPrt := List.take_of_length_le (by simp)
   (refine Todo.of ?_); (repeat' (first | ((with_reducible refine Todo.to ?_); (repeat (simp only [↓rP,rT,rU,zc,dval,dBin,dInt,retV,DR.val,fzV,fz1,zi,freezeAt,Nat.reduceEqDiff,↓reduceIte,reduceCtorEq,d',ht,z8,zb6,zbx ]))) | ((with_reducible refine And.intro ?_ ?_); · first | (trivial) | (omega) | ((simp; done))) | fail))
   all_goals exact za1 (zk7 _ _)
end Go.Proofs.YtfaailjhioobhaaGreat
set_option linter.all false
set_option maxRecDepth 20000
namespace Go.Proofs.YtfaailjhioobhaaGreat
open Go.Nk
def txQ (r : QS) : List UInt8 × QS := ((rqV r 2).getD [],rqS r 2)
def enQ (r : QS) : En × QS := (⟨(rqV r 2).getD [],(zay txQ (rqS r 2) 1).1⟩,(zay txQ (rqS r 2) 1).2)
theorem enQ_ok {r : QS} (h : okQ r) : okQ (enQ r).2 := zyj (fun _ h => zfe 2 h) (zfe 2 h) 1
theorem snT (l : List (List UInt8)) (x : List UInt8) : sls l ++ [[.str x]] = sls (l ++ [x]) := by simp [sls]
noncomputable def zw6 : List DV → List DObj → Res := zus (fun l => .sl (l.map cEn)) (fun r => zay enQ r 1)
theorem zjy : OkH Tryz.prog 39 zw6 := by
 refine OkH.mkG (ps := []) (hs := [(91,zg3),(94,zqb)]) trivial ⟨zb4,zmx,trivial⟩ zkm (fun x a hp h => by rw [h.1]; rfl) (fun x a hp h h1 => ?_)
 obtain ⟨n,r⟩ := x
 obtain ⟨rfl,hh⟩ := h
 have hr : okQ r := h1
 simp only at hh ⊢
 have hn := (List.getElem?_eq_some_iff.1 hh).1
 have es : (⟨za 0 [.ptr n 1 0 0],hp⟩ : DS) = ⟨za 0 [.ptr n 1 0 0],one hp n (oR r) ++ []⟩ := by rw [List.append_nil,zeh hh]
 rw [es]
 have q0 := zc0 hn hr 1
 obtain ⟨n0,n1,-⟩ := zfw r (z := 1) (.inl rfl)
 generalize hG : zay enQ r 1 = G
 unfold zay at hG
 have hr' := zb3 (szN 1) hr
 generalize qS r (szN 1) = r1 at q0 hG hr'
 generalize zax r 1 = N at q0 n0 n1 hG
 clear hr hh
 
 (refine Todo.of ?_); (repeat' (first | ((with_reducible refine Todo.to ?_); (repeat (simp only [↓rP,rT,rU,zc,dval,za,fzLL,Nat.reduceAdd,↓reduceIte,reduceCtorEq,forall_const,zfb,q0,z8,List.append_assoc,Nat.add_zero ])))))
 refine zaa (fun x : Nat × QS × List En × List DObj => ⟨[(0,.ptr n 1 0 0),(3,.own hp.length x.2.2.1.length 0 x.2.2.1.length),(4,.int .i64 N),(5,.int .i64 x.1)],one hp n (oR x.2.1) ++ (⟨.imm,2,x.2.2.1.map cEn⟩ :: x.2.2.2)⟩) (fun x => x.1 ≤ N.toNat ∧ x.2.2.1.length = x.1 ∧ okQ x.2.1 ∧ goQ enQ (N.toNat - x.1) x.2.1 x.2.2.1 = G) (fun x => N.toNat - x.1) (0,r1,[],[]) trivial (by simp only [zn,List.map_cons,List.map_nil,zd,Nk.get_nil,Nat.reduceEqDiff,↓reduceIte,reduceCtorEq,List.length_nil] <;> rfl) ⟨Nat.zero_le _,rfl,hr',hG⟩ fun x hx => ?_
 obtain ⟨k,s,acc,t⟩ := x
 obtain ⟨hk,hl,hs,hg⟩ := hx
 simp only at hk hl hs hg ⊢
 have gN : ∀ o t,(one hp n o ++ t)[n]? = some o := fun o t => zd9 hn
 by_cases d : (k : Int) < N
 · have wk := zci (k := k) (n := N.toNat) (by omega) (by omega)
   have hkN : k < N.toNat := by omega
   have d' : decide ((k : Int) < N) = true := decide_eq_true d
   have st := zlv hkN hg
   cases c : s.2.isSome
   · rw [c] at st
     simp only [Bool.false_eq_true,↓reduceIte] at st
     subst st
     have ht : List.take acc.length (acc.map cEn) = acc.map cEn := List.take_of_length_le (by simp)
     (refine Todo.of ?_); (repeat' (first | ((with_reducible refine Todo.to ?_); (repeat (simp only [↓rP,rT,rU,zc,dval,dBin,dInt,dUn,zg,zb,retV,DR.val,fzV,fz1,zi,alive,freezeAt,Nat.reduceEqDiff,↓reduceIte,reduceCtorEq,d',gN,oR_k,zl5,c,ht,z8,zb6,zbx ]))) | ((with_reducible refine And.intro ?_ ?_); · first | (trivial) | (omega) | ((simp; done))) | fail))
     all_goals exact za1 (zk7 _ _)
   · rw [c] at st
     simp only [↓reduceIte] at st
     rw [show enQ s = (⟨(rqV s 2).getD [],(zay txQ (rqS s 2) 1).1⟩,(zay txQ (rqS s 2) 1).2) from rfl] at st
     have q1 := zny hn hs
     have hs2 := zfe 2 hs
     generalize rqS s 2 = s2 at q1 hs2 st
     generalize (rqV s 2).getD [] = nm at q1 st
     have q2 := zc0 hn hs2 1
     have hs3 := zb3 (szN 1) hs2
     obtain ⟨m0,m1,-⟩ := zfw s2 (z := 1) (.inl rfl)
     generalize hW : zay txQ s2 1 = W at st
     unfold zay at hW
     generalize qS s2 (szN 1) = s3 at q2 hs3 hW
     generalize zax s2 1 = M at q2 m0 m1 hW
     have hq : acc.length + 1 ≤ 100000 := by omega
     (refine Todo.of ?_); (repeat' (first | ((with_reducible refine Todo.to ?_); (repeat (simp only [↓rP,rT,rU,zj,zc,dval,dBin,dInt,dUn,zg,zb,zo,DV.one,alive,cellsOf,zf,DV.isU,Nat.reduceEqDiff,Nat.reduceAdd,↓reduceIte,reduceCtorEq,Nat.reduceLeDiff,forall_const,d',gN,oR_k,zl5,c,q1,z8,zkj,zgj,List.append_assoc ])))))
     refine za9 ?_
     (refine Todo.of ?_); (repeat' (first | ((with_reducible refine Todo.to ?_); (repeat (simp only [↓rP,rT,rU,zc,dval,↓reduceIte,reduceCtorEq,q2,z8,zkj,zgj,List.append_assoc ])))))
     refine zaa (fun x : Nat × QS × List (List UInt8) => ⟨[(0,.ptr n 1 0 0),(3,.own hp.length acc.length 0 acc.length),(4,.int .i64 N),(5,.int .i64 k),(6,.ptr (hp.length + (t.length + 1)) 1 0 0),(7,.int .i64 M),(8,.int .i64 x.1)],one hp n (oR x.2.1) ++ (⟨.imm,2,acc.map cEn⟩ :: (t ++ [⟨.loc,2,[[.str nm,.own (hp.length + (t.length + 1 + 1)) x.2.2.length 0 x.2.2.length]]⟩,⟨.imm,1,sls x.2.2⟩]))⟩) (fun x => x.1 ≤ M.toNat ∧ x.2.2.length = x.1 ∧ okQ x.2.1 ∧ goQ txQ (M.toNat - x.1) x.2.1 x.2.2 = W) (fun x => M.toNat - x.1) (0,s3,[]) trivial (by simp only [zn,List.map_cons,List.map_nil,zd,Nk.get_nil,Nat.reduceEqDiff,↓reduceIte,Nat.succ_ne_self,reduceCtorEq,List.length_nil] <;> rfl) ⟨Nat.zero_le _,rfl,hs3,hW⟩ fun x hx => ?_
     obtain ⟨j,u,ct⟩ := x
     obtain ⟨hj,hcl,hu,hgu⟩ := hx
     simp only at hj hcl hu hgu ⊢
     have hsl : (sls ct).length = ct.length := zek ct
     have ht : List.take ct.length (sls ct) = sls ct := List.take_of_length_le (by rw [hsl]; exact Nat.le_refl _)
     have eo : ∀ o o' t,Only (some n) (one hp n o ++ t) (one hp n o' ++ t) := fun _ _ _ => zxl
     have n1 : ¬ hp.length + (t.length + 1) = n := by omega
     have n2 : ¬ n = hp.length + (t.length + 1) := by omega
     by_cases e : (j : Int) < M
     · have wj := zci (k := j) (n := M.toNat) (by omega) (by omega)
       have hjM : j < M.toNat := by omega
       have e' : decide ((j : Int) < M) = true := decide_eq_true e
       have sj := zlv hjM hgu
       cases cu : u.2.isSome
       · rw [cu] at sj
         simp only [Bool.false_eq_true,↓reduceIte] at sj
         subst sj
         (have hcondQ := Bool.and_self; refine Todo.of ?_); (repeat' (first | ((with_reducible refine Todo.to ?_); (repeat (simp only [↓rP,rT,rU,zc,dval,dBin,dInt,dUn,zg,zb,fzV,fz1,DV.immB,zi,zao,alive,freezeAt,fzLL,fzL,bRow,bU,cellsOf,DV.isU,zal,Nat.reduceEqDiff,Nat.reduceAdd,↓reduceIte,reduceCtorEq,Nat.reduceLeDiff,forall_const,e',wk,gN,oR_k,zl5,cu,ht,hsl,snEn,zb6,zkj,zwm,zbx,zie,hcondQ]))) | ((with_reducible refine And.intro ?_ ?_); · omega) | fail))
         exact ⟨(k + 1,u,acc ++ [⟨nm,ct⟩],t ++ [⟨.loc,2,[[.str nm,.own (hp.length + (t.length + 1 + 1)) ct.length 0 ct.length]]⟩,⟨.frz,1,sls ct⟩]),by simp only [zn,List.map_cons,List.map_nil,zd,Nk.get_nil,Nat.reduceEqDiff,↓reduceIte,Nat.succ_ne_self,reduceCtorEq,Int.natCast_add,Int.natCast_one,List.length_append,List.length_cons,List.length_nil,Nat.zero_add] <;> rfl,⟨by simp only; omega,by simp only [List.length_append,List.length_cons,List.length_nil]; omega,hu,st⟩,by simp only; omega⟩
       · rw [cu] at sj
         simp only [↓reduceIte] at sj
         rw [show txQ u = ((rqV u 2).getD [],rqS u 2) from rfl] at sj
         have q3 := zny hn hu
         have hu2 := zfe 2 hu
         generalize rqS u 2 = u2 at q3 hu2 sj
         generalize (rqV u 2).getD [] = v at q3 sj
         have hq2 : ct.length + 1 ≤ 100000 := by omega
         (have hcondQ := Bool.and_self; refine Todo.of ?_); (repeat' (first | ((with_reducible refine Todo.to ?_); (repeat (simp only [↓rP,rT,rU,zpa,sepB,hdl,zc,dval,dBin,dInt,dUn,zg,zb,fz1,DV.immB,zi,zao,zo,DV.one,alive,fzLL,fzL,bRow,bU,cellsOf,zf,DV.isU,zal,Nat.reduceEqDiff,Nat.reduceAdd,↓reduceIte,reduceCtorEq,Nat.reduceLeDiff,forall_const,e',wj,gN,oR_k,zl5,cu,q3,eo,n1,hsl,snT,zkj,zwm,zgj,zie,hcondQ]))) | ((with_reducible refine And.intro ?_ ?_); · omega) | fail))
         exact ⟨(j + 1,u2,ct ++ [v]),by simp only [zn,List.map_cons,List.map_nil,zd,Nk.get_nil,Nat.reduceEqDiff,↓reduceIte,Nat.succ_ne_self,reduceCtorEq,Int.natCast_add,Int.natCast_one,List.length_append,List.length_cons,List.length_nil,Nat.zero_add] <;> rfl,⟨by simp only; omega,by simp only [List.length_append,List.length_cons,List.length_nil]; omega,hu2,sj⟩,by simp only; omega⟩
     · have e' : decide ((j : Int) < M) = false := decide_eq_false e
       have sj := zqw (by omega) hgu
       subst sj
       (have hcondQ := Bool.and_self; refine Todo.of ?_); (repeat' (first | ((with_reducible refine Todo.to ?_); (repeat (simp only [↓rP,rT,rU,zc,dval,dBin,dInt,zg,zb,fzV,fz1,DV.immB,zi,zao,freezeAt,fzLL,fzL,bRow,bU,cellsOf,DV.isU,zal,Nat.reduceEqDiff,Nat.reduceAdd,↓reduceIte,reduceCtorEq,Nat.reduceLeDiff,forall_const,e',wk,ht,hsl,snEn,zb6,zkj,zwm,zbx,zie,hcondQ]))) | ((with_reducible refine And.intro ?_ ?_); · omega) | fail))
       exact ⟨(k + 1,u,acc ++ [⟨nm,ct⟩],t ++ [⟨.loc,2,[[.str nm,.own (hp.length + (t.length + 1 + 1)) ct.length 0 ct.length]]⟩,⟨.frz,1,sls ct⟩]),by simp only [zn,List.map_cons,List.map_nil,zd,Nk.get_nil,Nat.reduceEqDiff,↓reduceIte,Nat.succ_ne_self,reduceCtorEq,Int.natCast_add,Int.natCast_one,List.length_append,List.length_cons,List.length_nil,Nat.zero_add] <;> rfl,⟨by simp only; omega,by simp only [List.length_append,List.length_cons,List.length_nil]; omega,hu,st⟩,by simp only; omega⟩
 · have d' : decide ((k : Int) < N) = false := decide_eq_false d
   have st := zqw (by omega) hg
   subst st
   have ht : List.take acc.length (acc.map cEn) = acc.map cEn := List.take_of_length_le (by simp)
   (refine Todo.of ?_); (repeat' (first | ((with_reducible refine Todo.to ?_); (repeat (simp only [↓rP,rT,rU,zc,dval,dBin,dInt,retV,DR.val,fzV,fz1,zi,freezeAt,Nat.reduceEqDiff,↓reduceIte,reduceCtorEq,d',ht,z8,zb6,zbx ]))) | ((with_reducible refine And.intro ?_ ?_); · first | (trivial) | (omega) | ((simp; done))) | fail))
   all_goals exact za1 (zk7 _ _)
end Go.Proofs.YtfaailjhioobhaaGreat
set_option linter.all false
set_option maxRecDepth 20000
namespace Go.Proofs.YtfaailjhioobhaaGreat
open Go.Nk
def inQ (r : QS) : Int × QS := (zm4 r,zef r)
def slQ (r : QS) : Slt × QS := (⟨(rqV r 2).getD [],(tyQ (rqS r 2)).1,0,(zay inQ (tyQ (rqS r 2)).2 1).1⟩,(zay inQ (tyQ (rqS r 2)).2 1).2)
theorem slQ_ok {r : QS} (h : okQ r) : okQ (slQ r).2 := zyj (fun _ h => zex h) (zt9 (zfe 2 h)) 1
def sumT (l : List Slt) : Int := (l.map fun x => zbh x.ty).sum
theorem z89 (l : List Slt) (x : Slt) : sumT (l ++ [x]) = sumT l + zbh x.ty := by simp [sumT]
theorem sumT_b : ∀ l : List Slt,0 ≤ sumT l ∧ sumT l ≤ 8 * l.length
 | [] => by simp [sumT]
 | x :: l => by
   have h := ztu x.ty
   have ih := sumT_b l
   unfold sumT at ih ⊢
   simp only [List.map_cons,List.sum_cons,List.length_cons]
   omega
theorem z4x (x : Slt) : ∀ (a : Int) (l : List Slt),atF a (l ++ [x]) = atF a l ++ [⟨x.path,x.ty,a + sumT l,x.ini⟩]
 | a,[] => by simp [atF,sumT]
 | a,s :: r => by
   simp only [List.cons_append,atF,z4x x (a + zbh s.ty) r]
   unfold sumT
   simp only [List.map_cons,List.sum_cons]
   rw [Int.add_assoc]
noncomputable def zy1 : List DV → List DObj → Res := zus (fun l => .sl ((atF 0 l).map cSlt)) (fun r => zay slQ r 1)
theorem snS (l : List Slt) (nm : List UInt8) (k1 k2 k3 at_ : Int) (ini : List Int) : l.map cSlt ++ [[.str nm,.int .i64 k1,.int .i64 k2,.int .i64 k3,.int .i64 at_,.sl (ils ini)]] = (l ++ [(⟨nm,⟨k1,k2,k3⟩,at_,ini⟩ : Slt)]).map cSlt := by simp [cSlt]
theorem zj2 : OkH Tryz.prog 41 zy1 := by
 refine OkH.mkG (ps := [(69,zf8)]) (hs := [(91,zg3),(94,zqb),(95,s_qTy),(96,zzc)]) ⟨zof,trivial⟩ ⟨zb4,zmx,zgb,zte,trivial⟩ zk4 (fun x a hp h => by rw [h.1]; rfl) (fun x a hp h h1 => ?_)
 obtain ⟨n,r⟩ := x
 obtain ⟨rfl,hh⟩ := h
 have hr : okQ r := h1
 simp only at hh ⊢
 have hn := (List.getElem?_eq_some_iff.1 hh).1
 have es : (⟨za 0 [.ptr n 1 0 0],hp⟩ : DS) = ⟨za 0 [.ptr n 1 0 0],one hp n (oR r) ++ []⟩ := by rw [List.append_nil,zeh hh]
 rw [es]
 have q0 := zc0 hn hr 1
 obtain ⟨n0,n1,-⟩ := zfw r (z := 1) (.inl rfl)
 generalize hG : zay slQ r 1 = G
 unfold zay at hG
 have hr' := zb3 (szN 1) hr
 generalize qS r (szN 1) = r1 at q0 hG hr'
 generalize zax r 1 = N at q0 n0 n1 hG
 clear hr hh
 
 (refine Todo.of ?_); (repeat' (first | ((with_reducible refine Todo.to ?_); (repeat (simp only [↓rP,rT,rU,zc,dval,za,fzLL,Nat.reduceAdd,↓reduceIte,reduceCtorEq,forall_const,zfl,q0,z8,List.append_assoc,Nat.add_zero ])))))
 refine zaa (fun x : Nat × QS × List Slt × List DObj => ⟨[(0,.ptr n 1 0 0),(3,.own hp.length x.2.2.1.length 0 x.2.2.1.length),(4,.int .i64 N),(5,.int .i64 (sumT x.2.2.1)),(6,.int .i64 x.1)],one hp n (oR x.2.1) ++ (⟨.imm,6,(atF 0 x.2.2.1).map cSlt⟩ :: x.2.2.2)⟩) (fun x => x.1 ≤ N.toNat ∧ x.2.2.1.length = x.1 ∧ okQ x.2.1 ∧ goQ slQ (N.toNat - x.1) x.2.1 x.2.2.1 = G) (fun x => N.toNat - x.1) (0,r1,[],[]) trivial (by simp only [zn,List.map_cons,List.map_nil,zd,Nk.get_nil,Nat.reduceEqDiff,↓reduceIte,reduceCtorEq,List.length_nil,atF,sumT,List.sum_nil] <;> rfl) ⟨Nat.zero_le _,rfl,hr',hG⟩ fun x hx => ?_
 obtain ⟨k,s,acc,t⟩ := x
 obtain ⟨hk,hl,hs,hg⟩ := hx
 simp only at hk hl hs hg ⊢
 have gN : ∀ o t,(one hp n o ++ t)[n]? = some o := fun o t => zd9 hn
 by_cases d : (k : Int) < N
 · have wk := zci (k := k) (n := N.toNat) (by omega) (by omega)
   have hkN : k < N.toNat := by omega
   have d' : decide ((k : Int) < N) = true := decide_eq_true d
   have st := zlv hkN hg
   cases c : s.2.isSome
   · rw [c] at st
     simp only [Bool.false_eq_true,↓reduceIte] at st
     subst st
     have ht : List.take acc.length ((atF 0 acc).map cSlt) = (atF 0 acc).map cSlt := List.take_of_length_le (by simp [zhj])
     (refine Todo.of ?_); (repeat' (first | ((with_reducible refine Todo.to ?_); (repeat (simp only [↓rP,rT,rU,zc,dval,dBin,dInt,dUn,zg,zb,retV,DR.val,fzV,fz1,zi,alive,freezeAt,Nat.reduceEqDiff,↓reduceIte,reduceCtorEq,d',gN,oR_k,zl5,c,ht,zhj,Nat.le_refl,z8,zb6,zbx ]))) | ((with_reducible refine And.intro ?_ ?_); · first | (trivial) | ((simp; done))) | fail))
     all_goals exact za1 (zk7 _ _)
   · rw [c] at st
     simp only [↓reduceIte] at st
     rw [show slQ s = (⟨(rqV s 2).getD [],(tyQ (rqS s 2)).1,0,(zay inQ (tyQ (rqS s 2)).2 1).1⟩,(zay inQ (tyQ (rqS s 2)).2 1).2) from rfl] at st
     have q1 := zny hn hs
     have hs2 := zfe 2 hs
     generalize rqS s 2 = s2 at q1 hs2 st
     generalize (rqV s 2).getD [] = nm at q1 st
     have q4 := qTy_at hn hs2
     have hs4 := zt9 hs2
     generalize tyQ s2 = p at q4 hs4 st
     obtain ⟨⟨k1,k2,k3⟩,s4⟩ := p
     simp only [cTy] at q4 hs4 st
     have q2 := zc0 hn hs4 1
     have hs3 := zb3 (szN 1) hs4
     obtain ⟨m0,m1,-⟩ := zfw s4 (z := 1) (.inl rfl)
     generalize hW : zay inQ s4 1 = W at st
     unfold zay at hW
     generalize qS s4 (szN 1) = s3 at q2 hs3 hW
     generalize zax s4 1 = M at q2 m0 m1 hW
     have hAb := sumT_b acc
     have hBl := zhj 0 acc
     have ec := zg9 ⟨k1,k2,k3⟩
     simp only [cTy] at ec
     have hb := ztu ⟨k1,k2,k3⟩
     have hsn : ∀ i,sumT (acc ++ [⟨nm,⟨k1,k2,k3⟩,0,i⟩]) = sumT acc + zbh ⟨k1,k2,k3⟩ := fun i => z89 _ _
     have hfn : ∀ i,atF 0 (acc ++ [⟨nm,⟨k1,k2,k3⟩,0,i⟩]) = atF 0 acc ++ [⟨nm,⟨k1,k2,k3⟩,sumT acc,i⟩] := fun i => by rw [z4x,Int.zero_add]
     generalize zbh ⟨k1,k2,k3⟩ = ce at ec hb hsn
     generalize sumT acc = A at hAb hsn hfn ⊢
     generalize atF 0 acc = B at hBl hfn ⊢
     have wa : IntKind.i64.wrap (A + ce) = A + ce := by rw [zt]; omega
     have hq : acc.length + 1 ≤ 100000 := by omega
     (refine Todo.of ?_); (repeat' (first | ((with_reducible refine Todo.to ?_); (repeat (simp only [↓rP,rT,rU,zj,zc,dval,dBin,dInt,dUn,zg,zb,zo,DV.one,alive,cellsOf,zf,DV.isU,Nat.reduceEqDiff,Nat.reduceAdd,↓reduceIte,reduceCtorEq,Nat.reduceLeDiff,forall_const,d',gN,oR_k,zl5,c,q1,z8,zkj,zgj,List.append_assoc ])))))
     refine za9 ?_
     (refine Todo.of ?_); (repeat' (first | ((with_reducible refine Todo.to ?_); (repeat (simp only [↓rP,rT,rU,zc,dval,zo,DV.one,alive,cellsOf,zf,Nat.reduceEqDiff,Nat.reduceAdd,↓reduceIte,reduceCtorEq,Nat.reduceLeDiff,forall_const,q2,q4,z8,zkj,zgj,List.append_assoc ])))))
     refine zaa (fun x : Nat × QS × List Int => ⟨[(0,.ptr n 1 0 0),(3,.own hp.length acc.length 0 acc.length),(4,.int .i64 N),(5,.int .i64 A),(6,.int .i64 k),(7,.ptr (hp.length + (t.length + 1)) 1 0 0),(8,.int .i64 M),(9,.int .i64 x.1)],one hp n (oR x.2.1) ++ (⟨.imm,6,B.map cSlt⟩ :: (t ++ [⟨.loc,6,[[.str nm,.int .i64 k1,.int .i64 k2,.int .i64 k3,.int .i64 A,.own (hp.length + (t.length + 1 + 1)) x.2.2.length 0 x.2.2.length]]⟩,⟨.imm,1,ils x.2.2⟩]))⟩) (fun x => x.1 ≤ M.toNat ∧ x.2.2.length = x.1 ∧ okQ x.2.1 ∧ goQ inQ (M.toNat - x.1) x.2.1 x.2.2 = W) (fun x => M.toNat - x.1) (0,s3,[]) trivial (by simp only [zn,List.map_cons,List.map_nil,zd,Nk.get_nil,Nat.reduceEqDiff,↓reduceIte,Nat.succ_ne_self,reduceCtorEq,List.length_nil] <;> rfl) ⟨Nat.zero_le _,rfl,hs3,hW⟩ fun x hx => ?_
     obtain ⟨j,u,ct⟩ := x
     obtain ⟨hj,hcl,hu,hgu⟩ := hx
     simp only at hj hcl hu hgu ⊢
     have hsl : (ils ct).length = ct.length := zbq ct
     have ht : List.take ct.length (ils ct) = ils ct := List.take_of_length_le (by rw [hsl]; exact Nat.le_refl _)
     have eo : ∀ o o' t,Only (some n) (one hp n o ++ t) (one hp n o' ++ t) := fun _ _ _ => zxl
     have n1 : ¬ hp.length + (t.length + 1) = n := by omega
     have n2 : ¬ n = hp.length + (t.length + 1) := by omega
     by_cases e : (j : Int) < M
     · have wj := zci (k := j) (n := M.toNat) (by omega) (by omega)
       have hjM : j < M.toNat := by omega
       have e' : decide ((j : Int) < M) = true := decide_eq_true e
       have sj := zlv hjM hgu
       cases cu : u.2.isSome
       · rw [cu] at sj
         simp only [Bool.false_eq_true,↓reduceIte] at sj
         subst sj
         (have hcondQ := Bool.and_self; refine Todo.of ?_); (repeat' (first | ((with_reducible refine Todo.to ?_); (repeat (simp only [↓rP,rT,rU,zc,dval,dBin,dInt,dUn,zg,zb,fzV,fz1,DV.immB,zp,zq,z1,zz,za4,zu,z6,zi,zao,alive,freezeAt,fzLL,fzL,bRow,bU,cellsOf,DV.isU,zal,Nat.reduceEqDiff,Nat.reduceAdd,↓reduceIte,reduceCtorEq,Nat.reduceLeDiff,forall_const,e',wk,gN,oR_k,zl5,cu,ht,hsl,hBl,ec,wa,snS,zb6,zkj,zwm,zbx,zie,hcondQ]))) | ((with_reducible refine And.intro ?_ ?_); · omega) | fail))
         exact ⟨(k + 1,u,acc ++ [⟨nm,⟨k1,k2,k3⟩,0,ct⟩],t ++ [⟨.loc,6,[[.str nm,.int .i64 k1,.int .i64 k2,.int .i64 k3,.int .i64 A,.own (hp.length + (t.length + 1 + 1)) ct.length 0 ct.length]]⟩,⟨.frz,1,ils ct⟩]),by simp only [zn,List.map_cons,List.map_nil,zd,Nk.get_nil,Nat.reduceEqDiff,↓reduceIte,Nat.succ_ne_self,reduceCtorEq,Int.natCast_add,Int.natCast_one,List.length_append,List.length_cons,List.length_nil,Nat.zero_add,hsn,hfn] <;> rfl,⟨by simp only; omega,by simp only [List.length_append,List.length_cons,List.length_nil]; omega,hu,st⟩,by simp only; omega⟩
       · rw [cu] at sj
         simp only [↓reduceIte] at sj
         rw [show inQ u = (zm4 u,zef u) from rfl] at sj
         have q3 := z3s hn hu
         have hu2 := zex hu
         generalize zef u = u2 at q3 hu2 sj
         generalize zm4 u = v at q3 sj
         have hq2 : ct.length + 1 ≤ 100000 := by omega
         (have hcondQ := Bool.and_self; refine Todo.of ?_); (repeat' (first | ((with_reducible refine Todo.to ?_); (repeat (simp only [↓rP,rT,rU,zpa,sepB,hdl,zc,dval,dBin,dInt,dUn,zg,zb,fz1,DV.immB,zi,zao,zo,DV.one,alive,fzLL,fzL,bRow,bU,cellsOf,zf,DV.isU,zal,Nat.reduceEqDiff,Nat.reduceAdd,↓reduceIte,reduceCtorEq,Nat.reduceLeDiff,forall_const,e',wj,gN,oR_k,zl5,cu,q3,eo,n1,hsl,snI,zkj,zwm,zgj,zie,hcondQ]))) | ((with_reducible refine And.intro ?_ ?_); · omega) | fail))
         exact ⟨(j + 1,u2,ct ++ [v]),by simp only [zn,List.map_cons,List.map_nil,zd,Nk.get_nil,Nat.reduceEqDiff,↓reduceIte,Nat.succ_ne_self,reduceCtorEq,Int.natCast_add,Int.natCast_one,List.length_append,List.length_cons,List.length_nil,Nat.zero_add] <;> rfl,⟨by simp only; omega,by simp only [List.length_append,List.length_cons,List.length_nil]; omega,hu2,sj⟩,by simp only; omega⟩
     · have e' : decide ((j : Int) < M) = false := decide_eq_false e
       have sj := zqw (by omega) hgu
       subst sj
       (have hcondQ := Bool.and_self; refine Todo.of ?_); (repeat' (first | ((with_reducible refine Todo.to ?_); (repeat (simp only [↓rP,rT,rU,zc,dval,dBin,dInt,zg,zb,fzV,fz1,DV.immB,zp,zq,z1,zz,za4,zu,z6,zi,zao,alive,freezeAt,fzLL,fzL,bRow,bU,cellsOf,DV.isU,zal,Nat.reduceEqDiff,Nat.reduceAdd,↓reduceIte,reduceCtorEq,Nat.reduceLeDiff,forall_const,e',wk,ht,hsl,hBl,ec,wa,snS,zb6,zkj,zwm,zbx,zie,hcondQ]))) | ((with_reducible refine And.intro ?_ ?_); · omega) | fail))
       exact ⟨(k + 1,u,acc ++ [⟨nm,⟨k1,k2,k3⟩,0,ct⟩],t ++ [⟨.loc,6,[[.str nm,.int .i64 k1,.int .i64 k2,.int .i64 k3,.int .i64 A,.own (hp.length + (t.length + 1 + 1)) ct.length 0 ct.length]]⟩,⟨.frz,1,ils ct⟩]),by simp only [zn,List.map_cons,List.map_nil,zd,Nk.get_nil,Nat.reduceEqDiff,↓reduceIte,Nat.succ_ne_self,reduceCtorEq,Int.natCast_add,Int.natCast_one,List.length_append,List.length_cons,List.length_nil,Nat.zero_add,hsn,hfn] <;> rfl,⟨by simp only; omega,by simp only [List.length_append,List.length_cons,List.length_nil]; omega,hu,st⟩,by simp only; omega⟩
 · have d' : decide ((k : Int) < N) = false := decide_eq_false d
   have st := zqw (by omega) hg
   subst st
   have ht : List.take acc.length ((atF 0 acc).map cSlt) = (atF 0 acc).map cSlt := List.take_of_length_le (by simp [zhj])
   (refine Todo.of ?_); (repeat' (first | ((with_reducible refine Todo.to ?_); (repeat (simp only [↓rP,rT,rU,zc,dval,dBin,dInt,retV,DR.val,fzV,fz1,zi,freezeAt,Nat.reduceEqDiff,↓reduceIte,reduceCtorEq,d',ht,zhj,Nat.le_refl,z8,zb6,zbx ]))) | ((with_reducible refine And.intro ?_ ?_); · first | (trivial) | ((simp; done))) | fail))
   all_goals exact za1 (zk7 _ _)
end Go.Proofs.YtfaailjhioobhaaGreat
set_option linter.all false
set_option maxRecDepth 20000
namespace Go.Proofs.YtfaailjhioobhaaGreat
open Go.Nk
structure SecR where
 f : Bool
 r : QS
 J : List DObj
 P : List (List DV)
 cs : List (List UInt8)
def ptrR (n : Nat) : List DV := [.ptr n 1 0 0]
def secG (n : Nat) : Nat → Int → QS → List DObj → List (List DV) → List (List UInt8) → SecR
 | 0,_,r,J,P,cs => ⟨true,r,J,P,cs⟩
 | k + 1,i,r,J,P,cs =>
   if zax r 1 = i + 1 then
     if (rqS (qS r (szN 1)) 4).2.isSome then secG n k (i + 1) (rqS (qS r (szN 1)) 4) (J ++ [⟨.loc,3,[[bsO (rqV (qS r (szN 1)) 4),.int .i64 0,.bool false]]⟩,⟨.loc,1,[ptrR (n + (J.length + 1 + 1))]⟩]) (P ++ [ptrR (n + (J.length + 1 + 1))]) (cs ++ [(rqV (qS r (szN 1)) 4).getD []])
     else ⟨false,rqS (qS r (szN 1)) 4,J ++ [⟨.loc,3,[[bsO (rqV (qS r (szN 1)) 4),.int .i64 0,.bool false]]⟩,⟨.loc,1,[ptrR (n + (J.length + 1 + 1))]⟩],P ++ [ptrR (n + (J.length + 1 + 1))],cs⟩
   else ⟨false,qS r (szN 1),J,P,cs⟩
def outD (P : List (List DV)) : DObj := if P.length = 0 then ⟨.imm,1,P⟩ else ⟨.loc,1,P⟩
theorem outD_z (P : List (List DV)) : (outD P).z = 1 := by unfold outD; split <;> rfl
theorem ycc (P : List (List DV)) : (outD P).es = P := by unfold outD; split <;> rfl
theorem outD_k (P : List (List DV)) : ((outD P).k = .loc ∨ ((outD P).k = .imm ∧ P = [])) = True := by
 unfold outD
 split
 · rename_i h; exact eq_true (.inr ⟨rfl,List.length_eq_zero_iff.1 h⟩)
 · exact eq_true (.inl rfl)
theorem zzu (P : List (List DV)) (x : List DV) : (⟨.loc,1,P ++ [x]⟩ : DObj) = outD (P ++ [x]) := by unfold outD; simp
def secF (n : Nat) (b : List UInt8) : SecR := secG n 6 0 (b,some 0) [] [] []
def secV (n : Nat) (S : SecR) : DV := .tup [if S.f then .own (n + 1) S.P.length 0 S.P.length else .nil,.bool (S.f && !zky S.r)]
noncomputable def zli : List DV → List DObj → Res := zee (rN eBs) (fun x => (x.2.length ≤ 4294967296,secV x.1 (secF x.1 x.2))) (fun x hp => hp ++ (oR (secF x.1 x.2).r :: outD (secF x.1 x.2).P :: (secF x.1 x.2).J))
theorem zyd (hp : List DObj) (b : List UInt8) : zli [.sl (bsl b)] hp = ⟨b.length ≤ 4294967296,secV hp.length (secF hp.length b),hp ++ (oR (secF hp.length b).r :: outD (secF hp.length b).P :: (secF hp.length b).J)⟩ :=
 za5 (x := (hp.length,b)) (rN_u zfu) ⟨rfl,rfl⟩
section
variable {hp J u : List DObj} {a b c d o' : DObj}
theorem ap_1 : (hp ++ (a :: b :: u))[hp.length + 1]? = some b := by
 rw [List.getElem?_append_right (by simp)]; simp
theorem ap_3 : (hp ++ (a :: b :: (J ++ c :: d :: u)))[hp.length + (J.length + 1 + 1 + 1)]? = some d := by
 rw [List.getElem?_append_right (by omega)]
 have : hp.length + (J.length + 1 + 1 + 1) - hp.length = J.length + 1 + 1 + 1 := by omega
 rw [this]
 simp []
theorem ap_s0 : (hp ++ (a :: u)).set hp.length o' = hp ++ (o' :: u) := by
 rw [List.set_append_right _ _ (Nat.le_refl _)]; simp
theorem ap_s1 : (hp ++ (a :: b :: u)).set (hp.length + 1) o' = hp ++ (a :: o' :: u) := by
 rw [List.set_append_right _ _ (by omega)]; simp
end
theorem ap_num (hp : List DObj) {r : QS} (h : okQ r) (k : Int) (t : List DObj) : zg3 [.ptr hp.length 1 0 0,.int .i64 k] (hp ++ (oR r :: t)) = ⟨True,.int .i64 (zax r k),hp ++ (oR (qS r (szN k)) :: t)⟩ := by
 rw [zk9 zuo,eq_true h,ap_s0]
theorem ap_part (hp : List DObj) {r : QS} (h : okQ r) (t : List DObj) : zxh [.ptr hp.length 1 0 0] (hp ++ (oR r :: t)) = ⟨True,bsO (rqV r 4),hp ++ (oR (rqS r 4) :: t)⟩ := by
 rw [z7j zuo,eq_true h,ap_s0]
theorem z85 {n k : Nat} {r : QS} {J P cs} {G : SecR} (hk : k < 6) (h : secG n (6 - k) k r J P cs = G) :
   if zax r 1 = (k : Int) + 1 then
     if (rqS (qS r (szN 1)) 4).2.isSome then secG n (6 - (k + 1)) ((k + 1 : Nat) : Int) (rqS (qS r (szN 1)) 4) (J ++ [⟨.loc,3,[[bsO (rqV (qS r (szN 1)) 4),.int .i64 0,.bool false]]⟩,⟨.loc,1,[ptrR (n + (J.length + 1 + 1))]⟩]) (P ++ [ptrR (n + (J.length + 1 + 1))]) (cs ++ [(rqV (qS r (szN 1)) 4).getD []]) = G
     else G = ⟨false,rqS (qS r (szN 1)) 4,J ++ [⟨.loc,3,[[bsO (rqV (qS r (szN 1)) 4),.int .i64 0,.bool false]]⟩,⟨.loc,1,[ptrR (n + (J.length + 1 + 1))]⟩],P ++ [ptrR (n + (J.length + 1 + 1))],cs⟩
   else G = ⟨false,qS r (szN 1),J,P,cs⟩ := by
 have e : 6 - k = (6 - (k + 1)) + 1 := by omega
 rw [e] at h
 unfold secG at h
 split
 · rename_i c
   rw [if_pos c] at h
   split
   · rename_i c'; rw [if_pos c'] at h; exact h
   · rename_i c'; rw [if_neg c'] at h; exact h.symm
 · rename_i c; rw [if_neg c] at h; exact h.symm
theorem zj6 : OkH Tryz.prog 38 zli := by
 refine OkH.mkGH (ps := []) (hs := [(90,zi0),(91,zg3),(92,zxh),(93,zq4)]) trivial ⟨zup,zb4,z12,ztp,trivial⟩ zld (fun x a hp h => by rw [h.1]; rfl) (fun w a hp h hp1 => ?_)
 obtain ⟨n,b⟩ := w
 obtain ⟨rfl,hn⟩ := h
 have hp1 : b.length ≤ 4294967296 := hp1
 simp only at hn ⊢
 subst hn
 generalize hG : secF hp.length b = G
 unfold secF at hG
 have h0 : okQ (b,some 0) := ⟨Nat.zero_le _,hp1⟩
 have qF := zww b hp
 
 unfold eBs
 (refine Todo.of ?_); (repeat' (first | ((with_reducible refine Todo.to ?_); (repeat (simp only [↓rP,rT,rU,zc,dval,za,fzLL,↓reduceIte,reduceCtorEq,forall_const,zey,qF,List.append_assoc ])))))
 refine zaa (fun x : Nat × QS × List DObj × List (List DV) × List (List UInt8) => ⟨[(4,.ptr hp.length 1 0 0),(5,.own (hp.length + 1) x.2.2.2.1.length 0 x.2.2.2.1.length),(6,.int .i64 (x.1 + 1))],hp ++ (oR x.2.1 :: outD x.2.2.2.1 :: x.2.2.1)⟩) (fun x => x.1 ≤ 6 ∧ x.2.2.2.1.length = x.1 ∧ okQ x.2.1 ∧ secG hp.length (6 - x.1) x.1 x.2.1 x.2.2.1 x.2.2.2.1 x.2.2.2.2 = G) (fun x => 6 - x.1) (0,(b,some 0),[],[],[]) trivial (by simp only [zn,List.map_cons,List.map_nil,zd,Nk.get_nil,Nat.reduceEqDiff,↓reduceIte,List.length_nil] <;> rfl) ⟨Nat.zero_le _,rfl,h0,hG⟩ fun x hx => ?_
 obtain ⟨k,r,J,P,cs⟩ := x
 obtain ⟨hk,hl,hs,hg⟩ := hx
 simp only at hk hl hs hg ⊢
 by_cases d : k < 6
 · have d' : decide ((k : Int) + 1 ≤ 6) = true := decide_eq_true (by omega)
   have wk : IntKind.i64.wrap ((k : Int) + 1 + 1) = ((k + 1 : Nat) : Int) + 1 := by rw [zt] <;> omega
   have st := z85 d hg
   have q0 := ap_num hp hs 1
   have hs1 := zb3 (szN 1) hs
   generalize qS r (szN 1) = r1 at q0 hs1 st
   have q1 := ap_part hp hs1
   have hs2 := zfe 4 hs1
   generalize rqS r1 4 = r2 at q1 hs2 st
   generalize rqV r1 4 = v at q1 st
   have q2 := yac v
   have hq : P.length + 1 ≤ 100 := by omega
   by_cases c : zax r 1 = (k : Int) + 1
   · rw [if_pos c] at st
     have c1 : (zax r 1 != (k : Int) + 1) = false := by rw [c]; simp
     cases c2 : r2.2.isSome
     · rw [c2] at st
       simp only [Bool.false_eq_true,↓reduceIte] at st
       subst st
       (have hcondQ := Bool.and_self; refine Todo.of ?_); (repeat' (first | ((with_reducible refine Todo.to ?_); (repeat (simp only [↓rP,rT,rU,zc,dval,dBin,dInt,zg,zb,retV,retL,DR.val,DV.one,alive,bRow,bU,cellsOf,DV.isU,zal,Nat.reduceEqDiff,↓reduceIte,reduceCtorEq,Nat.reduceLeDiff,forall_const,d',c1,c2,q0,q1,q2,zuo,ap_1,ap_3,ap_s1,outD_z,ycc,outD_k,zzu,oR_k,zl5,List.append_assoc,hcondQ]))) | ((with_reducible refine And.intro ?_ ?_); · first | (trivial) | (omega)) | fail))
       all_goals simp [ptrR]
     · rw [c2] at st
       simp only [↓reduceIte] at st
       (have hcondQ := Bool.and_self; refine Todo.of ?_); (repeat' (first | ((with_reducible refine Todo.to ?_); (repeat (simp only [↓rP,rT,rU,zc,dval,dBin,dInt,zg,zb,DV.one,alive,bRow,bU,cellsOf,DV.isU,zal,Nat.reduceEqDiff,↓reduceIte,reduceCtorEq,Nat.reduceLeDiff,forall_const,d',wk,c1,c2,q0,q1,q2,zuo,ap_1,ap_3,ap_s1,outD_z,ycc,outD_k,zzu,oR_k,zl5,List.append_assoc,hcondQ]))) | ((with_reducible refine And.intro ?_ ?_); · omega) | fail))
       exact ⟨(k + 1,r2,J ++ [⟨.loc,3,[[bsO v,.int .i64 0,.bool false]]⟩,⟨.loc,1,[ptrR (hp.length + (J.length + 1 + 1))]⟩],P ++ [ptrR (hp.length + (J.length + 1 + 1))],cs ++ [v.getD []]),by simp only [zn,List.map_cons,List.map_nil,zd,Nk.get_nil,Nat.reduceEqDiff,↓reduceIte,Int.natCast_add,Int.natCast_one,List.length_append,List.length_cons,List.length_nil,Nat.zero_add,ptrR] <;> rfl,⟨by simp only; omega,by simp only [List.length_append,List.length_cons,List.length_nil]; omega,hs2,st⟩,by simp only; omega⟩
   · rw [if_neg c] at st
     subst st
     have c1 : (zax r 1 != (k : Int) + 1) = true := by simpa using c
     (refine Todo.of ?_); (repeat' (first | ((with_reducible refine Todo.to ?_); (repeat (simp only [↓rP,rT,rU,zc,dval,dBin,dInt,retV,retL,DR.val,Nat.reduceEqDiff,↓reduceIte,d',c1,q0 ])))))
     all_goals simp [secV]
 · obtain rfl : k = 6 := by omega
   have d' : decide (((6 : Nat) : Int) + 1 ≤ 6) = false := by decide
   unfold secG at hg
   simp only [Nat.sub_self] at hg
   subst hg
   have qM : zq4 [.ptr hp.length 1 0 0] (hp ++ (oR r :: outD P :: J)) = ⟨True,.bool (zky r),hp ++ (oR r :: outD P :: J)⟩ := zv2 zuo
   (refine Todo.of ?_); (repeat' (first | ((with_reducible refine Todo.to ?_); (repeat (simp only [↓rP,rT,rU,zc,dval,dBin,dInt,dUn,retV,retL,DR.val,Nat.reduceEqDiff,↓reduceIte,Nat.reduceSub,Int.reduceLE,Int.reduceAdd,qM ])))))
   all_goals simp [secV]
end Go.Proofs.YtfaailjhioobhaaGreat
set_option linter.all false
set_option maxRecDepth 20000
namespace Go.Proofs.YtfaailjhioobhaaGreat
open Go.Nk
def pos (r : QS) : Nat := r.2.getD r.1.length
theorem zv9 {r : QS} (h : okQ r) : pos r ≤ r.1.length := by
 obtain ⟨l,_ | a⟩ := r
 · exact Nat.le_refl _
 · exact h.1
theorem z47 {r : QS} (h : okQ r) (k : Int) : ((qV r k).getD []).length + pos r ≤ pos (qS r k) ∧ (qS r k).1 = r.1 := by
 have hp := zv9 h
 obtain ⟨l,_ | a⟩ := r
 · exact ⟨by simp [qV,qS,nxt,pos],rfl⟩
 · refine ⟨?_,rfl⟩
   unfold pos qV qS nxt at *
   simp only [Option.getD_some] at *
   split
   · simp only [Option.getD_some,List.length_drop,List.length_take]; omega
   · simp only [Option.getD_none,List.length_nil]; omega
theorem zs2 {r : QS} (h : okQ r) (k : Int) : ((rqV r k).getD []).length + pos r ≤ pos (rqS r k) ∧ (rqS r k).1 = r.1 := by
 have h1 := z47 h (szN k)
 have h2 := z47 (zb3 (szN k) h) (zax r k)
 unfold rqV rqS
 exact ⟨by omega,h2.2.trans h1.2⟩
theorem z49 {r : QS} (h : okQ r) (k : Int) : pos r ≤ pos (qS r k) := by have := (z47 h k).1; omega
theorem int_pos {r : QS} (h : okQ r) : pos r ≤ pos (zef r) ∧ (zef r).1 = r.1 := by
 have hp := zv9 h
 have h1 := zs2 h 1
 have hn : pos r ≤ pos ((r.1,none) : QS) := hp
 unfold zef
 split
 · split
   · exact ⟨hn,rfl⟩
   · exact ⟨by omega,h1.2⟩
 · exact ⟨hn,rfl⟩
structure Szd {α : Type} (f : QS → α × QS) (sz : α → Nat) (C : Nat) : Prop where
 ok : ∀ r,okQ r → okQ (f r).2
 le : ∀ r,okQ r → sz (f r).1 + pos r ≤ pos (f r).2 + C ∧ (f r).2.1 = r.1
theorem goQ_sz {α : Type} {f : QS → α × QS} {sz : α → Nat} {C : Nat} (hf : Szd f sz C) : ∀ (k : Nat) (r : QS) (acc : List α),okQ r → ((goQ f k r acc).1.map sz).sum + pos r ≤ (acc.map sz).sum + pos (goQ f k r acc).2 + k * C ∧ (goQ f k r acc).2.1 = r.1 ∧ (goQ f k r acc).1.length ≤ acc.length + k
 | 0,r,acc,_ => ⟨by simp [goQ],rfl,Nat.le_refl _⟩
 | k + 1,r,acc,h => by
   unfold goQ
   split
   · have ih := goQ_sz hf k (f r).2 (acc ++ [(f r).1]) (hf.ok r h)
     obtain ⟨l1,l2⟩ := hf.le r h
     simp only [List.map_append,List.map_cons,List.map_nil,List.sum_append,List.sum_cons,List.sum_nil,List.length_append,List.length_cons,List.length_nil] at ih
     rw [Nat.succ_mul]
     exact ⟨by omega,ih.2.1.trans l2,by omega⟩
   · exact ⟨Nat.le_add_right _ _,rfl,Nat.le_add_right _ _⟩
theorem zf3 {α : Type} {f : QS → α × QS} {sz : α → Nat} {C : Nat} (hf : Szd f sz C) {r : QS} (h : okQ r) {z : Int} (hz : z = 1 ∨ z = 2) :
   ((zay f r z).1.map sz).sum + pos r ≤ pos (zay f r z).2 + (zax r z).toNat * C ∧ (zay f r z).2.1 = r.1 ∧ (zay f r z).1.length ≤ (zax r z).toNat ∧ okQ (zay f r z).2 := by
 have h1 := goQ_sz hf (zax r z).toNat (qS r (szN z)) [] (zb3 _ h)
 have h2 := z47 h (szN z)
 have h3 := zyj hf.ok h z
 simp only [List.map_nil,List.sum_nil,List.length_nil,Nat.zero_add] at h1
 unfold zay at *
 exact ⟨by omega,h1.2.1.trans h2.2,h1.2.2,h3⟩
theorem z9k {α : Type} {f : QS → α × QS} {P : α → Prop} (hok : ∀ r,okQ r → okQ (f r).2) (hf : ∀ r,okQ r → P (f r).1) : ∀ (k : Nat) (r : QS) (acc : List α),okQ r → (∀ x ∈ acc,P x) → ∀ x ∈ (goQ f k r acc).1,P x
 | 0,_,_,_,h => h
 | k + 1,r,acc,hr,h => by
   unfold goQ
   split
   · refine z9k hok hf k _ _ (hok r hr) fun x hx => ?_
     rcases List.mem_append.1 hx with hx | hx
     · exact h x hx
     · rw [List.mem_singleton.1 hx]; exact hf r hr
   · exact h
theorem zh5 {α : Type} {f : QS → α × QS} {P : α → Prop} (hok : ∀ r,okQ r → okQ (f r).2) (hf : ∀ r,okQ r → P (f r).1) {r : QS} (h : okQ r) (z : Int) : ∀ x ∈ (zay f r z).1,P x := z9k hok hf _ _ _ (zb3 _ h) (fun x hx => by cases hx)
theorem zo1 (r : QS) {z : Int} (hz : z = 1 ∨ z = 2) : zbd (zax r z) := by have := zfw r hz; unfold zbd; omega
theorem z81 (r : QS) : zbd (zm4 r) := by
 unfold zm4
 split
 · rename_i b _
   split
   · unfold zbd; omega
   · rename_i hb
     have := (z33 b (by simpa using hb)).2
     exact this
 · unfold zbd; omega
theorem z77 (r : QS) : ok3 (tyQ r).1 := ⟨zo1 _ (.inl rfl),zo1 _ (.inl rfl),zo1 _ (.inl rfl)⟩
theorem ty_pos {r : QS} (h : okQ r) : pos r ≤ pos (tyQ r).2 ∧ (tyQ r).2.1 = r.1 := by
 have h1 := z49 h (szN 1)
 have k1 := zb3 (szN 1) h
 have h2 := z49 k1 (szN 1)
 have h3 := z49 (zb3 (szN 1) k1) (szN 1)
 exact ⟨by unfold tyQ; simp only; omega,rfl⟩
theorem sz_tx : Szd txQ (fun c => c.length + 4) 4 := ⟨fun _ h => zfe 2 h,fun r h => by have := zs2 h 2; exact ⟨by unfold txQ; simp only; omega,this.2⟩⟩
theorem zre (r : QS) : (zax r 1).toNat ≤ 255 := by have := (zfw r (z := 1) (.inl rfl)).2.2 rfl; omega
theorem sz_en : Szd enQ szEn 1028 := ⟨fun _ h => enQ_ok h,fun r h => by
 have h1 := zs2 h 2
 have h2 := zf3 sz_tx (zfe 2 h) (z := 1) (.inl rfl)
 have h3 := zre (rqS r 2)
 unfold enQ szEn szCt
 simp only
 exact ⟨by omega,h2.2.1.trans h1.2⟩⟩
theorem sz_pr : Szd prQ zvp 16 := ⟨fun _ h => z9i h,fun r h => by
 have h1 := zs2 h 2
 have h2 := ty_pos (zfe 2 h)
 unfold prQ zvp
 simp only
 exact ⟨by omega,h2.2.trans h1.2⟩⟩
theorem sz_in : Szd inQ (fun _ => 0) 0 := ⟨fun _ h => zex h,fun r h => by have := int_pos h; exact ⟨by unfold inQ; simp only; omega,this.2⟩⟩
theorem sz_ki : Szd kiQ (fun _ => 0) 0 := ⟨fun _ h => zb3 _ h,fun r h => by have := z49 h (szN 2); exact ⟨by unfold kiQ; simp only; omega,rfl⟩⟩
theorem sum_zero {α : Type} (l : List α) : (l.map fun _ => 0).sum = 0 := by induction l with
 | nil => rfl
 | cons x l ih => simpa using ih
theorem sz_sl : Szd slQ zo0 3100 := ⟨fun _ h => slQ_ok h,fun r h => by
 have h1 := zs2 h 2
 have k1 := zfe 2 h
 have h2 := ty_pos k1
 have h3 := zf3 sz_in (zt9 k1) (z := 1) (.inl rfl)
 have h4 := zre (tyQ (rqS r 2)).2
 rw [sum_zero] at h3
 unfold slQ zo0
 simp only
 exact ⟨by omega,h3.2.1.trans (h2.2.trans h1.2)⟩⟩
def imgQ (cs : List (List UInt8)) : Img := ⟨(zay enQ (cs.getD 0 [],some 0) 1).1,(zay prQ (cs.getD 1 [],some 0) 1).1,(zay prQ (cs.getD 2 [],some 0) 1).1,atF 0 (zay slQ (cs.getD 3 [],some 0) 1).1,(zay kiQ (cs.getD 4 [],some 0) 2).1,(getI (cs.getD 5 [])).getD []⟩
theorem zvj {c : List UInt8} (h : c.length ≤ 131072) : okQ (c,some 0) := ⟨Nat.zero_le _,by unfold ok62; simp only; omega⟩
theorem z4h : ∀ (a : Int) (l : List Slt),((atF a l).map zo0).sum = (l.map zo0).sum
 | _,[] => rfl
 | a,s :: r => by simp only [atF,List.map_cons,List.sum_cons,z4h _ r]; rfl
theorem zxq {P : Slt → Prop} (hP : ∀ s a,P s → P ⟨s.path,s.ty,a,s.ini⟩) : ∀ (a : Int) (l : List Slt),(∀ s ∈ l,P s) → ∀ s ∈ atF a l,P s
 | _,[],_ => fun s hs => by cases hs
 | a,s :: r,h => fun x hx => by
   simp only [atF,List.mem_cons] at hx
   rcases hx with rfl | hx
   · exact hP s a (h s (by simp))
   · exact zxq hP _ r (fun y hy => h y (by simp [hy])) x hx
theorem z9e (c : List UInt8) : okIns ((getI c).getD []) := by
 cases h : getI c with
 | none => exact ⟨by simp,fun x hx => by simp at hx⟩
 | some m =>
   obtain ⟨_,h2,h3⟩ := zhq h
   exact ⟨by simp only [Option.getD_some]; omega,h2⟩
theorem z5l {cs : List (List UInt8)} (h : ∀ i,(cs.getD i []).length ≤ 131072) : okEnc (imgQ cs) := by
 have h0 := zvj (h 0)
 have h1 := zvj (h 1)
 have h2 := zvj (h 2)
 have h3 := zvj (h 3)
 have h4 := zvj (h 4)
 have b0 := h 0
 have b1 := h 1
 have b2 := h 2
 have b3 := h 3
 have e0 := zf3 sz_en h0 (z := 1) (.inl rfl)
 have e1 := zf3 sz_pr h1 (z := 1) (.inl rfl)
 have e2 := zf3 sz_pr h2 (z := 1) (.inl rfl)
 have e3 := zf3 sz_sl h3 (z := 1) (.inl rfl)
 have e4 := zf3 sz_ki h4 (z := 2) (.inr rfl)
 have p0 := zv9 e0.2.2.2
 have p1 := zv9 e1.2.2.2
 have p2 := zv9 e2.2.2.2
 have p3 := zv9 e3.2.2.2
 rw [e0.2.1] at p0
 rw [e1.2.1] at p1
 rw [e2.2.1] at p2
 rw [e3.2.1] at p3
 have n0 := zre (cs.getD 0 [],some 0)
 have n1 := zre (cs.getD 1 [],some 0)
 have n2 := zre (cs.getD 2 [],some 0)
 have n3 := zre (cs.getD 3 [],some 0)
 have n4 := (zfw (cs.getD 4 [],some 0) (z := 2) (.inr rfl)).2.1
 have s0 : zow (imgQ cs).en ≤ 500000 := by unfold zow imgQ; simp only at *; omega
 have s1 : zea (imgQ cs).ins ≤ 200000 := by unfold zea imgQ; simp only at *; omega
 have s2 : zea (imgQ cs).outs ≤ 200000 := by unfold zea imgQ; simp only at *; omega
 have s3 : zhe (imgQ cs).slots ≤ 1000000 := by unfold zhe imgQ; simp only [z4h] at *; omega
 have l0 : (imgQ cs).en.length ≤ 255 := by unfold imgQ; simp only; omega
 have l1 : (imgQ cs).ins.length ≤ 255 := by unfold imgQ; simp only; omega
 have l2 : (imgQ cs).outs.length ≤ 255 := by unfold imgQ; simp only; omega
 have l3 : (imgQ cs).slots.length ≤ 255 := by unfold imgQ; simp only [zhj]; omega
 have l4 : (imgQ cs).loc.length ≤ 65535 := by unfold imgQ; simp only; omega
 refine ⟨⟨⟨by omega,by omega,?_⟩,⟨by omega,by omega,?_⟩,⟨by omega,by omega,?_⟩,⟨by omega,by omega,?_⟩,⟨by omega,by omega,?_⟩,z9e _⟩,by omega⟩
 · refine zh5 (fun r h => enQ_ok h) (fun r h => ?_) h0 1
   have := (zf3 sz_tx (zfe 2 h) (z := 1) (.inl rfl)).2.2.1
   have h3 := zre (rqS r 2)
   unfold enQ; simp only; omega
 · exact zh5 (fun r h => z9i h) (fun r h => z77 _) h1 1
 · exact zh5 (fun r h => z9i h) (fun r h => z77 _) h2 1
 · refine zxq (P := fun s => ok3 s.ty ∧ s.ini.length ≤ 1000000000 ∧ ∀ n ∈ s.ini,zbd n) (fun s a h => h) _ _ (zh5 (fun r h => slQ_ok h) (fun r h => ⟨z77 _,?_,?_⟩) h3 1)
   · have := (zf3 sz_in (zt9 (zfe 2 h)) (z := 1) (.inl rfl)).2.2.1
     have h3 := zre (tyQ (rqS r 2)).2
     unfold slQ; simp only; omega
   · exact zh5 (fun r h => zex h) (fun r h => z81 r) (zt9 (zfe 2 h)) 1
 · exact zh5 (fun r h => zb3 _ h) (fun r h => zo1 r (.inr rfl)) h4 2
end Go.Proofs.YtfaailjhioobhaaGreat
set_option linter.all false
set_option maxRecDepth 20000
namespace Go.Proofs.YtfaailjhioobhaaGreat
open Go.Nk
def zml : Nat → List (List UInt8) → List DObj
 | _,[] => []
 | m,c :: cs => oR (c,some 0) :: ⟨.loc,1,[ptrR m]⟩ :: zml (m + 2) cs
def z2w : Nat → List (List UInt8) → List (List DV)
 | _,[] => []
 | m,_ :: cs => ptrR m :: z2w (m + 2) cs
theorem ztr (c : List UInt8) : ∀ (m : Nat) (cs : List (List UInt8)),zml m (cs ++ [c]) = zml m cs ++ [oR (c,some 0),⟨.loc,1,[ptrR (m + 2 * cs.length)]⟩]
 | m,[] => rfl
 | m,d :: cs => by
   simp only [List.cons_append,zml,ztr c (m + 2) cs,List.length_cons]
   have : m + 2 + 2 * cs.length = m + 2 * (cs.length + 1) := by omega
   rw [this]
theorem zwg (c : List UInt8) : ∀ (m : Nat) (cs : List (List UInt8)),z2w m (cs ++ [c]) = z2w m cs ++ [ptrR (m + 2 * cs.length)]
 | m,[] => rfl
 | m,d :: cs => by
   simp only [List.cons_append,z2w,zwg c (m + 2) cs,List.length_cons]
   have : m + 2 + 2 * cs.length = m + 2 * (cs.length + 1) := by omega
   rw [this]
theorem zv8 : ∀ (m : Nat) (cs : List (List UInt8)),(zml m cs).length = 2 * cs.length
 | _,[] => rfl
 | m,d :: cs => by simp only [zml,List.length_cons,zv8]; omega
theorem znh : ∀ (k : Nat) (i : Int) (acc : List (List UInt8)),(zdr k i none acc).2 = false
 | 0,_,_ => rfl
 | k + 1,i,acc => by
   unfold zdr
   split
   · exact znh k _ _
   · rfl
theorem zw4 (n : Nat) (l : List UInt8) : ∀ (k : Nat) (i : Int) (a : Nat) (cs : List (List UInt8)),
   (let S := secG n k i (l,some a) (zml (n + 2) cs) (z2w (n + 2) cs) cs
    let T := zdr k i (some (l,a)) cs
    (S.f && !zky S.r) = T.2 ∧ (S.f = true → S.J = zml (n + 2) S.cs ∧ S.P = z2w (n + 2) S.cs ∧ S.cs = T.1))
 | 0,i,a,cs => ⟨rfl,fun _ => ⟨rfl,rfl,rfl⟩⟩
 | k + 1,i,a,cs => by
   simp only
   have hto : (some (l,a) : RS) = toP l (some a) := rfl
   have e0 : numV (some (l,a)) 1 = zax (l,some a) 1 := by rw [hto,zf5]
   unfold secG zdr
   rw [e0]
   by_cases c : zax (l,some a) 1 = i + 1
   · rw [if_pos c,if_pos c]
     have e1 : z9 (some (l,a)) (szN 1) = toP l (qS (l,some a) (szN 1)).2 := by rw [hto,zdz]
     have e1' : qS (l,some a) (szN 1) = (l,(qS (l,some a) (szN 1)).2) := rfl
     rw [e1,e1']
     generalize (qS (l,some a) (szN 1)).2 = s1
     have e2 : rawS (toP l s1) 4 = toP l (rqS (l,s1) 4).2 := z2h l s1 4
     have e3 : zj5 (toP l s1) = (rqV (l,s1) 4).getD [] := by unfold zj5; rw [zxa]
     rw [e2,e3,rqS_1]
     cases h : (rqS (l,s1) 4).2 with
     | none =>
       simp only [Option.isSome_none,Bool.false_eq_true,↓reduceIte,toP,Option.map_none]
       exact ⟨by simp [znh],fun h => by cases h⟩
     | some b =>
       simp only [Option.isSome_some,↓reduceIte]
       have hv : ∃ v,rqV (l,s1) 4 = some v := by
         unfold rqV qV rqS qS at *
         simp only at h ⊢
         rcases z48 (l := l) (s := (nxt l s1 (szN 4)).2) (k := zax (l,s1) 4) with h' | ⟨v,_,h',_⟩
         · rw [h'.2] at h; cases h
         · exact ⟨v,h'⟩
       obtain ⟨v,hv⟩ := hv
       rw [hv]
       have ih := zw4 n l k (i + 1) b (cs ++ [v])
       rw [ztr,zwg] at ih
       have hl : n + ((zml (n + 2) cs).length + 1 + 1) = n + 2 + 2 * cs.length := by rw [zv8]; omega
       rw [hl]
       exact ih
   · rw [if_neg c,if_neg c]
     exact ⟨rfl,fun h => by cases h⟩
theorem z7k (n : Nat) (b : List UInt8) : ((secF n b).f && !zky (secF n b).r) = (zbr b).2 ∧ ((secF n b).f = true → (secF n b).J = zml (n + 2) (secF n b).cs ∧ (secF n b).P = z2w (n + 2) (secF n b).cs ∧ (secF n b).cs = (zbr b).1) := zw4 n b 6 0 0 []
def yal (body b : List UInt8) : Img × Int := if (zbr (body.drop 4)).2 then (if (getI ((zbr (body.drop 4)).1.getD 5 [])).isSome && encF (imgQ (zbr (body.drop 4)).1) == some b then (imgQ (zbr (body.drop 4)).1,0) else (img0,11)) else (img0,11)
def decR (b : List UInt8) : Img × Int := if 131072 < b.length then (img0,3) else if b.length < 8 ∨ ¬ b.take 4 = zx then (img0,11) else if (zfh b).isSome then yal (zfq b) b else (img0,12)
abbrev rdQ (c : List UInt8) : DObj := ⟨.loc,3,[[.sl (bsl c),.int .i64 0,.bool false]]⟩
theorem z97 (r : QS) : (∀ x ∈ (oR r).es,∀ d ∈ x,d.immB = true) = True := eq_true (by rw [zl5]; simp [DV.immB])
theorem zzb (c : List UInt8) : (∀ r ∈ [[DV.sl (bsl c),.int .i64 0,.bool false]],∀ d ∈ r,d.immB = true) = True := eq_true (by simp [DV.immB])
theorem z0j (r : QS) : (oR r).es.length = 1 := by rw [zl5]; rfl
noncomputable def z3l : List DV → Prop × DV := zdu eBs fun b => (b.length ≤ 131072 ∨ 131072 < b.length,.tup [.agg (cImg (decR b).1),.int .i64 (decR b).2])
theorem z8z (b : List UInt8) : z3l [.sl (bsl b)] = (b.length ≤ 131072 ∨ 131072 < b.length,.tup [.agg (cImg (decR b).1),.int .i64 (decR b).2]) := zan zfu _ b
theorem zmf : OkP Tryz.prog 13 z3l := by
 refine OkP.mk1 (ps := [(37,zx8),(43,zby zqc),(10,z6w),(11,zgo zvi)]) (hs := [(38,zli),(39,zw6),(40,zsj),(41,zy1),(42,zu5)]) ⟨zn9,zqg,zl9,zg1,trivial⟩ ⟨zj6,zjy,zj7,zj2,zji,trivial⟩ zmv fun b h => ?_
 have h : b.length ≤ 131072 ∨ 131072 < b.length := h
 
 unfold eBs
 by_cases c1 : 131072 < b.length
 · have e : decR b = (img0,3) := if_pos c1
   rw [e]
   have c1' : decide ((131072 : Int) < (b.length : Int)) = true := decide_eq_true (by omega)
   (refine Todo.of ?_); (repeat' (first | ((with_reducible refine Todo.to ?_); (repeat (simp only [↓rP,rT,rU,zj,zc,dval,dBin,dInt,zg,zb,retV,retL,DR.val,fzT,fzVs,fzV,fz1,DV.immB,zo,DV.one,fzL,cellsOf,zf,Nat.reduceEqDiff,Nat.reduceAdd,↓reduceIte,reduceCtorEq,Nat.reduceLeDiff,forall_const,zac,c1' ]))) | ((with_reducible refine And.intro ?_ ?_); · trivial) | fail))
   all_goals rfl
 by_cases c2 : b.length < 8
 · have e : decR b = (img0,11) := (if_neg c1).trans (if_pos (.inl c2))
   rw [e]
   (have hcondQ := Bool.and_self; refine Todo.of ?_); (repeat' (first | ((with_reducible refine Todo.to ?_); (repeat (simp only [↓rP,rT,rU,zj,zc,dval,dBin,dInt,zg,zb,retV,retL,DR.val,fzT,fzVs,fzV,fz1,DV.immB,zo,DV.one,fzL,cellsOf,zf,Nat.reduceEqDiff,Nat.reduceAdd,↓reduceIte,reduceCtorEq,Nat.reduceLeDiff,forall_const,zac,hcondQ]))) | ((with_reducible refine And.intro ?_ ?_); · trivial) | (((first | ((with_reducible refine zw (t := ?_) ?_ (fun hcQ => ?_) (fun hcQ => ?_)); rotate_left; · (rfl)) | ((with_reducible refine z7 (t := ?_) ?_ (fun hcQ => ?_) (fun hcQ => ?_)); rotate_left; · (rfl))) <;> (have hn := hcQ; have hcondQ := hcQ) <;> (try simp only [decide_eq_true_eq,decide_eq_false_iff_not] at hn) <;> (try (exfalso; omega)) <;> (refine Todo.of ?_))) | fail))
   all_goals rfl
 have s1 := fun hp => zn1 (hp := hp) (l := b) (b := 4) (by decide) (by omega)
 have e4 : (4 : Int).toNat = 4 := rfl
 rw [e4] at s1
 have b2 := z11 (b.take 4)
 by_cases c3 : b.take 4 = zx
 rotate_left
 · have e : decR b = (img0,11) := (if_neg c1).trans (if_pos (.inr c3))
   rw [e]
   have c3' : (b.take 4 == [78,79,82,49]) = false := beq_eq_false_iff_ne.2 c3
   have c3'' : (b.take 4 = [78,79,82,49]) = False := eq_false c3
   (have hcondQ := Bool.and_self; refine Todo.of ?_); (repeat' (first | ((with_reducible refine Todo.to ?_); (repeat (simp only [↓rP,rT,rU,zj,zc,dval,dBin,dInt,dStr,zg,zb,retV,retL,DR.val,fzT,fzVs,fzV,fz1,DV.immB,zi,zo,DV.one,fzL,cellsOf,zf,Nat.reduceEqDiff,Nat.reduceAdd,↓reduceIte,reduceCtorEq,Nat.reduceLeDiff,forall_const,zac,s1,ziz,c3',hcondQ]))) | ((with_reducible refine And.intro ?_ ?_); · trivial) | (((first | ((with_reducible refine zw (t := ?_) ?_ (fun hcQ => ?_) (fun hcQ => ?_)); rotate_left; · (rfl)) | ((with_reducible refine z7 (t := ?_) ?_ (fun hcQ => ?_) (fun hcQ => ?_)); rotate_left; · (rfl))) <;> (have hn := hcQ; have hcondQ := hcQ) <;> (try simp only [decide_eq_true_eq,decide_eq_false_iff_not] at hn) <;> (try (exfalso; omega)) <;> (refine Todo.of ?_))) | fail))
   all_goals rfl
 have c3' : (b.take 4 == [78,79,82,49]) = true := beq_iff_eq.2 c3
 have h4 : decR b = if (zfh b).isSome then yal (zfq b) b else (img0,12) := (if_neg c1).trans (if_neg (by simp [c2,c3]))
 have o1 : zx8 [.sl (bsl b)] = (b.length ≤ 100000000,.tup [.sl (bsl (zfq b)),.bool (zfh b).isSome]) := z6g b
 rw [eq_true (show b.length ≤ 100000000 by omega)] at o1
 cases c4 : (zfh b).isSome
 · rw [c4] at h4 o1
   rw [h4]
   (have hcondQ := Bool.and_self; refine Todo.of ?_); (repeat' (first | ((with_reducible refine Todo.to ?_); (repeat (simp only [↓rP,rT,rU,zj,zc,dval,dBin,dInt,dStr,dUn,zg,zb,retV,retL,DR.val,fzT,fzVs,fzV,fz1,DV.immB,zp,zq,z1,zz,zu,z6,zi,zo,DV.one,fzL,cellsOf,zf,Nat.reduceEqDiff,Nat.reduceAdd,↓reduceIte,reduceCtorEq,Nat.reduceLeDiff,Nat.reduceLT,forall_const,zac,s1,ziz,c3',o1 ,hcondQ]))) | ((with_reducible refine And.intro ?_ ?_); · trivial) | (((first | ((with_reducible refine zw (t := ?_) ?_ (fun hcQ => ?_) (fun hcQ => ?_)); rotate_left; · (rfl)) | ((with_reducible refine z7 (t := ?_) ?_ (fun hcQ => ?_) (fun hcQ => ?_)); rotate_left; · (rfl))) <;> (have hn := hcQ; have hcondQ := hcQ) <;> (try simp only [decide_eq_true_eq,decide_eq_false_iff_not] at hn) <;> (try (exfalso; omega)) <;> (refine Todo.of ?_))) | fail))
   all_goals rfl
 rw [c4,if_pos rfl] at h4
 rw [c4] at o1
 rw [h4]
 have hb : (zfq b).length + 4 = b.length := by
   obtain ⟨x,hx⟩ := Option.isSome_iff_exists.1 c4
   have := zz1 hx
   simp only [zfq,hx,Option.getD_some]; exact this
 generalize zfq b = body at o1 hb
 have s2 := fun hp => zo9 (hp := hp) (l := body) (b := 4) (by decide) (by omega)
 rw [e4] at s2
 have hd : (body.drop 4).length ≤ 131072 := by simp only [List.length_drop]; omega
 have s3 := zyd [⟨.loc,6,[nil6]⟩] (body.drop 4)
 rw [eq_true (show (body.drop 4).length ≤ 4294967296 by omega)] at s3
 obtain ⟨pl1,pl2⟩ := z0a (body.drop 4)
 have e1 : ([⟨.loc,6,[nil6]⟩] : List DObj).length = 1 := rfl
 rw [e1] at s3
 obtain ⟨r1,r2⟩ := z7k 1 (body.drop 4)
 unfold yal
 generalize zbr (body.drop 4) = P at r1 r2 pl1 pl2
 obtain ⟨l,f⟩ := P
 generalize secF 1 (body.drop 4) = S at s3 r1 r2
 obtain ⟨Sf,Sr,SJ,SP,Scs⟩ := S
 simp only [secV] at s3 r1 r2 pl1 pl2
 rw [r1] at s3
 cases f
 · simp only [Bool.false_eq_true,↓reduceIte]
   generalize (if Sf = true then DV.own (1 + 1) SP.length 0 SP.length else DV.nil) = V0 at s3
   (have hcondQ := Bool.and_self; refine Todo.of ?_); (repeat' (first | ((with_reducible refine Todo.to ?_); (repeat (simp only [↓rP,rT,rU,zj,zc,dval,dBin,dInt,dStr,dUn,zg,zb,retV,retL,DR.val,fzT,fzVs,fzV,fz1,DV.immB,zp,zq,z1,zz,zu,z6,zi,zo,DV.one,fzL,cellsOf,zf,Nat.reduceEqDiff,Nat.reduceAdd,↓reduceIte,reduceCtorEq,Nat.reduceLeDiff,Nat.reduceLT,forall_const,zac,s1,ziz,c3',o1,s2,s3 ,hcondQ]))) | ((with_reducible refine And.intro ?_ ?_); · trivial) | (((first | ((with_reducible refine zw (t := ?_) ?_ (fun hcQ => ?_) (fun hcQ => ?_)); rotate_left; · (rfl)) | ((with_reducible refine z7 (t := ?_) ?_ (fun hcQ => ?_) (fun hcQ => ?_)); rotate_left; · (rfl))) <;> (have hn := hcQ; have hcondQ := hcQ) <;> (try simp only [decide_eq_true_eq,decide_eq_false_iff_not] at hn) <;> (try (exfalso; omega)) <;> (refine Todo.of ?_))) | fail))
   all_goals rfl
 · have hSf : Sf = true := by cases Sf <;> simp_all
   subst hSf
   obtain ⟨rfl,rfl,rfl⟩ := r2 rfl
   have hl := pl2 rfl
   obtain ⟨d0,d1,d2,d3,d4,d5,rfl⟩ : ∃ c0 c1 c2 c3 c4 c5,Scs = [c0,c1,c2,c3,c4,c5] := by
     rcases Scs with _ | ⟨c0,_ | ⟨c1,_ | ⟨c2,_ | ⟨c3,_ | ⟨c4,_ | ⟨c5,_ | ⟨c6,l⟩⟩⟩⟩⟩⟩⟩ <;> simp at hl
     exact ⟨c0,c1,c2,c3,c4,c5,rfl⟩
   have hl2 : ∀ c ∈ [d0,d1,d2,d3,d4,d5],c.length ≤ 131072 := fun c hc => by have := pl1 c hc; omega
   have henc := z5l (cs := [d0,d1,d2,d3,d4,d5]) (fun i => by
     rcases i with _ | _ | _ | _ | _ | _ | i
     · exact hl2 d0 (by simp)
     · exact hl2 d1 (by simp)
     · exact hl2 d2 (by simp)
     · exact hl2 d3 (by simp)
     · exact hl2 d4 (by simp)
     · exact hl2 d5 (by simp)
     · exact Nat.zero_le _)
   have hi : imgQ [d0,d1,d2,d3,d4,d5] = ⟨(zay enQ (d0,some 0) 1).1,(zay prQ (d1,some 0) 1).1,(zay prQ (d2,some 0) 1).1,atF 0 (zay slQ (d3,some 0) 1).1,(zay kiQ (d4,some 0) 2).1,(getI d5).getD []⟩ := rfl
   have h0 := zvj (hl2 d0 (by simp))
   have h1 := zvj (hl2 d1 (by simp))
   have h2 := zvj (hl2 d2 (by simp))
   have h3 := zvj (hl2 d3 (by simp))
   have h4' := zvj (hl2 d4 (by simp))
   have h5 := hl2 d5 (by simp)
   have sE := z32 (imgQ [d0,d1,d2,d3,d4,d5])
   rw [eq_true henc] at sE
   rw [hi] at sE ⊢
   clear hi henc
   have gR : ∀ k (o : DObj),(List.replicate k (⟨.dead,0,[]⟩ : DObj) ++ [o])[k]? = some o := fun k o => by rw [List.getElem?_append_right (by simp)]; simp
   have gS : ∀ k (o o' : DObj),one (List.replicate k (⟨.dead,0,[]⟩ : DObj) ++ [o]) k o' = List.replicate k (⟨.dead,0,[]⟩ : DObj) ++ [o'] := fun k o o' => by unfold one; rw [List.set_append_right _ _ (by simp)]; simp
   have f0 : zw6 [.ptr 3 1 0 0] (List.replicate 3 ⟨.dead,0,[]⟩ ++ [rdQ d0]) = ⟨True,.sl ((zay enQ (d0,some 0) 1).1.map cEn),List.replicate 3 ⟨.dead,0,[]⟩ ++ [oR (zay enQ (d0,some 0) 1).2]⟩ := by
     refine (zia (r := (d0,some 0)) (gR 3 _)).trans ?_
     rw [gS,eq_true h0]
   have f1 : zsj [.ptr 5 1 0 0] (List.replicate 5 ⟨.dead,0,[]⟩ ++ [rdQ d1]) = ⟨True,.sl ((zay prQ (d1,some 0) 1).1.map cPrt),List.replicate 5 ⟨.dead,0,[]⟩ ++ [oR (zay prQ (d1,some 0) 1).2]⟩ := by
     refine (zia (r := (d1,some 0)) (gR 5 _)).trans ?_
     rw [gS,eq_true h1]
   have f2 : zsj [.ptr 7 1 0 0] (List.replicate 7 ⟨.dead,0,[]⟩ ++ [rdQ d2]) = ⟨True,.sl ((zay prQ (d2,some 0) 1).1.map cPrt),List.replicate 7 ⟨.dead,0,[]⟩ ++ [oR (zay prQ (d2,some 0) 1).2]⟩ := by
     refine (zia (r := (d2,some 0)) (gR 7 _)).trans ?_
     rw [gS,eq_true h2]
   have f3 : zy1 [.ptr 9 1 0 0] (List.replicate 9 ⟨.dead,0,[]⟩ ++ [rdQ d3]) = ⟨True,.sl ((atF 0 (zay slQ (d3,some 0) 1).1).map cSlt),List.replicate 9 ⟨.dead,0,[]⟩ ++ [oR (zay slQ (d3,some 0) 1).2]⟩ := by
     refine (zia (r := (d3,some 0)) (gR 9 _)).trans ?_
     rw [gS,eq_true h3]
   have f4 : zu5 [.ptr 11 1 0 0] (List.replicate 11 ⟨.dead,0,[]⟩ ++ [rdQ d4]) = ⟨True,.sl (ils (zay kiQ (d4,some 0) 2).1),List.replicate 11 ⟨.dead,0,[]⟩ ++ [oR (zay kiQ (d4,some 0) 2).2]⟩ := by
     refine (zia (r := (d4,some 0)) (gR 11 _)).trans ?_
     rw [gS,eq_true h4']
   have eg : zby zqc [.sl (bsl d5)] = (True,.tup [.sl (((getI d5).getD []).map cIn),.bool (getI d5).isSome]) := by
     have := zk6 zqc d5
     rw [zqc,eq_true h5] at this
     exact this
   simp only [List.getD_cons_succ,List.getD_cons_zero] at sE ⊢
   generalize zay enQ (d0,some 0) 1 = r0 at f0 sE ⊢
   generalize zay prQ (d1,some 0) 1 = r1' at f1 sE ⊢
   generalize zay prQ (d2,some 0) 1 = r2' at f2 sE ⊢
   generalize zay slQ (d3,some 0) 1 = r3' at f3 sE ⊢
   generalize zay kiQ (d4,some 0) 2 = r4' at f4 sE ⊢
   generalize getI d5 = gi at eg sE ⊢
   obtain ⟨v0,t0⟩ := r0
   obtain ⟨v1,t1⟩ := r1'
   obtain ⟨v2,t2⟩ := r2'
   obtain ⟨v3,t3⟩ := r3'
   obtain ⟨v4,t4⟩ := r4'
   simp only [] at f0 f1 f2 f3 f4 sE ⊢
   have oH : ∀ (k : Nat),([DV.ptr k 1 0 0].all (zz3 k)) = true := fun k => by simp [zz3,zvu,zv6,DV.immB]
   have iR : ∀ x,immR (.sl x) = true := fun _ => rfl
   have s3' : zli [.sl (bsl (body.drop 4))] [⟨.loc,6,[nil6]⟩] = ⟨True,.tup [.own 2 6 0 6,.bool true],[⟨.loc,6,[nil6]⟩,oR Sr,⟨.loc,1,[[.ptr 3 1 0 0],[.ptr 5 1 0 0],[.ptr 7 1 0 0],[.ptr 9 1 0 0],[.ptr 11 1 0 0],[.ptr 13 1 0 0]]⟩,rdQ d0,⟨.loc,1,[[.ptr 3 1 0 0]]⟩,rdQ d1,⟨.loc,1,[[.ptr 5 1 0 0]]⟩,rdQ d2,⟨.loc,1,[[.ptr 7 1 0 0]]⟩,rdQ d3,⟨.loc,1,[[.ptr 9 1 0 0]]⟩,rdQ d4,⟨.loc,1,[[.ptr 11 1 0 0]]⟩,rdQ d5,⟨.loc,1,[[.ptr 13 1 0 0]]⟩]⟩ := s3
   clear s3
   generalize hX : (⟨v0,v1,v2,atF 0 v3,v4,gi.getD []⟩ : Img) = X at sE ⊢
   have sE' : z6w [.agg [.sl (v0.map cEn),.sl (v1.map cPrt),.sl (v2.map cPrt),.sl ((atF 0 v3).map cSlt),.sl (ils v4),.sl ((gi.getD []).map cIn)]] = (True,putV (encF X)) := by rw [← sE,← hX]
   clear sE
   have hlen : ∀ y,encF X = some y → y.length ≤ 131072 := fun y hy => by
     unfold encF at hy
     split at hy
     · cases hy
     · split at hy
       · rename_i hh; injection hy with hy; rw [← hy]; exact hh
       · cases hy
   generalize encF X = o at sE' hlen ⊢
   cases gi with
   | none =>
     simp only [Option.isSome_none,Bool.false_and,Bool.false_eq_true,↓reduceIte,Option.getD_none,List.map_nil] at eg sE' ⊢
     cases o with
     | none =>
       simp only [putV,Option.isSome_none,Option.getD_none] at sE'
       (have hcondQ := Bool.and_self; refine Todo.of ?_); (repeat' (first | ((with_reducible refine Todo.to ?_); (repeat (simp only [↓rP,rT,rU,zj,zpa,hdl,zc,dval,dBin,dInt,dStr,dUn,zg,zb,retV,retL,DR.val,fzT,fzVs,fzV,fz1,DV.immB,zp,zq,z1,zz,za4,zu,z6,zi,zo,DV.one,alive,fzL,cellsOf,zf,DV.isU,Nat.reduceEqDiff,Nat.reduceAdd,↓reduceIte,reduceCtorEq,Int.reduceToNat,Int.reduceLE,Int.reduceLT,Nat.reduceLeDiff,Nat.reduceLT,forall_const,zac,s1,e4,ziz,c3',o1,s2,s3',viaZ,notZ,hdl,gR,f0,f1,f2,f3,f4,oR_k,z0j,↓z97,↓zzb,oH,iR,eg,sE' ,hcondQ]))) | ((with_reducible refine And.intro ?_ ?_); · trivial) | (((first | ((with_reducible refine zw (t := ?_) ?_ (fun hcQ => ?_) (fun hcQ => ?_)); rotate_left; · (rfl)) | ((with_reducible refine z7 (t := ?_) ?_ (fun hcQ => ?_) (fun hcQ => ?_)); rotate_left; · (rfl))) <;> (have hn := hcQ; have hcondQ := hcQ) <;> (try simp only [decide_eq_true_eq,decide_eq_false_iff_not] at hn) <;> (try (exfalso; omega)) <;> (refine Todo.of ?_))) | fail))
       refine ⟨z4 (n := 3) (o := oR t0),z4 (n := 5) (o := oR t1),z4 (n := 7) (o := oR t2),z4 (n := 9) (o := oR t3),?_⟩; first | exact z4 (n := 11) (o := oR t4) | exact ⟨z4 (n := 11) (o := oR t4),rfl⟩ | exact ⟨z4 (n := 11) (o := oR t4),rfl,rfl,rfl,rfl,rfl,rfl⟩
     | some y =>
       simp only [putV,Option.isSome_some,Option.getD_some] at sE'
       (have hcondQ := Bool.and_self; refine Todo.of ?_); (repeat' (first | ((with_reducible refine Todo.to ?_); (repeat (simp only [↓rP,rT,rU,zj,zpa,hdl,zc,dval,dBin,dInt,dStr,dUn,zg,zb,retV,retL,DR.val,fzT,fzVs,fzV,fz1,DV.immB,zp,zq,z1,zz,za4,zu,z6,zi,zo,DV.one,alive,fzL,cellsOf,zf,DV.isU,Nat.reduceEqDiff,Nat.reduceAdd,↓reduceIte,reduceCtorEq,Int.reduceToNat,Int.reduceLE,Int.reduceLT,Nat.reduceLeDiff,Nat.reduceLT,forall_const,zac,s1,e4,ziz,c3',o1,s2,s3',viaZ,notZ,hdl,gR,f0,f1,f2,f3,f4,oR_k,z0j,↓z97,↓zzb,oH,iR,eg,sE' ,hcondQ]))) | ((with_reducible refine And.intro ?_ ?_); · trivial) | (((first | ((with_reducible refine zw (t := ?_) ?_ (fun hcQ => ?_) (fun hcQ => ?_)); rotate_left; · (rfl)) | ((with_reducible refine z7 (t := ?_) ?_ (fun hcQ => ?_) (fun hcQ => ?_)); rotate_left; · (rfl))) <;> (have hn := hcQ; have hcondQ := hcQ) <;> (try simp only [decide_eq_true_eq,decide_eq_false_iff_not] at hn) <;> (try (exfalso; omega)) <;> (refine Todo.of ?_))) | fail))
       refine ⟨z4 (n := 3) (o := oR t0),z4 (n := 5) (o := oR t1),z4 (n := 7) (o := oR t2),z4 (n := 9) (o := oR t3),?_⟩; first | exact z4 (n := 11) (o := oR t4) | exact ⟨z4 (n := 11) (o := oR t4),rfl⟩ | exact ⟨z4 (n := 11) (o := oR t4),rfl,rfl,rfl,rfl,rfl,rfl⟩
   | some m =>
     simp only [Option.isSome_some,Bool.true_and,Option.getD_some] at eg sE' hX ⊢
     cases o with
     | none =>
       simp only [putV,Option.isSome_none,Option.getD_none] at sE'
       have hnb : ((none : Option (List UInt8)) == some b) = false := rfl
       rw [hnb]
       simp only [Bool.false_eq_true,↓reduceIte]
       (have hcondQ := Bool.and_self; refine Todo.of ?_); (repeat' (first | ((with_reducible refine Todo.to ?_); (repeat (simp only [↓rP,rT,rU,zj,zpa,hdl,zc,dval,dBin,dInt,dStr,dUn,zg,zb,retV,retL,DR.val,fzT,fzVs,fzV,fz1,DV.immB,zp,zq,z1,zz,za4,zu,z6,zi,zo,DV.one,alive,fzL,cellsOf,zf,DV.isU,Nat.reduceEqDiff,Nat.reduceAdd,↓reduceIte,reduceCtorEq,Int.reduceToNat,Int.reduceLE,Int.reduceLT,Nat.reduceLeDiff,Nat.reduceLT,forall_const,zac,s1,e4,ziz,c3',o1,s2,s3',viaZ,notZ,hdl,gR,f0,f1,f2,f3,f4,oR_k,z0j,↓z97,↓zzb,oH,iR,eg,sE' ,hcondQ]))) | ((with_reducible refine And.intro ?_ ?_); · trivial) | (((first | ((with_reducible refine zw (t := ?_) ?_ (fun hcQ => ?_) (fun hcQ => ?_)); rotate_left; · (rfl)) | ((with_reducible refine z7 (t := ?_) ?_ (fun hcQ => ?_) (fun hcQ => ?_)); rotate_left; · (rfl))) <;> (have hn := hcQ; have hcondQ := hcQ) <;> (try simp only [decide_eq_true_eq,decide_eq_false_iff_not] at hn) <;> (try (exfalso; omega)) <;> (refine Todo.of ?_))) | fail))
       refine ⟨z4 (n := 3) (o := oR t0),z4 (n := 5) (o := oR t1),z4 (n := 7) (o := oR t2),z4 (n := 9) (o := oR t3),?_⟩; first | exact z4 (n := 11) (o := oR t4) | exact ⟨z4 (n := 11) (o := oR t4),rfl⟩ | exact ⟨z4 (n := 11) (o := oR t4),rfl,rfl,rfl,rfl,rfl,rfl⟩
     | some y =>
       simp only [putV,Option.isSome_some,Option.getD_some] at sE'
       have hy := hlen y rfl
       have sS : zgo zvi [.sl (bsl y),.sl (bsl b)] = (True,.bool (y == b)) := by
         refine (zuj zvi y b).trans ?_
         unfold zvi
         rw [eq_true (show zez y ∧ zez b by unfold zez; omega)]
       have hs : (some y == some b) = (y == b) := rfl
       rw [hs]
       cases hyb : (y == b)
       · rw [hyb] at sS
         simp only [Bool.false_eq_true,↓reduceIte]
         (have hcondQ := Bool.and_self; refine Todo.of ?_); (repeat' (first | ((with_reducible refine Todo.to ?_); (repeat (simp only [↓rP,rT,rU,zj,zpa,hdl,zc,dval,dBin,dInt,dStr,dUn,zg,zb,retV,retL,DR.val,fzT,fzVs,fzV,fz1,DV.immB,zp,zq,z1,zz,za4,zu,z6,zi,zo,DV.one,alive,fzL,cellsOf,zf,DV.isU,Nat.reduceEqDiff,Nat.reduceAdd,↓reduceIte,reduceCtorEq,Int.reduceToNat,Int.reduceLE,Int.reduceLT,Nat.reduceLeDiff,Nat.reduceLT,forall_const,zac,s1,e4,ziz,c3',o1,s2,s3',viaZ,notZ,hdl,gR,f0,f1,f2,f3,f4,oR_k,z0j,↓z97,↓zzb,oH,iR,eg,sE',sS ,hcondQ]))) | ((with_reducible refine And.intro ?_ ?_); · trivial) | (((first | ((with_reducible refine zw (t := ?_) ?_ (fun hcQ => ?_) (fun hcQ => ?_)); rotate_left; · (rfl)) | ((with_reducible refine z7 (t := ?_) ?_ (fun hcQ => ?_) (fun hcQ => ?_)); rotate_left; · (rfl))) <;> (have hn := hcQ; have hcondQ := hcQ) <;> (try simp only [decide_eq_true_eq,decide_eq_false_iff_not] at hn) <;> (try (exfalso; omega)) <;> (refine Todo.of ?_))) | fail))
         refine ⟨z4 (n := 3) (o := oR t0),z4 (n := 5) (o := oR t1),z4 (n := 7) (o := oR t2),z4 (n := 9) (o := oR t3),?_⟩; first | exact z4 (n := 11) (o := oR t4) | exact ⟨z4 (n := 11) (o := oR t4),rfl⟩ | exact ⟨z4 (n := 11) (o := oR t4),rfl,rfl,rfl,rfl,rfl,rfl⟩
       · rw [hyb] at sS
         simp only [↓reduceIte]
         rw [← hX]
         (have hcondQ := Bool.and_self; refine Todo.of ?_); (repeat' (first | ((with_reducible refine Todo.to ?_); (repeat (simp only [↓rP,rT,rU,zj,zpa,hdl,zc,dval,dBin,dInt,dStr,dUn,zg,zb,retV,retL,DR.val,fzT,fzVs,fzV,fz1,DV.immB,zp,zq,z1,zz,za4,zu,z6,zi,zo,DV.one,alive,fzL,cellsOf,zf,DV.isU,Nat.reduceEqDiff,Nat.reduceAdd,↓reduceIte,reduceCtorEq,Int.reduceToNat,Int.reduceLE,Int.reduceLT,Nat.reduceLeDiff,Nat.reduceLT,forall_const,zac,s1,e4,ziz,c3',o1,s2,s3',viaZ,notZ,hdl,gR,f0,f1,f2,f3,f4,oR_k,z0j,↓z97,↓zzb,oH,iR,eg,sE',sS ,hcondQ]))) | ((with_reducible refine And.intro ?_ ?_); · trivial) | (((first | ((with_reducible refine zw (t := ?_) ?_ (fun hcQ => ?_) (fun hcQ => ?_)); rotate_left; · (rfl)) | ((with_reducible refine z7 (t := ?_) ?_ (fun hcQ => ?_) (fun hcQ => ?_)); rotate_left; · (rfl))) <;> (have hn := hcQ; have hcondQ := hcQ) <;> (try simp only [decide_eq_true_eq,decide_eq_false_iff_not] at hn) <;> (try (exfalso; omega)) <;> (refine Todo.of ?_))) | fail))
         refine ⟨z4 (n := 3) (o := oR t0),z4 (n := 5) (o := oR t1),z4 (n := 7) (o := oR t2),z4 (n := 9) (o := oR t3),?_⟩; first | exact z4 (n := 11) (o := oR t4) | exact ⟨z4 (n := 11) (o := oR t4),rfl⟩ | exact ⟨z4 (n := 11) (o := oR t4),rfl,rfl,rfl,rfl,rfl,rfl⟩
end Go.Proofs.YtfaailjhioobhaaGreat
