/- Names; which enums may be. -/
import Derived.Test.YtjgefhgkinocmaaGreatTyM
import Derived.Test.YtjgefhgkinocmaaGreatNkZ3
set_option linter.all false
set_option maxRecDepth 20000
namespace Go.Proofs.YtjgefhgkinocmaaGreat
open Go.Nk
def inY (c a b : UInt8) : Bool := decide (a.toNat <= c.toNat) && decide (c.toNat <= b.toNat)
noncomputable def s_in : List DV -> Prop × DV := zec eY eY eY fun c a b => (True,.bool (inY c a b))
theorem zrj (c : UInt8) (a : UInt8) (b : UInt8) : s_in [.int .u8 c.toNat,.int .u8 a.toNat,.int .u8 b.toNat] = (True,.bool (inY c a b)) := za2 ya7 ya7 ya7 _ c a b
theorem zjn : OkP Tryz.prog 89 s_in := by
 refine OkP.mk3 (ps := []) (hs := []) trivial trivial zxk fun c a b _ => ?_
 ((have hcondQ := Bool.and_self; refine Todo.of ?_); (repeat' (first | ((with_reducible refine Todo.to ?_); (repeat (simp only [↓rP,rT,rU,zb,dval,dBin,dInt,retV,DR.val,fzT,fzV,fz1,DV.immB,Nat.reduceEqDiff,↓reduceIte,reduceCtorEq,zka,eY,hcondQ]))) | (((((with_reducible refine zl (t := ?_) ?_ (fun hcQ => ?_) (fun hcQ => ?_)); rotate_left; . (rfl))) <;> (have hn := hcQ; have hcondQ := hcQ) <;> (try simp only [decide_eq_true_eq,decide_eq_false_iff_not,Int.ofNat_le] at hn) <;> (refine Todo.of ?_))) | fail)))
 all_goals grind [inY]
def yay (c : UInt8) : Bool := inY c 97 122 || inY c 65 90 || inY c 48 57 || c == 95
def zxt (s : List UInt8) (a b : UInt8) : Bool := decide (1 <= s.length) && decide (s.length <= 12) && inY (s.getD 0 0) a b && s.all yay
noncomputable def z8l : List DV -> Prop × DV := zec eS eY eY fun s a b => (True,.bool (zxt s a b))
theorem z3k (s : List UInt8) (a : UInt8) (b : UInt8) : z8l [.str s,.int .u8 a.toNat,.int .u8 b.toNat] = (True,.bool (zxt s a b)) := za2 zml ya7 ya7 _ s a b
theorem zg2 : OkP Tryz.prog 62 z8l := by
 refine OkP.mk3 (ps := [(89,s_in)]) (hs := []) ⟨zjn,trivial⟩ trivial zql fun s a b _ => ?_
 by_cases q : 1 <= s.length /\ s.length <= 12
 rotate_left
 . have hr : zxt s a b = false := by simp only [zxt]; grind
   have e1 := fun x => zrj x a b
   ((have hcondQ := Bool.and_self; refine Todo.of ?_); (repeat' (first | ((with_reducible refine Todo.to ?_); (repeat (simp only [↓rP,rT,rU,eS,zb,dval,dBin,dInt,retV,DR.val,fzT,fzV,fz1,DV.immB,Nat.reduceEqDiff,↓reduceIte,reduceCtorEq,zc3,eY,hr,hcondQ]))) | (((((with_reducible refine zl (t := ?_) ?_ (fun hcQ => ?_) (fun hcQ => ?_)); rotate_left; . (rfl))) <;> (have hn := hcQ; have hcondQ := hcQ) <;> (try simp only [decide_eq_true_eq,decide_eq_false_iff_not] at hn) <;> (try (exfalso; omega)) <;> (refine Todo.of ?_))) | fail)))
 obtain ⟨q1,q2⟩ := q
 have e0 := zrj (s.getD 0 0) a b
 by_cases q3 : inY (s.getD 0 0) a b = true
 rotate_left
 . have hr : zxt s a b = false := by simp only [zxt]; grind
   ((have hcondQ := Bool.and_self; refine Todo.of ?_); (repeat' (first | ((with_reducible refine Todo.to ?_); (repeat (simp only [↓rP,rT,rU,eS,zb,dval,dBin,dInt,dUn,retV,DR.val,fzT,fzV,fz1,DV.immB,ze,zf,zp,zo,zi,zq,Nat.reduceEqDiff,↓reduceIte,reduceCtorEq,Int.reduceToNat,Int.reduceLE,zc3,eY,hr,e0 ,hcondQ]))) | ((with_reducible refine And.intro ?_ ?_); . omega) | (((first | ((with_reducible refine zd (t := ?_) ?_ (fun hcQ => ?_) (fun hcQ => ?_)); rotate_left; . (rfl)) | ((with_reducible refine zl (t := ?_) ?_ (fun hcQ => ?_) (fun hcQ => ?_)); rotate_left; . (rfl))) <;> (have hn := hcQ; have hcondQ := hcQ) <;> (try simp only [decide_eq_true_eq,decide_eq_false_iff_not,Bool.not_eq_true',Bool.not_eq_false'] at hn) <;> (try (exfalso; omega)) <;> (refine Todo.of ?_))) | fail)))
   all_goals first | omega | grind
 have hr : zxt s a b = s.all yay := by unfold zxt; rw [q3]; simp only [q1,q2,decide_true,Bool.true_and]
 rw [hr]
 ((have hcondQ := Bool.and_self; refine Todo.of ?_); (repeat' (first | ((with_reducible refine Todo.to ?_); (repeat (simp only [↓rP,rT,rU,eS,zb,dval,dBin,dInt,dUn,DV.immB,ze,zf,zp,zo,zi,zq,Nat.reduceEqDiff,↓reduceIte,reduceCtorEq,Int.reduceToNat,Int.reduceLE,zc3,eY,e0,q3 ,hcondQ]))) | ((with_reducible refine And.intro ?_ ?_); . omega) | (((((with_reducible refine zl (t := ?_) ?_ (fun hcQ => ?_) (fun hcQ => ?_)); rotate_left; . (rfl))) <;> (have hn := hcQ; have hcondQ := hcQ) <;> (try simp only [decide_eq_true_eq,decide_eq_false_iff_not] at hn) <;> (try (exfalso; omega)) <;> (refine Todo.of ?_))) | fail)))
 refine z0 s (fun k (_ : Unit) => ⟨[(0,.str s),(7,.int .i64 k)],[]⟩) (fun k r _ => r.all yay = s.all yay) () (Nat.zero_le _) (by simp only [zg,List.map_cons,List.map_nil,zc,Nk.get_nil,↓reduceIte,DV.cut,DV.inB,List.take_nil,reduceCtorEq] <;> rfl) rfl (fun k x r _ d hx hd hr => ?_) (fun k _ e hr => ?_)
 . simp only [List.all_cons] at hr
   have e1 := zrj x 97 122
   have e2 := zrj x 65 90
   have e3 := zrj x 48 57
   have y1 : (97 : UInt8).toNat = 97 := rfl
   have y2 : (122 : UInt8).toNat = 122 := rfl
   have y3 : (65 : UInt8).toNat = 65 := rfl
   have y4 : (90 : UInt8).toNat = 90 := rfl
   have y5 : (48 : UInt8).toNat = 48 := rfl
   have y6 : (57 : UInt8).toNat = 57 := rfl
   simp only [y1,y2,y3,y4,y5,y6,Int.cast_ofNat_Int] at e1 e2 e3
   ((have hcondQ := Bool.and_self; refine Todo.of ?_); (repeat' (first | ((with_reducible refine Todo.to ?_); (repeat (first | (simp only [↓rP,rT,rU,zb,dval,dBin,dInt,dUn,retV,DR.val,fzT,fzV,fz1,DV.immB,ze,zf,zp,zo,zi,zq,Nat.reduceEqDiff,↓reduceIte,reduceCtorEq,d,getD_some hx,e1,e2,e3,beq95 ,hcondQ]) | ((simp (disch := omega) only [z6]))))) | ((with_reducible refine And.intro ?_ ?_); . omega) | (((first | ((with_reducible refine zd (t := ?_) ?_ (fun hcQ => ?_) (fun hcQ => ?_)); rotate_left; . (rfl)) | ((with_reducible refine zl (t := ?_) ?_ (fun hcQ => ?_) (fun hcQ => ?_)); rotate_left; . (rfl))) <;> (have hn := hcQ; have hcondQ := hcQ) <;> (try simp only [beq_iff_eq,ne_eq,beq_eq_false_iff_ne,Bool.not_eq_true',Bool.not_eq_false'] at hn) <;> (refine Todo.of ?_))) | fail)))
   all_goals first
     | exact ⟨(),by simp only [zg,List.map_cons,List.map_nil,zc,Nk.get_nil,↓reduceIte,DV.cut,DV.inB,List.take_nil,reduceCtorEq,Int.natCast_add,Int.natCast_one] <;> rfl,by grind [yay]⟩
     | grind [yay]
 . simp only [List.all_nil] at hr
   ((refine Todo.of ?_); (repeat' (first | ((with_reducible refine Todo.to ?_); (repeat (simp only [↓rP,rT,rU,zb,dval,dBin,dInt,retV,DR.val,fzT,fzV,fz1,DV.immB,Nat.reduceEqDiff,↓reduceIte,reduceCtorEq,e,<- hr ]))))))
def zrw : List (List UInt8) := [[110,111,100,101],[114,101,116,117,114,110,115],[118,97,114],[108,101,116],[116,101,108],[101,110,117,109],[105,102],[116,104,101,110],[101,108,115,101],[102,98,121],[112,114,101],[119,104,101,110],[109,101,114,103,101],[101,118,101,114,121],[110,111,116],[97,110,100],[111,114],[120,111,114],[109,111,100],[116,114,117,101],[102,97,108,115,101],[105,110,116],[98,111,111,108],[119,105,116,104]]
noncomputable def z5g : List DV -> Prop × DV := ybi (True,eSs zrw)
theorem z96 : z5g [] = (True,.sl (sls zrw)) := ztu _
theorem zmn : OkP Tryz.prog 90 z5g := by
 refine OkP.mk0 (ps := []) (hs := []) trivial trivial zo5 fun _ => ?_
 ((have hcondQ := Bool.and_self; refine Todo.of ?_); (repeat' (first | ((with_reducible refine Todo.to ?_); (repeat (simp only [↓rP,rT,rU,zb,dval,retV,DR.val,fzT,fzV,fz1,DV.immB,fzLL,fzL,bRow,bU,cellsOf,DV.isU,↓reduceIte,forall_const,zg7,eSs,sls,zrw ,hcondQ]))))))
def yd4 (s : List UInt8) : Bool := zrw.any (· == s)
noncomputable def ygv : List DV -> Prop × DV := zbp eS fun s => (True,.bool (yd4 s))
theorem yea (s : List UInt8) : ygv [.str s] = (True,.bool (yd4 s)) := z8 zml _ s
theorem zob : OkP Tryz.prog 63 ygv := by
 refine OkP.mk1 (ps := [(90,z5g)]) (hs := []) ⟨zmn,trivial⟩ trivial zrp fun s _ => ?_
 ((refine Todo.of ?_); (repeat' (first | ((with_reducible refine Todo.to ?_); (repeat (simp only [↓rP,rT,rU,eS,zb,dval,fzVs,ze,zf,zi,zq,↓reduceIte,reduceCtorEq,zh2,z96 ]))))))
 have hl : zrw.length = 24 := rfl
 refine z0 zrw (fun k (_ : Unit) => ⟨[(0,.str s),(3,.sl (sls zrw)),(4,.int .i64 k)],[]⟩) (fun k r _ => r.any (· == s) = zrw.any (· == s)) () (Nat.zero_le _) (by simp only [zg,List.map_cons,List.map_nil,zc,Nk.get_nil,Nat.reduceEqDiff,↓reduceIte,DV.cut,DV.inB,List.take_nil,reduceCtorEq] <;> rfl) rfl (fun k x r _ d hx hd hr => ?_) (fun k _ e hr => ?_)
 . simp only [List.any_cons] at hr
   ((have hcondQ := Bool.and_self; refine Todo.of ?_); (repeat' (first | ((with_reducible refine Todo.to ?_); (repeat (first | (simp only [↓rP,rT,rU,zb,dval,dBin,dInt,dStr,zh,za,retV,DR.val,fzT,fzV,fz1,DV.immB,Nat.reduceEqDiff,↓reduceIte,reduceCtorEq,z7,d,zvg hx ,hcondQ]) | ((simp (disch := omega) only [z6]))))) | ((with_reducible refine And.intro ?_ ?_); . omega) | (((((with_reducible refine zd (t := ?_) ?_ (fun hcQ => ?_) (fun hcQ => ?_)); rotate_left; . (rfl))) <;> (have hn := hcQ; have hcondQ := hcQ) <;> (try simp only [beq_iff_eq,ne_eq,beq_eq_false_iff_ne] at hn) <;> (refine Todo.of ?_))) | fail)))
   all_goals first
     | exact ⟨(),by simp only [zg,List.map_cons,List.map_nil,zc,Nk.get_nil,Nat.reduceEqDiff,↓reduceIte,DV.cut,DV.inB,List.take_nil,reduceCtorEq,Int.natCast_add,Int.natCast_one] <;> rfl,by grind⟩
     | grind [yd4]
 . simp only [List.any_nil] at hr
   ((refine Todo.of ?_); (repeat' (first | ((with_reducible refine Todo.to ?_); (repeat (simp only [↓rP,rT,rU,zb,dval,dBin,dInt,retV,DR.val,fzT,fzV,fz1,DV.immB,Nat.reduceEqDiff,↓reduceIte,reduceCtorEq,z7,e,yd4,<- hr ]))))))
def lowF (s : List UInt8) : Bool := zxt s 97 122 && !yd4 s
def z1j (s : List UInt8) : Bool := zxt s 65 90
noncomputable def yaa : List DV -> Prop × DV := zbp eS fun s => (True,.bool (lowF s))
theorem zk4 (s : List UInt8) : yaa [.str s] = (True,.bool (lowF s)) := z8 zml _ s
noncomputable def z4m : List DV -> Prop × DV := zbp eS fun s => (True,.bool (z1j s))
theorem zwu (s : List UInt8) : z4m [.str s] = (True,.bool (z1j s)) := z8 zml _ s
theorem zdd : OkP Tryz.prog 35 yaa := by
 refine OkP.mk1 (ps := [(62,z8l),(63,ygv)]) (hs := []) ⟨zg2,zob,trivial⟩ trivial zsw fun s _ => ?_
 have e1 := z3k s 97 122
 have y1 : (97 : UInt8).toNat = 97 := rfl
 have y2 : (122 : UInt8).toNat = 122 := rfl
 simp only [y1,y2,Int.cast_ofNat_Int] at e1
 ((have hcondQ := Bool.and_self; refine Todo.of ?_); (repeat' (first | ((with_reducible refine Todo.to ?_); (repeat (simp only [↓rP,rT,rU,eS,zb,dval,dUn,retV,DR.val,fzT,fzV,fz1,DV.immB,ze,zf,zp,zo,zi,zq,Nat.reduceEqDiff,↓reduceIte,reduceCtorEq,zjm,yea,e1 ,hcondQ]))) | (((((with_reducible refine zl (t := ?_) ?_ (fun hcQ => ?_) (fun hcQ => ?_)); rotate_left; . (rfl))) <;> (have hn := hcQ; have hcondQ := hcQ) <;> (try simp only [decide_eq_true_eq,decide_eq_false_iff_not,beq_iff_eq,bne_iff_ne,ne_eq,Bool.and_eq_true,Bool.or_eq_true,Bool.not_eq_true,Bool.not_eq_false,beq_eq_false_iff_ne,bne_eq_false_iff_eq,Bool.not_eq_true',Bool.not_eq_false',Int.ofNat_lt,Int.ofNat_le,Bool.or_eq_false_iff,Bool.and_eq_false_imp,Decidable.not_not,gt_iff_lt,ge_iff_le] at hn) <;> (refine Todo.of ?_))) | fail)))
 all_goals grind [lowF]
theorem zep : OkP Tryz.prog 60 z4m := by
 refine OkP.mk1 (ps := [(62,z8l)]) (hs := []) ⟨zg2,trivial⟩ trivial zqg fun s _ => ?_
 have e1 := z3k s 65 90
 have y1 : (65 : UInt8).toNat = 65 := rfl
 have y2 : (90 : UInt8).toNat = 90 := rfl
 simp only [y1,y2,Int.cast_ofNat_Int] at e1
 ((refine Todo.of ?_); (repeat' (first | ((with_reducible refine Todo.to ?_); (repeat (simp only [↓rP,rT,rU,eS,zb,dval,retV,DR.val,fzT,fzV,fz1,DV.immB,ze,zf,zp,zo,zi,zq,↓reduceIte,reduceCtorEq,zhx,e1 ]))))))
 rfl
def zsm (l : List (List UInt8)) : Bool := decide (l.Pairwise (· ≠ ·))
theorem ydf {l : List (List UInt8)} {k : Nat} {x : List UInt8} (h : l[k]? = some x) : (l.take (k + 1)).Pairwise (· ≠ ·) ↔ (l.take k).Pairwise (· ≠ ·) /\ ∀ y ∈ l.take k,y ≠ x := by
 rw [List.take_add_one,h,List.pairwise_append]
 simp
theorem once_not {l : List (List UInt8)} {k j : Nat} {x : List UInt8} (h : l[k]? = some x) (hj : j < k) (h2 : l[j]? = some x) : zsm l = false := by
 simp only [zsm,decide_eq_false_iff_not]
 intro hp
 rw [List.pairwise_iff_getElem] at hp
 obtain ⟨h3,h4⟩ := List.getElem?_eq_some_iff.1 h
 obtain ⟨h5,h6⟩ := List.getElem?_eq_some_iff.1 h2
 exact hp j k h5 h3 hj (h6.trans h4.symm)
noncomputable def z3c : List DV -> Prop × DV := zbp eSs fun l => (l.length <= 1000000000,.bool (zsm l))
theorem zu2 (l : List (List UInt8)) : z3c [.sl (sls l)] = (l.length <= 1000000000,.bool (zsm l)) := z8 yfg _ l
theorem zet : OkP Tryz.prog 37 z3c := by
 refine OkP.mk1 (ps := []) (hs := []) trivial trivial zra fun l h => ?_
 try dsimp only at h
 ((refine Todo.of ?_); (repeat' (first | ((with_reducible refine Todo.to ?_); (repeat (simp only [↓rP,rT,zb,dval,zhu,eSs ]))))))
 refine z0 l (fun k (_ : Unit) => ⟨[(0,.sl (sls l)),(3,.int .i64 k)],[]⟩) (fun k r _ => (l.take k).Pairwise (· ≠ ·)) () (Nat.zero_le _) (by simp only [zg,List.map_cons,List.map_nil,zc,Nk.get_nil,↓reduceIte,DV.cut,DV.inB,List.take_nil,reduceCtorEq] <;> rfl) (by simp) (fun k x r _ d hx hd hr => ?_) (fun k _ e hr => ?_)
 . have hl : (l.take k).length = k := by simp; omega
   ((refine Todo.of ?_); (repeat' (first | ((with_reducible refine Todo.to ?_); (repeat (simp only [↓rP,rT,rU,zb,dval,dBin,dInt,Nat.reduceEqDiff,↓reduceIte,reduceCtorEq,z7,d ]))))))
   refine z0 (l.take k) (fun j (_ : Unit) => ⟨[(0,.sl (sls l)),(3,.int .i64 k),(4,.int .i64 j)],[]⟩) (fun j r _ => (∀ y ∈ l.take k,y ∈ r \/ y ≠ x)) () (Nat.zero_le _) (by simp only [zg,List.map_cons,List.map_nil,zc,Nk.get_nil,Nat.reduceEqDiff,↓reduceIte,DV.cut,DV.inB,List.take_nil,reduceCtorEq] <;> rfl) (fun y hy => .inl hy) (fun j y r _ d2 hy hd2 hr2 => ?_) (fun j _ e hr2 => ?_)
   . have hj : j < k := by omega
     rw [List.getElem?_take,if_pos hj] at hy
     have d3 : j < l.length := by omega
     ((have hcondQ := Bool.and_self; refine Todo.of ?_); (repeat' (first | ((with_reducible refine Todo.to ?_); (repeat (first | (simp only [↓rP,rT,rU,zb,dval,dBin,dInt,dStr,zh,za,retV,DR.val,fzT,fzV,fz1,DV.immB,Nat.reduceEqDiff,↓reduceIte,reduceCtorEq,z7,d,d3,hj,zvg hx,zvg hy ,hcondQ]) | ((simp (disch := omega) only [z6]))))) | ((with_reducible refine And.intro ?_ ?_); . omega) | (((((with_reducible refine zd (t := ?_) ?_ (fun hcQ => ?_) (fun hcQ => ?_)); rotate_left; . (rfl))) <;> (have hn := hcQ; have hcondQ := hcQ) <;> (try simp only [beq_iff_eq,ne_eq,beq_eq_false_iff_ne] at hn) <;> (refine Todo.of ?_))) | fail)))
     . have e : y = x := by simpa using hn
       subst e
       rw [once_not hx hj hy]
     . have e : y ≠ x := by simpa using hn
       exact ⟨(),by simp only [zg,List.map_cons,List.map_nil,zc,Nk.get_nil,Nat.reduceEqDiff,↓reduceIte,DV.cut,DV.inB,List.take_nil,reduceCtorEq,Int.natCast_add,Int.natCast_one] <;> rfl,fun z hz => by rcases hr2 z hz with h | h; rcases List.mem_cons.1 h with rfl | h; exact .inr e; exact .inl h; exact .inr h⟩
   . have hj : ¬ j < k := by omega
     ((refine Todo.of ?_); (repeat' (first | ((with_reducible refine Todo.to ?_); (repeat (first | (simp only [↓rP,rT,rU,zb,dval,dBin,dInt,Nat.reduceEqDiff,↓reduceIte,reduceCtorEq,hj ]) | ((simp (disch := omega) only [z6]))))))))
     exact ⟨(),by simp only [zg,List.map_cons,List.map_nil,zc,Nk.get_nil,↓reduceIte,DV.cut,DV.inB,List.take_nil,reduceCtorEq,Int.natCast_add,Int.natCast_one] <;> rfl,(ydf hx).2 ⟨hr,fun y hy => (hr2 y hy).elim (fun h => by cases h) id⟩⟩
 . rw [e,List.take_length] at hr
   have : zsm l = true := decide_eq_true hr
   ((refine Todo.of ?_); (repeat' (first | ((with_reducible refine Todo.to ?_); (repeat (simp only [↓rP,rT,rU,zb,dval,dBin,dInt,retV,DR.val,fzT,fzV,fz1,DV.immB,Nat.reduceEqDiff,↓reduceIte,reduceCtorEq,z7,e,this ]))))))
set_option linter.all false
set_option maxRecDepth 20000
open Go.Nk
def zuw (e : En) : Bool := !lowF e.name || e.ct.length == 0
def zg8 (l : List En) : List (List UInt8) := l.map (·.name)
def zd5 (l : List En) : List (List UInt8) := (l.map (·.ct)).flatten
theorem z56 (e : En) (l : List En) : zd5 (e :: l) = e.ct ++ zd5 l := by simp [zd5]
theorem z93 : zg8 [] = [] := rfl
theorem ycc : zd5 [] = [] := rfl
def yck (l : List En) : Bool := decide (4 < l.length) || l.any fun e => decide (6 < e.ct.length)
def zm8 (l : List En) : Int := if yck l then 4 else if l.any zuw then 1 else if (zd5 l).any (fun c => !z1j c) then 1 else if zsm (zg8 l) && zsm (zd5 l) then 0 else 6
noncomputable def z10 : List DV -> Prop × DV := zbp eEns fun l => (True,.int .i64 (zm8 l))
theorem z6a (l : List En) : z10 [.sl (l.map cEn)] = (True,.int .i64 (zm8 l)) := z8 zfe _ l
theorem zmf : OkP Tryz.prog 33 z10 := by
 refine OkP.mk1 (ps := [(35,yaa),(60,z4m),(37,z3c)]) (hs := []) ⟨zdd,zep,zet,trivial⟩ trivial zoo fun l _ => ?_
 by_cases q : 4 < l.length
 . have hr : zm8 l = 4 := by simp [zm8,yck,q]
   ((have hcondQ := Bool.and_self; refine Todo.of ?_); (repeat' (first | ((with_reducible refine Todo.to ?_); (repeat (simp only [↓rP,rT,rU,eL,zb,dval,dBin,dInt,retV,DR.val,fzT,fzV,fz1,DV.immB,fzLL,Nat.reduceEqDiff,↓reduceIte,reduceCtorEq,forall_const,zei,eEns,hr ,hcondQ]))) | (((((with_reducible refine zd (t := ?_) ?_ (fun hcQ => ?_) (fun hcQ => ?_)); rotate_left; . (rfl))) <;> (have hn := hcQ; have hcondQ := hcQ) <;> (try simp only [decide_eq_true_eq,decide_eq_false_iff_not] at hn) <;> (try (exfalso; omega)) <;> (refine Todo.of ?_))) | fail)))
 ((have hcondQ := Bool.and_self; refine Todo.of ?_); (repeat' (first | ((with_reducible refine Todo.to ?_); (repeat (simp only [↓rP,rT,rU,eL,zb,dval,dBin,dInt,fzLL,Nat.reduceEqDiff,↓reduceIte,reduceCtorEq,forall_const,zei,eEns,hcondQ]))) | (((((with_reducible refine zd (t := ?_) ?_ (fun hcQ => ?_) (fun hcQ => ?_)); rotate_left; . (rfl))) <;> (have hn := hcQ; have hcondQ := hcQ) <;> (try simp only [decide_eq_true_eq,decide_eq_false_iff_not] at hn) <;> (try (exfalso; omega)) <;> (refine Todo.of ?_))) | fail)))
 refine z0 l (fun k (s : List (List UInt8) × List (List UInt8)) => ⟨[(0,.sl (l.map cEn)),(3,.own 0 s.1.length 0 s.1.length),(4,.own 1 s.2.length 0 s.2.length),(5,.int .i64 k)],[⟨.imm,1,sls s.1⟩,⟨.imm,1,sls s.2⟩]⟩)
   (fun k r s => s.1 ++ zg8 r = zg8 l /\ s.2 ++ zd5 r = zd5 l /\ (r.any fun e => decide (6 < e.ct.length)) = (l.any fun e => decide (6 < e.ct.length)) /\ s.1.length = k /\ s.2.length <= 6 * k) ([],[]) (Nat.zero_le _) (by simp only [zg,List.map_cons,List.map_nil,zc,Nk.get_nil,Nat.reduceEqDiff,↓reduceIte,DV.cut,DV.inB,DObj.cut,List.take_nil,reduceCtorEq,decide_true,Nat.reduceLT,List.take_succ_cons,List.length_nil] <;> rfl) ⟨rfl,rfl,rfl,rfl,by simp⟩ (fun k x r s d hx hd hr => ?_) (fun k s e hr => ?_)
 . obtain ⟨o,c⟩ := s
   obtain ⟨g1,g2,g3,g4,g5⟩ := hr
   simp only [zg8,List.map_cons,z56,List.any_cons] at g1 g2 g3 g4 g5
   ((have hcondQ := Bool.and_self; refine Todo.of ?_); (repeat' (first | ((with_reducible refine Todo.to ?_); (repeat (first | (simp only [↓rP,rT,rU,zb,dval,dBin,dInt,zh,za,retV,DR.val,fzT,fzV,fz1,DV.immB,zy,zax,fzLL,fzL,bRow,bU,cellsOf,DV.isU,zat,Nat.reduceEqDiff,Nat.reduceAdd,↓reduceIte,reduceCtorEq,Nat.reduceLeDiff,Nat.reduceLT,forall_const,z7,yfz,d,zm cEn hx,ybo,ztn ,hcondQ]) | ((simp (disch := omega) only [z6]))))) | ((with_reducible refine And.intro ?_ ?_); . omega) | (((((with_reducible refine zd (t := ?_) ?_ (fun hcQ => ?_) (fun hcQ => ?_)); rotate_left; . (rfl))) <;> (have hn := hcQ; have hcondQ := hcQ) <;> (try simp only [decide_eq_true_eq,decide_eq_false_iff_not] at hn) <;> (refine Todo.of ?_))) | fail)))
   all_goals first
     | (refine ⟨(o ++ [x.name],c ++ x.ct),by simp only [zg,List.map_cons,List.map_nil,zc,Nk.get_nil,Nat.reduceEqDiff,↓reduceIte,DV.cut,DV.inB,DObj.cut,List.take_nil,reduceCtorEq,decide_true,Nat.reduceLT,List.take_succ_cons,Int.natCast_add,Int.natCast_one,List.length_append,List.length_cons,List.length_nil,Nat.zero_add] <;> rfl,?_,?_,?_,?_,?_⟩
        . simpa [zg8] using g1
        . simpa using g2
        . rw [<- g3]; simp; omega
        . simp; omega
        . simp; omega)
     | (have : yck l = true := by
          simp only [yck,Bool.or_eq_true]
          refine .inr ?_
          rw [<- g3]
          simp; omega
        simp [zm8,this])
 obtain ⟨o,c⟩ := s
 obtain ⟨g1,g2,g3,g4,g5⟩ := hr
 simp only [z93,ycc,List.append_nil,List.any_nil] at g1 g2 g3 g4 g5
 have hm : yck l = false := by simp [yck,q,<- g3]
 have hr : zm8 l = if l.any zuw then 1 else if (zd5 l).any (fun c => !z1j c) then 1 else if zsm (zg8 l) && zsm (zd5 l) then 0 else 6 := by simp [zm8,hm]
 rw [hr]
 subst g1 g2
 have b1 : (zg8 l).length <= 4 := by omega
 have b2 : (zd5 l).length <= 24 := by omega
 ((refine Todo.of ?_); (repeat' (first | ((with_reducible refine Todo.to ?_); (repeat (simp only [↓rP,rT,rU,zb,dval,dBin,dInt,Nat.reduceEqDiff,↓reduceIte,reduceCtorEq,e ]))))))
 refine z0 l (fun k (_ : Unit) => ⟨[(0,.sl (l.map cEn)),(3,.own 0 (zg8 l).length 0 (zg8 l).length),(4,.own 1 (zd5 l).length 0 (zd5 l).length),(6,.int .i64 k)],[⟨.imm,1,sls (zg8 l)⟩,⟨.imm,1,sls (zd5 l)⟩]⟩)
   (fun k r _ => r.any zuw = l.any zuw) () (Nat.zero_le _) (by simp only [zg,List.map_cons,List.map_nil,zc,Nk.get_nil,Nat.reduceEqDiff,↓reduceIte,Nat.succ_ne_self,DV.cut,DV.inB,DObj.cut,List.take_nil,reduceCtorEq,decide_true,Nat.reduceLT,List.take_succ_cons] <;> rfl) rfl (fun k x r _ d hx hd hr => ?_) (fun k _ e hr => ?_)
 . simp only [List.any_cons] at hr
   ((have hcondQ := Bool.and_self; refine Todo.of ?_); (repeat' (first | ((with_reducible refine Todo.to ?_); (repeat (first | (simp only [↓rP,rT,rU,zb,dval,dBin,dInt,dUn,zh,za,retV,DR.val,fzT,fzV,fz1,DV.immB,ze,zf,zp,zo,zi,zq,Nat.reduceEqDiff,Nat.reduceAdd,↓reduceIte,reduceCtorEq,Nat.reduceLT,zk4,z7,d,zm cEn hx ,hcondQ]) | ((simp (disch := omega) only [z6]))))) | ((with_reducible refine And.intro ?_ ?_); . omega) | (((first | ((with_reducible refine zd (t := ?_) ?_ (fun hcQ => ?_) (fun hcQ => ?_)); rotate_left; . (rfl)) | ((with_reducible refine zl (t := ?_) ?_ (fun hcQ => ?_) (fun hcQ => ?_)); rotate_left; . (rfl))) <;> (have hn := hcQ; have hcondQ := hcQ) <;> (try simp only [beq_iff_eq,ne_eq,beq_eq_false_iff_ne,Bool.not_eq_true',Bool.not_eq_false'] at hn) <;> (refine Todo.of ?_))) | fail)))
   all_goals first
     | exact ⟨(),by simp only [zg,List.map_cons,List.map_nil,zc,Nk.get_nil,Nat.reduceEqDiff,↓reduceIte,Nat.succ_ne_self,DV.cut,DV.inB,DObj.cut,List.take_nil,reduceCtorEq,decide_true,Nat.reduceLT,List.take_succ_cons,Int.natCast_add,Int.natCast_one] <;> rfl,by rw [<- hr]; grind [zuw]⟩
     | (have : l.any zuw = true := by rw [<- hr]; grind [zuw]
        simp [this])
 simp only [List.any_nil] at hr
 rw [<- hr]
 ((refine Todo.of ?_); (repeat' (first | ((with_reducible refine Todo.to ?_); (repeat (simp only [↓rP,rT,rU,zb,dval,dBin,dInt,Nat.reduceEqDiff,↓reduceIte,reduceCtorEq,e ]))))))
 refine z0 (zd5 l) (fun k (_ : Unit) => ⟨[(3,.own 0 (zg8 l).length 0 (zg8 l).length),(4,.own 1 (zd5 l).length 0 (zd5 l).length),(7,.int .i64 k)],[⟨.imm,1,sls (zg8 l)⟩,⟨.imm,1,sls (zd5 l)⟩]⟩)
   (fun k r _ => (r.any fun c => !z1j c) = ((zd5 l).any fun c => !z1j c)) () (Nat.zero_le _) (by simp only [zg,List.map_cons,List.map_nil,zc,Nk.get_nil,Nat.reduceEqDiff,↓reduceIte,Nat.succ_ne_self,DV.cut,DV.inB,DObj.cut,List.take_nil,reduceCtorEq,decide_true,Nat.reduceLT,List.take_succ_cons] <;> rfl) rfl (fun k x r _ d hx hd hr => ?_) (fun k _ e hr => ?_)
 . simp only [List.any_cons] at hr
   ((have hcondQ := Bool.and_self; refine Todo.of ?_); (repeat' (first | ((with_reducible refine Todo.to ?_); (repeat (first | (simp only [↓rP,rT,rU,zb,dval,dBin,dInt,dUn,zh,za,retV,DR.val,fzT,fzV,fz1,DV.immB,ze,zf,zp,zo,zi,zq,alive,Nat.reduceEqDiff,↓reduceIte,reduceCtorEq,zwu,z7,d,zvg hx ,hcondQ]) | ((simp (disch := omega) only [z6]))))) | ((with_reducible refine And.intro ?_ ?_); . omega) | (((((with_reducible refine zd (t := ?_) ?_ (fun hcQ => ?_) (fun hcQ => ?_)); rotate_left; . (rfl))) <;> (have hn := hcQ; have hcondQ := hcQ) <;> (try simp only [Bool.not_eq_true',Bool.not_eq_false'] at hn) <;> (refine Todo.of ?_))) | fail)))
   all_goals first
     | exact ⟨(),by simp only [zg,List.map_cons,List.map_nil,zc,Nk.get_nil,Nat.reduceEqDiff,↓reduceIte,Nat.succ_ne_self,DV.cut,DV.inB,DObj.cut,List.take_nil,reduceCtorEq,decide_true,Nat.reduceLT,List.take_succ_cons,Int.natCast_add,Int.natCast_one] <;> rfl,by rw [<- hr]; grind⟩
     | (have : ((zd5 l).any fun c => !z1j c) = true := by rw [<- hr]; grind
        simp [this])
 simp only [List.any_nil] at hr
 rw [<- hr]
 ((have hcondQ := Bool.and_self; refine Todo.of ?_); (repeat' (first | ((with_reducible refine Todo.to ?_); (repeat (simp only [↓rP,rT,rU,zb,dval,dBin,dInt,dUn,retV,DR.val,fzT,fzV,fz1,DV.immB,ze,zf,zp,zo,zi,zq,zy,alive,Nat.reduceEqDiff,↓reduceIte,reduceCtorEq,zu2,z7,zwo,e ,hcondQ]))) | ((with_reducible refine And.intro ?_ ?_); . omega) | (((first | ((with_reducible refine zd (t := ?_) ?_ (fun hcQ => ?_) (fun hcQ => ?_)); rotate_left; . (rfl)) | ((with_reducible refine zl (t := ?_) ?_ (fun hcQ => ?_) (fun hcQ => ?_)); rotate_left; . (rfl))) <;> (have hn := hcQ; have hcondQ := hcQ) <;> (try simp only [Bool.not_eq_true',Bool.not_eq_false'] at hn) <;> (refine Todo.of ?_))) | fail)))
 all_goals grind
end Go.Proofs.YtjgefhgkinocmaaGreat
