/- MoveMigrates: the law. -/
import Derived.Test.YtjgefhgkinocmaaGreatMgY
import Derived.Test.YtjgefhgkinocmaaGreatMvF
import Derived.Test.YtjgefhgkinocmaaGreatDfG
set_option linter.all false
set_option maxRecDepth 20000
namespace Go.Proofs.YtjgefhgkinocmaaGreat
open Go.Nk
@[reducible] def cAsk (x : List Mov × List Int) : List DV := [.sl (x.1.map cMov),.sl (ils x.2)]
theorem cAsk_inj : ∀ x y,cAsk x = cAsk y -> x = y := fun x y h => by
 obtain ⟨a,b⟩ := x; obtain ⟨c,d⟩ := y
 simp only [cAsk,List.cons.injEq,DV.sl.injEq,and_true] at h
 rw [zdm z1c _ _ h.1,zjx h.2]
abbrev eAsk : List Mov × List Int -> DV := eA cAsk
theorem inj_Ask : Inj eAsk := zt8 cAsk_inj
structure askOk (a b : Img) (x : List Mov × List Int) : Prop where
 a : zv3 a
 b : zv3 b
 l : z30 x.1
 s : x.2.length <= 1000000000000000
 n : ∀ m ∈ x.1,okN m.e
 ci : ∀ n ∈ x.2,in64 n
theorem zx4 : ∀ (vs : List (Int × Int)) (o : List Int),(zam vs o).1.length <= o.length + vs.length
 | [],o => by simp [zam]
 | v :: vs,o => by
   have := zx4 vs (o ++ [v.1])
   simp only [zam]
   split
   . simp at this |-; omega
   . simp
theorem want_len {w : Img × Img} {l : List Mov} {st : List Int} (h : migOk w l st) {s : Slt} (hs : s ∈ w.2.slots) : (zbd w l st s).1.length <= 1000 := by
 have hb := zad s.ty
 have hst := h.st
 have hi := h.ini s hs
 by_cases c : mvdI l s.path < 0
 rotate_left
 . obtain ⟨m,hm,h1,h2,_⟩ := zj8 h hs c
   rw [h1,zio (h.wh hm) h2]
   have := zx4 ((List.range (zt s.ty).toNat).map (zbb w st m.e)) []
   simp at this
   omega
 by_cases q : zc8 w.1 w.2 s = 1
 . have h1 : zbd w l st s = (zap w.1 st s.path,0) := by simp [zbd,c,q]
   rw [h1]
   simp only [zap,zkq,List.length_drop,List.length_take]
   omega
 . have h1 : zbd w l st s = (s.ini,0) := by simp [zbd,c,q]
   rw [h1]
   dsimp only
   omega
noncomputable def z87 : List DV -> Prop × DV := zec eImg eImg eAsk fun a b x => (askOk a b x,.bool true)
theorem z50 (a : Img) (b : Img) (x : List Mov × List Int) : z87 [.agg (cImg a),.agg (cImg b),.agg (cAsk x)] = (askOk a b x,.bool true) := za2 za4 za4 inj_Ask _ a b x
theorem zgx : OkP Tryz.prog 3 z87 := by
 refine OkP.mk3 (ps := [(5,yek),(6,zxi),(7,z6g),(8,z5e),(10,yex),(9,z7s),(12,zz8),(11,yff)]) (hs := []) ⟨zqa,zme,znp,z4u,z55,zij,yfo,zn5,trivial⟩ trivial zhr fun a b x h => ?_
 try dsimp only at h
 obtain ⟨l,st⟩ := x
 have e1 := yda a b l
 rw [eq_true (show zv3 a /\ zv3 b /\ z30 l from ⟨h.a,h.b,h.l⟩)] at e1
 by_cases q1 : fitF a b l = true
 rotate_left
 . simp only [cImg] at e1
   ((try unfold z3); ((have hcondQ := Bool.and_self; refine Todo.of ?_); (repeat' (first | ((with_reducible refine Todo.to ?_); (repeat (simp only [↓rP,rT,rU,eA,zb,dval,dUn,zh,za,retV,DR.val,fzT,fzV,fz1,DV.immB,ze,zf,zp,zo,zx,zi,zq,cellsOf,Nat.reduceEqDiff,Nat.reduceAdd,↓reduceIte,reduceCtorEq,Nat.reduceLeDiff,Nat.reduceLT,zd9,eAsk,eImg,e1,q1 ,hcondQ])))))))
 obtain ⟨f1,f2,f3⟩ := ygn q1
 have q1' := q1
 simp only [fitF,Bool.and_eq_true] at q1'
 obtain ⟨⟨⟨⟨⟨p1,p2⟩,p3⟩,p4⟩,p5⟩,p6⟩ := q1'
 obtain ⟨d1,d2,d3⟩ := zok p1
 obtain ⟨d4,d5,d6⟩ := zok p2
 have e2 := zrs a st
 have hst : st.length <= 1000000000000000 := h.s
 rw [eq_true (show a.slots.length <= 1000000 /\ st.length <= 1000000000000000 from ⟨by omega,hst⟩)] at e2
 by_cases q2 : ze9 a st = true
 rotate_left
 . simp only [cImg] at e1 e2
   ((try unfold z3); ((have hcondQ := Bool.and_self; refine Todo.of ?_); (repeat' (first | ((with_reducible refine Todo.to ?_); (repeat (simp only [↓rP,rT,rU,eA,zb,dval,dUn,zh,za,retV,DR.val,fzT,fzV,fz1,DV.immB,ze,zf,zp,zo,zx,zi,zq,cellsOf,Nat.reduceEqDiff,Nat.reduceAdd,↓reduceIte,reduceCtorEq,Nat.reduceLeDiff,Nat.reduceLT,zd9,eAsk,eImg,e1,e2,q1,q2 ,hcondQ])))))))
 have e3 := ybv a b l
 rw [eq_true (show zp3 (a,b) l /\ ∀ s ∈ b.slots,s.ini.length <= 1000000 from ⟨⟨f1,by omega,fun m hm => (f3 m hm).1⟩,fun s hs => ((zrf p2).2 s hs).2⟩)] at e3
 by_cases q3 : (zcb (a,b) l 0).2 = 0
 rotate_left
 . have hm : z0i (a,b) l = ([],(zcb (a,b) l 0).1,(zcb (a,b) l 0).2) := if_neg q3
   rw [hm] at e3
   simp only [cImg] at e1 e2 e3
   ((try unfold z3); ((have hcondQ := Bool.and_self; refine Todo.of ?_); (repeat' (first | ((with_reducible refine Todo.to ?_); (repeat (simp only [↓rP,rT,rU,eA,zb,dval,dBin,dInt,dUn,zh,za,retV,DR.val,fzT,fzVs,fzV,fz1,DV.immB,ze,zf,zp,zo,zx,zi,zq,fzL,cellsOf,Nat.reduceEqDiff,Nat.reduceAdd,↓reduceIte,reduceCtorEq,Nat.reduceLeDiff,Nat.reduceLT,zd9,zfr,eAsk,eImg,e1,e2,e3,q1,q2,hcondQ]))) | (((((with_reducible refine zd (t := ?_) ?_ (fun hcQ => ?_) (fun hcQ => ?_)); rotate_left; . (rfl))) <;> (have hn := hcQ; have hcondQ := hcQ) <;> (try simp only [bne_iff_ne,ne_eq,bne_eq_false_iff_eq] at hn) <;> (try (exfalso; omega)) <;> (refine Todo.of ?_))) | fail))))
 have hm : z0i (a,b) l = (zf3 (a,b) l,(zcb (a,b) l 0).1,0) := if_pos q3
 rw [hm] at e3
 have hM := mig_of q1 q2 q3 h.n h.ci
 obtain ⟨r1,r2,r3⟩ := zzg p4 q2
 obtain ⟨g1,g2,g3,g4⟩ := zgo p5
 have hAll := plan_all hM g1 g2
 have hok := plan_ok hM (by show b.slots.length <= 150; omega)
 have hvl := all_len hok
 have e4 := yfd (zf3 (a,b) l) st 20000
 rw [eq_true (show okPs (zf3 (a,b) l) st 20000 from hok)] at e4
 simp only [resA,<- z7a] at e4
 have hvl : (allF (zf3 (a,b) l) st 20000).1.length <= 1000000000 := hvl
 have hRt : (refF (a,b) l st b.slots []).2 = 0 -> ze9 b (refF (a,b) l st b.slots []).1 = true := yfh hM r2 g1 fun s hs => (g4 s hs).1
 dsimp only at hAll
 generalize allF (zf3 (a,b) l) st 20000 = T at *
 obtain ⟨V,U,F⟩ := T
 dsimp only at hAll hvl e4
 generalize zf3 (a,b) l = P at *
 obtain ⟨RR,hRR⟩ : ∃ RR,RR = refF (a,b) l st b.slots [] := ⟨_,rfl⟩
 rw [<- hRR] at hAll hRt
 simp only [cImg] at e1 e2 e3
 ((try unfold z3); ((have hcondQ := Bool.and_self; refine Todo.of ?_); (repeat' (first | ((with_reducible refine Todo.to ?_); (repeat (simp only [↓rP,rT,rU,eA,zb,dval,dBin,dInt,dUn,zh,za,fzVs,fzV,fz1,DV.immB,ze,zf,zp,zo,zx,zi,zq,fzLL,fzL,cellsOf,Nat.reduceEqDiff,Nat.reduceAdd,↓reduceIte,reduceCtorEq,Nat.reduceLeDiff,Nat.reduceLT,forall_const,zfr,eAsk,eImg,e1,e2,e3,e4,q1,q2 ,hcondQ])))))))
 refine z0 b.slots (fun k (a' : List Int × Int) => ⟨[(3,.ref (cImg a)),(4,.ref (cImg b)),(5,.ref (cAsk (l,st))),(10,.sl (ils V)),(11,.int .i64 U),(12,.int .i64 F),(13,.own 0 a'.1.length 0 a'.1.length),(14,.int .i64 a'.2),(15,.int .i64 k)],[⟨.imm,1,ils a'.1⟩]⟩)
   (fun k r a' => (if a'.2 = 0 then refF (a,b) l st r a'.1 else a') = RR /\ a'.1.length <= 1000 * k) ([],0) (Nat.zero_le _) (by simp only [zg,List.map_cons,List.map_nil,zc,Nk.get_nil,Nat.reduceEqDiff,↓reduceIte,DV.cut,DV.inB,DObj.cut,List.take_nil,reduceCtorEq,Nat.zero_lt_one,decide_true,List.take_succ_cons,List.length_nil] <;> rfl) ⟨by rw [hRR]; rfl,by simp⟩ (fun k y r a' d hx hd hr => ?_) (fun k a' e hr => ?_)
 . obtain ⟨o,g⟩ := a'
   obtain ⟨w1,w2⟩ := hr
   dsimp only at w1 w2
   clear hRR
   by_cases z : g = 0
   rotate_left
   . rw [if_neg z] at w1
     subst w1
     dsimp only at hAll hRt
     rcases hAll with ⟨F1,F2⟩ | ⟨F1,F2,F3,F4⟩
     . subst F1 F2
       ((try unfold z3); ((have hcondQ := Bool.and_self; refine Todo.of ?_); (repeat' (first | ((with_reducible refine Todo.to ?_); (repeat (simp only [↓rP,rT,rU,zb,dval,dBin,dInt,zh,za,retV,DR.val,fzT,fzV,fz1,DV.immB,ze,zf,zp,zo,zi,zq,Nat.reduceEqDiff,Nat.reduceAdd,↓reduceIte,Nat.reduceLT,zd9,zfr,d,hcondQ]))) | (((((with_reducible refine zd (t := ?_) ?_ (fun hcQ => ?_) (fun hcQ => ?_)); rotate_left; . (rfl))) <;> (have hn := hcQ; have hcondQ := hcQ) <;> (try simp only [beq_iff_eq,ne_eq,beq_eq_false_iff_ne] at hn) <;> (try (exfalso; omega)) <;> (refine Todo.of ?_))) | fail))))
       all_goals first | trivial | rfl | omega
     . subst F2
       have F1' : (F == 17) = false := by simp [F1]
       by_cases z2 : F = 0
       . have hV := F3 z2
         exact absurd z2 z
       . have hV := F4 z2
         subst hV
         ((try unfold z3); ((have hcondQ := Bool.and_self; refine Todo.of ?_); (repeat' (first | ((with_reducible refine Todo.to ?_); (repeat (simp only [↓rP,rT,rU,zb,dval,dBin,dInt,zh,za,retV,DR.val,fzT,fzV,fz1,DV.immB,ze,zf,zp,zo,zi,zq,Nat.reduceEqDiff,Nat.reduceAdd,↓reduceIte,Nat.reduceLT,zd9,zfr,zae,d,F1',hcondQ]))) | (((((with_reducible refine zd (t := ?_) ?_ (fun hcQ => ?_) (fun hcQ => ?_)); rotate_left; . (rfl))) <;> (have hn := hcQ; have hcondQ := hcQ) <;> (try simp only [beq_iff_eq,bne_iff_ne,ne_eq,beq_eq_false_iff_ne,bne_eq_false_iff_eq] at hn) <;> (try (exfalso; omega)) <;> (refine Todo.of ?_))) | fail))))
         all_goals first | trivial | rfl | omega
   . subst z
     have w1 : refF (a,b) l st (y :: r) o = RR := by simpa using w1
     have hwant : refF (a,b) l st (y :: r) o = if (zbd (a,b) l st y).2 = 0 then refF (a,b) l st r (o ++ (zbd (a,b) l st y).1) else (o ++ (zbd (a,b) l st y).1,(zbd (a,b) l st y).2) := rfl
     have e5 := yfq a b l st y
     rw [eq_true (show wantFit (a,b) l st from ⟨hM.way.1,hM.arm,hM.s,hM.ci,hM.len,hM.pl,hM.n,hM.one⟩)] at e5
     have hwl : (zbd (a,b) l st y).1.length <= 1000 := want_len hM (List.mem_of_getElem? hx)
     rw [hwant] at w1
     generalize zbd (a,b) l st y = v at *
     obtain ⟨v,f⟩ := v
     dsimp only at w1 hwl
     simp only [cImg,cSlt] at e5
     ((try unfold z3); ((have hcondQ := Bool.and_self; refine Todo.of ?_); (repeat' (first | ((with_reducible refine Todo.to ?_); (repeat (first | (simp only [↓rP,rT,rU,zb,dval,dBin,dInt,zh,za,fzVs,fzV,fz1,DV.immB,ze,zf,zp,zo,zx,zi,zq,zy,zax,fzL,zat,Nat.reduceEqDiff,Nat.reduceAdd,↓reduceIte,reduceCtorEq,Nat.reduceLeDiff,Nat.reduceLT,zae,z4t,d,zm cSlt hx,e5,zpu ,hcondQ]) | ((simp (disch := omega) only [z6]))))) | ((with_reducible refine And.intro ?_ ?_); . omega) | fail))))
     all_goals first
       | exact ⟨(o ++ v,f),by simp only [zg,List.map_cons,List.map_nil,zc,Nk.get_nil,Nat.reduceEqDiff,↓reduceIte,Nat.succ_ne_self,DV.cut,DV.inB,DObj.cut,List.take_nil,reduceCtorEq,Nat.zero_lt_one,decide_true,List.take_succ_cons,Int.natCast_add,Int.natCast_one,List.length_append] <;> rfl,by simpa using w1,by simp; omega⟩
 . obtain ⟨o,g⟩ := a'
   obtain ⟨w1,w2⟩ := hr
   dsimp only at w1 w2
   clear hRR
   have w1 : (o,g) = RR := by
     rw [<- w1]; split
     . rename_i c; rw [c]; rfl
     . rfl
   subst w1
   dsimp only at hAll hRt
   rcases hAll with ⟨F1,F2⟩ | ⟨F1,F2,F3,F4⟩
   . subst F1 F2
     ((try unfold z3); ((refine Todo.of ?_); (repeat' (first | ((with_reducible refine Todo.to ?_); (repeat (simp only [↓rP,rT,rU,zb,dval,dBin,dInt,zh,za,retV,DR.val,fzT,fzV,fz1,DV.immB,ze,zf,zp,zo,zi,zq,Nat.reduceEqDiff,Nat.reduceAdd,↓reduceIte,Nat.reduceLT,zd9,zfr,e ])))))))
     all_goals first | trivial | rfl | omega
   . subst F2
     have F1' : (F == 17) = false := by simp [F1]
     by_cases z : F = 0
     . have hV := F3 z
       subst hV z
       have e6 := zyb V V
       rw [eq_true (show V.length <= 1000000000 by omega),<- z7a,decide_eq_true (rfl : V = V)] at e6
       have e7 := zrs b V
       rw [eq_true (show b.slots.length <= 1000000 /\ V.length <= 1000000000000000 from ⟨by omega,by omega⟩),hRt rfl] at e7
       simp only [cImg] at e7
       have tk : List.take V.length (ils V) = ils V := List.take_of_length_le (by simp [ils])
       ((try unfold z3); ((refine Todo.of ?_); (repeat' (first | ((with_reducible refine Todo.to ?_); (repeat (simp only [↓rP,rT,rU,zb,dval,dBin,dInt,zh,za,retV,DR.val,fzT,fzV,fz1,DV.immB,ze,zf,zp,zo,zx,zi,zq,zy,Nat.reduceEqDiff,Nat.reduceAdd,↓reduceIte,reduceCtorEq,Nat.reduceLeDiff,Nat.reduceLT,Int.reduceBEq,zd9,zfr,zae,e,e6,e7,tk ]))))) <;> (try (exact Nat.le_refl _))))
       all_goals first | trivial | rfl | omega
     . have hV := F4 z
       subst hV
       ((try unfold z3); ((have hcondQ := Bool.and_self; refine Todo.of ?_); (repeat' (first | ((with_reducible refine Todo.to ?_); (repeat (simp only [↓rP,rT,rU,zb,dval,dBin,dInt,zh,za,retV,DR.val,fzT,fzV,fz1,DV.immB,ze,zf,zp,zo,zi,zq,Nat.reduceEqDiff,Nat.reduceAdd,↓reduceIte,Nat.reduceLT,zd9,zfr,zae,e,F1',hcondQ]))) | (((((with_reducible refine zd (t := ?_) ?_ (fun hcQ => ?_) (fun hcQ => ?_)); rotate_left; . (rfl))) <;> (have hn := hcQ; have hcondQ := hcQ) <;> (try simp only [bne_iff_ne,ne_eq,bne_eq_false_iff_eq] at hn) <;> (try (exfalso; omega)) <;> (refine Todo.of ?_))) | fail))))
       all_goals first | trivial | rfl | omega
set_option linter.all false
set_option maxRecDepth 20000
open Go.Nk
theorem zy7 : ∀ {l : List Ex} {y : Ex},y ∈ zcd l -> ∃ x ∈ l,y ∈ zaj x
 | [],y,h => by simp [zcd] at h
 | a :: l,y,h => by
   rw [zcd] at h
   rcases List.mem_append.1 h with h | h
   . exact ⟨a,by simp,h⟩
   . obtain ⟨x,h1,h2⟩ := zy7 h
     exact ⟨x,by simp [h1],h2⟩
theorem okN_mk {e : Ex} (h1 : in64 e.n) (h2 : ∀ x ∈ e.subs,okN x) : okN e := fun y hy => by
 rw [zcy] at hy
 rcases List.mem_cons.1 hy with rfl | hy
 . exact h1
 . obtain ⟨x,hx,hy⟩ := zy7 hy
   exact h2 x hx y hy
theorem yen : ∀ N,zaz (zta Tryz.prog N) (.self 57) cEx okN :=
 zta.reads (n := 9) (s := .struct [.int .i64,.int .i64,.str,.int .i64,.slice .str,.slice (.self 57)]) (by kernel_rfl) rfl fun R h =>
   zaz.as (zaz.struct (zaz.cons zaa.int.r (zaz.cons zaa.int.r (zaz.cons zaa.str.r (zaz.cons zaa.int.r (zaz.cons (zaa.slice zaa.str).r
     (zaz.cons (zaz.slice (c := cEx) (W := okN) (fun ds hd => by unfold HasS at hd; exact h ds hd)) zaz.nil)))))))
     (fun x => Ex.mk x.1 x.2.1 x.2.2.1 x.2.2.2.1 x.2.2.2.2.1 x.2.2.2.2.2.1) (fun x => by rw [zj]; rfl) (fun x hx => okN_mk hx.2.1 hx.2.2.2.2.2.1.2)
theorem yac (N : Nat) : zaz (zta Tryz.prog N) (.struct [.str,.self 57]) cMov (fun m => okN m.e) :=
 zaz.as (zaz.struct (zaz.cons zaa.str.r (zaz.cons (yen N) zaz.nil))) (fun x => (⟨x.1,x.2.1⟩ : Mov)) (fun x => by simp [cMov]) (fun x hx => hx.2.1)
theorem yax (N : Nat) : zaz (zta Tryz.prog N) (.struct [.slice (.struct [.str,.self 57]),.slice (.int .i64)]) cAsk (fun x => (x.1.length <= zds /\ ∀ m ∈ x.1,okN m.e) /\ x.2.length <= zds /\ ∀ n ∈ x.2,in64 n) :=
 zaz.as (zaz.struct (zaz.cons (zaz.slice (yac N)) (zaz.cons (zaa.slice zaa.int).r zaz.nil))) (fun x => ((x.1,x.2.1) : List Mov × List Int)) (fun x => rfl) (fun x hx => ⟨hx.1,hx.2.1⟩)
theorem moveMigrates_tells (dvs : List DV) (h : z9i Tryz.prog [28,28,32] dvs) : zy3 Tryz.prog 3 dvs (.bool true) := by
 obtain ⟨d1,r,rfl,h1,d2,r',rfl,h2,d3,r3,rfl,h3,rfl⟩ := h
 obtain ⟨a,rfl,ha⟩ := z9r (by kernel_rfl) z38 h1
 obtain ⟨b,rfl,hb⟩ := z9r (by kernel_rfl) z38 h2
 obtain ⟨x,rfl,hx⟩ := yfa (ss := [.slice (.struct [.str,.self 57]),.slice (.int .i64)]) (by kernel_rfl) yax h3
 obtain ⟨⟨x1,x2⟩,x3,x4⟩ := hx
 have e := z50 a b x
 have := (zgx _ (by rw [e]; unfold zds at x1 x3; exact ⟨ha,hb,by unfold z30; omega,by omega,x2,x4⟩)).2
 rw [e] at this
 exact this
end Go.Proofs.YtjgefhgkinocmaaGreat
