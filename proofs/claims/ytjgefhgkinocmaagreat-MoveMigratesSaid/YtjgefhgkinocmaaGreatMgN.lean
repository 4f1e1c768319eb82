/- Migrations: a plan with Moves. -/
import Derived.Test.YtjgefhgkinocmaaGreatMgI
import Derived.Test.YtjgefhgkinocmaaGreatMyR
set_option linter.all false
set_option maxRecDepth 20000
namespace Go.Proofs.YtjgefhgkinocmaaGreat
open Go.Nk
noncomputable def ydz : List DV -> Prop × DV := zbw eMov eRS fun c p => (True,.bool (decide (c.path = p)))
theorem ygy (c : Mov) (p : List UInt8) : ydz [.agg (cMov c),.ref [.str p]] = (True,.bool (decide (c.path = p))) := zac zzt inj_RS _ c p
theorem zun : OkP Tryz.prog 79 ydz := by
 refine OkP.mk2 (ps := []) (hs := []) trivial trivial zxr fun c p _ => ?_
 ((try unfold zlu); ((refine Todo.of ?_); (repeat' (first | ((with_reducible refine Todo.to ?_); (repeat (simp only [↓rP,rT,rU,eA,zb,dval,dBin,dStr,zh,za,retV,DR.val,fzT,fzV,fz1,DV.immB,DV.one,alive,cellsOf,Nat.reduceEqDiff,Nat.reduceAdd,↓reduceIte,reduceCtorEq,Nat.reduceLT,forall_const,eMov,eRS,zj c.e ])))))))
 all_goals (rw [Bool.eq_iff_iff]; simp)
@[reducible] def z9a (s : List UInt8) : DV := .clo 79 [.ref [.str s]]
theorem yhb : Inj z9a := fun _ _ h => by simpa [z9a] using h
def mvdO (m : List Mov) (p : List UInt8) : Option Nat := m.findIdx? fun c => decide (c.path = p)
def mvdI (m : List Mov) (p : List UInt8) : Int := match mvdO m p with | some k => k | none => -1
noncomputable def s_IxM : List DV -> Prop × DV := zbw zgu z9a fun m p => (m.length <= 1000000,.int .i64 (mvdI m p))
theorem s_IxM_at (m : List Mov) (p : List UInt8) : s_IxM [.sl (m.map cMov),.clo 79 [.ref [.str p]]] = (m.length <= 1000000,.int .i64 (mvdI m p)) := zac zf4 yhb _ m p
theorem zdn : OkP Tryz.prog 78 s_IxM := by
 refine OkP.mk2 (ps := [(79,ydz)]) (hs := []) ⟨zun,trivial⟩ trivial zdv fun m p h => ?_
 try dsimp only at h
 have h : m.length <= 1000000 := h
 ((try unfold zal); ((refine Todo.of ?_); (repeat' (first | ((with_reducible refine Todo.to ?_); (repeat (simp only [↓rP,rT,rU,eL,zb,dval,↓reduceIte,reduceCtorEq,Int.reduceNeg,z9a,zgu ])))))))
 refine z0 m (fun k (_ : Unit) => ⟨[(0,.sl (m.map cMov)),(1,.clo 79 [.ref [.str p]]),(7,.int .i64 m.length),(8,.int .i64 k)],[]⟩) (fun k r _ => (r.findIdx? fun c => decide (c.path = p)).map (· + k) = mvdO m p) () (Nat.zero_le _) (by simp only [zg,List.map_cons,List.map_nil,zc,Nk.get_nil,Nat.reduceEqDiff,↓reduceIte,Nat.succ_ne_self,DV.cut,DV.inB,List.take_nil,DV.inBL,Bool.and_true,reduceCtorEq] <;> rfl) (by simp [mvdO]) (fun k x r _ d hx hd hr => ?_) (fun k _ e hr => ?_)
 . rw [List.findIdx?_cons] at hr
   have e1 := ygy x p
   simp only [cMov,zj x.e] at e1
   ((try unfold zal); ((have hcondQ := Bool.and_self; refine Todo.of ?_); (repeat' (first | ((with_reducible refine Todo.to ?_); (repeat (first | (simp only [↓rP,rT,rU,zb,dval,dBin,dInt,zh,za,retV,DR.val,fzT,fzV,fz1,DV.immB,ze,zf,zp,zo,zx,zi,zq,Nat.reduceEqDiff,Nat.reduceAdd,↓reduceIte,reduceCtorEq,Nat.reduceLeDiff,Int.reduceNeg,d,zm cMov hx,zj x.e,e1 ,hcondQ]) | ((simp (disch := omega) only [z6]))))) | ((with_reducible refine And.intro ?_ ?_); . omega) | (((((with_reducible refine zd (t := ?_) ?_ (fun hcQ => ?_) (fun hcQ => ?_)); rotate_left; . (rfl))) <;> (have hn := hcQ; have hcondQ := hcQ) <;> (try simp only [decide_eq_true_eq,decide_eq_false_iff_not] at hn) <;> (refine Todo.of ?_))) | fail))))
   all_goals first
     | (have e : x.path = p := by first | exact hn | simpa using hn
        simp [e] at hr
        simp [mvdI,<- hr]; done)
     | (have e : x.path ≠ p := by first | exact hn | simpa using hn
        refine ⟨(),by simp only [zg,List.map_cons,List.map_nil,zc,Nk.get_nil,Nat.reduceEqDiff,↓reduceIte,Nat.succ_ne_self,DV.cut,DV.inB,List.take_nil,DV.inBL,Bool.and_true,reduceCtorEq,Int.natCast_add,Int.natCast_one] <;> rfl,?_⟩
        simp [e] at hr
        rw [<- hr]
        congr 1
        funext y
        simp; omega)
 . simp only [List.findIdx?_nil,Option.map_none] at hr
   ((try unfold zal); ((refine Todo.of ?_); (repeat' (first | ((with_reducible refine Todo.to ?_); (repeat (simp only [↓rP,rT,rU,zb,dval,dBin,dInt,retV,DR.val,fzT,fzV,fz1,DV.immB,Nat.reduceEqDiff,↓reduceIte,reduceCtorEq,Int.reduceNeg,e,mvdI,<- hr ])))))))
noncomputable def zzm : List DV -> Prop × DV := zbw zgu eS fun m p => (m.length <= 1000000,.int .i64 (mvdI m p))
theorem z5w (m : List Mov) (p : List UInt8) : zzm [.sl (m.map cMov),.str p] = (m.length <= 1000000,.int .i64 (mvdI m p)) := zac zf4 zml _ m p
theorem zmq : OkP Tryz.prog 26 zzm := by
 refine OkP.mk2 (ps := []) (hs := []) trivial trivial znv fun m p h => ?_
 try dsimp only at h
 have h : m.length <= 1000000 := h
 ((try unfold zck); ((refine Todo.of ?_); (repeat' (first | ((with_reducible refine Todo.to ?_); (repeat (simp only [↓rP,rT,eS,eL,zb,dval,Int.reduceNeg,zgu ])))))))
 refine z0 m (fun k (_ : Unit) => ⟨[(0,.sl (m.map cMov)),(1,.str p),(5,.int .i64 k)],[]⟩) (fun k r _ => (r.findIdx? fun c => decide (c.path = p)).map (· + k) = mvdO m p) () (Nat.zero_le _) (by simp only [zg,List.map_cons,List.map_nil,zc,Nk.get_nil,Nat.reduceEqDiff,↓reduceIte,Nat.succ_ne_self,DV.cut,DV.inB,List.take_nil,reduceCtorEq] <;> rfl) (by simp [mvdO]) (fun k x r _ d hx hd hr => ?_) (fun k _ e hr => ?_)
 . rw [List.findIdx?_cons] at hr
   ((try unfold zck); ((have hcondQ := Bool.and_self; refine Todo.of ?_); (repeat' (first | ((with_reducible refine Todo.to ?_); (repeat (first | (simp only [↓rP,rT,rU,zb,dval,dBin,dInt,dStr,zh,za,retV,DR.val,fzT,fzV,fz1,DV.immB,Nat.reduceEqDiff,Nat.reduceAdd,↓reduceIte,reduceCtorEq,Nat.reduceLT,Int.reduceNeg,d,zm cMov hx,zj x.e ,hcondQ]) | ((simp (disch := omega) only [z6]))))) | ((with_reducible refine And.intro ?_ ?_); . omega) | (((((with_reducible refine zd (t := ?_) ?_ (fun hcQ => ?_) (fun hcQ => ?_)); rotate_left; . (rfl))) <;> (have hn := hcQ; have hcondQ := hcQ) <;> (try simp only [beq_iff_eq,ne_eq,beq_eq_false_iff_ne] at hn) <;> (refine Todo.of ?_))) | fail))))
   all_goals first
     | (have e : x.path = p := by first | exact hn | simpa using hn
        simp [e] at hr
        simp [mvdI,<- hr]; done)
     | (have e : x.path ≠ p := by first | exact hn | simpa using hn
        refine ⟨(),by simp only [zg,List.map_cons,List.map_nil,zc,Nk.get_nil,Nat.reduceEqDiff,↓reduceIte,Nat.succ_ne_self,DV.cut,DV.inB,List.take_nil,reduceCtorEq,Int.natCast_add,Int.natCast_one] <;> rfl,?_⟩
        simp [e] at hr
        rw [<- hr]
        congr 1
        funext y
        simp; omega)
 . simp only [List.findIdx?_nil,Option.map_none] at hr
   ((try unfold zck); ((refine Todo.of ?_); (repeat' (first | ((with_reducible refine Todo.to ?_); (repeat (simp only [↓rP,rT,rU,zb,dval,dBin,dInt,retV,DR.val,fzT,fzV,fz1,DV.immB,Nat.reduceEqDiff,↓reduceIte,reduceCtorEq,Int.reduceNeg,e,mvdI,<- hr ])))))))
theorem zoh {m : List Mov} {p : List UInt8} (h : ¬ mvdI m p < 0) : ∃ k : Nat,mvdI m p = k /\ k < m.length /\ (m.getD k default).path = p := by
 unfold mvdI at h |-
 cases q : mvdO m p with
 | none => rw [q] at h; simp at h
 | some k =>
   have h2 := List.findIdx?_eq_some_iff_getElem.1 q
   obtain ⟨h3,h4,_⟩ := h2
   refine ⟨k,rfl,h3,?_⟩
   simp only [List.getD_eq_getElem?_getD,List.getElem?_eq_getElem h3,Option.getD_some]
   simpa using h4
def movZ : Mov := ⟨[],.mk 0 0 [] 0 [] []⟩
def mvdF (m : List Mov) (p : List UInt8) : Mov × Bool := if mvdI m p < 0 then (movZ,false) else (m.getD (mvdI m p).toNat default,true)
noncomputable def z6y : List DV -> Prop × DV := zbw zgu eS fun m p => (m.length <= 1000000,.tup [.agg (cMov (mvdF m p).1),.bool (mvdF m p).2])
theorem ybw (m : List Mov) (p : List UInt8) : z6y [.sl (m.map cMov),.str p] = (m.length <= 1000000,.tup [.agg (cMov (mvdF m p).1),.bool (mvdF m p).2]) := zac zf4 zml _ m p
theorem z03 : OkP Tryz.prog 50 z6y := by
 refine OkP.mk2 (ps := [(78,s_IxM)]) (hs := []) ⟨zdn,trivial⟩ trivial z2b fun m p h => ?_
 try dsimp only at h
 have h : m.length <= 1000000 := h
 have e1 := s_IxM_at m p
 rw [eq_true h] at e1
 by_cases c : mvdI m p < 0
 . have hr : mvdF m p = (movZ,false) := by simp [mvdF,c]
   rw [hr]
   ((try unfold zjy); ((have hcondQ := Bool.and_self; refine Todo.of ?_); (repeat' (first | ((with_reducible refine Todo.to ?_); (repeat (simp only [↓rP,rT,rU,eS,eL,zr,zb,dval,dBin,dInt,zh,za,retV,retL,DR.val,fzT,fzVs,fzV,fz1,DV.immB,ze,zf,zp,zo,capVL,capV,zi,zq,zw,DV.one,fzL,cellsOf,zk,Nat.reduceEqDiff,Nat.reduceAdd,↓reduceIte,reduceCtorEq,Nat.reduceLeDiff,forall_const,zgu,e1,c ,hcondQ]))) | ((with_reducible refine And.intro ?_ ?_); . trivial) | fail))))
   all_goals first | rfl
 . obtain ⟨k,hk,hl,_⟩ := zoh c
   have hr : mvdF m p = (m.getD k default,true) := by unfold mvdF; rw [hk,if_neg (by omega),Int.toNat_natCast]
   have gx : (m.map cMov).getD k [] = cMov (m.getD k default) := zm cMov (z4 default hl)
   rw [hr]
   rw [hk] at e1
   generalize m.getD k default = x at *
   simp only [cMov,zj x.e] at gx
   ((try unfold zjy); ((have hcondQ := Bool.and_self; refine Todo.of ?_); (repeat' (first | ((with_reducible refine Todo.to ?_); (repeat (simp only [↓rP,rT,rU,eS,eL,zb,dval,dBin,dInt,zh,za,retV,retL,DR.val,fzT,fzVs,fzV,fz1,DV.immB,ze,zf,zp,zo,capVL,capV,zi,zq,zw,DV.one,fzL,cellsOf,zk,Nat.reduceEqDiff,Nat.reduceAdd,↓reduceIte,reduceCtorEq,Nat.reduceLeDiff,forall_const,zgu,e1,gx,zj x.e ,hcondQ]))) | ((with_reducible refine And.intro ?_ ?_); . omega) | (((((with_reducible refine zd (t := ?_) ?_ (fun hcQ => ?_) (fun hcQ => ?_)); rotate_left; . (rfl))) <;> (have hn := hcQ; have hcondQ := hcQ) <;> (try simp only [decide_eq_true_eq,decide_eq_false_iff_not] at hn) <;> (try (exfalso; omega)) <;> (refine Todo.of ?_))) | fail)) <;> (try (assumption))))
   all_goals first | rfl
set_option linter.all false
set_option maxRecDepth 20000
open Go.Nk
def zgv (x : In4) : Ins := ⟨x.op,x.a,x.b,x.n⟩
theorem toIns_c (l : List In4) : (l.map zgv).map cIns = l.map cIn4 := by rw [List.map_map]; rfl
theorem z7a (l : List Int) : ils l = il l := rfl
def zmk (w : Img × Img) (l : List Mov) (s : Slt) (k : Int) : Pln :=
 if (mvdF l s.path).2 = true then ⟨3,s.at_,zt s.ty,0,[],(zwg w (mvdF l s.path).1).1.map zgv⟩
 else if k = 1 then ⟨1,s.at_,zt s.ty,(w.1.slots.getD (fndI w.1.slots s.path).toNat default).at_,[],[]⟩ else ⟨2,s.at_,zt s.ty,0,s.ini,[]⟩
def zp3 (w : Img × Img) (l : List Mov) : Prop := zpa w /\ l.length <= 1000000 /\ ∀ m ∈ l,okPl m.e
def z53 (x : Img × Img × List Mov × Slt × Int) : List DV := [.agg (cImg (x.1)),.agg (cImg (x.2.1)),.sl ((x.2.2.1).map cMov),.agg (cSlt (x.2.2.2.1)),.int .i64 (x.2.2.2.2)]
theorem z57 : InjL z53 := fun x y h => by obtain ⟨x0,x1,x2,x3,x4⟩ := x; obtain ⟨y0,y1,y2,y3,y4⟩ := y; injection h with h0 h; have q0 : x0 = y0 := za4 _ _ h0; injection h with h1 h;  have q1 : x1 = y1 := za4 _ _ h1; injection h with h2 h;  have q2 : x2 = y2 := zf4 _ _ h2; injection h with h3 h;  have q3 : x3 = y3 := z1i _ _ h3; injection h with h4 h;  have q4 : x4 = y4 := zcr _ _ h4; subst q0 q1 q2 q3 q4; rfl
noncomputable def z5i : List DV -> Prop × DV := yca z53 fun x => let a := x.1; let b := x.2.1; let l := x.2.2.1; let s := x.2.2.2.1; let k := x.2.2.2.2; (zp3 (a,b) l /\ s.ini.length <= 1000000 /\ (k = 1 -> 0 <= fndI a.slots s.path),.agg (cPln (zmk (a,b) l s k)))
theorem yba (a : Img) (b : Img) (l : List Mov) (s : Slt) (k : Int) : z5i [.agg (cImg a),.agg (cImg b),.sl (l.map cMov),.agg (cSlt s),.int .i64 k] = (zp3 (a,b) l /\ s.ini.length <= 1000000 /\ (k = 1 -> 0 <= fndI a.slots s.path),.agg (cPln (zmk (a,b) l s k))) := z88 z57 _ (a,b,l,s,k)
theorem z2x : OkP Tryz.prog 23 z5i := by
 refine OkP.mkA (ps := [(49,zcg),(50,z6y),(48,zhk),(52,znq),(51,z6v)]) (hs := []) ⟨zqq,z03,zd4,zuk,zz4,trivial⟩ trivial z7d (fun _ => rfl) fun x h => ?_
 try dsimp only at h
 obtain ⟨a,b,l,s,w⟩ := x
 obtain ⟨⟨h1,h2,h3⟩,h4,h5⟩ := h
 dsimp only [z53] at h1 h2 h3 h4 h5 |-
 have e1 := ybw l s.path
 rw [eq_true h2] at e1
 have hs := h1.1.1.1.2.2
 dsimp only at hs
 have e2 := zdu a.slots s.path
 rw [eq_true hs] at e2
 have e3 := zbn s.ty
 simp only [cTy] at e3
 have e4 := zi5 s.ini
 rw [eq_true (show s.ini.length <= 4294967296 by omega),<- z7a] at e4
 by_cases c : mvdI l s.path < 0
 rotate_left
 . obtain ⟨j,hj,hl,hp⟩ := zoh c
   have hr : mvdF l s.path = (l.getD j default,true) := by unfold mvdF; rw [hj,if_neg (by omega),Int.toNat_natCast]
   have hm : l.getD j default ∈ l := List.mem_of_getElem? (z4 default hl)
   have hr2 : zmk (a,b) l s w = ⟨3,s.at_,zt s.ty,0,[],(zwg (a,b) (l.getD j default)).1.map zgv⟩ := by unfold zmk; rw [hr,if_pos rfl]
   rw [hr2]
   rw [hr] at e1
   have e5 := yav a b (l.getD j default)
   rw [eq_true (show zpa (a,b) /\ okPl (l.getD j default).e from ⟨h1,h3 _ hm⟩)] at e5
   have ht := toIns_c (zwg (a,b) (l.getD j default)).1
   generalize zwg (a,b) (l.getD j default) = r at *
   obtain ⟨r,rb⟩ := r
   generalize l.getD j default = m at *
   simp only [cMov,zj m.e] at e1 e5
   ((try unfold zin); ((have hcondQ := Bool.and_self; refine Todo.of ?_); (repeat' (first | ((with_reducible refine Todo.to ?_); (repeat (simp only [↓rP,rT,rU,zr,zb,dval,zn,zh,za,retV,DR.val,fzT,fzVs,fzV,fz1,DV.immB,ze,zf,zp,zo,zx,zi,zq,zw,DV.one,alive,fzL,cellsOf,zk,DV.isU,Nat.reduceEqDiff,Nat.reduceAdd,↓reduceIte,reduceCtorEq,Nat.reduceLeDiff,Nat.reduceLT,forall_const,e1,e3,e5,hcondQ]))) | ((with_reducible refine And.intro ?_ ?_); . trivial) | fail))))
   all_goals first | exact congrArg DV.sl ht.symm
 have hr : mvdF l s.path = (movZ,false) := by simp [mvdF,c]
 rw [hr] at e1
 by_cases q : w = 1
 . obtain ⟨k,hk⟩ : ∃ k : Nat,fndI a.slots s.path = k := ⟨(fndI a.slots s.path).toNat,by have := h5 q; omega⟩
   have hk2 : k < a.slots.length := by
     obtain ⟨k',e,h⟩ := zca (m := a.slots) (p := s.path) (by omega)
     omega
   have gx : (a.slots.map cSlt).getD k [] = cSlt (a.slots.getD k default) := zm cSlt (by simp [hk2])
   have hr2 : zmk (a,b) l s w = ⟨1,s.at_,zt s.ty,(a.slots.getD k default).at_,[],[]⟩ := by simp [zmk,hr,q,hk]
   rw [hr2]
   rw [hk] at e2
   subst q
   ((try unfold zin); ((have hcondQ := Bool.and_self; refine Todo.of ?_); (repeat' (first | ((with_reducible refine Todo.to ?_); (repeat (simp only [↓rP,rT,rU,zr,zb,dval,zn,dBin,dInt,zh,za,retV,DR.val,fzT,fzVs,fzV,fz1,DV.immB,ze,zf,zp,zo,zx,zi,zq,zw,DV.one,alive,fzL,cellsOf,zk,DV.isU,Nat.reduceEqDiff,Nat.reduceAdd,↓reduceIte,reduceCtorEq,Nat.reduceLeDiff,Nat.reduceLT,forall_const,e1,e2,e3,gx,movZ,cEx ,hcondQ]))) | ((with_reducible refine And.intro ?_ ?_); . omega) | fail))))
   all_goals first | rfl
 . have hr2 : zmk (a,b) l s w = ⟨2,s.at_,zt s.ty,0,s.ini,[]⟩ := by simp [zmk,hr,q]
   rw [hr2]
   ((try unfold zin); ((have hcondQ := Bool.and_self; refine Todo.of ?_); (repeat' (first | ((with_reducible refine Todo.to ?_); (repeat (simp only [↓rP,rT,rU,zr,zb,dval,zn,dBin,dInt,zh,za,retV,DR.val,fzT,fzVs,fzV,fz1,DV.immB,ze,zf,zp,zo,zx,zi,zq,zw,DV.one,alive,fzL,cellsOf,zk,DV.isU,Nat.reduceEqDiff,Nat.reduceAdd,↓reduceIte,reduceCtorEq,Nat.reduceLeDiff,Nat.reduceLT,forall_const,e1,e3,e4,movZ,cEx ,hcondQ]))) | (((((with_reducible refine zd (t := ?_) ?_ (fun hcQ => ?_) (fun hcQ => ?_)); rotate_left; . (rfl))) <;> (have hn := hcQ; have hcondQ := hcQ) <;> (try simp only [beq_iff_eq,ne_eq,beq_eq_false_iff_ne] at hn) <;> (try (exfalso; omega)) <;> (refine Todo.of ?_))) | fail))))
   all_goals first | rfl
theorem zj4 {a b : Img} {s : Slt} (h : zc8 a b s = 1) : 0 <= fndI a.slots s.path := by
 unfold zc8 at h
 split at h
 . cases h
 . omega
def zf3 (w : Img × Img) (l : List Mov) : List Pln := w.2.slots.map fun s => zmk w l s (zc8 w.1 w.2 s)
def z0i (w : Img × Img) (l : List Mov) : List Pln × Int × Int := if (zcb w l 0).2 = 0 then (zf3 w l,(zcb w l 0).1,0) else ([],(zcb w l 0).1,(zcb w l 0).2)
noncomputable def z5e : List DV -> Prop × DV := zec eImg eImg zgu fun a b l => (zp3 (a,b) l /\ ∀ s ∈ b.slots,s.ini.length <= 1000000,.tup [.sl ((z0i (a,b) l).1.map cPln),.int .i64 (z0i (a,b) l).2.1,.int .i64 (z0i (a,b) l).2.2])
theorem ybv (a : Img) (b : Img) (l : List Mov) : z5e [.agg (cImg a),.agg (cImg b),.sl (l.map cMov)] = (zp3 (a,b) l /\ ∀ s ∈ b.slots,s.ini.length <= 1000000,.tup [.sl ((z0i (a,b) l).1.map cPln),.int .i64 (z0i (a,b) l).2.1,.int .i64 (z0i (a,b) l).2.2]) := za2 za4 za4 zf4 _ a b l
theorem z4u : OkP Tryz.prog 8 z5e := by
 refine OkP.mk3 (ps := [(21,z0s),(22,ygd),(23,z5i)]) (hs := []) ⟨zx1,zxm,z2x,trivial⟩ trivial z6i fun a b l h => ?_
 try dsimp only at h
 obtain ⟨hf,hi⟩ := h
 have hf0 := hf
 obtain ⟨h1,h2,h3⟩ := hf0
 obtain ⟨ha,hb⟩ := h1.1.1
 dsimp only at ha hb
 have e1 := z46 a b l
 rw [eq_true (show zbe (a,b) /\ l.length <= 1000000 /\ ∀ m ∈ l,okPl m.e from ⟨h1.1,h2,h3⟩)] at e1
 have e2 := ydt a b
 rw [eq_true (show zj9 a /\ zj9 b from ⟨ha,hb⟩)] at e2
 have hn := hb.2.2
 have hr : z0i (a,b) l = if (zcb (a,b) l 0).2 = 0 then (zf3 (a,b) l,(zcb (a,b) l 0).1,0) else ([],(zcb (a,b) l 0).1,(zcb (a,b) l 0).2) := rfl
 rw [hr]
 generalize zcb (a,b) l 0 = ce at *
 obtain ⟨n,e⟩ := ce
 simp only [cImg] at e1 e2
 by_cases c : e = 0
 rotate_left
 . rw [if_neg c]
   ((try unfold zgt); ((have hcondQ := Bool.and_self; refine Todo.of ?_); (repeat' (first | ((with_reducible refine Todo.to ?_); (repeat (simp only [↓rP,rT,rU,eL,eA,zb,dval,dBin,dInt,zh,za,retV,retL,DR.val,fzT,fzVs,fzV,fz1,DV.immB,ze,zf,zp,zo,zx,zi,zq,cellsOf,Nat.reduceEqDiff,Nat.reduceAdd,↓reduceIte,reduceCtorEq,Nat.reduceLeDiff,Nat.reduceLT,eImg,zgu,e1,hcondQ]))) | (((((with_reducible refine zd (t := ?_) ?_ (fun hcQ => ?_) (fun hcQ => ?_)); rotate_left; . (rfl))) <;> (have hn := hcQ; have hcondQ := hcQ) <;> (try simp only [bne_iff_ne,ne_eq,bne_eq_false_iff_eq] at hn) <;> (try (exfalso; omega)) <;> (refine Todo.of ?_))) | fail))))
   all_goals first | rfl
 subst c
 rw [if_pos rfl]
 ((try unfold zgt); ((have hcondQ := Bool.and_self; refine Todo.of ?_); (repeat' (first | ((with_reducible refine Todo.to ?_); (repeat (simp only [↓rP,rT,rU,eL,eA,zb,dval,dBin,dInt,zh,za,fzVs,fzV,fz1,DV.immB,ze,zf,zp,zo,zx,zi,zq,fzL,cellsOf,Nat.reduceEqDiff,Nat.reduceAdd,↓reduceIte,reduceCtorEq,Nat.reduceLeDiff,Nat.reduceLT,eImg,zgu,e1,e2 ,hcondQ])))))))
 have hl : b.slots.length <= (z0c a b).length := by simp [z0c,newF]
 refine z0 b.slots (fun k (o : List Pln) => ⟨[(2,.sl (l.map cMov)),(3,.ref (cImg a)),(4,.ref (cImg b)),(9,.int .i64 n),(11,.own 0 o.length 0 o.length),(12,.sl ((z0c a b).map cChg)),(30,.sl (b.slots.map cSlt)),(31,.int .i64 b.slots.length),(32,.int .i64 k)],[⟨.imm,6,o.map cPln⟩]⟩)
   (fun k r o => o ++ (r.map fun s => zmk (a,b) l s (zc8 a b s)) = zf3 (a,b) l /\ o.length = k) [] (Nat.zero_le _) (by simp only [zg,List.map_cons,List.map_nil,zc,Nk.get_nil,Nat.reduceEqDiff,↓reduceIte,Nat.succ_ne_self,DV.cut,DV.inB,DObj.cut,List.take_nil,reduceCtorEq,Nat.zero_lt_one,decide_true,List.take_succ_cons,List.length_nil] <;> rfl) ⟨rfl,rfl⟩ (fun k x r o d hx hd hr => ?_) (fun k o e hr => ?_)
 . obtain ⟨g1,g2⟩ := hr
   have hc : (z0c a b)[k]? = some ⟨x.path,zc8 a b x⟩ := by
     rw [z0c,List.getElem?_append_left (by simpa [newF] using d)]
     simp [newF,hx]
   have gc : ((z0c a b).map cChg).getD k [] = cChg ⟨x.path,zc8 a b x⟩ := zm cChg hc
   have e3 := yba a b l x (zc8 a b x)
   rw [eq_true (show zp3 (a,b) l /\ x.ini.length <= 1000000 /\ (zc8 a b x = 1 -> 0 <= fndI a.slots x.path) from ⟨hf,hi x (List.mem_of_getElem? hx),zj4⟩)] at e3
   simp only [List.map_cons] at g1
   generalize zmk (a,b) l x (zc8 a b x) = y at *
   simp only [cSlt,cImg,cPln] at e3
   ((try unfold zgt); ((have hcondQ := Bool.and_self; refine Todo.of ?_); (repeat' (first | ((with_reducible refine Todo.to ?_); (repeat (first | (simp only [↓rP,rT,rU,zb,dval,dBin,dInt,zh,za,fzVs,fzV,fz1,DV.immB,ze,zf,zp,zo,zx,zi,zq,zy,zax,zw,DV.one,fzLL,fzL,bRow,bU,cellsOf,zk,DV.isU,zat,Nat.reduceEqDiff,Nat.reduceAdd,↓reduceIte,reduceCtorEq,Nat.reduceLeDiff,forall_const,d,zm cSlt hx,gc,e3 ,hcondQ]) | ((simp (disch := omega) only [z6]))))) | ((with_reducible refine And.intro ?_ ?_); . omega) | fail))))
   all_goals first
     | exact ⟨o ++ [y],by simp only [zg,List.map_cons,List.map_nil,zc,Nk.get_nil,Nat.reduceEqDiff,↓reduceIte,Nat.succ_ne_self,DV.cut,DV.inB,DObj.cut,List.take_zero,reduceCtorEq,Nat.zero_lt_one,decide_true,List.take_succ_cons,Int.natCast_add,Int.natCast_one,List.length_append,List.length_cons,List.length_nil,Nat.zero_add,List.map_append] <;> rfl,by simpa using g1,by simp; omega⟩
 . obtain ⟨g1,g2⟩ := hr
   simp only [List.map_nil,List.append_nil] at g1
   subst g1
   ((try unfold zgt); ((refine Todo.of ?_); (repeat' (first | ((with_reducible refine Todo.to ?_); (repeat (simp only [↓rP,rT,rU,zb,dval,dBin,dInt,retV,retL,DR.val,fzT,fzVs,fzV,fz1,DV.immB,zy,freezeAt,Nat.reduceEqDiff,↓reduceIte,reduceCtorEq,e ]))) | ((with_reducible refine And.intro ?_ ?_); . omega) | fail))))
   all_goals first
     | exact congrArg DV.sl (List.take_of_length_le (by simp))
set_option linter.all false
set_option maxRecDepth 20000
open Go.Nk
def fitF (a b : Img) (l : List Mov) : Bool := fewF a && fewF b && fewM l && zpr a && zpr b && l.all fun m => zgl m.e
def z30 (l : List Mov) : Prop := l.length <= 1000000000000000
noncomputable def yek : List DV -> Prop × DV := zec eImg eImg zgu fun a b l => (zv3 a /\ zv3 b /\ z30 l,.bool (fitF a b l))
theorem yda (a : Img) (b : Img) (l : List Mov) : yek [.agg (cImg a),.agg (cImg b),.sl (l.map cMov)] = (zv3 a /\ zv3 b /\ z30 l,.bool (fitF a b l)) := za2 za4 za4 zf4 _ a b l
theorem zqa : OkP Tryz.prog 5 yek := by
 refine OkP.mk3 (ps := [(13,s_Few),(14,ydu),(15,yd7),(16,z1w)]) (hs := []) ⟨zp5,zq1,zo3,zmd,trivial⟩ trivial zs0 fun a b l h => ?_
 try dsimp only at h
 obtain ⟨ha,hb,hm⟩ := h
 have hm : l.length <= 1000000000000000 := hm
 have e0 := yf2 l
 have e1 := z83 a
 have e2 := z83 b
 rw [eq_true (show l.length <= 4611686018427387904 by omega)] at e0
 rw [eq_true ha] at e1
 rw [eq_true hb] at e2
 by_cases q1 : fewF a = true
 rotate_left
 . have hr : fitF a b l = false := by simp [fitF,q1]
   rw [hr]
   simp only [cImg] at e1 e2
   ((try unfold zas); ((have hcondQ := Bool.and_self; refine Todo.of ?_); (repeat' (first | ((with_reducible refine Todo.to ?_); (repeat (simp only [↓rP,rT,rU,eL,eA,zb,dval,dUn,zh,za,retV,DR.val,fzT,fzV,fz1,DV.immB,ze,zf,zp,zo,zx,zi,zq,cellsOf,Nat.reduceEqDiff,Nat.reduceAdd,↓reduceIte,Nat.reduceLeDiff,eImg,zgu,e1,q1 ,hcondQ])))))))
 by_cases q2 : fewF b = true
 rotate_left
 . have hr : fitF a b l = false := by simp [fitF,q2]
   rw [hr]
   simp only [cImg] at e1 e2
   ((try unfold zas); ((have hcondQ := Bool.and_self; refine Todo.of ?_); (repeat' (first | ((with_reducible refine Todo.to ?_); (repeat (simp only [↓rP,rT,rU,eL,eA,zb,dval,dUn,zh,za,retV,DR.val,fzT,fzV,fz1,DV.immB,ze,zf,zp,zo,zx,zi,zq,cellsOf,Nat.reduceEqDiff,Nat.reduceAdd,↓reduceIte,Nat.reduceLeDiff,eImg,zgu,e1,e2,q1,q2 ,hcondQ])))))))
 have e3 := z2o a
 have e4 := z2o b
 rw [eq_true (zrf q1)] at e3
 rw [eq_true (zrf q2)] at e4
 simp only [cImg] at e1 e2 e3 e4
 by_cases q0 : fewM l = true
 rotate_left
 . have hr : fitF a b l = false := by simp [fitF,q0]
   rw [hr]
   ((try unfold zas); ((have hcondQ := Bool.and_self; refine Todo.of ?_); (repeat' (first | ((with_reducible refine Todo.to ?_); (repeat (simp only [↓rP,rT,rU,eL,eA,zb,dval,dUn,zh,za,retV,DR.val,fzT,fzV,fz1,DV.immB,ze,zf,zp,zo,zx,zi,zq,cellsOf,Nat.reduceEqDiff,Nat.reduceAdd,↓reduceIte,reduceCtorEq,Nat.reduceLeDiff,eImg,zgu,e0,e1,e2,q0,q1,q2 ,hcondQ])))))))
 by_cases q3 : zpr a = true
 rotate_left
 . have hr : fitF a b l = false := by simp [fitF,q3]
   rw [hr]
   ((try unfold zas); ((have hcondQ := Bool.and_self; refine Todo.of ?_); (repeat' (first | ((with_reducible refine Todo.to ?_); (repeat (simp only [↓rP,rT,rU,eL,eA,zb,dval,dUn,zh,za,retV,DR.val,fzT,fzV,fz1,DV.immB,ze,zf,zp,zo,zx,zi,zq,cellsOf,Nat.reduceEqDiff,Nat.reduceAdd,↓reduceIte,reduceCtorEq,Nat.reduceLeDiff,eImg,zgu,e0,e1,e2,e3,q0,q1,q2,q3 ,hcondQ])))))))
 by_cases q4 : zpr b = true
 rotate_left
 . have hr : fitF a b l = false := by simp [fitF,q4]
   rw [hr]
   ((try unfold zas); ((have hcondQ := Bool.and_self; refine Todo.of ?_); (repeat' (first | ((with_reducible refine Todo.to ?_); (repeat (simp only [↓rP,rT,rU,eL,eA,zb,dval,dUn,zh,za,retV,DR.val,fzT,fzV,fz1,DV.immB,ze,zf,zp,zo,zx,zi,zq,cellsOf,Nat.reduceEqDiff,Nat.reduceAdd,↓reduceIte,reduceCtorEq,Nat.reduceLeDiff,eImg,zgu,e0,e1,e2,e3,e4,q0,q1,q2,q3,q4 ,hcondQ])))))))
 have hr : fitF a b l = l.all fun m => zgl m.e := by simp [fitF,q0,q1,q2,q3,q4]
 rw [hr]
 have q0' := q0
 simp only [fewM,z2n,Bool.and_eq_true,decide_eq_true_eq,List.all_eq_true] at q0'
 ((try unfold zas); ((have hcondQ := Bool.and_self; refine Todo.of ?_); (repeat' (first | ((with_reducible refine Todo.to ?_); (repeat (simp only [↓rP,rT,rU,eL,eA,zb,dval,dUn,zh,za,DV.immB,ze,zf,zp,zo,zx,zi,zq,cellsOf,Nat.reduceEqDiff,Nat.reduceAdd,↓reduceIte,reduceCtorEq,Nat.reduceLeDiff,eImg,zgu,e0,e1,e2,e3,e4,q0,q1,q2,q3,q4 ,hcondQ])))))))
 refine z0 l (fun k (_ : Unit) => ⟨[(2,.sl (l.map cMov)),(7,.int .i64 k)],[]⟩) (fun k r _ => (r.all fun m => zgl m.e) = l.all fun m => zgl m.e) () (Nat.zero_le _) (by simp only [zg,List.map_cons,List.map_nil,zc,Nk.get_nil,Nat.reduceEqDiff,↓reduceIte,Nat.succ_ne_self,DV.cut,DV.inB,List.take_nil,reduceCtorEq] <;> rfl) rfl (fun k x r _ d hx hd hr => ?_) (fun k _ e hr => ?_)
 . rw [List.all_cons] at hr
   have e5 := z7l x.e
   rw [eq_true (q0'.2 x (List.mem_of_getElem? hx)).2] at e5
   simp only [zj x.e] at e5
   cases hf : zgl x.e
   . rw [hf,Bool.false_and] at hr
     ((try unfold zas); ((refine Todo.of ?_); (repeat' (first | ((with_reducible refine Todo.to ?_); (repeat (simp only [↓rP,rT,rU,zb,dval,dBin,dInt,dUn,zh,za,retV,DR.val,fzT,fzV,fz1,DV.immB,ze,zf,zp,zo,zx,zi,zq,Nat.reduceEqDiff,Nat.reduceAdd,↓reduceIte,Nat.reduceLeDiff,d,zm cMov hx,zj x.e,e5,hf,<- hr ]))))) <;> (try (omega))))
   . rw [hf,Bool.true_and] at hr
     ((try unfold zas); ((refine Todo.of ?_); (repeat' (first | ((with_reducible refine Todo.to ?_); (repeat (first | (simp only [↓rP,rT,rU,zb,dval,dBin,dInt,dUn,zh,za,DV.immB,ze,zf,zp,zo,zx,zi,zq,Nat.reduceEqDiff,Nat.reduceAdd,↓reduceIte,Nat.reduceLeDiff,d,zm cMov hx,zj x.e,e5,hf ]) | ((simp (disch := omega) only [z6]))))) | ((with_reducible refine And.intro ?_ ?_); . omega) | fail))))
     exact ⟨(),by simp only [zg,List.map_cons,List.map_nil,zc,Nk.get_nil,Nat.reduceEqDiff,↓reduceIte,DV.cut,DV.inB,List.take_nil,Int.natCast_add,Int.natCast_one] <;> rfl,hr⟩
 . rw [List.all_nil] at hr
   ((try unfold zas); ((refine Todo.of ?_); (repeat' (first | ((with_reducible refine Todo.to ?_); (repeat (simp only [↓rP,rT,rU,zb,dval,dBin,dInt,retV,DR.val,fzT,fzV,fz1,DV.immB,Nat.reduceEqDiff,↓reduceIte,e,<- hr ])))))))
def zkq (st : List Int) (s : Slt) : List Int := (st.take (s.at_ + zt s.ty).toNat).drop s.at_.toNat
def zap (a : Img) (st : List Int) (p : List UInt8) : List Int := zkq st (a.slots.getD (fndI a.slots p).toNat default)
def inSt (a : Img) (st : List Int) : Prop := a.slots.length <= 1000000 /\ st.length <= 1000000000 /\ ∀ s ∈ a.slots,0 <= s.at_ /\ s.at_ + zt s.ty <= st.length
noncomputable def z1r : List DV -> Prop × DV := zec eImg eIls eS fun a st p => (inSt a st /\ 0 <= fndI a.slots p,.sl (ils (zap a st p)))
theorem zrb (a : Img) (st : List Int) (p : List UInt8) : z1r [.agg (cImg a),.sl (ils st),.str p] = (inSt a st /\ 0 <= fndI a.slots p,.sl (ils (zap a st p))) := za2 za4 zl3 zml _ a st p
theorem zgg : OkP Tryz.prog 55 z1r := by
 refine OkP.mk3 (ps := [(29,zhk),(30,zcg)]) (hs := []) ⟨zco,zc6,trivial⟩ trivial zof fun a st p h => ?_
 try dsimp only at h
 obtain ⟨⟨h1,h2,h3⟩,h4⟩ := h
 obtain ⟨j,hj,hl⟩ := zca (m := a.slots) (p := p) (by omega)
 have e1 := zdu a.slots p
 rw [eq_true h1,hj] at e1
 have gx : (a.slots.map cSlt).getD j [] = cSlt (a.slots.getD j default) := zm cSlt (z4 default hl)
 have hm := h3 _ (List.mem_of_getElem? (z4 default hl))
 have hr : zap a st p = zkq st (a.slots.getD j default) := by simp [zap,hj]
 rw [hr]
 generalize a.slots.getD j default = s at *
 have e2 := zbn s.ty
 have hb := zad s.ty
 simp only [cTy] at e2
 have w2 : IntKind.i64.wrap (s.at_ + zt s.ty) = s.at_ + zt s.ty := z9 (by omega)
 have e3 := fun hp => zv9 (hp := hp) (l := st) (a := s.at_) (b := s.at_ + zt s.ty) hm.1 (by omega) (by omega)
 ((try unfold zgz); ((have hcondQ := Bool.and_self; refine Todo.of ?_); (repeat' (first | ((with_reducible refine Todo.to ?_); (repeat (simp only [↓rP,rT,rU,eS,eA,zb,dval,dBin,dInt,zh,za,retV,DR.val,fzT,fzV,fz1,DV.immB,ze,zf,zp,zo,zx,zi,zq,zw,DV.one,alive,cellsOf,zk,Nat.reduceEqDiff,Nat.reduceAdd,↓reduceIte,reduceCtorEq,Nat.reduceLeDiff,Nat.reduceLT,forall_const,eIls,eImg,e1,e2,e3,gx,w2 ,hcondQ]))) | ((with_reducible refine And.intro ?_ ?_); . omega) | fail))))
 all_goals first | rfl
set_option linter.all false
set_option maxRecDepth 20000
open Go.Nk
def getV (a : List Int) (i : Int × Int) : Int × Int := if i.2 ≠ 0 then (0,i.2) else if i.1 < 0 \/ (a.length : Int) <= i.1 then (0,16) else (a.getD i.1.toNat 0,0)
def opV (k o : Int) (v : List (Int × Int)) : Int × Int :=
 if (v.getD 0 (0,0)).2 ≠ 0 then (0,(v.getD 0 (0,0)).2) else if k = 5 then unF o (v.getD 0 (0,0)).1 else if k = 7 then (if (v.getD 0 (0,0)).1 ≠ 0 then v.getD 1 (0,0) else v.getD 2 (0,0))
 else if (v.getD 1 (0,0)).2 ≠ 0 then (0,(v.getD 1 (0,0)).2) else binF o (v.getD 0 (0,0)).1 (v.getD 1 (0,0)).1
mutual
def valE (w : Img × Img) (st : List Int) : Ex -> Int × Int
 | .mk k n s o _ l => if k = 1 \/ k = 2 then (n,0) else if k = 4 then ((armT w.2.en s).2.1,0) else if k = 17 then ((zap w.1 st s).getD 0 0,0)
   else if k = 15 then getV (zap w.1 st (l.getD 0 default).name) ((valL w st l).getD 1 (0,0)) else opV k o (valL w st l)
def valL (w : Img × Img) (st : List Int) : List Ex -> List (Int × Int)
 | [] => []
 | x :: l => valE w st x :: valL w st l
end
theorem z78 (w : Img × Img) (st : List Int) : ∀ l : List Ex,valL w st l = l.map (valE w st)
 | [] => by rw [valL]; rfl
 | x :: l => by rw [valL,z78 w st l]; rfl
theorem z1n (w : Img × Img) (st : List Int) : ∀ e : Ex,valE w st e =
   if e.kind = 1 \/ e.kind = 2 then (e.n,0) else if e.kind = 4 then ((armT w.2.en e.name).2.1,0) else if e.kind = 17 then ((zap w.1 st e.name).getD 0 0,0)
   else if e.kind = 15 then getV (zap w.1 st (e.subs.getD 0 default).name) ((e.subs.map (valE w st)).getD 1 (0,0)) else opV e.kind e.op (e.subs.map (valE w st))
 | .mk k n s o a l => by rw [valE,z78]; rfl
theorem zft {w : Img × Img} {st : List Int} {l : List Ex} {i : Nat} (h : i < l.length) : (l.map (valE w st)).getD i (0,0) = valE w st (l.getD i default) := by
 simp [List.getD,h]
theorem zci {w : Img × Img} {p : List UInt8} (h : (zc1 w p).2 = true) : 0 <= fndI w.1.slots p := by
 unfold zc1 at h
 split at h
 . rename_i c
   unfold za5 at c
   split at c
   . cases c
   . omega
 . cases h
theorem zkw {a : Img} {st : List Int} (h : inSt a st) {p : List UInt8} (hf : 0 <= fndI a.slots p) : ((zap a st p).length : Int) = zt (a.slots.getD (fndI a.slots p).toNat default).ty := by
 obtain ⟨j,hj,hl⟩ := zca (m := a.slots) (p := p) (by omega)
 obtain ⟨h1,h2,h3⟩ := h
 have hm := h3 _ (List.mem_of_getElem? (z4 default hl))
 simp only [zap,zkq,hj,Int.toNat_natCast]
 generalize a.slots.getD j default = s at *
 have hb := zad s.ty
 rw [List.length_drop,List.length_take]
 omega
theorem z4g {a : Img} {st : List Int} (h : ∀ x ∈ st,in64 x) {p : List UInt8} : ∀ x ∈ zap a st p,in64 x := fun x hx => h x (List.mem_of_mem_take (List.mem_of_mem_drop hx))
theorem ygb {l : List Int} (h : ∀ x ∈ l,in64 x) (i : Nat) : in64 (l.getD i 0) := by
 rw [List.getD_eq_getElem?_getD]
 cases e : l[i]? with
 | none => exact ⟨by simp,by simp⟩
 | some x => exact h x (List.mem_of_getElem? e)
def okN (e : Ex) : Prop := ∀ x ∈ zaj e,in64 x.n
theorem okN.sub {e x : Ex} (h : okN e) (hx : x ∈ e.subs) : okN x := fun y hy => h y (zn2 hx hy)
structure valFit (w : Img × Img) (st : List Int) (e : Ex) : Prop where
 way : zbe w
 arm : ∀ s,in64 (armT w.2.en s).2.1
 s : inSt w.1 st
 ci : ∀ x ∈ st,in64 x
 pl : okPl e
 n : okN e
 ty : (tyE w e).2 = true
theorem zrl {w : Img × Img} {e : Ex} (h : (tyE w e).2 = true) (k : e.kind = 5 \/ e.kind = 6 \/ e.kind = 7) : ∀ x ∈ e.subs,(tyE w x).2 = true := by
 rw [zif,if_neg (by omega),if_neg (by omega),if_neg (by omega),if_neg (by omega),if_pos k] at h
 unfold opT at h
 split at h
 . rename_i c
   have := (ziz c).2
   intro x hx
   exact this _ (List.mem_map_of_mem hx)
 . cases h
theorem zz6 {w : Img × Img} {e : Ex} (h : (tyE w e).2 = true) (k : e.kind = 15) (hl : e.subs.length = 2) : (zc1 w (e.subs.getD 0 default).name).2 = true /\ (tyE w (e.subs.getD 1 default)).2 = true := by
 rw [zif,if_neg (by omega),if_neg (by omega),if_neg (by omega),if_neg (by omega),if_neg (by omega),if_pos k] at h
 have : (e.subs.map (tyE w)).getD 1 (tyZ,false) = tyE w (e.subs.getD 1 default) := by simp [List.getD,hl]
 rw [this] at h
 simp only [zj7,Bool.and_eq_true] at h
 exact ⟨h.1.1.1.2,h.1.1.2⟩
theorem znc {w : Img × Img} {e : Ex} (h : (tyE w e).2 = true) : e.kind = 1 \/ e.kind = 2 \/ e.kind = 4 \/ e.kind = 17 \/ e.kind = 15 \/ e.kind = 5 \/ e.kind = 6 \/ e.kind = 7 := by
 rw [zif] at h
 by_cases c : e.kind = 1 \/ e.kind = 2 \/ e.kind = 4 \/ e.kind = 17 \/ e.kind = 15 \/ e.kind = 5 \/ e.kind = 6 \/ e.kind = 7
 . exact c
 . rw [if_neg (by omega),if_neg (by omega),if_neg (by omega),if_neg (by omega),if_neg (by omega),if_neg (by omega)] at h
   cases h
theorem valFit.sub {w : Img × Img} {st : List Int} {e x : Ex} (h : valFit w st e) (hx : x ∈ e.subs) (ht : (tyE w x).2 = true) : valFit w st x := ⟨h.way,h.arm,h.s,h.ci,h.pl.sub hx,h.n.sub hx,ht⟩
theorem yer {w : Img × Img} {st : List Int} (e : Ex) (h : valFit w st e) : in64 (valE w st e).1 := by
 have z : in64 0 := ⟨by simp,by simp⟩
 induction e using Ex.ind with
 | h e ih =>
   have sub : ∀ i,i < e.subs.length -> (∀ x ∈ e.subs,(tyE w x).2 = true) -> in64 ((e.subs.map (valE w st)).getD i (0,0)).1 := fun i hi ht => by
     have hm : e.subs.getD i default ∈ e.subs := List.mem_of_getElem? (z4 default hi)
     rw [zft hi]
     exact ih _ hm (h.sub hm (ht _ hm))
   rw [z1n]
   have hk := znc h.ty
   split
   . exact h.n e (zgd e)
   split
   . exact h.arm _
   split
   . exact ygb (z4g h.ci) 0
   split
   . unfold getV
     split
     . exact z
     split
     . exact z
     . exact ygb (z4g h.ci) _
   . have k : e.kind = 5 \/ e.kind = 6 \/ e.kind = 7 := by omega
     have ts := zrl h.ty k
     have hln := h.pl.len
     unfold opV
     split
     . exact z
     split
     . exact unF_in _ _
     split
     . rename_i k7
       have hsb : za8 e = (3,3) := by simp [za8,k7]
       rw [hsb] at hln
       dsimp only at hln
       split
       . exact sub 1 (by omega) ts
       . exact sub 2 (by omega) ts
     split
     . exact z
     . have k6 : e.kind = 6 := by omega
       have hsb : za8 e = (2,2) := by simp [za8,k6]
       rw [hsb] at hln
       dsimp only at hln
       exact yf7 (sub 0 (by omega) ts) (sub 1 (by omega) ts)
noncomputable def zqr : List DV -> Prop × DV := zxn eImg eImg eIls eEx fun a b st e => (valFit (a,b) st e,.tup [.int .i64 (valE (a,b) st e).1,.int .i64 (valE (a,b) st e).2])
theorem zqt (a : Img) (b : Img) (st : List Int) (e : Ex) : zqr [.agg (cImg a),.agg (cImg b),.sl (ils st),.agg (cEx e)] = (valFit (a,b) st e,.tup [.int .i64 (valE (a,b) st e).1,.int .i64 (valE (a,b) st e).2]) := zzn za4 za4 zl3 zdf _ a b st e
theorem zly : OkP Tryz.prog 56 zqr := by
 refine OkP.rec fun N ih => ?_
 unfold zqr
 rw [yej]
 refine OkP.mk4 (ps := [(56,lim N zqr),(83,z6b),(55,z1r),(84,s_Un),(85,ygo)]) (hs := []) ⟨ih,zqm,zgg,ygs,ya9,trivial⟩ trivial zo2 fun a b st e h => ?_
 try dsimp only at h
 obtain ⟨h,h2⟩ := h
 have hs : ∀ x ∈ e.subs,szL [eImg a,eImg b,eIls st,eEx x] < N := fun x hx => by
   have := znn hx
   simp only [szL,DV.sz] at h2 |-
   omega
 have hln := h.pl.len
 have hE : ∀ x ∈ e.subs,(tyE (a,b) x).2 = true -> zqr [.agg (cImg a),.agg (cImg b),.sl (ils st),.agg (cEx x)] = (True,.tup [.int .i64 (valE (a,b) st x).1,.int .i64 (valE (a,b) st x).2]) /\ szL [DV.agg (cImg a),.agg (cImg b),.sl (ils st),.agg (cEx x)] < N := fun x hx ht => by
   rw [zqt]
   exact ⟨congrArg (·,_) (eq_true (h.sub hx ht)),hs x hx⟩
 have hcE := z1n (a,b) st e
 by_cases k1 : e.kind = 1
 . rw [hcE,if_pos (.inl k1)]
   ((try unfold z5); ((have hcondQ := Bool.and_self; refine Todo.of ?_); (repeat' (first | ((with_reducible refine Todo.to ?_); (repeat (simp only [↓rP,rT,rU,eA,zb,dval,dBin,dInt,zh,za,retV,retL,DR.val,fzT,fzVs,fzV,fz1,DV.immB,cellsOf,Nat.reduceEqDiff,Nat.reduceAdd,↓reduceIte,reduceCtorEq,Nat.reduceLT,eEx,eIls,eImg,zj e,k1 ,hcondQ])))))))
   all_goals first | rfl
 by_cases k2 : e.kind = 2
 . rw [hcE,if_pos (.inr k2)]
   ((try unfold z5); ((have hcondQ := Bool.and_self; refine Todo.of ?_); (repeat' (first | ((with_reducible refine Todo.to ?_); (repeat (simp only [↓rP,rT,rU,eA,zb,dval,dBin,dInt,zh,za,retV,retL,DR.val,fzT,fzVs,fzV,fz1,DV.immB,cellsOf,Nat.reduceEqDiff,Nat.reduceAdd,↓reduceIte,reduceCtorEq,Nat.reduceLT,Int.reduceBEq,eEx,eIls,eImg,zj e,k2 ,hcondQ])))))))
   all_goals first | rfl
 rw [if_neg (by omega)] at hcE
 by_cases k4 : e.kind = 4
 . rw [hcE,if_pos k4]
   have e1 := zti b.en e.name
   rw [eq_true h.way.2] at e1
   dsimp only
   generalize armT b.en e.name = u at *
   simp only [cTy] at e1
   ((try unfold z5); ((have hcondQ := Bool.and_self; refine Todo.of ?_); (repeat' (first | ((with_reducible refine Todo.to ?_); (repeat (simp only [↓rP,rT,rU,eA,zb,dval,dBin,dInt,zh,za,retV,retL,DR.val,fzT,fzVs,fzV,fz1,DV.immB,ze,zf,zp,zo,zi,zq,zw,DV.one,cellsOf,zk,Nat.reduceEqDiff,Nat.reduceAdd,↓reduceIte,reduceCtorEq,Nat.reduceLeDiff,Nat.reduceLT,Int.reduceBEq,forall_const,eEx,eIls,eImg,zj e,k4,e1 ,hcondQ])))))))
   all_goals first | rfl
 by_cases k17 : e.kind = 17
 . rw [hcE,if_neg k4,if_pos k17]
   have hf : 0 <= fndI a.slots e.name := by
     have := h.ty
     rw [zif,if_neg k1,if_neg k2,if_neg k4,if_pos k17] at this
     simp only [Bool.and_eq_true] at this
     exact zci (w := (a,b)) this.1
   have e1 := zrb a st e.name
   rw [eq_true (show inSt a st /\ 0 <= fndI a.slots e.name from ⟨h.s,hf⟩)] at e1
   have hl := zkw h.s hf
   have hb := zad (a.slots.getD (fndI a.slots e.name).toNat default).ty
   dsimp only at hl |-
   generalize zap a st e.name = c at *
   have hc0 : 0 < c.length := by omega
   have g0 : (ils c).getD 0 [] = [.int .i64 (c.getD 0 0)] := by simp [ils,List.getD,hc0]
   simp only [cImg] at e1
   ((try unfold z5); ((have hcondQ := Bool.and_self; refine Todo.of ?_); (repeat' (first | ((with_reducible refine Todo.to ?_); (repeat (simp only [↓rP,rT,rU,eA,zb,dval,dBin,dInt,zh,za,retV,retL,DR.val,fzT,fzVs,fzV,fz1,DV.immB,ze,zf,zp,zo,zx,zi,zq,fzL,cellsOf,Nat.reduceEqDiff,Nat.reduceAdd,↓reduceIte,reduceCtorEq,Int.reduceToNat,Int.reduceLE,Nat.reduceLeDiff,Nat.reduceLT,Int.reduceBEq,eEx,eIls,eImg,zae,zj e,k17,e1,g0,hcondQ]))))) <;> (try (omega))))
   all_goals first | rfl
 by_cases k15 : e.kind = 15
 . have hsb : za8 e = (2,2) := by simp [za8,k15]
   rw [hsb] at hln
   dsimp only at hln
   have hl2 : e.subs.length = 2 := by omega
   obtain ⟨t0,t1⟩ := zz6 h.ty k15 hl2
   have m1 : e.subs.getD 1 default ∈ e.subs := List.mem_of_getElem? (z4 default (by omega))
   have g0 : (e.subs.map cEx).getD 0 [] = cEx (e.subs.getD 0 default) := zm cEx (z4 default (by omega))
   have g1 : (e.subs.map cEx).getD 1 [] = cEx (e.subs.getD 1 default) := zm cEx (z4 default (by omega))
   obtain ⟨E1,Z1⟩ := hE _ m1 t1
   rw [hcE,if_neg k4,if_neg k17,if_pos k15,zft (by omega)]
   have hf := zci t0
   generalize e.subs.getD 0 default = x0 at *
   generalize e.subs.getD 1 default = x1 at *
   have e1 := zrb a st x0.name
   rw [eq_true (show inSt a st /\ 0 <= fndI a.slots x0.name from ⟨h.s,hf⟩)] at e1
   dsimp only
   have hcl : (zap a st x0.name).length <= 1000000000 := by
     have := h.s.2.1
     simp only [zap,zkq,List.length_drop,List.length_take]
     omega
   generalize zap a st x0.name = c at *
   generalize valE (a,b) st x1 = v at *
   obtain ⟨i,f⟩ := v
   simp only [cImg,zj x1] at e1 E1 Z1
   simp only [zj x0,zj x1] at g0 g1
   by_cases f0 : f = 0
   rotate_left
   . have hr : getV c (i,f) = (0,f) := by simp [getV,f0]
     rw [hr]
     ((try unfold z5); ((have hcondQ := Bool.and_self; refine Todo.of ?_); (repeat' (first | ((with_reducible refine Todo.to ?_); (repeat (simp only [↓rP,rT,rU,eA,zb,dval,dBin,dInt,zh,za,retV,retL,DR.val,fzT,fzVs,fzV,fz1,DV.immB,ze,zf,zp,zo,zx,zi,zq,fzL,cellsOf,Nat.reduceEqDiff,Nat.reduceAdd,↓reduceIte,reduceCtorEq,Int.reduceToNat,Int.reduceLE,Nat.reduceLeDiff,Nat.reduceLT,Int.reduceBEq,zfn,eEx,eIls,eImg,zj e,k15,e1,E1,Z1,g0,g1,hcondQ]))) | ((with_reducible refine And.intro ?_ ?_); . omega) | (((first | ((with_reducible refine zd (t := ?_) ?_ (fun hcQ => ?_) (fun hcQ => ?_)); rotate_left; . (rfl)) | ((with_reducible refine zl (t := ?_) ?_ (fun hcQ => ?_) (fun hcQ => ?_)); rotate_left; . (rfl))) <;> (have hn := hcQ; have hcondQ := hcQ) <;> (try simp only [beq_iff_eq,bne_iff_ne,ne_eq,beq_eq_false_iff_ne,bne_eq_false_iff_eq] at hn) <;> (try (exfalso; omega)) <;> (refine Todo.of ?_))) | fail))))
     all_goals first | rfl | omega
   subst f0
   by_cases q1 : i < 0
   . have hr : getV c (i,0) = (0,16) := by simp [getV,q1]
     rw [hr]
     ((try unfold z5); ((have hcondQ := Bool.and_self; refine Todo.of ?_); (repeat' (first | ((with_reducible refine Todo.to ?_); (repeat (simp only [↓rP,rT,rU,eA,zb,dval,dBin,dInt,zh,za,retV,retL,DR.val,fzT,fzVs,fzV,fz1,DV.immB,ze,zf,zp,zo,zx,zi,zq,fzL,cellsOf,Nat.reduceEqDiff,Nat.reduceAdd,↓reduceIte,reduceCtorEq,Int.reduceToNat,Int.reduceLE,Nat.reduceLeDiff,Nat.reduceLT,Int.reduceBEq,Int.reduceBNe,zfn,eEx,eIls,eImg,zj e,k15,e1,E1,Z1,g0,g1,q1 ,hcondQ]))) | ((with_reducible refine And.intro ?_ ?_); . omega) | fail)) <;> (try (omega))))
     all_goals first | rfl | omega
   by_cases q2 : (c.length : Int) <= i
   . have hr : getV c (i,0) = (0,16) := by simp [getV,q2]
     rw [hr]
     ((try unfold z5); ((have hcondQ := Bool.and_self; refine Todo.of ?_); (repeat' (first | ((with_reducible refine Todo.to ?_); (repeat (simp only [↓rP,rT,rU,eA,zb,dval,dBin,dInt,zh,za,retV,retL,DR.val,fzT,fzVs,fzV,fz1,DV.immB,ze,zf,zp,zo,zx,zi,zq,fzL,cellsOf,Nat.reduceEqDiff,Nat.reduceAdd,↓reduceIte,reduceCtorEq,Int.reduceToNat,Int.reduceLE,Nat.reduceLeDiff,Nat.reduceLT,Int.reduceBEq,Int.reduceBNe,zfn,eEx,eIls,eImg,zae,zj e,k15,e1,E1,Z1,g0,g1,q1,q2 ,hcondQ]))) | ((with_reducible refine And.intro ?_ ?_); . omega) | fail)) <;> (try (omega))))
     all_goals first | rfl | omega
   . have hr : getV c (i,0) = (c.getD i.toNat 0,0) := by simp [getV,q1,q2]
     obtain ⟨j,rfl⟩ : ∃ j : Nat,i = j := ⟨i.toNat,by omega⟩
     rw [hr]
     have hj : j < c.length := by omega
     have g2 : (ils c).getD j [] = [.int .i64 (c.getD j 0)] := by simp [ils,List.getD,hj]
     simp only [Int.toNat_natCast]
     ((try unfold z5); ((have hcondQ := Bool.and_self; refine Todo.of ?_); (repeat' (first | ((with_reducible refine Todo.to ?_); (repeat (simp only [↓rP,rT,rU,eA,zb,dval,dBin,dInt,zh,za,retV,retL,DR.val,fzT,fzVs,fzV,fz1,DV.immB,ze,zf,zp,zo,zx,zi,zq,fzL,cellsOf,Nat.reduceEqDiff,Nat.reduceAdd,↓reduceIte,reduceCtorEq,Int.reduceToNat,Int.reduceLE,Nat.reduceLeDiff,Nat.reduceLT,Int.reduceBEq,zfn,eEx,eIls,eImg,zae,zj e,k15,e1,E1,Z1,g0,g1,g2,q1,q2,hj ,hcondQ]))) | ((with_reducible refine And.intro ?_ ?_); . omega) | fail)) <;> (try (omega))))
     all_goals first | rfl | omega
 have hk := znc h.ty
 have k : e.kind = 5 \/ e.kind = 6 \/ e.kind = 7 := by omega
 have ts := zrl h.ty k
 rw [hcE,if_neg k4,if_neg k17,if_neg k15]
 have hl0 : 0 < e.subs.length := by
   rcases k with k | k | k <;> simp [za8,k] at hln <;> omega
 have v0 := zft (w := (a,b)) (st := st) hl0
 have m0 : e.subs.getD 0 default ∈ e.subs := List.mem_of_getElem? (z4 default hl0)
 have g0 : (e.subs.map cEx).getD 0 [] = cEx (e.subs.getD 0 default) := zm cEx (z4 default hl0)
 obtain ⟨E0,Z0⟩ := hE _ m0 (ts _ m0)
 have i0 := yer _ (h.sub m0 (ts _ m0))
 generalize e.subs.getD 0 default = x0 at *
 generalize valE (a,b) st x0 = u0 at *
 obtain ⟨n0,f0⟩ := u0
 simp only [cImg,zj x0] at E0 Z0 g0
 by_cases q0 : f0 = 0
 rotate_left
 . have hr : opV e.kind e.op (e.subs.map (valE (a,b) st)) = (0,f0) := by simp only [opV,v0]; simp [q0]
   rw [hr]
   ((try unfold z5); ((have hcondQ := Bool.and_self; refine Todo.of ?_); (repeat' (first | ((with_reducible refine Todo.to ?_); (repeat (simp only [↓rP,rT,rU,eA,zb,dval,dBin,dInt,zh,za,retV,retL,DR.val,fzT,fzVs,fzV,fz1,DV.immB,ze,zf,zp,zo,zx,zi,zq,cellsOf,Nat.reduceEqDiff,Nat.reduceAdd,↓reduceIte,reduceCtorEq,Int.reduceToNat,Int.reduceLE,Nat.reduceLeDiff,Nat.reduceLT,zfn,eEx,eIls,eImg,zj e,E0,Z0,g0,hcondQ]))) | ((with_reducible refine And.intro ?_ ?_); . omega) | (((((with_reducible refine zd (t := ?_) ?_ (fun hcQ => ?_) (fun hcQ => ?_)); rotate_left; . (rfl))) <;> (have hn := hcQ; have hcondQ := hcQ) <;> (try simp only [beq_iff_eq,bne_iff_ne,ne_eq,beq_eq_false_iff_ne,bne_eq_false_iff_eq] at hn) <;> (try (exfalso; omega)) <;> (refine Todo.of ?_))) | fail))))
   all_goals first | rfl | omega
 subst q0
 by_cases k5 : e.kind = 5
 . have hr : opV e.kind e.op (e.subs.map (valE (a,b) st)) = unF e.op n0 := by simp only [opV,v0]; simp [k5]
   rw [hr]
   have e1 := ycv e.op n0
   simp only [fUn] at e1
   ((try unfold z5); ((have hcondQ := Bool.and_self; refine Todo.of ?_); (repeat' (first | ((with_reducible refine Todo.to ?_); (repeat (simp only [↓rP,rT,rU,eA,zb,dval,dBin,dInt,zh,za,retV,retL,DR.val,fzT,fzVs,fzV,fz1,DV.immB,ze,zf,zp,zo,zx,zi,zq,cellsOf,Nat.reduceEqDiff,Nat.reduceAdd,↓reduceIte,reduceCtorEq,Int.reduceToNat,Int.reduceLE,Nat.reduceLeDiff,Nat.reduceLT,Int.reduceBEq,zfn,eEx,eIls,eImg,zj e,E0,Z0,g0,k5,e1 ,hcondQ]))))) <;> (try (omega))))
   all_goals first | rfl | omega
 by_cases k7 : e.kind = 7
 . have hsb : za8 e = (3,3) := by simp [za8,k7]
   rw [hsb] at hln
   dsimp only at hln
   by_cases z : n0 = 0
   . have hr : opV e.kind e.op (e.subs.map (valE (a,b) st)) = valE (a,b) st (e.subs.getD 2 default) := by simp only [opV,v0]; rw [zft (i := 2) (by omega)]; simp [k7,z]
     rw [hr]
     have m2 : e.subs.getD 2 default ∈ e.subs := List.mem_of_getElem? (z4 default (by omega))
     have g2 : (e.subs.map cEx).getD 2 [] = cEx (e.subs.getD 2 default) := zm cEx (z4 default (by omega))
     obtain ⟨E2,Z2⟩ := hE _ m2 (ts _ m2)
     generalize e.subs.getD 2 default = x2 at *
     generalize valE (a,b) st x2 = u2 at *
     simp only [cImg,zj x2] at E2 Z2 g2
     ((try unfold z5); ((have hcondQ := Bool.and_self; refine Todo.of ?_); (repeat' (first | ((with_reducible refine Todo.to ?_); (repeat (simp only [↓rP,rT,rU,eA,zb,dval,dBin,dInt,zh,za,retV,retL,DR.val,fzT,fzVs,fzV,fz1,DV.immB,ze,zf,zp,zo,zx,zi,zq,cellsOf,Nat.reduceEqDiff,Nat.reduceAdd,↓reduceIte,reduceCtorEq,Int.reduceToNat,Int.reduceLE,Nat.reduceLeDiff,Nat.reduceLT,Int.reduceBEq,zfn,eEx,eIls,eImg,zj e,E0,Z0,g0,k7,z,E2,Z2,g2 ,hcondQ]))) | ((with_reducible refine And.intro ?_ ?_); . omega) | fail)) <;> (try (omega))))
     all_goals first | rfl | omega
   . have hr : opV e.kind e.op (e.subs.map (valE (a,b) st)) = valE (a,b) st (e.subs.getD 1 default) := by simp only [opV,v0]; rw [zft (i := 1) (by omega)]; simp [k7,z]
     rw [hr]
     have m2 : e.subs.getD 1 default ∈ e.subs := List.mem_of_getElem? (z4 default (by omega))
     have g2 : (e.subs.map cEx).getD 1 [] = cEx (e.subs.getD 1 default) := zm cEx (z4 default (by omega))
     obtain ⟨E2,Z2⟩ := hE _ m2 (ts _ m2)
     generalize e.subs.getD 1 default = x2 at *
     generalize valE (a,b) st x2 = u2 at *
     simp only [cImg,zj x2] at E2 Z2 g2
     ((try unfold z5); ((have hcondQ := Bool.and_self; refine Todo.of ?_); (repeat' (first | ((with_reducible refine Todo.to ?_); (repeat (simp only [↓rP,rT,rU,eA,zb,dval,dBin,dInt,zh,za,retV,retL,DR.val,fzT,fzVs,fzV,fz1,DV.immB,ze,zf,zp,zo,zx,zi,zq,cellsOf,Nat.reduceEqDiff,Nat.reduceAdd,↓reduceIte,reduceCtorEq,Int.reduceToNat,Int.reduceLE,Nat.reduceLeDiff,Nat.reduceLT,Int.reduceBEq,zfn,eEx,eIls,eImg,zj e,E0,Z0,g0,k7,E2,Z2,g2 ,hcondQ]))) | ((with_reducible refine And.intro ?_ ?_); . omega) | (((((with_reducible refine zd (t := ?_) ?_ (fun hcQ => ?_) (fun hcQ => ?_)); rotate_left; . (rfl))) <;> (have hn := hcQ; have hcondQ := hcQ) <;> (try simp only [bne_iff_ne,ne_eq,bne_eq_false_iff_eq] at hn) <;> (try (exfalso; omega)) <;> (refine Todo.of ?_))) | fail)) <;> (try (omega))))
     all_goals first | rfl | omega
 have k6 : e.kind = 6 := by omega
 have hsb : za8 e = (2,2) := by simp [za8,k6]
 rw [hsb] at hln
 dsimp only at hln
 have v1 := zft (w := (a,b)) (st := st) (l := e.subs) (i := 1) (by omega)
 have m2 : e.subs.getD 1 default ∈ e.subs := List.mem_of_getElem? (z4 default (by omega))
 have g2 : (e.subs.map cEx).getD 1 [] = cEx (e.subs.getD 1 default) := zm cEx (z4 default (by omega))
 obtain ⟨E2,Z2⟩ := hE _ m2 (ts _ m2)
 have i1 := yer _ (h.sub m2 (ts _ m2))
 generalize e.subs.getD 1 default = x2 at *
 generalize valE (a,b) st x2 = u2 at *
 obtain ⟨n1,f1⟩ := u2
 simp only [cImg,zj x2] at E2 Z2 g2
 by_cases q1 : f1 = 0
 rotate_left
 . have hr : opV e.kind e.op (e.subs.map (valE (a,b) st)) = (0,f1) := by simp only [opV,v0,v1]; simp [q1,k6]
   rw [hr]
   ((try unfold z5); ((have hcondQ := Bool.and_self; refine Todo.of ?_); (repeat' (first | ((with_reducible refine Todo.to ?_); (repeat (simp only [↓rP,rT,rU,eA,zb,dval,dBin,dInt,zh,za,retV,retL,DR.val,fzT,fzVs,fzV,fz1,DV.immB,ze,zf,zp,zo,zx,zi,zq,cellsOf,Nat.reduceEqDiff,Nat.reduceAdd,↓reduceIte,reduceCtorEq,Int.reduceToNat,Int.reduceLE,Nat.reduceLeDiff,Nat.reduceLT,Int.reduceBEq,zfn,eEx,eIls,eImg,zj e,E0,Z0,g0,k6,E2,Z2,g2,hcondQ]))) | ((with_reducible refine And.intro ?_ ?_); . omega) | (((((with_reducible refine zd (t := ?_) ?_ (fun hcQ => ?_) (fun hcQ => ?_)); rotate_left; . (rfl))) <;> (have hn := hcQ; have hcondQ := hcQ) <;> (try simp only [bne_iff_ne,ne_eq,bne_eq_false_iff_eq] at hn) <;> (try (exfalso; omega)) <;> (refine Todo.of ?_))) | fail))))
   all_goals first | rfl | omega
 subst q1
 have hr : opV e.kind e.op (e.subs.map (valE (a,b) st)) = binF e.op n0 n1 := by simp only [opV,v0,v1]; simp [k6]
 rw [hr]
 have e1 := z8z e.op n0 n1
 simp only [fBin] at e1
 rw [eq_true (show in64 n0 /\ in64 n1 from ⟨i0,i1⟩)] at e1
 ((try unfold z5); ((have hcondQ := Bool.and_self; refine Todo.of ?_); (repeat' (first | ((with_reducible refine Todo.to ?_); (repeat (simp only [↓rP,rT,rU,eA,zb,dval,dBin,dInt,zh,za,retV,retL,DR.val,fzT,fzVs,fzV,fz1,DV.immB,ze,zf,zp,zo,zx,zi,zq,cellsOf,Nat.reduceEqDiff,Nat.reduceAdd,↓reduceIte,reduceCtorEq,Int.reduceToNat,Int.reduceLE,Nat.reduceLeDiff,Nat.reduceLT,Int.reduceBEq,zfn,eEx,eIls,eImg,zj e,E0,Z0,g0,k6,E2,Z2,g2,e1 ,hcondQ]))) | ((with_reducible refine And.intro ?_ ?_); . omega) | fail)) <;> (try (omega))))
 all_goals first | rfl | omega
set_option linter.all false
set_option maxRecDepth 20000
open Go.Nk
def zam : List (Int × Int) -> List Int -> List Int × Int
 | [],o => (o,0)
 | v :: r,o => if v.2 = 0 then zam r (o ++ [v.1]) else ([],v.2)
def zav (w : Img × Img) (st : List Int) (e : Ex) : List Int × Int :=
 if e.kind = 17 then (zap w.1 st e.name,0) else if e.kind = 14 then zam (e.subs.map (valE w st)) [] else zam ([e].map (valE w st)) []
structure whFit (w : Img × Img) (st : List Int) (e : Ex) : Prop where
 way : zbe w
 arm : ∀ s,in64 (armT w.2.en s).2.1
 s : inSt w.1 st
 ci : ∀ x ∈ st,in64 x
 pl : okPl e
 n : okN e
 ty : (ofT w e).2 = true
theorem whFit.subs {w : Img × Img} {st : List Int} {e : Ex} (h : whFit w st e) (k : e.kind = 14) : ∀ x ∈ e.subs,valFit w st x := by
 intro x hx
 have ht := h.ty
 unfold ofT at ht
 rw [if_neg (by omega),if_pos k] at ht
 split at ht
 . rename_i c
   have := (ziz c.1).2
   exact ⟨h.way,h.arm,h.s,h.ci,h.pl.sub hx,h.n.sub hx,this _ (List.mem_map_of_mem hx)⟩
 . cases ht
theorem whFit.self {w : Img × Img} {st : List Int} {e : Ex} (h : whFit w st e) (k : e.kind ≠ 14) (k2 : e.kind ≠ 17) : valFit w st e := by
 have ht := h.ty
 unfold ofT at ht
 rw [if_neg k2,if_neg k] at ht
 exact ⟨h.way,h.arm,h.s,h.ci,h.pl,h.n,ht⟩
noncomputable def z63 : List DV -> Prop × DV := zxn eImg eImg eIls eEx fun a b st e => (whFit (a,b) st e,.tup [.sl (ils (zav (a,b) st e).1),.int .i64 (zav (a,b) st e).2])
theorem ya2 (a : Img) (b : Img) (st : List Int) (e : Ex) : z63 [.agg (cImg a),.agg (cImg b),.sl (ils st),.agg (cEx e)] = (whFit (a,b) st e,.tup [.sl (ils (zav (a,b) st e).1),.int .i64 (zav (a,b) st e).2]) := zzn za4 za4 zl3 zdf _ a b st e
theorem zma : OkP Tryz.prog 27 z63 := by
 refine OkP.mk4 (ps := [(55,z1r),(56,zqr)]) (hs := []) ⟨zgg,zly,trivial⟩ trivial zm3 fun a b st e h => ?_
 try dsimp only at h
 have h : whFit (a,b) st e := h
 by_cases k17 : e.kind = 17
 . have hr : zav (a,b) st e = (zap a st e.name,0) := by simp [zav,k17]
   have hf : 0 <= fndI a.slots e.name := by
     have := h.ty
     unfold ofT at this
     rw [if_pos k17] at this
     exact zci (w := (a,b)) this
   have e1 := zrb a st e.name
   rw [eq_true (show inSt a st /\ 0 <= fndI a.slots e.name from ⟨h.s,hf⟩)] at e1
   rw [hr]
   dsimp only
   generalize zap a st e.name = c at *
   simp only [cImg] at e1
   ((try unfold zak); ((have hcondQ := Bool.and_self; refine Todo.of ?_); (repeat' (first | ((with_reducible refine Todo.to ?_); (repeat (simp only [↓rP,rT,rU,eA,zb,dval,dBin,dInt,zh,za,retV,retL,DR.val,fzT,fzVs,fzV,fz1,DV.immB,ze,zf,zp,zo,zx,zi,zq,fzL,cellsOf,Nat.reduceEqDiff,Nat.reduceAdd,↓reduceIte,reduceCtorEq,Nat.reduceLeDiff,Nat.reduceLT,eEx,eIls,eImg,zj e,k17,e1 ,hcondQ])))))))
   all_goals first | rfl
 have hpl := h.pl.2
 have hsz := za7 e
 have hsl := zbh e.subs
 by_cases k14 : e.kind = 14
 . have hr : zav (a,b) st e = zam (e.subs.map (valE (a,b) st)) [] := by simp [zav,k14]
   obtain ⟨RR,hRR⟩ : ∃ RR,RR = zav (a,b) st e := ⟨_,rfl⟩
   rw [<- hRR]
   rw [hr] at hRR
   have hv := h.subs k14
   ((try unfold zak); ((have hcondQ := Bool.and_self; refine Todo.of ?_); (repeat' (first | ((with_reducible refine Todo.to ?_); (repeat (simp only [↓rP,rT,rU,eA,zb,dval,dBin,dInt,zh,za,fz1,DV.immB,fzLL,fzL,bRow,bU,cellsOf,DV.isU,Nat.reduceEqDiff,Nat.reduceAdd,↓reduceIte,reduceCtorEq,Nat.reduceLeDiff,Nat.reduceLT,Int.reduceBEq,forall_const,eEx,eIls,eImg,zj e,k14 ,hcondQ])))))))
   have hl : (e.subs).length <= 1000 := by omega
   refine z0 (e.subs) (fun k (o : List Int) => ⟨[(2,.sl (ils st)),(4,.ref (cImg a)),(5,.ref (cImg b)),(10,.sl ((e.subs).map cEx)),(11,.own 0 o.length 0 o.length),(12,.int .i64 k)],[⟨.imm,1,ils o⟩]⟩)
     (fun k r o => zam (r.map (valE (a,b) st)) o = RR /\ o.length = k) [] (Nat.zero_le _) (by simp only [zg,List.map_cons,List.map_nil,zc,Nk.get_nil,Nat.reduceEqDiff,↓reduceIte,Nat.succ_ne_self,DV.cut,DV.inB,DObj.cut,List.take_nil,reduceCtorEq,Nat.zero_lt_one,decide_true,List.take_succ_cons,List.length_nil] <;> rfl) ⟨hRR.symm,rfl⟩ (fun k x r o d hx hd hr => ?_) (fun k o e2 hr => ?_)
   . obtain ⟨g1,g2⟩ := hr
     clear hRR
     simp only [List.map_cons,zam] at g1
     have e1 := zqt a b st x
     rw [eq_true (hv x (List.mem_of_getElem? hx))] at e1
     generalize valE (a,b) st x = v at *
     obtain ⟨v,f⟩ := v
     simp only [cImg,zj x] at e1
     by_cases f0 : f = 0
     . subst f0
       rw [if_pos rfl] at g1
       ((try unfold zak); ((have hcondQ := Bool.and_self; refine Todo.of ?_); (repeat' (first | ((with_reducible refine Todo.to ?_); (repeat (first | (simp only [↓rP,rT,rU,zb,dval,dBin,dInt,zh,za,fz1,DV.immB,ze,zf,zp,zo,zx,zi,zq,zy,zax,fzLL,fzL,bRow,bU,cellsOf,DV.isU,zat,Nat.reduceEqDiff,Nat.reduceAdd,↓reduceIte,Nat.reduceLeDiff,Nat.reduceLT,forall_const,zae,d,zm cEx hx,zj x,e1,zkv ,hcondQ]) | ((simp (disch := omega) only [z6]))))) | ((with_reducible refine And.intro ?_ ?_); . omega) | fail))))
       all_goals first
         | exact ⟨o ++ [v],by simp only [zg,List.map_cons,List.map_nil,zc,Nk.get_nil,Nat.reduceEqDiff,↓reduceIte,Nat.succ_ne_self,DV.cut,DV.inB,DObj.cut,List.take_nil,reduceCtorEq,Nat.zero_lt_one,decide_true,List.take_succ_cons,Int.natCast_add,Int.natCast_one,List.length_append,List.length_cons,List.length_nil,Nat.zero_add] <;> rfl,g1,by rw [List.length_append,g2]; rfl⟩
     . rw [if_neg f0] at g1
       rw [<- g1]
       ((try unfold zak); ((have hcondQ := Bool.and_self; refine Todo.of ?_); (repeat' (first | ((with_reducible refine Todo.to ?_); (repeat (simp only [↓rP,rT,rU,zb,dval,dBin,dInt,zh,za,retV,retL,DR.val,fzT,fzVs,fzV,fz1,DV.immB,ze,zf,zp,zo,zx,zi,zq,Nat.reduceEqDiff,Nat.reduceAdd,↓reduceIte,Nat.reduceLeDiff,Nat.reduceLT,d,zm cEx hx,zj x,e1,hcondQ]))) | ((with_reducible refine And.intro ?_ ?_); . omega) | (((((with_reducible refine zd (t := ?_) ?_ (fun hcQ => ?_) (fun hcQ => ?_)); rotate_left; . (rfl))) <;> (have hn := hcQ; have hcondQ := hcQ) <;> (try simp only [bne_iff_ne,ne_eq,bne_eq_false_iff_eq] at hn) <;> (try (exfalso; omega)) <;> (refine Todo.of ?_))) | fail))))
       all_goals first | rfl
   . obtain ⟨g1,g2⟩ := hr
     simp only [List.map_nil,zam] at g1
     rw [<- g1]
     ((try unfold zak); ((refine Todo.of ?_); (repeat' (first | ((with_reducible refine Todo.to ?_); (repeat (simp only [↓rP,rT,rU,zb,dval,dBin,dInt,retV,retL,DR.val,fzT,fzVs,fzV,fz1,DV.immB,zy,freezeAt,Nat.reduceEqDiff,↓reduceIte,reduceCtorEq,zae,z0b,e2 ]))))) <;> (try (exact Nat.le_refl _))))
     all_goals first
       | exact congrArg DV.sl (List.take_of_length_le (by simp [ils]))
 . have hr : zav (a,b) st e = zam [valE (a,b) st e] [] := by simp [zav,k14,k17]
   obtain ⟨RR,hRR⟩ : ∃ RR,RR = zav (a,b) st e := ⟨_,rfl⟩
   rw [<- hRR]
   rw [hr] at hRR
   have hv : ∀ x ∈ [e],valFit (a,b) st x := fun x hx => by rw [List.mem_singleton] at hx; subst hx; exact h.self k14 k17
   ((try unfold zak); ((have hcondQ := Bool.and_self; refine Todo.of ?_); (repeat' (first | ((with_reducible refine Todo.to ?_); (repeat (simp only [↓rP,rT,rU,eA,zb,dval,dBin,dInt,zh,za,fz1,DV.immB,fzLL,fzL,bRow,bU,cellsOf,DV.isU,Nat.reduceEqDiff,Nat.reduceAdd,↓reduceIte,reduceCtorEq,Nat.reduceLeDiff,Nat.reduceLT,forall_const,eEx,eIls,eImg,zj e,hcondQ]))) | (((((with_reducible refine zd (t := ?_) ?_ (fun hcQ => ?_) (fun hcQ => ?_)); rotate_left; . (rfl))) <;> (have hn := hcQ; have hcondQ := hcQ) <;> (try simp only [beq_iff_eq,ne_eq,beq_eq_false_iff_ne] at hn) <;> (try (exfalso; omega)) <;> (refine Todo.of ?_))) | fail))))
   have hl : ([e]).length <= 1000 := by simp
   refine z0 ([e]) (fun k (o : List Int) => ⟨[(2,.sl (ils st)),(4,.ref (cImg a)),(5,.ref (cImg b)),(10,.sl (([e]).map cEx)),(11,.own 0 o.length 0 o.length),(12,.int .i64 k)],[⟨.imm,1,ils o⟩]⟩)
     (fun k r o => zam (r.map (valE (a,b) st)) o = RR /\ o.length = k) [] (Nat.zero_le _) (by simp only [zg,List.map_cons,List.map_nil,zc,Nk.get_nil,Nat.reduceEqDiff,↓reduceIte,Nat.succ_ne_self,DV.cut,DV.inB,DObj.cut,List.take_nil,reduceCtorEq,Nat.zero_lt_one,decide_true,List.take_succ_cons,List.length_nil,zj e] <;> rfl) ⟨hRR.symm,rfl⟩ (fun k x r o d hx hd hr => ?_) (fun k o e2 hr => ?_)
   . obtain ⟨g1,g2⟩ := hr
     clear hRR
     simp only [List.map_cons,zam] at g1
     obtain rfl : k = 0 := by simp at d; omega
     have hxe : e = x := by simpa using hx
     subst hxe
     have e1 := zqt a b st e
     rw [eq_true (hv e (List.mem_of_getElem? hx))] at e1
     generalize valE (a,b) st e = v at *
     obtain ⟨v,f⟩ := v
     simp only [cImg,zj e] at e1
     by_cases f0 : f = 0
     . subst f0
       rw [if_pos rfl] at g1
       ((try unfold zak); ((have hcondQ := Bool.and_self; refine Todo.of ?_); (repeat' (first | ((with_reducible refine Todo.to ?_); (repeat (first | (simp only [↓rP,rT,rU,zb,dval,dBin,dInt,zh,za,fz1,DV.immB,ze,zf,zp,zo,zx,zi,zq,zy,zax,fzLL,fzL,bRow,bU,cellsOf,DV.isU,zat,Nat.reduceEqDiff,Nat.reduceAdd,↓reduceIte,Int.reduceToNat,Int.reduceLE,Int.reduceLT,Nat.reduceLeDiff,Nat.reduceLT,Int.reduceAdd,forall_const,zae,zj e,e1,zkv,hcondQ]) | ((simp (disch := omega) only [z6]))))) | ((with_reducible refine And.intro ?_ ?_); . omega) | fail))))
       all_goals first
         | exact ⟨o ++ [v],by simp only [zg,List.map_cons,List.map_nil,zc,Nk.get_nil,Nat.reduceEqDiff,↓reduceIte,Nat.succ_ne_self,DV.cut,DV.inB,DObj.cut,List.take_nil,reduceCtorEq,Nat.zero_lt_one,decide_true,List.take_succ_cons,List.length_append,List.length_cons,List.length_nil,Nat.zero_add] <;> rfl,g1,by rw [List.length_append,g2]; rfl⟩
     . rw [if_neg f0] at g1
       rw [<- g1]
       ((try unfold zak); ((have hcondQ := Bool.and_self; refine Todo.of ?_); (repeat' (first | ((with_reducible refine Todo.to ?_); (repeat (simp only [↓rP,rT,rU,zb,dval,dBin,dInt,zh,za,retV,retL,DR.val,fzT,fzVs,fzV,fz1,DV.immB,ze,zf,zp,zo,zx,zi,zq,Nat.reduceEqDiff,Nat.reduceAdd,↓reduceIte,Int.reduceToNat,Int.reduceLE,Int.reduceLT,Nat.reduceLeDiff,Nat.reduceLT,zj e,e1,hcondQ]))) | (((((with_reducible refine zd (t := ?_) ?_ (fun hcQ => ?_) (fun hcQ => ?_)); rotate_left; . (rfl))) <;> (have hn := hcQ; have hcondQ := hcQ) <;> (try simp only [bne_iff_ne,ne_eq,bne_eq_false_iff_eq] at hn) <;> (try (exfalso; omega)) <;> (refine Todo.of ?_))) | fail))))
       all_goals first | rfl
   . obtain ⟨g1,g2⟩ := hr
     simp only [List.map_nil,zam] at g1
     rw [<- g1]
     ((try unfold zak); ((refine Todo.of ?_); (repeat' (first | ((with_reducible refine Todo.to ?_); (repeat (simp only [↓rP,rT,rU,zb,dval,dBin,dInt,retV,retL,DR.val,fzT,fzVs,fzV,fz1,DV.immB,zy,freezeAt,Nat.reduceEqDiff,↓reduceIte,reduceCtorEq,zae,z0b,e2 ]))))) <;> (try (exact Nat.le_refl _))))
     all_goals first
       | exact congrArg DV.sl (List.take_of_length_le (by simp [ils]))
def zbd (w : Img × Img) (l : List Mov) (st : List Int) (s : Slt) : List Int × Int :=
 if mvdI l s.path < 0 then (if zc8 w.1 w.2 s = 1 then (zap w.1 st s.path,0) else (s.ini,0)) else zav w st (l.getD (mvdI l s.path).toNat default).e
structure wantFit (w : Img × Img) (l : List Mov) (st : List Int) : Prop where
 way : zbe w
 arm : ∀ s,in64 (armT w.2.en s).2.1
 s : inSt w.1 st
 ci : ∀ x ∈ st,in64 x
 len : l.length <= 1000000
 pl : ∀ m ∈ l,okPl m.e
 n : ∀ m ∈ l,okN m.e
 one : ∀ m ∈ l,oneE w m = 0
def yf3 (x : Img × Img × List Mov × List Int × Slt) : List DV := [.agg (cImg (x.1)),.agg (cImg (x.2.1)),.sl ((x.2.2.1).map cMov),.sl (ils (x.2.2.2.1)),.agg (cSlt (x.2.2.2.2))]
theorem yb7 : InjL yf3 := fun x y h => by obtain ⟨x0,x1,x2,x3,x4⟩ := x; obtain ⟨y0,y1,y2,y3,y4⟩ := y; injection h with h0 h; have q0 : x0 = y0 := za4 _ _ h0; injection h with h1 h;  have q1 : x1 = y1 := za4 _ _ h1; injection h with h2 h;  have q2 : x2 = y2 := zf4 _ _ h2; injection h with h3 h;  have q3 : x3 = y3 := zl3 _ _ h3; injection h with h4 h;  have q4 : x4 = y4 := z1i _ _ h4; subst q0 q1 q2 q3 q4; rfl
noncomputable def yff : List DV -> Prop × DV := yca yf3 fun x => let a := x.1; let b := x.2.1; let l := x.2.2.1; let st := x.2.2.2.1; let s := x.2.2.2.2; (wantFit (a,b) l st,.tup [.sl (ils (zbd (a,b) l st s).1),.int .i64 (zbd (a,b) l st s).2])
theorem yfq (a : Img) (b : Img) (l : List Mov) (st : List Int) (s : Slt) : yff [.agg (cImg a),.agg (cImg b),.sl (l.map cMov),.sl (ils st),.agg (cSlt s)] = (wantFit (a,b) l st,.tup [.sl (ils (zbd (a,b) l st s).1),.int .i64 (zbd (a,b) l st s).2]) := z88 yb7 _ (a,b,l,st,s)
theorem zn5 : OkP Tryz.prog 11 yff := by
 refine OkP.mkA (ps := [(26,zzm),(27,z63),(28,z31),(29,zhk),(30,zcg)]) (hs := []) ⟨zmq,zma,zm7,zco,zc6,trivial⟩ trivial zrd (fun _ => rfl) fun x h => ?_
 try dsimp only at h
 obtain ⟨a,b,l,st,s⟩ := x
 dsimp only [yf3] at h |-
 have e1 := z5w l s.path
 rw [eq_true h.len] at e1
 have e2 := z4v a b s
 rw [eq_true (show zj9 a /\ zj9 b from h.way.1)] at e2
 by_cases c : mvdI l s.path < 0
 rotate_left
 . obtain ⟨j,hj,hl,_⟩ := zoh c
   have hm : l.getD j default ∈ l := List.mem_of_getElem? (z4 default hl)
   have gx : (l.map cMov).getD j [] = cMov (l.getD j default) := zm cMov (z4 default hl)
   have hr : zbd (a,b) l st s = zav (a,b) st (l.getD j default).e := by unfold zbd; rw [hj,if_neg (by omega),Int.toNat_natCast]
   rw [hr]
   rw [hj] at e1
   have e3 := ya2 a b st (l.getD j default).e
   rw [eq_true (show whFit (a,b) st (l.getD j default).e from ⟨h.way,h.arm,h.s,h.ci,h.pl _ hm,h.n _ hm,by rw [z17 (h.one _ hm)]⟩)] at e3
   generalize l.getD j default = m at *
   generalize zav (a,b) st m.e = v at *
   simp only [cImg,zj m.e] at e3
   simp only [cMov,zj m.e] at gx
   ((try unfold zc9); ((have hcondQ := Bool.and_self; refine Todo.of ?_); (repeat' (first | ((with_reducible refine Todo.to ?_); (repeat (simp only [↓rP,rT,rU,zb,dval,zn,dBin,dInt,zh,za,retV,retL,DR.val,fzT,fzVs,fzV,fz1,DV.immB,ze,zf,zp,zo,zx,zi,zq,fzL,cellsOf,Nat.reduceEqDiff,Nat.reduceAdd,↓reduceIte,reduceCtorEq,Nat.reduceLeDiff,Nat.reduceLT,e1,e3,gx,hcondQ]))) | ((with_reducible refine And.intro ?_ ?_); . trivial) | (((((with_reducible refine zd (t := ?_) ?_ (fun hcQ => ?_) (fun hcQ => ?_)); rotate_left; . (rfl))) <;> (have hn := hcQ; have hcondQ := hcQ) <;> (try simp only [decide_eq_true_eq,decide_eq_false_iff_not] at hn) <;> (try (exfalso; omega)) <;> (refine Todo.of ?_))) | fail)) <;> (try (assumption))))
   all_goals first | rfl | omega
 by_cases q : zc8 a b s = 1
 . have hr : zbd (a,b) l st s = (zap a st s.path,0) := by simp [zbd,c,q]
   rw [hr]
   have hf := zj4 q
   obtain ⟨j,hj,hl⟩ := zca (m := a.slots) (p := s.path) (by omega)
   have e3 := zdu a.slots s.path
   rw [eq_true h.s.1,hj] at e3
   have gx : (a.slots.map cSlt).getD j [] = cSlt (a.slots.getD j default) := zm cSlt (z4 default hl)
   have hm := h.s.2.2 _ (List.mem_of_getElem? (z4 default hl))
   have hsl := h.s.2.1
   dsimp only at hm hsl |-
   have hr2 : zap a st s.path = zkq st (a.slots.getD j default) := by simp [zap,hj]
   rw [hr2]
   generalize a.slots.getD j default = y at *
   have e4 := zbn y.ty
   have hb := zad y.ty
   simp only [cTy] at e4
   have w2 : IntKind.i64.wrap (y.at_ + zt y.ty) = y.at_ + zt y.ty := z9 (by omega)
   have e5 := fun hp => zv9 (hp := hp) (l := st) (a := y.at_) (b := y.at_ + zt y.ty) hm.1 (by omega) (by omega)
   simp only [cImg,cSlt] at e2
   ((try unfold zc9); ((have hcondQ := Bool.and_self; refine Todo.of ?_); (repeat' (first | ((with_reducible refine Todo.to ?_); (repeat (simp only [↓rP,rT,rU,zb,dval,zn,dBin,dInt,zh,za,retV,retL,DR.val,fzT,fzVs,fzV,fz1,DV.immB,ze,zf,zp,zo,zx,zi,zq,zw,DV.one,alive,cellsOf,zk,Nat.reduceEqDiff,Nat.reduceAdd,↓reduceIte,reduceCtorEq,Nat.reduceLeDiff,Nat.reduceLT,forall_const,e1,e2,q,e3,e4,e5,gx,w2 ,hcondQ]))) | ((with_reducible refine And.intro ?_ ?_); . omega) | (((((with_reducible refine zd (t := ?_) ?_ (fun hcQ => ?_) (fun hcQ => ?_)); rotate_left; . (rfl))) <;> (have hn := hcQ; have hcondQ := hcQ) <;> (try simp only [decide_eq_true_eq,decide_eq_false_iff_not] at hn) <;> (try (exfalso; omega)) <;> (refine Todo.of ?_))) | fail))))
   all_goals first | rfl | omega
 . have hr : zbd (a,b) l st s = (s.ini,0) := by simp [zbd,c,q]
   rw [hr]
   simp only [cImg,cSlt] at e2
   ((try unfold zc9); ((have hcondQ := Bool.and_self; refine Todo.of ?_); (repeat' (first | ((with_reducible refine Todo.to ?_); (repeat (simp only [↓rP,rT,rU,zb,dval,zn,dBin,dInt,zh,za,retV,retL,DR.val,fzT,fzVs,fzV,fz1,DV.immB,ze,zf,zp,zo,zx,zi,zq,cellsOf,Nat.reduceEqDiff,Nat.reduceAdd,↓reduceIte,reduceCtorEq,Nat.reduceLeDiff,Nat.reduceLT,e1,e2,hcondQ]))) | (((((with_reducible refine zd (t := ?_) ?_ (fun hcQ => ?_) (fun hcQ => ?_)); rotate_left; . (rfl))) <;> (have hn := hcQ; have hcondQ := hcQ) <;> (try simp only [decide_eq_true_eq,decide_eq_false_iff_not,beq_iff_eq,ne_eq,beq_eq_false_iff_ne] at hn) <;> (try (exfalso; omega)) <;> (refine Todo.of ?_))) | fail))))
   all_goals first | rfl | omega
end Go.Proofs.YtjgefhgkinocmaaGreat
