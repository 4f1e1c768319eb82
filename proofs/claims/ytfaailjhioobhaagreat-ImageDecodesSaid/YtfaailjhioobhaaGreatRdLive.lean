/- Readers: what each function of a reader tells, and makes of it. -/
import Derived.Test.YtfaailjhioobhaaGreatOctBack2
set_option linter.all false
set_option maxRecDepth 20000
namespace Go.Proofs.YtfaailjhioobhaaGreat
open Go.Nk
def ok62 (l : List UInt8) : Prop := l.length ≤ 4294967296
def nxt (l : List UInt8) : Option Nat → Int → Option (List UInt8) × Option Nat
 | none,_ => (none,none)
 | some a,n => if 0 ≤ n ∧ n ≤ (l.length : Int) - a then (some ((l.take (a + n.toNat)).drop a),some (a + n.toNat)) else (none,none)
def szN (size : Int) : Int := if size < 1 ∨ 4 < size then -1 else size
def inR (l : List UInt8) : Option Nat → Prop
 | none => True
 | some a => a ≤ l.length
theorem nxt_in {l : List UInt8} {s : Option Nat} (n : Int) (h : inR l s) : inR l (nxt l s n).2 := by
 cases s with
 | none => exact trivial
 | some a =>
   simp only [nxt]
   split
   · simp only [inR] at h ⊢; omega
   · exact trivial
def oP : Option (List UInt8 × Nat) → DObj
 | some (l,a) => ⟨.loc,3,[[.sl (bsl l),.bool true,.int .i64 a]]⟩
 | none => ⟨.loc,3,[[.nil,.bool false,.int .i64 0]]⟩
theorem zod : InjL oP := by
 intro x y h
 rcases x with _ | ⟨l,a⟩ <;> rcases y with _ | ⟨l',a'⟩ <;> simp [oP] at h
 · rfl
 · obtain ⟨h1,h2⟩ := h
   have h3 : a = a' := by omega
   rw [zfo h1,h3]
def okP : Option (List UInt8 × Nat) → Prop
 | some (l,a) => a ≤ l.length ∧ ok62 l
 | none => True
def toP (l : List UInt8) (s : Option Nat) : Option (List UInt8 × Nat) := s.map fun a => (l,a)
theorem okP_to {l : List UInt8} {s : Option Nat} (h : inR l s) (hl : ok62 l) : okP (toP l s) := by
 cases s with
 | none => exact trivial
 | some a => exact ⟨h,hl⟩
def bsO : Option (List UInt8) → DV
 | some b => .sl (bsl b)
 | none => .nil
structure HeadO where
 z : Nat
 c0 : DV
 c1 : DV
 r : List DV
def oHead (x : HeadO) : DObj := ⟨.loc,x.z,[x.c0 :: x.c1 :: x.r]⟩
theorem ybo : InjL oHead := by
 rintro ⟨a,b,c,d⟩ ⟨a',b',c',d'⟩ h
 simp [oHead] at h
 obtain ⟨rfl,rfl,rfl,rfl⟩ := h
 rfl
noncomputable def z5a : List DV → List DObj → Res := zgt oHead (fun _ : Unit => []) (fun x _ => (True,.tup [],⟨x.z,.nil,.bool false,x.r⟩)) (fun _ => (False,.undef))
theorem zmn : OkH Tryz.prog 58 z5a := by
 refine OkH.mkM (ps := []) (hs := []) trivial trivial zno (fun _ => rfl) (fun n hp x a hh hl h => ?_) (fun hp a h => h.elim)
 have hh' : hp[n]? = some ⟨.loc,x.z,[x.c0 :: x.c1 :: x.r]⟩ := hh
 simp only [↓sqP,sqT,zf7,zc,dval,za,Nat.reduceEqDiff,Nat.reduceAdd,↓reduceIte,retV,retL,forall_const,reduceCtorEq,List.length_cons,List.length_nil,List.getD_cons_zero,List.set_cons_zero,List.set_set,List.set_cons_succ,zo,DV.one,alive,List.not_mem_nil,List.forall_mem_cons,cellsOf,zf,ne_eq,hh',oHead,List.getElem?_set_self hl,Nat.le_add_left,Nat.succ_le_succ_iff,Nat.zero_le]
theorem zzp {hp : List DObj} {n : Nat} {z : Nat} {c0 c1 : DV} {r : List DV} (hh : hp[n]? = some ⟨.loc,z,[c0 :: c1 :: r]⟩) : z5a [.ptr n 1 0 0] hp = ⟨True,.tup [],hp.set n ⟨.loc,z,[.nil :: .bool false :: r]⟩⟩ :=
 zcb (r := ⟨z,c0,c1,r⟩) ybo (zbc _) _ _ hh ()
noncomputable def s_Ok : List DV → List DObj → Res := zgt oP (fun _ : Unit => []) (fun r _ => (True,.bool r.isSome,r)) (fun _ => (True,.bool false))
theorem zf6 {hp : List DObj} {n : Nat} {r : Option (List UInt8 × Nat)} (hh : hp[n]? = some (oP r)) : s_Ok [.ptr n 1 0 0] hp = ⟨True,.bool r.isSome,hp⟩ := by
 refine (zcb zod (zbc _) _ _ hh ()).trans ?_
 simp only [zb8 hh]
theorem z3v (hp : List DObj) : s_Ok [.nilp] hp = ⟨True,.bool false,hp⟩ := zuu (zbc _) _ _ hp ()
theorem za0 : OkH Tryz.prog 78 s_Ok := by
 refine OkH.mkM (ps := []) (hs := []) trivial trivial zox (fun _ => rfl) (fun n hp x a hh hl h => ?_) (fun hp a h => ?_)
 · simp only [zb8 hh]
   rcases x with _ | ⟨l,b⟩
   · have hh' : hp[n]? = some ⟨.loc,3,[[.nil,.bool false,.int .i64 0]]⟩ := hh
     simp only [↓sqP,sqT,zcv,List.drop_succ_cons,zc,zm,dval,za,Nat.reduceEqDiff,Nat.reduceAdd,↓reduceIte,zg,zb,retV,DR.val,reduceCtorEq,List.length_cons,List.length_nil,List.getD_cons_zero,Nat.reduceLT,alive,List.drop_zero,ne_eq,hh',Option.isSome_none]
   · have hh' : hp[n]? = some ⟨.loc,3,[[.sl (bsl l),.bool true,.int .i64 b]]⟩ := hh
     simp only [↓sqP,sqT,zcv,List.drop_succ_cons,zc,zm,dval,za,Nat.reduceEqDiff,Nat.reduceAdd,↓reduceIte,zg,zb,retV,DR.val,reduceCtorEq,List.length_cons,List.length_nil,List.getD_cons_zero,Nat.reduceLT,alive,List.drop_zero,ne_eq,hh',Option.isSome_some]
 · simp only [↓sqP,sqT,zcv,zc,zm,dval,za,Nat.reduceEqDiff,↓reduceIte,retV,DR.val,Bool.false_eq_true,reduceCtorEq,dPeq]
end Go.Proofs.YtfaailjhioobhaaGreat
set_option linter.all false
set_option maxRecDepth 20000
namespace Go.Proofs.YtfaailjhioobhaaGreat
open Go.Nk
theorem z25 {hp : List DObj} {l : List UInt8} {k k' k'' : IntKind} {a b c : Int} : zd6 hp 1 (.sl (bsl l)) (some (.int k a)) (some (.int k' b)) (some (.int k'' c)) = (0 ≤ a ∧ a ≤ b ∧ b ≤ c ∧ c ≤ l.length,.sl (bsl ((l.take b.toNat).drop a.toNat))) := by
 simp only [zd6,zcg,zab,Option.isSome_some,Prod.mk.injEq]
 refine ⟨propext ⟨fun h => ⟨h.2.2.2.2.2.1,h.2.2.2.2.2.2.1,h.2.2.2.2.2.2.2.1,h.2.2.2.2.2.2.2.2⟩,fun h => ⟨zc7,trivial,trivial,trivial,by simp,h.1,h.2.1,h.2.2.1,h.2.2.2⟩⟩,?_⟩
 rw [zyr,zsf]
def ziy : Option (List UInt8 × Nat) → Bool
 | some (l,a) => decide (a < l.length)
 | none => false
noncomputable def zjv : List DV → List DObj → Res := zgt oP (fun _ : Unit => []) (fun r _ => (True,.bool (ziy r),r)) (fun _ => (True,.bool false))
theorem zgi {hp : List DObj} {n : Nat} {r : Option (List UInt8 × Nat)} (hh : hp[n]? = some (oP r)) : zjv [.ptr n 1 0 0] hp = ⟨True,.bool (ziy r),hp⟩ := by
 refine (zcb zod (zbc _) _ _ hh ()).trans ?_
 simp only [zb8 hh]
theorem zhl : OkH Tryz.prog 79 zjv := by
 refine OkH.mkM (ps := []) (hs := [(78,s_Ok)]) trivial ⟨za0,trivial⟩ zmc (fun _ => rfl) (fun n hp x a hh hl h => ?_) (fun hp a h => ?_)
 · simp only [zb8 hh]
   have o1 := zf6 hh
   rcases x with _ | ⟨l,b⟩
   · simp only [↓sqP,sqT,zb7,zc,zm,dval,za,Nat.reduceEqDiff,↓reduceIte,retV,DR.val,List.map_cons,List.map_nil,Bool.false_eq_true,reduceCtorEq,o1,Option.isSome_none,ziy]
   · have hh' : hp[n]? = some ⟨.loc,3,[[.sl (bsl l),.bool true,.int .i64 b]]⟩ := hh
     simp only [↓sqP,sqT,zb7,List.drop_succ_cons,zc,zm,dval,za,Nat.reduceEqDiff,Nat.reduceAdd,↓reduceIte,dBin,dInt,zg,zb,retV,DR.val,List.map_cons,List.map_nil,reduceCtorEq,List.length_cons,List.length_nil,List.getD_cons_zero,Nat.reduceLT,alive,List.drop_zero,ne_eq,o1,Option.isSome_some,hh',ziy]
 · simp only [↓sqP,sqT,zb7,zc,zm,dval,za,Nat.reduceEqDiff,↓reduceIte,retV,DR.val,List.map_cons,List.map_nil,Bool.false_eq_true,reduceCtorEq,z3v]
def zb1 (r : Option (List UInt8 × Nat)) (n : Int) : Option (List UInt8) := match r with
 | some (l,a) => (nxt l (some a) n).1
 | none => none
def z9 (r : Option (List UInt8 × Nat)) (n : Int) : Option (List UInt8 × Nat) := match r with
 | some (l,a) => toP l (nxt l (some a) n).2
 | none => none
noncomputable def ztn : List DV → List DObj → Res := zgt oP (fun n : Int => [.int .i64 n]) (fun r n => (okP r,bsO (zb1 r n),z9 r n)) (fun _ => (True,.nil))
theorem zh2 {hp : List DObj} {n : Nat} {r : Option (List UInt8 × Nat)} (hh : hp[n]? = some (oP r)) (k : Int) : ztn [.ptr n 1 0 0,.int .i64 k] hp = ⟨okP r,bsO (zb1 r k),hp.set n (oP (z9 r k))⟩ :=
 zcb zod zew _ _ hh k
theorem zl3 (hp : List DObj) (k : Int) : ztn [.nilp,.int .i64 k] hp = ⟨True,.nil,hp⟩ := zuu zew _ _ hp k
theorem zav {r : Option (List UInt8 × Nat)} (n : Int) (h : okP r) : okP (z9 r n) := by
 rcases r with _ | ⟨l,a⟩
 · exact trivial
 · exact okP_to (nxt_in (s := some a) n h.1) h.2
theorem zet : OkH Tryz.prog 116 ztn := by
 refine OkH.mkM (ps := []) (hs := [(78,s_Ok),(58,z5a)]) trivial ⟨za0,zmn,trivial⟩ zma (fun _ => rfl) (fun n hp x k hh hl h => ?_) (fun hp a h => ?_)
 · have o1 := zf6 hh
   rcases x with _ | ⟨l,a⟩
   · have e : hp.set n (oP (z9 none k)) = hp := zb8 hh
     simp only [↓sqP,sqT,zaz,↓zh,zc,dval,za,↓reduceIte,dUn,retV,DR.val,List.map_cons,List.map_nil,reduceCtorEq,o1,Option.isSome_none,zb1,bsO,e]
   · have hh' : hp[n]? = some ⟨.loc,3,[[.sl (bsl l),.bool true,.int .i64 a]]⟩ := hh
     obtain ⟨ha,hlen⟩ := h
     unfold ok62 at hlen
     have w1 : IntKind.i64.wrap ((l.length : Int) - (a : Int)) = (l.length : Int) - (a : Int) := zt (by omega)
     have f1 := zzp hh'
     have g1 : (hp.set n ⟨.loc,3,[[.nil,.bool false,.int .i64 a]]⟩)[n]? = some ⟨.loc,3,[[.nil,.bool false,.int .i64 a]]⟩ := List.getElem?_set_self hl
     by_cases h0 : k < 0
     · have e1 : nxt l (some a) k = (none,none) := by simp only [nxt]; rw [if_neg (by omega)]
       have d0 : decide (k < 0) = true := by simp [h0]
       simp only [↓sqP,sqT,zaz,↓zh,zc,zm,dval,za,Nat.reduceEqDiff,Nat.reduceAdd,↓reduceIte,dBin,dInt,dUn,retV,DR.val,List.map_cons,List.map_nil,Option.map_none,Bool.false_eq_true,forall_const,reduceCtorEq,List.length_cons,List.length_nil,List.getD_cons_zero,Nat.reduceLeDiff,List.set_cons_zero,List.set_set,List.set_cons_succ,zo,DV.one,alive,List.not_mem_nil,List.forall_mem_cons,cellsOf,zf,ne_eq,o1,Option.isSome_some,d0,f1,g1,hh',zb1,z9,e1,bsO,toP,oP]
     have d0 : decide (k < 0) = false := by simp [h0]
     by_cases h1 : (l.length : Int) - a < k
     · have e1 : nxt l (some a) k = (none,none) := by simp only [nxt]; rw [if_neg (by omega)]
       have d1 : decide ((l.length : Int) - a < k) = true := by simp [h1]
       simp only [↓sqP,sqT,zaz,List.drop_succ_cons,↓zh,zc,zm,dval,za,Nat.reduceEqDiff,Nat.reduceAdd,↓reduceIte,dBin,dInt,dUn,zg,zb,retV,DR.val,List.map_cons,List.map_nil,Option.map_none,Bool.false_eq_true,forall_const,reduceCtorEq,List.length_cons,List.length_nil,List.getD_cons_zero,Nat.reduceLeDiff,Nat.reduceLT,List.set_cons_zero,List.set_set,List.set_cons_succ,zo,DV.one,alive,List.drop_zero,List.not_mem_nil,List.forall_mem_cons,cellsOf,zf,gt_iff_lt,ne_eq,o1,Option.isSome_some,d0,d1,w1,f1,g1,hh',zb1,z9,e1,bsO,toP,oP]
     · have e1 : nxt l (some a) k = (some ((l.take (a + k.toNat)).drop a),some (a + k.toNat)) := by simp only [nxt]; rw [if_pos (by omega)]
       have d1 : decide ((l.length : Int) - a < k) = false := by simp [h1]
       have w2 : IntKind.i64.wrap ((a : Int) + k) = ((a + k.toNat : Nat) : Int) := by rw [zt (by omega)]; omega
       have g2 : (hp.set n ⟨.loc,3,[[.sl (bsl l),.bool true,.int .i64 ((a + k.toNat : Nat) : Int)]]⟩)[n]? = some ⟨.loc,3,[[.sl (bsl l),.bool true,.int .i64 ((a + k.toNat : Nat) : Int)]]⟩ := List.getElem?_set_self hl
       simp only [↓sqP,sqT,zaz,List.drop_succ_cons,↓zh,zc,zm,dval,za,Nat.reduceEqDiff,Nat.reduceAdd,↓reduceIte,dBin,dInt,dUn,zg,zb,retV,DR.val,List.map_cons,List.map_nil,Option.map_some,Bool.false_eq_true,forall_const,reduceCtorEq,List.length_cons,List.length_nil,List.getD_cons_zero,Nat.reduceLeDiff,Nat.reduceLT,List.set_cons_zero,List.set_cons_succ,zo,DV.one,alive,List.drop_zero,List.not_mem_nil,List.forall_mem_cons,cellsOf,zf,gt_iff_lt,ne_eq,o1,Option.isSome_some,d0,d1,w1,w2,g2,hh',zb1,z9,e1,bsO,toP,oP,z25]
       omega
 · simp only [↓sqP,sqT,zaz,↓zh,zc,dval,za,↓reduceIte,dUn,retV,DR.val,List.map_cons,List.map_nil,reduceCtorEq,z3v]
def numV (r : Option (List UInt8 × Nat)) (k : Int) : Int := IntKind.i64.wrap (getF ((zb1 r (szN k)).getD []))
noncomputable def zj1 : List DV → List DObj → Res := zgt oP (fun n : Int => [.int .i64 n]) (fun r n => (okP r,.int .i64 (numV r n),z9 r (szN n))) (fun _ => (True,.int .i64 0))
theorem zpm {hp : List DObj} {n : Nat} {r : Option (List UInt8 × Nat)} (hh : hp[n]? = some (oP r)) (k : Int) : zj1 [.ptr n 1 0 0,.int .i64 k] hp = ⟨okP r,.int .i64 (numV r k),hp.set n (oP (z9 r (szN k)))⟩ :=
 zcb zod zew _ _ hh k
theorem ybp (hp : List DObj) (k : Int) : zj1 [.nilp,.int .i64 k] hp = ⟨True,.int .i64 0,hp⟩ := zuu zew _ _ hp k
theorem zuh {r : Option (List UInt8 × Nat)} {n : Int} (h : okP r) : zez ((zb1 r n).getD []) := by
 unfold zez
 rcases r with _ | ⟨l,a⟩
 · simp [zb1]
 · have := h.2
   unfold ok62 at this
   simp only [zb1,nxt]
   split
   · simp; omega
   · simp
theorem szN_hi {k : Int} (h : k < 1 ∨ 4 < k) : szN k = -1 := by simp only [szN]; rw [if_pos h]
theorem szN_in {k : Int} (h : ¬ (k < 1 ∨ 4 < k)) : szN k = k := by simp only [szN]; rw [if_neg h]
theorem zam : OkH Tryz.prog 76 zj1 := by
 refine OkH.mkM (ps := [(115,zby fGet)]) (hs := [(116,ztn)]) ⟨zrm,trivial⟩ ⟨zet,trivial⟩ znt (fun _ => rfl) (fun n hp x k hh hl h => ?_) (fun hp k h => ?_)
 · have g := fun m => zuh (n := m) h
   rcases Classical.em (k < 1 ∨ 4 < k) with hk | hk
   · have e := szN_hi hk
     have n1 := zh2 hh (-1)
     have h' : okP x := h
     by_cases h1 : k < 1
     · have d1 : decide (k < 1) = true := by simp [h1]
       simp only [↓sqP,sqT,zap,↓zh,zc,zm,dval,za,Nat.reduceEqDiff,↓reduceIte,dBin,dInt,retV,DR.val,fzVs,fzV,fz1,DV.immB,List.map_cons,List.map_nil,reduceCtorEq,zp,zq,z1,zz,zu,z6,zi,freezeAt,Int.reduceNeg,d1,n1,e,numV,h']
       cases hv : zb1 x (-1) <;> simp only [sqT,bsO,↓reduceIte,zcf,Int.reduceNeg,fGet,Option.getD_some,Option.getD_none] <;> have := g (-1) <;> simp_all
     · have d1 : decide (k < 1) = false := by simp [h1]
       have d2 : decide (4 < k) = true := by simp; omega
       simp only [↓sqP,sqT,zap,↓zh,zc,zm,dval,za,Nat.reduceEqDiff,↓reduceIte,dBin,dInt,retV,DR.val,fzVs,fzV,fz1,DV.immB,List.map_cons,List.map_nil,reduceCtorEq,zp,zq,z1,zz,zu,z6,zi,freezeAt,gt_iff_lt,Int.reduceNeg,d1,d2,n1,e,numV,h']
       cases hv : zb1 x (-1) <;> simp only [sqT,bsO,↓reduceIte,zcf,Int.reduceNeg,fGet,Option.getD_some,Option.getD_none] <;> have := g (-1) <;> simp_all
   · have e := szN_in hk
     have n1 := zh2 hh k
     have h' : okP x := h
     have d1 : decide (k < 1) = false := by simp; omega
     have d2 : decide (4 < k) = false := by simp; omega
     simp only [↓sqP,sqT,zap,↓zh,zc,zm,dval,za,Nat.reduceEqDiff,↓reduceIte,dBin,dInt,retV,DR.val,fzVs,fzV,fz1,DV.immB,List.map_cons,List.map_nil,Bool.false_eq_true,reduceCtorEq,zp,zq,z1,zz,zu,z6,zi,freezeAt,gt_iff_lt,Int.reduceNeg,d1,d2,n1,e,numV,h']
     cases hv : zb1 x k <;> simp only [sqT,bsO,↓reduceIte,zcf,fGet,Option.getD_some,Option.getD_none] <;> have := g k <;> simp_all
 · rcases Classical.em (k < 1) with h1 | h1
   · have d1 : decide (k < 1) = true := by simp [h1]
     simp only [↓sqP,sqT,zap,↓zh,zc,zm,dval,za,Nat.reduceEqDiff,↓reduceIte,dBin,dInt,retV,DR.val,List.map_cons,List.map_nil,reduceCtorEq,IntKind.wrap_i64,zp,zq,z1,zz,zu,z6,zcf,Int.reduceNeg,DV.int.injEq,d1,zl3,fGet]
     simp [getF,zez]
   · have d1 : decide (k < 1) = false := by simp [h1]
     rcases Classical.em (4 < k) with h2 | h2
     · have d2 : decide (4 < k) = true := by simp [h2]
       simp only [↓sqP,sqT,zap,↓zh,zc,zm,dval,za,Nat.reduceEqDiff,↓reduceIte,dBin,dInt,retV,DR.val,List.map_cons,List.map_nil,reduceCtorEq,IntKind.wrap_i64,zp,zq,z1,zz,zu,z6,zcf,gt_iff_lt,Int.reduceNeg,DV.int.injEq,d1,d2,zl3,fGet]
       simp [getF,zez]
     · have d2 : decide (4 < k) = false := by simp [h2]
       simp only [↓sqP,sqT,zap,↓zh,zc,zm,dval,za,Nat.reduceEqDiff,↓reduceIte,dBin,dInt,retV,DR.val,List.map_cons,List.map_nil,Bool.false_eq_true,reduceCtorEq,IntKind.wrap_i64,zp,zq,z1,zz,zu,z6,zcf,gt_iff_lt,Int.reduceNeg,DV.int.injEq,d1,d2,zl3,fGet]
       simp [getF,zez]
end Go.Proofs.YtfaailjhioobhaaGreat
set_option linter.all false
set_option maxRecDepth 20000
namespace Go.Proofs.YtfaailjhioobhaaGreat
open Go.Nk
theorem z11 (b : List UInt8) : ∀ e ∈ bsl b,∃ n,e = [.int .u8 n] := by
 intro e he
 simp only [bsl,List.mem_map] at he
 obtain ⟨x,_,rfl⟩ := he
 exact ⟨_,rfl⟩
abbrev RS := Option (List UInt8 × Nat)
def rawV (r : RS) (k : Int) : Option (List UInt8) := zb1 (z9 r (szN k)) (numV r k)
def rawS (r : RS) (k : Int) : RS := z9 (z9 r (szN k)) (numV r k)
def intV (r : RS) : Int := match rawV r 1 with
 | some b => if bad b then 0 else sgn b
 | none => 0
def intS (r : RS) : RS := match rawV r 1 with
 | some b => if bad b then none else rawS r 1
 | none => none
theorem z7e {r : RS} {k : Int} (h : zb1 r k = none) : z9 r k = none := by
 rcases r with _ | ⟨l,a⟩
 · rfl
 · simp only [zb1,z9,nxt] at h ⊢
   split at h
   · cases h
   · rename_i hc; rw [if_neg hc]; rfl
theorem z7x {r : RS} {k : Int} {b : List UInt8} (h : zb1 r k = some b) : (z9 r k).isSome = true := by
 rcases r with _ | ⟨l,a⟩
 · cases h
 · simp only [zb1,z9,nxt] at h ⊢
   split at h
   · rename_i hc; rw [if_pos hc]; rfl
   · cases h
theorem zhn {r : RS} (k : Int) (h : okP r) : okP (rawS r k) := zav _ (zav _ h)
theorem z6s {r : RS} {k : Int} (h : okP r) : zez ((rawV r k).getD []) := zuh (zav _ h)
theorem ybr (r : RS) : z9 r (-1) = none := by
 rcases r with _ | ⟨l,a⟩
 · rfl
 · simp only [z9,nxt]; rw [if_neg (by omega)]; rfl
theorem z9w {r : RS} (h : okP r) : okP (intS r) := by
 unfold intS
 split
 · split
   · exact trivial
   · exact zhn 1 h
 · exact trivial
noncomputable def zz0 : List DV → List DObj → Res := zgt oP (fun _ : Unit => []) (fun r _ => (okP r,.int .i64 (intV r),intS r)) (fun _ => (False,.undef))
theorem yax {hp : List DObj} {n : Nat} {r : RS} (hh : hp[n]? = some (oP r)) : zz0 [.ptr n 1 0 0] hp = ⟨okP r,.int .i64 (intV r),hp.set n (oP (intS r))⟩ := zcb zod (zbc _) _ _ hh ()
theorem zpk : OkH Tryz.prog 121 zz0 := by
 refine OkH.mkM (ps := [(134,zby zj3)]) (hs := [(76,zj1),(116,ztn),(78,s_Ok)]) ⟨zx2,trivial⟩ ⟨zam,zet,za0,trivial⟩ znj (fun _ => rfl) (fun n hp x a hh hl h => ?_) (fun hp a h => h.elim)
 have h1 : okP x := h
 have h2 := zav (szN 1) h1
 have h3 := zav (numV x 1) h2
 have n1 := zpm hh 1
 have g1 : (hp.set n (oP (z9 x (szN 1))))[n]? = some (oP (z9 x (szN 1))) := List.getElem?_set_self hl
 have n2 := zh2 g1 (numV x 1)
 simp only [List.set_set] at n2
 have g2 : (hp.set n (oP (rawS x 1)))[n]? = some (oP (rawS x 1)) := List.getElem?_set_self hl
 have o1 := zf6 g2
 have n3 := zh2 g2 (-1)
 have e1 : zb1 (z9 x (szN 1)) (numV x 1) = rawV x 1 := rfl
 have e2 : z9 (z9 x (szN 1)) (numV x 1) = rawS x 1 := rfl
 rw [e1,e2] at n2
 have h4 : okP (rawS x 1) := h3
 have hs := z6s (k := 1) h1
 cases hv : rawV x 1 with
 | none =>
   have : rawS x 1 = none := z7e hv
   rw [this] at o1 n2
   simp only [↓sqP,sqT,zcm,↓zh,zc,dval,za,Nat.reduceEqDiff,↓reduceIte,dUn,retV,DR.val,List.map_cons,List.map_nil,reduceCtorEq,Int.reduceNeg,n1,n2,o1,h1,h2,hv,bsO,intV,intS,Option.isSome_none]
 | some b =>
   have hq : (rawS x 1).isSome = true := z7x hv
   rw [hv] at hs
   have hs' : zez b := hs
   cases hb : bad b with
   | true =>
     simp only [↓sqP,sqT,zcm,↓zh,zc,dval,za,Nat.reduceEqDiff,Nat.reduceAdd,↓reduceIte,dUn,retV,DR.val,DV.immB,List.map_cons,List.map_nil,Bool.false_eq_true,reduceCtorEq,List.length_cons,List.length_nil,List.getD_cons_zero,List.getD_cons_succ,Nat.reduceLT,zp,zq,z1,zz,zu,z6,List.all_cons,List.all_nil,List.set_set,Int.reduceNeg,n1,n2,n3,o1,h1,h2,h4,hv,bsO,intV,intS,hq,zj3,hb,hs',ybr]
   | false =>
     simp only [↓sqP,sqT,zcm,↓zh,zc,dval,za,Nat.reduceEqDiff,Nat.reduceAdd,↓reduceIte,dUn,retV,DR.val,DV.immB,List.map_cons,List.map_nil,Bool.false_eq_true,reduceCtorEq,List.length_cons,List.length_nil,List.getD_cons_zero,List.getD_cons_succ,Nat.reduceLT,zp,zq,z1,zz,zu,z6,List.all_cons,List.all_nil,Int.reduceNeg,n1,n2,o1,h1,h2,hv,bsO,intV,intS,hq,zj3,hb,hs']
def zop (r : RS) : List UInt8 := (rawV r 2).getD []
noncomputable def zm5 : List DV → List DObj → Res := zgt oP (fun _ : Unit => []) (fun r _ => (okP r,.str (zop r),rawS r 2)) (fun _ => (True,.str []))
theorem z6z {hp : List DObj} {n : Nat} {r : RS} (hh : hp[n]? = some (oP r)) : zm5 [.ptr n 1 0 0] hp = ⟨okP r,.str (zop r),hp.set n (oP (rawS r 2))⟩ := zcb zod (zbc _) _ _ hh ()
theorem zev : OkH Tryz.prog 117 zm5 := by
 refine OkH.mkM (ps := []) (hs := [(76,zj1),(116,ztn)]) trivial ⟨zam,zet,trivial⟩ zl4 (fun _ => rfl) (fun n hp x a hh hl h => ?_) (fun hp a h => ?_)
 · have h1 : okP x := h
   have h2 := zav (szN 2) h1
   have n1 := zpm hh 2
   have g1 : (hp.set n (oP (z9 x (szN 2))))[n]? = some (oP (z9 x (szN 2))) := List.getElem?_set_self hl
   have n2 := zh2 g1 (numV x 2)
   simp only [List.set_set] at n2
   have e1 : zb1 (z9 x (szN 2)) (numV x 2) = rawV x 2 := rfl
   have e2 : z9 (z9 x (szN 2)) (numV x 2) = rawS x 2 := rfl
   rw [e1,e2] at n2
   cases hv : rawV x 2 with
   | none => simp only [↓sqP,sqT,zca,zc,dval,za,Nat.reduceEqDiff,↓reduceIte,retV,DR.val,List.map_cons,List.map_nil,forall_const,reduceCtorEq,zi,List.not_mem_nil,n1,n2,h1,h2,hv,bsO,zop,Option.getD_none]
   | some b =>
     simp only [↓sqP,sqT,zca,zc,dval,za,Nat.reduceEqDiff,↓reduceIte,retV,DR.val,List.map_cons,List.map_nil,reduceCtorEq,zi,DV.str.injEq,n1,n2,h1,h2,hv,bsO,zop,Option.getD_some]
     refine ⟨z11 b,?_⟩
     simp [bsl,Function.comp_def]
 · simp only [↓sqP,sqT,zca,zc,dval,za,Nat.reduceEqDiff,↓reduceIte,retV,DR.val,List.map_cons,List.map_nil,forall_const,reduceCtorEq,zi,List.not_mem_nil,ybp,zl3]
def zj5 (r : RS) : List UInt8 := (rawV r 4).getD []
noncomputable def zx4 : List DV → List DObj → Res := zgt oP (fun _ : Unit => []) (fun r _ => (okP r,.sl (bsl (zj5 r)),rawS r 4)) (fun _ => (False,.undef))
theorem z7a {hp : List DObj} {n : Nat} {r : RS} (hh : hp[n]? = some (oP r)) : zx4 [.ptr n 1 0 0] hp = ⟨okP r,.sl (bsl (zj5 r)),hp.set n (oP (rawS r 4))⟩ := zcb zod (zbc _) _ _ hh ()
theorem z82 {r : RS} {n : Int} (h : okP r) : ((zb1 r n).getD []).length ≤ 4294967296 := by
 rcases r with _ | ⟨l,a⟩
 · simp [zb1]
 · have := h.2
   unfold ok62 at this
   simp only [zb1,nxt]
   split
   · simp; omega
   · simp
theorem zvg : OkH Tryz.prog 77 zx4 := by
 refine OkH.mkM (ps := [(64,zby zjo)]) (hs := [(76,zj1),(116,ztn)]) ⟨za7,trivial⟩ ⟨zam,zet,trivial⟩ zmd (fun _ => rfl) (fun n hp x a hh hl h => ?_) (fun hp a h => h.elim)
 have h1 : okP x := h
 have h2 := zav (szN 4) h1
 have n1 := zpm hh 4
 have g1 : (hp.set n (oP (z9 x (szN 4))))[n]? = some (oP (z9 x (szN 4))) := List.getElem?_set_self hl
 have n2 := zh2 g1 (numV x 4)
 simp only [List.set_set] at n2
 have hq := z82 (n := numV x 4) h2
 have e1 : zb1 (z9 x (szN 4)) (numV x 4) = rawV x 4 := rfl
 have e2 : z9 (z9 x (szN 4)) (numV x 4) = rawS x 4 := rfl
 rw [e1] at hq
 rw [e1,e2] at n2
 cases hv : rawV x 4 with
 | none => simp only [↓sqP,sqT,zde,zc,dval,za,Nat.reduceEqDiff,↓reduceIte,retV,DR.val,fzVs,fzV,fz1,List.map_cons,List.map_nil,Bool.false_eq_true,reduceCtorEq,List.length_nil,Nat.reduceLeDiff,zp,zq,z1,zz,zu,z6,zcf,n1,n2,h1,h2,hv,bsO,zj5,Option.getD_none,zjo,bsl]
 | some b =>
   rw [hv] at hq
   have hq' : b.length ≤ 4294967296 := hq
   simp only [↓sqP,sqT,zde,zc,dval,za,Nat.reduceEqDiff,↓reduceIte,retV,DR.val,fzVs,fzV,fz1,DV.immB,List.map_cons,List.map_nil,Bool.false_eq_true,reduceCtorEq,zp,zq,z1,zz,zu,z6,n1,n2,h1,h2,hv,bsO,zj5,Option.getD_some,zjo,hq']
noncomputable def zk1 : List DV → List DObj → Res := fun a hp => ⟨∃ l,a = [.sl (bsl l)] ∧ l.length ≤ 4294967296,.ptr hp.length 1 0 0,hp ++ [⟨.loc,3,[a ++ [.bool true,.int .i64 0]]⟩]⟩
theorem zq9 (l : List UInt8) (hp : List DObj) : zk1 [.sl (bsl l)] hp = ⟨l.length ≤ 4294967296,.ptr hp.length 1 0 0,hp ++ [oP (some (l,0))]⟩ := by
 unfold zk1
 simp only [oP,Res.mk.injEq]
 refine ⟨propext ⟨?_,fun h => ⟨l,rfl,h⟩⟩,trivial,rfl⟩
 rintro ⟨l',h1,h2⟩
 simp only [List.cons.injEq,DV.sl.injEq,and_true] at h1
 rw [zfo h1]
 exact h2
theorem zhp : OkH Tryz.prog 75 zk1 := by
 refine OkH.mk (ps := [(64,zby zjo)]) (hs := []) (n := 1) ⟨za7,trivial⟩ trivial zx9 fun a hp h => ?_
 obtain ⟨l,rfl,hl⟩ := h
 refine ⟨rfl,?_⟩
 simp only [↓sqP,sqT,zpf,zk1,List.cons_append,zj,zc,dval,za,Nat.reduceAdd,↓reduceIte,retV,DR.val,fzVs,fzV,fz1,DV.immB,List.map_cons,List.map_nil,Bool.false_eq_true,forall_const,reduceCtorEq,List.length_cons,List.length_nil,Nat.reduceLeDiff,zp,zq,z1,zz,zu,z6,List.set_cons_zero,List.set_cons_succ,DV.one,List.not_mem_nil,List.forall_mem_cons,List.nil_append,cellsOf,zf,DV.isU,List.cons.injEq,zjo,hl]
end Go.Proofs.YtfaailjhioobhaaGreat
set_option linter.all false
set_option maxRecDepth 20000
namespace Go.Proofs.YtfaailjhioobhaaGreat
open Go.Nk
abbrev QS := List UInt8 × Option Nat
def oR : QS → DObj
 | (l,some a) => ⟨.loc,3,[[.sl (bsl l),.int .i64 a,.bool false]]⟩
 | (l,none) => ⟨.loc,3,[[.sl (bsl l),.int .i64 0,.bool true]]⟩
theorem ztw : InjL oR := by
 rintro ⟨l,a⟩ ⟨l',a'⟩ h
 rcases a with _ | a <;> rcases a' with _ | a' <;> simp [oR] at h
 · rw [zfo h]
 · obtain ⟨h1,h2⟩ := h
   have h3 : a = a' := by omega
   rw [zfo h1,h3]
def okQ (r : QS) : Prop := inR r.1 r.2 ∧ ok62 r.1
def qS (r : QS) (k : Int) : QS := (r.1,(nxt r.1 r.2 k).2)
def qV (r : QS) (k : Int) : Option (List UInt8) := (nxt r.1 r.2 k).1
theorem zb3 {r : QS} (k : Int) (h : okQ r) : okQ (qS r k) := ⟨nxt_in k h.1,h.2⟩
noncomputable def zvw : List DV → List DObj → Res := zgt oR (fun n : Int => [.int .i64 n]) (fun r n => (okQ r,bsO (qV r n),qS r n)) (fun _ => (False,.undef))
theorem zkw {hp : List DObj} {n : Nat} {r : QS} (hh : hp[n]? = some (oR r)) (k : Int) : zvw [.ptr n 1 0 0,.int .i64 k] hp = ⟨okQ r,bsO (qV r k),hp.set n (oR (qS r k))⟩ := zcb ztw zew _ _ hh k
theorem zi9 : OkH Tryz.prog 124 zvw := by
 refine OkH.mkM (ps := []) (hs := []) trivial trivial znk (fun _ => rfl) (fun n hp x k hh hl h => ?_) (fun hp a h => h.elim)
 obtain ⟨l,s⟩ := x
 rcases s with _ | a
 · have hh' : hp[n]? = some ⟨.loc,3,[[.sl (bsl l),.int .i64 0,.bool true]]⟩ := hh
   have g1 : (hp.set n ⟨.loc,3,[[.sl (bsl l),.int .i64 0,.bool true]]⟩)[n]? = some ⟨.loc,3,[[.sl (bsl l),.int .i64 0,.bool true]]⟩ := List.getElem?_set_self hl
   simp only [↓sqP,sqT,zbp,List.drop_succ_cons,↓zh,zc,zm,dval,za,Nat.reduceEqDiff,Nat.reduceAdd,↓reduceIte,zg,zb,retV,DR.val,forall_const,reduceCtorEq,List.length_cons,List.length_nil,List.getD_cons_zero,Nat.reduceLeDiff,List.set_cons_zero,List.set_set,List.set_cons_succ,zo,DV.one,alive,List.drop_zero,List.not_mem_nil,List.forall_mem_cons,cellsOf,zf,ne_eq,hh',g1,qV,qS,nxt,bsO,oR]
 · have hh' : hp[n]? = some ⟨.loc,3,[[.sl (bsl l),.int .i64 a,.bool false]]⟩ := hh
   obtain ⟨ha,hlen⟩ := h
   simp only [inR] at ha
   unfold ok62 at hlen
   simp only at hlen
   have w1 : IntKind.i64.wrap ((l.length : Int) - (a : Int)) = (l.length : Int) - (a : Int) := zt (by omega)
   have g1 : (hp.set n ⟨.loc,3,[[.sl (bsl l),.int .i64 a,.bool true]]⟩)[n]? = some ⟨.loc,3,[[.sl (bsl l),.int .i64 a,.bool true]]⟩ := List.getElem?_set_self hl
   by_cases h0 : k < 0
   · have e1 : nxt l (some a) k = (none,none) := by simp only [nxt]; rw [if_neg (by omega)]
     have d0 : decide (k < 0) = true := by simp [h0]
     simp only [↓sqP,sqT,zbp,List.drop_succ_cons,↓zh,zc,zm,dval,za,Nat.reduceEqDiff,Nat.reduceAdd,↓reduceIte,dBin,dInt,zg,zb,retV,DR.val,forall_const,reduceCtorEq,List.length_cons,List.length_nil,List.getD_cons_zero,Nat.reduceLeDiff,List.set_cons_zero,List.set_set,List.set_cons_succ,zo,DV.one,alive,List.drop_zero,List.not_mem_nil,List.forall_mem_cons,cellsOf,zf,ne_eq,hh',g1,qV,qS,e1,d0,bsO,oR]
   have d0 : decide (k < 0) = false := by simp [h0]
   by_cases h1 : (l.length : Int) - a < k
   · have e1 : nxt l (some a) k = (none,none) := by simp only [nxt]; rw [if_neg (by omega)]
     have d1 : decide ((l.length : Int) - a < k) = true := by simp [h1]
     simp only [↓sqP,sqT,zbp,List.drop_succ_cons,↓zh,zc,zm,dval,za,Nat.reduceEqDiff,Nat.reduceAdd,↓reduceIte,dBin,dInt,zg,zb,retV,DR.val,forall_const,reduceCtorEq,List.length_cons,List.length_nil,List.getD_cons_zero,Nat.reduceLeDiff,Nat.reduceLT,List.set_cons_zero,List.set_set,List.set_cons_succ,zo,DV.one,alive,List.drop_zero,List.not_mem_nil,List.forall_mem_cons,cellsOf,zf,gt_iff_lt,ne_eq,hh',g1,qV,qS,e1,d0,d1,w1,bsO,oR]
   · have e1 : nxt l (some a) k = (some ((l.take (a + k.toNat)).drop a),some (a + k.toNat)) := by simp only [nxt]; rw [if_pos (by omega)]
     have d1 : decide ((l.length : Int) - a < k) = false := by simp [h1]
     have w2 : IntKind.i64.wrap ((a : Int) + k) = ((a + k.toNat : Nat) : Int) := by rw [zt (by omega)]; omega
     have w3 : IntKind.i64.wrap (((a + k.toNat : Nat) : Int) - k) = (a : Int) := by rw [zt (by omega)]; omega
     have g2 : (hp.set n ⟨.loc,3,[[.sl (bsl l),.int .i64 ((a + k.toNat : Nat) : Int),.bool false]]⟩)[n]? = some ⟨.loc,3,[[.sl (bsl l),.int .i64 ((a + k.toNat : Nat) : Int),.bool false]]⟩ := List.getElem?_set_self hl
     simp only [↓sqP,sqT,zbp,List.drop_succ_cons,↓zh,zc,zm,dval,za,Nat.reduceEqDiff,Nat.reduceAdd,↓reduceIte,dBin,dInt,zg,zb,retV,DR.val,Option.map_some,Option.map_none,Bool.false_eq_true,forall_const,reduceCtorEq,List.length_cons,List.length_nil,List.getD_cons_zero,Nat.reduceLeDiff,Nat.reduceLT,List.set_cons_zero,List.set_cons_succ,zo,DV.one,alive,List.drop_zero,List.not_mem_nil,List.forall_mem_cons,cellsOf,zf,gt_iff_lt,ne_eq,hh',g2,qV,qS,e1,d0,d1,w1,w2,w3,bsO,oR]
     omega
def zax (r : QS) (k : Int) : Int := IntKind.i64.wrap (getF ((qV r (szN k)).getD []))
theorem z5y {r : QS} {n : Int} (h : okQ r) : zez ((qV r n).getD []) := by
 obtain ⟨l,s⟩ := r
 have := h.2
 unfold ok62 at this
 simp only at this
 unfold zez
 rcases s with _ | a
 · simp [qV,nxt]
 · simp only [qV,nxt]
   split
   · simp; omega
   · simp
noncomputable def zg3 : List DV → List DObj → Res := zgt oR (fun n : Int => [.int .i64 n]) (fun r n => (okQ r,.int .i64 (zax r n),qS r (szN n))) (fun _ => (False,.undef))
theorem zk9 {hp : List DObj} {n : Nat} {r : QS} (hh : hp[n]? = some (oR r)) (k : Int) : zg3 [.ptr n 1 0 0,.int .i64 k] hp = ⟨okQ r,.int .i64 (zax r k),hp.set n (oR (qS r (szN k)))⟩ := zcb ztw zew _ _ hh k
theorem zb4 : OkH Tryz.prog 91 zg3 := by
 refine OkH.mkM (ps := [(123,zby fGet)]) (hs := [(124,zvw)]) ⟨zp6,trivial⟩ ⟨zi9,trivial⟩ zn8 (fun _ => rfl) (fun n hp x k hh hl h => ?_) (fun hp k h => h.elim)
 have g := fun m => z5y (n := m) h
 have h' : okQ x := h
 rcases Classical.em (k < 1 ∨ 4 < k) with hk | hk
 · have e := szN_hi hk
   have n1 := zkw hh (-1)
   by_cases h1 : k < 1
   · have d1 : decide (k < 1) = true := by simp [h1]
     simp only [↓sqP,sqT,zc1,↓zh,zc,zm,dval,za,Nat.reduceEqDiff,↓reduceIte,dBin,dInt,retV,DR.val,fzVs,fzV,fz1,DV.immB,List.map_cons,List.map_nil,reduceCtorEq,zp,zq,z1,zz,zu,z6,zi,freezeAt,Int.reduceNeg,d1,n1,e,zax,h']
     cases hv : qV x (-1) <;> simp only [sqT,bsO,↓reduceIte,zcf,Int.reduceNeg,fGet,Option.getD_some,Option.getD_none] <;> have := g (-1) <;> simp_all
   · have d1 : decide (k < 1) = false := by simp [h1]
     have d2 : decide (4 < k) = true := by simp; omega
     simp only [↓sqP,sqT,zc1,↓zh,zc,zm,dval,za,Nat.reduceEqDiff,↓reduceIte,dBin,dInt,retV,DR.val,fzVs,fzV,fz1,DV.immB,List.map_cons,List.map_nil,reduceCtorEq,zp,zq,z1,zz,zu,z6,zi,freezeAt,gt_iff_lt,Int.reduceNeg,d1,d2,n1,e,zax,h']
     cases hv : qV x (-1) <;> simp only [sqT,bsO,↓reduceIte,zcf,Int.reduceNeg,fGet,Option.getD_some,Option.getD_none] <;> have := g (-1) <;> simp_all
 · have e := szN_in hk
   have n1 := zkw hh k
   have d1 : decide (k < 1) = false := by simp; omega
   have d2 : decide (4 < k) = false := by simp; omega
   simp only [↓sqP,sqT,zc1,↓zh,zc,zm,dval,za,Nat.reduceEqDiff,↓reduceIte,dBin,dInt,retV,DR.val,fzVs,fzV,fz1,DV.immB,List.map_cons,List.map_nil,Bool.false_eq_true,reduceCtorEq,zp,zq,z1,zz,zu,z6,zi,freezeAt,gt_iff_lt,Int.reduceNeg,d1,d2,n1,e,zax,h']
   cases hv : qV x k <;> simp only [sqT,bsO,↓reduceIte,zcf,fGet,Option.getD_some,Option.getD_none] <;> have := g k <;> simp_all
end Go.Proofs.YtfaailjhioobhaaGreat
set_option linter.all false
set_option maxRecDepth 20000
namespace Go.Proofs.YtfaailjhioobhaaGreat
open Go.Nk
def rqV (r : QS) (k : Int) : Option (List UInt8) := qV (qS r (szN k)) (zax r k)
def rqS (r : QS) (k : Int) : QS := qS (qS r (szN k)) (zax r k)
theorem zfe {r : QS} (k : Int) (h : okQ r) : okQ (rqS r k) := zb3 _ (zb3 _ h)
theorem z9z {r : QS} {k : Int} (h : okQ r) : zez ((rqV r k).getD []) := z5y (zb3 _ h)
theorem zya {l : List UInt8} {s : Option Nat} (h : s = none) : oR (l,s) = ⟨.loc,3,[[.sl (bsl l),.int .i64 0,.bool true]]⟩ := by subst h; rfl
theorem zxo {l : List UInt8} {s : Option Nat} {a : Nat} (h : s = some a) : oR (l,s) = ⟨.loc,3,[[.sl (bsl l),.int .i64 a,.bool false]]⟩ := by subst h; rfl
theorem zul {l : List UInt8} {s : Option Nat} {k : Int} (hq : (nxt l s (szN k)).2 = none) : rqV (l,s) k = none ∧ rqS (l,s) k = (l,none) := by
 have e : qS (l,s) (szN k) = (l,none) := by unfold qS; exact congrArg (l,·) hq
 unfold rqV rqS
 rw [e]
 exact ⟨rfl,rfl⟩
noncomputable def zqb : List DV → List DObj → Res := zgt oR (fun _ : Unit => []) (fun r _ => (okQ r,.str ((rqV r 2).getD []),rqS r 2)) (fun _ => (False,.undef))
theorem z54 {hp : List DObj} {n : Nat} {r : QS} (hh : hp[n]? = some (oR r)) : zqb [.ptr n 1 0 0] hp = ⟨okQ r,.str ((rqV r 2).getD []),hp.set n (oR (rqS r 2))⟩ := zcb ztw (zbc _) _ _ hh ()
theorem zmx : OkH Tryz.prog 94 zqb := by
 refine OkH.mkM (ps := []) (hs := [(91,zg3),(124,zvw)]) trivial ⟨zb4,zi9,trivial⟩ znf (fun _ => rfl) (fun n hp x a hh hl h => ?_) (fun hp a h => h.elim)
 have h1 : okQ x := h
 have h2 := zb3 (szN 2) h1
 have n1 := zk9 hh 2
 have g1 : (hp.set n (oR (qS x (szN 2))))[n]? = some (oR (qS x (szN 2))) := List.getElem?_set_self hl
 have n2 := zkw g1 (zax x 2)
 simp only [List.set_set] at n2
 have e1 : qV (qS x (szN 2)) (zax x 2) = rqV x 2 := rfl
 have e2 : qS (qS x (szN 2)) (zax x 2) = rqS x 2 := rfl
 rw [e1,e2] at n2
 obtain ⟨l,s⟩ := x
 cases hq : (nxt l s (szN 2)).2 with
 | none =>
   have k1 : oR (qS (l,s) (szN 2)) = ⟨.loc,3,[[.sl (bsl l),.int .i64 0,.bool true]]⟩ := zya hq
   have k2 : rqV (l,s) 2 = none := (zul hq).1
   have k3 : rqS (l,s) 2 = (l,none) := (zul hq).2
   have k4 : oR (l,none) = ⟨.loc,3,[[.sl (bsl l),.int .i64 0,.bool true]]⟩ := rfl
   rw [k1] at n1 g1
   simp only [↓sqP,sqT,zco,List.drop_succ_cons,↓zh,zc,dval,za,↓reduceIte,zg,zb,retV,DR.val,List.map_cons,List.map_nil,reduceCtorEq,List.length_cons,List.length_nil,List.getD_cons_zero,alive,List.drop_zero,ne_eq,n1,h1,g1,k2,k3,k4,Option.getD_none]
 | some a =>
   have k1 : oR (qS (l,s) (szN 2)) = ⟨.loc,3,[[.sl (bsl l),.int .i64 a,.bool false]]⟩ := zxo hq
   rw [k1] at n1 g1 n2
   cases hv : rqV (l,s) 2 with
   | none => simp only [↓sqP,sqT,zco,List.drop_succ_cons,↓zh,zc,dval,za,Nat.reduceEqDiff,↓reduceIte,zg,zb,retV,DR.val,List.map_cons,List.map_nil,Bool.false_eq_true,forall_const,reduceCtorEq,List.length_cons,List.length_nil,List.getD_cons_zero,zi,alive,List.drop_zero,List.not_mem_nil,ne_eq,n1,n2,h1,h2,g1,hv,bsO,Option.getD_none]
   | some b =>
     simp only [↓sqP,sqT,zco,List.drop_succ_cons,↓zh,zc,dval,za,Nat.reduceEqDiff,↓reduceIte,zg,zb,retV,DR.val,List.map_cons,List.map_nil,Bool.false_eq_true,reduceCtorEq,List.length_cons,List.length_nil,List.getD_cons_zero,zi,alive,List.drop_zero,ne_eq,DV.str.injEq,n1,n2,h1,h2,g1,hv,bsO,Option.getD_some]
     refine ⟨z11 b,?_⟩
     simp [bsl,Function.comp_def]
noncomputable def zxh : List DV → List DObj → Res := zgt oR (fun _ : Unit => []) (fun r _ => (okQ r,bsO (rqV r 4),rqS r 4)) (fun _ => (False,.undef))
theorem z7j {hp : List DObj} {n : Nat} {r : QS} (hh : hp[n]? = some (oR r)) : zxh [.ptr n 1 0 0] hp = ⟨okQ r,bsO (rqV r 4),hp.set n (oR (rqS r 4))⟩ := zcb ztw (zbc _) _ _ hh ()
theorem z12 : OkH Tryz.prog 92 zxh := by
 refine OkH.mkM (ps := []) (hs := [(91,zg3),(124,zvw)]) trivial ⟨zb4,zi9,trivial⟩ zm0 (fun _ => rfl) (fun n hp x a hh hl h => ?_) (fun hp a h => h.elim)
 have h1 : okQ x := h
 have h2 := zb3 (szN 4) h1
 have n1 := zk9 hh 4
 have g1 : (hp.set n (oR (qS x (szN 4))))[n]? = some (oR (qS x (szN 4))) := List.getElem?_set_self hl
 have n2 := zkw g1 (zax x 4)
 simp only [List.set_set] at n2
 have e1 : qV (qS x (szN 4)) (zax x 4) = rqV x 4 := rfl
 have e2 : qS (qS x (szN 4)) (zax x 4) = rqS x 4 := rfl
 rw [e1,e2] at n2
 obtain ⟨l,s⟩ := x
 cases hq : (nxt l s (szN 4)).2 with
 | none =>
   have k1 : oR (qS (l,s) (szN 4)) = ⟨.loc,3,[[.sl (bsl l),.int .i64 0,.bool true]]⟩ := zya hq
   have k2 : rqV (l,s) 4 = none := (zul hq).1
   have k3 : rqS (l,s) 4 = (l,none) := (zul hq).2
   have k4 : oR (l,none) = ⟨.loc,3,[[.sl (bsl l),.int .i64 0,.bool true]]⟩ := rfl
   rw [k1] at n1 g1
   simp only [↓sqP,sqT,zdl,List.drop_succ_cons,↓zh,zc,dval,za,↓reduceIte,zg,zb,retV,DR.val,List.map_cons,List.map_nil,reduceCtorEq,List.length_cons,List.length_nil,List.getD_cons_zero,alive,List.drop_zero,ne_eq,n1,h1,g1,k2,k3,k4,bsO]
 | some a =>
   have k1 : oR (qS (l,s) (szN 4)) = ⟨.loc,3,[[.sl (bsl l),.int .i64 a,.bool false]]⟩ := zxo hq
   rw [k1] at n1 g1 n2
   simp only [↓sqP,sqT,zdl,List.drop_succ_cons,↓zh,zc,dval,za,Nat.reduceEqDiff,↓reduceIte,zg,zb,retV,DR.val,List.map_cons,List.map_nil,Bool.false_eq_true,reduceCtorEq,List.length_cons,List.length_nil,List.getD_cons_zero,alive,List.drop_zero,ne_eq,n1,n2,h1,h2,g1]
def zm4 (r : QS) : Int := match rqV r 1 with
 | some b => if bad b then 0 else sgn b
 | none => 0
def zef (r : QS) : QS := match rqV r 1 with
 | some b => if bad b then (r.1,none) else rqS r 1
 | none => (r.1,none)
theorem zex {r : QS} (h : okQ r) : okQ (zef r) := by
 unfold zef
 split
 · split
   · exact ⟨trivial,h.2⟩
   · exact zfe 1 h
 · exact ⟨trivial,h.2⟩
theorem z48 {l : List UInt8} {s : Option Nat} {k : Int} : ((nxt l s k).1 = none ∧ (nxt l s k).2 = none) ∨ ∃ b a,(nxt l s k).1 = some b ∧ (nxt l s k).2 = some a := by
 rcases s with _ | a
 · exact .inl ⟨rfl,rfl⟩
 · simp only [nxt]
   split
   · exact .inr ⟨_,_,rfl,rfl⟩
   · exact .inl ⟨rfl,rfl⟩
noncomputable def zzc : List DV → List DObj → Res := zgt oR (fun _ : Unit => []) (fun r _ => (okQ r,.int .i64 (zm4 r),zef r)) (fun _ => (False,.undef))
theorem yba {hp : List DObj} {n : Nat} {r : QS} (hh : hp[n]? = some (oR r)) : zzc [.ptr n 1 0 0] hp = ⟨okQ r,.int .i64 (zm4 r),hp.set n (oR (zef r))⟩ := zcb ztw (zbc _) _ _ hh ()
theorem zte : OkH Tryz.prog 96 zzc := by
 refine OkH.mkM (ps := [(125,zby zj3)]) (hs := [(91,zg3),(124,zvw)]) ⟨zol,trivial⟩ ⟨zb4,zi9,trivial⟩ zpl (fun _ => rfl) (fun n hp x a hh hl h => ?_) (fun hp a h => h.elim)
 have h1 : okQ x := h
 have h2 := zb3 (szN 1) h1
 have n1 := zk9 hh 1
 have g1 : (hp.set n (oR (qS x (szN 1))))[n]? = some (oR (qS x (szN 1))) := List.getElem?_set_self hl
 have n2 := zkw g1 (zax x 1)
 simp only [List.set_set] at n2
 have e1 : qV (qS x (szN 1)) (zax x 1) = rqV x 1 := rfl
 have e2 : qS (qS x (szN 1)) (zax x 1) = rqS x 1 := rfl
 rw [e1,e2] at n2
 have g2 : (hp.set n (oR (rqS x 1)))[n]? = some (oR (rqS x 1)) := List.getElem?_set_self hl
 have hs := z9z (k := 1) h1
 obtain ⟨l,s⟩ := x
 cases hq : (nxt l s (szN 1)).2 with
 | none =>
   have k1 : oR (qS (l,s) (szN 1)) = ⟨.loc,3,[[.sl (bsl l),.int .i64 0,.bool true]]⟩ := zya hq
   have k2 : rqV (l,s) 1 = none := (zul hq).1
   have k4 : oR (l,none) = ⟨.loc,3,[[.sl (bsl l),.int .i64 0,.bool true]]⟩ := rfl
   rw [k1] at n1 g1
   simp only [↓sqP,sqT,zbu,List.drop_succ_cons,↓zh,zc,dval,za,↓reduceIte,zg,zb,retV,DR.val,List.map_cons,List.map_nil,reduceCtorEq,List.length_cons,List.length_nil,List.getD_cons_zero,alive,List.drop_zero,ne_eq,n1,h1,g1,zm4,zef,k2,k4]
 | some a =>
   have k1 : oR (qS (l,s) (szN 1)) = ⟨.loc,3,[[.sl (bsl l),.int .i64 a,.bool false]]⟩ := zxo hq
   rw [k1] at n1 g1 n2
   rcases z48 (l := l) (s := (qS (l,s) (szN 1)).2) (k := zax (l,s) 1) with ⟨b1,b2⟩ | ⟨b,a',b1,b2⟩
   · have v1 : rqV (l,s) 1 = none := b1
     have v2 : oR (rqS (l,s) 1) = ⟨.loc,3,[[.sl (bsl l),.int .i64 0,.bool true]]⟩ := zya b2
     have k4 : oR (l,none) = ⟨.loc,3,[[.sl (bsl l),.int .i64 0,.bool true]]⟩ := rfl
     rw [v2] at n2 g2
     simp only [↓sqP,sqT,zbu,List.drop_succ_cons,↓zh,zc,dval,za,Nat.reduceEqDiff,↓reduceIte,zg,zb,retV,DR.val,List.map_cons,List.map_nil,Bool.false_eq_true,reduceCtorEq,List.length_cons,List.length_nil,List.getD_cons_zero,alive,List.drop_zero,ne_eq,n1,n2,h1,h2,g1,g2,zm4,zef,v1,k4,bsO]
   · have v1 : rqV (l,s) 1 = some b := b1
     have v2 : oR (rqS (l,s) 1) = ⟨.loc,3,[[.sl (bsl l),.int .i64 a',.bool false]]⟩ := zxo b2
     rw [v2] at n2 g2
     rw [v1] at hs
     have hs' : zez b := hs
     have k4 : oR (l,none) = ⟨.loc,3,[[.sl (bsl l),.int .i64 0,.bool true]]⟩ := rfl
     have g3 : (hp.set n ⟨.loc,3,[[.sl (bsl l),.int .i64 a',.bool true]]⟩)[n]? = some ⟨.loc,3,[[.sl (bsl l),.int .i64 a',.bool true]]⟩ := List.getElem?_set_self hl
     cases hb : bad b with
     | true => simp only [↓sqP,sqT,zbu,List.drop_succ_cons,↓zh,zc,dval,za,Nat.reduceEqDiff,Nat.reduceAdd,↓reduceIte,dUn,zg,zb,retV,DR.val,DV.immB,List.map_cons,List.map_nil,Bool.false_eq_true,forall_const,reduceCtorEq,List.length_cons,List.length_nil,List.getD_cons_zero,List.getD_cons_succ,Nat.reduceLeDiff,Nat.reduceLT,zp,zq,z1,zz,zu,z6,List.all_cons,List.all_nil,List.set_cons_zero,List.set_set,List.set_cons_succ,zo,DV.one,alive,List.drop_zero,List.not_mem_nil,List.forall_mem_cons,cellsOf,zf,ne_eq,n1,n2,h1,h2,g1,g2,g3,zm4,zef,v1,k4,bsO,zj3,hb,hs']
     | false => simp only [↓sqP,sqT,zbu,List.drop_succ_cons,↓zh,zc,dval,za,Nat.reduceEqDiff,Nat.reduceAdd,↓reduceIte,dUn,zg,zb,retV,DR.val,DV.immB,List.map_cons,List.map_nil,Bool.false_eq_true,reduceCtorEq,List.length_cons,List.length_nil,List.getD_cons_zero,List.getD_cons_succ,Nat.reduceLT,zp,zq,z1,zz,zu,z6,List.all_cons,List.all_nil,alive,List.drop_zero,ne_eq,n1,n2,h1,h2,g1,g2,zm4,zef,v1,v2,bsO,zj3,hb,hs']
def zky (r : QS) : Bool := match r.2 with
 | some a => decide (a < r.1.length)
 | none => false
noncomputable def zq4 : List DV → List DObj → Res := zgt oR (fun _ : Unit => []) (fun r _ => (True,.bool (zky r),r)) (fun _ => (False,.undef))
theorem zv2 {hp : List DObj} {n : Nat} {r : QS} (hh : hp[n]? = some (oR r)) : zq4 [.ptr n 1 0 0] hp = ⟨True,.bool (zky r),hp⟩ := by
 refine (zcb ztw (zbc _) _ _ hh ()).trans ?_
 simp only [zb8 hh]
theorem ztp : OkH Tryz.prog 93 zq4 := by
 refine OkH.mkM (ps := []) (hs := []) trivial trivial zm2 (fun _ => rfl) (fun n hp x a hh hl h => ?_) (fun hp a h => h.elim)
 simp only [zb8 hh]
 obtain ⟨l,s⟩ := x
 rcases s with _ | b
 · have hh' : hp[n]? = some ⟨.loc,3,[[.sl (bsl l),.int .i64 0,.bool true]]⟩ := hh
   simp only [↓sqP,sqT,zdp,List.drop_succ_cons,zc,zm,dval,za,Nat.reduceEqDiff,↓reduceIte,dUn,zg,zb,retV,DR.val,Bool.false_eq_true,reduceCtorEq,List.length_cons,List.length_nil,List.getD_cons_zero,alive,List.drop_zero,ne_eq,hh',zky]
 · have hh' : hp[n]? = some ⟨.loc,3,[[.sl (bsl l),.int .i64 b,.bool false]]⟩ := hh
   simp only [↓sqP,sqT,zdp,List.drop_succ_cons,zc,zm,dval,za,Nat.reduceEqDiff,Nat.reduceAdd,↓reduceIte,dBin,dInt,dUn,zg,zb,retV,DR.val,reduceCtorEq,List.length_cons,List.length_nil,List.getD_cons_zero,Nat.reduceLT,alive,List.drop_zero,ne_eq,hh',zky]
noncomputable def zi0 : List DV → List DObj → Res := fun a hp => ⟨(∃ l,a = [.sl (bsl l)]) ∨ a = [.nil],.ptr hp.length 1 0 0,hp ++ [⟨.loc,3,[a ++ [.int .i64 0,.bool false]]⟩]⟩
theorem zww (l : List UInt8) (hp : List DObj) : zi0 [.sl (bsl l)] hp = ⟨True,.ptr hp.length 1 0 0,hp ++ [oR (l,some 0)]⟩ := by
 unfold zi0
 simp only [oR,Res.mk.injEq]
 exact ⟨eq_true (.inl ⟨l,rfl⟩),trivial,rfl⟩
theorem yac (v : Option (List UInt8)) (hp : List DObj) : zi0 [bsO v] hp = ⟨True,.ptr hp.length 1 0 0,hp ++ [⟨.loc,3,[[bsO v,.int .i64 0,.bool false]]⟩]⟩ := by
 unfold zi0
 simp only [Res.mk.injEq]
 cases v with
 | none => exact ⟨eq_true (.inr rfl),trivial,rfl⟩
 | some l => exact ⟨eq_true (.inl ⟨l,rfl⟩),trivial,rfl⟩
theorem zup : OkH Tryz.prog 90 zi0 := by
 refine OkH.mk (ps := []) (hs := []) (n := 1) trivial trivial zqe fun a hp h => ?_
 rcases h with ⟨l,rfl⟩ | rfl
 all_goals refine ⟨rfl,?_⟩
 all_goals simp only [↓sqP,sqT,zir,zi0,List.cons_append,zj,zc,dval,za,Nat.reduceAdd,↓reduceIte,retV,DR.val,forall_const,reduceCtorEq,List.length_cons,List.length_nil,Nat.reduceLeDiff,List.set_cons_zero,DV.one,List.not_mem_nil,List.forall_mem_cons,List.nil_append,cellsOf,zf,DV.isU,List.cons.injEq]
end Go.Proofs.YtfaailjhioobhaaGreat
set_option linter.all false
set_option maxRecDepth 20000
namespace Go.Proofs.YtfaailjhioobhaaGreat
open Go.Nk
theorem z4j (l : List UInt8) (s : Option Nat) (k : Int) : zb1 (toP l s) k = qV (l,s) k := by cases s <;> rfl
theorem zdz (l : List UInt8) (s : Option Nat) (k : Int) : z9 (toP l s) k = toP l (qS (l,s) k).2 := by cases s <;> rfl
theorem zf5 (l : List UInt8) (s : Option Nat) (k : Int) : numV (toP l s) k = zax (l,s) k := by unfold numV zax; rw [z4j]
theorem zxa (l : List UInt8) (s : Option Nat) (k : Int) : rawV (toP l s) k = rqV (l,s) k := by unfold rawV rqV; rw [zdz,zf5,z4j]; rfl
theorem z2h (l : List UInt8) (s : Option Nat) (k : Int) : rawS (toP l s) k = toP l (rqS (l,s) k).2 := by unfold rawS rqS; rw [zdz,zf5,zdz]; rfl
theorem z76 (l : List UInt8) (s : Option Nat) : intV (toP l s) = zm4 (l,s) := by unfold intV zm4; rw [zxa]; all_goals (cases rqV (l,s) 1 <;> rfl)
theorem yb4 (l : List UInt8) (s : Option Nat) : intS (toP l s) = toP l (zef (l,s)).2 := by
 unfold intS zef
 rw [zxa,z2h]
 cases rqV (l,s) 1 with
 | none => rfl
 | some b => cases h : bad b <;> simp only [h,Bool.false_eq_true,if_false,if_true] <;> rfl
theorem rqS_1 (l : List UInt8) (s : Option Nat) (k : Int) : rqS (l,s) k = (l,(rqS (l,s) k).2) := rfl
theorem qIntS_1 (l : List UInt8) (s : Option Nat) : zef (l,s) = (l,(zef (l,s)).2) := by
 unfold zef
 split
 · split <;> rfl
 · rfl
structure Piece where
 d : Int
 n : Int
 z : Int
 i : Int
 s : List UInt8
end Go.Proofs.YtfaailjhioobhaaGreat
set_option linter.all false
set_option maxRecDepth 20000
namespace Go.Proofs.YtfaailjhioobhaaGreat
open Go.Nk
end Go.Proofs.YtfaailjhioobhaaGreat
