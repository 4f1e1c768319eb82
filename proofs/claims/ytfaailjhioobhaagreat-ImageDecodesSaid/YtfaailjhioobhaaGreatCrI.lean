/- A Sum: its cells, and its table. -/
import Derived.Test.YtfaailjhioobhaaGreatBa
import Derived.Test.YtfaailjhioobhaaGreatCr0
import Derived.Tactics
import Derived.Tactics2
import Derived.Defers
import Derived.Laws.Pointers
import Derived.Laws.LoneSync
import Derived.RegionTactic
import Derived.RegionCalls
import Derived.ChangeAlike
import Derived.Test.YtfaailjhioobhaaGreatRaw
import Derived.Test.YtfaailjhioobhaaGreatOctBack2
import Derived.Test.YtfaailjhioobhaaGreatNkZ5
set_option maxHeartbeats 1600000
set_option linter.all false
set_option maxRecDepth 20000
namespace Go.Proofs.YtfaailjhioobhaaGreat
open Go.Nk Crc0
structure Sm where
 d : Int
 st : Int
 t : List (BitVec 32)
 r : BitVec 32
 m : Bool
def oS (s : Sm) : DObj := ⟨.loc,261,[zbf s.d s.st s.t s.r s.m]⟩
theorem zec {d st : Int} {t : List (BitVec 32)} {r : BitVec 32} {m : Bool} (h : t.length = 256) : (zbf d st t r m).length = 261 := by simp [zbf,h]
theorem z1i {d st : Int} {t : List (BitVec 32)} {r : BitVec 32} {m : Bool} (h : t.length = 256) : (zbf d st t r m).drop 259 = [.int .u32 (r.toNat : Int),.bool m] := by
 unfold zbf
 rw [List.drop_succ_cons,List.drop_succ_cons,List.drop_succ_cons,List.drop_append_of_le_length (by simp [h]),List.drop_of_length_le (by simp [h]),List.nil_append]
theorem ya8 {d st : Int} {t : List (BitVec 32)} {r : BitVec 32} {m : Bool} (h : t.length = 256) : (zbf d st t r m).drop 260 = [.bool m] := by
 have := z1i (d := d) (st := st) (r := r) (m := m) h
 rw [show 260 = 259 + 1 from rfl,← List.drop_drop,this]; rfl
theorem row_tab {d st : Int} {t : List (BitVec 32)} {r : BitVec 32} {m : Bool} {i : Nat} (h : t.length = 256) (hi : i < 256) : ∃ l,(zbf d st t r m).drop (3 + i) = .int .u32 ((t.getD i 0#32).toNat : Int) :: l := by
 unfold zbf
 rw [show 3 + i = i + 1 + 1 + 1 by omega,List.drop_succ_cons,List.drop_succ_cons,List.drop_succ_cons,List.drop_append_of_le_length (by simp [h]; omega)]
 rw [← List.map_drop,List.drop_eq_getElem_cons (by omega)]
 refine ⟨_,by rw [List.map_cons,List.cons_append,List.getD_eq_getElem?_getD,List.getElem?_eq_getElem (by omega)]; rfl⟩
theorem row_set {d st : Int} {t : List (BitVec 32)} {r : BitVec 32} {m : Bool} {i : Nat} (h : t.length = 256) (hi : i < 256) (x : BitVec 32) : (zbf d st t r m).set (3 + i) (.int .u32 (x.toNat : Int)) = zbf d st (t.set i x) r m := by
 unfold zbf
 rw [show 3 + i = i + 1 + 1 + 1 by omega,List.set_cons_succ,List.set_cons_succ,List.set_cons_succ,List.set_append_left _ _ (by simp [h]; omega),List.map_set]
theorem z5h {d st : Int} {t : List (BitVec 32)} {r : BitVec 32} {m : Bool} (h : t.length = 256) (x : BitVec 32) : (zbf d st t r m).set 259 (.int .u32 (x.toNat : Int)) = zbf d st t x m := by
 unfold zbf
 rw [List.set_cons_succ,List.set_cons_succ,List.set_cons_succ,List.set_append_right _ _ (by simp [h])]
 simp [h]
theorem z6x {d st d' st' : Int} {t t' : List (BitVec 32)} {r r' : BitVec 32} {m m' : Bool} (h : zbf d st t r m = zbf d' st' t' r' m') : d = d' ∧ st = st' ∧ t = t' ∧ r = r' ∧ m = m' := by
 unfold zbf at h
 simp only [List.cons.injEq,DV.int.injEq,true_and] at h
 obtain ⟨rfl,rfl,h⟩ := h
 obtain ⟨h1,h2⟩ := List.append_inj' h rfl
 simp only [List.cons.injEq,DV.int.injEq,true_and,DV.bool.injEq,and_true] at h2
 refine ⟨rfl,rfl,List.map_inj_right (fun x y h => ?_) |>.1 h1,BitVec.eq_of_toNat_eq (by omega),h2.2⟩
 injection h with _ h
 exact BitVec.eq_of_toNat_eq (by omega)
theorem z3q {a b : Sm} (h : oS a = oS b) : a = b := by
 unfold oS at h
 injection h with _ _ h
 obtain ⟨h1,h2,h3,h4,h5⟩ := z6x (List.cons.inj h).1
 cases a; cases b; simp only at h1 h2 h3 h4 h5; subst h1 h2 h3 h4 h5; rfl
def tab : List (BitVec 32) := (List.range 256).map fun i => it 8 (BitVec.ofNat 32 i)
theorem zq6 : tab.length = 256 := by simp [tab]
theorem tab_get {i : Nat} (h : i < 256) : tab.getD i 0#32 = it 8 (BitVec.ofNat 32 i) := by
 simp [tab,h]
theorem tab_of {t : List (BitVec 32)} (h : t.length = 256) (k : ∀ i,i < 256 → t.getD i 0#32 = it 8 (BitVec.ofNat 32 i)) : t = tab := by
 apply List.ext_getElem (by rw [h,zq6])
 intro i h1 h2
 have := k i (by omega)
 rw [List.getD_eq_getElem?_getD,List.getElem?_eq_getElem h1,Option.getD_some] at this
 rw [this]
 simp [tab]
theorem u32w {n : Int} (h : 0 ≤ n ∧ n < 4294967296) : IntKind.u32.wrap n = n := by rw [IntKind.wrap_u32]; omega
theorem u32n (x : BitVec 32) : IntKind.u32.wrap (x.toNat : Int) = (x.toNat : Int) := u32w ⟨by omega,by have := x.isLt; omega⟩
theorem ofI (x : BitVec 32) : BitVec.ofInt 32 (x.toNat : Int) = x := by
 rw [BitVec.ofInt_natCast,BitVec.ofNat_toNat,BitVec.setWidth_eq]
theorem n_and1 (x : BitVec 32) : ze3 .and .u32 (x.toNat : Int) 1 = ((x &&& 1#32).toNat : Int) := by
 simp only [ze3,IntKind.bits]
 rw [ofI,show (BitVec.ofInt 32 1) = 1#32 by decide]
 exact u32n _
theorem n_xor (x y : BitVec 32) : ze3 .xor .u32 (x.toNat : Int) (y.toNat : Int) = ((x ^^^ y).toNat : Int) := by
 simp only [ze3,IntKind.bits]
 rw [ofI,ofI]
 exact u32n _
theorem n_xorp (x : BitVec 32) : ze3 .xor .u32 (x.toNat : Int) 3988292384 = ((x ^^^ 0xedb88320#32).toNat : Int) := n_xor x 0xedb88320#32
theorem n_shr1 (x : BitVec 32) : Int.fdiv (x.toNat : Int) (2 ^ min 1 32) = ((x >>> 1).toNat : Int) := by
 rw [BitVec.toNat_ushiftRight,Nat.shiftRight_eq_div_pow,Int.fdiv_eq_ediv_of_nonneg _ (by decide)]
 have : (2 : Int) ^ min 1 32 = 2 := by decide
 rw [this]; omega
theorem n_shr8 (x : BitVec 32) : Int.fdiv (x.toNat : Int) (2 ^ min 8 32) = ((x >>> 8).toNat : Int) := by
 rw [BitVec.toNat_ushiftRight,Nat.shiftRight_eq_div_pow,Int.fdiv_eq_ediv_of_nonneg _ (by decide)]
 have : (2 : Int) ^ min 8 32 = 256 := by decide
 rw [this]; omega
theorem T_odd {x : BitVec 32} (h : x &&& 1#32 = 1#32) : T x = (x >>> 1) ^^^ 0xedb88320#32 := by
 have : x.getLsbD 0 = true := by
   have := congrArg (fun y : BitVec 32 => y.getLsbD 0) h
   simpa [BitVec.getLsbD_and] using this
 unfold T; rw [this]; rfl
theorem T_even {x : BitVec 32} (h : ¬ x &&& 1#32 = 1#32) : T x = x >>> 1 := by
 have : x.getLsbD 0 = false := by
   rw [Bool.eq_false_iff]
   intro h0
   apply h
   apply BitVec.eq_of_getLsbD_eq
   intro i hi
   rw [BitVec.getLsbD_and]
   rcases Nat.eq_zero_or_pos i with rfl | hp
   · rw [h0]; decide
   · have : (1#32).getLsbD i = false := by
       rw [BitVec.getLsbD_one]; simp; omega
     rw [this,Bool.and_false]
 unfold T; rw [this]; simp
theorem z2v (k : Nat) (x : BitVec 32) : it (k + 1) x = T (it k x) := by
 rw [it_add k 1]; rfl
def relS (x : Nat × Sm) (a : List DV) (hp : List DObj) : Prop := a = [.ptr x.1 1 0 0] ∧ hp[x.1]? = some (oS x.2)
theorem relS_u : ∀ x y a hp,relS x a hp → relS y a hp → x = y := by
 rintro ⟨n,s⟩ ⟨n',s'⟩ a hp ⟨rfl,h⟩ ⟨e,h'⟩
 simp only [List.cons.injEq,DV.ptr.injEq,and_true] at e
 subst e
 have := z3q (Option.some.inj (h.symm.trans h'))
 simp only at this
 rw [this]
noncomputable def s_fill : List DV → List DObj → Res := zee relS (fun x => (x.2.t.length = 256,.tup [])) (fun x hp => hp.set x.1 (oS { x.2 with t := tab }))
theorem ok_fill : OkH Tryz.prog 133 s_fill := by
 refine OkH.mkGH (ps := []) (hs := []) trivial trivial zvl (fun x a hp h => by rw [h.1]; rfl) fun x a hp h hl => ?_
 obtain ⟨n,s⟩ := x
 obtain ⟨rfl,hh⟩ := h
 have hl : s.t.length = 256 := hl
 have hnl : n < hp.length := (List.getElem?_eq_some_iff.1 hh).1
 
 have e0 : hp = hp.set n (oS { s with t := s.t }) := (zb8 hh).symm
 (refine Todo.of ?_); (repeat' (first | ((with_reducible refine Todo.to ?_); (repeat (simp only [↓rP,rT,zc,dval,za,zmm ])))))
 refine zaa (fun x : Nat × List (BitVec 32) => ⟨[(0,.ptr n 1 0 0),(5,.int .i64 x.1)],hp.set n (oS { s with t := x.2 })⟩) (fun x => x.1 ≤ 256 ∧ x.2.length = 256 ∧ ∀ i,i < x.1 → x.2.getD i 0#32 = it 8 (BitVec.ofNat 32 i)) (fun x => 256 - x.1) (0,s.t) trivial (by simp only [zn,List.map_cons,List.map_nil,zd,Nk.get_nil,↓reduceIte,reduceCtorEq]; rw [← e0]; rfl) ⟨Nat.zero_le _,hl,fun i h => by omega⟩ fun x hx => ?_
 obtain ⟨k,t⟩ := x
 obtain ⟨hk,ht,htab⟩ := hx
 simp only at hk ht htab
 by_cases d : k < 256
 rotate_left
 · have : t = tab := tab_of ht fun i hi => htab i (by omega)
   subst this
   (have hcondQ := Bool.and_self; refine Todo.of ?_); (repeat' (first | ((with_reducible refine Todo.to ?_); (repeat (simp only [↓rP,rT,zc,dval,dBin,dInt,retV,retL,↓reduceIte,reduceCtorEq,hcondQ]))) | (((((with_reducible refine zw (t := ?_) ?_ (fun hcQ => ?_) (fun hcQ => ?_)); rotate_left; · (rfl))) <;> (have hn := hcQ; have hcondQ := hcQ) <;> (try simp only [decide_eq_true_eq,decide_eq_false_iff_not] at hn) <;> (try (exfalso; omega)) <;> (refine Todo.of ?_))) | fail))
 have w1 : IntKind.i64.wrap ((k : Int) + 1) = ((k + 1 : Nat) : Int) := by rw [zt (by omega)]; omega
 have w2 : IntKind.u32.wrap (k : Int) = ((BitVec.ofNat 32 k).toNat : Int) := by rw [u32w (by omega),BitVec.toNat_ofNat]; omega
 (have hcondQ := Bool.and_self; refine Todo.of ?_); (repeat' (first | ((with_reducible refine Todo.to ?_); (repeat (simp only [↓rP,rT,zc,dval,dBin,dInt,Nat.reduceEqDiff,↓reduceIte,reduceCtorEq,w2 ,hcondQ]))) | (((((with_reducible refine zw (t := ?_) ?_ (fun hcQ => ?_) (fun hcQ => ?_)); rotate_left; · (rfl))) <;> (have hn := hcQ; have hcondQ := hcQ) <;> (try simp only [decide_eq_true_eq,decide_eq_false_iff_not] at hn) <;> (try (exfalso; omega)) <;> (refine Todo.of ?_))) | fail))
 refine zaa (fun y : Nat × BitVec 32 => ⟨[(0,.ptr n 1 0 0),(2,.int .i64 k),(3,.int .u32 (y.2.toNat : Int)),(5,.int .i64 k),(10,.int .i64 y.1)],hp.set n (oS { s with t := t })⟩) (fun y => y.1 ≤ 8 ∧ y.2 = it y.1 (BitVec.ofNat 32 k)) (fun y => 8 - y.1) (0,BitVec.ofNat 32 k) trivial (by simp only [zn,List.map_cons,List.map_nil,zd,Nk.get_nil,Nat.reduceEqDiff,↓reduceIte,reduceCtorEq]; rfl) ⟨Nat.zero_le _,rfl⟩ fun y hy => ?_
 obtain ⟨j,v⟩ := y
 obtain ⟨hj,hv⟩ := hy
 simp only at hj hv
 by_cases dj : j < 8
 · have w3 : IntKind.i64.wrap ((j : Int) + 1) = ((j + 1 : Nat) : Int) := by rw [zt (by omega)]; omega
   by_cases c : v &&& 1#32 = 1#32
   · have c1 : ((v &&& 1#32).toNat : Int) = 1 := by rw [c]; rfl
     (have hcondQ := Bool.and_self; refine Todo.of ?_); (repeat' (first | ((with_reducible refine Todo.to ?_); (repeat (simp only [↓rP,rT,rU,zc,dval,dBin,dInt,IntKind.bits,Nat.reduceEqDiff,↓reduceIte,reduceCtorEq,Int.reduceToNat,Int.reduceLE,w3,n_and1,n_shr1,n_xorp,c1 ,hcondQ]))) | (((((with_reducible refine zw (t := ?_) ?_ (fun hcQ => ?_) (fun hcQ => ?_)); rotate_left; · (rfl))) <;> (have hn := hcQ; have hcondQ := hcQ) <;> (try simp only [decide_eq_true_eq,decide_eq_false_iff_not] at hn) <;> (try (exfalso; omega)) <;> (refine Todo.of ?_))) | fail))
     refine ⟨(j + 1,it (j + 1) (BitVec.ofNat 32 k)),?_,⟨by omega,rfl⟩,by omega⟩
     simp only [zn,List.map_cons,List.map_nil,zd,Nk.get_nil,Nat.reduceEqDiff,↓reduceIte,Nat.succ_ne_self,reduceCtorEq,z2v,← hv,T_odd c]
   · have c1 : ((((v &&& 1#32).toNat : Int) == 1)) = false := by
       simp only [beq_eq_false_iff_ne]
       intro h
       apply c
       apply BitVec.eq_of_toNat_eq
       have : (1#32).toNat = 1 := rfl
       omega
     (have hcondQ := Bool.and_self; refine Todo.of ?_); (repeat' (first | ((with_reducible refine Todo.to ?_); (repeat (simp only [↓rP,rT,zc,dval,dBin,dInt,IntKind.bits,Nat.reduceEqDiff,↓reduceIte,reduceCtorEq,Int.reduceToNat,Int.reduceLE,w3,n_and1,n_shr1,c1 ,hcondQ]))) | (((((with_reducible refine zw (t := ?_) ?_ (fun hcQ => ?_) (fun hcQ => ?_)); rotate_left; · (rfl))) <;> (have hn := hcQ; have hcondQ := hcQ) <;> (try simp only [decide_eq_true_eq,decide_eq_false_iff_not] at hn) <;> (try (exfalso; omega)) <;> (refine Todo.of ?_))) | fail))
     refine ⟨(j + 1,it (j + 1) (BitVec.ofNat 32 k)),?_,⟨by omega,rfl⟩,by omega⟩
     simp only [zn,List.map_cons,List.map_nil,zd,Nk.get_nil,Nat.reduceEqDiff,↓reduceIte,Nat.succ_ne_self,reduceCtorEq,z2v,← hv,T_even c]
 · have hj8 : j = 8 := by omega
   subst hj8
   have hg : (hp.set n (oS { s with t := t }))[n]? = some ⟨.loc,261,[zbf s.d s.st t s.r s.m]⟩ := List.getElem?_set_self hnl
   have hr := zec (d := s.d) (st := s.st) (r := s.r) (m := s.m) ht
   have hs := row_set (d := s.d) (st := s.st) (r := s.r) (m := s.m) ht d v
   have hw : ∀ o : DObj,(hp.set n (oS { s with t := t })).set n o = hp.set n o := fun o => List.set_set ..
   (refine Todo.of ?_); (repeat' (first | ((with_reducible refine Todo.to ?_); (repeat (simp only [↓rP,rT,rU,zc,dval,dBin,dInt,zo,DV.one,alive,cellsOf,zf,Nat.reduceEqDiff,↓reduceIte,reduceCtorEq,Nat.reduceSub,Nat.reduceLeDiff,forall_const,w1,hg,hr,hs,hw ]))) | ((with_reducible refine And.intro ?_ ?_); · omega) | fail))
   refine ⟨(k + 1,t.set k v),?_,⟨by omega,by simpa using ht,fun i hi => ?_⟩,by omega⟩
   · simp only [zn,List.map_cons,List.map_nil,zd,Nk.get_nil,↓reduceIte,reduceCtorEq]; rfl
   · rw [List.getD_eq_getElem?_getD,List.getElem?_set]
     by_cases e : k = i
     · subst e; rw [if_pos rfl,if_pos (by omega)]; exact hv
     · rw [if_neg e,← List.getD_eq_getElem?_getD]; exact htab i (by omega)
end Go.Proofs.YtfaailjhioobhaaGreat
set_option linter.all false
set_option maxRecDepth 20000
namespace Go.Proofs.YtfaailjhioobhaaGreat
open Go.RowKit
theorem disable (w : World) : (callFunc 146 #[]).run Tryz.prog w = .ok (.value (.tuple #[])) w := run_call_mark0 Tryz.func146 (by kernel_rfl) (by kernel_rfl) (by kernel_rfl) .disable (by kernel_rfl) w
theorem enable (w : World) : (callFunc 148 #[]).run Tryz.prog w = .ok (.value (.tuple #[])) w := run_call_mark0 Tryz.func148 (by kernel_rfl) (by kernel_rfl) (by kernel_rfl) .enable (by kernel_rfl) w
theorem acquire (a : Addr) (w : World) : (callFunc 149 #[.pointer (some a)]).run Tryz.prog w = .ok (.value (.tuple #[])) w := run_call_marked Tryz.func149 (by kernel_rfl) (by kernel_rfl) (by kernel_rfl) .acquire (by kernel_rfl) a w
theorem releaseMerge (a : Addr) (w : World) : (callFunc 151 #[.pointer (some a)]).run Tryz.prog w = .ok (.value (.tuple #[])) w := run_call_marked Tryz.func151 (by kernel_rfl) (by kernel_rfl) (by kernel_rfl) .releaseMerge (by kernel_rfl) a w
theorem zvn (a : Addr) (x : Value) (u : FrameMode) (w : World) (hc : w.cell? a = some x) (hz : w.frozen? a = false) :
   CallsD Tryz.prog 141 #[.pointer (some a),.bool true] u w fun e u' w' => u' = u ∧ (e = .returned (.tuple #[]) ∧ w' = w.drew.setCell a (.int .u32 1)) := by
 have hc' : w.drew.cell? a = some x := by go_simp
 have hz' : w.drew.frozen? a = false := by go_simp
 have hst := run_call_store (P := Tryz.prog) Tryz.func144 (by kernel_rfl) (by kernel_rfl) (by kernel_rfl) (by kernel_rfl) (k := .u32) (y := 1) hc' hz'
 go_enter_d Tryz.func141,Tryz.ntmps141
 go_wp2
 go_region_calls
 all_goals (go_end0; exact ⟨rfl,rfl⟩)
theorem zt2 (a : Addr) (u : FrameMode) (w : World) (hc : w.cell? a = some (.int .i32 1)) (hz : w.frozen? a = false) :
   CallsD Tryz.prog 140 #[.pointer (some a)] u w fun e u' w' => u' = u ∧ (e = .returned (.tuple #[]) ∧ w' = w.setCell a (.int .i32 0)) := by
 have hd := disable
 have he := enable
 have hr := releaseMerge
 have hadd := run_call_add (P := Tryz.prog) Tryz.func152 (by kernel_rfl) (by kernel_rfl) (by kernel_rfl) .i32 (by kernel_rfl) (y := -1) (s := 0) hc hz (by simp [go_sem]; rfl)
 have hcv := run_convert_to_unsafe (P := Tryz.prog) (src := 193) (dst := 197) Tryz.underlying193 Tryz.underlying197 (by kernel_rfl) hc
 go_enter_d Tryz.func140,Tryz.ntmps140
 go_wp2
 go_end0
 go_wp2
 go_end0
 exact ⟨rfl,rfl⟩
theorem ybw (a : Addr) (w : World) (hc : w.cell? a = some (.int .i32 0)) (hz : w.frozen? a = false) :
   Calls Tryz.prog 139 #[.pointer (some a)] w fun e w' => e = .returned (.tuple #[]) ∧ w' = w.setCell a (.int .i32 1) := by
 have hd := disable
 have he := enable
 have ha := acquire
 have hcas := run_call_cas_hit (P := Tryz.prog) Tryz.func147 (by kernel_rfl) (by kernel_rfl) (by kernel_rfl) .i32 (by kernel_rfl) (y := 1) hc hz
 have hc' : (w.setCell a (.int .i32 1)).cell? a = some (.int .i32 1) := World.cell?_setCell_same w a _ hc
 have hcv := run_convert_to_unsafe (P := Tryz.prog) (src := 193) (dst := 197) Tryz.underlying193 Tryz.underlying197 (by kernel_rfl) hc'
 go_enter Tryz.func139,Tryz.ntmps139
 go_wp2
 first | go_end0 | (simp only [Exit.inBlock,Exit.then]; refine bodyPost_ret (results_none rfl _ _ _) rfl ?_) | refine bodyPost_ret (results_none rfl _ _ _) rfl ?_
 go_wp2
 go_end0
 exact ⟨rfl,rfl⟩
set_option maxRecDepth 100000 in
theorem slow_any (b off : Nat) (Q : World → Prop) (w : World)
   (h0 : w.cell? ⟨b,off,none⟩ = some (.int .u32 0)) (h1 : w.cell? ⟨b,off + 1,none⟩ = some (.int .i32 0))
   (f1 : w.frozen? ⟨b,off + 1,none⟩ = false)
   (hfill : Calls Tryz.prog 133 #[.pointer (some ⟨b,off,none⟩)] (w.setCell ⟨b,off + 1,none⟩ (.int .i32 1)) fun e w' => e = .returned (.tuple #[]) ∧ Q w')
   (hQ : ∀ w',Q w' → w'.cell? ⟨b,off,none⟩ = some (.int .u32 0) ∧ w'.cell? ⟨b,off + 1,none⟩ = some (.int .i32 1) ∧ w'.frozen? ⟨b,off,none⟩ = false ∧ w'.frozen? ⟨b,off + 1,none⟩ = false) :
   Calls Tryz.prog 137 #[.pointer (some ⟨b,off,none⟩),.func (.func 133) #[.pointer (some ⟨b,off,none⟩)] #[]] w fun e w' => e = .returned (.tuple #[]) ∧
     ∃ w2,Q w2 ∧ w' = (w2.drew.setCell ⟨b,off,none⟩ (.int .u32 1)).setCell ⟨b,off + 1,none⟩ (.int .i32 0) := by
 have hl := run_call_load (P := Tryz.prog) Tryz.func138 (by kernel_rfl) (by kernel_rfl) (by kernel_rfl) .u32 (by kernel_rfl) (w := w.setCell ⟨b,off + 1,none⟩ (.int .i32 1)) (a := ⟨b,off,none⟩) (x := 0) ((World.cell?_setCell_other _ ⟨b,off + 1,none⟩ ⟨b,off,none⟩ _ (by simp)).trans h0)
 have hnot : ∀ (x : Bool) (w : World),(Op.unary .not (.bool x)).run Tryz.prog w = .ok (.bool (!x)) w := fun _ _ => rfl
 go_enter_defers Tryz.func137,Tryz.ntmps137
 go_wp2_with (first | (go_at_call 139; refine (ybw ⟨b,off + 1,none⟩ _ (by go_simp) (by go_simp)).mono ?_; rintro e w' ⟨rfl,rfl⟩) | (go_at_call 136; go_in) | (go_at_call 133; refine hfill.mono ?_; rintro e w2 ⟨rfl,hq⟩))
 obtain ⟨q0,q1,q2,q3⟩ := hQ _ hq
 refine leaves_cons (f := 141) (args := #[.pointer (some ⟨b,off,none⟩),.bool true]) (by simp) (by simp [go_sem]) ?_
 refine (zvn ⟨b,off,none⟩ (.int .u32 0) .returning _ q0 q2).mono ?_
 rintro e u' w'' ⟨rfl,rfl,rfl⟩
 refine leaves_cons (f := 140) (args := #[.pointer (some ⟨b,off + 1,none⟩)]) (by simp [settle]) (by simp [go_sem]) ?_
 refine (zt2 ⟨b,off + 1,none⟩ _ _ ?_ (by simp [q3])).mono ?_
 · refine (World.cell?_setCell_other _ ⟨b,off,none⟩ ⟨b,off + 1,none⟩ _ (by simp)).trans ?_
   rw [World.cell?_drew]
   exact q1
 rintro e u' w'' ⟨rfl,rfl,rfl⟩
 simp [Leaves,settle,results,Tryz.results137]
 exact ⟨_,hq,rfl⟩
set_option maxRecDepth 100000 in
theorem do_first (b off : Nat) (Q : World → Prop) (w : World)
   (h0 : w.cell? ⟨b,off,none⟩ = some (.int .u32 0)) (h1 : w.cell? ⟨b,off + 1,none⟩ = some (.int .i32 0))
   (f1 : w.frozen? ⟨b,off + 1,none⟩ = false)
   (hfill : Calls Tryz.prog 133 #[.pointer (some ⟨b,off,none⟩)] (w.setCell ⟨b,off + 1,none⟩ (.int .i32 1)) fun e w' => e = .returned (.tuple #[]) ∧ Q w')
   (hQ : ∀ w',Q w' → w'.cell? ⟨b,off,none⟩ = some (.int .u32 0) ∧ w'.cell? ⟨b,off + 1,none⟩ = some (.int .i32 1) ∧ w'.frozen? ⟨b,off,none⟩ = false ∧ w'.frozen? ⟨b,off + 1,none⟩ = false) :
   Calls Tryz.prog 132 #[.pointer (some ⟨b,off,none⟩),.func (.func 133) #[.pointer (some ⟨b,off,none⟩)] #[]] w fun e w' => e = .returned (.tuple #[]) ∧
     ∃ w2,Q w2 ∧ w' = (w2.drew.setCell ⟨b,off,none⟩ (.int .u32 1)).setCell ⟨b,off + 1,none⟩ (.int .i32 0) := by
 have hl := run_call_load (P := Tryz.prog) Tryz.func138 (by kernel_rfl) (by kernel_rfl) (by kernel_rfl) .u32 (by kernel_rfl) h0
 have hnot : ∀ (x : Bool) (w : World),(Op.unary .not (.bool x)).run Tryz.prog w = .ok (.bool (!x)) w := fun _ _ => rfl
 go_enter Tryz.func132,Tryz.ntmps132
 go_wp2_with (first | (go_at_call 137; refine (slow_any b off Q _ h0 h1 f1 hfill hQ).mono ?_; rintro e w' ⟨rfl,w2,hq,rfl⟩) | (go_at_call 136; go_in))
 go_end0
 exact ⟨rfl,_,hq,rfl⟩
theorem do_done (a : Addr) (d : Int) (hd : ¬ d = 0) (fv : Value) (w : World) (h0 : w.cell? a = some (.int .u32 d)) :
   Calls Tryz.prog 132 #[.pointer (some a),fv] w fun e w' => e = .returned (.tuple #[]) ∧ w' = w := by
 have hl := run_call_load (P := Tryz.prog) Tryz.func138 (by kernel_rfl) (by kernel_rfl) (by kernel_rfl) .u32 (by kernel_rfl) h0
 have hnot : ∀ (x : Bool) (w : World),(Op.unary .not (.bool x)).run Tryz.prog w = .ok (.bool (!x)) w := fun _ _ => rfl
 have hd' : (d != 0) = true := by simp [hd]
 go_enter Tryz.func132,Tryz.ntmps132
 go_wp2
 go_end0
 exact ⟨rfl,rfl⟩
end Go.Proofs.YtfaailjhioobhaaGreat
set_option linter.all false
set_option maxRecDepth 20000
namespace Go.Proofs.YtfaailjhioobhaaGreat
open Go.Nk Go.RowKit
theorem yb1 [Inhabited Env] {K F : Nat → Prop} {σ : Nat → Option Nat} {hp : List DObj} {w : World} (hs : SimH K F σ hp w) : za6 K F σ hp w (.tup []) hp (.tuple #[]) w.drew := by
 obtain ⟨h1,h2⟩ := hs.turn (K' := K) (F' := F) (w' := w.drew) (Nat.le_refl _) (fun _ _ => rfl) (fun _ _ _ => rfl) (fun _ h => h) (fun _ h => .inl h) (fun _ h => .inl h) hs.fb hs.kb
 exact ⟨F,σ,h1,⟨rfl,rfl,rfl,Nat.le_refl _,fun _ _ => rfl,fun _ _ => rfl,fun _ h => h,fun _ h => .inl h⟩,h2,.tup [] #[] rfl (fun _ => undef) (fun j d hd => by simp at hd) (fun j d hd => by simp at hd)⟩
theorem tup0 [Inhabited Env] {F : Nat → Prop} {σ : Nat → Option Nat} {hp : List DObj} {w : World} : VRep F σ hp w (.tup []) (.tuple #[]) := .tup [] #[] rfl (fun _ => undef) (fun j d hd => by simp at hd) (fun j d hd => by simp at hd)
def relD (x : Nat × Sm) (a : List DV) (hp : List DObj) : Prop := a = [.ptr x.1 1 0 0,.meth 133 [.ptr x.1 1 0 0]] ∧ hp[x.1]? = some (oS x.2)
theorem relD_u : ∀ x y a hp,relD x a hp → relD y a hp → x = y := by
 rintro ⟨n,s⟩ ⟨n',s'⟩ a hp ⟨rfl,h⟩ ⟨e,h'⟩
 simp only [List.cons.injEq,DV.ptr.injEq,and_true] at e
 obtain ⟨e,_⟩ := e
 subst e
 have := z3q (Option.some.inj (h.symm.trans h'))
 simp only at this
 rw [this]
def zcj (s : Sm) : Sm := if s.d = 0 then { s with d := 1,t := tab } else s
noncomputable def s_Do : List DV → List DObj → Res := zee relD (fun x => (x.2.t.length = 256 ∧ x.2.st = 0,.tup [])) (fun x hp => hp.set x.1 (oS (zcj x.2)))
theorem s_Do_at {hp : List DObj} {n : Nat} {s : Sm} (h : hp[n]? = some (oS s)) : s_Do [.ptr n 1 0 0,.meth 133 [.ptr n 1 0 0]] hp = ⟨s.t.length = 256 ∧ s.st = 0,.tup [],hp.set n (oS (zcj s))⟩ :=
 za5 relD_u (x := (n,s)) ⟨rfl,h⟩
theorem zpr [Inhabited Env] {K F : Nat → Prop} {σ : Nat → Option Nat} {hp : List DObj} {w : World} (hs : SimH K F σ hp w) {n : Nat} {s : Sm} (h : hp[n]? = some (oS s)) :
   ∃ g,σ n = some g ∧ w.cell? ⟨g,0,none⟩ = some (.int .u32 s.d) ∧ w.cell? ⟨g,0 + 1,none⟩ = some (.int .i32 s.st) := by
 have old := hs.obj n _ h
 unfold ORep oS at old
 dsimp only at old
 obtain ⟨g,hg,nF,nK,c,ty,e1,e2,e3,e4⟩ := old
 have k : ∀ j d,(zbf s.d s.st s.t s.r s.m)[j]? = some d → ∃ v,w.cell? ⟨g,j,none⟩ = some v ∧ VRep F σ hp w d v := fun j d hd => by
   obtain ⟨v,hv,hr⟩ := e4 0 j d (by simp [zr,hd])
   exact ⟨v,by simp only [Nat.zero_mul,Nat.zero_add] at hv; simp [World.cell?,e1,hv],hr⟩
 obtain ⟨v0,c0,r0⟩ := k 0 (.int .u32 s.d) rfl
 obtain ⟨v1,c1,r1⟩ := k 1 (.int .i32 s.st) rfl
 rw [r0.int_inv] at c0
 rw [r1.int_inv] at c1
 exact ⟨g,hg,c0,c1⟩
theorem zzn {hp : List DObj} {n : Nat} {s : Sm} (h : hp[n]? = some (oS s)) : s_fill [.ptr n 1 0 0] hp = ⟨s.t.length = 256,.tup [],hp.set n (oS { s with t := tab })⟩ :=
 za5 relS_u (x := (n,s)) ⟨rfl,h⟩
theorem zwz [Inhabited Env] {F : Nat → Prop} {σ : Nat → Option Nat} {hp : List DObj} {w : World} {n : Nat} {s : Sm} {v : Value} {g : Nat} (h : hp[n]? = some (oS s)) (hg : σ n = some g) (hv : VRep F σ hp w (.ptr n 1 0 0) v) : v = .pointer (some ⟨g,0,none⟩) := by
 obtain ⟨_,hx⟩ := hv.ptr_inv
 obtain ⟨_,hx⟩ := hx _ h
 obtain ⟨g',hg',e⟩ := hx (by simp [oS]) rfl
 rw [hg] at hg'; injection hg' with hg'; subst hg'
 simpa using e
theorem ztk [Inhabited Env] {K F : Nat → Prop} {σ : Nat → Option Nat} {hp : List DObj} {w : World} (hs : SimH K F σ hp w) {n : Nat} {s : Sm} (h : hp[n]? = some (oS s)) {g : Nat} (hg : σ n = some g) {j : Nat} {d : DV} {v : Value} (hj : j < 3) (s' : Sm)
   (he : (zbf s.d s.st s.t s.r s.m).set j d = zbf s'.d s'.st s'.t s'.r s'.m) (hd : ∀ (F : Nat → Prop) (σ : Nat → Option Nat) (hp : List DObj) (w : World),VRep F σ hp w d v) :
   w.frozen? ⟨g,0 + j,none⟩ = false ∧ za6 K F σ hp w (.tup []) (hp.set n (oS s')) (.tuple #[]) (w.setCell ⟨g,0 + j,none⟩ v) := by
 obtain ⟨_,h2,h3⟩ := g_put (K := K) (i := 0) (j := j) hs h rfl hg (by simp [oS]) (by simp [oS,zbf]; omega) hd (fun _ _ _ _ => tup0)
 have e : 0 * (oS s).z + j = 0 + j := by omega
 rw [e] at h2 h3
 refine ⟨h2,?_⟩
 have e2 : ({ oS s with es := (oS s).es.set 0 (((oS s).es.getD 0 []).set j d) } : DObj) = oS s' := by
   simp only [oS,List.getD_cons_zero,List.set_cons_zero,he]
 rwa [e2] at h3
theorem ok_Do : OkH Tryz.prog 132 s_Do := by
 intro a hp hpre
 unfold s_Do zee at hpre ⊢
 split at hpre
 rotate_left
 · exact hpre.elim
 rename_i hx
 rw [dif_pos hx]
 have hy := hx.choose_spec
 generalize hx.choose = y at *
 obtain ⟨n,s⟩ := y
 obtain ⟨rfl,hh⟩ := hy
 obtain ⟨hl,hst⟩ := hpre
 have hl : s.t.length = 256 := hl
 have hst : s.st = 0 := hst
 have hh : hp[n]? = some (oS s) := hh
 refine ⟨by kernel_rfl,?_⟩
 intro K F σ w args hs ha
 obtain ⟨v0,v1,rfl,r0,r1⟩ := args2 ha
 have r0 : VRep F σ hp w (.ptr n 1 0 0) v0 := r0
 have r1 : VRep F σ hp w (.meth 133 [.ptr n 1 0 0]) v1 := r1
 obtain ⟨g,hg,c0,c1⟩ := zpr hs hh
 have e0 := zwz hh hg r0
 subst e0
 obtain ⟨vs,e1,hvl,hvr⟩ := r1.meth_inv
 obtain ⟨u,hu,hru⟩ := hvr 0 _ rfl
 have eu := zwz hh hg hru
 subst eu
 have e2 : vs = #[.pointer (some ⟨g,0,none⟩)] := by
   apply Array.ext
   · simpa using hvl.symm
   · intro i h1 h2
     have : i = 0 := by simp at h2; omega
     subst this
     simpa [h1] using hu
 subst e2 e1
 by_cases hd : s.d = 0
 rotate_left
 · have e : hp.set n (oS (zcj s)) = hp := by unfold zcj; rw [if_neg hd]; exact zb8 hh
   refine (do_done ⟨g,0,none⟩ s.d hd _ w c0).mono ?_
   rintro e' w' ⟨rfl,rfl⟩
   refine ⟨_,rfl,?_⟩
   show za6 K F σ hp _ (.tup []) (hp.set n (oS (zcj s))) _ _
   rw [e]
   exact za6.same hs tup0
 rw [hd] at c0
 rw [hst] at c1
 obtain ⟨fz1,gv1⟩ := ztk hs hh hg (j := 1) (d := .int .i32 1) (v := .int .i32 1) (by omega) { s with st := 1 } rfl (fun _ _ _ _ => .imm (.int _ _))
 obtain ⟨F1,σ1,hs1,mv1,hm1,_⟩ := gv1
 have hnl : n < hp.length := (List.getElem?_eq_some_iff.1 hh).1
 have hh1 : (hp.set n (oS { s with st := 1 }))[n]? = some (oS { s with st := 1 }) := List.getElem?_set_self hnl
 have p1 := r0.mono hm1
 have hF := ok_fill [.ptr n 1 0 0] (hp.set n (oS { s with st := 1 })) (by rw [zzn hh1]; exact hl)
 rw [zzn hh1,List.set_set] at hF
 have hf := hF.2 K F1 σ1 _ #[.pointer (some ⟨g,0,none⟩)] hs1 (.mk_cons p1 (All2.mk_nil))
 have hnl2 : n < (hp.set n (oS { s with st := 1 })).length := by simpa using hnl
 have hh2 : (hp.set n (oS { s with st := 1,t := tab }))[n]? = some (oS { s with st := 1,t := tab }) := List.getElem?_set_self hnl
 refine (do_first g 0 (fun w2 => za6 K F1 σ1 (hp.set n (oS { s with st := 1 })) (w.setCell ⟨g,0 + 1,none⟩ (.int .i32 1)) (.tup []) (hp.set n (oS { s with st := 1,t := tab })) (.tuple #[]) w2) w c0 c1 fz1 (hf.mono ?_) ?_).mono ?_
 · rintro e w2 ⟨v,rfl,hg2⟩
   obtain ⟨F2,σ2,q1,q2,q3,q4⟩ := hg2
   obtain ⟨us,rfl,hul,_⟩ := q4.tup_inv
   have : us = #[] := Array.eq_empty_of_size_eq_zero (by simpa using hul.symm)
   subst this
   exact ⟨rfl,F2,σ2,q1,q2,q3,q4⟩
 · rintro w2 ⟨F2,σ2,q1,q2,q3,q4⟩
   obtain ⟨g2,hg2,b0,b1⟩ := zpr q1 hh2
   have := zwz hh2 hg2 (p1.mono q3)
   injection this with this; injection this with this; injection this with this
   subst this
   refine ⟨by rw [b0]; simp only [hd],b1,?_,?_⟩
   · exact (ztk q1 hh2 hg2 (j := 0) (d := .int .u32 1) (v := .int .u32 1) (by omega) { s with st := 1,t := tab,d := 1 } rfl (fun _ _ _ _ => .imm (.int _ _))).1
   · exact (ztk q1 hh2 hg2 (j := 1) (d := .int .i32 0) (v := .int .i32 0) (by omega) { s with st := 0,t := tab } rfl (fun _ _ _ _ => .imm (.int _ _))).1
 · rintro e w' ⟨rfl,w2,⟨F2,σ2,q1,q2,q3,q4⟩,rfl⟩
   refine ⟨_,rfl,?_⟩
   obtain ⟨g2,hg2,b0,b1⟩ := zpr q1 hh2
   have := zwz hh2 hg2 (p1.mono q3)
   injection this with this; injection this with this; injection this with this
   subst this
   obtain ⟨F3,σ3,d1,d2,d3,_⟩ := yb1 q1
   obtain ⟨g3,hg3,_,_⟩ := zpr d1 hh2
   have := zwz hh2 hg3 ((p1.mono q3).mono d3)
   injection this with this; injection this with this; injection this with this
   subst this
   obtain ⟨_,F4,σ4,x1,x2,x3,_⟩ := ztk d1 hh2 hg3 (j := 0) (d := .int .u32 1) (v := .int .u32 1) (by omega) { s with st := 1,t := tab,d := 1 } rfl (fun _ _ _ _ => .imm (.int _ _))
   rw [List.set_set] at x1 x3
   have hh4 : (hp.set n (oS { s with st := 1,t := tab,d := 1 }))[n]? = some (oS { s with st := 1,t := tab,d := 1 }) := List.getElem?_set_self hnl
   obtain ⟨g4,hg4,_,_⟩ := zpr x1 hh4
   have := zwz hh4 hg4 (((p1.mono q3).mono d3).mono x3)
   injection this with this; injection this with this; injection this with this
   subst this
   obtain ⟨_,F5,σ5,y1,y2,y3,y4⟩ := ztk x1 hh4 hg4 (j := 1) (d := .int .i32 0) (v := .int .i32 0) (by omega) { s with st := 0,t := tab,d := 1 } rfl (fun _ _ _ _ => .imm (.int _ _))
   rw [List.set_set] at y1 y3 y4
   have e : zcj s = { s with st := 0,t := tab,d := 1 } := by unfold zcj; rw [if_pos hd]; cases s; simp only at hst; subst hst; rfl
   show za6 K F σ hp w (.tup []) (hp.set n (oS (zcj s))) _ _
   rw [e]
   exact ⟨F5,σ5,y1,(((mv1.trans q2).trans d2).trans x2).trans y2,(((hm1.trans q3).trans d3).trans x3).trans y3,y4⟩
end Go.Proofs.YtfaailjhioobhaaGreat
set_option linter.all false
set_option maxRecDepth 20000
namespace Go.Proofs.YtfaailjhioobhaaGreat
open Go.Nk Crc0
abbrev eW32 (x : BitVec 32) : DV := .int .u32 (x.toNat : Int)
theorem yap : Inj eW32 := fun x y h => by
 injection h with _ h
 exact BitVec.eq_of_toNat_eq (by omega)
theorem zfu : Inj eBs := fun x y h => zfo (by simpa [eBs] using h)
def newS : Sm := ⟨0,0,List.replicate 256 0#32,0xffffffff#32,true⟩
theorem sumZ_len : sumZ.length = 261 := by kernel_rfl
theorem sumZ_set : sumZ.set 259 (.int .u32 4294967295) = zbf 0 0 (List.replicate 256 0#32) 0xffffffff#32 false := z5h (by simp) 0xffffffff#32
theorem row_setM {d st : Int} {t : List (BitVec 32)} {r : BitVec 32} {m : Bool} (h : t.length = 256) (b : Bool) : (zbf d st t r m).set 260 (.bool b) = zbf d st t r b := by
 unfold zbf
 rw [List.set_cons_succ,List.set_cons_succ,List.set_cons_succ,List.set_append_right _ _ (by simp [h])]
 simp [h]
theorem row_one {d st : Int} {t : List (BitVec 32)} {r : BitVec 32} {m : Bool} : ∀ d' ∈ zbf d st t r m,d'.one = true := by
 intro d' h
 unfold zbf at h
 simp only [List.mem_cons,List.mem_append,List.mem_map,List.not_mem_nil,or_false] at h
 rcases h with rfl | rfl | rfl | ⟨x,_,rfl⟩ | rfl | rfl <;> rfl
noncomputable def s_New : List DV → List DObj → Res := fun a hp => if a = [] then ⟨True,.ptr hp.length 1 0 0,hp ++ [oS newS]⟩ else no
theorem z4k (hp : List DObj) : s_New [] hp = ⟨True,.ptr hp.length 1 0 0,hp ++ [oS newS]⟩ := if_pos rfl
theorem ok_New : OkH Tryz.prog 110 s_New := by
 refine OkH.mk (ps := []) (hs := []) (n := 0) trivial trivial z70 fun a hp h => ?_
 by_cases ha : a = []
 rotate_left
 · simp [s_New,ha,no] at h
 subst ha
 refine ⟨rfl,?_⟩
 rw [z4k]
 have l1 : (zbf 0 0 (List.replicate 256 0#32) 0xffffffff#32 false).length = 261 := zec (by simp)
 have l2 : (zbf 0 0 (List.replicate 256 0#32) 0xffffffff#32 true).length = 261 := zec (by simp)
 have s1 := row_setM (d := 0) (st := 0) (t := List.replicate 256 0#32) (r := 0xffffffff#32) (m := false) (by simp) true
 
 (refine Todo.of ?_); (repeat' (first | ((with_reducible refine Todo.to ?_); (repeat (simp only [↓rP,rT,zj,zc,dval,za,retV,DR.val,DV.one,cellsOf,zf,DV.isU,Nat.reduceAdd,↓reduceIte,Nat.reduceLeDiff,zzo,sumZ_len,sumZ_set,l1,l2,s1,oS,newS ])))))
 all_goals exact row_one
def valF (s : Sm) : BitVec 32 := if s.m then ~~~ s.r else 0#32
noncomputable def z3a : List DV → List DObj → Res := zgt oS (fun _ : Unit => []) (fun s _ => (s.t.length = 256,.int .u32 ((valF s).toNat : Int),s)) (fun _ => (True,.int .u32 0))
theorem z6y {hp : List DObj} {n : Nat} {s : Sm} (hh : hp[n]? = some (oS s)) : z3a [.ptr n 1 0 0] hp = ⟨s.t.length = 256,.int .u32 ((valF s).toNat : Int),hp⟩ := by
 refine (zcb (fun _ _ => z3q) (zbc _) _ _ hh ()).trans ?_
 simp only [zb8 hh]
theorem n_not (x : BitVec 32) : ze3 .xor .u32 (if IntKind.u32.signed = true then -1 else IntKind.u32.max) (x.toNat : Int) = ((~~~ x).toNat : Int) := by
 have := n_xor 0xffffffff#32 x
 rw [show (if IntKind.u32.signed = true then -1 else IntKind.u32.max : Int) = ((0xffffffff#32).toNat : Int) by decide,this]
 rw [show 0xffffffff#32 = BitVec.allOnes 32 by decide,BitVec.allOnes_xor]
theorem ok_Value : OkH Tryz.prog 112 z3a := by
 refine OkH.mkM (ps := []) (hs := []) trivial trivial zui (fun _ => rfl) (fun n hp s a hh hl h => ?_) (fun hp a h => ?_)
 · 
   have h : s.t.length = 256 := h
   simp only [zb8 hh]
   have hh' : hp[n]? = some ⟨.loc,261,[zbf s.d s.st s.t s.r s.m]⟩ := hh
   have r1 := z1i (d := s.d) (st := s.st) (r := s.r) (m := s.m) h
   have r2 := ya8 (d := s.d) (st := s.st) (r := s.r) (m := s.m) h
   cases hm : s.m
   · rw [hm] at hh' r1 r2
     have z : ((0#32).toNat : Int) = 0 := rfl
     simp only [valF,hm,Bool.false_eq_true,if_false,z]
     (refine Todo.of ?_); (repeat' (first | ((with_reducible refine Todo.to ?_); (repeat (simp only [↓rP,rT,rU,zc,dval,za,dUn,zg,zb,retV,DR.val,alive,Nat.reduceEqDiff,↓reduceIte,reduceCtorEq,zdy,hh',r2 ])))))
   · rw [hm] at hh' r1 r2
     simp only [valF,hm]
     (refine Todo.of ?_); (repeat' (first | ((with_reducible refine Todo.to ?_); (repeat (simp only [↓rP,rT,rU,zc,dval,za,dUn,zg,zb,retV,DR.val,alive,Nat.reduceEqDiff,Nat.reduceAdd,↓reduceIte,reduceCtorEq,Nat.reduceLT,Int.reduceNeg,zdy,hh',r1,r2,n_not ])))))
 · 
   (refine Todo.of ?_); (repeat' (first | ((with_reducible refine Todo.to ?_); (repeat (simp only [↓rP,rT,zc,dval,za,retV,DR.val,Nat.reduceEqDiff,↓reduceIte,reduceCtorEq,zdy,dPeq ])))))
def ixOf (r : BitVec 32) (c : UInt8) : Nat := (r ^^^ BitVec.ofNat 32 c.toNat).toNat % 256
theorem n_idx (r : BitVec 32) (c : UInt8) : ze3 .xor .u8 (IntKind.u8.wrap (r.toNat : Int)) (c.toNat : Int) = (ixOf r c : Int) := by
 have hc := c.toNat_lt
 have hw : IntKind.u8.wrap (r.toNat : Int) = ((r.toNat % 256 : Nat) : Int) := by rw [IntKind.wrap_u8]; omega
 rw [hw]
 show IntKind.u8.wrap (((BitVec.ofInt 8 ((r.toNat % 256 : Nat) : Int) ^^^ BitVec.ofInt 8 (c.toNat : Int) : BitVec 8).toNat : Nat) : Int) = _
 rw [BitVec.ofInt_natCast,BitVec.ofInt_natCast]
 have e : ((BitVec.ofNat 8 (r.toNat % 256)) ^^^ (BitVec.ofNat 8 c.toNat)).toNat = ixOf r c := by
   unfold ixOf
   rw [BitVec.toNat_xor,BitVec.toNat_ofNat,BitVec.toNat_ofNat,BitVec.toNat_xor,BitVec.toNat_ofNat,Nat.mod_eq_of_lt (show c.toNat < 2 ^ 32 by omega)]
   rw [show (256 : Nat) = 2 ^ 8 from rfl,Nat.xor_mod_two_pow,Nat.mod_mod,Nat.mod_eq_of_lt (show c.toNat < 2 ^ 8 by omega)]
 rw [e]
 exact z7c ⟨by omega,by unfold ixOf; omega⟩
theorem ix_lt (r : BitVec 32) (c : UInt8) : ixOf r c < 256 := Nat.mod_lt _ (by omega)
theorem tab_step (r : BitVec 32) (c : UInt8) : (r >>> 8) ^^^ tab.getD (ixOf r c) 0#32 = it 8 (r ^^^ BitVec.ofNat 32 c.toNat) := by
 have hc := c.toNat_lt
 rw [tab_get (ix_lt r c)]
 generalize hx : r ^^^ BitVec.ofNat 32 c.toNat = x
 have hl : ixOf r c = x.toNat % 256 := by unfold ixOf; rw [hx]
 rw [hl]
 generalize hlo : BitVec.ofNat 32 (x.toNat % 256) = lo
 have hbit : ∀ i,lo.getLsbD i = (decide (i < 8) && x.getLsbD i) := by
   intro i
   rw [← hlo,BitVec.getLsbD_ofNat,show (256 : Nat) = 2 ^ 8 from rfl,Nat.testBit_mod_two_pow]
   by_cases h : i < 8
   · simp only [h,decide_true,Bool.true_and,BitVec.testBit_toNat]
     have : i < 32 := by omega
     simp [this]
   · simp [h]
 have hr : r >>> 8 = (x ^^^ lo) >>> 8 := by
   apply BitVec.eq_of_getLsbD_eq
   intro i hi
   rw [BitVec.getLsbD_ushiftRight,BitVec.getLsbD_ushiftRight,BitVec.getLsbD_xor,hbit,← hx,BitVec.getLsbD_xor,BitVec.getLsbD_ofNat]
   have : c.toNat.testBit (8 + i) = false := Nat.testBit_lt_two_pow (Nat.lt_of_lt_of_le hc (by exact Nat.pow_le_pow_right (by omega) (by omega : 8 ≤ 8 + i)))
   rw [this]
   have : decide (8 + i < 8) = false := by simp
   rw [this]; simp
 rw [hr,← it_low0 8 (x ^^^ lo) fun i hi => by rw [BitVec.getLsbD_xor,hbit]; simp [hi],← it_xor,BitVec.xor_assoc,BitVec.xor_self,BitVec.xor_zero]
def okS (s : Sm) : Prop := s.t.length = 256 ∧ s.st = 0 ∧ (s.d ≠ 0 → s.t = tab)
def setR (s : Sm) (r : BitVec 32) : Sm := ⟨s.d,s.st,s.t,r,s.m⟩
def addS (s : Sm) (b : List UInt8) : Sm := if s.m then setR (zcj s) (reg s.r b) else s
theorem zyg {s : Sm} (h : okS s) : (zcj s).t = tab := by
 unfold zcj
 split
 · rfl
 · rename_i e; exact h.2.2 e
theorem done_st {s : Sm} : (zcj s).st = s.st := by unfold zcj; split <;> rfl
theorem done_r {s : Sm} : (zcj s).r = s.r := by unfold zcj; split <;> rfl
theorem okS_add {s : Sm} {b : List UInt8} (h : okS s) : okS (addS s b) := by
 unfold addS
 split
 · exact ⟨by show (zcj s).t.length = 256; rw [zyg h]; exact zq6,by show (zcj s).st = 0; rw [done_st]; exact h.2.1,fun _ => zyg h⟩
 · exact h
theorem z3n {b : List UInt8} {k : Nat} {r : BitVec 32} (hk : k < b.length) : reg r (b.take (k + 1)) = it 8 (reg r (b.take k) ^^^ BitVec.ofNat 32 (b.getD k 0).toNat) := by
 rw [List.take_succ_eq_append_getElem hk]
 unfold reg
 rw [List.foldl_append]
 simp [hk]
noncomputable def s_Add : List DV → List DObj → Res := zgt oS (fun b : List UInt8 => [.sl (bsl b)]) (fun s b => (okS s ∧ b.length ≤ 4294967296,.tup [],addS s b)) (fun _ => (True,.tup []))
theorem s_Add_at {hp : List DObj} {n : Nat} {s : Sm} (hh : hp[n]? = some (oS s)) (b : List UInt8) : s_Add [.ptr n 1 0 0,.sl (bsl b)] hp = ⟨okS s ∧ b.length ≤ 4294967296,.tup [],hp.set n (oS (addS s b))⟩ :=
 zcb (fun _ _ => z3q) (fun x y h => zfo (by simpa using h)) _ _ hh b
theorem ok_Add : OkH Tryz.prog 111 s_Add := by
 refine OkH.mkM (ps := []) (hs := [(132,s_Do)]) trivial ⟨ok_Do,trivial⟩ zxj (fun _ => rfl) (fun n hp s b hh hl h => ?_) (fun hp a h => ?_)
 · 
   obtain ⟨h,hb⟩ := h
   have hb : b.length ≤ 4294967296 := hb
   obtain ⟨h1,h2,h3⟩ := id h
   have hh' : hp[n]? = some ⟨.loc,261,[zbf s.d s.st s.t s.r s.m]⟩ := hh
   have r1 := ya8 (d := s.d) (st := s.st) (r := s.r) (m := s.m) h1
   cases hm : s.m
   · have e : hp.set n (oS (addS s b)) = hp := by unfold addS; rw [hm]; exact zb8 hh
     rw [hm] at hh' r1
     simp only [e]
     (refine Todo.of ?_); (repeat' (first | ((with_reducible refine Todo.to ?_); (repeat (simp only [↓rP,rT,rU,zc,dval,za,dUn,zg,zb,retV,retL,alive,Nat.reduceEqDiff,↓reduceIte,reduceCtorEq,zf1,hh',r1 ])))))
   rw [hm] at hh' r1
   have ed := s_Do_at hh
   have t1 : (s.t.length = 256 ∧ s.st = 0) = True := eq_true ⟨h1,h2⟩
   rw [t1] at ed
   have ea : addS s b = setR (zcj s) (reg s.r b) := by unfold addS; rw [hm]; rfl
   simp only [ea]
   (refine Todo.of ?_); (repeat' (first | ((with_reducible refine Todo.to ?_); (repeat (simp only [↓rP,rT,rU,zc,dval,za,dUn,zg,zb,alive,Nat.reduceEqDiff,↓reduceIte,reduceCtorEq,zf1,hh',r1,ed ])))))
   have ht := zyg h
   refine zaa (fun k : Nat => ⟨[(0,.ptr n 1 0 0),(21,.sl (bsl b)),(22,.int .i64 b.length),(23,.int .i64 k)],hp.set n (oS (setR (zcj s) (reg s.r (b.take k))))⟩) (fun k => k ≤ b.length) (fun k => b.length - k) 0 trivial ?_ (Nat.zero_le _) fun k hk => ?_
   · have : setR (zcj s) s.r = zcj s := by rw [← done_r (s := s)]; rfl
     simp only [zn,List.map_cons,List.map_nil,zd,Nk.get_nil,Nat.reduceEqDiff,↓reduceIte,List.take_zero,reduceCtorEq]
     show _ = (⟨_,hp.set n (oS (setR (zcj s) s.r))⟩ : DS)
     rw [this]; rfl
   by_cases d : k < b.length
   rotate_left
   · rw [List.take_of_length_le (by omega)]
     (refine Todo.of ?_); (repeat' (first | ((with_reducible refine Todo.to ?_); (repeat (simp only [↓rP,rT,rU,zc,dval,dBin,dInt,retV,retL,Nat.reduceEqDiff,↓reduceIte,reduceCtorEq,d ])))))
   have k0 : (0 : Int) ≤ k := Int.natCast_nonneg k
   have w1 : IntKind.i64.wrap ((k : Int) + 1) = ((k + 1 : Nat) : Int) := by rw [zt (by omega)]; omega
   generalize hr : reg s.r (b.take k) = r
   have hg : (hp.set n (oS (setR (zcj s) r)))[n]? = some ⟨.loc,261,[zbf (zcj s).d (zcj s).st tab r (zcj s).m]⟩ := by rw [List.getElem?_set_self hl]; simp only [oS,setR,ht]
   have q1 := z1i (d := (zcj s).d) (st := (zcj s).st) (r := r) (m := (zcj s).m) zq6
   have q2 := zec (d := (zcj s).d) (st := (zcj s).st) (r := r) (m := (zcj s).m) zq6
   have hix := ix_lt r (b.getD k 0)
   obtain ⟨l,q3⟩ := row_tab (d := (zcj s).d) (st := (zcj s).st) (r := r) (m := (zcj s).m) zq6 hix
   have q4 := fun x => z5h (d := (zcj s).d) (st := (zcj s).st) (r := r) (m := (zcj s).m) zq6 x
   have hw : ∀ o : DObj,(hp.set n (oS (setR (zcj s) r))).set n o = hp.set n o := fun o => List.set_set ..
   have ts := tab_step r (b.getD k 0)
   have bg : (bsl b).getD k [] = [.int .u8 ((b.getD k 0).toNat : Int)] := zbe d
   (refine Todo.of ?_); (repeat' (first | ((with_reducible refine Todo.to ?_); (repeat (simp only [↓rP,rT,rU,zc,dval,dBin,dInt,zg,zb,IntKind.bits,zo,DV.one,alive,cellsOf,zf,Nat.reduceEqDiff,Nat.reduceAdd,↓reduceIte,reduceCtorEq,Int.reduceToNat,Int.reduceLE,Nat.reduceLeDiff,Nat.reduceLT,forall_const,d,bg,w1,hg,q1,q2,q3,q4,hw,n_idx,n_shr8,n_xor,ts ]))) | ((with_reducible refine And.intro ?_ ?_); · first | (trivial) | (omega)) | fail))
   refine ⟨k + 1,?_,by omega,by omega⟩
   rw [z3n d,hr]
   simp only [zn,List.map_cons,List.map_nil,zd,Nk.get_nil,Nat.reduceEqDiff,↓reduceIte,Nat.succ_ne_self,reduceCtorEq,oS,setR,ht]
 · 
   (refine Todo.of ?_); (repeat' (first | ((with_reducible refine Todo.to ?_); (repeat (simp only [↓rP,rT,zc,dval,za,retV,retL,Nat.reduceEqDiff,↓reduceIte,zf1,dPeq ])))))
end Go.Proofs.YtfaailjhioobhaaGreat
set_option linter.all false
set_option maxRecDepth 20000
namespace Go.Proofs.YtfaailjhioobhaaGreat
open Go.Nk Crc0
@[reducible] def cBs (b : List UInt8) : List DV := [.sl (bsl b)]
theorem cBs_inj : ∀ x y,cBs x = cBs y → x = y := fun x y h => zfo (by simpa using h)
abbrev eBss : List (List UInt8) → DV := eL cBs
theorem z79 : Inj eBss := yaq cBs_inj
def gB (n : Nat) : List DObj := if n = 0 then [] else [⟨.dead,1,List.replicate n [.int .u8 0]⟩,⟨.dead,1,[]⟩]
noncomputable def z16 : List DV → List DObj → Res := zee (fun (x : Nat × Nat) a hp => a = [.nil,.int .i64 x.1] ∧ x.2 = hp.length) (fun x => (x.1 ≤ 1000000000,.own (x.2 + (gB x.1).length) 0 0 0)) fun x hp => hp ++ (gB x.1 ++ [⟨.imm,1,[]⟩])
theorem z1p (n : Nat) (hp : List DObj) : z16 [.nil,.int .i64 n] hp = ⟨n ≤ 1000000000,.own (hp.length + (gB n).length) 0 0 0,hp ++ (gB n ++ [⟨.imm,1,[]⟩])⟩ := by
 refine za5 (x := (n,hp.length)) ?_ ⟨rfl,rfl⟩
 rintro ⟨x1,x2⟩ ⟨y1,y2⟩ a hp ⟨rfl,rfl⟩ ⟨h,rfl⟩
 simp only [List.cons.injEq,DV.int.injEq,true_and,and_true] at h
 have : x1 = y1 := by omega
 subst this; rfl
theorem zh6 : OkH Tryz.prog 63 z16 := by
 refine OkH.mkGH (ps := []) (hs := []) trivial trivial zja (by rintro x a hp ⟨rfl,_⟩; rfl) ?_
 rintro ⟨n,L⟩ a hp ⟨rfl,rfl⟩ hl
 simp only at hl ⊢
 
 by_cases q : n = 0
 · subst q
   (refine Todo.of ?_); (repeat' (first | ((with_reducible refine Todo.to ?_); (repeat (first | (simp only [↓rP,rT,rU,zc,dval,za,dBin,dInt,retV,DR.val,Nat.reduceEqDiff,↓reduceIte,reduceCtorEq,Int.reduceSub,zcp,gB,Nat.add_zero ]) | ((simp (disch := omega) only [zko])))))))
 · (have hcondQ := Bool.and_self; refine Todo.of ?_); (repeat' (first | ((with_reducible refine Todo.to ?_); (repeat (first | (simp only [↓rP,rT,rU,zc,dval,za,dBin,dInt,retV,DR.val,dAppz,zal,Nat.reduceEqDiff,Nat.reduceAdd,↓reduceIte,reduceCtorEq,Nat.reduceSub,Int.reduceToNat,Int.reduceLE,Nat.reduceLeDiff,zcp,gB,q,List.append_assoc,Nat.add_zero,yb0,lst_get1,ybe,lst_set1,zd6,zcg,Int.sub_zero ,hcondQ]) | ((simp (disch := omega) only [zko]))))) | ((with_reducible refine And.intro ?_ ?_); · first | (trivial) | (omega) | ((simp; done))) | (((((with_reducible refine zw (t := ?_) ?_ (fun hcQ => ?_) (fun hcQ => ?_)); rotate_left; · (rfl))) <;> (have hn := hcQ; have hcondQ := hcQ) <;> (try simp only [decide_eq_true_eq,decide_eq_false_iff_not] at hn) <;> (try (exfalso; omega)) <;> (refine Todo.of ?_))) | fail)) <;> (try (omega))
noncomputable def zke : List DV → Prop × DV := zdu eBss fun v => (v.length ≤ 1000000 ∧ v.flatten.length ≤ 1000000000,.sl (bsl v.flatten))
theorem zrj (v : List (List UInt8)) : zke [.sl (v.map cBs)] = (v.length ≤ 1000000 ∧ v.flatten.length ≤ 1000000000,.sl (bsl v.flatten)) := zan z79 _ v
theorem zug (a b : List UInt8) : bsl a ++ bsl b = bsl (a ++ b) := (zlw a b).symm
theorem ziu (b : List UInt8) : (bsl b).take b.length = bsl b := List.take_of_length_le (by rw [zab]; exact Nat.le_refl _)
theorem zz2 (b : List UInt8) : (∀ e ∈ bsl b,e.length = 1) = True := eq_true zc7
theorem zdb : OkP Tryz.prog 23 zke := by
 refine OkP.mk1 (ps := []) (hs := [(63,z16)]) trivial ⟨zh6,trivial⟩ zhk fun v h => ?_
 obtain ⟨hl,hf⟩ := h
 
 (refine Todo.of ?_); (repeat' (first | ((with_reducible refine Todo.to ?_); (repeat (simp only [↓rP,rT,rU,eL,zc,dval,↓reduceIte,reduceCtorEq,zdg,eBss ])))))
 refine zad v (fun k (n : Nat) => ⟨[(0,.sl (v.map cBs)),(3,.int .i64 n),(9,.sl (v.map cBs)),(10,.int .i64 v.length),(11,.int .i64 k)],[]⟩) (fun k r n => n + r.flatten.length = v.flatten.length) 0 (Nat.le_refl _) (by simp only [zk,List.map_cons,List.map_nil,zd,Nk.get_nil,Nat.reduceEqDiff,↓reduceIte,DV.cut,DV.inB,List.take_nil,reduceCtorEq] <;> rfl) (by simp) (fun k x r n d hx hd hr => ?_) (fun k n e hr => ?_)
 · simp only [List.flatten_cons,List.length_append] at hr
   (have hcondQ := Bool.and_self; refine Todo.of ?_); (repeat' (first | ((with_reducible refine Todo.to ?_); (repeat (first | (simp only [↓rP,rT,rU,zc,dval,dBin,dInt,zg,zb,Nat.reduceEqDiff,↓reduceIte,reduceCtorEq,d,za8 cBs hx ,hcondQ]) | ((simp (disch := omega) only [zko]))))) | ((with_reducible refine And.intro ?_ ?_); · omega) | (((((with_reducible refine zw (t := ?_) ?_ (fun hcQ => ?_) (fun hcQ => ?_)); rotate_left; · (rfl))) <;> (have hn := hcQ; have hcondQ := hcQ) <;> (try simp only [decide_eq_true_eq,decide_eq_false_iff_not] at hn) <;> (try (exfalso; omega)) <;> (refine Todo.of ?_))) | fail))
   exact ⟨n + x.length,by simp only [zk,List.map_cons,List.map_nil,zd,Nk.get_nil,Nat.reduceEqDiff,↓reduceIte,Nat.succ_ne_self,DV.cut,DV.inB,List.take_nil,reduceCtorEq,Int.natCast_add,Int.natCast_one] <;> rfl,by omega⟩
 simp only [List.flatten_nil,List.length_nil,Nat.add_zero] at hr
 subst hr
 have e1 := z1p v.flatten.length []
 simp only [List.length_nil,Nat.zero_add,List.nil_append] at e1
 (refine Todo.of ?_); (repeat' (first | ((with_reducible refine Todo.to ?_); (repeat (simp only [↓rP,rT,rU,zc,dval,dBin,dInt,Nat.reduceEqDiff,↓reduceIte,reduceCtorEq,e,e1 ]))) | ((with_reducible refine And.intro ?_ ?_); · trivial) | fail))
 refine zad v (fun k (o : List UInt8) => ⟨[(6,.own (gB v.flatten.length).length o.length 0 o.length),(25,.sl (v.map cBs)),(26,.int .i64 v.length),(27,.int .i64 k)],gB v.flatten.length ++ [⟨.imm,1,bsl o⟩]⟩) (fun k r o => o ++ r.flatten = v.flatten) [] trivial (by simp only [zn,List.map_cons,List.map_nil,zd,Nk.get_nil,Nat.reduceEqDiff,↓reduceIte,List.length_nil] <;> rfl) rfl (fun k x r o d hx hd hr => ?_) (fun k o e hr => ?_)
 · simp only [List.flatten_cons] at hr
   have hb : o.length + x.length ≤ v.flatten.length := by rw [← hr]; simp
   (refine Todo.of ?_); (repeat' (first | ((with_reducible refine Todo.to ?_); (repeat (first | (simp only [↓rP,rT,rU,zc,dval,dBin,dInt,zg,zb,zi,zao,zal,Nat.reduceEqDiff,↓reduceIte,zz2,d,za8 cBs hx,g_get,g_set,zug ]) | ((simp (disch := omega) only [zko]))))) | ((with_reducible refine And.intro ?_ ?_); · omega) | fail))
   exact ⟨o ++ x,by simp only [zn,List.map_cons,List.map_nil,zd,Nk.get_nil,Nat.reduceEqDiff,↓reduceIte,Nat.succ_ne_self,Int.natCast_add,Int.natCast_one,List.length_append] <;> rfl,by simpa using hr⟩
 · simp only [List.flatten_nil,List.append_nil] at hr
   subst hr
   (refine Todo.of ?_); (repeat' (first | ((with_reducible refine Todo.to ?_); (repeat (simp only [↓rP,rT,rU,zc,dval,dBin,dInt,retV,DR.val,fzT,fzV,fz1,zi,freezeAt,Nat.reduceEqDiff,↓reduceIte,reduceCtorEq,ziu,e,g_get ]))))) <;> (try (exact Nat.le_refl _))
def tlk (n : BitVec 32) (k : Nat) : List UInt8 := (List.range k).map fun i => UInt8.ofNat (n >>> (8 * i)).toNat
def tl (n : BitVec 32) : List UInt8 := tlk n 4
theorem z4m (n : BitVec 32) (k : Nat) : tlk n (k + 1) = tlk n k ++ [UInt8.ofNat (n >>> (8 * k)).toNat] := by
 simp [tlk,List.range_succ]
theorem znr (n : BitVec 32) (k : Nat) : (tlk n k).length = k := by simp [tlk]
theorem z41 (n : BitVec 32) (k : Nat) : (n >>> (8 * k)) >>> 8 = n >>> (8 * (k + 1)) := by
 rw [← BitVec.shiftRight_add]; congr 1
theorem n_u8 (x : BitVec 32) : IntKind.u8.wrap (x.toNat : Int) = ((UInt8.ofNat x.toNat).toNat : Int) := by
 rw [IntKind.wrap_u8,UInt8.toNat_ofNat']; omega
theorem n_quo256 (x : BitVec 32) : IntKind.u32.wrap (Int.tdiv (x.toNat : Int) 256) = ((x >>> 8).toNat : Int) := by
 have := x.isLt
 rw [BitVec.toNat_ushiftRight,Nat.shiftRight_eq_div_pow,Int.tdiv_eq_ediv_of_nonneg (by omega),u32w (by omega)]
 omega
theorem n_rem256 (x : BitVec 32) : IntKind.u8.wrap (Int.tmod (x.toNat : Int) 256) = ((UInt8.ofNat x.toNat).toNat : Int) := by
 rw [Int.tmod_eq_emod_of_nonneg (by omega),IntKind.wrap_u8,UInt8.toNat_ofNat']; omega
theorem z5v (o : List UInt8) (c : UInt8) : bsl o ++ [[.int .u8 (c.toNat : Int)]] = bsl (o ++ [c]) := by simp [bsl]
noncomputable def z40 : List DV → Prop × DV := zdu eW32 fun n => (True,.sl (bsl (tl n)))
theorem ztv (n : BitVec 32) : z40 [.int .u32 (n.toNat : Int)] = (True,.sl (bsl (tl n))) := zan yap _ n
noncomputable def zy0 : List DV → Prop × DV := zdu eW32 fun n => (True,.sl (bsl (tl n)))
theorem zq7 (n : BitVec 32) : zy0 [.int .u32 (n.toNat : Int)] = (True,.sl (bsl (tl n))) := zan yap _ n
theorem zuv : OkP Tryz.prog 61 z40 := by
 refine OkP.mk1 (ps := []) (hs := []) trivial trivial z69 fun n _ => ?_
 (refine Todo.of ?_); (repeat' (first | ((with_reducible refine Todo.to ?_); (repeat (simp only [↓rP,rT,rU,zc,dval,zks,↓reduceIte,Int.reduceToNat,Int.reduceLE,zwe,eW32 ])))))
 refine zaa (fun k : Nat => ⟨[(0,.int .u32 ((n >>> (8 * k)).toNat : Int)),(3,.own 0 k 0 k),(5,.int .i64 k)],[⟨.imm,1,bsl (tlk n k)⟩]⟩) (fun k => k ≤ 4) (fun k => 4 - k) 0 (Nat.zero_le _) (by simp only [zk,List.map_cons,List.map_nil,zd,Nk.get_nil,Nat.reduceEqDiff,↓reduceIte,DV.cut,DV.inB,DObj.cut,List.take_nil,reduceCtorEq,Nat.zero_lt_one,decide_true,List.take_succ_cons]; simp [tlk,bsl]) (Nat.zero_le _) fun k hk => ?_
 by_cases d : k < 4
 · have w1 : IntKind.i64.wrap ((k : Int) + 1) = ((k + 1 : Nat) : Int) := by rw [zt (by omega)]; omega
   have l1 := znr n k
   (have hcondQ := Bool.and_self; refine Todo.of ?_); (repeat' (first | ((with_reducible refine Todo.to ?_); (repeat (simp only [↓rP,rT,rU,zc,dval,dBin,dInt,fz1,DV.immB,IntKind.bits,zi,zao,fzLL,fzL,bRow,bU,cellsOf,DV.isU,zal,Nat.reduceEqDiff,↓reduceIte,reduceCtorEq,Int.reduceToNat,Int.reduceLE,Nat.reduceLeDiff,forall_const,w1,n_u8,n_shr8,z41,z5v,l1 ,hcondQ]))) | ((with_reducible refine And.intro ?_ ?_); · omega) | (((((with_reducible refine zw (t := ?_) ?_ (fun hcQ => ?_) (fun hcQ => ?_)); rotate_left; · (rfl))) <;> (have hn := hcQ; have hcondQ := hcQ) <;> (try simp only [decide_eq_true_eq,decide_eq_false_iff_not] at hn) <;> (try (exfalso; omega)) <;> (refine Todo.of ?_))) | fail))
   refine ⟨k + 1,?_,by omega,by omega⟩
   simp only [zk,List.map_cons,List.map_nil,zd,Nk.get_nil,Nat.reduceEqDiff,↓reduceIte,DV.cut,DV.inB,DObj.cut,List.take_nil,reduceCtorEq,Nat.zero_lt_one,decide_true,List.take_succ_cons,z4m]
 · have : k = 4 := by omega
   subst this
   have l2 : (bsl (tlk n 4)).take 4 = bsl (tl n) := List.take_of_length_le (by rw [zab,znr]; exact Nat.le_refl _)
   (refine Todo.of ?_); (repeat' (first | ((with_reducible refine Todo.to ?_); (repeat (simp only [↓rP,rT,rU,zc,dval,dBin,dInt,retV,DR.val,fzT,fzV,fz1,zi,freezeAt,Nat.reduceEqDiff,↓reduceIte,reduceCtorEq,Nat.reduceSub,Nat.reduceLeDiff,Nat.reduceMul,l2,znr n 4 ])))))
theorem zhf : OkP Tryz.prog 72 zy0 := by
 refine OkP.mk1 (ps := []) (hs := []) trivial trivial zq0 fun n _ => ?_
 (refine Todo.of ?_); (repeat' (first | ((with_reducible refine Todo.to ?_); (repeat (simp only [↓rP,rT,rU,zc,dval,fzLL,↓reduceIte,reduceCtorEq,forall_const,zin,eW32 ])))))
 refine zaa (fun k : Nat => ⟨[(0,.int .u32 ((n >>> (8 * k)).toNat : Int)),(3,.own 0 k 0 k),(4,.int .i64 k)],[⟨.imm,1,bsl (tlk n k)⟩]⟩) (fun k => k ≤ 4) (fun k => 4 - k) 0 (Nat.zero_le _) (by simp only [zk,List.map_cons,List.map_nil,zd,Nk.get_nil,Nat.reduceEqDiff,↓reduceIte,DV.cut,DV.inB,DObj.cut,List.take_nil,reduceCtorEq,Nat.zero_lt_one,decide_true,List.take_succ_cons]; simp [tlk,bsl]) (Nat.zero_le _) fun k hk => ?_
 by_cases d : k < 4
 · have w1 : IntKind.i64.wrap ((k : Int) + 1) = ((k + 1 : Nat) : Int) := by rw [zt (by omega)]; omega
   have l1 := znr n k
   (have hcondQ := Bool.and_self; refine Todo.of ?_); (repeat' (first | ((with_reducible refine Todo.to ?_); (repeat (simp only [↓rP,rT,rU,zc,dval,dBin,dInt,fz1,DV.immB,zi,zao,fzLL,fzL,bRow,bU,cellsOf,DV.isU,zal,Nat.reduceEqDiff,↓reduceIte,reduceCtorEq,Nat.reduceLeDiff,Int.reduceEq,forall_const,w1,n_rem256,n_quo256,z41,z5v,l1 ,hcondQ]))) | ((with_reducible refine And.intro ?_ ?_); · omega) | (((((with_reducible refine zw (t := ?_) ?_ (fun hcQ => ?_) (fun hcQ => ?_)); rotate_left; · (rfl))) <;> (have hn := hcQ; have hcondQ := hcQ) <;> (try simp only [decide_eq_true_eq,decide_eq_false_iff_not] at hn) <;> (try (exfalso; omega)) <;> (refine Todo.of ?_))) | fail))
   refine ⟨k + 1,?_,by omega,by omega⟩
   simp only [zk,List.map_cons,List.map_nil,zd,Nk.get_nil,Nat.reduceEqDiff,↓reduceIte,DV.cut,DV.inB,DObj.cut,List.take_nil,reduceCtorEq,Nat.zero_lt_one,decide_true,List.take_succ_cons,z4m]
 · have : k = 4 := by omega
   subst this
   have l2 : (bsl (tlk n 4)).take 4 = bsl (tl n) := List.take_of_length_le (by rw [zab,znr]; exact Nat.le_refl _)
   (refine Todo.of ?_); (repeat' (first | ((with_reducible refine Todo.to ?_); (repeat (simp only [↓rP,rT,rU,zc,dval,dBin,dInt,retV,DR.val,fzT,fzV,fz1,zi,freezeAt,Nat.reduceEqDiff,↓reduceIte,reduceCtorEq,Nat.reduceSub,Nat.reduceLeDiff,Nat.reduceMul,l2,znr n 4 ])))))
def crcF (b : List UInt8) : BitVec 32 := ~~~ reg 0xffffffff#32 b
noncomputable def s_Of : List DV → Prop × DV := zdu eBs fun b => (b.length ≤ 4294967296,.int .u32 ((crcF b).toNat : Int))
theorem z1y (b : List UInt8) : s_Of [.sl (bsl b)] = (b.length ≤ 4294967296,.int .u32 ((crcF b).toNat : Int)) := zan zfu _ b
noncomputable def s_rOf : List DV → Prop × DV := zdu eBs fun b => (b.length ≤ 4294967296,.int .u32 ((crcF b).toNat : Int))
theorem zxg (b : List UInt8) : s_rOf [.sl (bsl b)] = (b.length ≤ 4294967296,.int .u32 ((crcF b).toNat : Int)) := zan zfu _ b
theorem okS_new : okS newS := ⟨by simp [newS],rfl,fun h => absurd rfl h⟩
theorem zzw : OkP Tryz.prog 62 s_Of := by
 refine OkP.mk1 (ps := []) (hs := [(110,s_New),(111,s_Add),(112,z3a)]) trivial ⟨ok_New,ok_Add,ok_Value,trivial⟩ m_crc_Of fun b h => ?_
 have h : b.length ≤ 4294967296 := h
 have e1 := z4k []
 have e2 := s_Add_at (hp := [oS newS]) (n := 0) (s := newS) rfl b
 have e3 := z6y (hp := [oS (addS newS b)]) (n := 0) (s := addS newS b) rfl
 have k1 := okS_new
 have k2 : (addS newS b).t.length = 256 := (okS_add k1 (b := b)).1
 have ev : valF (addS newS b) = crcF b := rfl
 
 (refine Todo.of ?_); (repeat' (first | ((with_reducible refine Todo.to ?_); (repeat (simp only [↓rP,rT,rU,eBs,zc,dval,retV,DR.val,fzT,fzV,fz1,DV.immB,Nat.reduceEqDiff,↓reduceIte,reduceCtorEq,z34,e1,e2,e3,k1,k2,h,ev ])))))
theorem n_rem2 (x : BitVec 32) : (Int.tmod (x.toNat : Int) 2 == 1) = decide (x &&& 1#32 = 1#32) := by
 rw [Int.tmod_eq_emod_of_nonneg (by omega)]
 have e : (x &&& 1#32 = 1#32) ↔ x.toNat % 2 = 1 := by
   rw [← BitVec.toNat_inj,BitVec.toNat_and,show (1#32).toNat = 2 ^ 1 - 1 from rfl,Nat.and_two_pow_sub_one_eq_mod]
 by_cases h : x &&& 1#32 = 1#32
 · rw [decide_eq_true h]; have := e.1 h; simp only [beq_iff_eq]; omega
 · rw [decide_eq_false h]; have hn : ¬ x.toNat % 2 = 1 := fun k => h (e.2 k); simp only [beq_eq_false_iff_ne]; omega
theorem n_quo2 (x : BitVec 32) : IntKind.u32.wrap (Int.tdiv (x.toNat : Int) 2) = ((x >>> 1).toNat : Int) := by
 have h := x.isLt
 have e : Int.tdiv (x.toNat : Int) 2 = ((x.toNat / 2 : Nat) : Int) := by rw [Int.tdiv_eq_ediv_of_nonneg (by omega)]; rfl
 rw [e,u32w ⟨by omega,by omega⟩,BitVec.toNat_ushiftRight,Nat.shiftRight_eq_div_pow]
theorem n_conv (c : UInt8) : IntKind.u32.wrap (c.toNat : Int) = ((BitVec.ofNat 32 c.toNat).toNat : Int) := by
 have := c.toNat_lt
 rw [u32w (by omega),BitVec.toNat_ofNat]; omega
theorem n_sub (x : BitVec 32) : IntKind.u32.wrap (4294967295 - (x.toNat : Int)) = ((~~~ x).toNat : Int) := by
 have := x.isLt
 rw [u32w (by omega),BitVec.toNat_not]; omega
theorem zjk : OkP Tryz.prog 73 s_rOf := by
 refine OkP.mk1 (ps := []) (hs := []) trivial trivial zt8 fun b h => ?_
 try dsimp only at h
 (refine Todo.of ?_); (repeat' (first | ((with_reducible refine Todo.to ?_); (repeat (simp only [↓rP,rT,eBs,zc,dval,zkp ])))))
 refine zaa (fun k : Nat => ⟨[(0,.sl (bsl b)),(3,.int .u32 ((reg 0xffffffff#32 (b.take k)).toNat : Int)),(4,.int .i64 k)],[]⟩) (fun k => k ≤ b.length) (fun k => b.length - k) 0 (Nat.le_refl _) (by simp only [zk,List.map_cons,List.map_nil,zd,Nk.get_nil,Nat.reduceEqDiff,↓reduceIte,DV.cut,DV.inB,List.take_nil,List.take_zero,reduceCtorEq]; rfl) (Nat.zero_le _) fun k hk => ?_
 by_cases d : k < b.length
 rotate_left
 · rw [List.take_of_length_le (by omega)]
   (refine Todo.of ?_); (repeat' (first | ((with_reducible refine Todo.to ?_); (repeat (simp only [↓rP,rT,rU,zc,dval,dBin,dInt,retV,DR.val,fzT,fzV,fz1,DV.immB,Nat.reduceEqDiff,↓reduceIte,reduceCtorEq,d,n_sub,crcF ])))))
 have k0 : (0 : Int) ≤ k := Int.natCast_nonneg k
 have w1 : IntKind.i64.wrap ((k : Int) + 1) = ((k + 1 : Nat) : Int) := by rw [zt (by omega)]; omega
 have bg : (bsl b).getD k [] = [.int .u8 ((b.getD k 0).toNat : Int)] := zbe d
 have rt := z3n (r := 0xffffffff#32) d
 generalize reg 0xffffffff#32 (b.take k) = r at *
 (refine Todo.of ?_); (repeat' (first | ((with_reducible refine Todo.to ?_); (repeat (simp only [↓rP,rT,rU,zc,dval,dBin,dInt,zg,zb,Nat.reduceEqDiff,↓reduceIte,reduceCtorEq,d,bg,n_conv,n_xor ]))) | ((with_reducible refine And.intro ?_ ?_); · trivial) | fail))
 refine zaa (fun j : Nat => ⟨[(0,.sl (bsl b)),(3,.int .u32 ((it j (r ^^^ BitVec.ofNat 32 (b.getD k 0).toNat)).toNat : Int)),(4,.int .i64 k),(5,.int .i64 j)],[]⟩) (fun j => j ≤ 8) (fun j => 8 - j) 0 (Nat.le_refl _) (by simp only [zk,List.map_cons,List.map_nil,zd,Nk.get_nil,Nat.reduceEqDiff,↓reduceIte,Nat.succ_ne_self,DV.cut,DV.inB,List.take_nil,reduceCtorEq]; rfl) (Nat.zero_le _) fun j hj => ?_
 by_cases dj : j < 8
 · have w2 : IntKind.i64.wrap ((j : Int) + 1) = ((j + 1 : Nat) : Int) := by rw [zt (by omega)]; omega
   have is := z2v j (r ^^^ BitVec.ofNat 32 (b.getD k 0).toNat)
   generalize it j (r ^^^ BitVec.ofNat 32 (b.getD k 0).toNat) = v at *
   by_cases c : v &&& 1#32 = 1#32
   · (have hcondQ := Bool.and_self; refine Todo.of ?_); (repeat' (first | ((with_reducible refine Todo.to ?_); (repeat (simp only [↓rP,rT,rU,zc,dval,dBin,dInt,Nat.reduceEqDiff,↓reduceIte,reduceCtorEq,Int.reduceEq,w2,n_rem2,n_quo2,n_xorp,c ,hcondQ]))) | (((((with_reducible refine zw (t := ?_) ?_ (fun hcQ => ?_) (fun hcQ => ?_)); rotate_left; · (rfl))) <;> (have hn := hcQ; have hcondQ := hcQ) <;> (try simp only [decide_eq_true_eq,decide_eq_false_iff_not] at hn) <;> (try (exfalso; omega)) <;> (refine Todo.of ?_))) | fail))
     refine ⟨j + 1,?_,by omega,by omega⟩
     simp only [zk,List.map_cons,List.map_nil,zd,Nk.get_nil,Nat.reduceEqDiff,↓reduceIte,Nat.succ_ne_self,DV.cut,DV.inB,List.take_nil,reduceCtorEq,is,T_odd c]
   · (have hcondQ := Bool.and_self; refine Todo.of ?_); (repeat' (first | ((with_reducible refine Todo.to ?_); (repeat (simp only [↓rP,rT,rU,zc,dval,dBin,dInt,Nat.reduceEqDiff,↓reduceIte,reduceCtorEq,Int.reduceEq,w2,n_rem2,n_quo2,c ,hcondQ]))) | (((((with_reducible refine zw (t := ?_) ?_ (fun hcQ => ?_) (fun hcQ => ?_)); rotate_left; · (rfl))) <;> (have hn := hcQ; have hcondQ := hcQ) <;> (try simp only [decide_eq_true_eq,decide_eq_false_iff_not] at hn) <;> (try (exfalso; omega)) <;> (refine Todo.of ?_))) | fail))
     refine ⟨j + 1,?_,by omega,by omega⟩
     simp only [zk,List.map_cons,List.map_nil,zd,Nk.get_nil,Nat.reduceEqDiff,↓reduceIte,Nat.succ_ne_self,DV.cut,DV.inB,List.take_nil,reduceCtorEq,is,T_even c]
 · have hj8 : j = 8 := by omega
   subst hj8
   (refine Todo.of ?_); (repeat' (first | ((with_reducible refine Todo.to ?_); (repeat (simp only [↓rP,rT,rU,zc,dval,dBin,dInt,Nat.reduceEqDiff,↓reduceIte,reduceCtorEq,Nat.reduceSub,w1 ])))))
   refine ⟨k + 1,?_,by omega,by omega⟩
   rw [rt]
   simp only [zk,List.map_cons,List.map_nil,zd,Nk.get_nil,Nat.reduceEqDiff,↓reduceIte,DV.cut,DV.inB,List.take_nil,reduceCtorEq]
theorem z4e (b : List UInt8) : ∀ e ∈ bsl b,∃ n,e = [DV.int .u8 n] := by
 intro e he
 simp only [bsl,List.mem_map] at he
 obtain ⟨x,_,rfl⟩ := he
 exact ⟨_,rfl⟩
theorem ziz (b : List UInt8) : (bsl b).map b2f = b := by
 induction b with
 | nil => rfl
 | cons x b ih =>
   show b2f [.int .u8 (x.toNat : Int)] :: (bsl b).map b2f = _
   rw [ih]
   congr 1
   simp [b2f]
noncomputable def s_BEq : List DV → Prop × DV := zzt eBs eBs fun a b => (True,.bool (a == b))
theorem zy2 (a : List UInt8) (b : List UInt8) : s_BEq [.sl (bsl a),.sl (bsl b)] = (True,.bool (a == b)) := zsk zfu zfu _ a b
theorem zmj : OkP Tryz.prog 74 s_BEq := by
 refine OkP.mk2 (ps := []) (hs := []) trivial trivial zx3 fun a b _ => ?_
 have e1 : (∀ e ∈ bsl a,∃ n,e = [DV.int .u8 n]) = True := eq_true (z4e a)
 have e2 : (∀ e ∈ bsl b,∃ n,e = [DV.int .u8 n]) = True := eq_true (z4e b)
 (refine Todo.of ?_); (repeat' (first | ((with_reducible refine Todo.to ?_); (repeat (simp only [↓rP,rT,eBs,zc,dval,dBin,dStr,retV,DR.val,fzT,fzV,fz1,DV.immB,zi,Nat.reduceEqDiff,↓reduceIte,reduceCtorEq,zo2,e1,e2,ziz ])))))
def zcr (b : List UInt8) : List UInt8 := b ++ tl (crcF b)
def zfh (b : List UInt8) : Option (List UInt8) := if 4 ≤ b.length ∧ tl (crcF (b.take (b.length - 4))) = b.drop (b.length - 4) then some (b.take (b.length - 4)) else none
def zfq (b : List UInt8) : List UInt8 := (zfh b).getD []
theorem z4g (n : BitVec 32) : (tl n).length = 4 := znr n 4
noncomputable def ya5 : List DV → Prop × DV := zdu eBs fun b => (b.length ≤ 100000000,.sl (bsl (zcr b)))
theorem yca (b : List UInt8) : ya5 [.sl (bsl b)] = (b.length ≤ 100000000,.sl (bsl (zcr b))) := zan zfu _ b
noncomputable def z13 : List DV → Prop × DV := zdu eBs fun b => (b.length ≤ 100000000,.sl (bsl (zcr b)))
theorem z52 (b : List UInt8) : z13 [.sl (bsl b)] = (b.length ≤ 100000000,.sl (bsl (zcr b))) := zan zfu _ b
noncomputable def ybg : List DV → Prop × DV := zdu eBs fun b => (b.length ≤ 100000000,.tup [.sl (bsl (zfq b)),.bool (zfh b).isSome])
theorem z7y (b : List UInt8) : ybg [.sl (bsl b)] = (b.length ≤ 100000000,.tup [.sl (bsl (zfq b)),.bool (zfh b).isSome]) := zan zfu _ b
noncomputable def zx8 : List DV → Prop × DV := zdu eBs fun b => (b.length ≤ 100000000,.tup [.sl (bsl (zfq b)),.bool (zfh b).isSome])
theorem z6g (b : List UInt8) : zx8 [.sl (bsl b)] = (b.length ≤ 100000000,.tup [.sl (bsl (zfq b)),.bool (zfh b).isSome]) := zan zfu _ b
theorem z2c : OkP Tryz.prog 22 ya5 := by
 refine OkP.mk1 (ps := [(62,s_Of),(61,z40),(23,zke)]) (hs := []) ⟨zzw,zuv,zdb,trivial⟩ trivial z5z fun b h => ?_
 try dsimp only at h
 have e1 : [DV.sl (bsl b)] = cBs b := rfl
 have e2 := zrj [b,tl (crcF b)]
 have l1 := z4g (crcF b)
 have ef : [b,tl (crcF b)].flatten = zcr b := by simp [zcr]
 have l2 : (zcr b).length = b.length + 4 := by simp [zcr,l1]
 rw [ef] at e2
 have h2 : (zcr b).length ≤ 1000000000 := by omega
 simp only [List.map_cons,List.map_nil] at e2
 (have hcondQ := Bool.and_self; refine Todo.of ?_); (repeat' (first | ((with_reducible refine Todo.to ?_); (repeat (simp only [↓rP,rT,rU,eBs,zc,dval,retV,DR.val,fzT,fzVs,fzV,fz1,DV.immB,zp,zq,z1,zz,zu,z6,fzLL,fzL,bRow,bU,cellsOf,DV.isU,Nat.reduceEqDiff,Nat.reduceAdd,↓reduceIte,reduceCtorEq,Nat.reduceLeDiff,forall_const,zvs,z1y,ztv,e2,h2 ,hcondQ]))))) <;> (try (omega))
theorem zn5 : OkP Tryz.prog 32 z13 := by
 refine OkP.mk1 (ps := [(73,s_rOf),(72,zy0)]) (hs := []) ⟨zjk,zhf,trivial⟩ trivial zqp fun b h => ?_
 try dsimp only at h
 have h : b.length ≤ 100000000 := h
 have l1 := z4g (crcF b)
 have l3 : (bsl (b ++ tl (crcF b))).take (b.length + 4) = bsl (zcr b) := List.take_of_length_le (by rw [zab,List.length_append,l1]; exact Nat.le_refl _)
 (refine Todo.of ?_); (repeat' (first | ((with_reducible refine Todo.to ?_); (repeat (simp only [↓rP,rT,rU,eBs,zc,dval,retV,DR.val,fzT,fzVs,fzV,fz1,DV.immB,zp,zq,z1,zz,zu,z6,zi,zao,freezeAt,fzLL,zal,Nat.reduceEqDiff,↓reduceIte,reduceCtorEq,Nat.reduceLeDiff,forall_const,zh0,zxg,zq7,zz2,l1,l3,zug ]))) | ((with_reducible refine And.intro ?_ ?_); · omega) | fail)) <;> (try (exact Nat.le_refl _))
theorem zn1 {hp : List DObj} {l : List UInt8} {b : Int} (h2 : 0 ≤ b) (h3 : b ≤ l.length) : zd6 hp 1 (.sl (bsl l)) none (some (.int .i64 b)) none = (True,.sl (bsl (l.take b.toNat))) := by
 simp only [zd6,zcg,zab,Option.isSome_none,Prod.mk.injEq]
 refine ⟨eq_true ⟨zc7,trivial,trivial,trivial,by simp,Int.le_refl _,h2,Int.le_refl _,h3⟩,?_⟩
 simp [bsl]
theorem zo9 {hp : List DObj} {l : List UInt8} {b : Int} (h2 : 0 ≤ b) (h3 : b ≤ l.length) : zd6 hp 1 (.sl (bsl l)) (some (.int .i64 b)) none none = (True,.sl (bsl (l.drop b.toNat))) := by
 simp only [zd6,zcg,zab,Option.isSome_none,Prod.mk.injEq]
 refine ⟨eq_true ⟨zc7,trivial,trivial,trivial,by simp,h2,h3,Int.le_refl _,Int.le_refl _⟩,?_⟩
 rw [Int.toNat_natCast,List.take_of_length_le (by rw [zab]; exact Nat.le_refl _),zsf]
theorem z5e {b : List UInt8} (h : ¬ tl (crcF (b.take (b.length - 4))) = b.drop (b.length - 4)) : zfh b = none := by
 unfold zfh; rw [if_neg fun k => h k.2]
theorem zt7 {b : List UInt8} (h : b.length < 4) : zfh b = none := by
 unfold zfh; rw [if_neg fun k => by omega]
theorem z0x {b : List UInt8} (h4 : ¬ b.length < 4) (h : tl (crcF (b.take (b.length - 4))) = b.drop (b.length - 4)) : zfh b = some (b.take (b.length - 4)) := by
 unfold zfh; rw [if_pos ⟨by omega,h⟩]
theorem z1n : OkP Tryz.prog 34 ybg := by
 refine OkP.mk1 (ps := [(62,s_Of),(61,z40),(74,s_BEq),(64,(zby zjo))]) (hs := []) ⟨zzw,zuv,zmj,za7,trivial⟩ trivial z6e fun b h => ?_
 try dsimp only at h
 have h : b.length ≤ 100000000 := h
 by_cases h4 : b.length < 4
 · have eo := zt7 h4
   simp only [zfq,eo,Option.getD_none,Option.isSome_none]
   (have hcondQ := Bool.and_self; refine Todo.of ?_); (repeat' (first | ((with_reducible refine Todo.to ?_); (repeat (simp only [↓rP,rT,rU,eBs,zc,dval,dBin,dInt,retV,retL,DR.val,fzT,fzVs,fzV,fz1,DV.immB,Nat.reduceEqDiff,↓reduceIte,reduceCtorEq,zlo,bsl ,hcondQ]))) | (((((with_reducible refine zw (t := ?_) ?_ (fun hcQ => ?_) (fun hcQ => ?_)); rotate_left; · (rfl))) <;> (have hn := hcQ; have hcondQ := hcQ) <;> (try simp only [decide_eq_true_eq,decide_eq_false_iff_not] at hn) <;> (try (exfalso; omega)) <;> (refine Todo.of ?_))) | fail))
 have w : IntKind.i64.wrap ((b.length : Int) - 4) = ((b.length - 4 : Nat) : Int) := by rw [zt (by omega)]; omega
 have s1 := fun hp => zn1 (hp := hp) (l := b) (b := ((b.length - 4 : Nat) : Int)) (by omega) (by omega)
 have s2 := fun hp => zo9 (hp := hp) (l := b) (b := ((b.length - 4 : Nat) : Int)) (by omega) (by omega)
 rw [Int.toNat_natCast] at s1 s2
 have k1 : (b.take (b.length - 4)).length ≤ 4294967296 := by simp; omega
 by_cases c : tl (crcF (b.take (b.length - 4))) = b.drop (b.length - 4)
 · have eo := z0x h4 c
   simp only [zfq,eo,Option.getD_some,Option.isSome_some]
   have c1 : (tl (crcF (b.take (b.length - 4))) == b.drop (b.length - 4)) = true := by simp [c]
   (have hcondQ := Bool.and_self; refine Todo.of ?_); (repeat' (first | ((with_reducible refine Todo.to ?_); (repeat (simp only [↓rP,rT,rU,eBs,zc,dval,dBin,dInt,dUn,retV,retL,DR.val,fzT,fzVs,fzV,fz1,DV.immB,zp,zq,z1,zz,zu,z6,Nat.reduceEqDiff,↓reduceIte,reduceCtorEq,zlo,z1y,ztv,zy2,w,s1,s2,k1,c1,zjo ,hcondQ]))) | (((((with_reducible refine zw (t := ?_) ?_ (fun hcQ => ?_) (fun hcQ => ?_)); rotate_left; · (rfl))) <;> (have hn := hcQ; have hcondQ := hcQ) <;> (try simp only [decide_eq_true_eq,decide_eq_false_iff_not] at hn) <;> (try (exfalso; omega)) <;> (refine Todo.of ?_))) | fail))
 · have eo := z5e c
   simp only [zfq,eo,Option.getD_none,Option.isSome_none]
   have c1 : (tl (crcF (b.take (b.length - 4))) == b.drop (b.length - 4)) = false := by simp [c]
   (have hcondQ := Bool.and_self; refine Todo.of ?_); (repeat' (first | ((with_reducible refine Todo.to ?_); (repeat (simp only [↓rP,rT,rU,eBs,zc,dval,dBin,dInt,dUn,retV,retL,DR.val,fzT,fzVs,fzV,fz1,DV.immB,zp,zq,z1,zz,zu,z6,Nat.reduceEqDiff,↓reduceIte,reduceCtorEq,zlo,z1y,ztv,zy2,w,s1,s2,k1,c1,hcondQ]))) | (((((with_reducible refine zw (t := ?_) ?_ (fun hcQ => ?_) (fun hcQ => ?_)); rotate_left; · (rfl))) <;> (have hn := hcQ; have hcondQ := hcQ) <;> (try simp only [decide_eq_true_eq,decide_eq_false_iff_not] at hn) <;> (try (exfalso; omega)) <;> (refine Todo.of ?_))) | fail))
   all_goals rfl
theorem zn9 : OkP Tryz.prog 37 zx8 := by
 refine OkP.mk1 (ps := [(73,s_rOf),(72,zy0),(11,(zgo zvi))]) (hs := []) ⟨zjk,zhf,zg1,trivial⟩ trivial zqt fun b h => ?_
 try dsimp only at h
 have h : b.length ≤ 100000000 := h
 by_cases h4 : b.length < 4
 · have eo := zt7 h4
   simp only [zfq,eo,Option.getD_none,Option.isSome_none]
   (have hcondQ := Bool.and_self; refine Todo.of ?_); (repeat' (first | ((with_reducible refine Todo.to ?_); (repeat (simp only [↓rP,rT,rU,eBs,zc,dval,dBin,dInt,retV,retL,DR.val,fzT,fzVs,fzV,fz1,DV.immB,Nat.reduceEqDiff,↓reduceIte,reduceCtorEq,zc6,bsl ,hcondQ]))) | (((((with_reducible refine zw (t := ?_) ?_ (fun hcQ => ?_) (fun hcQ => ?_)); rotate_left; · (rfl))) <;> (have hn := hcQ; have hcondQ := hcQ) <;> (try simp only [decide_eq_true_eq,decide_eq_false_iff_not] at hn) <;> (try (exfalso; omega)) <;> (refine Todo.of ?_))) | fail))
 have w : IntKind.i64.wrap ((b.length : Int) - 4) = ((b.length - 4 : Nat) : Int) := by rw [zt (by omega)]; omega
 have s1 := fun hp => zn1 (hp := hp) (l := b) (b := ((b.length - 4 : Nat) : Int)) (by omega) (by omega)
 have s2 := fun hp => zo9 (hp := hp) (l := b) (b := ((b.length - 4 : Nat) : Int)) (by omega) (by omega)
 rw [Int.toNat_natCast] at s1 s2
 have k1 : (b.take (b.length - 4)).length ≤ 4294967296 := by simp; omega
 have k2 : (b.drop (b.length - 4)).length < 9223372036854775808 := by simp; omega
 have k3 : (tl (crcF (b.take (b.length - 4)))).length < 9223372036854775808 := by rw [z4g]; omega
 by_cases c : tl (crcF (b.take (b.length - 4))) = b.drop (b.length - 4)
 · have eo := z0x h4 c
   simp only [zfq,eo,Option.getD_some,Option.isSome_some]
   have c1 : (tl (crcF (b.take (b.length - 4))) == b.drop (b.length - 4)) = true := by simp [c]
   (have hcondQ := Bool.and_self; refine Todo.of ?_); (repeat' (first | ((with_reducible refine Todo.to ?_); (repeat (simp only [↓rP,rT,rU,eBs,zc,dval,dBin,dInt,dUn,retV,retL,DR.val,fzT,fzVs,fzV,fz1,DV.immB,zp,zq,z1,zz,zu,z6,Nat.reduceEqDiff,↓reduceIte,reduceCtorEq,zc6,zxg,zq7,w,s1,s2,k1,k2,k3,c1,zvi,zez ,hcondQ]))) | (((((with_reducible refine zw (t := ?_) ?_ (fun hcQ => ?_) (fun hcQ => ?_)); rotate_left; · (rfl))) <;> (have hn := hcQ; have hcondQ := hcQ) <;> (try simp only [decide_eq_true_eq,decide_eq_false_iff_not] at hn) <;> (try (exfalso; omega)) <;> (refine Todo.of ?_))) | fail))
 · have eo := z5e c
   simp only [zfq,eo,Option.getD_none,Option.isSome_none]
   have c1 : (tl (crcF (b.take (b.length - 4))) == b.drop (b.length - 4)) = false := by simp [c]
   (have hcondQ := Bool.and_self; refine Todo.of ?_); (repeat' (first | ((with_reducible refine Todo.to ?_); (repeat (simp only [↓rP,rT,rU,eBs,zc,dval,dBin,dInt,dUn,retV,retL,DR.val,fzT,fzVs,fzV,fz1,DV.immB,zp,zq,z1,zz,zu,z6,Nat.reduceEqDiff,↓reduceIte,reduceCtorEq,zc6,zxg,zq7,w,s1,s2,k1,k2,k3,c1,zvi,zez ,hcondQ]))) | (((((with_reducible refine zw (t := ?_) ?_ (fun hcQ => ?_) (fun hcQ => ?_)); rotate_left; · (rfl))) <;> (have hn := hcQ; have hcondQ := hcQ) <;> (try simp only [decide_eq_true_eq,decide_eq_false_iff_not] at hn) <;> (try (exfalso; omega)) <;> (refine Todo.of ?_))) | fail))
   all_goals rfl
end Go.Proofs.YtfaailjhioobhaaGreat
set_option linter.all false
set_option maxRecDepth 20000
namespace Go.Proofs.YtfaailjhioobhaaGreat
open Go.Nk Crc0
theorem zz1 {b x : List UInt8} (h : zfh b = some x) : x.length + 4 = b.length := by
 unfold zfh at h
 split at h
 · injection h with h; subst h; simp; omega
 · cases h
theorem ze5 (b : List UInt8) : (zcr b).length = b.length + 4 := by simp [zcr,z4g]
end Go.Proofs.YtfaailjhioobhaaGreat
set_option linter.all false
set_option maxRecDepth 20000
namespace Go.Proofs.YtfaailjhioobhaaGreat
open Go.Nk Crc0
theorem zth (b : List UInt8) : zfh (zcr b) = some b := by
 have l := ze5 b
 have e1 : (zcr b).take ((zcr b).length - 4) = b := by rw [l]; simp [zcr]
 have e2 : (zcr b).drop ((zcr b).length - 4) = tl (crcF b) := by rw [l]; simp [zcr]
 unfold zfh
 rw [e1,e2,if_pos ⟨by omega,rfl⟩]
end Go.Proofs.YtfaailjhioobhaaGreat
set_option linter.all false
set_option maxRecDepth 20000
namespace Go.Proofs.YtfaailjhioobhaaGreat
open Go.Nk Crc0
end Go.Proofs.YtfaailjhioobhaaGreat
