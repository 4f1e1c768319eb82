/- The octet functions: what each tells. -/
import Derived.Test.YtfaailjhioobhaaGreatFns
set_option linter.all false
set_option maxRecDepth 20000
namespace Go.Proofs.YtfaailjhioobhaaGreat
open Go.Nk
def zez (l : List UInt8) : Prop := l.length < 9223372036854775808
def getF (l : List UInt8) : Nat := l.foldl (fun a b => (a * 256 + b.toNat) % 18446744073709551616) 0
theorem zy5 (l : List UInt8) (k : Nat) (h : k < l.length) : getF (l.take (k + 1)) = (getF (l.take k) * 256 + (l.getD k 0).toNat) % 18446744073709551616 := by
 unfold getF
 rw [List.take_add_one,List.foldl_append]
 simp [List.getD,h]
theorem or8 (a b : Nat) (hb : b < 256) : ze3 .or .u64 ((a : Int) * 2 ^ min 8 64 % 18446744073709551616) ((b : Int) % 18446744073709551616) = ((a * 256 + b) % 18446744073709551616 : Nat) := by
 have e : ((a : Int) * 2 ^ min 8 64 % 18446744073709551616) = ((2 ^ 8 * (a % 2 ^ 56) : Nat) : Int) := by
   rw [show min 8 64 = 8 from by decide]
   omega
 have e2 : ((b : Int) % 18446744073709551616) = ((b : Nat) : Int) := by omega
 rw [e,e2,ybn,IntKind.wrap_u64]
 have e3 : (((2 ^ 8 * (a % 2 ^ 56) : Nat) : Int) % ((2 ^ IntKind.u64.bits : Nat) : Int)).toNat = 2 ^ 8 * (a % 2 ^ 56) := by simp only [IntKind.bits]; omega
 have e4 : ((b : Int) % ((2 ^ IntKind.u64.bits : Nat) : Int)).toNat = b := by simp only [IntKind.bits]; omega
 rw [e3,e4,← Nat.two_pow_add_eq_or_of_lt (by omega)]
 omega
def fGet (l : List UInt8) : Prop × DV := (zez l,.int .u64 (getF l))
theorem zrm : OkP Tryz.prog 115 (zby fGet) := by
 refine OkP.mk (ps := []) (hs := []) (n := 1) trivial trivial z1f (zfi fun l h => ?_)
 have h2 : l.length < 9223372036854775808 := h
 simp only [↓sqP,sqT,zva,fGet,zc,dval,↓reduceIte,reduceCtorEq]
 refine zaa (fun k : Nat => ⟨[(3,.int .u64 (getF (l.take k))),(6,.sl (bsl l)),(7,.int .i64 l.length),(8,.int .i64 k)],[]⟩) (fun k => k ≤ l.length) (fun k => l.length - k) 0 (by exact Nat.le_refl _) ?_ (Nat.zero_le _) fun k hk => ?_
 · simp only [zk,List.map_cons,List.map_nil,zd,Nk.get_nil,Nat.reduceEqDiff,↓reduceIte,DV.cut,DV.inB,List.take_nil,List.take_zero]; rfl
 · by_cases hlt : k < l.length
   · simp only [↓sqP,sqT,↓zh,zc,dval,Nat.reduceEqDiff,↓reduceIte,dBin,dInt,zg,zb,List.length_cons,List.length_nil,List.getD_cons_zero,Int.reduceToNat,IntKind.bits,Int.reduceLE,IntKind.wrap_u64,IntKind.wrap_i64,zbe hlt,hlt]
     refine ⟨by omega,k + 1,?_,by omega,by omega⟩
     simp only [zk,List.map_cons,List.map_nil,zd,Nk.get_nil,Nat.reduceEqDiff,↓reduceIte,Nat.succ_ne_self,DV.cut,DV.inB,List.take_nil,DS.mk.injEq,List.cons.injEq,Prod.mk.injEq,DV.int.injEq,true_and,and_true]
     exact ⟨by rw [zy5 l k hlt,or8 _ _ (UInt8.toNat_lt _)],by omega⟩
   · simp only [↓sqP,sqT,↓zh,zc,dval,Nat.reduceEqDiff,↓reduceIte,dBin,dInt,retV,DR.val,fzT,fzV,fz1,DV.immB,Bool.false_eq_true,hlt]
     rw [List.take_of_length_le (by omega)]
theorem zp6 : OkP Tryz.prog 123 (zby fGet) := by
 refine OkP.mk (ps := []) (hs := []) (n := 1) trivial trivial zr3 (zfi fun l h => ?_)
 have h2 : l.length < 9223372036854775808 := h
 simp only [↓sqP,sqT,zjn,fGet,zc,dval]
 refine zaa (fun k : Nat => ⟨[(0,.sl (bsl l)),(3,.int .u64 (getF (l.take k))),(4,.int .i64 k)],[]⟩) (fun k => k ≤ l.length) (fun k => l.length - k) 0 (by exact Nat.le_refl _) ?_ (Nat.zero_le _) fun k hk => ?_
 · simp only [zk,List.map_cons,List.map_nil,zd,Nk.get_nil,Nat.reduceEqDiff,↓reduceIte,DV.cut,DV.inB,List.take_nil,List.take_zero,reduceCtorEq]; rfl
 · by_cases hlt : k < l.length
   · simp only [↓sqP,sqT,↓zh,zc,dval,Nat.reduceEqDiff,↓reduceIte,dBin,dInt,zg,zb,reduceCtorEq,List.length_cons,List.length_nil,List.getD_cons_zero,IntKind.wrap_u64,IntKind.wrap_i64,zbe hlt,hlt]
     refine ⟨by omega,k + 1,?_,by omega,by omega⟩
     simp only [zk,List.map_cons,List.map_nil,zd,Nk.get_nil,Nat.reduceEqDiff,↓reduceIte,DV.cut,DV.inB,List.take_nil,reduceCtorEq,DS.mk.injEq,List.cons.injEq,Prod.mk.injEq,DV.int.injEq,true_and,and_true]
     have := (l.getD k 0).toNat_lt
     exact ⟨by rw [zy5 l k hlt]; omega,by omega⟩
   · simp only [↓sqP,sqT,↓zh,zc,dval,Nat.reduceEqDiff,↓reduceIte,dBin,dInt,retV,DR.val,fzT,fzV,fz1,DV.immB,Bool.false_eq_true,reduceCtorEq,hlt]
     rw [List.take_of_length_le (by omega)]
def zvi (l l' : List UInt8) : Prop × DV := (zez l ∧ zez l',.bool (l == l'))
theorem zy6 {l l' : List UInt8} {k : Nat} (h : k < l.length) (h' : k < l'.length) (e : l.take k = l'.take k) : l.take (k + 1) = l'.take (k + 1) ↔ l.getD k 0 = l'.getD k 0 := by
 rw [List.take_add_one (l := l),List.take_add_one (l := l'),e,List.append_cancel_left_eq]
 simp [List.getD,h,h']
theorem zg1 : OkP Tryz.prog 11 (zgo zvi) := by
 refine OkP.mk (ps := []) (hs := []) (n := 2) trivial trivial zp0 (z8j fun l l' h => ?_)
 have h2 : l.length < 9223372036854775808 := h.1
 have h3 : l'.length < 9223372036854775808 := h.2
 by_cases hl : l.length = l'.length
 · have hd : ((l.length : Int) != (l'.length : Int)) = false := by simp [hl]
   simp only [↓sqP,sqT,zeq,zvi,↓zh,zc,dval,Nat.reduceEqDiff,↓reduceIte,dBin,dInt,Bool.false_eq_true,reduceCtorEq,hd]
   refine zaa (fun k : Nat => ⟨[(0,.sl (bsl l)),(1,.sl (bsl l')),(5,.int .i64 k)],[]⟩) (fun k => k ≤ l.length ∧ l.take k = l'.take k) (fun k => l.length - k) 0 (by exact Nat.le_refl _) ?_ ⟨Nat.zero_le _,rfl⟩ fun k hk => ?_
   · simp only [zk,List.map_cons,List.map_nil,zd,Nk.get_nil,Nat.reduceEqDiff,↓reduceIte,Nat.succ_ne_self,DV.cut,DV.inB,List.take_nil,reduceCtorEq]; rfl
   · by_cases hlt : k < l.length
     · have hlt' : k < l'.length := by omega
       by_cases hb : l.getD k 0 = l'.getD k 0
       · have hb' : (l.getD k 0 != l'.getD k 0) = false := bne_eq_false_iff_eq.2 hb
         simp only [↓sqP,sqT,↓zh,zc,dval,Nat.reduceEqDiff,↓reduceIte,dBin,dInt,zg,zb,Bool.false_eq_true,reduceCtorEq,List.length_cons,List.length_nil,List.getD_cons_zero,IntKind.wrap_i64,zbe hlt,zbe hlt',hlt,hlt',zyi,hb']
         refine ⟨by omega,by omega,k + 1,?_,⟨by omega,(zy6 hlt hlt' hk.2).2 hb⟩,by omega⟩
         simp only [zk,List.map_cons,List.map_nil,zd,Nk.get_nil,Nat.reduceEqDiff,↓reduceIte,Nat.succ_ne_self,DV.cut,DV.inB,List.take_nil,reduceCtorEq,DS.mk.injEq,List.cons.injEq,Prod.mk.injEq,DV.int.injEq,true_and,and_true]
         omega
       · have hb' : (l.getD k 0 != l'.getD k 0) = true := bne_iff_ne.2 hb
         simp only [↓sqP,sqT,↓zh,zc,dval,Nat.reduceEqDiff,↓reduceIte,dBin,dInt,zg,zb,retV,DR.val,fzT,fzV,fz1,DV.immB,reduceCtorEq,List.length_cons,List.length_nil,List.getD_cons_zero,zbe hlt,zbe hlt',hlt,hlt',zyi,hb']
         have : l ≠ l' := by rintro rfl; exact hb rfl
         refine ⟨by omega,by omega,?_⟩
         simp [this]
     · simp only [↓sqP,sqT,↓zh,zc,dval,Nat.reduceEqDiff,↓reduceIte,dBin,dInt,retV,DR.val,fzT,fzV,fz1,DV.immB,Bool.false_eq_true,reduceCtorEq,hlt]
       have e := hk.2
       rw [List.take_of_length_le (by omega),List.take_of_length_le (by omega)] at e
       simp [e]
 · have hd : ((l.length : Int) != (l'.length : Int)) = true := by simp; omega
   simp only [↓sqP,sqT,zeq,zvi,↓zh,zc,dval,Nat.reduceEqDiff,↓reduceIte,dBin,dInt,retV,DR.val,fzT,fzV,fz1,DV.immB,reduceCtorEq,hd]
   have : l ≠ l' := by rintro rfl; exact hl rfl
   simp [this]
def zdf (l : List UInt8) : Bool := decide (2 ≤ l.length) && ((l.getD 0 0 == 0 && decide ((l.getD 1 0).toNat < 128)) || (l.getD 0 0 == 255 && decide (128 ≤ (l.getD 1 0).toNat)))
theorem and128 (b : UInt8) : (ze3 .and .u8 (b.toNat : Int) 128 != 0) = decide (128 ≤ b.toNat) := by
 have key : ∀ n : Nat,n < 256 → (IntKind.u8.wrap ((((n : Int) % (2 ^ IntKind.u8.bits : Nat)).toNat &&& ((128 : Int) % (2 ^ IntKind.u8.bits : Nat)).toNat : Nat)) != 0) = decide (128 ≤ n) := by decide +kernel
 rw [z59]
 exact key _ b.toNat_lt
def zxy (l : List UInt8) : Prop × DV := (zez l,.bool (zdf l))
theorem zn2 : OkP Tryz.prog 135 (zby zxy) := by
 refine OkP.mk (ps := []) (hs := []) (n := 1) trivial trivial z08 (zfi fun l h => ?_)
 have h2 : l.length < 9223372036854775808 := h
 by_cases hlt : l.length < 2
 · have hd : decide ((l.length : Int) < 2) = true := by simp; omega
   have : zdf l = false := by simp [zdf]; omega
   simp only [↓sqP,sqT,zkc,zxy,↓zh,zc,dval,↓reduceIte,dBin,dInt,retV,DR.val,fzT,fzV,fz1,DV.immB,reduceCtorEq,hd,this]
 have hd : decide ((l.length : Int) < 2) = false := by simp; omega
 have g0 : 0 < l.length := by omega
 have g1 : 1 < l.length := by omega
 have g0' : (0 : Int) < (l.length : Int) := by omega
 have g1' : (1 : Int) < (l.length : Int) := by omega
 have e0 : (((l.getD 0 0).toNat : Int) == 0) = (l.getD 0 0 == 0) := zlu _ 0
 have e1 : (((l.getD 0 0).toNat : Int) == 255) = (l.getD 0 0 == 255) := zlu _ 255
 have e2 : zdf l = ((l.getD 0 0 == 0 && decide ((l.getD 1 0).toNat < 128)) || (l.getD 0 0 == 255 && decide (128 ≤ (l.getD 1 0).toNat))) := by simp [zdf]; omega
 have e3 : decide ((l.getD 1 0).toNat < 128) = !decide (128 ≤ (l.getD 1 0).toNat) := by
   generalize (l.getD 1 0).toNat = x
   by_cases h : 128 ≤ x
   · have : ¬ x < 128 := by omega
     simp [h,this]
   · have : x < 128 := by omega
     simp [h,this]
 rw [e3] at e2
 cases c0 : (l.getD 0 0 == 0) <;> cases c1 : (l.getD 0 0 == 255) <;> cases c2 : decide (128 ≤ (l.getD 1 0).toNat) <;> rw [c0,c1,c2] at e2 <;>
   simp only [↓sqP,sqT,zkc,zxy,↓zh,zc,zm,dval,Nat.reduceEqDiff,↓reduceIte,dBin,dInt,dUn,zg,zb,retV,DR.val,fzT,fzV,fz1,DV.immB,Bool.false_eq_true,reduceCtorEq,List.length_cons,List.length_nil,List.getD_cons_zero,Int.reduceToNat,Int.reduceLE,zbe g0,zbe g1,and128,e0,e1,c0,c1,c2,hd,e2,g0',g1',Bool.or_false,Bool.or_true]
def zjo (l : List UInt8) : Prop × DV := (l.length ≤ 4294967296,.sl (bsl l))
theorem za7 : OkP Tryz.prog 64 (zby zjo) := by
 refine OkP.mk (ps := []) (hs := []) (n := 1) trivial trivial zce (zfi fun l h => ?_)
 have h2 : l.length ≤ 4294967296 := h
 have h3 : ∀ e ∈ bsl l,e.length = 1 := zc7
 cases l with
 | nil =>
   simp only [↓sqP,sqT,zaq,zjo,↓zh,zc,dval,Nat.reduceEqDiff,↓reduceIte,retV,DR.val,fzT,fzV,fz1,List.map_nil,Bool.false_eq_true,forall_const,reduceCtorEq,List.length_cons,List.length_nil,Nat.reduceLeDiff,List.all_nil,List.getElem?_cons_zero,List.set_cons_zero,zi,zao,freezeAt,List.drop_zero,List.not_mem_nil,List.nil_append,fzLL,bsl,List.map_nil,List.all_nil,fzLL,zao,zi,List.nil_append]
   simp [zal]
 | cons b r =>
   have e : bsl (b :: r) = [.int .u8 b.toNat] :: bsl r := rfl
   rw [e] at h3
   simp only [↓sqP,sqT,zaq,zjo,↓zh,zc,dval,Nat.reduceEqDiff,↓reduceIte,retV,DR.val,fzT,fzV,fz1,List.map_nil,Bool.false_eq_true,forall_const,reduceCtorEq,List.length_cons,List.length_nil,Nat.reduceLeDiff,List.all_nil,List.getElem?_cons_zero,List.set_cons_zero,zi,zao,freezeAt,List.drop_zero,List.not_mem_nil,List.nil_append,fzLL,e]
   refine ⟨⟨h3,h2⟩,Nat.le_refl _,?_⟩
   rw [List.take_of_length_le (by simp [zab])]
def putL (v : Nat) : Nat → List UInt8
 | 0 => []
 | k + 1 => UInt8.ofNat (v / 256 ^ k) :: putL v k
theorem ze (v : Nat) : ∀ k,(putL v k).length = k
 | 0 => rfl
 | k + 1 => by simp [putL,ze v k]
theorem byte_at (v k : Nat) (hk : k < 8) : IntKind.u8.wrap (((v : Nat) : Int).fdiv (2 ^ min (8 * (k : Int)).toNat 64)) = ((UInt8.ofNat (v / 256 ^ k)).toNat : Int) := by
 have h1 : min (8 * (k : Int)).toNat 64 = 8 * k := by omega
 have h2 : ((2 : Int) ^ (8 * k)) = ((256 ^ k : Nat) : Int) := by rw [Int.pow_mul]; norm_cast
 rw [h1,h2,Int.fdiv_eq_ediv_of_nonneg _ (Int.natCast_nonneg _),IntKind.wrap_u8,UInt8.toNat_ofNat',← Int.natCast_ediv]
 generalize v / 256 ^ k = d
 omega
theorem set_step (b : UInt8) (r : List UInt8) {n k : Nat} (h : k < n) : (bsl (List.replicate (n - k) 0 ++ r)).set (n - 1 - k) [.int .u8 (b.toNat : Int)] = bsl (List.replicate (n - (k + 1)) 0 ++ b :: r) := by
 obtain ⟨m,rfl⟩ : ∃ m,n = m + 1 + k := ⟨n - 1 - k,by omega⟩
 have e1 : m + 1 + k - k = m + 1 := by omega
 have e2 : m + 1 + k - 1 - k = m := by omega
 have e3 : m + 1 + k - (k + 1) = m := by omega
 rw [e1,e2,e3]
 simp only [bsl,List.map_append,List.map_replicate,List.map_cons]
 rw [List.replicate_succ',List.append_assoc]
 rw [List.set_append_right _ _ (by simp)]
 simp
def sPut : List DV → Prop × DV
 | [.int .u64 v,.int .i64 n] => (0 ≤ v ∧ v < 18446744073709551616,.sl (bsl (if n < 1 ∨ 8 < n then [] else putL v.toNat n.toNat)))
 | _ => (False,.undef)
theorem zrf : OkP Tryz.prog 60 sPut := by
 refine OkP.mk (ps := []) (hs := []) (n := 2) trivial trivial z1g fun args h => ?_
 unfold sPut at h ⊢
 split at h
 · rename_i v n
   refine ⟨rfl,?_⟩
   by_cases h1 : n < 1
   · simp only [↓sqP,sqT,zjj,↓zh,zc,zm,dval,za,Nat.reduceEqDiff,↓reduceIte,dBin,dInt,retV,DR.val,fzT,fzV,fz1,List.map_nil,h1,bsl]
   by_cases h8 : 8 < n
   · simp only [↓sqP,sqT,zjj,↓zh,zc,zm,dval,za,Nat.reduceEqDiff,↓reduceIte,dBin,dInt,retV,DR.val,fzT,fzV,fz1,List.map_nil,gt_iff_lt,h1,h8,bsl]
   simp only [↓sqP,sqT,zjj,↓zh,zc,zm,dval,za,Nat.reduceEqDiff,↓reduceIte,dBin,dInt,Bool.false_eq_true,List.length_cons,List.length_nil,List.nil_append,gt_iff_lt,h1,h8]
   obtain ⟨n',rfl⟩ : ∃ n' : Nat,n = n' := ⟨n.toNat,by omega⟩
   obtain ⟨v',rfl⟩ : ∃ v' : Nat,v = v' := ⟨v.toNat,by omega⟩
   refine ⟨⟨by omega,by omega,by (try simp only [zal]); (try simp only [zks]); omega⟩,?_⟩
   refine zaa (fun k : Nat => ⟨[(0,.int .u64 v'),(1,.int .i64 n'),(5,.own 0 n' 0 n'),(15,.int .i64 n'),(16,.int .i64 k)],[⟨.imm,1,bsl (List.replicate (n' - k) 0 ++ putL v' k)⟩]⟩)
     (fun k => k ≤ n') (fun k => n' - k) 0 (by exact Nat.zero_le _) ?_ (Nat.zero_le _) fun k hk => ?_
   · simp only [zk,List.map_cons,List.map_nil,zd,Nk.get_nil,Nat.reduceEqDiff,↓reduceIte,Nat.succ_ne_self,DV.cut,DV.inB,DObj.cut,List.take_nil,reduceCtorEq,Nat.zero_lt_one,decide_true,List.take_succ_cons,bsl,putL,Nat.sub_zero,List.append_nil,List.map_replicate]
     rfl
   · by_cases hlt : k < n'
     · have hi : ((n' : Int) - 1 - (k : Int)).toNat = n' - 1 - k := by omega
       have hl : (List.replicate (n' - k) (0 : UInt8) ++ putL v' k).length = n' := by simp [ze]; omega
       have hg : n' - 1 - k < (List.replicate (n' - k) (0 : UInt8) ++ putL v' k).length := by omega
       simp (disch := omega) only [↓sqP,sqT,↓zh,zc,dval,Nat.reduceEqDiff,↓reduceIte,dBin,dInt,fz1,DV.immB,reduceCtorEq,List.length_cons,List.length_nil,IntKind.bits,Nat.reduceLeDiff,zt,List.getElem?_cons_zero,List.set_cons_zero,zo,fzL,cellsOf,zf,List.length_append,List.length_replicate,hlt,hi,zbe hg,ze,List.set_cons_zero]
       refine ⟨by omega,⟨by decide,by omega,by omega,by omega⟩,⟨by omega,by omega⟩,k + 1,?_,by omega,by omega⟩
       simp only [zk,List.map_cons,List.map_nil,zd,Nk.get_nil,Nat.reduceEqDiff,↓reduceIte,Nat.succ_ne_self,DV.cut,DV.inB,DObj.cut,List.take_nil,reduceCtorEq,Nat.zero_lt_one,decide_true,List.take_succ_cons,byte_at v' k (by omega),set_step _ _ hlt]
       rfl
     · obtain rfl : k = n' := by omega
       simp only [↓sqP,sqT,↓zh,zc,dval,Nat.reduceEqDiff,↓reduceIte,dBin,dInt,retV,DR.val,fzT,fzV,fz1,Bool.false_eq_true,reduceCtorEq,List.getElem?_cons_zero,List.set_cons_zero,zi,freezeAt,List.drop_zero,List.length_append,List.length_replicate,hlt]
       simp [ze,List.take_of_length_le,zab]
 · exact h.elim
theorem zhz : OkP Tryz.prog 70 sPut := by
 refine OkP.mk (ps := []) (hs := []) (n := 2) trivial trivial zsc fun args h => ?_
 unfold sPut at h ⊢
 split at h
 · rename_i v n
   refine ⟨rfl,?_⟩
   by_cases h1 : n < 1
   · simp only [↓sqP,sqT,zdj,↓zh,zc,zm,dval,za,Nat.reduceEqDiff,↓reduceIte,dBin,dInt,retV,DR.val,fzT,fzV,fz1,List.map_nil,h1,bsl]
   by_cases h8 : 8 < n
   · simp only [↓sqP,sqT,zdj,↓zh,zc,zm,dval,za,Nat.reduceEqDiff,↓reduceIte,dBin,dInt,retV,DR.val,fzT,fzV,fz1,List.map_nil,gt_iff_lt,h1,h8,bsl]
   simp only [↓sqP,sqT,zdj,↓zh,zc,zm,dval,za,Nat.reduceEqDiff,↓reduceIte,dBin,dInt,List.map_nil,Bool.false_eq_true,forall_const,List.length_cons,List.length_nil,List.all_nil,List.not_mem_nil,fzLL,gt_iff_lt,h1,h8]
   obtain ⟨n',rfl⟩ : ∃ n' : Nat,n = n' := ⟨n.toNat,by omega⟩
   obtain ⟨v',rfl⟩ : ∃ v' : Nat,v = v' := ⟨v.toNat,by omega⟩
   have hv : v' < 18446744073709551616 := by have := h.2; omega
   refine zaa (fun k : Nat => ⟨[(0,.int .u64 (v' / 256 ^ k : Nat)),(1,.int .i64 n'),(5,.sl (bsl (putL v' k))),(6,.int .i64 k)],[]⟩)
     (fun k => k ≤ n') (fun k => n' - k) 0 (by exact Nat.le_refl _) ?_ (Nat.zero_le _) fun k hk => ?_
   · simp only [zk,List.map_cons,List.map_nil,zd,Nk.get_nil,Nat.reduceEqDiff,↓reduceIte,Nat.succ_ne_self,DV.cut,DV.inB,List.take_nil,reduceCtorEq,bsl,putL,Nat.pow_zero,Nat.div_one]
     rfl
   · have hd : v' / 256 ^ k < 18446744073709551616 := Nat.lt_of_le_of_lt (Nat.div_le_self _ _) hv
     have hs : v' / 256 ^ (k + 1) = v' / 256 ^ k / 256 := by rw [Nat.pow_succ,Nat.div_div_eq_div_mul]
     by_cases hlt : k < n'
     · have hb : IntKind.u8.wrap (((v' / 256 ^ k : Nat) : Int).tmod 256) = ((UInt8.ofNat (v' / 256 ^ k)).toNat : Int) := by
         rw [Int.tmod_eq_emod_of_nonneg (Int.natCast_nonneg _),IntKind.wrap_u8,UInt8.toNat_ofNat']
         generalize v' / 256 ^ k = d
         omega
       have hq : IntKind.u64.wrap (((v' / 256 ^ k : Nat) : Int).tdiv 256) = ((v' / 256 ^ (k + 1) : Nat) : Int) := by
         rw [Int.tdiv_eq_ediv_of_nonneg (Int.natCast_nonneg _),hs,IntKind.wrap_u64]
         generalize v' / 256 ^ k = d at *
         omega
       simp (disch := omega) only [↓sqP,sqT,↓zh,zc,dval,Nat.reduceEqDiff,↓reduceIte,dBin,dInt,fzV,fz1,DV.immB,List.map_cons,List.map_nil,Bool.false_eq_true,reduceCtorEq,List.length_cons,List.length_nil,zt,List.all_cons,List.all_nil,List.getElem?_cons_zero,List.set_cons_zero,zi,zao,freezeAt,List.drop_zero,List.nil_append,fzLL,fzL,bRow,bU,cellsOf,DV.isU,beq_self_eq_true,List.length_append,hlt,hb,hq,ze]
       refine ⟨by decide,by simp,⟨zc7,by (try simp only [zal]); (try simp only [zks]); omega⟩,by omega,by decide,k + 1,?_,by omega,by omega⟩
       simp only [zk,List.map_cons,List.map_nil,zd,Nk.get_nil,Nat.reduceEqDiff,↓reduceIte,Nat.succ_ne_self,DV.cut,DV.inB,List.take_zero,reduceCtorEq]
       rw [List.take_of_length_le (by simp [zab,ze]; omega)]
       rfl
     · obtain rfl : k = n' := by omega
       simp only [↓sqP,sqT,↓zh,zc,dval,Nat.reduceEqDiff,↓reduceIte,dBin,dInt,retV,DR.val,fzT,fzV,fz1,DV.immB,Bool.false_eq_true,reduceCtorEq,hlt]
 · exact h.elim
def zsa : Nat → List UInt8 → List UInt8
 | 0,l => l
 | n + 1,l => if zdf l then zsa n (l.drop 1) else l
def trim (l : List UInt8) : List UInt8 := zsa l.length l
theorem zo3 {l : List UInt8} (h : zdf l = true) : trim l = trim (l.drop 1) := by
 cases l with
 | nil => simp [zdf] at h
 | cons a r => simp [trim,zsa,h]
theorem zph {l : List UInt8} (h : zdf l = false) : trim l = l := by
 cases l with
 | nil => rfl
 | cons a r => simp [trim,zsa,h]
def intF (x : Int) : List UInt8 := trim (putL (x % 18446744073709551616).toNat 8)
def sInt : List DV → Prop × DV
 | [.int .i64 x] => (-9223372036854775808 ≤ x ∧ x < 9223372036854775808,.sl (bsl (intF x)))
 | _ => (False,.undef)
theorem z06 : OkP Tryz.prog 128 sInt := by
 refine OkP.mk (ps := [(60,sPut),(135,zby zxy),(64,zby zjo)]) (hs := []) (n := 1) ⟨zrf,zn2,za7,trivial⟩ trivial z2y fun args h => ?_
 unfold sInt at h ⊢
 split at h
 · rename_i x
   refine ⟨rfl,?_⟩
   have hp : sPut [.int .u64 (x % 18446744073709551616),.int .i64 8] = (True,.sl (bsl (putL (x % 18446744073709551616).toNat 8))) := by
     simp [sPut]
     omega
   simp only [↓sqP,sqT,ztc,zc,dval,za,↓reduceIte,fzVs,fzV,fz1,DV.immB,List.map_cons,List.map_nil,Bool.false_eq_true,reduceCtorEq,IntKind.wrap_u64,zp,zq,z1,zz,zu,z6,hp]
   refine zaa (fun l : List UInt8 => ⟨[(3,.sl (bsl l))],[]⟩) (fun l => trim l = intF x ∧ l.length ≤ 8) (fun l => l.length) (putL (x % 18446744073709551616).toNat 8) (by exact Nat.le_refl _) ?_ ⟨rfl,by simp [ze]⟩ fun l hk => ?_
   · simp only [zk,List.map_cons,List.map_nil,zd,Nk.get_nil,↓reduceIte,DV.cut,DV.inB,List.take_nil]
   · have hsm : zez l := by unfold zez; omega
     cases hi : zdf l with
     | true =>
       have hl : 2 ≤ l.length := by simp [zdf] at hi; omega
       simp only [↓sqP,sqT,↓zh,zc,dval,Nat.reduceEqDiff,↓reduceIte,DV.immB,List.map_cons,List.map_nil,Option.map_some,Option.map_none,Int.reduceToNat,Int.reduceLE,zp,zq,z1,zz,zu,z6,zxy,hi]
       refine ⟨hsm,by omega,l.drop 1,?_,⟨by rw [← hk.1,zo3 hi],by simp; omega⟩,by simp; omega⟩
       simp only [zk,List.map_cons,List.map_nil,zd,Nk.get_nil,↓reduceIte,DV.cut,DV.inB,List.take_nil]
     | false =>
       simp only [↓sqP,sqT,↓zh,zc,dval,Nat.reduceEqDiff,↓reduceIte,retV,DR.val,fzT,fzVs,fzV,fz1,DV.immB,List.map_cons,List.map_nil,Bool.false_eq_true,zp,zq,z1,zz,zu,z6,zxy,zjo,hi]
       refine ⟨hsm,by omega,?_⟩
       rw [← hk.1,zph hi]
 · exact h.elim
theorem zpp (l : List UInt8) : zdf l = (decide (1 < l.length) && ((l.getD 0 0 == 0 && decide ((l.getD 1 0).toNat < 128)) || (l.getD 0 0 == 255 && decide (128 ≤ (l.getD 1 0).toNat)))) := rfl
theorem zq1 : OkP Tryz.prog 114 sInt := by
 refine OkP.mk (ps := [(70,sPut)]) (hs := []) (n := 1) ⟨zhz,trivial⟩ trivial zr6 fun args h => ?_
 unfold sInt at h ⊢
 split at h
 · rename_i x
   refine ⟨rfl,?_⟩
   have hp : sPut [.int .u64 (x % 18446744073709551616),.int .i64 8] = (True,.sl (bsl (putL (x % 18446744073709551616).toNat 8))) := by
     simp [sPut]
     omega
   simp only [↓sqP,sqT,zjt,zc,dval,za,↓reduceIte,fzVs,fzV,fz1,DV.immB,List.map_cons,List.map_nil,Bool.false_eq_true,reduceCtorEq,IntKind.wrap_u64,zp,zq,z1,zz,zu,z6,hp]
   refine zaa (fun l : List UInt8 => ⟨[(3,.sl (bsl l))],[]⟩) (fun l => trim l = intF x ∧ l.length ≤ 8) (fun l => l.length) (putL (x % 18446744073709551616).toNat 8) (by exact Nat.le_refl _) ?_ ⟨rfl,by simp [ze]⟩ fun l hk => ?_
   · simp only [zk,List.map_cons,List.map_nil,zd,Nk.get_nil,↓reduceIte,DV.cut,DV.inB,List.take_nil]
   · by_cases hl : 1 < l.length
     · have hl' : (1 : Int) < (l.length : Int) := by omega
       have hl0 : (0 : Int) < (l.length : Int) := by omega
       have g0 : 0 < l.length := by omega
       have e0 : (((l.getD 0 0).toNat : Int) == 0) = (l.getD 0 0 == 0) := zlu _ 0
       have e1 : (((l.getD 0 0).toNat : Int) == 255) = (l.getD 0 0 == 255) := zlu _ 255
       have hi := zpp l
       have e2 : (((l.getD 1 0).toNat : Int) < 128) = ((l.getD 1 0).toNat < 128) := by apply propext; omega
       have e3 : ((128 : Int) ≤ ((l.getD 1 0).toNat : Int)) = (128 ≤ (l.getD 1 0).toNat) := by apply propext; omega
       have stop : zdf l = false → DV.sl (bsl l) = DV.sl (bsl (intF x)) := fun hi => by rw [← hk.1,zph hi]
       have go : ∀ fr,zdf l = true → (1 : Int) ≤ (l.length : Int) ∧ ∃ a' : List UInt8,DS.cut ⟨(3,.sl (bsl (l.drop 1))) :: fr,[]⟩ [3] (some 0) = ⟨[(3,.sl (bsl a'))],[]⟩ ∧ (trim a' = intF x ∧ a'.length ≤ 8) ∧ a'.length < l.length := by
         intro fr hi
         refine ⟨by omega,l.drop 1,?_,⟨by rw [← hk.1,zo3 hi],by simp; omega⟩,by simp; omega⟩
         simp only [zk,List.map_cons,List.map_nil,zd,↓reduceIte,DV.cut,DV.inB,List.take_nil]
       have c3 : (128 ≤ (l.getD 1 0).toNat) = ¬ (l.getD 1 0).toNat < 128 := by apply propext; omega
       by_cases c2 : (l.getD 1 0).toNat < 128 <;> cases c0 : (l.getD 0 0 == 0) <;> cases c1 : (l.getD 0 0 == 255) <;> simp only [c0,c1,c2,c3,hl,decide_true,decide_false,Bool.or_false,Bool.or_true,Bool.and_true,Bool.and_false,not_true_eq_false,not_false_eq_true] at hi <;>
           simp (disch := omega) only [↓sqP,sqT,↓zh,zc,zm,dval,Nat.reduceEqDiff,↓reduceIte,dBin,dInt,zg,zb,retV,DR.val,fzT,fzV,fz1,DV.immB,Option.map_some,Option.map_none,Bool.false_eq_true,List.length_cons,List.length_nil,List.getD_cons_zero,Int.reduceToNat,Int.reduceLE,zbe,gt_iff_lt,ge_iff_le,hl',hl0,e0,e1,e2,e3,c0,c1,c2,c3] <;> first | exact stop hi | exact go _ hi
     · have hl' : ¬ (1 : Int) < (l.length : Int) := by omega
       have hi : zdf l = false := by simp [zdf]; omega
       simp only [↓sqP,sqT,↓zh,zc,zm,dval,Nat.reduceEqDiff,↓reduceIte,dBin,dInt,retV,DR.val,fzT,fzV,fz1,DV.immB,Bool.false_eq_true,gt_iff_lt,hl']
       rw [← hk.1,zph hi]
 · exact h.elim
end Go.Proofs.YtfaailjhioobhaaGreat
set_option linter.all false
set_option maxRecDepth 20000
namespace Go.Proofs.YtfaailjhioobhaaGreat
open Go.Nk
def bad (l : List UInt8) : Bool := decide (l.length < 1) || (decide (8 < l.length) || zdf l)
def sgn (l : List UInt8) : Int := if (l.getD 0 0).toNat < 128 then (getF l : Int) else (getF l : Int) - 256 ^ l.length
def zj3 (l : List UInt8) : Prop × DV := (zez l,if bad l then .tup [.int .i64 0,.bool false] else .tup [.int .i64 (sgn l),.bool true])
theorem zlc : ∀ (l : List UInt8),l.length ≤ 8 → getF l < 256 ^ l.length := by
 intro l
 have key : ∀ (r : List UInt8) (a n : Nat),a < 256 ^ n → n + r.length ≤ 8 → r.foldl (fun a b => (a * 256 + b.toNat) % 18446744073709551616) a < 256 ^ (n + r.length) := by
   intro r
   induction r with
   | nil => intro a n h _; exact h
   | cons b r ih =>
     intro a n h hn
     simp only [List.foldl_cons,List.length_cons]
     have hb := b.toNat_lt
     have h1 : a * 256 + b.toNat < 256 ^ (n + 1) := by rw [Nat.pow_succ]; omega
     have h2 := ih ((a * 256 + b.toNat) % 18446744073709551616) (n + 1) (Nat.lt_of_le_of_lt (Nat.mod_le _ _) h1) (by simp at hn; omega)
     rw [show n + (r.length + 1) = n + 1 + r.length by omega]
     exact h2
 intro h
 have := key l 0 0 (by simp) (by omega)
 rwa [Nat.zero_add] at this
theorem pow8 (n : Nat) (h : n ≤ 8) : 256 ^ n ≤ 18446744073709551616 := by
 have e : (18446744073709551616 : Nat) = 256 ^ 8 := by decide +kernel
 rw [e]
 exact Nat.pow_le_pow_right (Nat.succ_pos _) h
theorem zge (b : UInt8) (l : List UInt8) (h : l.length ≤ 7) : getF (b :: l) = b.toNat * 256 ^ l.length + getF l := by
 have key : ∀ (r : List UInt8) (a n : Nat),a < 256 ^ n → n + r.length ≤ 8 → r.foldl (fun a b => (a * 256 + b.toNat) % 18446744073709551616) a = a * 256 ^ r.length + getF r := by
   intro r
   induction r with
   | nil => intro a n h _; simp [getF]
   | cons c r ih =>
     intro a n h hn
     have hc := c.toNat_lt
     simp only [List.length_cons] at hn
     have h1 : a * 256 + c.toNat < 256 ^ (n + 1) := by rw [Nat.pow_succ]; omega
     have hp : 256 ^ (n + 1) ≤ 18446744073709551616 := pow8 (n + 1) (by omega)
     have e1 : (a * 256 + c.toNat) % 18446744073709551616 = a * 256 + c.toNat := Nat.mod_eq_of_lt (Nat.lt_of_lt_of_le h1 hp)
     have e2 : getF (c :: r) = c.toNat * 256 ^ r.length + getF r := by
       have := ih c.toNat 1 (by omega) (by omega)
       unfold getF at this ⊢
       have hc2 : c.toNat < 18446744073709551616 := by omega
       simp only [List.foldl_cons,Nat.zero_mul,Nat.zero_add,Nat.mod_eq_of_lt hc2]
       exact this
     simp only [List.foldl_cons,List.length_cons]
     rw [e1,ih _ (n + 1) h1 (by omega),e2,Nat.pow_succ,Nat.add_mul]
     have : a * (256 ^ r.length * 256) = a * 256 * 256 ^ r.length := by rw [Nat.mul_comm (256 ^ r.length) 256,Nat.mul_assoc]
     omega
 have hb := b.toNat_lt
 have := key l b.toNat 1 (by omega) (by omega)
 unfold getF at this ⊢
 have hb2 : b.toNat < 18446744073709551616 := by omega
 simp only [List.foldl_cons,Nat.zero_mul,Nat.zero_add,Nat.mod_eq_of_lt hb2]
 exact this
theorem ya3 (b R m : Nat) (hb : b < 256) (hR : R < 256 ^ m) (hm : m ≤ 7) :
   (IntKind.i64.wrap (IntKind.u64.wrap (((b * 256 ^ m + R : Nat) : Int) * 2 ^ min (8 * (8 - ((m + 1 : Nat) : Int))).toNat 64))).fdiv (2 ^ min (8 * (8 - ((m + 1 : Nat) : Int))).toNat 64) =
     if b < 128 then ((b * 256 ^ m + R : Nat) : Int) else ((b * 256 ^ m + R : Nat) : Int) - 256 ^ (m + 1) := by
 rw [Int.fdiv_eq_ediv_of_nonneg _ (Int.pow_nonneg (by omega)),IntKind.wrap_u64,IntKind.wrap_i64]
 have hk : min (8 * (8 - ((m + 1 : Nat) : Int))).toNat 64 = 8 * (7 - m) := by omega
 rw [hk]
 have cases : m = 0 ∨ m = 1 ∨ m = 2 ∨ m = 3 ∨ m = 4 ∨ m = 5 ∨ m = 6 ∨ m = 7 := by omega
 rcases cases with rfl | rfl | rfl | rfl | rfl | rfl | rfl | rfl <;> simp only [Nat.reduceSub,Nat.reduceMul,Nat.reducePow,Int.reducePow,Nat.reduceAdd] at hR ⊢ <;> split <;> omega
theorem zx2 : OkP Tryz.prog 134 (zby zj3) := by
 refine OkP.mk (ps := [(135,zby zxy),(115,zby fGet)]) (hs := []) (n := 1) ⟨zn2,zrm,trivial⟩ trivial zzs (zfi fun l h => ?_)
 have h2 : l.length < 9223372036854775808 := h
 by_cases h1 : l.length < 1
 · have h1' : (l.length : Int) < 1 := by omega
   have hb : bad l = true := by unfold bad; rw [decide_eq_true h1]; rfl
   simp only [↓sqP,sqT,ze6,zj3,↓zh,zc,zm,dval,Nat.reduceEqDiff,↓reduceIte,dBin,dInt,retV,retL,DR.val,fzT,fzVs,fzV,fz1,DV.immB,reduceCtorEq,h1',hb]
 have h1' : ¬ (l.length : Int) < 1 := by omega
 by_cases h8 : 8 < l.length
 · have h8' : (8 : Int) < (l.length : Int) := by omega
   have hb : bad l = true := by unfold bad; rw [decide_eq_true h8]; simp
   simp only [↓sqP,sqT,ze6,zj3,↓zh,zc,zm,dval,Nat.reduceEqDiff,↓reduceIte,dBin,dInt,retV,retL,DR.val,fzT,fzVs,fzV,fz1,DV.immB,reduceCtorEq,gt_iff_lt,h1',h8',hb]
 have h8' : ¬ (8 : Int) < (l.length : Int) := by omega
 have hs : zez l := by unfold zez; omega
 cases hi : zdf l with
 | true =>
   have hb : bad l = true := by simp [bad,hi]
   simp only [↓sqP,sqT,ze6,zj3,zxy,↓zh,zc,zm,dval,Nat.reduceEqDiff,↓reduceIte,dBin,dInt,retV,retL,DR.val,fzT,fzVs,fzV,fz1,DV.immB,List.map_cons,List.map_nil,reduceCtorEq,zp,zq,z1,zz,zu,z6,gt_iff_lt,h1',h8',hb,hi,hs]
 | false =>
   have hb : bad l = false := by unfold bad; rw [decide_eq_false h1,decide_eq_false h8,hi]; rfl
   simp (disch := omega) only [↓sqP,sqT,ze6,zj3,zxy,fGet,↓zh,zc,zm,dval,Nat.reduceEqDiff,↓reduceIte,dBin,dInt,retV,retL,DR.val,fzT,fzVs,fzV,fz1,DV.immB,List.map_cons,List.map_nil,Bool.false_eq_true,reduceCtorEq,IntKind.bits,zt,zp,zq,z1,zz,zu,z6,gt_iff_lt,h1',h8',hb,hi,hs]
   refine ⟨by omega,by omega,?_⟩
   cases l with
   | nil => exact absurd (by simp) h1
   | cons b r =>
     have hr : r.length ≤ 7 := by simp only [List.length_cons] at h8; omega
     have hR := zlc r (by omega)
     have e := ya3 b.toNat (getF r) r.length b.toNat_lt hR hr
     rw [zge b r hr]
     unfold sgn
     simp only [List.length_cons,List.getD_cons_zero]
     rw [zge b r hr,e]
end Go.Proofs.YtfaailjhioobhaaGreat
set_option linter.all false
set_option maxRecDepth 20000
namespace Go.Proofs.YtfaailjhioobhaaGreat
open Go.Nk
def acc (i : Nat) (l : List UInt8) : Nat := l.foldl (fun a b => (a * 256 + b.toNat) % 18446744073709551616) i
theorem acc_take (i : Nat) (l : List UInt8) (k : Nat) (h : k < l.length) : acc i (l.take (k + 1)) = (acc i (l.take k) * 256 + (l.getD k 0).toNat) % 18446744073709551616 := by
 unfold acc
 rw [List.take_add_one,List.foldl_append]
 simp [List.getD,h]
theorem acc_top (b : UInt8) (l : List UInt8) : (acc 18446744073709551615 (b :: l) + 256 ^ (l.length + 1)) % 18446744073709551616 = getF (b :: l) % 18446744073709551616 := by
 have key : ∀ (r : List UInt8) (a c m : Nat),(a + m) % 18446744073709551616 = c % 18446744073709551616 → (acc a r + m * 256 ^ r.length) % 18446744073709551616 = acc c r % 18446744073709551616 := by
   intro r
   induction r with
   | nil => intro a c m h; simpa [acc] using h
   | cons b r ih =>
     intro a c m h
     simp only [acc,List.foldl_cons,List.length_cons]
     have := ih ((a * 256 + b.toNat) % 18446744073709551616) ((c * 256 + b.toNat) % 18446744073709551616) (m * 256) (by omega)
     unfold acc at this
     rw [Nat.pow_succ,Nat.mul_comm (256 ^ r.length) 256,← Nat.mul_assoc]
     exact this
 have := key (b :: l) 18446744073709551615 0 1 (by decide +kernel)
 simp only [Nat.one_mul,List.length_cons] at this
 exact this
theorem acc_lt (i : Nat) (h : i < 18446744073709551616) : ∀ l : List UInt8,acc i l < 18446744073709551616 := by
 intro l
 induction l generalizing i with
 | nil => exact h
 | cons b r ih => exact ih _ (Nat.mod_lt _ (by omega))
theorem sgn_acc0 (l : List UInt8) (h1 : ¬ l.length < 1) (h8 : ¬ 8 < l.length) (c : (l.getD 0 0).toNat < 128) : IntKind.i64.wrap (acc 0 l : Int) = sgn l := by
 cases l with
 | nil => exact absurd (by simp) h1
 | cons b r =>
   have hr : r.length ≤ 7 := by simp only [List.length_cons] at h8; omega
   have hR := zlc r (by omega)
   have e : acc 0 (b :: r) = getF (b :: r) := rfl
   simp only [List.getD_cons_zero] at c
   rw [e]
   unfold sgn
   simp only [List.getD_cons_zero,if_pos c]
   rw [zge b r hr,IntKind.wrap_i64]
   generalize r.length = m at *
   have cases : m = 0 ∨ m = 1 ∨ m = 2 ∨ m = 3 ∨ m = 4 ∨ m = 5 ∨ m = 6 ∨ m = 7 := by omega
   rcases cases with rfl | rfl | rfl | rfl | rfl | rfl | rfl | rfl <;> simp only [Nat.reducePow] at hR ⊢ <;> omega
theorem sgn_acc1 (l : List UInt8) (h1 : ¬ l.length < 1) (h8 : ¬ 8 < l.length) (c : ¬ (l.getD 0 0).toNat < 128) : IntKind.i64.wrap (acc 18446744073709551615 l : Int) = sgn l := by
 cases l with
 | nil => exact absurd (by simp) h1
 | cons b r =>
   have hr : r.length ≤ 7 := by simp only [List.length_cons] at h8; omega
   have hR := zlc r (by omega)
   have hb := b.toNat_lt
   have e := acc_top b r
   have ha := acc_lt 18446744073709551615 (by omega) (b :: r)
   simp only [List.getD_cons_zero] at c
   unfold sgn
   simp only [List.getD_cons_zero,if_neg c,List.length_cons]
   rw [zge b r hr] at e ⊢
   rw [IntKind.wrap_i64]
   generalize acc 18446744073709551615 (b :: r) = A at *
   generalize r.length = m at *
   have cases : m = 0 ∨ m = 1 ∨ m = 2 ∨ m = 3 ∨ m = 4 ∨ m = 5 ∨ m = 6 ∨ m = 7 := by omega
   rcases cases with rfl | rfl | rfl | rfl | rfl | rfl | rfl | rfl <;> simp only [Nat.reducePow,Int.reducePow,Nat.reduceAdd] at hR e ⊢ <;> omega
theorem zol : OkP Tryz.prog 125 (zby zj3) := by
 refine OkP.mk (ps := []) (hs := []) (n := 1) trivial trivial zq3 (zfi fun l h => ?_)
 have h2 : l.length < 9223372036854775808 := h
 by_cases h1 : l.length < 1
 · have h1' : (l.length : Int) < 1 := by omega
   have hb : bad l = true := by unfold bad; rw [decide_eq_true h1]; rfl
   simp only [↓sqP,sqT,za2,zj3,↓zh,zc,zm,dval,Nat.reduceEqDiff,↓reduceIte,dBin,dInt,retV,retL,DR.val,fzT,fzVs,fzV,fz1,DV.immB,reduceCtorEq,h1',hb]
 have h1' : ¬ (l.length : Int) < 1 := by omega
 by_cases h8 : 8 < l.length
 · have h8' : (8 : Int) < (l.length : Int) := by omega
   have hb : bad l = true := by unfold bad; rw [decide_eq_true h8]; simp
   simp only [↓sqP,sqT,za2,zj3,↓zh,zc,zm,dval,Nat.reduceEqDiff,↓reduceIte,dBin,dInt,retV,retL,DR.val,fzT,fzVs,fzV,fz1,DV.immB,reduceCtorEq,gt_iff_lt,h1',h8',hb]
 have h8' : ¬ (8 : Int) < (l.length : Int) := by omega
 have hl0 : (0 : Int) < (l.length : Int) := by omega
 have g0 : 0 < l.length := by omega
 have e0 : (((l.getD 0 0).toNat : Int) == 0) = (l.getD 0 0 == 0) := zlu _ 0
 have e1 : (((l.getD 0 0).toNat : Int) == 255) = (l.getD 0 0 == 255) := zlu _ 255
 have hi := zpp l
 have e2 : (((l.getD 1 0).toNat : Int) < 128) = ((l.getD 1 0).toNat < 128) := by apply propext; omega
 have e3 : ((128 : Int) ≤ ((l.getD 1 0).toNat : Int)) = (128 ≤ (l.getD 1 0).toNat) := by apply propext; omega
 have e4 : ((128 : Int) ≤ ((l.getD 0 0).toNat : Int)) = (¬ (l.getD 0 0).toNat < 128) := by apply propext; omega
 have c3 : (128 ≤ (l.getD 1 0).toNat) = ¬ (l.getD 1 0).toNat < 128 := by apply propext; omega
 have hw : IntKind.u64.wrap (0 - 1) = ((18446744073709551615 : Nat) : Int) := by decide
 have step : ∀ k : Nat,k < l.length → ∀ i : Nat,IntKind.u64.wrap (IntKind.u64.wrap ((acc i (l.take k) : Nat) * 256) + IntKind.u64.wrap ((l.getD k 0).toNat : Int)) = ((acc i (l.take (k + 1)) : Nat) : Int) := by
   intro k hk i
   rw [acc_take i l k hk,IntKind.wrap_u64,IntKind.wrap_u64,IntKind.wrap_u64]
   omega
 have all : ∀ k : Nat,¬ k < l.length → k ≤ l.length → l.take k = l := fun k a b => List.take_of_length_le (by omega)
 have hb : bad l = zdf l := by unfold bad; rw [decide_eq_false h1,decide_eq_false h8]; rfl
 by_cases c4 : (l.getD 0 0).toNat < 128
 · have s0 := sgn_acc0 l h1 h8 c4
   by_cases hl : 1 < l.length
   · have hl' : (1 : Int) < (l.length : Int) := by omega
     by_cases c2 : (l.getD 1 0).toNat < 128 <;> cases c0 : (l.getD 0 0 == 0) <;> cases c1 : (l.getD 0 0 == 255) <;> simp only [c0,c1,c2,c3,hl,decide_true,decide_false,Bool.or_false,Bool.or_true,Bool.and_true,Bool.and_false,not_true_eq_false,not_false_eq_true] at hi <;>
       rw [hi] at hb <;>
       simp (disch := omega) only [↓sqP,sqT,za2,zj3,↓zh,zc,zm,dval,Nat.reduceEqDiff,↓reduceIte,dBin,dInt,zg,zb,retV,retL,DR.val,fzT,fzVs,fzV,fz1,DV.immB,Bool.false_eq_true,reduceCtorEq,List.length_cons,List.length_nil,List.getD_cons_zero,Int.reduceToNat,Int.reduceLE,zbe,gt_iff_lt,ge_iff_le,hl',hl0,h1',h8',e0,e1,e2,e3,e4,c0,c1,c2,c3,c4,hb]
     all_goals
       refine zaa (fun k : Nat => ⟨[(0,.sl (bsl l)),(4,.int .u64 (acc 0 (l.take k) : Nat)),(5,.int .i64 k)],[]⟩) (fun k => k ≤ l.length) (fun k => l.length - k) 0 (by exact Nat.le_refl _) ?_ (Nat.zero_le _) fun k hk => ?_
       · simp only [zk,List.map_cons,List.map_nil,zd,Nk.get_nil,Nat.reduceEqDiff,↓reduceIte,DV.cut,DV.inB,List.take_nil,List.take_zero,reduceCtorEq]; rfl
       · by_cases hlt : k < l.length
         · simp (disch := omega) only [↓sqP,sqT,↓zh,zc,dval,Nat.reduceEqDiff,↓reduceIte,dBin,dInt,zg,zb,reduceCtorEq,List.length_cons,List.length_nil,List.getD_cons_zero,zt,zbe,hlt,step k hlt]
           refine ⟨by omega,k + 1,?_,by omega,by omega⟩
           simp only [zk,List.map_cons,List.map_nil,zd,Nk.get_nil,Nat.reduceEqDiff,↓reduceIte,DV.cut,DV.inB,List.take_nil,reduceCtorEq]; rfl
         · simp only [↓sqP,sqT,↓zh,zc,dval,Nat.reduceEqDiff,↓reduceIte,dBin,dInt,retV,retL,DR.val,fzT,fzVs,fzV,fz1,DV.immB,Bool.false_eq_true,reduceCtorEq,IntKind.wrap_i64,hlt,all k hlt hk]
           rw [← s0,IntKind.wrap_i64]
   · have hl' : ¬ (1 : Int) < (l.length : Int) := by omega
     have hi : zdf l = false := by rw [zpp,decide_eq_false hl]; rfl
     rw [hi] at hb
     simp (disch := omega) only [↓sqP,sqT,za2,zj3,↓zh,zc,zm,dval,Nat.reduceEqDiff,↓reduceIte,dBin,dInt,zg,zb,Bool.false_eq_true,reduceCtorEq,List.length_cons,List.length_nil,List.getD_cons_zero,Int.reduceToNat,Int.reduceLE,zbe,gt_iff_lt,ge_iff_le,hl',hl0,h1',h8',e4,c4,hb]
     all_goals
       refine zaa (fun k : Nat => ⟨[(0,.sl (bsl l)),(4,.int .u64 (acc 0 (l.take k) : Nat)),(5,.int .i64 k)],[]⟩) (fun k => k ≤ l.length) (fun k => l.length - k) 0 (by exact Nat.le_refl _) ?_ (Nat.zero_le _) fun k hk => ?_
       · simp only [zk,List.map_cons,List.map_nil,zd,Nk.get_nil,Nat.reduceEqDiff,↓reduceIte,DV.cut,DV.inB,List.take_nil,List.take_zero,reduceCtorEq]; rfl
       · by_cases hlt : k < l.length
         · simp (disch := omega) only [↓sqP,sqT,↓zh,zc,dval,Nat.reduceEqDiff,↓reduceIte,dBin,dInt,zg,zb,reduceCtorEq,List.length_cons,List.length_nil,List.getD_cons_zero,zt,zbe,hlt,step k hlt]
           refine ⟨by omega,k + 1,?_,by omega,by omega⟩
           simp only [zk,List.map_cons,List.map_nil,zd,Nk.get_nil,Nat.reduceEqDiff,↓reduceIte,DV.cut,DV.inB,List.take_nil,reduceCtorEq]; rfl
         · simp only [↓sqP,sqT,↓zh,zc,dval,Nat.reduceEqDiff,↓reduceIte,dBin,dInt,retV,retL,DR.val,fzT,fzVs,fzV,fz1,DV.immB,Bool.false_eq_true,reduceCtorEq,IntKind.wrap_i64,hlt,all k hlt hk]
           rw [← s0,IntKind.wrap_i64]
 · have s0 := sgn_acc1 l h1 h8 c4
   by_cases hl : 1 < l.length
   · have hl' : (1 : Int) < (l.length : Int) := by omega
     by_cases c2 : (l.getD 1 0).toNat < 128 <;> cases c0 : (l.getD 0 0 == 0) <;> cases c1 : (l.getD 0 0 == 255) <;> simp only [c0,c1,c2,c3,hl,decide_true,decide_false,Bool.or_false,Bool.or_true,Bool.and_true,Bool.and_false,not_true_eq_false,not_false_eq_true] at hi <;>
       rw [hi] at hb <;>
       simp (disch := omega) only [↓sqP,sqT,za2,zj3,↓zh,zc,zm,dval,Nat.reduceEqDiff,↓reduceIte,dBin,dInt,zg,zb,retV,retL,DR.val,fzT,fzVs,fzV,fz1,DV.immB,Bool.false_eq_true,reduceCtorEq,List.length_cons,List.length_nil,List.getD_cons_zero,Int.reduceToNat,Int.reduceLE,zbe,gt_iff_lt,ge_iff_le,hl',hl0,h1',h8',e0,e1,e2,e3,e4,c0,c1,c2,c3,c4,hb,hw]
     all_goals
       refine zaa (fun k : Nat => ⟨[(0,.sl (bsl l)),(4,.int .u64 (acc 18446744073709551615 (l.take k) : Nat)),(5,.int .i64 k)],[]⟩) (fun k => k ≤ l.length) (fun k => l.length - k) 0 (by exact Nat.le_refl _) ?_ (Nat.zero_le _) fun k hk => ?_
       · simp only [zk,List.map_cons,List.map_nil,zd,Nk.get_nil,Nat.reduceEqDiff,↓reduceIte,DV.cut,DV.inB,List.take_nil,List.take_zero,reduceCtorEq]; rfl
       · by_cases hlt : k < l.length
         · simp (disch := omega) only [↓sqP,sqT,↓zh,zc,dval,Nat.reduceEqDiff,↓reduceIte,dBin,dInt,zg,zb,reduceCtorEq,List.length_cons,List.length_nil,List.getD_cons_zero,zt,zbe,hlt,step k hlt]
           refine ⟨by omega,k + 1,?_,by omega,by omega⟩
           simp only [zk,List.map_cons,List.map_nil,zd,Nk.get_nil,Nat.reduceEqDiff,↓reduceIte,DV.cut,DV.inB,List.take_nil,reduceCtorEq]; rfl
         · simp only [↓sqP,sqT,↓zh,zc,dval,Nat.reduceEqDiff,↓reduceIte,dBin,dInt,retV,retL,DR.val,fzT,fzVs,fzV,fz1,DV.immB,Bool.false_eq_true,reduceCtorEq,IntKind.wrap_i64,hlt,all k hlt hk]
           rw [← s0,IntKind.wrap_i64]
   · have hl' : ¬ (1 : Int) < (l.length : Int) := by omega
     have hi : zdf l = false := by rw [zpp,decide_eq_false hl]; rfl
     rw [hi] at hb
     simp (disch := omega) only [↓sqP,sqT,za2,zj3,↓zh,zc,zm,dval,Nat.reduceEqDiff,↓reduceIte,dBin,dInt,zg,zb,Bool.false_eq_true,reduceCtorEq,List.length_cons,List.length_nil,List.getD_cons_zero,Int.reduceToNat,Int.reduceLE,zbe,gt_iff_lt,ge_iff_le,hl',hl0,h1',h8',e4,c4,hb,hw]
     all_goals
       refine zaa (fun k : Nat => ⟨[(0,.sl (bsl l)),(4,.int .u64 (acc 18446744073709551615 (l.take k) : Nat)),(5,.int .i64 k)],[]⟩) (fun k => k ≤ l.length) (fun k => l.length - k) 0 (by exact Nat.le_refl _) ?_ (Nat.zero_le _) fun k hk => ?_
       · simp only [zk,List.map_cons,List.map_nil,zd,Nk.get_nil,Nat.reduceEqDiff,↓reduceIte,DV.cut,DV.inB,List.take_nil,List.take_zero,reduceCtorEq]; rfl
       · by_cases hlt : k < l.length
         · simp (disch := omega) only [↓sqP,sqT,↓zh,zc,dval,Nat.reduceEqDiff,↓reduceIte,dBin,dInt,zg,zb,reduceCtorEq,List.length_cons,List.length_nil,List.getD_cons_zero,zt,zbe,hlt,step k hlt]
           refine ⟨by omega,k + 1,?_,by omega,by omega⟩
           simp only [zk,List.map_cons,List.map_nil,zd,Nk.get_nil,Nat.reduceEqDiff,↓reduceIte,DV.cut,DV.inB,List.take_nil,reduceCtorEq]; rfl
         · simp only [↓sqP,sqT,↓zh,zc,dval,Nat.reduceEqDiff,↓reduceIte,dBin,dInt,retV,retL,DR.val,fzT,fzVs,fzV,fz1,DV.immB,Bool.false_eq_true,reduceCtorEq,IntKind.wrap_i64,hlt,all k hlt hk]
           rw [← s0,IntKind.wrap_i64]
end Go.Proofs.YtfaailjhioobhaaGreat
