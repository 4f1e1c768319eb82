/- What is written is read: plain laws. -/
import Derived.Test.YtfaailjhioobhaaGreatWr4
import Derived.Test.YtfaailjhioobhaaGreatOctBack2
set_option linter.all false
set_option maxRecDepth 20000
namespace Go.Proofs.YtfaailjhioobhaaGreat
open Go.Nk
def val : List UInt8 → Nat
 | [] => 0
 | b :: r => b.toNat * 256 ^ r.length + val r
theorem z35 : ∀ (r : List UInt8) (a n : Nat),a < 256 ^ n → n + r.length ≤ 8 → r.foldl (fun a b => (a * 256 + b.toNat) % 18446744073709551616) a = a * 256 ^ r.length + val r
 | [],a,n,_,_ => by simp [val]
 | b :: r,a,n,h,h8 => by
   simp only [List.length_cons] at h8
   have hb := b.toNat_lt
   have h1 : a * 256 + b.toNat < 256 ^ (n + 1) := by rw [Nat.pow_succ]; omega
   have h2 : 256 ^ (n + 1) ≤ 256 ^ 8 := Nat.pow_le_pow_right (by decide) (by omega)
   have h3 : (256 : Nat) ^ 8 = 18446744073709551616 := by decide
   have h4 : (a * 256 + b.toNat) % 18446744073709551616 = a * 256 + b.toNat := Nat.mod_eq_of_lt (by omega)
   rw [List.foldl_cons,h4,z35 r _ (n + 1) h1 (by omega)]
   simp only [val,List.length_cons,Nat.pow_succ]
   rw [Nat.add_mul,Nat.mul_assoc,Nat.mul_comm 256 (256 ^ r.length)]
   omega
theorem z4w {l : List UInt8} (h : l.length ≤ 8) : getF l = val l := by
 unfold getF
 rw [z35 l 0 0 (by decide) (by omega)]
 omega
theorem z28 (v : Nat) : ∀ k,val (putL v k) = v % 256 ^ k
 | 0 => by simp [putL,val,Nat.mod_one]
 | k + 1 => by
   simp only [putL,val,ze,z28 v k,UInt8.toNat_ofNat']
   have e := Nat.mod_pow_succ (x := v) (b := 256) (k := k)
   show v / 256 ^ k % 256 * 256 ^ k + v % 256 ^ k = _
   rw [e,Nat.mul_comm,Nat.add_comm]
theorem z3b {l : List UInt8} (h : l.length ≤ 8) : sgn l = if (l.getD 0 0).toNat < 128 then (val l : Int) else (val l : Int) - ((256 ^ l.length : Nat) : Int) := by
 unfold sgn
 rw [z4w h]
 norm_cast
theorem sgn_drop {l : List UInt8} (h : l.length ≤ 8) (hi : zdf l = true) : sgn (l.drop 1) = sgn l := by
 rcases l with _ | ⟨a,_ | ⟨b,r⟩⟩
 · rfl
 · simp [zdf] at hi
 · have h' : (b :: r).length ≤ 8 := by simp only [List.length_cons] at h ⊢; omega
   rw [z3b h]
   show sgn (b :: r) = _
   rw [z3b h']
   simp only [zdf,List.length_cons,List.getD_cons_zero,List.getD_cons_succ,Bool.and_eq_true,Bool.or_eq_true,decide_eq_true_eq,beq_iff_eq] at hi
   simp only [List.getD_cons_zero,val,List.length_cons]
   rcases hi with ⟨_,⟨rfl,hb⟩ | ⟨rfl,hb⟩⟩
   · have : (0 : UInt8).toNat = 0 := rfl
     simp only [this,hb,if_true,Nat.zero_mul,Nat.zero_add]
     simp
   · have e : (255 : UInt8).toNat = 255 := rfl
     have hb' : ¬ b.toNat < 128 := by omega
     have hn : ¬ (255 : Nat) < 128 := by decide
     simp only [e,hb',hn,if_false]
     have : (256 : Nat) ^ (r.length + 1 + 1) = 256 * 256 ^ (r.length + 1) := by rw [Nat.pow_succ,Nat.mul_comm]
     rw [this]
     generalize 256 ^ (r.length + 1) = t
     generalize b.toNat * 256 ^ r.length + val r = s
     omega
theorem z01 : ∀ (n : Nat) (l : List UInt8),l.length ≤ 8 → sgn (zsa n l) = sgn l
 | 0,l,_ => rfl
 | n + 1,l,h => by
   unfold zsa
   split
   · rename_i hi
     rw [z01 n _ (by simp; omega),sgn_drop h hi]
   · rfl
theorem zwc : ∀ (n : Nat) (l : List UInt8),l.length ≤ n → zdf (zsa n l) = false
 | 0,l,h => by
   have : l = [] := List.length_eq_zero_iff.1 (by omega)
   subst this; rfl
 | n + 1,l,h => by
   unfold zsa
   split
   · exact zwc n _ (by simp; omega)
   · rename_i hi; simpa using hi
theorem zzz : ∀ (n : Nat) (l : List UInt8),1 ≤ l.length → 1 ≤ (zsa n l).length
 | 0,l,h => h
 | n + 1,l,h => by
   unfold zsa
   split
   · rename_i hi
     refine zzz n _ ?_
     simp only [zdf,Bool.and_eq_true,decide_eq_true_eq] at hi
     simp; omega
   · exact h
theorem intF_bad (x : Int) : bad (intF x) = false := by
 have h1 := zdk x
 have h2 : 1 ≤ (intF x).length := zzz _ _ (by rw [ze]; decide)
 have h3 : zdf (intF x) = false := zwc _ _ (Nat.le_refl _)
 have d1 : decide ((intF x).length < 1) = false := decide_eq_false (by omega)
 have d2 : decide (8 < (intF x).length) = false := decide_eq_false (by omega)
 unfold bad
 rw [h3,d1,d2]
 rfl
theorem intF_sgn {x : Int} (h : -9223372036854775808 ≤ x ∧ x < 9223372036854775808) : sgn (intF x) = x := by
 have e : sgn (intF x) = sgn (putL (x % 18446744073709551616).toNat 8) := z01 _ _ (by rw [ze]; decide)
 rw [e,z3b (by rw [ze]; decide),z28,ze]
 have f : ((putL (x % 18446744073709551616).toNat 8).getD 0 0).toNat = (x % 18446744073709551616).toNat / 256 ^ 7 % 256 := by
   show (UInt8.ofNat _).toNat = _
   rw [UInt8.toNat_ofNat']
 rw [f]
 have p7 : (256 : Nat) ^ 7 = 72057594037927936 := by decide
 have p8 : (256 : Nat) ^ 8 = 18446744073709551616 := by decide
 rw [p7,p8]
 split <;> omega
theorem yaa (pre c post : List UInt8) : nxt (pre ++ (c ++ post)) (some pre.length) c.length = (some c,some (pre.length + c.length)) := by
 simp only [nxt]
 rw [if_pos (by simp only [List.length_append]; omega)]
 simp only [Int.toNat_natCast,Prod.mk.injEq,Option.some.injEq,and_true]
 rw [← List.append_assoc,List.take_left' (by simp),List.drop_left]
theorem zyc (pre post : List UInt8) {k z : Int} (h1 : ¬ z < 1) (h2 : ¬ 4 < z) (h3 : ¬ k < 0) (h4 : ¬ ((256 ^ z.toNat : Nat) : Int) ≤ k) :
   numV (some (pre ++ (putL k.toNat z.toNat ++ post),pre.length)) z = k ∧ z9 (some (pre ++ (putL k.toNat z.toNat ++ post),pre.length)) (szN z) = some (pre ++ (putL k.toNat z.toNat ++ post),pre.length + z.toNat) := by
 have hs : szN z = (z.toNat : Int) := by
   unfold szN
   rw [if_neg (by omega)]
   omega
 have hz := z0n (z := z.toNat) (by omega)
 have hn := yaa pre (putL k.toNat z.toNat) post
 rw [ze] at hn
 unfold numV zb1 z9
 simp only [hs,hn,Option.getD_some,toP,Option.map_some,and_true]
 rw [z4w (by rw [ze]; omega),z28,Nat.mod_eq_of_lt (by omega)]
 rw [zt (by omega)]
 omega
theorem raw_back (pre c post : List UInt8) {z : Int} (h1 : ¬ z < 1) (h2 : ¬ 4 < z) (h4 : ¬ ((256 ^ z.toNat : Nat) : Int) ≤ (c.length : Int)) :
   rawV (some (pre ++ (putL c.length z.toNat ++ (c ++ post)),pre.length)) z = some c ∧ rawS (some (pre ++ (putL c.length z.toNat ++ (c ++ post)),pre.length)) z = some (pre ++ (putL c.length z.toNat ++ (c ++ post)),pre.length + z.toNat + c.length) := by
 have hn := zyc pre (c ++ post) (k := c.length) h1 h2 (by omega) h4
 rw [Int.toNat_natCast] at hn
 unfold rawV rawS
 rw [hn.1,hn.2]
 have e : pre ++ (putL c.length z.toNat ++ (c ++ post)) = (pre ++ putL c.length z.toNat) ++ (c ++ post) := by rw [List.append_assoc]
 have l : pre.length + z.toNat = (pre ++ putL c.length z.toNat).length := by rw [List.length_append,ze]
 have hx := yaa (pre ++ putL c.length z.toNat) c post
 rw [e,l]
 unfold zb1 z9
 simp only [hx,toP,Option.map_some,and_self]
theorem int_back (pre post : List UInt8) {x : Int} (h : -9223372036854775808 ≤ x ∧ x < 9223372036854775808) :
   intV (some (pre ++ (putL (intF x).length 1 ++ (intF x ++ post)),pre.length)) = x ∧ intS (some (pre ++ (putL (intF x).length 1 ++ (intF x ++ post)),pre.length)) = some (pre ++ (putL (intF x).length 1 ++ (intF x ++ post)),pre.length + 1 + (intF x).length) := by
 have hl := zdk x
 have h1 : ((256 ^ (1 : Int).toNat : Nat) : Int) = 256 := by decide
 have hr := raw_back pre (intF x) post (z := 1) (by decide) (by decide) (by rw [h1]; omega)
 have e : (1 : Int).toNat = 1 := rfl
 rw [e] at hr
 unfold intV intS
 rw [hr.1,hr.2]
 simp only [intF_bad,intF_sgn h,Bool.false_eq_true,if_false,and_self]
end Go.Proofs.YtfaailjhioobhaaGreat
set_option linter.all false
set_option maxRecDepth 20000
namespace Go.Proofs.YtfaailjhioobhaaGreat
open Go.Nk
theorem z4c (c v n : Nat) : ∀ k,k ≤ n → putL (c * 256 ^ n + v) k = putL v k
 | 0,_ => rfl
 | k + 1,h => by
   unfold putL
   rw [z4c c v n k (by omega)]
   congr 1
   apply UInt8.toNat_inj.1
   rw [UInt8.toNat_ofNat',UInt8.toNat_ofNat']
   obtain ⟨m,rfl⟩ : ∃ m,n = k + 1 + m := ⟨n - (k + 1),by omega⟩
   have e : c * 256 ^ (k + 1 + m) + v = 256 ^ k * (c * 256 ^ m * 256) + v := by
     rw [Nat.pow_add,Nat.pow_succ]
     congr 1
     ac_rfl
   rw [e,Nat.mul_add_div (Nat.pow_pos (by omega))]
   omega
theorem zo7 : ∀ l : List UInt8,l.length ≤ 8 → putL (getF l) l.length = l
 | [],_ => rfl
 | b :: l,h => by
   simp only [List.length_cons] at h ⊢
   have hl := zlc l (by omega)
   have hb := b.toNat_lt
   rw [zge b l (by omega)]
   unfold putL
   rw [z4c _ _ _ _ (Nat.le_refl _),zo7 l (by omega)]
   congr 1
   apply UInt8.toNat_inj.1
   rw [UInt8.toNat_ofNat',Nat.mul_comm,Nat.mul_add_div (Nat.pow_pos (by omega)),Nat.div_eq_of_lt hl]
   omega
theorem zsz (a b : UInt8) (r : List UInt8) : zdf (a :: b :: r) = ((a == 0 && decide (b.toNat < 128)) || (a == 255 && decide (128 ≤ b.toNat))) := by
 simp [zdf]
theorem z4i (a b : UInt8) (r : List UInt8) (h : r.length ≤ 6) (hi : zdf (a :: b :: r) = true) : sgn (a :: b :: r) = sgn (b :: r) := by
 rw [zsz] at hi
 simp only [Bool.or_eq_true,Bool.and_eq_true,beq_iff_eq,decide_eq_true_eq] at hi
 have e := zge a (b :: r) (by simp; omega)
 unfold sgn
 simp only [List.getD_cons_zero,List.length_cons] at e ⊢
 rcases hi with ⟨rfl,hb⟩ | ⟨rfl,hb⟩
 · have : (0 : UInt8).toNat = 0 := rfl
   rw [this] at e ⊢
   rw [if_pos (by omega),if_pos hb,e]
   simp
 · have : (255 : UInt8).toNat = 255 := rfl
   rw [this] at e ⊢
   rw [if_neg (by omega),if_neg (by omega),e,Int.pow_succ (256 : Int) (r.length + 1)]
   have : ((255 * 256 ^ (r.length + 1) + getF (b :: r) : Nat) : Int) = 255 * (256 : Int) ^ (r.length + 1) + (getF (b :: r) : Int) := by
     rw [Int.natCast_add,Int.natCast_mul,Int.natCast_pow]; rfl
   rw [this]
   omega
theorem z74 (l : List UInt8) (h : l.length = 8) : (sgn l) % 18446744073709551616 = (getF l : Int) ∧ -9223372036854775808 ≤ sgn l ∧ sgn l < 9223372036854775808 := by
 match l,h with
 | b :: r,h =>
   have hr : r.length = 7 := by simpa using h
   have hR := zlc r (by omega)
   have hb := b.toNat_lt
   unfold sgn
   simp only [List.getD_cons_zero,List.length_cons,hr]
   rw [zge b r (by omega),hr]
   rw [hr] at hR
   simp only [Nat.reducePow,Int.reducePow,Nat.reduceAdd] at hR ⊢
   split <;> omega
theorem ext_one (l : List UInt8) (h1 : 1 ≤ l.length) (h : l.length ≤ 7) : ∃ l',l'.length = l.length + 1 ∧ sgn l' = sgn l ∧ trim l' = trim l := by
 match l,h1 with
 | b :: r,_ =>
   by_cases hb : b.toNat < 128
   · have hi : zdf (0 :: b :: r) = true := by rw [zsz]; simp [hb]
     exact ⟨0 :: b :: r,by simp,z4i 0 b r (by simp at h; omega) hi,zo3 hi⟩
   · have hi : zdf (255 :: b :: r) = true := by rw [zsz]; simp; omega
     exact ⟨255 :: b :: r,by simp,z4i 255 b r (by simp at h; omega) hi,zo3 hi⟩
theorem yas : ∀ (k : Nat) (l : List UInt8),1 ≤ l.length → l.length + k ≤ 8 → ∃ l',l'.length = l.length + k ∧ sgn l' = sgn l ∧ trim l' = trim l
 | 0,l,_,_ => ⟨l,rfl,rfl,rfl⟩
 | k + 1,l,h1,h => by
   obtain ⟨l1,a1,a2,a3⟩ := ext_one l h1 (by omega)
   obtain ⟨l2,b1,b2,b3⟩ := yas k l1 (by omega) (by omega)
   exact ⟨l2,by omega,b2.trans a2,b3.trans a3⟩
theorem z33 (l : List UInt8) (h : bad l = false) : intF (sgn l) = l ∧ -9223372036854775808 ≤ sgn l ∧ sgn l < 9223372036854775808 := by
 unfold bad at h
 simp only [Bool.or_eq_false_iff,decide_eq_false_iff_not] at h
 obtain ⟨h1,h8,hi⟩ := h
 obtain ⟨l',a1,a2,a3⟩ := yas (8 - l.length) l (by omega) (by omega)
 have hl : l'.length = 8 := by omega
 obtain ⟨s1,s2,s3⟩ := z74 l' hl
 rw [a2] at s1 s2 s3
 refine ⟨?_,s2,s3⟩
 have e : putL (sgn l % 18446744073709551616).toNat 8 = l' := by
   rw [s1,Int.toNat_natCast,← hl]
   exact zo7 l' (by omega)
 unfold intF
 rw [e,a3,zph hi]
end Go.Proofs.YtfaailjhioobhaaGreat
