/- An image's bytes: what they are. -/
import Derived.Test.YtfaailjhioobhaaGreatImJ
import Derived.Test.YtfaailjhioobhaaGreatInK
set_option maxHeartbeats 4000000
set_option linter.all false
set_option maxRecDepth 20000
namespace Go.Proofs.YtfaailjhioobhaaGreat
open Go.Nk
def encG (x : Img) : Nat → Option (List UInt8)
 | 0 => some []
 | k + 1 => match encG x k with
   | none => none
   | some b => match secO x ((k + 1 : Nat) : Int) with
     | none => none
     | some c => some (b ++ putL (k + 1) 1 ++ putL c.length 4 ++ c)
def zx : List UInt8 := [78,79,82,49]
def encF (x : Img) : Option (List UInt8) := match encG x 6 with
 | none => none
 | some b => if (zcr (zx ++ b)).length ≤ 131072 then some (zcr (zx ++ b)) else none
structure okEnc (x : Img) : Prop where
 im : okIm x
 sz : zow x.en + zea x.ins + zea x.outs + zhe x.slots + 4 * x.loc.length ≤ 10000000
theorem zy8 {x : Img} {k : Nat} (h : encG x k = none) : ∀ n,k ≤ n → encG x n = none := by
 intro n hn
 induction hn with
 | refl => exact h
 | step _ ih => simp only [encG,ih]
theorem zfd {x : Img} {k : Nat} (h : encG x k = none) (hk : k ≤ 6) : encF x = none := by
 unfold encF; rw [zy8 h 6 hk]
theorem zdi {x : Img} {k : Nat} {b : List UInt8} (h : encG x k = some b) : encG x (k + 1) = match secO x ((k + 1 : Nat) : Int) with
     | none => none
     | some c => some (b ++ putL (k + 1) 1 ++ putL c.length 4 ++ c) := by
 simp only [encG,h]
theorem zvv {x : Img} {b : List UInt8} (h : encG x 6 = some b) (hn : 131072 < ((zx.length : Int) + b.length + 4)) : encF x = none := by
 unfold encF
 rw [h]
 simp only
 rw [if_neg (by rw [ze5,List.length_append]; omega)]
theorem z1z {x : Img} {b : List UInt8} (h : encG x 6 = some b) (hn : ¬ 131072 < ((zx.length : Int) + b.length + 4)) : encF x = some (zcr (zx ++ b)) := by
 unfold encF
 rw [h]
 simp only
 rw [if_pos (by rw [ze5,List.length_append]; omega)]
theorem encG_ne {x : Img} {k : Nat} {b : List UInt8} (h : encG x (k + 1) = some b) : b ≠ [] := by
 intro e
 subst e
 simp only [encG] at h
 split at h
 · cases h
 split at h
 · cases h
 · injection h with h
   have := congrArg List.length h
   simp only [List.length_append,ze,List.length_nil] at this
   omega
theorem putI_len {l : List In4} {c : List UInt8} (h : putI l = some c) : c.length ≤ 1400000 := by
 have e : (putI l).getD [] = c := by rw [h]; rfl
 rw [← e]
 unfold putI
 split
 · rename_i c
   simp only [Bool.and_eq_true,decide_eq_true_eq] at c
   have := (zlm l).1
   simp only [Option.getD_some]
   omega
 · decide
theorem z36 {x : Img} (h : okEnc x) {i : Int} {c : List UInt8} (e : secO x i = some c) : c.length ≤ 10000000 := by
 have l1 := zz9 x.en
 have l2 := zlq x.ins
 have l3 := zlq x.outs
 have l4 := zv1 x.slots
 have l5 := zv0 x.loc
 have hs := h.sz
 have hst : ∀ {s : SW},st2o s = some c → c = s.b := fun {s} e => by
   unfold st2o at e
   split at e
   · exact (Option.some.inj e).symm
   · cases e
 unfold secO at e
 split at e
 · rw [hst e]; omega
 split at e
 · rw [hst e]; omega
 split at e
 · rw [hst e]; omega
 split at e
 · rw [hst e]; omega
 split at e
 · rw [hst e]; unfold zow zea zhe at hs; omega
 · have := putI_len e; omega
theorem zgk {b c : List UInt8} {k : Nat} (hk : k < 256) (hc : c.length ≤ 4294967295) : zjx c (zaf k 1 ⟨b,true⟩) = ⟨b ++ putL k 1 ++ putL c.length 4 ++ c,true⟩ := by
 have e1 : wNum b k 1 = some (b ++ putL k 1) := by
   unfold wNum; rw [if_neg (by simp; omega)]; rfl
 have e2 : wNum (b ++ putL k 1) c.length 4 = some (b ++ putL k 1 ++ putL c.length 4) := by
   unfold wNum; rw [if_neg (by simp; omega)]; rfl
 simp only [zjx,zaf,nxW,↓reduceIte,e1,wLen,e2]
end Go.Proofs.YtfaailjhioobhaaGreat
set_option linter.all false
set_option maxRecDepth 20000
namespace Go.Proofs.YtfaailjhioobhaaGreat
open Go.Nk
def encH (x : Img) (s : SW) : List DObj := [⟨.loc,6,[cImg x]⟩,⟨.loc,2,[rowW true 2 s]⟩,⟨.imm,1,bsl s.b⟩]
theorem ycb (x : Img) (s s' : SW) : hx true (encH x s) 1 2 s' = encH x s' := rfl
theorem zlt (x : Img) (s : SW) : (encH x s).length = 3 := rfl
theorem encH_num (x : Img) (s : SW) (k z : Int) (hb : s.b.length + 4 ≤ 4294967296) (hk : k < 9223372036854775808) : ze4 [.ptr 1 1 0 0,.int .i64 k,.int .i64 z] (encH x s) = ⟨True,.tup [],encH x (zaf k z s)⟩ := by
 have := zjq (hp := encH x s) (n := 1) (m := 2) (by rw [zlt]; decide) (by rw [zlt]; decide) (by decide) s [] k z hb hk
 simpa only [ycb,List.append_nil] using this
theorem z9b (x : Img) (s : SW) (c : List UInt8) (hb : s.b.length + c.length + 20 ≤ 4294967296) : zx0 [.ptr 1 1 0 0,.sl (bsl c)] (encH x s) = ⟨True,.tup [],encH x (zjx c s)⟩ := by
 have := hx_part (hp := encH x s) (n := 1) (m := 2) (by rw [zlt]; decide) (by rw [zlt]; decide) (by decide) s [] c hb
 simpa only [ycb,List.append_nil] using this
theorem z55 {x : Img} {b : List UInt8} (t : List DObj) (hn : b ≠ []) (hb : b.length ≤ 4294967296) : zeu [.ptr 1 1 0 0] (encH x ⟨b,true⟩ ++ t) = ⟨True,.own (3 + t.length) b.length 0 b.length,encH x ⟨b,true⟩ ++ (t ++ [⟨.imm,1,bsl b⟩])⟩ := by
 refine (znv (hp := encH x ⟨b,true⟩ ++ t) (n := 1) (m := 2) (b := b) ⟨rfl,rfl,by decide⟩).trans ?_
 rw [eq_true (show b ≠ [] ∧ b.length ≤ 4294967296 from ⟨hn,hb⟩)]
 simp [zlt]
noncomputable def z6w : List DV → Prop × DV := zdu eImg fun x => (okEnc x,putV (encF x))
theorem z32 (x : Img) : z6w [.agg (cImg x)] = (okEnc x,putV (encF x)) := zan z9g _ x
theorem zuz : OkP Tryz.prog 9 z6w := by
 refine OkP.mk1 (ps := [(19,s_sec),(22,ya5),(23,zke)]) (hs := [(18,zpq),(20,ze4),(21,zx0),(24,zeu)]) ⟨zrz,z2c,zdb,trivial⟩ ⟨zyn,zhu,ok_wPart,zs8,trivial⟩ zvh fun x h => ?_
 
 (refine Todo.of ?_); (repeat' (first | ((with_reducible refine Todo.to ?_); (repeat (simp only [↓rP,rT,rU,eA,zc,dval,DV.one,cellsOf,Nat.reduceAdd,↓reduceIte,forall_const,zmq,eImg,ztz ])))))
 refine za9 ?_
 (refine Todo.of ?_); (repeat' (first | ((with_reducible refine Todo.to ?_); (repeat (simp only [↓rP,rT,rU,zc,dval,Nat.reduceAdd,↓reduceIte ])))))
 refine zad [1,2,3,4,5,6] (fun k (b : List UInt8) => ⟨[(1,.ptr 0 1 0 0),(4,.ptr 1 1 0 0),(10,.int .i64 k)],encH x ⟨b,true⟩⟩) (fun k (_ : List Nat) b => b.length ≤ 10000010 * k ∧ encG x k = some b) [] trivial (by simp only [zn,List.map_cons,List.map_nil,zd,Nk.get_nil,Nat.reduceEqDiff,↓reduceIte] <;> rfl) ⟨by simp,rfl⟩ (fun k e r b d hge hd hr => ?_) fun k b hk hr => ?_
 · obtain ⟨hr1,hr2⟩ := hr
   simp only [List.length_cons,List.length_nil,Nat.zero_add,Nat.reduceAdd] at d
   have wk := zci d (by omega)
   have q0 := s_sec_at x ((k + 1 : Nat) : Int)
   rw [eq_true h.im] at q0
   simp only [cImg] at q0
   have hs := zdi hr2
   have d' : decide ((k : Int) < 6) = true := decide_eq_true (by omega)
   cases e1 : secO x ((k + 1 : Nat) : Int) with
   | none =>
     rw [e1] at hs q0
     simp only [putV,Option.getD_none,Option.isSome_none] at q0
     have he := zfd (k := k + 1) hs (by omega)
     (have hcondQ := Bool.and_self; refine Todo.of ?_); (repeat' (first | ((with_reducible refine Todo.to ?_); (repeat (simp only [↓rP,rT,rU,zc,dval,dBin,dInt,dUn,zg,zb,retV,retL,DR.val,fzT,fzVs,fzV,fz1,DV.immB,zp,zq,z1,zz,za4,zu,z6,fzL,Nat.reduceEqDiff,Nat.reduceAdd,↓reduceIte,reduceCtorEq,Nat.reduceLeDiff,Nat.reduceLT,d',wk,encH,q0,he,putV,Option.getD_none,Option.isSome_none ,hcondQ])))))
     rfl
   | some c =>
     rw [e1] at hs q0
     simp only [putV,Option.getD_some,Option.isSome_some] at hs q0
     have hl := z36 h e1
     have q1 := encH_num x ⟨b,true⟩ ((k + 1 : Nat) : Int) 1 (by simp only; omega) (by omega)
     have l1 := z5 ((k + 1 : Nat) : Int) 1 ⟨b,true⟩
     simp only at l1
     have q2 := z9b x (zaf ((k + 1 : Nat) : Int) 1 ⟨b,true⟩) c (by omega)
     have e2 := zgk (b := b) (c := c) (k := k + 1) (by omega) (by omega)
     rw [e2] at q2
     have h0 : ∀ s,(encH x s)[0]? = some ⟨.loc,6,[cImg x]⟩ := fun _ => rfl
     (have hcondQ := Bool.and_self; refine Todo.of ?_); (repeat' (first | ((with_reducible refine Todo.to ?_); (repeat (simp only [↓rP,rT,rU,zc,dval,dBin,dInt,dUn,zg,zb,fzVs,fzV,fz1,DV.immB,zp,zq,z1,zz,za4,zu,z6,fzL,Nat.reduceEqDiff,Nat.reduceAdd,↓reduceIte,reduceCtorEq,Nat.reduceLeDiff,Nat.reduceLT,d',wk,h0,q0,q1,q2,putV,hcondQ])))))
     exact ⟨_,by simp only [zn,List.map_cons,List.map_nil,zd,Nk.get_nil,Nat.reduceEqDiff,↓reduceIte,Int.natCast_add,Int.natCast_one] <;> rfl,by simp [ze]; omega,hs⟩
 · obtain ⟨hr1,hr2⟩ := hr
   simp only [List.length_cons,List.length_nil,Nat.zero_add,Nat.reduceAdd] at hk
   subst hk
   have hb := fun t => z55 (x := x) (b := b) t (encG_ne hr2) (by omega)
   have h3 : ∀ s o t,(encH x s ++ (o :: t))[3]? = some o := fun _ _ _ => rfl
   have h4 : ∀ s o o' t,(encH x s ++ (o :: o' :: t))[4]? = some o' := fun _ _ _ _ => rfl
   have h3s : ∀ s o o' t,(encH x s ++ (o :: t)).set 3 o' = encH x s ++ (o' :: t) := fun _ _ _ _ => rfl
   have hf : [zx,b].flatten = zx ++ b := by simp
   have hl := ze5 (zx ++ b)
   have hs := yca (zx ++ b)
   rw [eq_true (show (zx ++ b).length ≤ 100000000 by simp [zx]; omega)] at hs
   have hc := zrj [zx,b]
   rw [eq_true (show [zx,b].length ≤ 1000000 ∧ [zx,b].flatten.length ≤ 1000000000 by simp [zx]; omega)] at hc
   rw [hf] at hc
   have hc' : zke [.sl [[.sl [[DV.int .u8 78],[DV.int .u8 79],[DV.int .u8 82],[DV.int .u8 49]]],[.sl (bsl b)]]] = (True,.sl (bsl (zx ++ b))) := hc
   (have hcondQ := Bool.and_self; refine Todo.of ?_); (repeat' (first | ((with_reducible refine Todo.to ?_); (repeat (simp only [↓rP,rT,rU,zc,dval,dBin,dInt,retV,retL,DR.val,fzT,fzVs,fzV,fz1,DV.immB,zp,zq,z1,zz,zu,z6,zi,freezeAt,fzLL,fzL,bRow,bU,cellsOf,DV.isU,Nat.reduceEqDiff,Nat.reduceAdd,↓reduceIte,reduceCtorEq,Nat.reduceLT,forall_const,ziu,zlt,hb,h3,h3s,h4,hc',hs,hl ,hcondQ]))) | ((with_reducible refine And.intro ?_ ?_); · omega) | (((((with_reducible refine zw (t := ?_) ?_ (fun hcQ => ?_) (fun hcQ => ?_)); rotate_left; · (rfl))) <;> (have hn := hcQ; have hcondQ := hcQ) <;> (try simp only [decide_eq_true_eq,decide_eq_false_iff_not] at hn) <;> (refine Todo.of ?_))) | fail))
   · rw [zvv hr2 (by omega)]; rfl
   · rw [z1z hr2 (by omega)]; rfl
end Go.Proofs.YtfaailjhioobhaaGreat
set_option linter.all false
set_option maxRecDepth 20000
namespace Go.Proofs.YtfaailjhioobhaaGreat
open Go.Nk
theorem nw_len (hp : List DObj) (s : SW) : (nw hp s).length = hp.length + 2 := by simp [nw]
def kdf (n j : Nat) : Kd := if j < n then .frz else .imm
def rHp (n : Nat) (i : DObj) (s1 s2 s3 s4 s5 : SW) (c : List UInt8) (s : SW) : List DObj := [i,
 ⟨.loc,2,[rowW false 2 s1]⟩,⟨kdf n 0,1,bsl s1.b⟩,⟨.loc,2,[rowW false 4 s2]⟩,⟨kdf n 1,1,bsl s2.b⟩,⟨.loc,2,[rowW false 6 s3]⟩,⟨kdf n 2,1,bsl s3.b⟩,
 ⟨.loc,2,[rowW false 8 s4]⟩,⟨kdf n 3,1,bsl s4.b⟩,⟨.loc,2,[rowW false 10 s5]⟩,⟨kdf n 4,1,bsl s5.b⟩,
 ⟨.loc,1,[[.ptr 1 1 0 0],[.ptr 3 1 0 0],[.ptr 5 1 0 0],[.ptr 7 1 0 0],[.ptr 9 1 0 0],[.ref [.sl (bsl c),.bool false]]]⟩,⟨.imm,1,bsl s.b⟩,⟨.loc,2,[rowW false 12 s]⟩]
section
variable (n : Nat) (i : DObj) (s1 s2 s3 s4 s5 : SW) (c : List UInt8) (s : SW)
theorem zx1 : (rHp n i s1 s2 s3 s4 s5 c s).length = 14 := rfl
theorem zra (k z : Int) (hb : s.b.length + 4 ≤ 4294967296) (hk : k < 9223372036854775808) : zd5 [.ptr 13 1 0 0,.int .i64 k,.int .i64 z] (rHp n i s1 s2 s3 s4 s5 c s) = ⟨True,.tup [],rHp n i s1 s2 s3 s4 s5 c (zaf k z s)⟩ := by
 have := ztj (hp := rHp n i s1 s2 s3 s4 s5 c s) (n := 13) (m := 12) (by rw [zx1]; decide) (by rw [zx1]; decide) (by decide) s [] k z hb hk
 rw [List.append_nil,List.append_nil] at this
 exact this
theorem zlx (d : List UInt8) (hb : s.b.length + d.length + 20 ≤ 4294967296) : zw7 [.ptr 13 1 0 0,.sl (bsl d)] (rHp n i s1 s2 s3 s4 s5 c s) = ⟨True,.tup [],rHp n i s1 s2 s3 s4 s5 c (zjx d s)⟩ := by
 have := hu_part (hp := rHp n i s1 s2 s3 s4 s5 c s) (n := 13) (m := 12) (by rw [zx1]; decide) (by rw [zx1]; decide) (by decide) s [] d hb
 rw [List.append_nil,List.append_nil] at this
 exact this
end
theorem zl9 : OkP Tryz.prog 10 z6w := by
 refine OkP.mk1 (ps := [(25,z0v),(32,z13)]) (hs := [(26,z90),(27,z2f),(28,z20),(29,z2q),(30,zd5),(31,zw7)]) ⟨zqn,zn5,trivial⟩ ⟨znb,znu,zne,zmb,zhs,ok_uPart,trivial⟩ zm7 fun x h => ?_
 
 have hz : ∀ l : List In4,l.map cIn4 = l.map cIn := fun _ => rfl
 have p0 := zzf x.code
 rw [eq_true h.im.code] at p0
 have u1 := fun hp => z8w hp x.en
 rw [eq_true h.im.en] at u1
 have u2 := fun hp => zwf hp x.ins
 rw [eq_true h.im.ins] at u2
 have u3 := fun hp => zwf hp x.outs
 rw [eq_true h.im.outs] at u3
 have u4 := fun hp => z7q hp x.slots
 rw [eq_true h.im.slots] at u4
 have u5 := fun hp => z60 hp x.loc
 rw [eq_true (show 4 * x.loc.length ≤ 4294967000 ∧ ∀ e ∈ x.loc,zbd e from ⟨h.im.loc.1,h.im.loc.2.2⟩)] at u5
 have s6 : secO x ((5 + 1 : Nat) : Int) = putI x.code := rfl
 cases ec : putI x.code with
 | none =>
   rw [ec] at p0 s6
   simp only [putV,Option.getD_none,Option.isSome_none] at p0
   (have hcondQ := Bool.and_self; refine Todo.of ?_); (repeat' (first | ((with_reducible refine Todo.to ?_); (repeat (simp only [↓rP,rT,rU,eA,zc,dval,dUn,zg,zb,retV,retL,DR.val,fzT,fzVs,fzV,fz1,DV.immB,zp,zq,z1,zz,zu,z6,DV.one,alive,cellsOf,Nat.reduceEqDiff,Nat.reduceAdd,↓reduceIte,reduceCtorEq,Nat.reduceLT,forall_const,zdn,eImg,hz,p0 ,hcondQ])))))
   have : encF x = none := by
     cases e5 : encG x 5 with
     | none => exact zfd e5 (by decide)
     | some b => exact zfd (k := 6) (by rw [zdi e5,s6]) (by decide)
   rw [this]; rfl
 | some c =>
   rw [ec] at p0 s6
   simp only [putV,Option.getD_some,Option.isSome_some] at p0
   (have hcondQ := Bool.and_self; refine Todo.of ?_); (repeat' (first | ((with_reducible refine Todo.to ?_); (repeat (simp only [↓rP,rT,rU,eA,zj,zc,dval,dUn,zg,zb,fzVs,fzV,fz1,DV.immB,zp,zq,z1,zz,zu,z6,DV.one,alive,fzLL,fzL,bRow,bU,cellsOf,zf,DV.isU,Nat.reduceEqDiff,Nat.reduceAdd,↓reduceIte,reduceCtorEq,Nat.reduceLeDiff,Nat.reduceLT,forall_const,zdn,eImg,hz,p0,u1,u2,u3,u4,u5,nw_len ,hcondQ])))))
   refine ⟨⟨_,rfl⟩,⟨_,rfl⟩,⟨_,rfl⟩,⟨_,rfl⟩,⟨_,rfl⟩,?_⟩
   have t1 : secO x ((0 + 1 : Nat) : Int) = st2o (zkz x.en ⟨[],true⟩) := rfl
   have t2 : secO x ((1 + 1 : Nat) : Int) = st2o (zc4 x.ins ⟨[],true⟩) := rfl
   have t3 : secO x ((2 + 1 : Nat) : Int) = st2o (zc4 x.outs ⟨[],true⟩) := rfl
   have t4 : secO x ((3 + 1 : Nat) : Int) = st2o (zed x.slots ⟨[],true⟩) := rfl
   have t5 : secO x ((4 + 1 : Nat) : Int) = st2o (zff x.loc ⟨[],true⟩) := rfl
   clear u1 u2 u3 u4 u5 p0
   generalize zkz x.en ⟨[],true⟩ = S1 at *
   generalize zc4 x.ins ⟨[],true⟩ = S2 at *
   generalize zc4 x.outs ⟨[],true⟩ = S3 at *
   generalize zed x.slots ⟨[],true⟩ = S4 at *
   generalize zff x.loc ⟨[],true⟩ = S5 at *
   have hm : bsl zx = [[DV.int .u8 78],[DV.int .u8 79],[DV.int .u8 82],[DV.int .u8 49]] := rfl
   have hl := fun {i} {c} => z36 h (i := i) (c := c)
   refine zad [1,2,3,4,5,6] (fun k (b : List UInt8) => ⟨[(6,.own 11 6 0 6),(7,.ptr 13 1 0 0),(8,.int .i64 k)],rHp k ⟨.loc,6,[cImg x]⟩ S1 S2 S3 S4 S5 c ⟨zx ++ b,true⟩⟩) (fun k (_ : List Nat) b => b.length ≤ 10000010 * k ∧ encG x k = some b) [] trivial (by simp only [zn,List.map_cons,List.map_nil,zd,Nk.get_nil,Nat.reduceEqDiff,↓reduceIte] <;> rfl) ⟨by simp,rfl⟩ (fun k e r b d hge hd hr => ?_) fun k b hk hr => ?_
   · obtain ⟨hr1,hr2⟩ := hr
     have hs := zdi hr2
     have lm : zx.length = 4 := rfl
     simp only [List.length_cons,List.length_nil,Nat.zero_add,Nat.reduceAdd] at d
     have hg := fun n s => show (rHp n ⟨.loc,6,[cImg x]⟩ S1 S2 S3 S4 S5 c s)[11]? = some ⟨.loc,1,[[.ptr 1 1 0 0],[.ptr 3 1 0 0],[.ptr 5 1 0 0],[.ptr 7 1 0 0],[.ptr 9 1 0 0],[.ref [.sl (bsl c),.bool false]]]⟩ from rfl
     have hk6 : k = 0 ∨ k = 1 ∨ k = 2 ∨ k = 3 ∨ k = 4 ∨ k = 5 := by omega
     rcases hk6 with rfl | rfl | rfl | rfl | rfl | rfl
     · have hgr := fun n s => show (rHp n ⟨.loc,6,[cImg x]⟩ S1 S2 S3 S4 S5 c s)[1]? = some ⟨.loc,2,[rowW false 2 S1]⟩ from rfl
       have hgb := fun s => show (rHp 0 ⟨.loc,6,[cImg x]⟩ S1 S2 S3 S4 S5 c s)[2]? = some ⟨.imm,1,bsl S1.b⟩ from rfl
       have hgs := fun s => show (rHp 0 ⟨.loc,6,[cImg x]⟩ S1 S2 S3 S4 S5 c s).set 2 ⟨.frz,1,bsl S1.b⟩ = rHp 1 ⟨.loc,6,[cImg x]⟩ S1 S2 S3 S4 S5 c s from rfl
       rw [t1] at hs
       have hll := hl (i := ((0 + 1 : Nat) : Int)) (c := S1.b)
       rw [t1] at hll
       obtain ⟨B,ok⟩ := S1
       cases ok with
       | false =>
         have he := zfd (k := 1) hs (by decide)
         simp only [rowW,Bool.not_false,Bool.false_eq_true,if_false] at hgr
         (refine Todo.of ?_); (repeat' (first | ((with_reducible refine Todo.to ?_); (repeat (simp only [↓rP,rT,rU,zc,dval,dBin,dInt,zg,zb,retV,retL,DR.val,fzT,fzVs,fzV,fz1,DV.immB,alive,Nat.reduceEqDiff,Nat.reduceAdd,↓reduceIte,reduceCtorEq,Int.reduceToNat,Int.reduceLE,Int.reduceLT,Nat.reduceLT,hg,hgr,he,putV,Option.getD_none,Option.isSome_none ])))))
         rfl
       | true =>
         have hl2 := hll rfl
         simp only at hl2
         simp only [rowW,if_true] at hgr hgb hgs
         simp only [st2o,if_true] at hs
         have q1 := zra 0 ⟨.loc,6,[cImg x]⟩ ⟨B,true⟩ S2 S3 S4 S5 c ⟨zx ++ b,true⟩ 1 1 (by simp only [List.length_append]; omega) (by omega)
         have l1 := z5 1 1 ⟨zx ++ b,true⟩
         simp only [List.length_append] at l1
         have q2 := zlx 1 ⟨.loc,6,[cImg x]⟩ ⟨B,true⟩ S2 S3 S4 S5 c (zaf 1 1 ⟨zx ++ b,true⟩) B (by omega)
         have e2 := zgk (b := zx ++ b) (c := B) (k := 1) (by omega) (by omega)
         have e2' : zjx B (zaf 1 1 ⟨zx ++ b,true⟩) = ⟨zx ++ (b ++ putL (0 + 1) 1 ++ putL B.length 4 ++ B),true⟩ := by rw [show b ++ putL (0 + 1) 1 ++ putL B.length 4 ++ B = b ++ (putL (0 + 1) 1 ++ putL B.length 4 ++ B) by simp]; simpa using e2
         rw [e2'] at q2
         (refine Todo.of ?_); (repeat' (first | ((with_reducible refine Todo.to ?_); (repeat (simp only [↓rP,rT,rU,zc,dval,dBin,dInt,zg,zb,fzV,fz1,zi,alive,freezeAt,Nat.reduceEqDiff,Nat.reduceAdd,↓reduceIte,reduceCtorEq,Int.reduceToNat,Int.reduceLE,Int.reduceLT,Nat.reduceLT,Int.reduceAdd,ziu,hg,hgr,hgb,hgs,q1,q2,show IntKind.i64.wrap 1 = 1 by decide ]))) | ((with_reducible refine And.intro ?_ ?_); · omega) | fail))
         exact ⟨b ++ putL (0 + 1) 1 ++ putL B.length 4 ++ B,by simp only [zn,List.map_cons,List.map_nil,zd,Nk.get_nil,Nat.reduceEqDiff,↓reduceIte,Nat.succ_ne_self,Nat.zero_add] <;> rfl,by simp [ze]; omega,hs⟩
     · have hgr := fun n s => show (rHp n ⟨.loc,6,[cImg x]⟩ S1 S2 S3 S4 S5 c s)[3]? = some ⟨.loc,2,[rowW false 4 S2]⟩ from rfl
       have hgb := fun s => show (rHp 1 ⟨.loc,6,[cImg x]⟩ S1 S2 S3 S4 S5 c s)[4]? = some ⟨.imm,1,bsl S2.b⟩ from rfl
       have hgs := fun s => show (rHp 1 ⟨.loc,6,[cImg x]⟩ S1 S2 S3 S4 S5 c s).set 4 ⟨.frz,1,bsl S2.b⟩ = rHp 2 ⟨.loc,6,[cImg x]⟩ S1 S2 S3 S4 S5 c s from rfl
       rw [t2] at hs
       have hll := hl (i := ((1 + 1 : Nat) : Int)) (c := S2.b)
       rw [t2] at hll
       obtain ⟨B,ok⟩ := S2
       cases ok with
       | false =>
         have he := zfd (k := 2) hs (by decide)
         simp only [rowW,Bool.not_false,Bool.false_eq_true,if_false] at hgr
         (refine Todo.of ?_); (repeat' (first | ((with_reducible refine Todo.to ?_); (repeat (simp only [↓rP,rT,rU,zc,dval,dBin,dInt,zg,zb,retV,retL,DR.val,fzT,fzVs,fzV,fz1,DV.immB,alive,Nat.reduceEqDiff,Nat.reduceAdd,↓reduceIte,reduceCtorEq,Int.reduceToNat,Int.reduceLE,Int.reduceLT,Nat.reduceLT,Nat.reduceMul,hg,hgr,he,putV,Option.getD_none,Option.isSome_none ])))))
         rfl
       | true =>
         have hl2 := hll rfl
         simp only at hl2
         simp only [rowW,if_true] at hgr hgb hgs
         simp only [st2o,if_true] at hs
         have q1 := zra 1 ⟨.loc,6,[cImg x]⟩ S1 ⟨B,true⟩ S3 S4 S5 c ⟨zx ++ b,true⟩ 2 1 (by simp only [List.length_append]; omega) (by omega)
         have l1 := z5 2 1 ⟨zx ++ b,true⟩
         simp only [List.length_append] at l1
         have q2 := zlx 2 ⟨.loc,6,[cImg x]⟩ S1 ⟨B,true⟩ S3 S4 S5 c (zaf 2 1 ⟨zx ++ b,true⟩) B (by omega)
         have e2 := zgk (b := zx ++ b) (c := B) (k := 2) (by omega) (by omega)
         have e2' : zjx B (zaf 2 1 ⟨zx ++ b,true⟩) = ⟨zx ++ (b ++ putL (1 + 1) 1 ++ putL B.length 4 ++ B),true⟩ := by rw [show b ++ putL (1 + 1) 1 ++ putL B.length 4 ++ B = b ++ (putL (1 + 1) 1 ++ putL B.length 4 ++ B) by simp]; simpa using e2
         rw [e2'] at q2
         (refine Todo.of ?_); (repeat' (first | ((with_reducible refine Todo.to ?_); (repeat (simp only [↓rP,rT,rU,zc,dval,dBin,dInt,zg,zb,fzV,fz1,zi,alive,freezeAt,Nat.reduceEqDiff,Nat.reduceAdd,↓reduceIte,reduceCtorEq,Int.reduceToNat,Int.reduceLE,Int.reduceLT,Nat.reduceLT,Int.reduceAdd,Nat.reduceMul,ziu,hg,hgr,hgb,hgs,q1,q2,show IntKind.i64.wrap 2 = 2 by decide ]))) | ((with_reducible refine And.intro ?_ ?_); · omega) | fail))
         exact ⟨b ++ putL (1 + 1) 1 ++ putL B.length 4 ++ B,by simp only [zn,List.map_cons,List.map_nil,zd,Nk.get_nil,Nat.reduceEqDiff,↓reduceIte,Nat.succ_ne_self] <;> rfl,by simp [ze]; omega,hs⟩
     · have hgr := fun n s => show (rHp n ⟨.loc,6,[cImg x]⟩ S1 S2 S3 S4 S5 c s)[5]? = some ⟨.loc,2,[rowW false 6 S3]⟩ from rfl
       have hgb := fun s => show (rHp 2 ⟨.loc,6,[cImg x]⟩ S1 S2 S3 S4 S5 c s)[6]? = some ⟨.imm,1,bsl S3.b⟩ from rfl
       have hgs := fun s => show (rHp 2 ⟨.loc,6,[cImg x]⟩ S1 S2 S3 S4 S5 c s).set 6 ⟨.frz,1,bsl S3.b⟩ = rHp 3 ⟨.loc,6,[cImg x]⟩ S1 S2 S3 S4 S5 c s from rfl
       rw [t3] at hs
       have hll := hl (i := ((2 + 1 : Nat) : Int)) (c := S3.b)
       rw [t3] at hll
       obtain ⟨B,ok⟩ := S3
       cases ok with
       | false =>
         have he := zfd (k := 3) hs (by decide)
         simp only [rowW,Bool.not_false,Bool.false_eq_true,if_false] at hgr
         (refine Todo.of ?_); (repeat' (first | ((with_reducible refine Todo.to ?_); (repeat (simp only [↓rP,rT,rU,zc,dval,dBin,dInt,zg,zb,retV,retL,DR.val,fzT,fzVs,fzV,fz1,DV.immB,alive,Nat.reduceEqDiff,Nat.reduceAdd,↓reduceIte,reduceCtorEq,Int.reduceToNat,Int.reduceLE,Int.reduceLT,Nat.reduceLT,Nat.reduceMul,hg,hgr,he,putV,Option.getD_none,Option.isSome_none ])))))
         rfl
       | true =>
         have hl2 := hll rfl
         simp only at hl2
         simp only [rowW,if_true] at hgr hgb hgs
         simp only [st2o,if_true] at hs
         have q1 := zra 2 ⟨.loc,6,[cImg x]⟩ S1 S2 ⟨B,true⟩ S4 S5 c ⟨zx ++ b,true⟩ 3 1 (by simp only [List.length_append]; omega) (by omega)
         have l1 := z5 3 1 ⟨zx ++ b,true⟩
         simp only [List.length_append] at l1
         have q2 := zlx 3 ⟨.loc,6,[cImg x]⟩ S1 S2 ⟨B,true⟩ S4 S5 c (zaf 3 1 ⟨zx ++ b,true⟩) B (by omega)
         have e2 := zgk (b := zx ++ b) (c := B) (k := 3) (by omega) (by omega)
         have e2' : zjx B (zaf 3 1 ⟨zx ++ b,true⟩) = ⟨zx ++ (b ++ putL (2 + 1) 1 ++ putL B.length 4 ++ B),true⟩ := by rw [show b ++ putL (2 + 1) 1 ++ putL B.length 4 ++ B = b ++ (putL (2 + 1) 1 ++ putL B.length 4 ++ B) by simp]; simpa using e2
         rw [e2'] at q2
         (refine Todo.of ?_); (repeat' (first | ((with_reducible refine Todo.to ?_); (repeat (simp only [↓rP,rT,rU,zc,dval,dBin,dInt,zg,zb,fzV,fz1,zi,alive,freezeAt,Nat.reduceEqDiff,Nat.reduceAdd,↓reduceIte,reduceCtorEq,Int.reduceToNat,Int.reduceLE,Int.reduceLT,Nat.reduceLT,Int.reduceAdd,Nat.reduceMul,ziu,hg,hgr,hgb,hgs,q1,q2,show IntKind.i64.wrap 3 = 3 by decide ]))) | ((with_reducible refine And.intro ?_ ?_); · omega) | fail))
         exact ⟨b ++ putL (2 + 1) 1 ++ putL B.length 4 ++ B,by simp only [zn,List.map_cons,List.map_nil,zd,Nk.get_nil,Nat.reduceEqDiff,↓reduceIte,Nat.succ_ne_self] <;> rfl,by simp [ze]; omega,hs⟩
     · have hgr := fun n s => show (rHp n ⟨.loc,6,[cImg x]⟩ S1 S2 S3 S4 S5 c s)[7]? = some ⟨.loc,2,[rowW false 8 S4]⟩ from rfl
       have hgb := fun s => show (rHp 3 ⟨.loc,6,[cImg x]⟩ S1 S2 S3 S4 S5 c s)[8]? = some ⟨.imm,1,bsl S4.b⟩ from rfl
       have hgs := fun s => show (rHp 3 ⟨.loc,6,[cImg x]⟩ S1 S2 S3 S4 S5 c s).set 8 ⟨.frz,1,bsl S4.b⟩ = rHp 4 ⟨.loc,6,[cImg x]⟩ S1 S2 S3 S4 S5 c s from rfl
       rw [t4] at hs
       have hll := hl (i := ((3 + 1 : Nat) : Int)) (c := S4.b)
       rw [t4] at hll
       obtain ⟨B,ok⟩ := S4
       cases ok with
       | false =>
         have he := zfd (k := 4) hs (by decide)
         simp only [rowW,Bool.not_false,Bool.false_eq_true,if_false] at hgr
         (refine Todo.of ?_); (repeat' (first | ((with_reducible refine Todo.to ?_); (repeat (simp only [↓rP,rT,rU,zc,dval,dBin,dInt,zg,zb,retV,retL,DR.val,fzT,fzVs,fzV,fz1,DV.immB,alive,Nat.reduceEqDiff,Nat.reduceAdd,↓reduceIte,reduceCtorEq,Int.reduceToNat,Int.reduceLE,Int.reduceLT,Nat.reduceLT,Nat.reduceMul,hg,hgr,he,putV,Option.getD_none,Option.isSome_none ])))))
         rfl
       | true =>
         have hl2 := hll rfl
         simp only at hl2
         simp only [rowW,if_true] at hgr hgb hgs
         simp only [st2o,if_true] at hs
         have q1 := zra 3 ⟨.loc,6,[cImg x]⟩ S1 S2 S3 ⟨B,true⟩ S5 c ⟨zx ++ b,true⟩ 4 1 (by simp only [List.length_append]; omega) (by omega)
         have l1 := z5 4 1 ⟨zx ++ b,true⟩
         simp only [List.length_append] at l1
         have q2 := zlx 4 ⟨.loc,6,[cImg x]⟩ S1 S2 S3 ⟨B,true⟩ S5 c (zaf 4 1 ⟨zx ++ b,true⟩) B (by omega)
         have e2 := zgk (b := zx ++ b) (c := B) (k := 4) (by omega) (by omega)
         have e2' : zjx B (zaf 4 1 ⟨zx ++ b,true⟩) = ⟨zx ++ (b ++ putL (3 + 1) 1 ++ putL B.length 4 ++ B),true⟩ := by rw [show b ++ putL (3 + 1) 1 ++ putL B.length 4 ++ B = b ++ (putL (3 + 1) 1 ++ putL B.length 4 ++ B) by simp]; simpa using e2
         rw [e2'] at q2
         (refine Todo.of ?_); (repeat' (first | ((with_reducible refine Todo.to ?_); (repeat (simp only [↓rP,rT,rU,zc,dval,dBin,dInt,zg,zb,fzV,fz1,zi,alive,freezeAt,Nat.reduceEqDiff,Nat.reduceAdd,↓reduceIte,reduceCtorEq,Int.reduceToNat,Int.reduceLE,Int.reduceLT,Nat.reduceLT,Int.reduceAdd,Nat.reduceMul,ziu,hg,hgr,hgb,hgs,q1,q2,show IntKind.i64.wrap 4 = 4 by decide ]))) | ((with_reducible refine And.intro ?_ ?_); · omega) | fail))
         exact ⟨b ++ putL (3 + 1) 1 ++ putL B.length 4 ++ B,by simp only [zn,List.map_cons,List.map_nil,zd,Nk.get_nil,Nat.reduceEqDiff,↓reduceIte,Nat.succ_ne_self] <;> rfl,by simp [ze]; omega,hs⟩
     · have hgr := fun n s => show (rHp n ⟨.loc,6,[cImg x]⟩ S1 S2 S3 S4 S5 c s)[9]? = some ⟨.loc,2,[rowW false 10 S5]⟩ from rfl
       have hgb := fun s => show (rHp 4 ⟨.loc,6,[cImg x]⟩ S1 S2 S3 S4 S5 c s)[10]? = some ⟨.imm,1,bsl S5.b⟩ from rfl
       have hgs := fun s => show (rHp 4 ⟨.loc,6,[cImg x]⟩ S1 S2 S3 S4 S5 c s).set 10 ⟨.frz,1,bsl S5.b⟩ = rHp 5 ⟨.loc,6,[cImg x]⟩ S1 S2 S3 S4 S5 c s from rfl
       rw [t5] at hs
       have hll := hl (i := ((4 + 1 : Nat) : Int)) (c := S5.b)
       rw [t5] at hll
       obtain ⟨B,ok⟩ := S5
       cases ok with
       | false =>
         have he := zfd (k := 5) hs (by decide)
         simp only [rowW,Bool.not_false,Bool.false_eq_true,if_false] at hgr
         (refine Todo.of ?_); (repeat' (first | ((with_reducible refine Todo.to ?_); (repeat (simp only [↓rP,rT,rU,zc,dval,dBin,dInt,zg,zb,retV,retL,DR.val,fzT,fzVs,fzV,fz1,DV.immB,alive,Nat.reduceEqDiff,Nat.reduceAdd,↓reduceIte,reduceCtorEq,Int.reduceToNat,Int.reduceLE,Int.reduceLT,Nat.reduceLT,Nat.reduceMul,hg,hgr,he,putV,Option.getD_none,Option.isSome_none ])))))
         rfl
       | true =>
         have hl2 := hll rfl
         simp only at hl2
         simp only [rowW,if_true] at hgr hgb hgs
         simp only [st2o,if_true] at hs
         have q1 := zra 4 ⟨.loc,6,[cImg x]⟩ S1 S2 S3 S4 ⟨B,true⟩ c ⟨zx ++ b,true⟩ 5 1 (by simp only [List.length_append]; omega) (by omega)
         have l1 := z5 5 1 ⟨zx ++ b,true⟩
         simp only [List.length_append] at l1
         have q2 := zlx 5 ⟨.loc,6,[cImg x]⟩ S1 S2 S3 S4 ⟨B,true⟩ c (zaf 5 1 ⟨zx ++ b,true⟩) B (by omega)
         have e2 := zgk (b := zx ++ b) (c := B) (k := 5) (by omega) (by omega)
         have e2' : zjx B (zaf 5 1 ⟨zx ++ b,true⟩) = ⟨zx ++ (b ++ putL (4 + 1) 1 ++ putL B.length 4 ++ B),true⟩ := by rw [show b ++ putL (4 + 1) 1 ++ putL B.length 4 ++ B = b ++ (putL (4 + 1) 1 ++ putL B.length 4 ++ B) by simp]; simpa using e2
         rw [e2'] at q2
         (refine Todo.of ?_); (repeat' (first | ((with_reducible refine Todo.to ?_); (repeat (simp only [↓rP,rT,rU,zc,dval,dBin,dInt,zg,zb,fzV,fz1,zi,alive,freezeAt,Nat.reduceEqDiff,Nat.reduceAdd,↓reduceIte,reduceCtorEq,Int.reduceToNat,Int.reduceLE,Int.reduceLT,Nat.reduceLT,Int.reduceAdd,Nat.reduceMul,ziu,hg,hgr,hgb,hgs,q1,q2,show IntKind.i64.wrap 5 = 5 by decide ]))) | ((with_reducible refine And.intro ?_ ?_); · omega) | fail))
         exact ⟨b ++ putL (4 + 1) 1 ++ putL B.length 4 ++ B,by simp only [zn,List.map_cons,List.map_nil,zd,Nk.get_nil,Nat.reduceEqDiff,↓reduceIte,Nat.succ_ne_self] <;> rfl,by simp [ze]; omega,hs⟩
     · rw [s6] at hs
       have hl2 := hl (i := ((5 + 1 : Nat) : Int)) (c := c) s6
       simp only at hs
       have q1 := zra 5 ⟨.loc,6,[cImg x]⟩ S1 S2 S3 S4 S5 c ⟨zx ++ b,true⟩ 6 1 (by simp only [List.length_append]; omega) (by omega)
       have l1 := z5 6 1 ⟨zx ++ b,true⟩
       simp only [List.length_append] at l1
       have q2 := zlx 5 ⟨.loc,6,[cImg x]⟩ S1 S2 S3 S4 S5 c (zaf 6 1 ⟨zx ++ b,true⟩) c (by omega)
       have e2 := zgk (b := zx ++ b) (c := c) (k := 6) (by omega) (by omega)
       have e2' : zjx c (zaf 6 1 ⟨zx ++ b,true⟩) = ⟨zx ++ (b ++ putL (5 + 1) 1 ++ putL c.length 4 ++ c),true⟩ := by rw [show b ++ putL (5 + 1) 1 ++ putL c.length 4 ++ c = b ++ (putL (5 + 1) 1 ++ putL c.length 4 ++ c) by simp]; simpa using e2
       rw [e2',show rHp 5 ⟨.loc,6,[cImg x]⟩ S1 S2 S3 S4 S5 c ⟨zx ++ (b ++ putL (5 + 1) 1 ++ putL c.length 4 ++ c),true⟩ = rHp 6 ⟨.loc,6,[cImg x]⟩ S1 S2 S3 S4 S5 c ⟨zx ++ (b ++ putL (5 + 1) 1 ++ putL c.length 4 ++ c),true⟩ from rfl] at q2
       (refine Todo.of ?_); (repeat' (first | ((with_reducible refine Todo.to ?_); (repeat (simp only [↓rP,rT,rU,zc,dval,dBin,dInt,zg,zb,fzV,fz1,DV.immB,alive,Nat.reduceEqDiff,Nat.reduceAdd,↓reduceIte,reduceCtorEq,Int.reduceToNat,Int.reduceLE,Int.reduceLT,Nat.reduceLT,Int.reduceAdd,Nat.reduceMul,hg,q1,q2,show IntKind.i64.wrap 6 = 6 by decide ])))))
       exact ⟨b ++ putL (5 + 1) 1 ++ putL c.length 4 ++ c,by simp only [zn,List.map_cons,List.map_nil,zd,Nk.get_nil,Nat.reduceEqDiff,↓reduceIte,Nat.succ_ne_self] <;> rfl,by simp [ze]; omega,hs⟩
   · obtain ⟨hr1,hr2⟩ := hr
     simp only [List.length_cons,List.length_nil,Nat.zero_add,Nat.reduceAdd] at hk
     subst hk
     have lm : zx.length = 4 := rfl
     have hl := ze5 (zx ++ b)
     have hs := z52 (zx ++ b)
     rw [eq_true (show (zx ++ b).length ≤ 100000000 by simp [zx]; omega)] at hs
     have hg := fun n s => show (rHp n ⟨.loc,6,[cImg x]⟩ S1 S2 S3 S4 S5 c s)[13]? = some ⟨.loc,2,[rowW false 12 s]⟩ from rfl
     have hgb := fun n s => show (rHp n ⟨.loc,6,[cImg x]⟩ S1 S2 S3 S4 S5 c s)[12]? = some ⟨.imm,1,bsl s.b⟩ from rfl
     have hr' : rowW false 12 ⟨zx ++ b,true⟩ = [.own 12 (zx ++ b).length 0 (zx ++ b).length,.bool false] := rfl
     have hg1 := fun n s => show (rHp n ⟨.loc,6,[cImg x]⟩ S1 S2 S3 S4 S5 c s)[11]? = some ⟨.loc,1,[[.ptr 1 1 0 0],[.ptr 3 1 0 0],[.ptr 5 1 0 0],[.ptr 7 1 0 0],[.ptr 9 1 0 0],[.ref [.sl (bsl c),.bool false]]]⟩ from rfl
     have f1 : 131072 < ((zx ++ b).length : Int) + 4 → encF x = none := fun q => zvv hr2 (by rw [List.length_append] at q; omega)
     have f2 : ¬ 131072 < ((zx ++ b).length : Int) + 4 → encF x = some (zcr (zx ++ b)) := fun q => z1z hr2 (by rw [List.length_append] at q; omega)
     have hB : (zx ++ b).length ≤ 100000000 := by rw [List.length_append]; omega
     generalize zx ++ b = B at *
     (have hcondQ := Bool.and_self; refine Todo.of ?_); (repeat' (first | ((with_reducible refine Todo.to ?_); (repeat (first | (simp only [↓rP,rT,rU,zc,dval,dBin,dInt,zg,zb,retV,retL,DR.val,fzT,fzVs,fzV,fz1,DV.immB,zp,zq,z1,zz,zu,z6,zi,alive,freezeAt,Nat.reduceEqDiff,Nat.reduceAdd,↓reduceIte,reduceCtorEq,Nat.reduceLT,ziu,hg,hg1,hgb,hr',hs ,hcondQ]) | ((simp (disch := omega) only [zko]))))) | ((with_reducible refine And.intro ?_ ?_); · omega) | (((((with_reducible refine zw (t := ?_) ?_ (fun hcQ => ?_) (fun hcQ => ?_)); rotate_left; · (rfl))) <;> (have hn := hcQ; have hcondQ := hcQ) <;> (try simp only [decide_eq_true_eq,decide_eq_false_iff_not] at hn) <;> (refine Todo.of ?_))) | fail))
     · rw [f1 (by assumption)]; rfl
     · rw [f2 (by assumption)]; rfl
end Go.Proofs.YtfaailjhioobhaaGreat
set_option linter.all false
set_option maxRecDepth 20000
namespace Go.Proofs.YtfaailjhioobhaaGreat
open Go.Nk
noncomputable def z3o : List DV → Prop × DV := zzt eBs eBs fun b p => (True,.bool (decide (p.length ≤ b.length) && (b.take p.length == p)))
theorem z99 (b : List UInt8) (p : List UInt8) : z3o [.sl (bsl b),.sl (bsl p)] = (True,.bool (decide (p.length ≤ b.length) && (b.take p.length == p))) := zsk zfu zfu _ b p
theorem zok : OkP Tryz.prog 33 z3o := by
 refine OkP.mk2 (ps := [(74,s_BEq)]) (hs := []) ⟨zmj,trivial⟩ trivial zpv fun b p _ => ?_
 by_cases h : p.length ≤ b.length
 · have s1 := fun hp => zn1 (hp := hp) (l := b) (b := ((p.length : Nat) : Int)) (by omega) (by omega)
   rw [Int.toNat_natCast] at s1
   have h' : (p.length : Int) ≤ b.length := by omega
   rw [decide_eq_true h]
   (refine Todo.of ?_); (repeat' (first | ((with_reducible refine Todo.to ?_); (repeat (simp only [↓rP,rT,rU,eBs,zc,dval,dBin,dInt,retV,DR.val,fzT,fzV,fz1,DV.immB,zp,zq,z1,zz,zu,z6,Nat.reduceEqDiff,↓reduceIte,reduceCtorEq,zel,zy2,h',s1 ])))))
 · have h' : ¬ (p.length : Int) ≤ b.length := by omega
   rw [decide_eq_false h]
   (refine Todo.of ?_); (repeat' (first | ((with_reducible refine Todo.to ?_); (repeat (simp only [↓rP,rT,rU,eBs,zc,dval,dBin,dInt,retV,DR.val,fzT,fzV,fz1,DV.immB,Nat.reduceEqDiff,↓reduceIte,reduceCtorEq,zel,h' ])))))
def zdr : Nat → Int → RS → List (List UInt8) → List (List UInt8) × Bool
 | 0,_,r,acc => (acc,r.isSome && !ziy r)
 | k + 1,i,r,acc => if numV r 1 = i + 1 then zdr k (i + 1) (rawS (z9 r (szN 1)) 4) (acc ++ [zj5 (z9 r (szN 1))]) else ([],false)
def zbr (b : List UInt8) : List (List UInt8) × Bool := zdr 6 0 (some (b,0)) []
noncomputable def z1u : List DV → Prop × DV := zdu eBs fun b => (b.length ≤ 4294967296,.tup [.sl ((zbr b).1.map cBs),.bool (zbr b).2])
theorem z6n (b : List UInt8) : z1u [.sl (bsl b)] = (b.length ≤ 4294967296,.tup [.sl ((zbr b).1.map cBs),.bool (zbr b).2]) := zan zfu _ b
theorem z7t (l : List (List UInt8)) (x : List UInt8) : l.map cBs ++ [[.sl (bsl x)]] = (l ++ [x]).map cBs := by simp [cBs]
theorem zvm : OkP Tryz.prog 35 z1u := by
 refine OkP.mk1 (ps := []) (hs := [(75,zk1),(76,zj1),(77,zx4),(78,s_Ok),(79,zjv)]) trivial ⟨zhp,zam,zvg,za0,zhl,trivial⟩ zxx fun b h => ?_
 have h : b.length ≤ 4294967296 := h
 generalize hG : zbr b = G
 
 have eF := zq9 b []
 rw [eq_true h] at eF
 simp only [List.nil_append,List.length_nil] at eF
 (refine Todo.of ?_); (repeat' (first | ((with_reducible refine Todo.to ?_); (repeat (simp only [↓rP,rT,rU,eBs,zc,dval,↓reduceIte,reduceCtorEq,zor,eF ])))))
 refine zad [0,1,2,3,4,5] (fun k (a : RS × List (List UInt8)) => ⟨[(4,.ptr 0 1 0 0),(5,.own 1 a.2.length 0 a.2.length),(9,.int .i64 k)],[oP a.1,⟨.imm,1,a.2.map cBs⟩]⟩) (fun k (_ : List Nat) a => okP a.1 ∧ a.2.length = k ∧ zdr (6 - k) k a.1 a.2 = G) (some (b,0),[]) (Nat.zero_le _) (by simp only [zk,List.map_cons,List.map_nil,zd,Nk.get_nil,Nat.reduceEqDiff,↓reduceIte,DV.cut,DV.inB,DObj.cut,List.take_nil,reduceCtorEq,decide_true,Nat.reduceLT,List.take_succ_cons,List.length_nil,oP] <;> rfl) ⟨⟨Nat.zero_le _,h⟩,rfl,hG⟩ (fun k e r a d hge hd hr => ?_) fun k a hk hr => ?_
 · obtain ⟨s,acc⟩ := a
   obtain ⟨hr1,hr2,hr3⟩ := hr
   simp only [List.length_cons,List.length_nil,Nat.zero_add,Nat.reduceAdd] at d
   simp only at hr1 hr2 hr3 ⊢
   have wk := zci d (by omega)
   have d' : decide ((k : Int) < 6) = true := decide_eq_true (by omega)
   have e6 : 6 - k = (6 - (k + 1)) + 1 := by omega
   rw [e6] at hr3
   unfold zdr at hr3
   have q0 : ∀ t,zj1 [.ptr 0 1 0 0,.int .i64 1] (oP s :: t) = ⟨True,.int .i64 (numV s 1),oP (z9 s (szN 1)) :: t⟩ := fun t => by
     rw [zpm (r := s) rfl,eq_true hr1]; rfl
   have hr1' := zav (szN 1) hr1
   generalize z9 s (szN 1) = s1 at q0 hr1' hr3
   have q1 : ∀ t,zx4 [.ptr 0 1 0 0] (oP s1 :: t) = ⟨True,.sl (bsl (zj5 s1)),oP (rawS s1 4) :: t⟩ := fun t => by
     rw [z7a (r := s1) rfl,eq_true hr1']; rfl
   have hr1'' := zhn 4 hr1'
   by_cases c : numV s 1 = (k : Int) + 1
   · rw [if_pos c] at hr3
     have c1 : (numV s 1 != ((k + 1 : Nat) : Int)) = false := by rw [c]; simp
     have hq : acc.length + 1 ≤ 100 := by omega
     (have hcondQ := Bool.and_self; refine Todo.of ?_); (repeat' (first | ((with_reducible refine Todo.to ?_); (repeat (simp only [↓rP,rT,rU,zc,dval,dBin,dInt,fz1,DV.immB,zi,zao,fzLL,fzL,bRow,bU,cellsOf,DV.isU,zal,Nat.reduceEqDiff,↓reduceIte,Nat.reduceLeDiff,forall_const,d',wk,q0,c1,q1,z7t,hcondQ]))) | ((with_reducible refine And.intro ?_ ?_); · omega) | fail))
     generalize rawS s1 4 = s2 at hr1'' hr3 ⊢
     rcases s2 with _ | ⟨l2,a2⟩
     all_goals exact ⟨(_,acc ++ [zj5 s1]),by simp only [zk,List.map_cons,List.map_nil,zd,Nk.get_nil,Nat.reduceEqDiff,↓reduceIte,DV.cut,DV.inB,DObj.cut,List.take_nil,reduceCtorEq,decide_true,Nat.reduceLT,List.take_succ_cons,Int.natCast_add,Int.natCast_one,List.length_append,List.length_cons,List.length_nil,Nat.zero_add,oP] <;> rfl,hr1'',by simp only [List.length_append,List.length_cons,List.length_nil]; omega,hr3⟩
   · rw [if_neg c] at hr3
     have c1 : (numV s 1 != ((k + 1 : Nat) : Int)) = true := by simpa using c
     subst hr3
     (refine Todo.of ?_); (repeat' (first | ((with_reducible refine Todo.to ?_); (repeat (simp only [↓rP,rT,rU,zc,dval,dBin,dInt,retV,retL,DR.val,fzT,fzVs,fzV,fz1,DV.immB,Nat.reduceEqDiff,↓reduceIte,d',wk,q0,c1 ])))))
 · obtain ⟨s,acc⟩ := a
   obtain ⟨hr1,hr2,hr3⟩ := hr
   simp only [List.length_cons,List.length_nil,Nat.zero_add,Nat.reduceAdd] at hk
   subst hk
   simp only at hr1 hr2 hr3 ⊢
   unfold zdr at hr3
   subst hr3
   have q0 : ∀ t,s_Ok [.ptr 0 1 0 0] (oP s :: t) = ⟨True,.bool s.isSome,oP s :: t⟩ := fun t => zf6 (r := s) rfl
   have q1 : ∀ t,zjv [.ptr 0 1 0 0] (oP s :: t) = ⟨True,.bool (ziy s),oP s :: t⟩ := fun t => zgi (r := s) rfl
   have ht : List.take acc.length (acc.map cBs) = acc.map cBs := List.take_of_length_le (by simp)
   cases c : s.isSome <;> rw [c] at q0
   · (refine Todo.of ?_); (repeat' (first | ((with_reducible refine Todo.to ?_); (repeat (simp only [↓rP,rT,rU,zc,dval,dBin,dInt,retV,retL,DR.val,fzT,fzVs,fzV,fz1,DV.immB,zi,freezeAt,Nat.reduceEqDiff,↓reduceIte,reduceCtorEq,Nat.reduceSub,q0,ht,c ]))))) <;> (try (exact Nat.le_refl _))
   · (refine Todo.of ?_); (repeat' (first | ((with_reducible refine Todo.to ?_); (repeat (simp only [↓rP,rT,rU,zc,dval,dBin,dInt,dUn,retV,retL,DR.val,fzT,fzVs,fzV,fz1,DV.immB,zi,freezeAt,Nat.reduceEqDiff,↓reduceIte,reduceCtorEq,Nat.reduceSub,q0,q1,ht,c ]))))) <;> (try (exact Nat.le_refl _))
end Go.Proofs.YtfaailjhioobhaaGreat
set_option linter.all false
set_option maxRecDepth 20000
namespace Go.Proofs.YtfaailjhioobhaaGreat
open Go.Nk
noncomputable def zuq {α : Type} (V : α → DV) (f : RS → α × RS) : List DV → List DObj → Res := zee rRX (fun x => (okP x.2,V (f x.2).1)) (fun x hp => one hp x.1 (oP (f x.2).2))
theorem z9x {α : Type} {V : α → DV} {f : RS → α × RS} {hp : List DObj} {n : Nat} {r : RS} (h : hp[n]? = some (oP r)) : zuq V f [.agg [.ptr n 1 0 0]] hp = ⟨okP r,V (f r).1,one hp n (oP (f r).2)⟩ := za5 (x := (n,r)) rRX_u ⟨rfl,h⟩
theorem z0d {α : Type} {V : α → DV} {f : RS → α × RS} {hp : List DObj} {n : Nat} (hn : n < hp.length) {r : RS} (h : okP r) (t : List DObj) : zuq V f [.agg [.ptr n 1 0 0]] (one hp n (oP r) ++ t) = ⟨True,V (f r).1,one hp n (oP (f r).2) ++ t⟩ := by
 rw [z9x (zd9 hn),eq_true h]
 congr 1
 exact zi8 hn
theorem zsr {hp : List DObj} {n : Nat} (hn : n < hp.length) {r : RS} (h : okP r) (t : List DObj) : zm5 [.ptr n 1 0 0] (one hp n (oP r) ++ t) = ⟨True,.str (zop r),one hp n (oP (rawS r 2)) ++ t⟩ := by
 rw [z6z (zd9 hn),eq_true h,zi8 hn]
theorem zp2 {hp : List DObj} {n : Nat} (hn : n < hp.length) {r : RS} (t : List DObj) : s_Ok [.ptr n 1 0 0] (one hp n (oP r) ++ t) = ⟨True,.bool r.isSome,one hp n (oP r) ++ t⟩ := zf6 (zd9 hn)
def tyO (r : RS) : Ty × RS := (⟨numV r 1,numV (z9 r (szN 1)) 1,numV (z9 (z9 r (szN 1)) (szN 1)) 1⟩,z9 (z9 (z9 r (szN 1)) (szN 1)) (szN 1))
theorem z9u {r : RS} (h : okP r) : okP (tyO r).2 := zav _ (zav _ (zav _ h))
noncomputable def s_tTy : List DV → List DObj → Res := zuq (fun t => .agg (cTy t)) tyO
theorem zib : OkH Tryz.prog 119 s_tTy := by
 refine OkH.mkG (ps := []) (hs := [(76,zj1)]) trivial ⟨zam,trivial⟩ zr9 (fun x a hp h => by rw [h.1]; rfl) (fun x a hp h h1 => ?_)
 obtain ⟨n,r⟩ := x
 obtain ⟨rfl,hh⟩ := h
 have h1 : okP r := h1
 simp only at hh ⊢
 have hn := (List.getElem?_eq_some_iff.1 hh).1
 have es : (⟨za 0 [.agg [.ptr n 1 0 0]],hp⟩ : DS) = ⟨za 0 [.agg [.ptr n 1 0 0]],one hp n (oP r) ++ []⟩ := by rw [List.append_nil,zeh hh]
 rw [es]
 have q0 := zd7 hn h1 1
 have hk1 := zav (szN 1) h1
 generalize ho : tyO r = O
 unfold tyO at ho
 generalize z9 r (szN 1) = r1 at q0 hk1 ho
 have q1 := zd7 hn hk1 1
 have hk2 := zav (szN 1) hk1
 generalize z9 r1 (szN 1) = r2 at q1 hk2 ho
 have q2 := zd7 hn hk2 1
 subst ho
 
 (refine Todo.of ?_); (repeat' (first | ((with_reducible refine Todo.to ?_); (repeat (simp only [↓rP,rT,rU,zj,zc,dval,za,zg,zb,retV,DR.val,zo,DV.one,alive,cellsOf,zf,DV.isU,Nat.reduceEqDiff,Nat.reduceAdd,↓reduceIte,reduceCtorEq,Nat.reduceLeDiff,forall_const,zjs,q0,q1,q2,z8,zb6,zds,zat,List.append_assoc,Nat.add_zero ]))) | ((with_reducible refine And.intro ?_ ?_); · first | (trivial) | ((simp; done))) | fail))
 all_goals exact za1 (zbw _ _)
def kiO (r : RS) : Int × RS := (numV r 2,z9 r (szN 2))
noncomputable def z1r : List DV → List DObj → Res := zuq (fun k => .int .i64 k) kiO
theorem zm9 : OkH Tryz.prog 87 z1r := by
 refine OkH.mkG (ps := []) (hs := [(76,zj1)]) trivial ⟨zam,trivial⟩ zou (fun x a hp h => by rw [h.1]; rfl) (fun x a hp h h1 => ?_)
 obtain ⟨n,r⟩ := x
 obtain ⟨rfl,hh⟩ := h
 have h1 : okP r := h1
 simp only at hh ⊢
 have hn := (List.getElem?_eq_some_iff.1 hh).1
 have es : (⟨za 0 [.agg [.ptr n 1 0 0]],hp⟩ : DS) = ⟨za 0 [.agg [.ptr n 1 0 0]],one hp n (oP r) ++ []⟩ := by rw [List.append_nil,zeh hh]
 rw [es]
 have q0 := zd7 hn h1 2
 generalize ho : kiO r = O
 unfold kiO at ho
 subst ho
 
 (refine Todo.of ?_); (repeat' (first | ((with_reducible refine Todo.to ?_); (repeat (simp only [↓rP,rT,rU,zc,dval,za,zg,zb,retV,DR.val,DV.one,alive,cellsOf,Nat.reduceEqDiff,↓reduceIte,reduceCtorEq,forall_const,zg0,q0,z8,zb6,List.append_assoc,Nat.add_zero ]))) | ((with_reducible refine And.intro ?_ ?_); · first | (trivial) | ((simp; done))) | fail))
 all_goals exact za1 (zbw _ _)
theorem tKind_at {hp : List DObj} {n : Nat} (hn : n < hp.length) {r : RS} (h : okP r) (t : List DObj) : z1r [.agg [.ptr n 1 0 0]] (one hp n (oP r) ++ t) = ⟨True,.int .i64 (numV r 2),one hp n (oP (z9 r (szN 2))) ++ t⟩ := z0d hn h t
theorem tTy_at {hp : List DObj} {n : Nat} (hn : n < hp.length) {r : RS} (h : okP r) (t : List DObj) : s_tTy [.agg [.ptr n 1 0 0]] (one hp n (oP r) ++ t) = ⟨True,.agg (cTy (tyO r).1),one hp n (oP (tyO r).2) ++ t⟩ := z0d hn h t
def goF {α : Type} (f : RS → α × RS) : Nat → RS → List α → List α × RS
 | 0,r,acc => (acc,r)
 | k + 1,r,acc => if (f r).2.isSome then goF f k (f r).2 (acc ++ [(f r).1]) else ([],none)
def zar {α : Type} (f : RS → α × RS) (r : RS) (z : Int) : List α × RS := goF f (numV r z).toNat (z9 r (szN z)) []
def rSoG (G : Nat → DV) (x : Nat × RS × Int) (a : List DV) (hp : List DObj) : Prop := a = [.agg [.ptr x.1 1 0 0],.int .i64 x.2.2,G x.1] ∧ hp[x.1]? = some (oP x.2.1)
theorem rSoG_u (G : Nat → DV) : ∀ x y a hp,rSoG G x a hp → rSoG G y a hp → x = y := by
 rintro ⟨n,r,z⟩ ⟨n',r',z'⟩ a hp ⟨h1,h2⟩ ⟨h3,h4⟩
 subst h1
 simp only [List.cons.injEq,DV.agg.injEq,DV.ptr.injEq,DV.int.injEq,and_true,true_and] at h3
 obtain ⟨rfl,rfl,-⟩ := h3
 have := h2.symm.trans h4
 simp only [Option.some.injEq] at this
 rw [zod _ _ this]
noncomputable def zvc {α : Type} (G : Nat → DV) (c : α → List DV) (f : RS → α × RS) : List DV → List DObj → Res :=
 zee (rSoG G) (fun x => (okP x.2.1 ∧ (x.2.2 = 1 ∨ x.2.2 = 2),.sl ((zar f x.2.1 x.2.2).1.map c))) (fun x hp => one hp x.1 (oP (zar f x.2.1 x.2.2).2))
theorem zla {α : Type} {G : Nat → DV} {c : α → List DV} {f : RS → α × RS} {hp : List DObj} {n : Nat} {r : RS} {z : Int} (h : hp[n]? = some (oP r)) : zvc G c f [.agg [.ptr n 1 0 0],.int .i64 z,G n] hp = ⟨okP r ∧ (z = 1 ∨ z = 2),.sl ((zar f r z).1.map c),one hp n (oP (zar f r z).2)⟩ := za5 (x := (n,r,z)) (rSoG_u G) ⟨rfl,h⟩
theorem one_so {α : Type} {G : Nat → DV} {c : α → List DV} {f : RS → α × RS} {hp : List DObj} {n : Nat} (hn : n < hp.length) {r : RS} (h : okP r) {z : Int} (hz : z = 1 ∨ z = 2) (t : List DObj) : zvc G c f [.agg [.ptr n 1 0 0],.int .i64 z,G n] (one hp n (oP r) ++ t) = ⟨True,.sl ((zar f r z).1.map c),one hp n (oP (zar f r z).2) ++ t⟩ := by
 rw [zla (zd9 hn),eq_true (show okP r ∧ (z = 1 ∨ z = 2) from ⟨h,hz⟩)]
 congr 1
 exact zi8 hn
theorem z57 {r : RS} {k : Int} : ((zb1 r k).getD []).length ≤ k.toNat := by
 rcases r with _ | ⟨l,a⟩
 · simp [zb1]
 · unfold zb1 nxt
   simp only
   split <;> simp <;> omega
theorem zhw (r : RS) {z : Int} (h : z = 1 ∨ z = 2) : 0 ≤ numV r z ∧ numV r z < 65536 ∧ (z = 1 → numV r z < 256) := by
 have hs : szN z = z := by rcases h with rfl | rfl <;> decide
 have h1 := z57 (r := r) (k := z)
 have h8 : z.toNat ≤ 2 := by rcases h with rfl | rfl <;> decide
 have hlt := zlc ((zb1 r z).getD []) (by omega)
 have h2 : 256 ^ ((zb1 r z).getD []).length ≤ 256 ^ z.toNat := Nat.pow_le_pow_right (by decide) h1
 have h3 : 256 ^ z.toNat ≤ 65536 := by rcases h with rfl | rfl <;> decide
 have hv : numV r z = (getF ((zb1 r z).getD []) : Int) := by
   unfold numV
   rw [hs,zt]
   omega
 rw [hv]
 refine ⟨by omega,by omega,fun e => ?_⟩
 subst e
 have : (256 : Nat) ^ (1 : Int).toNat = 256 := rfl
 omega
theorem zos {α : Type} {f : RS → α × RS} {N k : Nat} {r : RS} {acc : List α} {G : List α × RS} (hk : k < N) (h : goF f (N - k) r acc = G) :
   if (f r).2.isSome then goF f (N - (k + 1)) (f r).2 (acc ++ [(f r).1]) = G else G = ([],none) := by
 have e : N - k = (N - (k + 1)) + 1 := by omega
 rw [e] at h
 unfold goF at h
 split
 · rename_i c; rw [if_pos c] at h; exact h
 · rename_i c; rw [if_neg c] at h; exact h.symm
theorem zud {α : Type} {f : RS → α × RS} {N k : Nat} {r : RS} {acc : List α} {G : List α × RS} (hk : ¬ k < N) (h : goF f (N - k) r acc = G) : G = (acc,r) := by
 have e : N - k = 0 := by omega
 rw [e] at h
 exact h.symm
theorem zqs {r : RS} (h : r.isSome = false) : r = none := by cases r <;> simp_all
section
variable {hp t : List DObj} {m : Nat} {o o' a b c : DObj}
theorem zw2 : (one hp m o ++ (a :: b :: (t ++ [c])))[hp.length + (t.length + 1 + 1)]? = some c := by
 rw [List.getElem?_append_right (by simp [one])]
 have : hp.length + (t.length + 1 + 1) - (one hp m o).length = t.length + 1 + 1 := by rw [z8]; omega
 rw [this]
 simp
theorem zik : (one hp m o ++ (a :: b :: (t ++ [c]))).set (hp.length + (t.length + 1 + 1)) o' = one hp m o ++ (a :: b :: (t ++ [o'])) := by
 rw [List.set_append_right _ _ (by simp [one])]
 have : hp.length + (t.length + 1 + 1) - (one hp m o).length = t.length + 1 + 1 := by rw [z8]; omega
 rw [this]
 simp
end
end Go.Proofs.YtfaailjhioobhaaGreat
set_option linter.all false
set_option maxRecDepth 20000
namespace Go.Proofs.YtfaailjhioobhaaGreat
open Go.Nk
def txO (r : RS) : List UInt8 × RS := (zop r,rawS r 2)
def inO (r : RS) : Int × RS := (intV r,intS r)
def gTx (n : Nat) : DV := .meth 117 [.ptr n 1 0 0]
def cTx (x : List UInt8) : List DV := [.str x]
theorem snTx (l : List (List UInt8)) (x : List UInt8) : l.map cTx ++ [[.str x]] = (l ++ [x]).map cTx := by simp [cTx]
noncomputable def z8p : List DV → List DObj → Res := zvc gTx cTx txO
theorem z7r : OkH Tryz.prog 118 z8p := by
 refine OkH.mkG (ps := []) (hs := [(76,zj1),(78,s_Ok),(117,zm5)]) trivial ⟨zam,za0,zev,trivial⟩ znq (fun x a hp h => by rw [h.1]; rfl) (fun x a hp h h1 => ?_)
 obtain ⟨n,r,z⟩ := x
 obtain ⟨rfl,hh⟩ := h
 obtain ⟨hr,hz⟩ : okP r ∧ (z = 1 ∨ z = 2) := h1
 simp only at hh ⊢
 have hn := (List.getElem?_eq_some_iff.1 hh).1
 have es : (⟨za 0 [.agg [.ptr n 1 0 0],.int .i64 z,gTx n],hp⟩ : DS) = ⟨za 0 [.agg [.ptr n 1 0 0],.int .i64 z,gTx n],one hp n (oP r) ++ []⟩ := by rw [List.append_nil,zeh hh]
 rw [es]
 have q0 := zd7 hn hr z
 obtain ⟨n0,n1,-⟩ := zhw r hz
 generalize hG : zar txO r z = G
 unfold zar at hG
 have hr' := zav (szN z) hr
 generalize z9 r (szN z) = r1 at q0 hG hr'
 generalize numV r z = N at q0 n0 n1 hG
 clear hr hz hh
 
 unfold gTx
 (refine Todo.of ?_); (repeat' (first | ((with_reducible refine Todo.to ?_); (repeat (simp only [↓rP,rT,rU,zc,dval,za,zg,zb,DV.one,alive,cellsOf,Nat.reduceEqDiff,Nat.reduceAdd,↓reduceIte,reduceCtorEq,forall_const,zgl,q0,z8,zb6,List.append_assoc,Nat.add_zero ])))))
 refine zaa (fun x : Nat × RS × List (List UInt8) => ⟨[(2,.meth 117 [.ptr n 1 0 0]),(3,.ptr hp.length 1 0 0),(7,.own (hp.length + 1) x.2.2.length 0 x.2.2.length),(12,.int .i64 N),(13,.int .i64 x.1)],one hp n (oP x.2.1) ++ [⟨.loc,1,[[.ptr n 1 0 0]]⟩,⟨.imm,1,x.2.2.map cTx⟩]⟩) (fun x => x.1 ≤ N.toNat ∧ x.2.2.length = x.1 ∧ okP x.2.1 ∧ goF txO (N.toNat - x.1) x.2.1 x.2.2 = G) (fun x => N.toNat - x.1) (0,r1,[]) trivial (by simp only [zn,List.map_cons,List.map_nil,zd,Nk.get_nil,Nat.reduceEqDiff,↓reduceIte,Nat.succ_ne_self,reduceCtorEq,List.length_nil] <;> rfl) ⟨Nat.zero_le _,rfl,hr',hG⟩ fun x hx => ?_
 obtain ⟨k,s,acc⟩ := x
 obtain ⟨hk,hl,hs,hg⟩ := hx
 simp only at hk hl hs hg ⊢
 by_cases d : (k : Int) < N
 · have wk := zci (k := k) (n := N.toNat) (by omega) (by omega)
   have hkN : k < N.toNat := by omega
   have d' : decide ((k : Int) < N) = true := decide_eq_true d
   have st := zos hkN hg
   unfold txO at st
   have q1 := zsr hn hs
   have hs2 := zhn 2 hs
   generalize rawS s 2 = s2 at q1 hs2 st
   generalize zop s = v at q1 st
   simp only at st
   have q2 := fun t => zp2 (r := s2) hn t
   have hq : acc.length + 1 ≤ 100000 := by omega
   cases c : s2.isSome
   · rw [c] at q2 st
     simp only [Bool.false_eq_true,↓reduceIte] at st
     subst st
     have e2 := zqs c
     subst e2
     (refine Todo.of ?_); (repeat' (first | ((with_reducible refine Todo.to ?_); (repeat (simp only [↓rP,rT,rU,zc,dval,dBin,dInt,dUn,zg,zb,retV,DR.val,fzV,fz1,alive,Nat.reduceEqDiff,↓reduceIte,reduceCtorEq,d',q1,q2,z8,zb6,Nat.add_zero ]))) | ((with_reducible refine And.intro ?_ ?_); · first | (trivial) | ((simp; done))) | fail))
     all_goals exact za1 (zbw _ _)
   · rw [c] at q2 st
     simp only [↓reduceIte] at st
     (have hcondQ := Bool.and_self; refine Todo.of ?_); (repeat' (first | ((with_reducible refine Todo.to ?_); (repeat (simp only [↓rP,rT,rU,zc,dval,dBin,dInt,dUn,zg,zb,fz1,DV.immB,zi,zao,alive,fzLL,fzL,bRow,bU,cellsOf,DV.isU,zal,Nat.reduceEqDiff,↓reduceIte,reduceCtorEq,Nat.reduceLeDiff,forall_const,d',wk,q1,q2,snTx,zb6,zds,zat,Nat.add_zero ,hcondQ]))) | ((with_reducible refine And.intro ?_ ?_); · omega) | fail))
     exact ⟨(k + 1,s2,acc ++ [v]),by simp only [zn,List.map_cons,List.map_nil,zd,Nk.get_nil,Nat.reduceEqDiff,↓reduceIte,Nat.succ_ne_self,Int.natCast_add,Int.natCast_one,List.length_append,List.length_cons,List.length_nil,Nat.zero_add] <;> rfl,⟨by simp only; omega,by simp only [List.length_append,List.length_cons,List.length_nil]; omega,hs2,st⟩,by simp only; omega⟩
 · have d' : decide ((k : Int) < N) = false := decide_eq_false d
   have st := zud (by omega) hg
   subst st
   have ht : List.take acc.length (acc.map cTx) = acc.map cTx := List.take_of_length_le (by simp)
   (refine Todo.of ?_); (repeat' (first | ((with_reducible refine Todo.to ?_); (repeat (simp only [↓rP,rT,rU,zc,dval,dBin,dInt,retV,DR.val,fzV,fz1,zi,freezeAt,Nat.reduceEqDiff,↓reduceIte,reduceCtorEq,d',ht,z8,zds,zat ]))) | ((with_reducible refine And.intro ?_ ?_); · first | (trivial) | (omega) | ((simp; done))) | fail))
   all_goals exact za1 (zbw _ _)
def gNu (n : Nat) : DV := .meth 121 [.ptr n 1 0 0]
def cNu (x : Int) : List DV := [.int .i64 x]
theorem snNu (l : List (Int)) (x : Int) : l.map cNu ++ [[.int .i64 x]] = (l ++ [x]).map cNu := by simp [cNu]
noncomputable def ya7 : List DV → List DObj → Res := zvc gNu cNu inO
theorem z6b : OkH Tryz.prog 120 ya7 := by
 refine OkH.mkG (ps := []) (hs := [(76,zj1),(78,s_Ok),(121,zz0)]) trivial ⟨zam,za0,zpk,trivial⟩ zpi (fun x a hp h => by rw [h.1]; rfl) (fun x a hp h h1 => ?_)
 obtain ⟨n,r,z⟩ := x
 obtain ⟨rfl,hh⟩ := h
 obtain ⟨hr,hz⟩ : okP r ∧ (z = 1 ∨ z = 2) := h1
 simp only at hh ⊢
 have hn := (List.getElem?_eq_some_iff.1 hh).1
 have es : (⟨za 0 [.agg [.ptr n 1 0 0],.int .i64 z,gNu n],hp⟩ : DS) = ⟨za 0 [.agg [.ptr n 1 0 0],.int .i64 z,gNu n],one hp n (oP r) ++ []⟩ := by rw [List.append_nil,zeh hh]
 rw [es]
 have q0 := zd7 hn hr z
 obtain ⟨n0,n1,-⟩ := zhw r hz
 generalize hG : zar inO r z = G
 unfold zar at hG
 have hr' := zav (szN z) hr
 generalize z9 r (szN z) = r1 at q0 hG hr'
 generalize numV r z = N at q0 n0 n1 hG
 clear hr hz hh
 
 unfold gNu
 (refine Todo.of ?_); (repeat' (first | ((with_reducible refine Todo.to ?_); (repeat (simp only [↓rP,rT,rU,zc,dval,za,zg,zb,DV.one,alive,cellsOf,Nat.reduceEqDiff,Nat.reduceAdd,↓reduceIte,reduceCtorEq,forall_const,zg7,q0,z8,zb6,List.append_assoc,Nat.add_zero ])))))
 refine zaa (fun x : Nat × RS × List (Int) => ⟨[(2,.meth 121 [.ptr n 1 0 0]),(3,.ptr hp.length 1 0 0),(7,.own (hp.length + 1) x.2.2.length 0 x.2.2.length),(12,.int .i64 N),(13,.int .i64 x.1)],one hp n (oP x.2.1) ++ [⟨.loc,1,[[.ptr n 1 0 0]]⟩,⟨.imm,1,x.2.2.map cNu⟩]⟩) (fun x => x.1 ≤ N.toNat ∧ x.2.2.length = x.1 ∧ okP x.2.1 ∧ goF inO (N.toNat - x.1) x.2.1 x.2.2 = G) (fun x => N.toNat - x.1) (0,r1,[]) trivial (by simp only [zn,List.map_cons,List.map_nil,zd,Nk.get_nil,Nat.reduceEqDiff,↓reduceIte,Nat.succ_ne_self,reduceCtorEq,List.length_nil] <;> rfl) ⟨Nat.zero_le _,rfl,hr',hG⟩ fun x hx => ?_
 obtain ⟨k,s,acc⟩ := x
 obtain ⟨hk,hl,hs,hg⟩ := hx
 simp only at hk hl hs hg ⊢
 by_cases d : (k : Int) < N
 · have wk := zci (k := k) (n := N.toNat) (by omega) (by omega)
   have hkN : k < N.toNat := by omega
   have d' : decide ((k : Int) < N) = true := decide_eq_true d
   have st := zos hkN hg
   unfold inO at st
   have q1 := yb2 hn hs
   have hs2 := z9w hs
   generalize intS s = s2 at q1 hs2 st
   generalize intV s = v at q1 st
   simp only at st
   have q2 := fun t => zp2 (r := s2) hn t
   have hq : acc.length + 1 ≤ 100000 := by omega
   cases c : s2.isSome
   · rw [c] at q2 st
     simp only [Bool.false_eq_true,↓reduceIte] at st
     subst st
     have e2 := zqs c
     subst e2
     (refine Todo.of ?_); (repeat' (first | ((with_reducible refine Todo.to ?_); (repeat (simp only [↓rP,rT,rU,zc,dval,dBin,dInt,dUn,zg,zb,retV,DR.val,fzV,fz1,alive,Nat.reduceEqDiff,↓reduceIte,reduceCtorEq,d',q1,q2,z8,zb6,Nat.add_zero ]))) | ((with_reducible refine And.intro ?_ ?_); · first | (trivial) | ((simp; done))) | fail))
     all_goals exact za1 (zbw _ _)
   · rw [c] at q2 st
     simp only [↓reduceIte] at st
     (have hcondQ := Bool.and_self; refine Todo.of ?_); (repeat' (first | ((with_reducible refine Todo.to ?_); (repeat (simp only [↓rP,rT,rU,zc,dval,dBin,dInt,dUn,zg,zb,fz1,DV.immB,zi,zao,alive,fzLL,fzL,bRow,bU,cellsOf,DV.isU,zal,Nat.reduceEqDiff,↓reduceIte,reduceCtorEq,Nat.reduceLeDiff,forall_const,d',wk,q1,q2,snNu,zb6,zds,zat,Nat.add_zero ,hcondQ]))) | ((with_reducible refine And.intro ?_ ?_); · omega) | fail))
     exact ⟨(k + 1,s2,acc ++ [v]),by simp only [zn,List.map_cons,List.map_nil,zd,Nk.get_nil,Nat.reduceEqDiff,↓reduceIte,Nat.succ_ne_self,Int.natCast_add,Int.natCast_one,List.length_append,List.length_cons,List.length_nil,Nat.zero_add] <;> rfl,⟨by simp only; omega,by simp only [List.length_append,List.length_cons,List.length_nil]; omega,hs2,st⟩,by simp only; omega⟩
 · have d' : decide ((k : Int) < N) = false := decide_eq_false d
   have st := zud (by omega) hg
   subst st
   have ht : List.take acc.length (acc.map cNu) = acc.map cNu := List.take_of_length_le (by simp)
   (refine Todo.of ?_); (repeat' (first | ((with_reducible refine Todo.to ?_); (repeat (simp only [↓rP,rT,rU,zc,dval,dBin,dInt,retV,DR.val,fzV,fz1,zi,freezeAt,Nat.reduceEqDiff,↓reduceIte,reduceCtorEq,d',ht,z8,zds,zat ]))) | ((with_reducible refine And.intro ?_ ?_); · first | (trivial) | (omega) | ((simp; done))) | fail))
   all_goals exact za1 (zbw _ _)
def gKi (n : Nat) : DV := .meth 87 [.agg [.ptr n 1 0 0]]
def cKi (x : Int) : List DV := [.int .i64 x]
theorem snKi (l : List (Int)) (x : Int) : l.map cKi ++ [[.int .i64 x]] = (l ++ [x]).map cKi := by simp [cKi]
noncomputable def z72 : List DV → List DObj → Res := zvc gKi cKi kiO
theorem z6q : OkH Tryz.prog 86 z72 := by
 refine OkH.mkG (ps := []) (hs := [(76,zj1),(78,s_Ok),(87,z1r)]) trivial ⟨zam,za0,zm9,trivial⟩ zrx (fun x a hp h => by rw [h.1]; rfl) (fun x a hp h h1 => ?_)
 obtain ⟨n,r,z⟩ := x
 obtain ⟨rfl,hh⟩ := h
 obtain ⟨hr,hz⟩ : okP r ∧ (z = 1 ∨ z = 2) := h1
 simp only at hh ⊢
 have hn := (List.getElem?_eq_some_iff.1 hh).1
 have es : (⟨za 0 [.agg [.ptr n 1 0 0],.int .i64 z,gKi n],hp⟩ : DS) = ⟨za 0 [.agg [.ptr n 1 0 0],.int .i64 z,gKi n],one hp n (oP r) ++ []⟩ := by rw [List.append_nil,zeh hh]
 rw [es]
 have q0 := zd7 hn hr z
 obtain ⟨n0,n1,-⟩ := zhw r hz
 generalize hG : zar kiO r z = G
 unfold zar at hG
 have hr' := zav (szN z) hr
 generalize z9 r (szN z) = r1 at q0 hG hr'
 generalize numV r z = N at q0 n0 n1 hG
 clear hr hz hh
 
 unfold gKi
 (refine Todo.of ?_); (repeat' (first | ((with_reducible refine Todo.to ?_); (repeat (simp only [↓rP,rT,rU,zc,dval,za,zg,zb,DV.one,alive,cellsOf,Nat.reduceEqDiff,Nat.reduceAdd,↓reduceIte,reduceCtorEq,forall_const,zjp,q0,z8,zb6,List.append_assoc,Nat.add_zero ])))))
 refine zaa (fun x : Nat × RS × List (Int) => ⟨[(2,.meth 87 [.agg [.ptr n 1 0 0]]),(3,.ptr hp.length 1 0 0),(7,.own (hp.length + 1) x.2.2.length 0 x.2.2.length),(12,.int .i64 N),(13,.int .i64 x.1)],one hp n (oP x.2.1) ++ [⟨.loc,1,[[.ptr n 1 0 0]]⟩,⟨.imm,1,x.2.2.map cKi⟩]⟩) (fun x => x.1 ≤ N.toNat ∧ x.2.2.length = x.1 ∧ okP x.2.1 ∧ goF kiO (N.toNat - x.1) x.2.1 x.2.2 = G) (fun x => N.toNat - x.1) (0,r1,[]) trivial (by simp only [zn,List.map_cons,List.map_nil,zd,Nk.get_nil,Nat.reduceEqDiff,↓reduceIte,Nat.succ_ne_self,reduceCtorEq,List.length_nil] <;> rfl) ⟨Nat.zero_le _,rfl,hr',hG⟩ fun x hx => ?_
 obtain ⟨k,s,acc⟩ := x
 obtain ⟨hk,hl,hs,hg⟩ := hx
 simp only at hk hl hs hg ⊢
 by_cases d : (k : Int) < N
 · have wk := zci (k := k) (n := N.toNat) (by omega) (by omega)
   have hkN : k < N.toNat := by omega
   have d' : decide ((k : Int) < N) = true := decide_eq_true d
   have st := zos hkN hg
   unfold kiO at st
   have q1 := tKind_at hn hs
   have hs2 := zav (szN 2) hs
   generalize z9 s (szN 2) = s2 at q1 hs2 st
   generalize numV s 2 = v at q1 st
   simp only at st
   have q2 := fun t => zp2 (r := s2) hn t
   have hq : acc.length + 1 ≤ 100000 := by omega
   cases c : s2.isSome
   · rw [c] at q2 st
     simp only [Bool.false_eq_true,↓reduceIte] at st
     subst st
     have e2 := zqs c
     subst e2
     (refine Todo.of ?_); (repeat' (first | ((with_reducible refine Todo.to ?_); (repeat (simp only [↓rP,rT,rU,zc,dval,dBin,dInt,dUn,zg,zb,retV,DR.val,fzV,fz1,alive,Nat.reduceEqDiff,↓reduceIte,reduceCtorEq,d',q1,q2,z8,zb6,Nat.add_zero ]))) | ((with_reducible refine And.intro ?_ ?_); · first | (trivial) | ((simp; done))) | fail))
     all_goals exact za1 (zbw _ _)
   · rw [c] at q2 st
     simp only [↓reduceIte] at st
     (have hcondQ := Bool.and_self; refine Todo.of ?_); (repeat' (first | ((with_reducible refine Todo.to ?_); (repeat (simp only [↓rP,rT,rU,zc,dval,dBin,dInt,dUn,zg,zb,fz1,DV.immB,zi,zao,alive,fzLL,fzL,bRow,bU,cellsOf,DV.isU,zal,Nat.reduceEqDiff,↓reduceIte,reduceCtorEq,Nat.reduceLeDiff,forall_const,d',wk,q1,q2,snKi,zb6,zds,zat,Nat.add_zero ,hcondQ]))) | ((with_reducible refine And.intro ?_ ?_); · omega) | fail))
     exact ⟨(k + 1,s2,acc ++ [v]),by simp only [zn,List.map_cons,List.map_nil,zd,Nk.get_nil,Nat.reduceEqDiff,↓reduceIte,Nat.succ_ne_self,Int.natCast_add,Int.natCast_one,List.length_append,List.length_cons,List.length_nil,Nat.zero_add] <;> rfl,⟨by simp only; omega,by simp only [List.length_append,List.length_cons,List.length_nil]; omega,hs2,st⟩,by simp only; omega⟩
 · have d' : decide ((k : Int) < N) = false := decide_eq_false d
   have st := zud (by omega) hg
   subst st
   have ht : List.take acc.length (acc.map cKi) = acc.map cKi := List.take_of_length_le (by simp)
   (refine Todo.of ?_); (repeat' (first | ((with_reducible refine Todo.to ?_); (repeat (simp only [↓rP,rT,rU,zc,dval,dBin,dInt,retV,DR.val,fzV,fz1,zi,freezeAt,Nat.reduceEqDiff,↓reduceIte,reduceCtorEq,d',ht,z8,zds,zat ]))) | ((with_reducible refine And.intro ?_ ?_); · first | (trivial) | (omega) | ((simp; done))) | fail))
   all_goals exact za1 (zbw _ _)
end Go.Proofs.YtfaailjhioobhaaGreat
set_option linter.all false
set_option maxRecDepth 20000
namespace Go.Proofs.YtfaailjhioobhaaGreat
open Go.Nk
theorem soTx_at {hp : List DObj} {n : Nat} (hn : n < hp.length) {r : RS} (h : okP r) (t : List DObj) : z8p [.agg [.ptr n 1 0 0],.int .i64 1,.meth 117 [.ptr n 1 0 0]] (one hp n (oP r) ++ t) = ⟨True,.sl (sls (zar txO r 1).1),one hp n (oP (zar txO r 1).2) ++ t⟩ := one_so (G := gTx) (c := cTx) hn h (.inl rfl) t
theorem soNu_at {hp : List DObj} {n : Nat} (hn : n < hp.length) {r : RS} (h : okP r) (t : List DObj) : ya7 [.agg [.ptr n 1 0 0],.int .i64 1,.meth 121 [.ptr n 1 0 0]] (one hp n (oP r) ++ t) = ⟨True,.sl (ils (zar inO r 1).1),one hp n (oP (zar inO r 1).2) ++ t⟩ := one_so (G := gNu) (c := cNu) hn h (.inl rfl) t
theorem goF_ok {α : Type} {f : RS → α × RS} (hf : ∀ r,okP r → okP (f r).2) : ∀ (k : Nat) (r : RS) (acc : List α),okP r → okP (goF f k r acc).2
 | 0,_,_,h => h
 | k + 1,r,acc,h => by
   unfold goF
   split
   · exact goF_ok hf k _ _ (hf r h)
   · trivial
theorem z44 {α : Type} {f : RS → α × RS} (hf : ∀ r,okP r → okP (f r).2) {r : RS} (h : okP r) (z : Int) : okP (zar f r z).2 := goF_ok hf _ _ _ (zav _ h)
theorem zxl {hp t : List DObj} {n : Nat} {o o' : DObj} : Only (some n) (one hp n o ++ t) (one hp n o' ++ t) := fun h hl hne => by
 have e : n ≠ h := fun e => hne (by rw [e])
 unfold one
 rcases Nat.lt_or_ge h hp.length with q | q
 · rw [List.getElem?_append_left (by simpa using q),List.getElem?_append_left (by simpa using q),List.getElem?_set_ne e,List.getElem?_set_ne e]
 · rw [List.getElem?_append_right (by simpa using q),List.getElem?_append_right (by simpa using q)]
   simp
def enO (r : RS) : En × RS := (⟨zop r,(zar txO (rawS r 2) 1).1⟩,(zar txO (rawS r 2) 1).2)
theorem enO_ok {r : RS} (h : okP r) : okP (enO r).2 := z44 (fun _ h => zhn 2 h) (zhn 2 h) 1
def prO (r : RS) : Prt × RS := (⟨zop r,(tyO (rawS r 2)).1⟩,(tyO (rawS r 2)).2)
theorem prO_ok {r : RS} (h : okP r) : okP (prO r).2 := z9u (zhn 2 h)
def slO (r : RS) : Slt × RS := (⟨zop r,(tyO (rawS r 2)).1,0,(zar inO (tyO (rawS r 2)).2 1).1⟩,(zar inO (tyO (rawS r 2)).2 1).2)
theorem slO_ok {r : RS} (h : okP r) : okP (slO r).2 := z44 (fun _ h => z9w h) (z9u (zhn 2 h)) 1
abbrev VEn (e : En) : DV := .agg (cEn e)
abbrev VPrt (e : Prt) : DV := .agg (cPrt e)
abbrev VSlt (e : Slt) : DV := .agg (cSlt e)
noncomputable def s_tEn : List DV → List DObj → Res := zuq VEn enO
noncomputable def ybu : List DV → List DObj → Res := zuq VPrt prO
noncomputable def ya2 : List DV → List DObj → Res := zuq VSlt slO
theorem tEn_at {hp : List DObj} {n : Nat} (hn : n < hp.length) {r : RS} (h : okP r) (t : List DObj) : s_tEn [.agg [.ptr n 1 0 0]] (one hp n (oP r) ++ t) = ⟨True,.agg (cEn (enO r).1),one hp n (oP (enO r).2) ++ t⟩ := z0d hn h t
theorem tPrt_at {hp : List DObj} {n : Nat} (hn : n < hp.length) {r : RS} (h : okP r) (t : List DObj) : ybu [.agg [.ptr n 1 0 0]] (one hp n (oP r) ++ t) = ⟨True,.agg (cPrt (prO r).1),one hp n (oP (prO r).2) ++ t⟩ := z0d hn h t
theorem tSlt_at {hp : List DObj} {n : Nat} (hn : n < hp.length) {r : RS} (h : okP r) (t : List DObj) : ya2 [.agg [.ptr n 1 0 0]] (one hp n (oP r) ++ t) = ⟨True,.agg (cSlt (slO r).1),one hp n (oP (slO r).2) ++ t⟩ := z0d hn h t
theorem zmw : OkH Tryz.prog 81 s_tEn := by
 refine OkH.mkG (ps := []) (hs := [(117,zm5),(118,z8p)]) trivial ⟨zev,z7r,trivial⟩ zov (fun x a hp h => by rw [h.1]; rfl) (fun x a hp h h1 => ?_)
 obtain ⟨n,r⟩ := x
 obtain ⟨rfl,hh⟩ := h
 have h1 : okP r := h1
 simp only at hh ⊢
 have hn := (List.getElem?_eq_some_iff.1 hh).1
 have es : (⟨za 0 [.agg [.ptr n 1 0 0]],hp⟩ : DS) = ⟨za 0 [.agg [.ptr n 1 0 0]],one hp n (oP r) ++ []⟩ := by rw [List.append_nil,zeh hh]
 rw [es]
 have q0 := zsr hn h1
 have hk1 := zhn 2 h1
 generalize ho : enO r = O
 unfold enO at ho
 generalize rawS r 2 = r1 at q0 hk1 ho
 have q1 := soTx_at hn hk1
 subst ho
 
 (refine Todo.of ?_); (repeat' (first | ((with_reducible refine Todo.to ?_); (repeat (simp only [↓rP,rT,rU,zj,zc,dval,za,zg,zb,retV,DR.val,zo,DV.one,alive,cellsOf,zf,DV.isU,Nat.reduceEqDiff,Nat.reduceAdd,↓reduceIte,reduceCtorEq,Nat.reduceLeDiff,forall_const,zg6,q0,q1,z8,zb6,zds,zat,List.append_assoc,Nat.add_zero ]))) | ((with_reducible refine And.intro ?_ ?_); · first | (trivial) | ((simp; done))) | fail))
 all_goals exact za1 (zbw _ _)
theorem zng : OkH Tryz.prog 83 ybu := by
 refine OkH.mkG (ps := []) (hs := [(117,zm5),(119,s_tTy)]) trivial ⟨zev,zib,trivial⟩ zn4 (fun x a hp h => by rw [h.1]; rfl) (fun x a hp h h1 => ?_)
 obtain ⟨n,r⟩ := x
 obtain ⟨rfl,hh⟩ := h
 have h1 : okP r := h1
 simp only at hh ⊢
 have hn := (List.getElem?_eq_some_iff.1 hh).1
 have es : (⟨za 0 [.agg [.ptr n 1 0 0]],hp⟩ : DS) = ⟨za 0 [.agg [.ptr n 1 0 0]],one hp n (oP r) ++ []⟩ := by rw [List.append_nil,zeh hh]
 rw [es]
 have q0 := zsr hn h1
 have hk1 := zhn 2 h1
 generalize ho : prO r = O
 unfold prO at ho
 generalize rawS r 2 = r1 at q0 hk1 ho
 have q1 := tTy_at hn hk1
 subst ho
 
 (refine Todo.of ?_); (repeat' (first | ((with_reducible refine Todo.to ?_); (repeat (simp only [↓rP,rT,rU,zj,zc,dval,za,zg,zb,retV,DR.val,zo,DV.one,alive,cellsOf,zf,DV.isU,Nat.reduceEqDiff,Nat.reduceAdd,↓reduceIte,reduceCtorEq,Nat.reduceLeDiff,forall_const,zgw,q0,q1,z8,zb6,zds,zat,List.append_assoc,Nat.add_zero ]))) | ((with_reducible refine And.intro ?_ ?_); · first | (trivial) | ((simp; done))) | fail))
 all_goals exact za1 (zbw _ _)
theorem znp : OkH Tryz.prog 85 ya2 := by
 refine OkH.mkG (ps := []) (hs := [(117,zm5),(119,s_tTy),(120,ya7)]) trivial ⟨zev,zib,z6b,trivial⟩ zoq (fun x a hp h => by rw [h.1]; rfl) (fun x a hp h h1 => ?_)
 obtain ⟨n,r⟩ := x
 obtain ⟨rfl,hh⟩ := h
 have h1 : okP r := h1
 simp only at hh ⊢
 have hn := (List.getElem?_eq_some_iff.1 hh).1
 have es : (⟨za 0 [.agg [.ptr n 1 0 0]],hp⟩ : DS) = ⟨za 0 [.agg [.ptr n 1 0 0]],one hp n (oP r) ++ []⟩ := by rw [List.append_nil,zeh hh]
 rw [es]
 have q0 := zsr hn h1
 have hk1 := zhn 2 h1
 generalize ho : slO r = O
 unfold slO at ho
 generalize rawS r 2 = r1 at q0 hk1 ho
 have q1 := tTy_at hn hk1
 have hk2 := z9u hk1
 generalize tyO r1 = p at q1 hk2 ho
 obtain ⟨⟨k1,k2,k3⟩,r2⟩ := p
 simp only [cTy] at q1 hk2 ho
 have q2 := soNu_at hn hk2
 subst ho
 have eo : ∀ o o' t,Only (some n) (one hp n o ++ t) (one hp n o' ++ t) := fun _ _ _ => zxl
 have n1 : ¬ hp.length = n := by omega
 have n2 : ¬ hp.length + (1 + 1) = n := by omega
 have n3 : ¬ hp.length + 2 = n := by omega
 have n4 : ¬ n = hp.length := by omega
 
 (refine Todo.of ?_); (repeat' (first | ((with_reducible refine Todo.to ?_); (repeat (simp only [↓rP,rT,rU,zj,zpa,sepB,hdl,zc,dval,za,zg,zb,retV,DR.val,zo,DV.one,alive,cellsOf,zf,DV.isU,Nat.reduceEqDiff,Nat.reduceAdd,↓reduceIte,reduceCtorEq,Nat.reduceLeDiff,forall_const,zg8,q0,q1,q2,eo,n1,n2,z8,zb6,zds,z8u,zat,zuf,List.append_assoc,Nat.add_zero ]))) | ((with_reducible refine And.intro ?_ ?_); · first | (trivial) | ((simp; done))) | fail))
 all_goals exact za1 (zbw _ _)
end Go.Proofs.YtfaailjhioobhaaGreat
set_option linter.all false
set_option maxRecDepth 20000
namespace Go.Proofs.YtfaailjhioobhaaGreat
open Go.Nk
def gEn (n : Nat) : DV := .meth 81 [.agg [.ptr n 1 0 0]]
theorem snEn (l : List En) (nm : List UInt8) (ct : List (List UInt8)) : l.map cEn ++ [[.str nm,.sl (sls ct)]] = (l ++ [(⟨nm,ct⟩ : En)]).map cEn := by simp [cEn]
noncomputable def z9v : List DV → List DObj → Res := zvc gEn cEn enO
theorem z7i : OkH Tryz.prog 80 z9v := by
 refine OkH.mkG (ps := []) (hs := [(76,zj1),(78,s_Ok),(81,s_tEn)]) trivial ⟨zam,za0,zmw,trivial⟩ zk5 (fun x a hp h => by rw [h.1]; rfl) (fun x a hp h h1 => ?_)
 obtain ⟨n,r,z⟩ := x
 obtain ⟨rfl,hh⟩ := h
 obtain ⟨hr,hz⟩ : okP r ∧ (z = 1 ∨ z = 2) := h1
 simp only at hh ⊢
 have hn := (List.getElem?_eq_some_iff.1 hh).1
 have es : (⟨za 0 [.agg [.ptr n 1 0 0],.int .i64 z,gEn n],hp⟩ : DS) = ⟨za 0 [.agg [.ptr n 1 0 0],.int .i64 z,gEn n],one hp n (oP r) ++ []⟩ := by rw [List.append_nil,zeh hh]
 rw [es]
 have q0 := zd7 hn hr z
 obtain ⟨n0,n1,-⟩ := zhw r hz
 generalize hG : zar enO r z = G
 unfold zar at hG
 have hr' := zav (szN z) hr
 generalize z9 r (szN z) = r1 at q0 hG hr'
 generalize numV r z = N at q0 n0 n1 hG
 clear hr hz hh
 
 unfold gEn
 (refine Todo.of ?_); (repeat' (first | ((with_reducible refine Todo.to ?_); (repeat (simp only [↓rP,rT,rU,zc,dval,za,zg,zb,DV.one,alive,cellsOf,Nat.reduceEqDiff,Nat.reduceAdd,↓reduceIte,reduceCtorEq,forall_const,ze0,q0,z8,zb6,List.append_assoc,Nat.add_zero ])))))
 refine zaa (fun x : Nat × RS × List En × List DObj => ⟨[(2,.meth 81 [.agg [.ptr n 1 0 0]]),(3,.ptr hp.length 1 0 0),(7,.own (hp.length + 1) x.2.2.1.length 0 x.2.2.1.length),(12,.int .i64 N),(13,.int .i64 x.1)],one hp n (oP x.2.1) ++ (⟨.loc,1,[[.ptr n 1 0 0]]⟩ :: ⟨.imm,2,x.2.2.1.map cEn⟩ :: x.2.2.2)⟩) (fun x => x.1 ≤ N.toNat ∧ x.2.2.1.length = x.1 ∧ okP x.2.1 ∧ goF enO (N.toNat - x.1) x.2.1 x.2.2.1 = G) (fun x => N.toNat - x.1) (0,r1,[],[]) trivial (by simp only [zn,List.map_cons,List.map_nil,zd,Nk.get_nil,Nat.reduceEqDiff,↓reduceIte,Nat.succ_ne_self,reduceCtorEq,List.length_nil] <;> rfl) ⟨Nat.zero_le _,rfl,hr',hG⟩ fun x hx => ?_
 obtain ⟨k,s,acc,t⟩ := x
 obtain ⟨hk,hl,hs,hg⟩ := hx
 simp only at hk hl hs hg ⊢
 by_cases d : (k : Int) < N
 · have wk := zci (k := k) (n := N.toNat) (by omega) (by omega)
   have hkN : k < N.toNat := by omega
   have d' : decide ((k : Int) < N) = true := decide_eq_true d
   have st := zos hkN hg
   have q1 := tEn_at hn hs
   have hs2 := enO_ok hs
   generalize enO s = p at q1 hs2 st
   obtain ⟨v,s2⟩ := p
   simp only at q1 hs2 st
   obtain ⟨nm,ct⟩ := v
   simp only [cEn] at q1
   have q2 := fun t => zp2 (r := s2) hn t
   have hq : acc.length + 1 ≤ 100000 := by omega
   cases c : s2.isSome
   · rw [c] at q2 st
     simp only [Bool.false_eq_true,↓reduceIte] at st
     subst st
     have e2 := zqs c
     subst e2
     (refine Todo.of ?_); (repeat' (first | ((with_reducible refine Todo.to ?_); (repeat (simp only [↓rP,rT,rU,zc,dval,dBin,dInt,dUn,zg,zb,retV,DR.val,fzV,fz1,zo,DV.one,alive,cellsOf,zf,Nat.reduceEqDiff,Nat.reduceAdd,↓reduceIte,reduceCtorEq,Nat.reduceLeDiff,forall_const,d',q1,q2,z8,zb6,zw2,zik,List.append_assoc,Nat.add_zero ]))) | ((with_reducible refine And.intro ?_ ?_); · first | (trivial) | ((simp; done))) | fail))
     all_goals exact za1 (zbw _ _)
   · rw [c] at q2 st
     simp only [↓reduceIte] at st
     (have hcondQ := Bool.and_self; refine Todo.of ?_); (repeat' (first | ((with_reducible refine Todo.to ?_); (repeat (simp only [↓rP,rT,rU,zc,dval,dBin,dInt,dUn,zg,zb,fz1,DV.immB,zi,zao,zo,DV.one,alive,fzLL,fzL,bRow,bU,cellsOf,zf,DV.isU,zal,Nat.reduceEqDiff,Nat.reduceAdd,↓reduceIte,reduceCtorEq,Nat.reduceLeDiff,forall_const,d',wk,q1,q2,snEn,z8,zb6,zds,zw2,zat,zik,List.append_assoc,Nat.add_zero ,hcondQ]))) | ((with_reducible refine And.intro ?_ ?_); · omega) | fail))
     exact ⟨(k + 1,s2,acc ++ [⟨nm,ct⟩],t ++ [⟨.loc,2,[cEn ⟨nm,ct⟩]⟩]),by simp only [zn,List.map_cons,List.map_nil,zd,Nk.get_nil,Nat.reduceEqDiff,↓reduceIte,Nat.succ_ne_self,Int.natCast_add,Int.natCast_one,List.length_append,List.length_cons,List.length_nil,Nat.zero_add] <;> rfl,⟨by simp only; omega,by simp only [List.length_append,List.length_cons,List.length_nil]; omega,hs2,st⟩,by simp only; omega⟩
 · have d' : decide ((k : Int) < N) = false := decide_eq_false d
   have st := zud (by omega) hg
   subst st
   have ht : List.take acc.length (acc.map cEn) = acc.map cEn := List.take_of_length_le (by simp)
   (refine Todo.of ?_); (repeat' (first | ((with_reducible refine Todo.to ?_); (repeat (simp only [↓rP,rT,rU,zc,dval,dBin,dInt,retV,DR.val,fzV,fz1,zi,freezeAt,Nat.reduceEqDiff,↓reduceIte,reduceCtorEq,d',ht,z8,zds,zat ]))) | ((with_reducible refine And.intro ?_ ?_); · first | (trivial) | (omega) | ((simp; done))) | fail))
   all_goals exact za1 (zbw _ _)
def gPrt (n : Nat) : DV := .meth 83 [.agg [.ptr n 1 0 0]]
theorem snPrt (l : List Prt) (nm : List UInt8) (k1 k2 k3 : Int) : l.map cPrt ++ [[.str nm,.int .i64 k1,.int .i64 k2,.int .i64 k3]] = (l ++ [(⟨nm,⟨k1,k2,k3⟩⟩ : Prt)]).map cPrt := by simp [cPrt]
noncomputable def zyl : List DV → List DObj → Res := zvc gPrt cPrt prO
theorem z1l : OkH Tryz.prog 82 zyl := by
 refine OkH.mkG (ps := []) (hs := [(76,zj1),(78,s_Ok),(83,ybu)]) trivial ⟨zam,za0,zng,trivial⟩ zku (fun x a hp h => by rw [h.1]; rfl) (fun x a hp h h1 => ?_)
 obtain ⟨n,r,z⟩ := x
 obtain ⟨rfl,hh⟩ := h
 obtain ⟨hr,hz⟩ : okP r ∧ (z = 1 ∨ z = 2) := h1
 simp only at hh ⊢
 have hn := (List.getElem?_eq_some_iff.1 hh).1
 have es : (⟨za 0 [.agg [.ptr n 1 0 0],.int .i64 z,gPrt n],hp⟩ : DS) = ⟨za 0 [.agg [.ptr n 1 0 0],.int .i64 z,gPrt n],one hp n (oP r) ++ []⟩ := by rw [List.append_nil,zeh hh]
 rw [es]
 have q0 := zd7 hn hr z
 obtain ⟨n0,n1,-⟩ := zhw r hz
 generalize hG : zar prO r z = G
 unfold zar at hG
 have hr' := zav (szN z) hr
 generalize z9 r (szN z) = r1 at q0 hG hr'
 generalize numV r z = N at q0 n0 n1 hG
 clear hr hz hh
 
 unfold gPrt
 (refine Todo.of ?_); (repeat' (first | ((with_reducible refine Todo.to ?_); (repeat (simp only [↓rP,rT,rU,zc,dval,za,zg,zb,DV.one,alive,cellsOf,Nat.reduceEqDiff,Nat.reduceAdd,↓reduceIte,reduceCtorEq,forall_const,zfg,q0,z8,zb6,List.append_assoc,Nat.add_zero ])))))
 refine zaa (fun x : Nat × RS × List Prt × List DObj => ⟨[(2,.meth 83 [.agg [.ptr n 1 0 0]]),(3,.ptr hp.length 1 0 0),(7,.own (hp.length + 1) x.2.2.1.length 0 x.2.2.1.length),(12,.int .i64 N),(13,.int .i64 x.1)],one hp n (oP x.2.1) ++ (⟨.loc,1,[[.ptr n 1 0 0]]⟩ :: ⟨.imm,4,x.2.2.1.map cPrt⟩ :: x.2.2.2)⟩) (fun x => x.1 ≤ N.toNat ∧ x.2.2.1.length = x.1 ∧ okP x.2.1 ∧ goF prO (N.toNat - x.1) x.2.1 x.2.2.1 = G) (fun x => N.toNat - x.1) (0,r1,[],[]) trivial (by simp only [zn,List.map_cons,List.map_nil,zd,Nk.get_nil,Nat.reduceEqDiff,↓reduceIte,Nat.succ_ne_self,reduceCtorEq,List.length_nil] <;> rfl) ⟨Nat.zero_le _,rfl,hr',hG⟩ fun x hx => ?_
 obtain ⟨k,s,acc,t⟩ := x
 obtain ⟨hk,hl,hs,hg⟩ := hx
 simp only at hk hl hs hg ⊢
 by_cases d : (k : Int) < N
 · have wk := zci (k := k) (n := N.toNat) (by omega) (by omega)
   have hkN : k < N.toNat := by omega
   have d' : decide ((k : Int) < N) = true := decide_eq_true d
   have st := zos hkN hg
   have q1 := tPrt_at hn hs
   have hs2 := prO_ok hs
   generalize prO s = p at q1 hs2 st
   obtain ⟨v,s2⟩ := p
   simp only at q1 hs2 st
   obtain ⟨nm,⟨k1,k2,k3⟩⟩ := v
   simp only [cPrt] at q1
   have q2 := fun t => zp2 (r := s2) hn t
   have hq : acc.length + 1 ≤ 100000 := by omega
   cases c : s2.isSome
   · rw [c] at q2 st
     simp only [Bool.false_eq_true,↓reduceIte] at st
     subst st
     have e2 := zqs c
     subst e2
     (refine Todo.of ?_); (repeat' (first | ((with_reducible refine Todo.to ?_); (repeat (simp only [↓rP,rT,rU,zc,dval,dBin,dInt,dUn,zg,zb,retV,DR.val,fzV,fz1,zo,DV.one,alive,cellsOf,zf,Nat.reduceEqDiff,Nat.reduceAdd,↓reduceIte,reduceCtorEq,Nat.reduceLeDiff,forall_const,d',q1,q2,z8,zb6,zw2,zik,List.append_assoc,Nat.add_zero ]))) | ((with_reducible refine And.intro ?_ ?_); · first | (trivial) | ((simp; done))) | fail))
     all_goals exact za1 (zbw _ _)
   · rw [c] at q2 st
     simp only [↓reduceIte] at st
     (have hcondQ := Bool.and_self; refine Todo.of ?_); (repeat' (first | ((with_reducible refine Todo.to ?_); (repeat (simp only [↓rP,rT,rU,zc,dval,dBin,dInt,dUn,zg,zb,fz1,DV.immB,zi,zao,zo,DV.one,alive,fzLL,fzL,bRow,bU,cellsOf,zf,DV.isU,zal,Nat.reduceEqDiff,Nat.reduceAdd,↓reduceIte,reduceCtorEq,Nat.reduceLeDiff,forall_const,d',wk,q1,q2,snPrt,z8,zb6,zds,zw2,zat,zik,List.append_assoc,Nat.add_zero ,hcondQ]))) | ((with_reducible refine And.intro ?_ ?_); · omega) | fail))
     exact ⟨(k + 1,s2,acc ++ [⟨nm,⟨k1,k2,k3⟩⟩],t ++ [⟨.loc,4,[cPrt ⟨nm,⟨k1,k2,k3⟩⟩]⟩]),by simp only [zn,List.map_cons,List.map_nil,zd,Nk.get_nil,Nat.reduceEqDiff,↓reduceIte,Nat.succ_ne_self,Int.natCast_add,Int.natCast_one,List.length_append,List.length_cons,List.length_nil,Nat.zero_add] <;> rfl,⟨by simp only; omega,by simp only [List.length_append,List.length_cons,List.length_nil]; omega,hs2,st⟩,by simp only; omega⟩
 · have d' : decide ((k : Int) < N) = false := decide_eq_false d
   have st := zud (by omega) hg
   subst st
   have ht : List.take acc.length (acc.map cPrt) = acc.map cPrt := List.take_of_length_le (by simp)
   (refine Todo.of ?_); (repeat' (first | ((with_reducible refine Todo.to ?_); (repeat (simp only [↓rP,rT,rU,zc,dval,dBin,dInt,retV,DR.val,fzV,fz1,zi,freezeAt,Nat.reduceEqDiff,↓reduceIte,reduceCtorEq,d',ht,z8,zds,zat ]))) | ((with_reducible refine And.intro ?_ ?_); · first | (trivial) | (omega) | ((simp; done))) | fail))
   all_goals exact za1 (zbw _ _)
def gSlt (n : Nat) : DV := .meth 85 [.agg [.ptr n 1 0 0]]
theorem snSlt (l : List Slt) (nm : List UInt8) (k1 k2 k3 at_ : Int) (ini : List Int) : l.map cSlt ++ [[.str nm,.int .i64 k1,.int .i64 k2,.int .i64 k3,.int .i64 at_,.sl (ils ini)]] = (l ++ [(⟨nm,⟨k1,k2,k3⟩,at_,ini⟩ : Slt)]).map cSlt := by simp [cSlt]
structure SlR where
 l : List Slt
 s : RS
 j : List DObj
 p : Nat
def celS (x : Slt) : DObj := ⟨.loc,6,[cSlt x]⟩
def goS (f : RS → Slt × RS) : Nat → RS → List Slt → SlR
 | 0,r,acc => ⟨acc,r,⟨.imm,6,acc.map cSlt⟩ :: acc.map celS,0⟩
 | k + 1,r,acc => if (f r).2.isSome then goS f k (f r).2 (acc ++ [(f r).1]) else ⟨[],none,⟨.imm,6,acc.map cSlt⟩ :: ((acc ++ [(f r).1]).map celS ++ [⟨.imm,6,[]⟩]),acc.length + 1 + 1⟩
theorem ybi (f : RS → Slt × RS) : ∀ (k : Nat) (r : RS) (acc : List Slt),((goS f k r acc).l,(goS f k r acc).s) = goF f k r acc
 | 0,_,_ => rfl
 | k + 1,r,acc => by
   unfold goS goF
   split
   · exact ybi f k _ _
   · rfl
theorem goS_at (f : RS → Slt × RS) : ∀ (k : Nat) (r : RS) (acc : List Slt),(goS f k r acc).j[(goS f k r acc).p]? = some ⟨.imm,6,(goS f k r acc).l.map cSlt⟩
 | 0,_,_ => rfl
 | k + 1,r,acc => by
   unfold goS
   split
   · exact goS_at f k _ _
   · show (⟨.imm,6,acc.map cSlt⟩ :: ((acc ++ [(f r).1]).map celS ++ [(⟨.imm,6,[]⟩ : DObj)]))[acc.length + 1 + 1]? = _
     rw [List.getElem?_cons_succ,List.getElem?_append_right (by simp)]
     simp
def zcy (r : RS) (z : Int) : SlR := goS slO (numV r z).toNat (z9 r (szN z)) []
theorem z7f (r : RS) (z : Int) : ((zcy r z).l,(zcy r z).s) = zar slO r z := ybi _ _ _ _
theorem goS_step {N k : Nat} {r : RS} {acc : List Slt} {G : SlR} (hk : k < N) (h : goS slO (N - k) r acc = G) :
   if (slO r).2.isSome then goS slO (N - (k + 1)) (slO r).2 (acc ++ [(slO r).1]) = G else G = ⟨[],none,⟨.imm,6,acc.map cSlt⟩ :: ((acc ++ [(slO r).1]).map celS ++ [⟨.imm,6,[]⟩]),acc.length + 1 + 1⟩ := by
 have e : N - k = (N - (k + 1)) + 1 := by omega
 rw [e] at h
 unfold goS at h
 split
 · rename_i c; rw [if_pos c] at h; exact h
 · rename_i c; rw [if_neg c] at h; exact h.symm
theorem goS_end {N k : Nat} {r : RS} {acc : List Slt} {G : SlR} (hk : ¬ k < N) (h : goS slO (N - k) r acc = G) : G = ⟨acc,r,⟨.imm,6,acc.map cSlt⟩ :: acc.map celS,0⟩ := by
 have e : N - k = 0 := by omega
 rw [e] at h
 exact h.symm
def rSoL (x : Nat × RS × Int × Nat) (a : List DV) (hp : List DObj) : Prop := rSoG gSlt (x.1,x.2.1,x.2.2.1) a hp ∧ hp.length = x.2.2.2
theorem rSoL_u : ∀ x y a hp,rSoL x a hp → rSoL y a hp → x = y := by
 rintro ⟨n,r,z,m⟩ ⟨n',r',z',m'⟩ a hp ⟨h1,h2⟩ ⟨h3,h4⟩
 have e := rSoG_u _ _ _ _ _ h1 h3
 simp only [Prod.mk.injEq] at e h2 h4 ⊢
 exact ⟨e.1,e.2.1,e.2.2,h2.symm.trans h4⟩
noncomputable def zx7 : List DV → List DObj → Res :=
 zee rSoL (fun x => (okP x.2.1 ∧ (x.2.2.1 = 1 ∨ x.2.2.1 = 2),.own (x.2.2.2 + ((zcy x.2.1 x.2.2.1).p + 1)) (zcy x.2.1 x.2.2.1).l.length 0 (zcy x.2.1 x.2.2.1).l.length)) (fun x hp => one hp x.1 (oP (zcy x.2.1 x.2.2.1).s) ++ (⟨.loc,1,[[.ptr x.1 1 0 0]]⟩ :: (zcy x.2.1 x.2.2.1).j))
theorem soSlt_at {hp : List DObj} {n : Nat} {r : RS} {z : Int} (h : hp[n]? = some (oP r)) : zx7 [.agg [.ptr n 1 0 0],.int .i64 z,gSlt n] hp = ⟨okP r ∧ (z = 1 ∨ z = 2),.own (hp.length + ((zcy r z).p + 1)) (zcy r z).l.length 0 (zcy r z).l.length,one hp n (oP (zcy r z).s) ++ (⟨.loc,1,[[.ptr n 1 0 0]]⟩ :: (zcy r z).j)⟩ := za5 (x := (n,r,z,hp.length)) rSoL_u ⟨⟨rfl,h⟩,rfl⟩
theorem z26 : OkH Tryz.prog 84 zx7 := by
 refine OkH.mkGH (ps := []) (hs := [(76,zj1),(78,s_Ok),(85,ya2)]) trivial ⟨zam,za0,znp,trivial⟩ zkh (fun x a hp h => by rw [h.1.1]; rfl) (fun x a hp h h1 => ?_)
 obtain ⟨n,r,z,hl0⟩ := x
 obtain ⟨⟨rfl,hh⟩,hl1⟩ := h
 obtain ⟨hr,hz⟩ : okP r ∧ (z = 1 ∨ z = 2) := h1
 simp only at hh hl1 ⊢
 subst hl1
 have hn := (List.getElem?_eq_some_iff.1 hh).1
 have es : (⟨za 0 [.agg [.ptr n 1 0 0],.int .i64 z,gSlt n],hp⟩ : DS) = ⟨za 0 [.agg [.ptr n 1 0 0],.int .i64 z,gSlt n],one hp n (oP r) ++ []⟩ := by rw [List.append_nil,zeh hh]
 rw [es]
 have q0 := zd7 hn hr z
 obtain ⟨n0,n1,-⟩ := zhw r hz
 generalize hG : zcy r z = G
 unfold zcy at hG
 have hr' := zav (szN z) hr
 generalize z9 r (szN z) = r1 at q0 hG hr'
 generalize numV r z = N at q0 n0 n1 hG
 clear hr hz hh
 
 unfold gSlt
 (refine Todo.of ?_); (repeat' (first | ((with_reducible refine Todo.to ?_); (repeat (simp only [↓rP,rT,rU,zc,dval,za,zg,zb,DV.one,alive,cellsOf,Nat.reduceEqDiff,Nat.reduceAdd,↓reduceIte,reduceCtorEq,forall_const,ze8,q0,z8,zb6,List.append_assoc,Nat.add_zero ])))))
 refine zaa (fun x : Nat × RS × List Slt × List DObj => ⟨[(2,.meth 85 [.agg [.ptr n 1 0 0]]),(3,.ptr hp.length 1 0 0),(7,.own (hp.length + 1) x.2.2.1.length 0 x.2.2.1.length),(12,.int .i64 N),(13,.int .i64 x.1)],one hp n (oP x.2.1) ++ (⟨.loc,1,[[.ptr n 1 0 0]]⟩ :: ⟨.imm,6,x.2.2.1.map cSlt⟩ :: x.2.2.2)⟩) (fun x => x.1 ≤ N.toNat ∧ x.2.2.1.length = x.1 ∧ okP x.2.1 ∧ goS slO (N.toNat - x.1) x.2.1 x.2.2.1 = G ∧ x.2.2.2 = x.2.2.1.map celS) (fun x => N.toNat - x.1) (0,r1,[],[]) trivial (by simp only [zn,List.map_cons,List.map_nil,zd,Nk.get_nil,Nat.reduceEqDiff,↓reduceIte,Nat.succ_ne_self,reduceCtorEq,List.length_nil] <;> rfl) ⟨Nat.zero_le _,rfl,hr',hG,rfl⟩ fun x hx => ?_
 obtain ⟨k,s,acc,t⟩ := x
 obtain ⟨hk,hl,hs,hg,ht⟩ := hx
 simp only at hk hl hs hg ht ⊢
 by_cases d : (k : Int) < N
 · have wk := zci (k := k) (n := N.toNat) (by omega) (by omega)
   have hkN : k < N.toNat := by omega
   have d' : decide ((k : Int) < N) = true := decide_eq_true d
   have st := goS_step hkN hg
   have q1 := tSlt_at hn hs
   have hs2 := slO_ok hs
   generalize slO s = p at q1 hs2 st
   obtain ⟨v,s2⟩ := p
   simp only at q1 hs2 st
   obtain ⟨nm,⟨k1,k2,k3⟩,at_,ini⟩ := v
   simp only [cSlt] at q1
   have q2 := fun t => zp2 (r := s2) hn t
   have hq : acc.length + 1 ≤ 100000 := by omega
   cases c : s2.isSome
   · rw [c] at q2 st
     simp only [Bool.false_eq_true,↓reduceIte] at st
     subst st
     have e2 := zqs c
     subst e2
     (refine Todo.of ?_); (repeat' (first | ((with_reducible refine Todo.to ?_); (repeat (simp only [↓rP,rT,rU,zc,dval,dBin,dInt,dUn,zg,zb,retV,DR.val,zo,DV.one,alive,cellsOf,zf,Nat.reduceEqDiff,Nat.reduceAdd,↓reduceIte,reduceCtorEq,Nat.reduceLeDiff,forall_const,d',q1,q2,z8,zb6,zw2,zik,List.append_assoc,Nat.add_zero ])))))
     all_goals (subst ht; simp [celS,cSlt])
   · rw [c] at q2 st
     simp only [↓reduceIte] at st
     (have hcondQ := Bool.and_self; refine Todo.of ?_); (repeat' (first | ((with_reducible refine Todo.to ?_); (repeat (simp only [↓rP,rT,rU,zc,dval,dBin,dInt,dUn,zg,zb,fz1,DV.immB,zi,zao,zo,DV.one,alive,fzLL,fzL,bRow,bU,cellsOf,zf,DV.isU,zal,Nat.reduceEqDiff,Nat.reduceAdd,↓reduceIte,reduceCtorEq,Nat.reduceLeDiff,forall_const,d',wk,q1,q2,snSlt,z8,zb6,zds,zw2,zat,zik,List.append_assoc,Nat.add_zero ,hcondQ]))) | ((with_reducible refine And.intro ?_ ?_); · omega) | fail))
     exact ⟨(k + 1,s2,acc ++ [⟨nm,⟨k1,k2,k3⟩,at_,ini⟩],t ++ [⟨.loc,6,[cSlt ⟨nm,⟨k1,k2,k3⟩,at_,ini⟩]⟩]),by simp only [zn,List.map_cons,List.map_nil,zd,Nk.get_nil,Nat.reduceEqDiff,↓reduceIte,Nat.succ_ne_self,Int.natCast_add,Int.natCast_one,List.length_append,List.length_cons,List.length_nil,Nat.zero_add] <;> rfl,⟨by simp only; omega,by simp only [List.length_append,List.length_cons,List.length_nil]; omega,hs2,st,by rw [ht]; simp [celS]⟩,by simp only; omega⟩
 · have d' : decide ((k : Int) < N) = false := decide_eq_false d
   have st := goS_end (by omega) hg
   subst st
   subst ht
   (refine Todo.of ?_); (repeat' (first | ((with_reducible refine Todo.to ?_); (repeat (simp only [↓rP,rT,zc,dval,dBin,dInt,retV,DR.val,Nat.reduceEqDiff,↓reduceIte,d' ])))))
end Go.Proofs.YtfaailjhioobhaaGreat
