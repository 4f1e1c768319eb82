/- What is read, and the bytes it stands for: the one gives the other back. -/
import Derived.Test.YtfaailjhioobhaaGreatJmG
import Derived.Test.YtfaailjhioobhaaGreatSlA
set_option linter.all false
set_option maxRecDepth 20000
namespace Go.Proofs.YtfaailjhioobhaaGreat
open Go.Nk
structure Cod {α : Type} (f : RS → α × RS) (b : α → List UInt8) (V : α → Prop) : Prop where
 src : ∀ r l a',(f r).2 = some (l,a') → ∃ a,r = some (l,a)
 back : ∀ l a x,AtB l a (b x) → V x → f (some (l,a)) = (x,some (l,a + (b x).length))
 inv : ∀ l a x a',f (some (l,a)) = (x,some (l,a')) → a' = a + (b x).length ∧ a' ≤ l.length ∧ AtB l a (b x) ∧ V x
theorem zkn {r : RS} {k : Int} {l : List UInt8} {a' : Nat} (h : z9 r k = some (l,a')) : ∃ a,r = some (l,a) := by
 rcases r with _ | ⟨l0,a0⟩
 · cases h
 · obtain ⟨b,hb⟩ := zij h
   simp only [Prod.mk.injEq] at hb
   obtain ⟨rfl,_⟩ := hb
   exact ⟨a0,rfl⟩
theorem zsi {r : RS} {k : Int} {l : List UInt8} {a' : Nat} (h : rawS r k = some (l,a')) : ∃ a,r = some (l,a) := by
 obtain ⟨b,hb⟩ := zkn h
 exact zkn hb
theorem intS_src {r : RS} {l : List UInt8} {a' : Nat} (h : intS r = some (l,a')) : ∃ a,r = some (l,a) := by
 unfold intS at h
 split at h
 · split at h
   · cases h
   · exact zsi h
 · cases h
def numO (z : Int) (r : RS) : Int × RS := (numV r z,z9 r (szN z))
theorem z1b {z : Int} (hz : z = 1 ∨ z = 2) : Cod (numO z) (fun n => putL n.toNat z.toNat) (fun n => 0 ≤ n ∧ n < 256 ^ z.toNat) where
 src r l a' h := zkn h
 back l a x h hx := by
   obtain ⟨h1,h2⟩ := zix h hz hx
   simp only [numO,h1,h2,ze]
 inv l a x a' h := by
   simp only [numO,Prod.mk.injEq] at h
   obtain ⟨rfl,h⟩ := h
   obtain ⟨h1,h2,h3,h4⟩ := zem hz h
   refine ⟨by simp only [ze]; exact h1,h2,h3,h4,?_⟩
   have := zhw (some (l,a)) hz
   rcases hz with rfl | rfl
   · have e := this.2.2 rfl
     have : (256 : Int) ^ (1 : Int).toNat = 256 := rfl
     omega
   · have e := this.2.1
     have : (256 : Int) ^ (2 : Int).toNat = 65536 := rfl
     omega
theorem cod_int : Cod inO intL zbd where
 src r l a' h := intS_src h
 back l a x h hx := by
   obtain ⟨h1,h2⟩ := at_int h hx
   simp only [inO,h1,h2]
 inv l a x a' h := by
   simp only [inO,Prod.mk.injEq] at h
   obtain ⟨rfl,h⟩ := h
   exact int_inv h
theorem nxt_at {l c : List UInt8} {a : Nat} (h : AtB l a c) : nxt l (some a) (c.length : Int) = (some c,some (a + c.length)) := by
 obtain ⟨pre,post,rfl,rfl⟩ := h
 unfold nxt
 simp only [List.length_append,Int.toNat_natCast]
 rw [if_pos (by omega)]
 simp [List.take_append]
theorem zss : Cod txO (fun c => putL c.length 2 ++ c) (fun c => c.length < 65536) where
 src r l a' h := zsi h
 back l a x h hx := by
   obtain ⟨h1,h2⟩ := h.app
   rw [ze] at h2
   have h1' : AtB l a (putL ((x.length : Int)).toNat (2 : Int).toNat) := h1
   have e2 : (256 : Int) ^ (2 : Int).toNat = 65536 := rfl
   obtain ⟨n1,n2⟩ := zix h1' (.inr rfl) (by rw [e2]; omega)
   have n2 : z9 (some (l,a)) (szN 2) = some (l,a + 2) := n2
   have q := nxt_at h2
   have t1 : zop (some (l,a)) = x := by
     unfold zop rawV
     rw [n2,n1]
     unfold zb1
     simp only [q,Option.getD_some]
   have t2 : rawS (some (l,a)) 2 = some (l,a + 2 + x.length) := by
     unfold rawS
     rw [n2,n1]
     unfold z9
     simp only [q,toP,Option.map_some]
   simp only [txO,t1,t2,List.length_append,ze,Nat.add_assoc]
 inv l a x a' h := by
   simp only [txO,Prod.mk.injEq] at h
   obtain ⟨hx,h⟩ := h
   unfold rawS at h
   cases h1 : z9 (some (l,a)) (szN 2) with
   | none => rw [h1] at h; cases h
   | some q =>
     obtain ⟨b,rfl⟩ := zij h1
     obtain ⟨n1,n2,n3,n4⟩ := zem (.inr rfl) h1
     have hlt := (zhw (some (l,a)) (z := 2) (.inr rfl)).2.1
     unfold zop rawV at hx
     rw [h1] at h hx
     generalize numV (some (l,a)) 2 = k at h hx n3 n4 hlt
     have h2 : (nxt l (some b) k).2 = some a' := by
       unfold z9 toP at h
       cases w : (nxt l (some b) k).2 with
       | none => simp [w] at h
       | some d => simp [w] at h; rw [h]
     obtain ⟨m1,m2,m3,m4⟩ := ztx h2
     have hc : x = (l.take a').drop b := by
       unfold zb1 at hx
       simp only [m4,Option.getD_some] at hx
       exact hx.symm
     have hlen : x.length = k.toNat := by rw [hc,List.length_drop,List.length_take]; omega
     have g : AtB l b x := by rw [hc]; exact ztq (by omega) m3
     have h2n : (2 : Int).toNat = 2 := rfl
     rw [h2n] at n1 n3
     rw [← hlen] at n3
     refine ⟨by rw [List.length_append,ze]; omega,m3,n3.join ?_,by omega⟩
     rw [ze,← n1]
     exact g
theorem zqu {α β : Type} {f : RS → α × RS} {g : RS → β × RS} {b : α → List UInt8} {c : β → List UInt8} {V : α → Prop} {W : β → Prop} (hf : Cod f b V) (hg : Cod g c W) :
   Cod (fun r => (((f r).1,(g (f r).2).1),(g (f r).2).2)) (fun x => b x.1 ++ c x.2) (fun x => V x.1 ∧ W x.2) where
 src r l a' h := by
   obtain ⟨a1,h1⟩ := hg.src _ l a' h
   exact hf.src r l a1 h1
 back l a x h hx := by
   obtain ⟨h1,h2⟩ := h.app
   have e1 := hf.back l a x.1 h1 hx.1
   have e2 := hg.back l _ x.2 h2 hx.2
   simp only [e1,e2,List.length_append,Nat.add_assoc]
 inv l a x a' h := by
   simp only [Prod.mk.injEq] at h
   obtain ⟨hx,h⟩ := h
   obtain ⟨a1,h1⟩ := hg.src _ l a' h
   have e1 := hf.inv l a (f (some (l,a))).1 a1 (by rw [← h1])
   rw [h1] at h hx
   have e2 := hg.inv l a1 (g (some (l,a1))).1 a' (by rw [← h])
   subst hx
   simp only
   refine ⟨by rw [List.length_append]; omega,e2.2.1,e1.2.2.1.join ?_,e1.2.2.2,e2.2.2.2⟩
   rw [← e1.1]
   exact e2.2.2.1
theorem zys {α β : Type} {f : RS → α × RS} {b : α → List UInt8} {V : α → Prop} (hf : Cod f b V) (m : α → β) (m' : β → α) (hm : ∀ x,m' (m x) = x) :
   Cod (fun r => (m (f r).1,(f r).2)) (fun y => b (m' y)) (fun y => V (m' y) ∧ m (m' y) = y) where
 src r l a' h := hf.src r l a' h
 back l a x h hx := by
   have e1 := hf.back l a (m' x) h hx.1
   simp only [e1,hx.2]
 inv l a x a' h := by
   simp only [Prod.mk.injEq] at h
   obtain ⟨rfl,h⟩ := h
   have e1 := hf.inv l a (f (some (l,a))).1 a' (by rw [← h])
   rw [hm]
   exact ⟨e1.1,e1.2.1,e1.2.2.1,e1.2.2.2,rfl⟩
theorem zyx {α : Type} {f : RS → α × RS} (hf : ∀ r l a',(f r).2 = some (l,a') → ∃ a,r = some (l,a)) : ∀ (k : Nat) (r : RS) (acc : List α) (l : List UInt8) (a' : Nat),(goF f k r acc).2 = some (l,a') → ∃ a,r = some (l,a)
 | 0,r,_,l,a',h => ⟨a',h⟩
 | k + 1,r,acc,l,a',h => by
   unfold goF at h
   split at h
   · obtain ⟨a1,h1⟩ := zyx hf k _ _ l a' h
     exact hf r l a1 h1
   · cases h
theorem z30 {α : Type} {f : RS → α × RS} {b : α → List UInt8} {V : α → Prop} (hf : Cod f b V) (l : List UInt8) : ∀ (xs : List α) (a : Nat) (acc : List α),AtB l a (xs.flatMap b) → (∀ x ∈ xs,V x) → goF f xs.length (some (l,a)) acc = (acc ++ xs,some (l,a + (xs.flatMap b).length))
 | [],a,acc,_,_ => by simp [goF]
 | x :: xs,a,acc,h,hV => by
   rw [List.flatMap_cons] at h
   obtain ⟨h1,h2⟩ := h.app
   have e1 := hf.back l a x h1 (hV x (by simp))
   have ih := z30 hf l xs _ (acc ++ [x]) h2 fun y hy => hV y (by simp [hy])
   rw [List.length_cons]
   unfold goF
   rw [e1]
   simp only [Option.isSome_some,↓reduceIte]
   rw [ih]
   simp [Nat.add_assoc]
theorem ybq {α : Type} {f : RS → α × RS} {b : α → List UInt8} {V : α → Prop} (hf : Cod f b V) (l : List UInt8) : ∀ (k : Nat) (a : Nat) (acc ys : List α) (a' : Nat),a ≤ l.length → goF f k (some (l,a)) acc = (ys,some (l,a')) → ∃ xs,ys = acc ++ xs ∧ xs.length = k ∧ a' = a + (xs.flatMap b).length ∧ a' ≤ l.length ∧ AtB l a (xs.flatMap b) ∧ ∀ x ∈ xs,V x
 | 0,a,acc,ys,a',ha,h => by
   simp only [goF,Prod.mk.injEq,Option.some.injEq,true_and] at h
   obtain ⟨rfl,rfl⟩ := h
   exact ⟨[],by simp,rfl,by simp,ha,⟨l.take a,l.drop a,by simp,by simp; omega⟩,fun x hx => by cases hx⟩
 | k + 1,a,acc,ys,a',ha,h => by
   unfold goF at h
   split at h
   · have h2 : (goF f k (f (some (l,a))).2 (acc ++ [(f (some (l,a))).1])).2 = some (l,a') := by rw [h]
     obtain ⟨a1,h1⟩ := zyx hf.src _ _ _ _ _ h2
     have e1 := hf.inv l a (f (some (l,a))).1 a1 (by rw [← h1])
     rw [h1] at h
     obtain ⟨xs,e2,e3,e4,e5,e6,e7⟩ := ybq hf l k a1 _ ys a' e1.2.1 h
     refine ⟨(f (some (l,a))).1 :: xs,by rw [e2]; simp,by simp [e3],?_,e5,?_,fun y hy => ?_⟩
     · rw [List.flatMap_cons,List.length_append]; omega
     · rw [List.flatMap_cons]
       refine e1.2.2.1.join ?_
       rw [← e1.1]
       exact e6
     · rcases List.mem_cons.1 hy with rfl | hy
       · exact e1.2.2.2
       · exact e7 y hy
   · simp only [Prod.mk.injEq,reduceCtorEq,and_false] at h
theorem zlg {α : Type} {f : RS → α × RS} {b : α → List UInt8} {V : α → Prop} (hf : Cod f b V) {z : Int} (hz : z = 1 ∨ z = 2) :
   Cod (fun r => zar f r z) (fun xs => putL xs.length z.toNat ++ xs.flatMap b) (fun xs => (xs.length : Int) < 256 ^ z.toNat ∧ ∀ x ∈ xs,V x) where
 src r l a' h := by
   obtain ⟨a1,h1⟩ := zyx hf.src _ _ _ _ _ h
   exact zkn h1
 back l a x h hx := by
   obtain ⟨h1,h2⟩ := h.app
   have h1' : AtB l a (putL ((x.length : Int)).toNat z.toNat) := h1
   obtain ⟨n1,n2⟩ := zix h1' hz ⟨by omega,hx.1⟩
   rw [ze] at h2
   have ih := z30 hf l x _ [] h2 hx.2
   simp only [zar,n1,n2,Int.toNat_natCast,ih,List.nil_append,List.length_append,ze,Nat.add_assoc]
 inv l a x a' h := by
   have h2 : (zar f (some (l,a)) z).2 = some (l,a') := by rw [h]
   obtain ⟨a1,h1⟩ := zyx hf.src _ _ _ _ _ h2
   have e1 := (z1b hz).inv l a (numV (some (l,a)) z) a1 (by unfold numO; rw [h1])
   unfold zar at h
   rw [h1] at h
   obtain ⟨xs,e2,e3,e4,e5,e6,e7⟩ := ybq hf l _ a1 _ x a' e1.2.1 h
   rw [List.nil_append] at e2
   subst e2
   have hn : (numV (some (l,a)) z).toNat = x.length := e3.symm
   have e1b := e1.1
   have e1c := e1.2.2.1
   simp only [hn,ze] at e1b e1c
   refine ⟨by rw [List.length_append,ze]; omega,e5,e1c.join ?_,?_,e7⟩
   · rw [ze,← e1b]
     exact e6
   · have := e1.2.2.2
     omega
def bTx (c : List UInt8) : List UInt8 := putL c.length 2 ++ c
def bTy (t : Ty) : List UInt8 := putL t.k.toNat 1 ++ (putL t.e.toNat 1 ++ putL t.n.toNat 1)
def vN (k : Int) : Prop := 0 ≤ k ∧ k < 256
def vTy (t : Ty) : Prop := vN t.k ∧ vN t.e ∧ vN t.n
theorem ybl : Cod (numO 1) (fun n => putL n.toNat 1) vN := z1b (.inl rfl)
theorem cod_ty : Cod tyO bTy vTy := by
 have h := zys (zqu ybl (zqu ybl ybl)) (fun x => (⟨x.1,x.2.1,x.2.2⟩ : Ty)) (fun t => (t.k,t.e,t.n)) (fun _ => rfl)
 exact ⟨h.src,fun l a x h1 h2 => h.back l a x h1 ⟨h2,rfl⟩,fun l a x a' h1 => let ⟨e1,e2,e3,e4,_⟩ := h.inv l a x a' h1; ⟨e1,e2,e3,e4⟩⟩
def bEn (e : En) : List UInt8 := bTx e.name ++ (putL e.ct.length 1 ++ e.ct.flatMap bTx)
def vTx (c : List UInt8) : Prop := c.length < 65536
def vEn (e : En) : Prop := vTx e.name ∧ ((e.ct.length : Int) < 256 ∧ ∀ c ∈ e.ct,vTx c)
theorem cod_en : Cod enO bEn vEn := by
 have h := zys (zqu zss (zlg zss (z := 1) (.inl rfl))) (fun x => (⟨x.1,x.2⟩ : En)) (fun t => (t.name,t.ct)) (fun _ => rfl)
 exact ⟨h.src,fun l a x h1 h2 => h.back l a x h1 ⟨h2,rfl⟩,fun l a x a' h1 => let ⟨e1,e2,e3,e4,_⟩ := h.inv l a x a' h1; ⟨e1,e2,e3,e4⟩⟩
def bPrt (p : Prt) : List UInt8 := bTx p.name ++ bTy p.ty
def vPrt (p : Prt) : Prop := vTx p.name ∧ vTy p.ty
theorem cod_pr : Cod prO bPrt vPrt := by
 have h := zys (zqu zss cod_ty) (fun x => (⟨x.1,x.2⟩ : Prt)) (fun t => (t.name,t.ty)) (fun _ => rfl)
 exact ⟨h.src,fun l a x h1 h2 => h.back l a x h1 ⟨h2,rfl⟩,fun l a x a' h1 => let ⟨e1,e2,e3,e4,_⟩ := h.inv l a x a' h1; ⟨e1,e2,e3,e4⟩⟩
def bSlt (s : Slt) : List UInt8 := bTx s.path ++ (bTy s.ty ++ (putL s.ini.length 1 ++ s.ini.flatMap intL))
def wSlt (s : Slt) : Prop := vTx s.path ∧ (vTy s.ty ∧ (s.ini.length : Int) < 256)
def vSlt (s : Slt) : Prop := wSlt s ∧ (∀ n ∈ s.ini,zbd n) ∧ s.at_ = 0
theorem cod_sl : Cod slO bSlt vSlt := by
 have h := zys (zqu zss (zqu cod_ty (zlg cod_int (z := 1) (.inl rfl)))) (fun x => (⟨x.1,x.2.1,0,x.2.2⟩ : Slt)) (fun t => (t.path,t.ty,t.ini)) (fun _ => rfl)
 refine ⟨h.src,fun l a x h1 h2 => h.back l a x h1 ⟨⟨h2.1.1,h2.1.2.1,h2.1.2.2,h2.2.1⟩,?_⟩,fun l a x a' h1 => let ⟨e1,e2,e3,e4,e5⟩ := h.inv l a x a' h1; ⟨e1,e2,e3,⟨e4.1,e4.2.1,e4.2.2.1⟩,e4.2.2.2,?_⟩⟩
 · obtain ⟨_,_,h3⟩ := h2
   obtain ⟨p,t,a0,i⟩ := x
   simp only at h3 ⊢
   rw [h3]
 · rw [← e5]
end Go.Proofs.YtfaailjhioobhaaGreat
set_option linter.all false
set_option maxRecDepth 20000
namespace Go.Proofs.YtfaailjhioobhaaGreat
open Go.Nk
structure Wri {α : Type} (st : SW → α → SW) (b : α → List UInt8) (V : α → Prop) : Prop where
 ok : ∀ (s : List UInt8) x,V x → st ⟨s,true⟩ x = ⟨s ++ b x,true⟩
 no : ∀ (s : List UInt8) x,¬ V x → (st ⟨s,true⟩ x).ok = false
 bad : ∀ (s : SW) x,s.ok = false → (st s x).ok = false
theorem zy4 {s : SW} {f : List UInt8 → WS} (h : s.ok = false) : (nxW s f).ok = false := by
 unfold nxW
 rw [if_neg (by rw [h]; decide)]
 exact h
theorem yah {s : List UInt8} {f : List UInt8 → WS} {b : List UInt8} (h : f s = some b) : nxW ⟨s,true⟩ f = ⟨b,true⟩ := by
 unfold nxW
 simp only [↓reduceIte,h]
theorem nxW_no {s : List UInt8} {f : List UInt8 → WS} (h : f s = none) : (nxW ⟨s,true⟩ f).ok = false := by
 unfold nxW
 simp only [↓reduceIte,h]
theorem zw8 {z : Int} (hz : z = 1 ∨ z = 2) : Wri (fun s k => zaf k z s) (fun k => putL k.toNat z.toNat) (fun n => 0 ≤ n ∧ n < 256 ^ z.toNat) where
 ok s x h := by
   refine yah ?_
   unfold wNum
   rw [if_neg]
   have := h.2
   push_cast
   omega
 no s x h := by
   refine nxW_no ?_
   unfold wNum
   rw [if_pos]
   push_cast
   omega
 bad s x h := zy4 h
theorem zst : Wri (fun s c => zau c s) bTx vTx where
 ok s x h := by
   refine yah ?_
   unfold wLen wNum
   unfold vTx at h
   have e : (256 : Nat) ^ (2 : Int).toNat = 65536 := rfl
   rw [if_neg (by rw [e]; omega)]
   simp only [bTx,Int.toNat_natCast,List.append_assoc]
   rfl
 no s x h := by
   refine nxW_no ?_
   unfold wLen wNum
   unfold vTx at h
   have e : (256 : Nat) ^ (2 : Int).toNat = 65536 := rfl
   rw [if_pos (by rw [e]; omega)]
 bad s x h := zy4 h
theorem wri_int : Wri (fun s n => zu9 n s) intL (fun _ => True) where
 ok s x _ := yah (zye s x)
 no s x h := absurd trivial h
 bad s x h := zy4 h
theorem znm {α β : Type} {f : SW → α → SW} {g : SW → β → SW} {b : α → List UInt8} {c : β → List UInt8} {V : α → Prop} {W : β → Prop} (hf : Wri f b V) (hg : Wri g c W) :
   Wri (fun s (x : α × β) => g (f s x.1) x.2) (fun x => b x.1 ++ c x.2) (fun x => V x.1 ∧ W x.2) where
 ok s x h := by
   rw [hf.ok s x.1 h.1,hg.ok _ x.2 h.2,List.append_assoc]
 no s x h := by
   by_cases hv : V x.1
   · rw [hf.ok s x.1 hv]
     exact hg.no _ _ fun hw => h ⟨hv,hw⟩
   · exact hg.bad _ _ (hf.no s x.1 hv)
 bad s x h := hg.bad _ _ (hf.bad s x.1 h)
theorem zut {α β : Type} {f : SW → α → SW} {b : α → List UInt8} {V : α → Prop} (hf : Wri f b V) (m : β → α) : Wri (fun s y => f s (m y)) (fun y => b (m y)) (fun y => V (m y)) :=
 ⟨fun s y h => hf.ok s _ h,fun s y h => hf.no s _ h,fun s y h => hf.bad s _ h⟩
theorem wri_fold {α : Type} {f : SW → α → SW} {b : α → List UInt8} {V : α → Prop} (hf : Wri f b V) : Wri (fun s (l : List α) => l.foldl f s) (fun l => l.flatMap b) (fun l => ∀ x ∈ l,V x) := by
 have hbad : ∀ (l : List α) (s : SW),s.ok = false → (l.foldl f s).ok = false := by
   intro l
   induction l with
   | nil => exact fun s h => h
   | cons x l ih => exact fun s h => ih _ (hf.bad s x h)
 refine ⟨fun s l => ?_,fun s l => ?_,fun s l h => hbad l s h⟩
 · induction l generalizing s with
   | nil => intro _; simp
   | cons x l ih =>
     intro h
     simp only [List.foldl_cons,List.flatMap_cons]
     rw [hf.ok s x (h x (by simp)),ih _ fun y hy => h y (by simp [hy]),List.append_assoc]
 · induction l generalizing s with
   | nil => intro h; exact absurd (fun x hx => by cases hx) h
   | cons x l ih =>
     intro h
     simp only [List.foldl_cons]
     by_cases hv : V x
     · rw [hf.ok s x hv]
       refine ih _ fun h2 => h fun y hy => ?_
       rcases List.mem_cons.1 hy with rfl | hy
       · exact hv
       · exact h2 y hy
     · exact hbad l _ (hf.no s x hv)
theorem zjf {α : Type} {f : SW → α → SW} {b : α → List UInt8} {V : α → Prop} (hf : Wri f b V) {z : Int} (hz : z = 1 ∨ z = 2) :
   Wri (fun s (l : List α) => l.foldl f (zaf l.length z s)) (fun l => putL l.length z.toNat ++ l.flatMap b) (fun l => (l.length : Int) < 256 ^ z.toNat ∧ ∀ x ∈ l,V x) := by
 have h := zut (znm (zw8 hz) (wri_fold hf)) (fun l : List α => ((l.length : Int),l))
 exact ⟨fun s l hl => h.ok s l ⟨⟨by simp only; omega,hl.1⟩,hl.2⟩,fun s l hl => h.no s l fun h2 => hl ⟨h2.1.2,h2.2⟩,h.bad⟩
theorem z9o : Wri (fun s k => zaf k 1 s) (fun k => putL k.toNat 1) vN := zw8 (.inl rfl)
theorem wri_ty : Wri (fun s t => stTy t s) bTy vTy := zut (znm z9o (znm z9o z9o)) (fun t : Ty => (t.k,t.e,t.n))
theorem wri_en : Wri stEn bEn vEn := zut (znm zst (zjf zst (z := 1) (.inl rfl))) (fun e : En => (e.name,e.ct))
theorem wri_pr : Wri zu3 bPrt vPrt := zut (znm zst wri_ty) (fun p : Prt => (p.name,p.ty))
theorem wri_sl : Wri zna bSlt wSlt := by
 have h := zut (znm zst (znm wri_ty (zjf wri_int (z := 1) (.inl rfl)))) (fun s : Slt => (s.path,s.ty,s.ini))
 exact ⟨fun s l hl => h.ok s l ⟨hl.1,hl.2.1,hl.2.2,fun _ _ => trivial⟩,fun s l hl => h.no s l fun h2 => hl ⟨h2.1,h2.2.1,h2.2.2.1⟩,h.bad⟩
theorem z8k : ∀ (l : List Slt) (a : Int) (s : SW),(atF a l = l → (l.foldl zd2 (s,a)).1 = l.foldl zna s) ∧ (¬ atF a l = l → (l.foldl zd2 (s,a)).1.ok = false) ∧ (s.ok = false → (l.foldl zd2 (s,a)).1.ok = false)
 | [],a,s => ⟨fun _ => rfl,fun h => absurd rfl h,fun h => h⟩
 | x :: l,a,s => by
   have hn : ∀ s : SW,(zaf (-1) 1 s).ok = false := fun s => by
     obtain ⟨b,o⟩ := s
     cases o with
     | true => exact (zw8 (z := 1) (.inl rfl)).no b (-1) (by omega)
     | false => exact zy4 rfl
   simp only [List.foldl_cons,atF,List.cons.injEq]
   have hst : zd2 (s,a) x = (if x.at_ = a then zna s x else zaf (-1) 1 (zna s x),a + zbh x.ty) := rfl
   rw [hst]
   have ih := fun s => z8k l (a + zbh x.ty) s
   refine ⟨fun ⟨h1,h2⟩ => ?_,fun h => ?_,fun h => ?_⟩
   · have h3 : x.at_ = a := by rw [← h1]
     rw [if_pos h3]
     exact (ih _).1 h2
   · by_cases h3 : x.at_ = a
     · rw [if_pos h3]
       refine (ih _).2.1 fun h4 => h ⟨?_,h4⟩
       rw [← h3]
     · rw [if_neg h3]
       exact (ih _).2.2 (hn _)
   · refine (ih _).2.2 ?_
     split
     · exact wri_sl.bad s x h
     · exact hn _
def z3 {α : Type} (b : α → List UInt8) (z : Nat) (l : List α) : List UInt8 := putL l.length z ++ l.flatMap b
structure vImg (x : Img) : Prop where
 en : (x.en.length : Int) < 256 ∧ ∀ e ∈ x.en,vEn e
 ins : (x.ins.length : Int) < 256 ∧ ∀ e ∈ x.ins,vPrt e
 outs : (x.outs.length : Int) < 256 ∧ ∀ e ∈ x.outs,vPrt e
 slots : (x.slots.length : Int) < 256 ∧ ∀ e ∈ x.slots,wSlt e
 at_ : atF 0 x.slots = x.slots
 loc : (x.loc.length : Int) < 65536 ∧ ∀ k ∈ x.loc,0 ≤ k ∧ k < 65536
def bLoc (k : Int) : List UInt8 := putL k.toNat 2
theorem yb6 {α : Type} {f : SW → α → SW} {b : α → List UInt8} {V : α → Prop} (hf : Wri f b V) {x : α} {c : List UInt8} : st2o (f ⟨[],true⟩ x) = some c ↔ V x ∧ c = b x := by
 by_cases h : V x
 · rw [hf.ok [] x h]
   simp only [st2o,↓reduceIte,List.nil_append,Option.some.injEq]
   exact ⟨fun e => ⟨h,e.symm⟩,fun e => e.2.symm⟩
 · have := hf.no [] x h
   unfold st2o
   rw [if_neg (by rw [this]; decide)]
   exact ⟨fun e => (by cases e),fun e => absurd e.1 h⟩
theorem sec1 {x : Img} {c : List UInt8} : secO x 1 = some c ↔ ((x.en.length : Int) < 256 ∧ ∀ e ∈ x.en,vEn e) ∧ c = z3 bEn 1 x.en := yb6 (zjf wri_en (z := 1) (.inl rfl))
theorem sec2 {x : Img} {c : List UInt8} : secO x 2 = some c ↔ ((x.ins.length : Int) < 256 ∧ ∀ e ∈ x.ins,vPrt e) ∧ c = z3 bPrt 1 x.ins := yb6 (zjf wri_pr (z := 1) (.inl rfl))
theorem sec3 {x : Img} {c : List UInt8} : secO x 3 = some c ↔ ((x.outs.length : Int) < 256 ∧ ∀ e ∈ x.outs,vPrt e) ∧ c = z3 bPrt 1 x.outs := yb6 (zjf wri_pr (z := 1) (.inl rfl))
theorem sec5 {x : Img} {c : List UInt8} : secO x 5 = some c ↔ ((x.loc.length : Int) < 65536 ∧ ∀ e ∈ x.loc,0 ≤ e ∧ e < 65536) ∧ c = z3 bLoc 2 x.loc := yb6 (zjf (zw8 (z := 2) (.inr rfl)) (z := 2) (.inr rfl))
theorem sec4 {x : Img} {c : List UInt8} : secO x 4 = some c ↔ (((x.slots.length : Int) < 256 ∧ ∀ e ∈ x.slots,wSlt e) ∧ atF 0 x.slots = x.slots) ∧ c = z3 bSlt 1 x.slots := by
 have e : secO x 4 = st2o (zed x.slots ⟨[],true⟩) := rfl
 have h := yb6 (zjf wri_sl (z := 1) (.inl rfl)) (x := x.slots) (c := c)
 have w := z8k x.slots 0 (zaf x.slots.length 1 ⟨[],true⟩)
 rw [e]
 unfold zed
 by_cases hp : atF 0 x.slots = x.slots
 · rw [w.1 hp]
   exact ⟨fun q => ⟨⟨(h.1 q).1,hp⟩,(h.1 q).2⟩,fun q => h.2 ⟨q.1.1,q.2⟩⟩
 · have := w.2.1 hp
   unfold st2o
   rw [if_neg (by rw [this]; decide)]
   exact ⟨fun q => (by cases q),fun q => absurd q.1.2 hp⟩
theorem sec6 {x : Img} : secO x 6 = putI x.code := rfl
def zc3 : Nat → List (List UInt8) → List UInt8
 | _,[] => []
 | i,c :: cs => putL (i + 1) 1 ++ (putL c.length 4 ++ (c ++ zc3 (i + 1) cs))
theorem z0q {x : Img} {B : List UInt8} : encG x 6 = some B ↔ ∃ c1 c2 c3 c4 c5 c6,secO x 1 = some c1 ∧ secO x 2 = some c2 ∧ secO x 3 = some c3 ∧ secO x 4 = some c4 ∧ secO x 5 = some c5 ∧ secO x 6 = some c6 ∧ B = zc3 0 [c1,c2,c3,c4,c5,c6] := by
 constructor
 · intro h
   have step : ∀ {k : Nat} {B : List UInt8},encG x (k + 1) = some B → ∃ b c,encG x k = some b ∧ secO x ((k + 1 : Nat) : Int) = some c ∧ B = b ++ putL (k + 1) 1 ++ putL c.length 4 ++ c := by
     intro k B h
     cases h1 : encG x k with
     | none => rw [zy8 h1 (k + 1) (by omega)] at h; cases h
     | some b =>
       rw [zdi h1] at h
       split at h
       · cases h
       · rename_i c hc
         injection h with h
         exact ⟨b,c,rfl,hc,h.symm⟩
   obtain ⟨b5,c6,h5,s6,e6⟩ := step h
   obtain ⟨b4,c5,h4,s5,e5⟩ := step h5
   obtain ⟨b3,c4,h3,s4,e4⟩ := step h4
   obtain ⟨b2,c3,h2,s3,e3⟩ := step h3
   obtain ⟨b1,c2,h1,s2,e2⟩ := step h2
   obtain ⟨b0,c1,h0,s1,e1⟩ := step h1
   have hb0 : b0 = [] := by injection h0 with h0; exact h0.symm
   refine ⟨c1,c2,c3,c4,c5,c6,s1,s2,s3,s4,s5,s6,?_⟩
   rw [e6,e5,e4,e3,e2,e1,hb0]
   simp [zc3,List.append_assoc]
 · rintro ⟨c1,c2,c3,c4,c5,c6,s1,s2,s3,s4,s5,s6,rfl⟩
   have g1 : encG x 1 = some ([] ++ putL 1 1 ++ putL c1.length 4 ++ c1) := by
     rw [zdi (show encG x 0 = some [] from rfl),show ((0 + 1 : Nat) : Int) = 1 from rfl,s1]
   have g2 := zdi g1
   rw [show ((1 + 1 : Nat) : Int) = 2 from rfl,s2] at g2
   have g3 := zdi g2
   rw [show ((1 + 1 + 1 : Nat) : Int) = 3 from rfl,s3] at g3
   have g4 := zdi g3
   rw [show ((1 + 1 + 1 + 1 : Nat) : Int) = 4 from rfl,s4] at g4
   have g5 := zdi g4
   rw [show ((1 + 1 + 1 + 1 + 1 : Nat) : Int) = 5 from rfl,s5] at g5
   have g6 := zdi g5
   rw [show ((1 + 1 + 1 + 1 + 1 + 1 : Nat) : Int) = 6 from rfl,s6] at g6
   refine Eq.trans g6 ?_
   simp [zc3,List.append_assoc]
end Go.Proofs.YtfaailjhioobhaaGreat
set_option linter.all false
set_option maxRecDepth 20000
namespace Go.Proofs.YtfaailjhioobhaaGreat
open Go.Nk
theorem yae {l : List UInt8} {a : Nat} {k z : Int} (h : AtB l a (putL k.toNat z.toNat)) (h1 : 1 ≤ z) (h4 : z ≤ 4) (hk : 0 ≤ k ∧ k < ((256 ^ z.toNat : Nat) : Int)) : numV (some (l,a)) z = k ∧ z9 (some (l,a)) (szN z) = some (l,a + z.toNat) := by
 obtain ⟨pre,post,rfl,rfl⟩ := h
 exact zyc pre post (by omega) (by omega) (by omega) (by omega)
theorem z4p {l : List UInt8} {a a' : Nat} {z : Int} (h1 : 1 ≤ z) (h4 : z ≤ 4) (h : z9 (some (l,a)) (szN z) = some (l,a')) :
   a' = a + z.toNat ∧ a' ≤ l.length ∧ AtB l a (putL (numV (some (l,a)) z).toNat z.toNat) ∧ 0 ≤ numV (some (l,a)) z ∧ numV (some (l,a)) z < ((256 ^ z.toNat : Nat) : Int) := by
 have hs : szN z = z := by unfold szN; rw [if_neg (by omega)]
 rw [hs] at h
 have h2 : (nxt l (some a) z).2 = some a' := by
   unfold z9 toP at h
   cases q : (nxt l (some a) z).2 with
   | none => simp [q] at h
   | some b => simp [q] at h; rw [h]
 obtain ⟨h3,h4',h5,h6⟩ := ztx h2
 have hc : ((l.take a').drop a).length = z.toNat := by rw [List.length_drop,List.length_take]; omega
 have h8 : z.toNat ≤ 4 := by omega
 have hlt := zlc ((l.take a').drop a) (by omega)
 rw [hc] at hlt
 have hp : 256 ^ z.toNat ≤ 4294967296 := Nat.le_trans (Nat.pow_le_pow_right (by decide) h8) (by decide)
 have hv : numV (some (l,a)) z = (getF ((l.take a').drop a) : Int) := by
   unfold numV zb1
   rw [hs]
   simp only [h6,Option.getD_some]
   rw [zt]
   omega
 refine ⟨h4',h5,?_,by rw [hv]; omega,by rw [hv]; omega⟩
 rw [hv,Int.toNat_natCast]
 have := zo7 ((l.take a').drop a) (by omega)
 rw [hc] at this
 rw [this]
 exact ztq (by omega) h5
def pO (r : RS) : List UInt8 × RS := (zj5 r,rawS r 4)
theorem z5s : Cod pO (fun c => putL c.length 4 ++ c) (fun c => c.length < 4294967296) where
 src r l a' h := zsi h
 back l a x h hx := by
   obtain ⟨h1,h2⟩ := h.app
   rw [ze] at h2
   have h1' : AtB l a (putL ((x.length : Int)).toNat (4 : Int).toNat) := h1
   have e2 : ((256 ^ (4 : Int).toNat : Nat) : Int) = 4294967296 := rfl
   obtain ⟨n1,n2⟩ := yae h1' (by decide) (by decide) (by rw [e2]; omega)
   have n2 : z9 (some (l,a)) (szN 4) = some (l,a + 4) := n2
   have q := nxt_at h2
   have t1 : zj5 (some (l,a)) = x := by
     unfold zj5 rawV
     rw [n2,n1]
     unfold zb1
     simp only [q,Option.getD_some]
   have t2 : rawS (some (l,a)) 4 = some (l,a + 4 + x.length) := by
     unfold rawS
     rw [n2,n1]
     unfold z9
     simp only [q,toP,Option.map_some]
   simp only [pO,t1,t2,List.length_append,ze,Nat.add_assoc]
 inv l a x a' h := by
   simp only [pO,Prod.mk.injEq] at h
   obtain ⟨hx,h⟩ := h
   unfold rawS at h
   cases h1 : z9 (some (l,a)) (szN 4) with
   | none => rw [h1] at h; cases h
   | some q =>
     obtain ⟨b,rfl⟩ := zij h1
     obtain ⟨n1,n2,n3,n4,hlt⟩ := z4p (by decide) (by decide) h1
     have e2 : ((256 ^ (4 : Int).toNat : Nat) : Int) = 4294967296 := rfl
     rw [e2] at hlt
     unfold zj5 rawV at hx
     rw [h1] at h hx
     generalize numV (some (l,a)) 4 = k at h hx n3 n4 hlt
     have h2 : (nxt l (some b) k).2 = some a' := by
       unfold z9 toP at h
       cases w : (nxt l (some b) k).2 with
       | none => simp [w] at h
       | some d => simp [w] at h; rw [h]
     obtain ⟨m1,m2,m3,m4⟩ := ztx h2
     have hc : x = (l.take a').drop b := by
       unfold zb1 at hx
       simp only [m4,Option.getD_some] at hx
       exact hx.symm
     have hlen : x.length = k.toNat := by rw [hc,List.length_drop,List.length_take]; omega
     have g : AtB l b x := by rw [hc]; exact ztq (by omega) m3
     have h2n : (4 : Int).toNat = 4 := rfl
     rw [h2n] at n1 n3
     rw [← hlen] at n3
     refine ⟨by rw [List.length_append,ze]; omega,m3,n3.join ?_,by omega⟩
     rw [ze,← n1]
     exact g
theorem zue {l : List UInt8} : ∀ (cs : List (List UInt8)) (i a : Nat) (acc : List (List UInt8)),AtB l a (zc3 i cs) → i + cs.length < 256 → (∀ c ∈ cs,c.length < 4294967296) →
   zdr cs.length i (some (l,a)) acc = (acc ++ cs,!ziy (some (l,a + (zc3 i cs).length)))
 | [],i,a,acc,_,_,_ => by simp [zdr,zc3]
 | c :: cs,i,a,acc,h,hi,hc => by
   unfold zc3 at h
   obtain ⟨h1,h2⟩ := h.app
   rw [ze] at h2
   rw [← List.append_assoc] at h2
   obtain ⟨h3,h4⟩ := h2.app
   simp only [List.length_cons] at hi
   have e1 : ((256 ^ (1 : Int).toNat : Nat) : Int) = 256 := rfl
   obtain ⟨n1,n2⟩ := yae (k := ((i + 1 : Nat) : Int)) (z := 1) h1 (by decide) (by decide) (by rw [e1]; omega)
   have n2 : z9 (some (l,a)) (szN 1) = some (l,a + 1) := n2
   have p := z5s.back l (a + 1) c h3 (hc c (by simp))
   simp only [pO,Prod.mk.injEq] at p
   rw [List.length_cons]
   unfold zdr
   rw [n1,n2,p.1,p.2,if_pos (by push_cast; rfl)]
   have ih := zue cs (i + 1) _ (acc ++ [c]) h4 (by omega) fun d hd => hc d (by simp [hd])
   have e2 : ((i : Int) + 1) = ((i + 1 : Nat) : Int) := by push_cast; rfl
   rw [e2,ih,show zc3 i (c :: cs) = putL (i + 1) 1 ++ (putL c.length 4 ++ (c ++ zc3 (i + 1) cs)) from rfl]
   simp only [List.append_assoc,List.singleton_append,List.length_append,ze,Nat.add_assoc]
theorem znw {cs : List (List UInt8)} (h : cs.length = 6) (hc : ∀ c ∈ cs,c.length < 4294967296) : zbr (zc3 0 cs) = (cs,true) := by
 have := zue (l := zc3 0 cs) cs 0 0 [] ⟨[],[],by simp,rfl⟩ (by omega) hc
 rw [h] at this
 unfold zbr
 refine this.trans ?_
 simp [ziy]
theorem zws {l : List UInt8} : ∀ (k i a : Nat) (acc L : List (List UInt8)),a ≤ l.length → zdr k i (some (l,a)) acc = (L,true) → ∃ cs,L = acc ++ cs ∧ cs.length = k ∧ AtB l a (zc3 i cs) ∧ a + (zc3 i cs).length = l.length ∧ ∀ c ∈ cs,c.length < 4294967296
 | 0,i,a,acc,L,ha,h => by
   simp only [zdr,Prod.mk.injEq,Option.isSome_some,Bool.true_and] at h
   obtain ⟨rfl,h⟩ := h
   simp only [ziy,Bool.not_eq_true',decide_eq_false_iff_not] at h
   exact ⟨[],by simp,rfl,⟨l.take a,l.drop a,by simp [zc3],by simp; omega⟩,by simp [zc3]; omega,fun c hc => by cases hc⟩
 | k + 1,i,a,acc,L,ha,h => by
   unfold zdr at h
   split at h
   · rename_i hn
     cases hr : rawS (z9 (some (l,a)) (szN 1)) 4 with
     | none =>
       have h2 : (zdr k ((i : Int) + 1) (rawS (z9 (some (l,a)) (szN 1)) 4) (acc ++ [zj5 (z9 (some (l,a)) (szN 1))])).2 = true := by rw [h]
       rw [hr,znh] at h2
       cases h2
     | some q =>
       obtain ⟨lq,a2⟩ := q
       obtain ⟨a1,h1⟩ := zsi hr
       obtain ⟨a0,h0⟩ := zkn h1
       simp only [Option.some.injEq,Prod.mk.injEq] at h0
       obtain ⟨rfl,rfl⟩ := h0
       obtain ⟨n1,n2,n3,n4,n5⟩ := z4p (by decide) (by decide) h1
       rw [h1] at h hr
       have p := z5s.inv l a1 (zj5 (some (l,a1))) a2 (by unfold pO; rw [hr])
       rw [hr] at h
       have e2 : ((i : Int) + 1) = ((i + 1 : Nat) : Int) := by push_cast; rfl
       rw [e2] at h hn
       rw [hn] at n3
       obtain ⟨cs,e3,e4,e5,e6,e7⟩ := zws k (i + 1) a2 _ L p.2.1 h
       have n1' : a1 = a + 1 := n1
       have n3' : AtB l a (putL (i + 1) 1) := n3
       refine ⟨zj5 (some (l,a1)) :: cs,by rw [e3]; simp,by simp [e4],?_,?_,fun c hc => ?_⟩
       · unfold zc3
         refine n3'.join ?_
         rw [ze,← n1',← List.append_assoc]
         refine p.2.2.1.join ?_
         rw [← p.1]
         exact e5
       · unfold zc3
         have := p.1
         simp only [List.length_append,ze] at this ⊢
         omega
       · rcases List.mem_cons.1 hc with rfl | hc
         · exact p.2.2.2
         · exact e7 c hc
   · simp only [Prod.mk.injEq,Bool.false_eq_true,and_false] at h
theorem z7v {B : List UInt8} (h : (zbr B).2 = true) : B = zc3 0 (zbr B).1 ∧ (zbr B).1.length = 6 ∧ ∀ c ∈ (zbr B).1,c.length < 4294967296 := by
 obtain ⟨cs,e3,e4,e5,e6,e7⟩ := zws 6 0 0 [] (zbr B).1 (Nat.zero_le _) (Prod.ext rfl h : zbr B = ((zbr B).1,true))
 rw [List.nil_append] at e3
 rw [e3]
 obtain ⟨pre,post,h1,h2⟩ := e5
 have hpre : pre = [] := List.length_eq_zero_iff.1 h2.symm
 subst hpre
 have hpost : post = [] := by
   have := congrArg List.length h1
   simp only [List.nil_append,List.length_append] at this
   exact List.length_eq_zero_iff.1 (by omega)
 subst hpost
 refine ⟨?_,e4,e7⟩
 simpa using h1
theorem z6c {α : Type} {f : RS → α × RS} {b : α → List UInt8} {V : α → Prop} (hf : Cod f b V) {c : List UInt8} (h : good (f (some (c,0))).2 = true) : c = b (f (some (c,0))).1 ∧ V (f (some (c,0))).1 ∧ (f (some (c,0))).2 = some (c,c.length) := by
 unfold good at h
 simp only [Bool.and_eq_true,Bool.not_eq_true'] at h
 obtain ⟨h1,h2⟩ := h
 obtain ⟨q,hq⟩ := Option.isSome_iff_exists.1 h1
 obtain ⟨l,a⟩ := q
 obtain ⟨a0,h0⟩ := hf.src _ _ _ hq
 simp only [Option.some.injEq,Prod.mk.injEq] at h0
 obtain ⟨rfl,rfl⟩ := h0
 obtain ⟨e1,e2,e3,e4⟩ := hf.inv c 0 (f (some (c,0))).1 a (by rw [← hq])
 rw [hq] at h2
 simp only [ziy,decide_eq_false_iff_not] at h2
 obtain ⟨pre,post,k1,k2⟩ := e3
 have hpre : pre = [] := List.length_eq_zero_iff.1 k2.symm
 subst hpre
 have hpost : post = [] := by
   have := congrArg List.length k1
   simp only [List.nil_append,List.length_append] at this
   exact List.length_eq_zero_iff.1 (by omega)
 subst hpost
 refine ⟨by simpa using k1,e4,?_⟩
 rw [hq]
 congr 2
 omega
theorem zil {α : Type} {f : RS → α × RS} {b : α → List UInt8} {V : α → Prop} (hf : Cod f b V) {x : α} (h : V x) : f (some (b x,0)) = (x,some (b x,(b x).length)) := by
 have := hf.back (b x) 0 x ⟨[],[],by simp,rfl⟩ h
 rw [Nat.zero_add] at this
 exact this
theorem good_end (c : List UInt8) : good (some (c,c.length)) = true := by simp [good,ziy]
theorem z4n : ∀ (a : Int) (l : List Slt),(atF a l).flatMap bSlt = l.flatMap bSlt
 | _,[] => rfl
 | a,s :: r => by
   simp only [atF,List.flatMap_cons,z4n _ r]
   rfl
def zer (l : List Slt) : List Slt := l.map fun s => ⟨s.path,s.ty,0,s.ini⟩
theorem z5k : ∀ l : List Slt,(zer l).flatMap bSlt = l.flatMap bSlt
 | [] => rfl
 | s :: r => by
   have := z5k r
   unfold zer at this ⊢
   simp only [List.map_cons,List.flatMap_cons,this]
   rfl
theorem z9d : ∀ (a : Int) (l : List Slt),atF a (zer l) = atF a l
 | _,[] => rfl
 | a,s :: r => by
   have := z9d (a + zbh s.ty) r
   unfold zer at this ⊢
   simp only [List.map_cons,atF,this]
theorem z9l : ∀ (a : Int) (l : List Slt),atF a (atF a l) = atF a l
 | _,[] => rfl
 | a,s :: r => by simp only [atF,z9l _ r]
def cEns := zlg cod_en (z := 1) (.inl rfl)
def cPrts := zlg cod_pr (z := 1) (.inl rfl)
def cSlts := zlg cod_sl (z := 1) (.inl rfl)
def cLocs := zlg (z1b (z := 2) (.inr rfl)) (z := 2) (.inr rfl)
def nums (x : Img) : Prop := (∀ s ∈ x.slots,∀ n ∈ s.ini,zbd n) ∧ ∀ i ∈ x.code,ok64 i
theorem z0t {x : Img} (hv : vImg x) (hn : nums x) {c6 : List UInt8} (hc : putI x.code = some c6) :
   zhx [z3 bEn 1 x.en,z3 bPrt 1 x.ins,z3 bPrt 1 x.outs,z3 bSlt 1 x.slots,z3 bLoc 2 x.loc,c6] = (x,true) := by
 have e0 : zar enO (some (z3 bEn 1 x.en,0)) 1 = (x.en,some (z3 bEn 1 x.en,(z3 bEn 1 x.en).length)) := zil cEns hv.en
 have e1 : zar prO (some (z3 bPrt 1 x.ins,0)) 1 = (x.ins,some (z3 bPrt 1 x.ins,(z3 bPrt 1 x.ins).length)) := zil cPrts hv.ins
 have e2 : zar prO (some (z3 bPrt 1 x.outs,0)) 1 = (x.outs,some (z3 bPrt 1 x.outs,(z3 bPrt 1 x.outs).length)) := zil cPrts hv.outs
 have hz : z3 bSlt 1 x.slots = z3 bSlt 1 (zer x.slots) := by unfold z3; rw [z5k]; simp [zer]
 have e3 : zar slO (some (z3 bSlt 1 (zer x.slots),0)) 1 = (zer x.slots,some (z3 bSlt 1 (zer x.slots),(z3 bSlt 1 (zer x.slots)).length)) := zil cSlts (by
   refine ⟨by have := hv.slots.1; simpa [zer] using this,fun s hs => ?_⟩
   simp only [zer,List.mem_map] at hs
   obtain ⟨t,ht,rfl⟩ := hs
   exact ⟨hv.slots.2 t ht,hn.1 t ht,rfl⟩)
 have e4 : zar kiO (some (z3 bLoc 2 x.loc,0)) 2 = (x.loc,some (z3 bLoc 2 x.loc,(z3 bLoc 2 x.loc).length)) := zil cLocs hv.loc
 have e5 := put_get hc hn.2
 unfold zhx secS
 simp only [List.getD_cons_zero,List.getD_cons_succ]
 rw [hz,e0,e1,e2,e3,e4,e5]
 have hg : (TkS.gs ⟨some (z3 bEn 1 x.en,(z3 bEn 1 x.en).length),some (z3 bPrt 1 x.ins,(z3 bPrt 1 x.ins).length),some (z3 bPrt 1 x.outs,(z3 bPrt 1 x.outs).length),some (z3 bSlt 1 (zer x.slots),(z3 bSlt 1 (zer x.slots)).length),some (z3 bLoc 2 x.loc,(z3 bLoc 2 x.loc).length),some (c6,0)⟩).all id = true := by
   simp [TkS.gs,good_end]
 rw [if_pos hg]
 simp only [Option.getD_some,Option.isSome_some]
 rw [z9d,hv.at_]
theorem z5q {c0 c1 c2 c3 c4 c5 : List UInt8} {x : Img} (h : zhx [c0,c1,c2,c3,c4,c5] = (x,true)) :
   vImg x ∧ nums x ∧ putI x.code = some c5 ∧ c0 = z3 bEn 1 x.en ∧ c1 = z3 bPrt 1 x.ins ∧ c2 = z3 bPrt 1 x.outs ∧ c3 = z3 bSlt 1 x.slots ∧ c4 = z3 bLoc 2 x.loc ∧
   (secS [c0,c1,c2,c3,c4,c5]).gs.all id = true := by
 unfold zhx at h
 split at h
 rotate_left
 · cases h
 rename_i hg
 have hg' := hg
 unfold TkS.gs secS at hg
 simp only [List.getD_cons_zero,List.getD_cons_succ,List.all_cons,List.all_nil,id_eq,Bool.and_true,Bool.and_eq_true] at hg h
 obtain ⟨g0,g1,g2,g3,g4⟩ := hg
 simp only [Prod.mk.injEq] at h
 obtain ⟨rfl,h5⟩ := h
 have w0 := z6c cEns g0
 have w1 := z6c cPrts g1
 have w2 := z6c cPrts g2
 have w3 := z6c cSlts g3
 have w4 := z6c cLocs g4
 obtain ⟨m,hm⟩ := Option.isSome_iff_exists.1 h5
 obtain ⟨p1,p2,p3⟩ := zhq hm
 rw [hm]
 simp only [Option.getD_some]
 refine ⟨⟨w0.2.1,w1.2.1,w2.2.1,⟨?_,?_⟩,z9l _ _,w4.2.1⟩,⟨?_,p2⟩,p1,w0.1,w1.1,w2.1,?_,w4.1,hg'⟩
 · simp only [zhj]; exact w3.2.1.1
 · exact zxq (P := wSlt) (fun s a h => h) _ _ fun s hs => (w3.2.1.2 s hs).1
 · exact zxq (P := fun s => ∀ n ∈ s.ini,zbd n) (fun s a h => h) _ _ fun s hs => (w3.2.1.2 s hs).2.1
 · refine w3.1.trans ?_
   unfold z3
   simp only [zhj,z4n]
   rfl
end Go.Proofs.YtfaailjhioobhaaGreat
set_option linter.all false
set_option maxRecDepth 20000
namespace Go.Proofs.YtfaailjhioobhaaGreat
open Go.Nk
structure FQ {α : Type} (f : RS → α × RS) (g : QS → α × QS) : Prop where
 st : ∀ l s,(f (toP l s)).2 = toP l (g (l,s)).2.2
 fst : ∀ l s,(g (l,s)).2.1 = l
 val : ∀ l s,(g (l,s)).2.2.isSome = true → (f (toP l s)).1 = (g (l,s)).1
 bad : ∀ l,(g (l,none)).2.2 = none
theorem zyk {α : Type} {g : QS → α × QS} (l : List UInt8) : ∀ (k : Nat) (acc : List α),goQ g k (l,none) acc = (acc,(l,none))
 | 0,_ => rfl
 | k + 1,acc => rfl
theorem zxw (l : List UInt8) (s : Option Nat) : (toP l s).isSome = s.isSome := by cases s <;> rfl
theorem goFQ {α : Type} {f : RS → α × RS} {g : QS → α × QS} (h : FQ f g) (l : List UInt8) : ∀ (k : Nat) (s : Option Nat) (acc : List α),
   (goF f k (toP l s) acc).2 = toP l (goQ g k (l,s) acc).2.2 ∧ (goQ g k (l,s) acc).2.1 = l ∧ ((goQ g k (l,s) acc).2.2.isSome = true → (goF f k (toP l s) acc).1 = (goQ g k (l,s) acc).1)
 | 0,s,acc => ⟨rfl,rfl,fun _ => rfl⟩
 | k + 1,s,acc => by
   cases s with
   | none =>
     rw [zyk]
     unfold goF
     have : (f (toP l none)).2.isSome = false := by rw [h.st,zxw,h.bad]; rfl
     rw [if_neg (by rw [this]; decide)]
     exact ⟨rfl,rfl,fun e => by cases e⟩
   | some a =>
     have hv := h.val l (some a)
     have hs := h.st l (some a)
     have hf := h.fst l (some a)
     unfold goF goQ
     simp only [Option.isSome_some,↓reduceIte]
     rw [hs,zxw]
     generalize f (toP l (some a)) = F at hv hs
     generalize g (l,some a) = G at hv hs hf
     obtain ⟨y,l',s'⟩ := G
     simp only at hv hs hf ⊢
     subst hf
     cases s' with
     | none =>
       simp only [Option.isSome_none,Bool.false_eq_true,↓reduceIte]
       rw [zyk]
       exact ⟨rfl,rfl,fun e => by cases e⟩
     | some a' =>
       simp only [Option.isSome_some,↓reduceIte]
       rw [hv rfl]
       exact goFQ h l' k (some a') (acc ++ [y])
theorem ztt {α : Type} {f : RS → α × RS} {g : QS → α × QS} (h : FQ f g) (z : Int) : FQ (fun r => zar f r z) (fun r => zay g r z) := by
 have e : ∀ l s,zar f (toP l s) z = goF f (zax (l,s) z).toNat (toP l (qS (l,s) (szN z)).2) [] := fun l s => by unfold zar; rw [zf5,zdz]
 have e2 : ∀ l s,zay g (l,s) z = goQ g (zax (l,s) z).toNat (l,(qS (l,s) (szN z)).2) [] := fun l s => rfl
 refine ⟨fun l s => ?_,fun l s => ?_,fun l s hs => ?_,fun l => ?_⟩
 · simp only [e,e2]; exact (goFQ h l _ _ _).1
 · simp only [e2]; exact (goFQ h l _ _ _).2.1
 · simp only [e,e2] at hs ⊢; exact (goFQ h l _ _ _).2.2 hs
 · simp only [e2]
   have : (qS (l,none) (szN z)).2 = none := rfl
   rw [this,zyk]
theorem fq_tx : FQ txO txQ := ⟨fun l s => z2h l s 2,fun l s => rfl,fun l s _ => by simp only [txO,txQ,zop]; rw [zxa],fun l => rfl⟩
theorem fq_in : FQ inO inQ := ⟨fun l s => yb4 l s,fun l s => by have := qIntS_1 l s; simp only [inQ]; rw [this],fun l s _ => z76 l s,fun l => rfl⟩
theorem fq_ki : FQ kiO kiQ := ⟨fun l s => zdz l s _,fun l s => rfl,fun l s _ => zf5 l s 2,fun l => rfl⟩
theorem fq_ty : FQ tyO tyQ := by
 have e : ∀ l s,tyO (toP l s) = ((tyQ (l,s)).1,toP l (tyQ (l,s)).2.2) := fun l s => by
   unfold tyO tyQ
   rw [zf5,zdz]
   have q1 : qS (l,s) (szN 1) = (l,(qS (l,s) (szN 1)).2) := rfl
   rw [q1]
   generalize (qS (l,s) (szN 1)).2 = s1
   rw [zf5,zdz]
   have q2 : qS (l,s1) (szN 1) = (l,(qS (l,s1) (szN 1)).2) := rfl
   rw [q2]
   generalize (qS (l,s1) (szN 1)).2 = s2
   rw [zf5,zdz]
 exact ⟨fun l s => by rw [e],fun l s => rfl,fun l s _ => by rw [e],fun l => rfl⟩
theorem z3y {α β γ : Type} {f : RS → α × RS} {g : QS → α × QS} {f' : RS → β × RS} {g' : QS → β × QS} (h : FQ f g) (h' : FQ f' g') (m : α → β → γ) :
   FQ (fun r => (m (f r).1 (f' (f r).2).1,(f' (f r).2).2)) (fun r => (m (g r).1 (g' (g r).2).1,(g' (g r).2).2)) := by
 have e : ∀ l s,(g (l,s)).2 = (l,(g (l,s)).2.2) := fun l s => Prod.ext (h.fst l s) rfl
 refine ⟨fun l s => ?_,fun l s => ?_,fun l s hs => ?_,fun l => ?_⟩
 · simp only
   rw [h.st,e,h'.st]
 · simp only
   rw [e,h'.fst]
 · simp only at hs ⊢
   rw [e] at hs ⊢
   rw [h.st,h'.val l _ hs,h.val l s ?_]
   cases hq : (g (l,s)).2.2 with
   | none => rw [hq,h'.bad] at hs; cases hs
   | some a => rfl
 · simp only
   rw [e,h.bad,h'.bad]
theorem fq_en : FQ enO enQ := z3y fq_tx (ztt fq_tx 1) (fun a b => (⟨a,b⟩ : En))
theorem fq_pr : FQ prO prQ := z3y fq_tx fq_ty (fun a b => (⟨a,b⟩ : Prt))
theorem fq_sl : FQ slO slQ := z3y fq_tx (z3y fq_ty (ztt fq_in 1) (fun a b => (a,b))) (fun a b => (⟨a,b.1,0,b.2⟩ : Slt))
theorem zog {α : Type} {f : RS → α × RS} {g : QS → α × QS} (h : FQ f g) {c : List UInt8} (hg : good (f (some (c,0))).2 = true) : (f (some (c,0))).1 = (g (c,some 0)).1 := by
 refine h.val c (some 0) ?_
 have e : (f (some (c,0))).2 = toP c (g (c,some 0)).2.2 := h.st c (some 0)
 rw [e] at hg
 unfold good at hg
 simp only [Bool.and_eq_true] at hg
 rw [← zxw c]
 exact hg.1
theorem take_img {c0 c1 c2 c3 c4 c5 : List UInt8} {x : Img} (h : zhx [c0,c1,c2,c3,c4,c5] = (x,true)) : imgQ [c0,c1,c2,c3,c4,c5] = x ∧ (getI c5).isSome = true := by
 have hg := (z5q h).2.2.2.2.2.2.2.2
 unfold zhx at h
 rw [if_pos hg] at h
 unfold TkS.gs secS at hg
 simp only [List.getD_cons_zero,List.getD_cons_succ,List.all_cons,List.all_nil,id_eq,Bool.and_true,Bool.and_eq_true] at hg h
 obtain ⟨g0,g1,g2,g3,g4⟩ := hg
 simp only [Prod.mk.injEq] at h
 obtain ⟨rfl,h5⟩ := h
 refine ⟨?_,h5⟩
 unfold imgQ
 simp only [List.getD_cons_zero,List.getD_cons_succ]
 rw [zog (ztt fq_en 1) g0,zog (ztt fq_pr 1) g1,zog (ztt fq_pr 1) g2,zog (ztt fq_sl 1) g3,zog (ztt fq_ki 2) g4]
theorem zxr {x : Img} {b : List UInt8} (h : encF x = some b) : ∃ c6,vImg x ∧ putI x.code = some c6 ∧ b = zcr (zx ++ zc3 0 [z3 bEn 1 x.en,z3 bPrt 1 x.ins,z3 bPrt 1 x.outs,z3 bSlt 1 x.slots,z3 bLoc 2 x.loc,c6]) ∧ b.length ≤ 131072 := by
 unfold encF at h
 split at h
 · cases h
 · rename_i B hB
   split at h
   · rename_i hl
     injection h with h
     obtain ⟨c1,c2,c3,c4,c5,c6,s1,s2,s3,s4,s5,s6,e⟩ := z0q.1 hB
     obtain ⟨v1,rfl⟩ := sec1.1 s1
     obtain ⟨v2,rfl⟩ := sec2.1 s2
     obtain ⟨v3,rfl⟩ := sec3.1 s3
     obtain ⟨v4,rfl⟩ := sec4.1 s4
     obtain ⟨v5,rfl⟩ := sec5.1 s5
     rw [sec6] at s6
     refine ⟨c6,⟨v1,v2,v3,v4.1,v4.2,v5⟩,s6,?_,?_⟩
     · rw [← h,e]
     · rw [← h]; exact hl
   · cases h
theorem enc_of {x : Img} {c6 : List UInt8} (hv : vImg x) (hc : putI x.code = some c6) (hl : (zcr (zx ++ zc3 0 [z3 bEn 1 x.en,z3 bPrt 1 x.ins,z3 bPrt 1 x.outs,z3 bSlt 1 x.slots,z3 bLoc 2 x.loc,c6])).length ≤ 131072) :
   encF x = some (zcr (zx ++ zc3 0 [z3 bEn 1 x.en,z3 bPrt 1 x.ins,z3 bPrt 1 x.outs,z3 bSlt 1 x.slots,z3 bLoc 2 x.loc,c6])) := by
 have e : encG x 6 = some (zc3 0 [z3 bEn 1 x.en,z3 bPrt 1 x.ins,z3 bPrt 1 x.outs,z3 bSlt 1 x.slots,z3 bLoc 2 x.loc,c6]) :=
   z0q.2 ⟨_,_,_,_,_,c6,sec1.2 ⟨hv.en,rfl⟩,sec2.2 ⟨hv.ins,rfl⟩,sec3.2 ⟨hv.outs,rfl⟩,sec4.2 ⟨⟨hv.slots,hv.at_⟩,rfl⟩,sec5.2 ⟨hv.loc,rfl⟩,by rw [sec6]; exact hc,rfl⟩
 unfold encF
 rw [e]
 simp only
 rw [if_pos hl]
theorem zxi : ∀ (cs : List (List UInt8)) (i : Nat),∀ c ∈ cs,c.length ≤ (zc3 i cs).length
 | [],_ => fun c hc => by cases hc
 | d :: cs,i => fun c hc => by
   unfold zc3
   simp only [List.length_append]
   rcases List.mem_cons.1 hc with rfl | hc
   · omega
   · have := zxi cs (i + 1) c hc
     omega
theorem zv5 (B : List UInt8) : (zx ++ B).drop 4 = B := rfl
theorem dec_enc {x : Img} {b : List UInt8} (hn : nums x) (h : encF x = some b) : decG b = (x,0) := by
 obtain ⟨c6,hv,hc,rfl,hl⟩ := zxr h
 have hm := ze5 (zx ++ zc3 0 [z3 bEn 1 x.en,z3 bPrt 1 x.ins,z3 bPrt 1 x.outs,z3 bSlt 1 x.slots,z3 bLoc 2 x.loc,c6])
 have tk := z0t hv hn hc
 have hlen := zxi [z3 bEn 1 x.en,z3 bPrt 1 x.ins,z3 bPrt 1 x.outs,z3 bSlt 1 x.slots,z3 bLoc 2 x.loc,c6] 0
 have h6 : ([z3 bEn 1 x.en,z3 bPrt 1 x.ins,z3 bPrt 1 x.outs,z3 bSlt 1 x.slots,z3 bLoc 2 x.loc,c6]).length = 6 := rfl
 generalize [z3 bEn 1 x.en,z3 bPrt 1 x.ins,z3 bPrt 1 x.outs,z3 bSlt 1 x.slots,z3 bLoc 2 x.loc,c6] = cs at *
 have hp := znw h6 (fun c hc => by have := hlen c hc; rw [List.length_append] at hm; omega)
 have m4 : zx.length = 4 := rfl
 have hge : 4 ≤ (zc3 0 cs).length := by
   rcases cs with _ | ⟨c,cs⟩
   · cases h6
   · unfold zc3; simp only [List.length_append,ze]; omega
 generalize hB : zc3 0 cs = B at *
 rw [List.length_append,m4] at hm
 unfold decG
 rw [if_neg (by omega),if_neg,zth]
 rotate_left
 · simp only [not_or,Decidable.not_not]
   refine ⟨by omega,?_⟩
   unfold zcr
   rw [List.append_assoc]
   rfl
 have ho : zfq (zcr (zx ++ B)) = zx ++ B := by simp only [zfq,zth,Option.getD_some]
 simp only [Option.isSome_some,↓reduceIte]
 rw [ho]
 unfold decB
 rw [zv5,hp]
 simp only [↓reduceIte]
 rw [tk]
 simp only [↓reduceIte]
theorem z7g {b x : List UInt8} (h : zfh b = some x) : b = zcr x := by
 unfold zfh at h
 split at h
 · rename_i hh
   injection h with h
   subst h
   unfold zcr
   rw [hh.2,List.take_append_drop]
 · cases h
theorem dec_body {b body : List UInt8} (hb : zfh b = some body) (hm : b.take 4 = zx) (h8 : ¬ b.length < 8) (hl : b.length ≤ 131072) :
   decB body = yal body b ∧ (∀ x,decB body = (x,0) → encF x = some b ∧ nums x ∧ vImg x) ∧ ((decB body).2 ≠ 0 → (decB body).1 = img0) := by
 have hs := z7g hb
 have hbl := ze5 body
 have hbody : body = zx ++ body.drop 4 := by
   have e : body.take 4 = zx := by
     rw [← hm,hs]
     unfold zcr
     rw [List.take_append_of_le_length]
     rw [hs] at h8
     omega
   rw [← e,List.take_append_drop]
 unfold decB yal
 cases hp : (zbr (body.drop 4)).2 with
 | false => exact ⟨rfl,fun x h => (by cases h),fun _ => rfl⟩
 | true =>
   simp only [↓reduceIte]
   obtain ⟨p1,p2,p3⟩ := z7v hp
   generalize (zbr (body.drop 4)).1 = cs at p1 p2 p3 ⊢
   obtain ⟨c0,c1,c2,c3,c4,c5,rfl⟩ : ∃ c0 c1 c2 c3 c4 c5,cs = [c0,c1,c2,c3,c4,c5] := by
     rcases cs with _ | ⟨c0,_ | ⟨c1,_ | ⟨c2,_ | ⟨c3,_ | ⟨c4,_ | ⟨c5,_ | ⟨c6,l⟩⟩⟩⟩⟩⟩⟩ <;> simp at p2
     exact ⟨c0,c1,c2,c3,c4,c5,rfl⟩
   have hT := fun x => @z5q c0 c1 c2 c3 c4 c5 x
   have hI := fun x => @take_img c0 c1 c2 c3 c4 c5 x
   have henc : ∀ x,zhx [c0,c1,c2,c3,c4,c5] = (x,true) → encF x = some b ∧ nums x ∧ vImg x := fun x hx => by
     obtain ⟨v,n,pc,e0,e1,e2,e3,e4,_⟩ := hT x hx
     have e : zcr (zx ++ zc3 0 [z3 bEn 1 x.en,z3 bPrt 1 x.ins,z3 bPrt 1 x.outs,z3 bSlt 1 x.slots,z3 bLoc 2 x.loc,c5]) = b := by
       rw [← e0,← e1,← e2,← e3,← e4,← p1,← hbody]
       exact hs.symm
     have := enc_of v pc (by rw [e]; exact hl)
     rw [e] at this
     exact ⟨this,n,v⟩
   simp only [List.getD_cons_zero,List.getD_cons_succ]
   cases ht : (zhx [c0,c1,c2,c3,c4,c5]).2 with
   | true =>
     have hx : zhx [c0,c1,c2,c3,c4,c5] = ((zhx [c0,c1,c2,c3,c4,c5]).1,true) := Prod.ext rfl ht
     obtain ⟨i1,i2⟩ := hI _ hx
     obtain ⟨n1,n2,n3⟩ := henc _ hx
     simp only [↓reduceIte]
     rw [i1,n1,i2]
     simp only [Bool.true_and,beq_self_eq_true,↓reduceIte]
     refine ⟨trivial,fun x h => ?_,fun h => absurd rfl h⟩
     simp only [Prod.mk.injEq,and_true] at h
     subst h
     exact ⟨n1,n2,n3⟩
   | false =>
     simp only [Bool.false_eq_true,↓reduceIte]
     refine ⟨?_,fun x h => (by simp only [Prod.mk.injEq] at h; exact absurd h.2 (by decide)),fun _ => trivial⟩
     split
     · rename_i hc
       exfalso
       simp only [Bool.and_eq_true,beq_iff_eq] at hc
       obtain ⟨hc1,hc2⟩ := hc
       obtain ⟨c6,hv,hpc,hbb,_⟩ := zxr hc2
       have e1 : zx ++ zc3 0 [z3 bEn 1 (imgQ [c0,c1,c2,c3,c4,c5]).en,z3 bPrt 1 (imgQ [c0,c1,c2,c3,c4,c5]).ins,z3 bPrt 1 (imgQ [c0,c1,c2,c3,c4,c5]).outs,z3 bSlt 1 (imgQ [c0,c1,c2,c3,c4,c5]).slots,z3 bLoc 2 (imgQ [c0,c1,c2,c3,c4,c5]).loc,c6] = body := by
         have h1 := zth (zx ++ zc3 0 [z3 bEn 1 (imgQ [c0,c1,c2,c3,c4,c5]).en,z3 bPrt 1 (imgQ [c0,c1,c2,c3,c4,c5]).ins,z3 bPrt 1 (imgQ [c0,c1,c2,c3,c4,c5]).outs,z3 bSlt 1 (imgQ [c0,c1,c2,c3,c4,c5]).slots,z3 bLoc 2 (imgQ [c0,c1,c2,c3,c4,c5]).loc,c6])
         rw [← hbb,hb] at h1
         exact (Option.some.inj h1).symm
       have hlb : ∀ c ∈ [c0,c1,c2,c3,c4,c5],c.length ≤ 131072 := fun c hc => by
         have := zxi [c0,c1,c2,c3,c4,c5] 0 c hc
         rw [← p1,List.length_drop] at this
         rw [hs] at hl
         omega
       have hn : nums (imgQ [c0,c1,c2,c3,c4,c5]) := by
         have h := z5l (cs := [c0,c1,c2,c3,c4,c5]) (fun i => by
           rcases i with _ | _ | _ | _ | _ | _ | i
           · exact hlb c0 (by simp)
           · exact hlb c1 (by simp)
           · exact hlb c2 (by simp)
           · exact hlb c3 (by simp)
           · exact hlb c4 (by simp)
           · exact hlb c5 (by simp)
           · exact Nat.zero_le _)
         exact ⟨fun s hs => (h.im.slots.2.2 s hs).2.2,h.im.code.2⟩
       have tk := z0t hv hn hpc
       have e2 : zc3 0 [z3 bEn 1 (imgQ [c0,c1,c2,c3,c4,c5]).en,z3 bPrt 1 (imgQ [c0,c1,c2,c3,c4,c5]).ins,z3 bPrt 1 (imgQ [c0,c1,c2,c3,c4,c5]).outs,z3 bSlt 1 (imgQ [c0,c1,c2,c3,c4,c5]).slots,z3 bLoc 2 (imgQ [c0,c1,c2,c3,c4,c5]).loc,c6] = zc3 0 [c0,c1,c2,c3,c4,c5] := by
         rw [← p1,← e1,zv5]
       have hle2 := zxi [z3 bEn 1 (imgQ [c0,c1,c2,c3,c4,c5]).en,z3 bPrt 1 (imgQ [c0,c1,c2,c3,c4,c5]).ins,z3 bPrt 1 (imgQ [c0,c1,c2,c3,c4,c5]).outs,z3 bSlt 1 (imgQ [c0,c1,c2,c3,c4,c5]).slots,z3 bLoc 2 (imgQ [c0,c1,c2,c3,c4,c5]).loc,c6] 0
       have hsl : (zc3 0 [c0,c1,c2,c3,c4,c5]).length ≤ 131072 := by
         rw [← p1,List.length_drop]
         rw [hs] at hl
         omega
       rw [e2] at hle2
       have q1 := znw (cs := [z3 bEn 1 (imgQ [c0,c1,c2,c3,c4,c5]).en,z3 bPrt 1 (imgQ [c0,c1,c2,c3,c4,c5]).ins,z3 bPrt 1 (imgQ [c0,c1,c2,c3,c4,c5]).outs,z3 bSlt 1 (imgQ [c0,c1,c2,c3,c4,c5]).slots,z3 bLoc 2 (imgQ [c0,c1,c2,c3,c4,c5]).loc,c6]) rfl (fun c hc => by have := hle2 c hc; omega)
       have q2 := znw (cs := [c0,c1,c2,c3,c4,c5]) rfl (fun c hc => p3 c hc)
       rw [e2,q2] at q1
       simp only [Prod.mk.injEq,and_true] at q1
       rw [← q1] at tk
       rw [tk] at ht
       cases ht
     · rfl
theorem yce {b : List UInt8} : decG b = decR b ∧ (∀ x,decG b = (x,0) → encF x = some b ∧ nums x ∧ vImg x) ∧ ((decG b).2 ≠ 0 → (decG b).1 = img0) := by
 unfold decG decR
 by_cases c1 : 131072 < b.length
 · rw [if_pos c1,if_pos c1]
   exact ⟨rfl,fun x h => (by simp only [Prod.mk.injEq] at h; exact absurd h.2 (by decide)),fun _ => rfl⟩
 rw [if_neg c1,if_neg c1]
 by_cases c2 : b.length < 8 ∨ ¬ b.take 4 = zx
 · rw [if_pos c2,if_pos c2]
   exact ⟨rfl,fun x h => (by simp only [Prod.mk.injEq] at h; exact absurd h.2 (by decide)),fun _ => rfl⟩
 rw [if_neg c2,if_neg c2]
 simp only [not_or,Decidable.not_not] at c2
 cases ho : zfh b with
 | none => exact ⟨rfl,fun x h => (by simp only [Option.isSome_none,Bool.false_eq_true,↓reduceIte,Prod.mk.injEq] at h; exact absurd h.2 (by decide)),fun _ => rfl⟩
 | some body =>
   have e : zfq b = body := by simp only [zfq,ho,Option.getD_some]
   simp only [Option.isSome_some,↓reduceIte]
   rw [e]
   exact dec_body ho c2.2 c2.1 (by omega)
end Go.Proofs.YtfaailjhioobhaaGreat
set_option linter.all false
set_option maxRecDepth 20000
namespace Go.Proofs.YtfaailjhioobhaaGreat
open Go.Nk
noncomputable def z1m : List DV → Prop × DV := zk8 z7u (fun l => l.length ≤ 1000000000)
theorem zrs {l : List Prt} (h : l.length ≤ 1000000000) : z1m [.sl (l.map cPrt),.sl (l.map cPrt)] = (True,.bool true) := zcx z7u h
theorem zd1 : OkP Tryz.prog 45 z1m := by
 refine OkP.mkE (ps := []) (hs := []) trivial trivial zeg fun l h => ?_
 have h : l.length ≤ 1000000000 := h
 
 (refine Todo.of ?_); (repeat' (first | ((with_reducible refine Todo.to ?_); (repeat (simp only [↓rP,rT,rU,eL,zc,dval,dBin,dInt,Nat.reduceEqDiff,↓reduceIte,reduceCtorEq,zb5,z7u ])))))
 refine zad l (fun k (_ : Unit) => ⟨[(0,.sl (l.map cPrt)),(1,.sl (l.map cPrt)),(12,.int .i64 l.length),(13,.int .i64 k)],[]⟩) (fun _ _ _ => True) () (Nat.zero_le _) (by simp only [zk,List.map_cons,List.map_nil,zd,Nk.get_nil,Nat.reduceEqDiff,↓reduceIte,Nat.succ_ne_self,DV.cut,DV.inB,List.take_nil,reduceCtorEq] <;> rfl) trivial (fun k x r _ d hx _ _ => ?_) (fun k _ e _ => ?_)
 · have wk := zci d (by omega)
   have r1 := za8 cPrt hx
   have e1 : ∀ neg,dAeq neg [2,0,0,0] (.agg (cPrt x)) (.agg (cPrt x)) = (True,.bool (!neg)) := fun neg => by cases neg <;> simp [dAeq,za3]
   (refine Todo.of ?_); (repeat' (first | ((with_reducible refine Todo.to ?_); (repeat (simp only [↓rP,rT,rU,zc,dval,dBin,dInt,zg,zb,Nat.reduceEqDiff,Nat.reduceAdd,↓reduceIte,reduceCtorEq,Nat.reduceLeDiff,d,wk,r1,e1 ]))) | ((with_reducible refine And.intro ?_ ?_); · omega) | fail))
   exact ⟨(),by simp only [zk,List.map_cons,List.map_nil,zd,Nk.get_nil,Nat.reduceEqDiff,↓reduceIte,Nat.succ_ne_self,DV.cut,DV.inB,List.take_nil,reduceCtorEq,Int.natCast_add,Int.natCast_one] <;> rfl⟩
 · (refine Todo.of ?_); (repeat' (first | ((with_reducible refine Todo.to ?_); (repeat (simp only [↓rP,rT,rU,zc,dval,dBin,dInt,retV,DR.val,fzT,fzV,fz1,DV.immB,Nat.reduceEqDiff,↓reduceIte,reduceCtorEq,e ])))))
noncomputable def z8q : List DV → Prop × DV := zk8 eIns4 (fun l => l.length ≤ 1000000000)
theorem z2g {l : List In4} (h : l.length ≤ 1000000000) : z8q [.sl (l.map cIn4),.sl (l.map cIn4)] = (True,.bool true) := zcx eIns4 h
theorem zdo : OkP Tryz.prog 51 z8q := by
 refine OkP.mkE (ps := []) (hs := []) trivial trivial zdv fun l h => ?_
 have h : l.length ≤ 1000000000 := h
 
 (refine Todo.of ?_); (repeat' (first | ((with_reducible refine Todo.to ?_); (repeat (simp only [↓rP,rT,rU,zc,dval,dBin,dInt,Nat.reduceEqDiff,↓reduceIte,reduceCtorEq,zbs ])))))
 refine zad l (fun k (_ : Unit) => ⟨[(0,.sl (l.map cIn4)),(1,.sl (l.map cIn4)),(12,.int .i64 l.length),(13,.int .i64 k)],[]⟩) (fun _ _ _ => True) () (Nat.zero_le _) (by simp only [zk,List.map_cons,List.map_nil,zd,Nk.get_nil,Nat.reduceEqDiff,↓reduceIte,Nat.succ_ne_self,DV.cut,DV.inB,List.take_nil,reduceCtorEq] <;> rfl) trivial (fun k x r _ d hx _ _ => ?_) (fun k _ e _ => ?_)
 · have wk := zci d (by omega)
   have r1 := za8 cIn4 hx
   have e1 : ∀ neg,dAeq neg [0,0,0,0] (.agg (cIn4 x)) (.agg (cIn4 x)) = (True,.bool (!neg)) := fun neg => by cases neg <;> simp [dAeq,za3]
   (refine Todo.of ?_); (repeat' (first | ((with_reducible refine Todo.to ?_); (repeat (simp only [↓rP,rT,rU,zc,dval,dBin,dInt,zg,zb,Nat.reduceEqDiff,Nat.reduceAdd,↓reduceIte,reduceCtorEq,Nat.reduceLeDiff,d,wk,r1,e1 ]))) | ((with_reducible refine And.intro ?_ ?_); · omega) | fail))
   exact ⟨(),by simp only [zk,List.map_cons,List.map_nil,zd,Nk.get_nil,Nat.reduceEqDiff,↓reduceIte,Nat.succ_ne_self,DV.cut,DV.inB,List.take_nil,reduceCtorEq,Int.natCast_add,Int.natCast_one] <;> rfl⟩
 · (refine Todo.of ?_); (repeat' (first | ((with_reducible refine Todo.to ?_); (repeat (simp only [↓rP,rT,rU,zc,dval,dBin,dInt,retV,DR.val,fzT,fzV,fz1,DV.immB,Nat.reduceEqDiff,↓reduceIte,reduceCtorEq,e ])))))
noncomputable def ya6 : List DV → Prop × DV := zk8 eIls (fun l => l.length ≤ 1000000000)
theorem z2j {l : List Int} (h : l.length ≤ 1000000000) : ya6 [.sl (ils l),.sl (ils l)] = (True,.bool true) := zcx eIls h
theorem zi3 : OkP Tryz.prog 50 ya6 := by
 refine OkP.mkE (ps := []) (hs := []) trivial trivial zj4 fun l h => ?_
 have h : l.length ≤ 1000000000 := h
 
 (refine Todo.of ?_); (repeat' (first | ((with_reducible refine Todo.to ?_); (repeat (simp only [↓rP,rT,zc,dval,dBin,dInt,Nat.reduceEqDiff,↓reduceIte,reduceCtorEq,zej,eIls,zbq ])))))
 refine zad l (fun k (_ : Unit) => ⟨[(0,.sl (ils l)),(1,.sl (ils l)),(12,.int .i64 l.length),(13,.int .i64 k)],[]⟩) (fun _ _ _ => True) () (Nat.zero_le _) (by simp only [zk,List.map_cons,List.map_nil,zd,Nk.get_nil,Nat.reduceEqDiff,↓reduceIte,Nat.succ_ne_self,DV.cut,DV.inB,List.take_nil,reduceCtorEq] <;> rfl) trivial (fun k x r _ d hx _ _ => ?_) (fun k _ e _ => ?_)
 · have wk := zci d (by omega)
   have r1 := zrt hx
   (refine Todo.of ?_); (repeat' (first | ((with_reducible refine Todo.to ?_); (repeat (simp only [↓rP,rT,rU,zc,dval,dBin,dInt,zg,zb,Nat.reduceEqDiff,↓reduceIte,reduceCtorEq,zbq,d,wk,r1 ]))) | ((with_reducible refine And.intro ?_ ?_); · omega) | fail))
   exact ⟨(),by simp only [zk,List.map_cons,List.map_nil,zd,Nk.get_nil,Nat.reduceEqDiff,↓reduceIte,Nat.succ_ne_self,DV.cut,DV.inB,List.take_nil,reduceCtorEq,Int.natCast_add,Int.natCast_one] <;> rfl⟩
 · (refine Todo.of ?_); (repeat' (first | ((with_reducible refine Todo.to ?_); (repeat (simp only [↓rP,rT,rU,zc,dval,dBin,dInt,retV,DR.val,fzT,fzV,fz1,DV.immB,Nat.reduceEqDiff,↓reduceIte,reduceCtorEq,e ])))))
noncomputable def yat : List DV → Prop × DV := zk8 eIls (fun l => l.length ≤ 1000000000)
theorem z2a {l : List Int} (h : l.length ≤ 1000000000) : yat [.sl (ils l),.sl (ils l)] = (True,.bool true) := zcx eIls h
theorem zga : OkP Tryz.prog 104 yat := by
 refine OkP.mkE (ps := []) (hs := []) trivial trivial zgs fun l h => ?_
 have h : l.length ≤ 1000000000 := h
 
 (refine Todo.of ?_); (repeat' (first | ((with_reducible refine Todo.to ?_); (repeat (simp only [↓rP,rT,zc,dval,dBin,dInt,Nat.reduceEqDiff,↓reduceIte,reduceCtorEq,zda,eIls,zbq ])))))
 refine zad l (fun k (_ : Unit) => ⟨[(0,.sl (ils l)),(1,.sl (ils l)),(12,.int .i64 l.length),(13,.int .i64 k)],[]⟩) (fun _ _ _ => True) () (Nat.zero_le _) (by simp only [zk,List.map_cons,List.map_nil,zd,Nk.get_nil,Nat.reduceEqDiff,↓reduceIte,Nat.succ_ne_self,DV.cut,DV.inB,List.take_nil,reduceCtorEq] <;> rfl) trivial (fun k x r _ d hx _ _ => ?_) (fun k _ e _ => ?_)
 · have wk := zci d (by omega)
   have r1 := zrt hx
   (refine Todo.of ?_); (repeat' (first | ((with_reducible refine Todo.to ?_); (repeat (simp only [↓rP,rT,rU,zc,dval,dBin,dInt,zg,zb,Nat.reduceEqDiff,↓reduceIte,reduceCtorEq,zbq,d,wk,r1 ]))) | ((with_reducible refine And.intro ?_ ?_); · omega) | fail))
   exact ⟨(),by simp only [zk,List.map_cons,List.map_nil,zd,Nk.get_nil,Nat.reduceEqDiff,↓reduceIte,Nat.succ_ne_self,DV.cut,DV.inB,List.take_nil,reduceCtorEq,Int.natCast_add,Int.natCast_one] <;> rfl⟩
 · (refine Todo.of ?_); (repeat' (first | ((with_reducible refine Todo.to ?_); (repeat (simp only [↓rP,rT,rU,zc,dval,dBin,dInt,retV,DR.val,fzT,fzV,fz1,DV.immB,Nat.reduceEqDiff,↓reduceIte,reduceCtorEq,e ])))))
noncomputable def s_sEn : List DV → Prop × DV := zk8 (eA cEn) (fun x => x.ct.length ≤ 1000000000)
theorem z6k {x : En} (h : x.ct.length ≤ 1000000000) : s_sEn [.agg (cEn x),.agg (cEn x)] = (True,.bool true) := zcx (eA cEn) h
theorem zp4 : OkP Tryz.prog 47 s_sEn := by
 refine OkP.mkE (ps := [(103,zpz)]) (hs := []) ⟨ok_Equal,trivial⟩ trivial zry fun x h => ?_
 have h : x.ct.length ≤ 1000000000 := h
 have e1 := zwk x.ct x.ct
 rw [eq_true h,decide_eq_true rfl] at e1
 
 (refine Todo.of ?_); (repeat' (first | ((with_reducible refine Todo.to ?_); (repeat (simp only [↓rP,rT,rU,eA,zc,dval,dBin,dStr,zg,zb,retV,DR.val,fzT,fzV,fz1,DV.immB,zp,zq,z1,zz,zu,z6,DV.one,alive,cellsOf,Nat.reduceEqDiff,Nat.reduceAdd,↓reduceIte,reduceCtorEq,Nat.reduceLT,forall_const,zjw,e1 ])))))
noncomputable def s_sSl : List DV → Prop × DV := zk8 (eA cSlt) (fun x => x.ini.length ≤ 1000000000)
theorem z6f {x : Slt} (h : x.ini.length ≤ 1000000000) : s_sSl [.agg (cSlt x),.agg (cSlt x)] = (True,.bool true) := zcx (eA cSlt) h
theorem zp8 : OkP Tryz.prog 49 s_sSl := by
 refine OkP.mkE (ps := [(104,yat)]) (hs := []) ⟨zga,trivial⟩ trivial zr5 fun x h => ?_
 have h : x.ini.length ≤ 1000000000 := h
 have e1 := z2a h
 have e2 : ∀ neg,dAeq neg [0,0,0] (.agg [.int .i64 x.ty.k,.int .i64 x.ty.e,.int .i64 x.ty.n]) (.agg [.int .i64 x.ty.k,.int .i64 x.ty.e,.int .i64 x.ty.n]) = (True,.bool (!neg)) := fun neg => by cases neg <;> simp [dAeq,za3]
 
 (refine Todo.of ?_); (repeat' (first | ((with_reducible refine Todo.to ?_); (repeat (simp only [↓rP,rT,rU,eA,zc,dval,dBin,dInt,dStr,zg,zb,retV,DR.val,fzT,fzV,fz1,DV.immB,zp,zq,z1,zz,zu,z6,DV.one,alive,cellsOf,Nat.reduceEqDiff,Nat.reduceAdd,↓reduceIte,reduceCtorEq,Nat.reduceLeDiff,Nat.reduceLT,forall_const,zjm,e1,e2 ])))))
def z15 (l : List En) : Prop := l.length ≤ 1000000000 ∧ ∀ x ∈ l,x.ct.length ≤ 1000000000
noncomputable def z3p : List DV → Prop × DV := fun args => (∃ l : List En,args = [.sl (l.map cEn),.sl (l.map cEn),.clo 47 []] ∧ z15 l,.bool true)
theorem z1c {l : List En} (h : z15 l) : z3p [.sl (l.map cEn),.sl (l.map cEn),.clo 47 []] = (True,.bool true) := by
 unfold z3p
 exact congrArg (·,DV.bool true) (eq_true ⟨l,rfl,h⟩)
theorem zbg : OkP Tryz.prog 46 z3p := by
 refine OkP.mk (ps := [(47,s_sEn)]) (hs := []) (n := 3) ⟨zp4,trivial⟩ trivial zbj fun args hp => ?_
 obtain ⟨l,rfl,h1,h2⟩ := hp
 refine ⟨rfl,?_⟩
 show dwp _ 0 _ (EndP _ (.bool true)) _
 
 (refine Todo.of ?_); (repeat' (first | ((with_reducible refine Todo.to ?_); (repeat (simp only [↓rP,rT,rU,zc,dval,za,dBin,dInt,Nat.reduceEqDiff,Nat.reduceAdd,↓reduceIte,reduceCtorEq,zai ])))))
 refine zad l (fun k (_ : Unit) => ⟨[(1,.sl (l.map cEn)),(2,.clo 47 []),(15,.sl (l.map cEn)),(16,.int .i64 l.length),(17,.int .i64 k)],[]⟩) (fun _ _ _ => True) () (Nat.zero_le _) (by simp only [zk,List.map_cons,List.map_nil,zd,Nk.get_nil,Nat.reduceEqDiff,↓reduceIte,Nat.succ_ne_self,DV.cut,DV.inB,List.take_nil,DV.inBL,reduceCtorEq] <;> rfl) trivial (fun k x r _ d hx _ _ => ?_) (fun k _ e _ => ?_)
 · have wk := zci d (by omega)
   have r1 := za8 cEn hx
   have e1 := z6k (h2 x (List.mem_of_getElem? hx))
   (refine Todo.of ?_); (repeat' (first | ((with_reducible refine Todo.to ?_); (repeat (simp only [↓rP,rT,rU,zc,dval,dBin,dInt,dUn,zg,zb,DV.immB,zp,zq,z1,zz,za4,zu,z6,zo,DV.one,cellsOf,zf,Nat.reduceEqDiff,Nat.reduceAdd,↓reduceIte,reduceCtorEq,Nat.reduceLeDiff,forall_const,d,wk,r1,e1 ]))) | ((with_reducible refine And.intro ?_ ?_); · omega) | fail))
   exact ⟨(),by simp only [zk,List.map_cons,List.map_nil,zd,Nk.get_nil,Nat.reduceEqDiff,↓reduceIte,Nat.succ_ne_self,DV.cut,DV.inB,List.take_zero,DV.inBL,Int.natCast_add,Int.natCast_one] <;> rfl⟩
 · (refine Todo.of ?_); (repeat' (first | ((with_reducible refine Todo.to ?_); (repeat (simp only [↓rP,rT,rU,zc,dval,dBin,dInt,retV,DR.val,fzT,fzV,fz1,DV.immB,Nat.reduceEqDiff,↓reduceIte,e ])))))
def z23 (l : List Slt) : Prop := l.length ≤ 1000000000 ∧ ∀ x ∈ l,x.ini.length ≤ 1000000000
noncomputable def z4s : List DV → Prop × DV := fun args => (∃ l : List Slt,args = [.sl (l.map cSlt),.sl (l.map cSlt),.clo 49 []] ∧ z23 l,.bool true)
theorem z1h {l : List Slt} (h : z23 l) : z4s [.sl (l.map cSlt),.sl (l.map cSlt),.clo 49 []] = (True,.bool true) := by
 unfold z4s
 exact congrArg (·,DV.bool true) (eq_true ⟨l,rfl,h⟩)
theorem zbi : OkP Tryz.prog 48 z4s := by
 refine OkP.mk (ps := [(49,s_sSl)]) (hs := []) (n := 3) ⟨zp8,trivial⟩ trivial zbk fun args hp => ?_
 obtain ⟨l,rfl,h1,h2⟩ := hp
 refine ⟨rfl,?_⟩
 show dwp _ 0 _ (EndP _ (.bool true)) _
 
 (refine Todo.of ?_); (repeat' (first | ((with_reducible refine Todo.to ?_); (repeat (simp only [↓rP,rT,rU,zc,dval,za,dBin,dInt,Nat.reduceEqDiff,Nat.reduceAdd,↓reduceIte,reduceCtorEq,zag ])))))
 refine zad l (fun k (_ : Unit) => ⟨[(1,.sl (l.map cSlt)),(2,.clo 49 []),(15,.sl (l.map cSlt)),(16,.int .i64 l.length),(17,.int .i64 k)],[]⟩) (fun _ _ _ => True) () (Nat.zero_le _) (by simp only [zk,List.map_cons,List.map_nil,zd,Nk.get_nil,Nat.reduceEqDiff,↓reduceIte,Nat.succ_ne_self,DV.cut,DV.inB,List.take_nil,DV.inBL,reduceCtorEq] <;> rfl) trivial (fun k x r _ d hx _ _ => ?_) (fun k _ e _ => ?_)
 · have wk := zci d (by omega)
   have r1 := za8 cSlt hx
   have e1 := z6f (h2 x (List.mem_of_getElem? hx))
   (refine Todo.of ?_); (repeat' (first | ((with_reducible refine Todo.to ?_); (repeat (simp only [↓rP,rT,rU,zc,dval,dBin,dInt,dUn,zg,zb,DV.immB,zp,zq,z1,zz,za4,zu,z6,zo,DV.one,cellsOf,zf,Nat.reduceEqDiff,Nat.reduceAdd,↓reduceIte,reduceCtorEq,Nat.reduceLeDiff,forall_const,d,wk,r1,e1 ]))) | ((with_reducible refine And.intro ?_ ?_); · omega) | fail))
   exact ⟨(),by simp only [zk,List.map_cons,List.map_nil,zd,Nk.get_nil,Nat.reduceEqDiff,↓reduceIte,Nat.succ_ne_self,DV.cut,DV.inB,List.take_zero,DV.inBL,Int.natCast_add,Int.natCast_one] <;> rfl⟩
 · (refine Todo.of ?_); (repeat' (first | ((with_reducible refine Todo.to ?_); (repeat (simp only [↓rP,rT,rU,zc,dval,dBin,dInt,retV,DR.val,fzT,fzV,fz1,DV.immB,Nat.reduceEqDiff,↓reduceIte,e ])))))
structure okSm (x : Img) : Prop where
 en : z15 x.en
 ins : x.ins.length ≤ 1000000000
 outs : x.outs.length ≤ 1000000000
 sl : z23 x.slots
 loc : x.loc.length ≤ 1000000000
 code : x.code.length ≤ 1000000000
noncomputable def z2l : List DV → Prop × DV := zk8 eImg okSm
theorem z0p {x : Img} (h : okSm x) : z2l [.agg (cImg x),.agg (cImg x)] = (True,.bool true) := zcx eImg h
theorem zyw : OkP Tryz.prog 16 z2l := by
 refine OkP.mkE (ps := [(45,z1m),(46,z3p),(48,z4s),(50,ya6),(51,z8q)]) (hs := [])
   ⟨zd1,zbg,zbi,zi3,zdo,trivial⟩ trivial z0k fun x h => ?_
 have e1 := z1c h.en
 have e2 := zrs h.ins
 have e3 := zrs h.outs
 have e4 := z1h h.sl
 have e5 := z2j h.loc
 have e6 := z2g h.code
 
 (refine Todo.of ?_); (repeat' (first | ((with_reducible refine Todo.to ?_); (repeat (simp only [↓rP,rT,rU,eA,zc,dval,zg,zb,retV,DR.val,fzT,fzV,fz1,DV.immB,zp,zq,z1,zz,capVL,zu,z6,DV.one,alive,cellsOf,Nat.reduceEqDiff,Nat.reduceAdd,↓reduceIte,reduceCtorEq,Nat.reduceLT,forall_const,zrw,eImg,e1,e2,e3,e4,e5,e6 ])))))
end Go.Proofs.YtfaailjhioobhaaGreat
set_option linter.all false
set_option maxRecDepth 20000
namespace Go.Proofs.YtfaailjhioobhaaGreat
open Go.Nk
theorem z9p {l : List (List UInt8)} (h : l.length ≤ 1000000000) : zpz [.sl (sls l),.sl (sls l)] = (True,.bool true) := by
 have := zwk l l
 rw [eq_true h,decide_eq_true rfl] at this
 exact this
noncomputable def s_wEn : List DV → Prop × DV := zk8 eEns (fun l => l.length ≤ 1000000000 ∧ ∀ e ∈ l,e.ct.length ≤ 1000000000)
theorem z6v {l : List En} (h : l.length ≤ 1000000000 ∧ ∀ e ∈ l,e.ct.length ≤ 1000000000) : s_wEn [.sl (l.map cEn),.sl (l.map cEn)] = (True,.bool true) := zcx eEns h
theorem okw_05 : OkP Tryz.prog 98 s_wEn := by
 refine OkP.mkE (ps := [(126,zpz)]) (hs := []) ⟨ok_Names,trivial⟩ trivial zql fun l h => ?_
 obtain ⟨h1,h2⟩ := h
 
 (refine Todo.of ?_); (repeat' (first | ((with_reducible refine Todo.to ?_); (repeat (simp only [↓rP,rT,rU,eL,zc,dval,dBin,dInt,Nat.reduceEqDiff,↓reduceIte,reduceCtorEq,zih,eEns ])))))
 refine zad l (fun k (_ : Unit) => ⟨[(0,.sl (l.map cEn)),(1,.sl (l.map cEn)),(5,.int .i64 k)],[]⟩) (fun _ _ _ => True) () (Nat.zero_le _) (by simp only [zk,List.map_cons,List.map_nil,zd,Nk.get_nil,Nat.reduceEqDiff,↓reduceIte,Nat.succ_ne_self,DV.cut,DV.inB,List.take_nil,reduceCtorEq] <;> rfl) trivial (fun k x r _ d hx _ _ => ?_) (fun k _ e _ => ?_)
 · have wk := zci d (by omega)
   have r1 := za8 cEn hx
   have e1 := z9p (h2 x (List.mem_of_getElem? hx))
   (refine Todo.of ?_); (repeat' (first | ((with_reducible refine Todo.to ?_); (repeat (simp only [↓rP,rT,rU,zc,dval,dBin,dInt,dStr,dUn,zg,zb,DV.immB,zp,zq,z1,zz,zu,z6,Nat.reduceEqDiff,Nat.reduceAdd,↓reduceIte,reduceCtorEq,Nat.reduceLT,d,wk,r1,e1 ]))) | ((with_reducible refine And.intro ?_ ?_); · omega) | fail))
   exact ⟨(),by simp only [zk,List.map_cons,List.map_nil,zd,Nk.get_nil,Nat.reduceEqDiff,↓reduceIte,Nat.succ_ne_self,DV.cut,DV.inB,List.take_nil,reduceCtorEq,Int.natCast_add,Int.natCast_one] <;> rfl⟩
 · (refine Todo.of ?_); (repeat' (first | ((with_reducible refine Todo.to ?_); (repeat (simp only [↓rP,rT,rU,zc,dval,dBin,dInt,retV,DR.val,fzT,fzV,fz1,DV.immB,Nat.reduceEqDiff,↓reduceIte,reduceCtorEq,e ])))))
noncomputable def s_wPr : List DV → Prop × DV := zk8 z7u (fun l => l.length ≤ 1000000000)
theorem zwo {l : List Prt} (h : l.length ≤ 1000000000) : s_wPr [.sl (l.map cPrt),.sl (l.map cPrt)] = (True,.bool true) := zcx z7u h
theorem okw_20 : OkP Tryz.prog 99 s_wPr := by
 refine OkP.mkE (ps := []) (hs := []) trivial trivial zp7 fun l h => ?_
 have h : l.length ≤ 1000000000 := h
 
 (refine Todo.of ?_); (repeat' (first | ((with_reducible refine Todo.to ?_); (repeat (simp only [↓rP,rT,rU,eL,zc,dval,dBin,dInt,Nat.reduceEqDiff,↓reduceIte,reduceCtorEq,zh1,z7u ])))))
 refine zad l (fun k (_ : Unit) => ⟨[(0,.sl (l.map cPrt)),(1,.sl (l.map cPrt)),(5,.int .i64 k)],[]⟩) (fun _ _ _ => True) () (Nat.zero_le _) (by simp only [zk,List.map_cons,List.map_nil,zd,Nk.get_nil,Nat.reduceEqDiff,↓reduceIte,Nat.succ_ne_self,DV.cut,DV.inB,List.take_nil,reduceCtorEq] <;> rfl) trivial (fun k x r _ d hx _ _ => ?_) (fun k _ e _ => ?_)
 · have wk := zci d (by omega)
   have r1 := za8 cPrt hx
   have e1 : ∀ neg,dAeq neg [2,0,0,0] (.agg (cPrt x)) (.agg (cPrt x)) = (True,.bool (!neg)) := fun neg => by cases neg <;> simp [dAeq,za3]
   (refine Todo.of ?_); (repeat' (first | ((with_reducible refine Todo.to ?_); (repeat (simp only [↓rP,rT,rU,zc,dval,dBin,dInt,zg,zb,Nat.reduceEqDiff,Nat.reduceAdd,↓reduceIte,reduceCtorEq,Nat.reduceLeDiff,d,wk,r1,e1 ]))) | ((with_reducible refine And.intro ?_ ?_); · omega) | fail))
   exact ⟨(),by simp only [zk,List.map_cons,List.map_nil,zd,Nk.get_nil,Nat.reduceEqDiff,↓reduceIte,Nat.succ_ne_self,DV.cut,DV.inB,List.take_nil,reduceCtorEq,Int.natCast_add,Int.natCast_one] <;> rfl⟩
 · (refine Todo.of ?_); (repeat' (first | ((with_reducible refine Todo.to ?_); (repeat (simp only [↓rP,rT,rU,zc,dval,dBin,dInt,retV,DR.val,fzT,fzV,fz1,DV.immB,Nat.reduceEqDiff,↓reduceIte,reduceCtorEq,e ])))))
noncomputable def s_wSl : List DV → Prop × DV := zk8 eSlts (fun l => l.length ≤ 1000000000 ∧ ∀ s ∈ l,s.ini.length ≤ 1000000000)
theorem z6o {l : List Slt} (h : l.length ≤ 1000000000 ∧ ∀ s ∈ l,s.ini.length ≤ 1000000000) : s_wSl [.sl (l.map cSlt),.sl (l.map cSlt)] = (True,.bool true) := zcx eSlts h
theorem okw_27 : OkP Tryz.prog 100 s_wSl := by
 refine OkP.mkE (ps := [(127,z8o)]) (hs := []) ⟨zoh,trivial⟩ trivial zqd fun l h => ?_
 obtain ⟨h1,h2⟩ := h
 
 (refine Todo.of ?_); (repeat' (first | ((with_reducible refine Todo.to ?_); (repeat (simp only [↓rP,rT,rU,zc,dval,dBin,dInt,Nat.reduceEqDiff,↓reduceIte,reduceCtorEq,zis ])))))
 refine zad l (fun k (_ : Unit) => ⟨[(0,.sl (l.map cSlt)),(1,.sl (l.map cSlt)),(5,.int .i64 k)],[]⟩) (fun _ _ _ => True) () (Nat.zero_le _) (by simp only [zk,List.map_cons,List.map_nil,zd,Nk.get_nil,Nat.reduceEqDiff,↓reduceIte,Nat.succ_ne_self,DV.cut,DV.inB,List.take_nil,reduceCtorEq] <;> rfl) trivial (fun k x r _ d hx _ _ => ?_) (fun k _ e _ => ?_)
 · have wk := zci d (by omega)
   have r1 := za8 cSlt hx
   have e1 : ∀ neg,dAeq neg [0,0,0] (.agg [.int .i64 x.ty.k,.int .i64 x.ty.e,.int .i64 x.ty.n]) (.agg [.int .i64 x.ty.k,.int .i64 x.ty.e,.int .i64 x.ty.n]) = (True,.bool (!neg)) := fun neg => by cases neg <;> simp [dAeq,za3]
   have e2 := z2u x.ini (by have := h2 x (List.mem_of_getElem? hx); omega)
   (refine Todo.of ?_); (repeat' (first | ((with_reducible refine Todo.to ?_); (repeat (simp only [↓rP,rT,rU,zc,dval,dBin,dInt,dStr,dUn,zg,zb,DV.immB,zp,zq,z1,zz,zu,z6,Nat.reduceEqDiff,Nat.reduceAdd,↓reduceIte,reduceCtorEq,Nat.reduceLeDiff,Nat.reduceLT,d,wk,r1,e1,e2 ]))) | ((with_reducible refine And.intro ?_ ?_); · omega) | fail))
   exact ⟨(),by simp only [zk,List.map_cons,List.map_nil,zd,Nk.get_nil,Nat.reduceEqDiff,↓reduceIte,Nat.succ_ne_self,DV.cut,DV.inB,List.take_nil,reduceCtorEq,Int.natCast_add,Int.natCast_one] <;> rfl⟩
 · (refine Todo.of ?_); (repeat' (first | ((with_reducible refine Todo.to ?_); (repeat (simp only [↓rP,rT,rU,zc,dval,dBin,dInt,retV,DR.val,fzT,fzV,fz1,DV.immB,Nat.reduceEqDiff,↓reduceIte,reduceCtorEq,e ])))))
noncomputable def s_wIn : List DV → Prop × DV := zk8 eIls (fun l => l.length ≤ 1000000000)
theorem z63 {l : List Int} (h : l.length ≤ 1000000000) : s_wIn [.sl (ils l),.sl (ils l)] = (True,.bool true) := zcx eIls h
theorem okw_32i : OkP Tryz.prog 101 s_wIn := by
 refine OkP.mkE (ps := []) (hs := []) trivial trivial zkq fun l h => ?_
 have h : l.length ≤ 1000000000 := h
 
 (refine Todo.of ?_); (repeat' (first | ((with_reducible refine Todo.to ?_); (repeat (simp only [↓rP,rT,zc,dval,dBin,dInt,Nat.reduceEqDiff,↓reduceIte,reduceCtorEq,ze7,eIls,zbq ])))))
 refine zad l (fun k (_ : Unit) => ⟨[(0,.sl (ils l)),(1,.sl (ils l)),(5,.int .i64 k)],[]⟩) (fun _ _ _ => True) () (Nat.zero_le _) (by simp only [zk,List.map_cons,List.map_nil,zd,Nk.get_nil,Nat.reduceEqDiff,↓reduceIte,Nat.succ_ne_self,DV.cut,DV.inB,List.take_nil,reduceCtorEq] <;> rfl) trivial (fun k x r _ d hx _ _ => ?_) (fun k _ e _ => ?_)
 · have wk := zci d (by omega)
   (refine Todo.of ?_); (repeat' (first | ((with_reducible refine Todo.to ?_); (repeat (simp only [↓rP,rT,rU,zc,dval,dBin,dInt,zg,zb,Nat.reduceEqDiff,↓reduceIte,reduceCtorEq,zbq,d,wk,zrt hx ]))) | ((with_reducible refine And.intro ?_ ?_); · omega) | fail))
   exact ⟨(),by simp only [zk,List.map_cons,List.map_nil,zd,Nk.get_nil,Nat.reduceEqDiff,↓reduceIte,Nat.succ_ne_self,DV.cut,DV.inB,List.take_nil,reduceCtorEq,Int.natCast_add,Int.natCast_one] <;> rfl⟩
 · (refine Todo.of ?_); (repeat' (first | ((with_reducible refine Todo.to ?_); (repeat (simp only [↓rP,rT,rU,zc,dval,dBin,dInt,retV,DR.val,fzT,fzV,fz1,DV.immB,Nat.reduceEqDiff,↓reduceIte,reduceCtorEq,zbq,e ])))))
noncomputable def s_wI4 : List DV → Prop × DV := zk8 eIns4 (fun l => l.length ≤ 1000000000)
theorem z6m {l : List In4} (h : l.length ≤ 1000000000) : s_wI4 [.sl (l.map cIn4),.sl (l.map cIn4)] = (True,.bool true) := zcx eIns4 h
theorem okw_28 : OkP Tryz.prog 102 s_wI4 := by
 refine OkP.mkE (ps := []) (hs := []) trivial trivial zq2 fun l h => ?_
 have h : l.length ≤ 1000000000 := h
 
 (refine Todo.of ?_); (repeat' (first | ((with_reducible refine Todo.to ?_); (repeat (simp only [↓rP,rT,rU,zc,dval,dBin,dInt,Nat.reduceEqDiff,↓reduceIte,reduceCtorEq,zif ])))))
 refine zad l (fun k (_ : Unit) => ⟨[(0,.sl (l.map cIn4)),(1,.sl (l.map cIn4)),(5,.int .i64 k)],[]⟩) (fun _ _ _ => True) () (Nat.zero_le _) (by simp only [zk,List.map_cons,List.map_nil,zd,Nk.get_nil,Nat.reduceEqDiff,↓reduceIte,Nat.succ_ne_self,DV.cut,DV.inB,List.take_nil,reduceCtorEq] <;> rfl) trivial (fun k x r _ d hx _ _ => ?_) (fun k _ e _ => ?_)
 · have wk := zci d (by omega)
   have r1 := za8 cIn4 hx
   have e1 : ∀ neg,dAeq neg [0,0,0,0] (.agg (cIn4 x)) (.agg (cIn4 x)) = (True,.bool (!neg)) := fun neg => by cases neg <;> simp [dAeq,za3]
   (refine Todo.of ?_); (repeat' (first | ((with_reducible refine Todo.to ?_); (repeat (simp only [↓rP,rT,rU,zc,dval,dBin,dInt,zg,zb,Nat.reduceEqDiff,Nat.reduceAdd,↓reduceIte,reduceCtorEq,Nat.reduceLeDiff,d,wk,r1,e1 ]))) | ((with_reducible refine And.intro ?_ ?_); · omega) | fail))
   exact ⟨(),by simp only [zk,List.map_cons,List.map_nil,zd,Nk.get_nil,Nat.reduceEqDiff,↓reduceIte,Nat.succ_ne_self,DV.cut,DV.inB,List.take_nil,reduceCtorEq,Int.natCast_add,Int.natCast_one] <;> rfl⟩
 · (refine Todo.of ?_); (repeat' (first | ((with_reducible refine Todo.to ?_); (repeat (simp only [↓rP,rT,rU,zc,dval,dBin,dInt,retV,DR.val,fzT,fzV,fz1,DV.immB,Nat.reduceEqDiff,↓reduceIte,reduceCtorEq,e ])))))
noncomputable def zzl : List DV → Prop × DV := zk8 eImg (fun x => okSm x)
theorem zuy {x : Img} (h : okSm x) : zzl [.agg (cImg x),.agg (cImg x)] = (True,.bool true) := zcx eImg h
theorem okw_32 : OkP Tryz.prog 44 zzl := by
 refine OkP.mkE (ps := [(98,s_wEn),(99,s_wPr),(100,s_wSl),(101,s_wIn),(102,s_wI4)]) (hs := [])
   ⟨okw_05,okw_20,okw_27,okw_32i,okw_28,trivial⟩ trivial zp1 fun x h => ?_
 have e1 := z6v h.en
 have e2 := zwo h.ins
 have e3 := zwo h.outs
 have e4 := z6o h.sl
 have e5 := z63 (l := x.loc) h.loc
 have e6 := z6m h.code
 
 (refine Todo.of ?_); (repeat' (first | ((with_reducible refine Todo.to ?_); (repeat (simp only [↓rP,rT,rU,eA,zc,dval,zg,zb,retV,DR.val,fzT,fzV,fz1,DV.immB,zp,zq,z1,zz,zu,z6,DV.one,alive,cellsOf,Nat.reduceEqDiff,Nat.reduceAdd,↓reduceIte,reduceCtorEq,Nat.reduceLT,forall_const,ziv,eImg,e1,e2,e3,e4,e5,e6 ])))))
theorem okw_33 : OkP Tryz.prog 14 zzl := by
 refine OkP.mkE (ps := [(44,zzl)]) (hs := []) ⟨okw_32,trivial⟩ trivial zpy fun x h => ?_
 have e1 := zuy h
 
 (refine Todo.of ?_); (repeat' (first | ((with_reducible refine Todo.to ?_); (repeat (simp only [↓rP,rT,rU,eA,zc,dval,zg,zb,retV,DR.val,fzT,fzV,fz1,DV.immB,zp,zq,z1,zz,za4,zu,z6,DV.one,cellsOf,Nat.reduceEqDiff,Nat.reduceAdd,↓reduceIte,reduceCtorEq,Nat.reduceLeDiff,forall_const,zid,eImg,e1 ])))))
end Go.Proofs.YtfaailjhioobhaaGreat
set_option linter.all false
set_option maxRecDepth 20000
namespace Go.Proofs.YtfaailjhioobhaaGreat
open Go.Nk
noncomputable def zyo : List DV → Prop × DV := zdu eI fun n => (True,.int .i64 n)
theorem zwx (n : Int) : zyo [.int .i64 n] = (True,.int .i64 n) := zan z2d _ n
theorem zim : OkP Tryz.prog 15 zyo := by
 refine OkP.mk1 (ps := []) (hs := []) trivial trivial zr0 fun n _ => ?_
 (refine Todo.of ?_); (repeat' (first | ((with_reducible refine Todo.to ?_); (repeat (simp only [↓rP,rT,eI,zc,dval,retV,DR.val,fzT,fzV,fz1,DV.immB,↓reduceIte,reduceCtorEq,zjr ])))))
def zw5 : List UInt8 := zx ++ [1,0,0,0,1,0,2,0,0,0,1,0,3,0,0,0,1,0,4,0,0,0,1,0,5,0,0,0,2,0,0,6,0,0,0,0]
theorem secs0 : encG img0 6 = some (zw5.drop 4) := by decide
theorem z5t : encF img0 = some (zcr zw5) := by
 refine (z1z secs0 (by decide)).trans ?_
 rfl
theorem okEnc0 : okEnc img0 := by
 refine ⟨⟨?_,?_,?_,?_,?_,?_⟩,by decide⟩
 all_goals first | (refine ⟨by decide,by decide,?_⟩; intro p hp; cases hp; done) | (refine ⟨by decide,?_⟩; intro p hp; cases hp; done)
theorem okSm0 : okSm img0 := by
 refine ⟨⟨by decide,?_⟩,by decide,by decide,⟨by decide,?_⟩,by decide,by decide⟩
 all_goals (intro p hp; cases hp)
theorem dec_img0 : decG (zcr zw5) = (img0,0) := dec_enc ⟨fun s hs => (by cases hs),fun i hi => (by cases hi)⟩ z5t
noncomputable def zyf : List DV → Prop × DV := ybv (True,.bool true)
theorem z1v : zyf [] = (True,.bool true) := z4y _
theorem zn6 : OkP Tryz.prog 8 zyf := by
 refine OkP.mk0 (ps := [(9,z6w),(12,z87),(15,zyo),(16,z2l)]) (hs := []) ⟨zuz,zkr,zim,zyw,trivial⟩ trivial zqy fun _ => ?_
 
 have l : (zcr zw5).length = 44 := ze5 zw5
 have e1 := z32 img0
 rw [eq_true okEnc0,z5t] at e1
 have e2 := z3g (zcr zw5)
 rw [eq_true (show (zcr zw5).length ≤ 131072 ∨ 131072 < (zcr zw5).length from .inl (by omega)),dec_img0] at e2
 simp only at e2
 have e3 := z0p okSm0
 have e4 := zwx 0
 simp only [putV,Option.getD_some,Option.isSome_some] at e1
 have x1 : cImg img0 = [.sl [],.sl [],.sl [],.sl [],.sl [],.sl []] := rfl
 rw [x1] at e1 e2 e3
 have l2 : (bsl (zcr zw5)).length = 44 := by rw [zab,l]
 (have hcondQ := Bool.and_self; refine Todo.of ?_); (repeat' (first | ((with_reducible refine Todo.to ?_); (repeat (simp only [↓rP,rT,rU,zj,zc,dval,dBin,dInt,zg,zb,retV,DR.val,fzT,fzVs,fzV,fz1,DV.immB,zp,zq,z1,zz,za4,zu,z6,zo,DV.one,fzL,cellsOf,zf,Nat.reduceEqDiff,Nat.reduceAdd,↓reduceIte,reduceCtorEq,Nat.reduceLeDiff,Nat.reduceLT,forall_const,zh7,e1,e2,e3,e4,l2 ,hcondQ])))))
end Go.Proofs.YtfaailjhioobhaaGreat
set_option linter.all false
set_option maxRecDepth 20000
namespace Go.Proofs.YtfaailjhioobhaaGreat
open Go.Nk
structure okRd (x : Img) : Prop where
 len : okLen x
 ins : ∀ p ∈ x.ins,ok3 p.ty
 outs : ∀ p ∈ x.outs,ok3 p.ty
 slots : ∀ s ∈ x.slots,ok3 s.ty ∧ ∀ n ∈ s.ini,zbd n
 loc : ∀ k ∈ x.loc,zbd k
 code : ∀ i ∈ x.code,ok64 i
end Go.Proofs.YtfaailjhioobhaaGreat
set_option linter.all false
set_option maxRecDepth 20000
namespace Go.Proofs.YtfaailjhioobhaaGreat
open Go.Nk
theorem okSm_enc {x : Img} {b : List UInt8} (h : encF x = some b) (v : vImg x) : okSm x := by
 obtain ⟨c6,_,hc,_,_⟩ := zxr h
 have hl : x.code.length ≤ 6000 := by
   unfold putI at hc
   split at hc
   · rename_i q
     simp only [Bool.and_eq_true,decide_eq_true_eq] at q
     exact q.2
   · cases hc
 have h1 := v.en.1
 have h2 := v.ins.1
 have h3 := v.outs.1
 have h4 := v.slots.1
 have h5 := v.loc.1
 refine ⟨⟨by omega,fun e he => ?_⟩,by omega,by omega,⟨by omega,fun s hs => ?_⟩,by omega,by omega⟩
 · have := (v.en.2 e he).2.1
   omega
 · have := (v.slots.2 s hs).2.2
   omega
theorem okSm_dec (b : List UInt8) : okSm (decG b).1 := by
 obtain ⟨_,d2,d3⟩ := yce (b := b)
 by_cases h : (decG b).2 = 0
 · have e : decG b = ((decG b).1,0) := Prod.ext rfl h
   obtain ⟨e1,_,v⟩ := d2 _ e
   exact okSm_enc e1 v
 · rw [d3 h]
   exact okSm0
noncomputable def z4b : List DV → Prop × DV := zdu eBs fun b => (b.length ≤ 4611686018427387904,.bool true)
theorem z2k (b : List UInt8) : z4b [.sl (bsl b)] = (b.length ≤ 4611686018427387904,.bool true) := zan zfu _ b
set_option maxHeartbeats 2000000 in
theorem zgq : OkP Tryz.prog 4 z4b := by
 refine OkP.mk1 (ps := [(8,zyf),(12,z87),(13,z3l),(14,zzl),(15,zyo)]) (hs := []) ⟨zn6,zkr,zmf,okw_33,zim,trivial⟩ trivial zhy fun b h => ?_
 have h : b.length ≤ 4611686018427387904 := h
 
 have e1 : z87 [.sl (bsl b)] = _ := z3g b
 have e2 : z3l [.sl (bsl b)] = _ := z8z b
 rw [eq_true (show b.length ≤ 131072 ∨ 131072 < b.length by omega)] at e1 e2
 rw [← (yce (b := b)).1] at e2
 have hs := okSm_dec b
 generalize decG b = D at e1 e2 hs
 obtain ⟨x,E⟩ := D
 simp only at e1 e2 hs
 have e3 := zuy hs
 have n1 := zwx E
 have l1 := z1v
 have he : (E == E) = true := beq_self_eq_true E
 obtain ⟨en,ins,outs,slots,loc,code⟩ := x
 simp only [cImg] at e1 e2 e3
 unfold eBs
 by_cases c1 : 6000 < b.length
 · by_cases c2 : b.length ≤ 131072
   · (have hcondQ := Bool.and_self; refine Todo.of ?_); (repeat' (first | ((with_reducible refine Todo.to ?_); (repeat (simp only [↓rP,rT,rU,zc,dval,dBin,dInt,retV,DR.val,fzT,fzV,fz1,DV.immB,zp,zq,zu,z6,Nat.reduceEqDiff,↓reduceIte,reduceCtorEq,zba,l1 ,hcondQ]))) | (((first | ((with_reducible refine zw (t := ?_) ?_ (fun hcQ => ?_) (fun hcQ => ?_)); rotate_left; · (rfl)) | ((with_reducible refine z7 (t := ?_) ?_ (fun hcQ => ?_) (fun hcQ => ?_)); rotate_left; · (rfl))) <;> (have hn := hcQ; have hcondQ := hcQ) <;> (try simp only [decide_eq_true_eq,decide_eq_false_iff_not] at hn) <;> (try (exfalso; omega)) <;> (refine Todo.of ?_))) | fail))
   · (have hcondQ := Bool.and_self; refine Todo.of ?_); (repeat' (first | ((with_reducible refine Todo.to ?_); (repeat (simp only [↓rP,rT,rU,zc,dval,dBin,dInt,zg,zb,retV,DR.val,fzT,fzVs,fzV,fz1,DV.immB,zp,zq,z1,zz,za4,zu,z6,zo,DV.one,cellsOf,zf,Nat.reduceEqDiff,Nat.reduceAdd,↓reduceIte,reduceCtorEq,Nat.reduceLeDiff,Nat.reduceLT,forall_const,zba,e1,e2,e3,n1,l1,hcondQ]))) | (((first | ((with_reducible refine zw (t := ?_) ?_ (fun hcQ => ?_) (fun hcQ => ?_)); rotate_left; · (rfl)) | ((with_reducible refine z7 (t := ?_) ?_ (fun hcQ => ?_) (fun hcQ => ?_)); rotate_left; · (rfl))) <;> (have hn := hcQ; have hcondQ := hcQ) <;> (try simp only [decide_eq_true_eq,decide_eq_false_iff_not] at hn) <;> (try (exfalso; omega)) <;> (refine Todo.of ?_))) | fail))
 · (have hcondQ := Bool.and_self; refine Todo.of ?_); (repeat' (first | ((with_reducible refine Todo.to ?_); (repeat (simp only [↓rP,rT,rU,zc,dval,dBin,dInt,zg,zb,retV,DR.val,fzT,fzVs,fzV,fz1,DV.immB,zp,zq,z1,zz,za4,zu,z6,zo,DV.one,cellsOf,zf,Nat.reduceEqDiff,Nat.reduceAdd,↓reduceIte,reduceCtorEq,Nat.reduceLeDiff,Nat.reduceLT,forall_const,zba,e1,e2,e3,n1,l1,hcondQ]))) | (((((with_reducible refine z7 (t := ?_) ?_ (fun hcQ => ?_) (fun hcQ => ?_)); rotate_left; · (rfl))) <;> (have hn := hcQ; have hcondQ := hcQ) <;> (try simp only [decide_eq_true_eq,decide_eq_false_iff_not] at hn) <;> (try (exfalso; omega)) <;> (refine Todo.of ?_))) | fail))
theorem imageDecodes_tells (dvs : List DV) (h : z5n Tryz.prog [31] dvs) : zwv Tryz.prog 4 dvs (.bool true) := by
 obtain ⟨d1,r,rfl,h1,rfl⟩ := h
 obtain ⟨b,hb,hl⟩ := HasV_one (by kernel_rfl) rfl (zgr.bytes) h1
 injection hb with hb
 subst hb
 have e := z2k b
 have := (zgq _ (by rw [e]; show b.length ≤ _; unfold zhg at hl; omega)).2
 rw [e] at this
 exact this
end Go.Proofs.YtfaailjhioobhaaGreat
