/- Migrations: the machine on laid code: steps. -/
import Derived.Test.YtjgefhgkinocmaaGreatMgN
import Derived.Test.YtjgefhgkinocmaaGreatVmB
set_option linter.all false
set_option maxRecDepth 20000
namespace Go.Proofs.YtjgefhgkinocmaaGreat
open Go.Nk
def GoC (code : List Ins) (v : MS) (n : Nat) (u : MS) : Prop := (∀ k,runN code (n + k) v = runN code k u) /\ ∀ k,k < n -> (runN code k v).1 = 17
def DieC (code : List Ins) (v : MS) (n : Nat) (f : Int) : Prop := (∀ k,(runN code (n + k) v).1 = f) /\ ∀ k,k < n -> (runN code k v).1 = 17
theorem GoC.refl {code : List Ins} {v : MS} : GoC code v 0 v := ⟨fun k => by rw [Nat.zero_add],fun k h => absurd h (Nat.not_lt_zero _)⟩
theorem GoC.trans {code : List Ins} {v u w : MS} {n m : Nat} (h1 : GoC code v n u) (h2 : GoC code u m w) : GoC code v (n + m) w := by
 refine ⟨fun k => by rw [Nat.add_assoc,h1.1,h2.1],fun k hk => ?_⟩
 by_cases c : k < n
 . exact h1.2 k c
 . obtain ⟨j,rfl⟩ : ∃ j,k = n + j := ⟨k - n,by omega⟩
   rw [h1.1]
   exact h2.2 j (by omega)
theorem GoC.die {code : List Ins} {v u : MS} {n m : Nat} {f : Int} (h1 : GoC code v n u) (h2 : DieC code u m f) : DieC code v (n + m) f := by
 refine ⟨fun k => by rw [Nat.add_assoc,h1.1,h2.1],fun k hk => ?_⟩
 by_cases c : k < n
 . exact h1.2 k c
 . obtain ⟨j,rfl⟩ : ∃ j,k = n + j := ⟨k - n,by omega⟩
   rw [h1.1]
   exact h2.2 j (by omega)
def z6c (v : MS) : MS := { v with used := v.used + 1 }
theorem z67 {code : List Ins} {v u : MS} {x : Ins} (h0 : 0 <= v.pc) (hx : code[v.pc.toNat]? = some x) (ho : x.o ≠ 10) (hd : doR (z6c v) x = (0,u)) : GoC code v 1 u := by
 have hl : v.pc.toNat < code.length := (List.getElem?_eq_some_iff.1 hx).1
 have hg : code.getD v.pc.toNat default = x := by simp [List.getD,hx]
 have c : ¬ (code.length : Int) <= v.pc := by omega
 refine ⟨fun k => ?_,fun k hk => ?_⟩
 . rw [Nat.add_comm,runN,if_neg c]
   dsimp only
   rw [hg]
   have : doR { v with used := v.used + 1 } x = (0,u) := hd
   rw [this,if_neg (by simp [ho])]
 . obtain rfl : k = 0 := by omega
   rw [runN,if_neg c]
theorem die_step {code : List Ins} {v : MS} {x : Ins} {f : Int} (h0 : 0 <= v.pc) (hx : code[v.pc.toNat]? = some x) (hf : f ≠ 0) (hd : (doR (z6c v) x).1 = f) : DieC code v 1 f := by
 have hl : v.pc.toNat < code.length := (List.getElem?_eq_some_iff.1 hx).1
 have hg : code.getD v.pc.toNat default = x := by simp [List.getD,hx]
 have c : ¬ (code.length : Int) <= v.pc := by omega
 refine ⟨fun k => ?_,fun k hk => ?_⟩
 . rw [Nat.add_comm,runN,if_neg c]
   dsimp only
   rw [hg]
   have hd : (doR { v with used := v.used + 1 } x).1 = f := hd
   rw [if_pos (by rw [hd]; exact .inl hf)]
   exact hd
 . obtain rfl : k = 0 := by omega
   rw [runN,if_neg c]
theorem yc2 {code : List Ins} {v u : MS} {x : Ins} (h0 : 0 <= v.pc) (hx : code[v.pc.toNat]? = some x) (ho : x.o = 10) (hd : doR (z6c v) x = (0,u)) : (∀ k,runN code (1 + k) v = (0,u)) /\ (runN code 0 v).1 = 17 := by
 have hl : v.pc.toNat < code.length := (List.getElem?_eq_some_iff.1 hx).1
 have hg : code.getD v.pc.toNat default = x := by simp [List.getD,hx]
 have c : ¬ (code.length : Int) <= v.pc := by omega
 refine ⟨fun k => ?_,?_⟩
 . rw [Nat.add_comm,runN,if_neg c]
   dsimp only
   rw [hg]
   have : doR { v with used := v.used + 1 } x = (0,u) := hd
   rw [this,if_pos (.inr ho)]
 . rw [runN,if_neg c]
structure AtM (v : MS) (p : Nat) (s : List Int) (c : List Int) : Prop where
 pc : v.pc = p
 r : v.raw.length = 16
 hi : v.hi = s.length
 s : v.raw.take s.length = s
 c : v.cells = c
theorem AtM.used {v : MS} {p : Nat} {s c : List Int} (h : AtM v p s c) : AtM (z6c v) p s c := ⟨h.pc,h.r,h.hi,h.s,h.c⟩
theorem AtM.le {v : MS} {p : Nat} {s c : List Int} (h : AtM v p s c) : s.length <= 16 := by
 have := congrArg List.length h.s
 rw [List.length_take,h.r] at this
 omega
theorem AtM.to {v : MS} {p q : Nat} {s c : List Int} (h : AtM v p s c) : AtM { v with pc := (q : Int) } q s c := ⟨rfl,h.r,h.hi,h.s,h.c⟩
theorem AtM.popV {v : MS} {p : Nat} {s c : List Int} {x : Int} (h : AtM v p (s ++ [x]) c) : popV v = x := by
 have h1 := h.s
 have h2 := h.hi
 rw [List.length_append] at h2
 have h3 : (v.hi - 1).toNat = s.length := by simp at h2; omega
 have h4 : v.raw[s.length]? = some x := by
   have := congrArg (fun l : List Int => l[s.length]?) h1
   simpa using this
 unfold Go.Proofs.YtjgefhgkinocmaaGreat.popV
 rw [h3]
 simp [List.getD,h4]
theorem AtM.popS {v : MS} {p : Nat} {s c : List Int} {x : Int} (h : AtM v p (s ++ [x]) c) : AtM (popS v) p s c := by
 have h1 := h.s
 have h2 := h.hi
 refine ⟨h.pc,h.r,?_,?_,h.c⟩
 . simp only [Go.Proofs.YtjgefhgkinocmaaGreat.popS,h2,List.length_append,List.length_singleton]; omega
 . have := congrArg (List.take s.length) h1
   rw [List.take_take,List.take_left,Nat.min_eq_left (by simp)] at this
   exact this
theorem AtM.push {v : MS} {p : Nat} {s c : List Int} (h : AtM v p s c) (x : Int) (hl : s.length < 16) : zsi v = 0 /\ AtM (ziq v x) p (s ++ [x]) c := by
 have h2 := h.hi
 have hr := h.r
 have hn : ¬ v.hi = 16 := by omega
 refine ⟨by simp [zsi,hn],?_⟩
 unfold ziq
 rw [if_neg hn]
 have h3 : v.hi.toNat = s.length := by omega
 refine ⟨h.pc,by simp [hr],by simp [h2],?_,h.c⟩
 simp only [List.length_append,List.length_singleton,h3]
 have h4 : s.length < v.raw.length := by omega
 refine List.ext_getElem? fun i => ?_
 have h5 := congrArg (fun l : List Int => l[i]?) h.s
 simp only [List.getElem?_take] at h5
 simp only [List.getElem?_take,List.getElem?_set,List.getElem?_append]
 by_cases c1 : i < s.length
 . rw [if_pos c1] at h5
   rw [if_pos (by omega),if_neg (by omega),if_pos c1]
   exact h5
 . by_cases c2 : i = s.length
   . subst c2
     simp [h4]
   . rw [if_neg (by omega),if_neg c1,List.getElem?_singleton,if_neg (by omega)]
section
variable {v : MS} {p : Nat} {s c : List Int} {x y i : Int}
theorem yde (h : AtM v p s c) {a n : Int} (ha : 1 <= a) (hb : a <= 1000) (hl : s.length < 16) : ∃ u,doR v ⟨1,a,0,n⟩ = (0,u) /\ AtM u (p + 1) (s ++ [n]) c := by
 have hr : zb7 ⟨1,a,0,n⟩ = true := by simp [zb7,zho,zdl,ha,hb]
 have h1 : AtM { v with pc := v.pc + 1 } (p + 1) s c := ⟨by rw [h.pc]; rfl,h.r,h.hi,h.s,h.c⟩
 obtain ⟨g1,g2⟩ := h1.push n hl
 refine ⟨_,?_,g2⟩
 simp only [doR,hr,Bool.true_eq_false,if_false,if_true,g1]
theorem yd0 (h : AtM v p s c) {a : Int} (ha : 0 <= a) (hb : a <= 65535) (hc : a < c.length) (hl : s.length < 16) : ∃ u,doR v ⟨2,a,0,0⟩ = (0,u) /\ AtM u (p + 1) (s ++ [c.getD a.toNat 0]) c := by
 obtain rfl := h.c
 have hr : zb7 ⟨2,a,0,0⟩ = true := by simp [zb7,zho,zdl,ha,hb]
 have h1 : AtM { v with pc := v.pc + 1 } (p + 1) s v.cells := ⟨by rw [h.pc]; rfl,h.r,h.hi,h.s,h.c⟩
 obtain ⟨g1,g2⟩ := h1.push (v.cells.getD a.toNat 0) hl
 refine ⟨_,?_,g2⟩
 have ht : zbz { v with pc := v.pc + 1 } a 1 = true := by unfold zbz; exact decide_eq_true (show a <= (v.cells.length : Int) - 1 by omega)
 simp [doR,hr,zkg,ht,g1]
theorem do_store (h : AtM v p (s ++ [x]) c) {a : Int} (ha : 0 <= a) (hb : a <= 65535) (hc : a < c.length) : ∃ u,doR v ⟨3,a,0,0⟩ = (0,u) /\ AtM u (p + 1) s (c.set a.toNat x) := by
 obtain rfl := h.c
 have hr : zb7 ⟨3,a,0,0⟩ = true := by simp [zb7,zho,zdl,ha,hb]
 have h1 : AtM { v with pc := v.pc + 1 } (p + 1) (s ++ [x]) v.cells := ⟨by rw [h.pc]; rfl,h.r,h.hi,h.s,h.c⟩
 have ht : zbz { v with pc := v.pc + 1 } a 1 = true := by unfold zbz; exact decide_eq_true (show a <= (v.cells.length : Int) - 1 by omega)
 have hh : ¬ v.hi < 1 := by have := h.hi; simp at this; omega
 have g := h1.popS
 have gv := h1.popV
 refine ⟨{ popS { v with pc := v.pc + 1 } with cells := v.cells.set a.toNat x },?_,⟨g.pc,g.r,g.hi,g.s,rfl⟩⟩
 simp [doR,hr,zkg,ht,hh,gv]
theorem do_jump (h : AtM v p s c) {a : Nat} (hb : a <= 65535) : ∃ u,doR v ⟨6,a,0,0⟩ = (0,u) /\ AtM u a s c := by
 have hr : zb7 ⟨6,a,0,0⟩ = true := by simp [zb7,zho,zdl]; omega
 refine ⟨{ v with pc := (a : Int) },?_,h.to⟩
 simp [doR,hr]
theorem do_zero (h : AtM v p (s ++ [x]) c) {a : Nat} (hb : a <= 65535) : ∃ u,doR v ⟨7,a,0,0⟩ = (0,u) /\ AtM u (if x = 0 then a else p + 1) s c := by
 have hr : zb7 ⟨7,a,0,0⟩ = true := by simp [zb7,zho,zdl]; omega
 have h1 : AtM { v with pc := v.pc + 1 } (p + 1) (s ++ [x]) c := ⟨by rw [h.pc]; rfl,h.r,h.hi,h.s,h.c⟩
 have hh : ¬ v.hi < 1 := by have := h.hi; simp at this; omega
 have g := h1.popS
 have gv := h1.popV
 by_cases q : x = 0
 . refine ⟨{ popS { v with pc := v.pc + 1 } with pc := (a : Int) },?_,by rw [if_pos q]; exact g.to⟩
   simp [doR,hr,hh,gv,q]
 . refine ⟨popS { v with pc := v.pc + 1 },?_,by rw [if_neg q]; exact g⟩
   simp [doR,hr,hh,gv,q]
theorem do_un (h : AtM v p (s ++ [x]) c) {op : Int} (ho : op = 1 \/ op = 2) : ∃ u,doR v ⟨4,op,0,0⟩ = (0,u) /\ AtM u (p + 1) (s ++ [(unF op x).1]) c := by
 have hr : zb7 ⟨4,op,0,0⟩ = true := by rcases ho with rfl | rfl <;> rfl
 have h1 : AtM { v with pc := v.pc + 1 } (p + 1) (s ++ [x]) c := ⟨by rw [h.pc]; rfl,h.r,h.hi,h.s,h.c⟩
 have hh : ¬ v.hi < 1 := by have := h.hi; simp at this; omega
 have g := h1.popS
 have gv := h1.popV
 have hle := h.le
 rw [List.length_append,List.length_singleton] at hle
 obtain ⟨g1,g2⟩ := g.push (unF op x).1 (by omega)
 have hu : (unF op x).2 = 0 := by rcases ho with rfl | rfl <;> rfl
 refine ⟨_,?_,g2⟩
 simp [doR,hr,hh,gv,zmy,zso,zs4,hu,g1]
theorem do_bin (h : AtM v p (s ++ [x] ++ [y]) c) {op : Int} (h3 : 3 <= op) (h16 : op <= 16) : (∀ f,(binF op x y).2 = f -> f ≠ 0 -> (doR v ⟨5,op,0,0⟩).1 = f) /\ ((binF op x y).2 = 0 -> ∃ u,doR v ⟨5,op,0,0⟩ = (0,u) /\ AtM u (p + 1) (s ++ [(binF op x y).1]) c) := by
 have hr : zb7 ⟨5,op,0,0⟩ = true := by simp [zb7,zho,zdl,h3,h16]
 have h1 : AtM { v with pc := v.pc + 1 } (p + 1) (s ++ [x] ++ [y]) c := ⟨by rw [h.pc]; rfl,h.r,h.hi,h.s,h.c⟩
 have hh : ¬ v.hi < 2 := by have := h.hi; simp at this; omega
 have g := h1.popS
 have gv := h1.popV
 have g' := g.popS
 have gv' := g.popV
 have hle := h.le
 rw [List.length_append,List.length_append,List.length_singleton,List.length_singleton] at hle
 refine ⟨fun f hf h0 => ?_,fun h0 => ?_⟩
 . subst hf
   simp [doR,hr,hh,gv,gv',zmy,zso,zs4,h0]
 . obtain ⟨g1,g2⟩ := g'.push (binF op x y).1 (by omega)
   refine ⟨_,?_,g2⟩
   simp [doR,hr,hh,gv,gv',zmy,zso,zs4,h0,g1]
theorem do_get (h : AtM v p (s ++ [i]) c) {a b : Int} (ha : 0 <= a) (ha2 : a <= 65535) (hb : 1 <= b) (hb2 : b <= 8) (hc : a + b <= c.length) : ((i < 0 \/ b <= i) -> (doR v ⟨8,a,b,0⟩).1 = 16) /\ (¬ (i < 0 \/ b <= i) -> ∃ u,doR v ⟨8,a,b,0⟩ = (0,u) /\ AtM u (p + 1) (s ++ [c.getD (a.toNat + i.toNat) 0]) c) := by
 obtain rfl := h.c
 have hr : zb7 ⟨8,a,b,0⟩ = true := by simp [zb7,zho,zdl,ha,ha2,hb,hb2]
 have h1 : AtM { v with pc := v.pc + 1 } (p + 1) (s ++ [i]) v.cells := ⟨by rw [h.pc]; rfl,h.r,h.hi,h.s,h.c⟩
 have hh : ¬ v.hi < 1 := by have := h.hi; simp at this; omega
 have ht : zbz { v with pc := v.pc + 1 } a b = true := by unfold zbz; exact decide_eq_true (show a <= (v.cells.length : Int) - b by omega)
 have g := h1.popS
 have gv := h1.popV
 have hle := h.le
 rw [List.length_append,List.length_singleton] at hle
 refine ⟨fun q => ?_,fun q => ?_⟩
 . simp [doR,hr,hh,gv,getR,ht,q]
 . obtain ⟨g1,g2⟩ := g.push (v.cells.getD (a.toNat + i.toNat) 0) (by omega)
   refine ⟨_,?_,g2⟩
   simp [doR,hr,hh,gv,getR,ht,q,g1]
theorem do_halt (h : AtM v p s c) : ∃ u,doR v ⟨10,0,0,0⟩ = (0,u) /\ u.cells = c := by
 refine ⟨{ v with pc := v.pc + 1 },?_,h.c⟩
 have hr : zb7 ⟨10,0,0,0⟩ = true := rfl
 simp [doR,hr]
end
set_option linter.all false
set_option maxRecDepth 20000
open Go.Nk
def zg0 (code : List Ins) (p : Nat) (l : List In4) : Prop := ∀ i x,l[i]? = some x -> code[p + i]? = some (zgv x)
theorem zg0.left {code : List Ins} {p : Nat} {a b : List In4} (h : zg0 code p (a ++ b)) : zg0 code p a := fun i x hx => h i x (by rw [List.getElem?_append_left (List.getElem?_eq_some_iff.1 hx).1]; exact hx)
theorem zg0.right {code : List Ins} {p : Nat} {a b : List In4} (h : zg0 code p (a ++ b)) : zg0 code (p + a.length) b := fun i x hx => by
 rw [Nat.add_assoc]
 exact h (a.length + i) x (by rw [List.getElem?_append_right (by omega)]; simpa using hx)
theorem zg0.head {code : List Ins} {p : Nat} {x : In4} {b : List In4} (h : zg0 code p (x :: b)) : code[p]? = some (zgv x) := h 0 x rfl
theorem zg0.len {code : List Ins} {p : Nat} {x : In4} {b : List In4} (h : zg0 code p (x :: b)) : p + (x :: b).length <= code.length := by
 have hx : (x :: b)[b.length]? = some ((x :: b)[b.length]'(by simp)) := List.getElem?_eq_getElem _
 have := (List.getElem?_eq_some_iff.1 (h _ _ hx)).1
 simp only [List.length_cons]
 omega
def zi9 (code : List Ins) (v : MS) (p : Nat) (s c : List Int) (r : Int × Int) : Prop := (r.2 = 0 -> ∃ n u,GoC code v n u /\ AtM u p (s ++ [r.1]) c) /\ (r.2 ≠ 0 -> ∃ n,DieC code v n r.2)
theorem zi9.bind {code : List Ins} {v : MS} {p q : Nat} {s s' c : List Int} {r r' : Int × Int} (h : zi9 code v p s c r) (h2 : r.2 = 0 -> ∀ u,AtM u p (s ++ [r.1]) c -> zi9 code u q s' c r') (h3 : r.2 ≠ 0 -> r'.2 = r.2) : zi9 code v q s' c r' := by
 by_cases z : r.2 = 0
 . obtain ⟨n,u,g1,g2⟩ := h.1 z
   obtain ⟨k1,k2⟩ := h2 z u g2
   refine ⟨fun e => ?_,fun e => ?_⟩
   . obtain ⟨m,u',g3,g4⟩ := k1 e
     exact ⟨n + m,u',g1.trans g3,g4⟩
   . obtain ⟨m,g3⟩ := k2 e
     exact ⟨n + m,g1.die g3⟩
 . have e := h3 z
   obtain ⟨n,g⟩ := h.2 z
   exact ⟨fun e2 => absurd (e ▸ e2) z,fun _ => ⟨n,by rw [e]; exact g⟩⟩
theorem AtM.at {v : MS} {p : Nat} {s c : List Int} (h : AtM v p s c) : 0 <= v.pc /\ v.pc.toNat = p := by rw [h.pc]; omega
theorem zd6 {code : List Ins} {v : MS} {p q : Nat} {s s' c c' : List Int} {x : In4} {n : Int} (h : AtM v p s c) (hx : code[p]? = some (zgv x)) (ho : x.op ≠ 10) (hd : ∃ u,doR (z6c v) (zgv x) = (0,u) /\ AtM u q (s' ++ [n]) c') : zi9 code v q s' c' (n,0) := by
 obtain ⟨u,h1,h2⟩ := hd
 exact ⟨fun _ => ⟨1,u,z67 h.at.1 (by rw [h.at.2]; exact hx) ho h1,h2⟩,fun e => absurd rfl e⟩
theorem ycf {code : List Ins} {v : MS} {p q q' : Nat} {s s' s'' c : List Int} {x : In4} {r : Int × Int} (h : AtM v p s c) (hx : code[p]? = some (zgv x)) (ho : x.op ≠ 10) (hd : ∃ u,doR (z6c v) (zgv x) = (0,u) /\ AtM u q s'' c) (k : ∀ u,AtM u q s'' c -> zi9 code u q' s' c r) : zi9 code v q' s' c r := by
 obtain ⟨u,h1,h2⟩ := hd
 have g := z67 h.at.1 (by rw [h.at.2]; exact hx) ho h1
 obtain ⟨k1,k2⟩ := k u h2
 refine ⟨fun e => ?_,fun e => ?_⟩
 . obtain ⟨m,u',g3,g4⟩ := k1 e
   exact ⟨1 + m,u',g.trans g3,g4⟩
 . obtain ⟨m,g3⟩ := k2 e
   exact ⟨1 + m,g.die g3⟩
theorem z2i {code : List Ins} {v : MS} {p q : Nat} {s s' c c' : List Int} {x : In4} {r : Int × Int} (h : AtM v p s c) (hx : code[p]? = some (zgv x)) (hf : r.2 ≠ 0) (hd : (doR (z6c v) (zgv x)).1 = r.2) : zi9 code v q s' c' r :=
 ⟨fun e => absurd e hf,fun _ => ⟨1,die_step h.at.1 (by rw [h.at.2]; exact hx) hf hd⟩⟩
theorem zwn {a : Img} {st zs : List Int} (h : inSt a st) {p : List UInt8} (hf : 0 <= fndI a.slots p) :
   0 <= (za5 a p).1.at_ /\ (za5 a p).1.at_ + zt (za5 a p).1.ty <= st.length /\ ((zap a st p).length : Int) = zt (za5 a p).1.ty /\
   ∀ k : Nat,(k : Int) < zt (za5 a p).1.ty -> (st ++ zs).getD ((za5 a p).1.at_.toNat + k) 0 = (zap a st p).getD k 0 := by
 have hcl := zkw h hf
 obtain ⟨j,hj,hl⟩ := zca (m := a.slots) (p := p) (by omega)
 obtain ⟨h1,h2,h3⟩ := h
 have hm := h3 _ (List.mem_of_getElem? (z4 default hl))
 have hs : (za5 a p).1 = a.slots.getD j default := by unfold za5; rw [hj,if_neg (by omega),Int.toNat_natCast]
 have hc : zap a st p = zkq st (a.slots.getD j default) := by simp [zap,hj]
 rw [hs]
 rw [hj,Int.toNat_natCast] at hcl
 rw [hc] at hcl |-
 generalize a.slots.getD j default = s at *
 have hb := zad s.ty
 refine ⟨hm.1,hm.2,hcl,fun k hk => ?_⟩
 simp only [zkq,List.getD_eq_getElem?_getD]
 rw [List.getElem?_append_left (by omega),List.getElem?_drop,List.getElem?_take,if_pos (by omega)]
structure runFit (w : Img × Img) (st : List Int) : Prop where
 st : st.length <= 60000
 k : ∀ s,(armT w.2.en s).2.2 = true -> 1 <= zb5 (armT w.2.en s).1 /\ zb5 (armT w.2.en s).1 <= 1000
theorem ty_arm {w : Img × Img} {e : Ex} (h : (tyE w e).2 = true) (k : e.kind = 4) : (armT w.2.en e.name).2.2 = true := by
 rw [zif,if_neg (by omega),if_neg (by omega),if_pos k] at h
 exact h
theorem ty_old {w : Img × Img} {e : Ex} (h : (tyE w e).2 = true) (k : e.kind = 17) : (zc1 w e.name).2 = true := by
 rw [zif,if_neg (by omega),if_neg (by omega),if_neg (by omega),if_pos k] at h
 simp only [Bool.and_eq_true] at h
 exact h.1
theorem ty_op {w : Img × Img} {e : Ex} (h : (tyE w e).2 = true) (k : e.kind = 5 \/ e.kind = 6 \/ e.kind = 7) : (allT (e.subs.map (tyE w))).2 = true /\ (opT e.kind e.op (allT (e.subs.map (tyE w)))).2 = true := by
 rw [zif,if_neg (by omega),if_neg (by omega),if_neg (by omega),if_neg (by omega),if_pos k] at h
 refine ⟨?_,h⟩
 unfold opT at h
 split at h
 . assumption
 . cases h
theorem un_op {o : Int} {t : Ty} (h : (zpq o t).2 = true) : o = 1 \/ o = 2 := by
 unfold zpq at h
 split at h
 . exact .inl (by rename_i c; exact c.1)
 split at h
 . exact .inr (by rename_i c; exact c.1)
 . cases h
theorem bin_op {o : Int} {t u : Ty} (h : (zes o t u).2 = true) : 3 <= o /\ o <= 16 := by
 have hg : grpF o ≠ 0 := by
   intro e
   simp [zes,e] at h
 unfold grpF at hg
 grind
theorem zfq {e x : Ex} (h : x ∈ e.subs) : zc0 x + 1 <= zc0 e := by
 rw [zuq e]
 generalize e.subs = l at *
 induction l with
 | nil => simp at h
 | cons y l ih =>
   rw [zfz]
   rcases List.mem_cons.1 h with rfl | h
   . omega
   . have := ih h; omega
set_option linter.all false
set_option maxRecDepth 20000
open Go.Nk
theorem z8o {w : Img × Img} {st zs : List Int} (hr : runFit w st) {code : List Ins} (hcl : code.length <= 65535) (e : Ex) :
   ∀ (p : Nat) (v : MS) (s : List Int),valFit w st e -> zg0 code p (zao w e p) -> (s.length : Int) + zc0 e <= 16 -> AtM v p s (st ++ zs) ->
   zi9 code v (p + (zao w e p).length) s (st ++ zs) (valE w st e) := by
 induction e using Ex.ind with
 | h e ih =>
   intro p v s hf hL hd hA
   have hdp := z8u e
   have hln := hf.pl.len
   have hcE := znk w e p
   have hvE := z1n w st e
   have hl16 : s.length < 16 := by omega
   have hU := hA.used
   by_cases k12 : e.kind = 1 \/ e.kind = 2
   . have hc : zao w e p = [⟨1,e.kind,0,e.n⟩] := by
       rw [hcE]; rcases k12 with k | k <;> simp [k]
     rw [hvE,if_pos k12]
     rw [hc] at hL |-
     exact zd6 hA hL.head (by simp) (yde (a := e.kind) (n := e.n) hU (by omega) (by omega) hl16)
   rw [if_neg k12] at hvE
   rw [if_neg (by omega),if_neg (by omega)] at hcE
   by_cases k4 : e.kind = 4
   . rw [if_pos k4] at hcE hvE
     have hk := hr.k _ (ty_arm hf.ty k4)
     rw [hvE]
     rw [hcE] at hL |-
     exact zd6 hA hL.head (by simp) (yde hU hk.1 hk.2 hl16)
   rw [if_neg k4] at hcE hvE
   by_cases k17 : e.kind = 17
   . rw [if_pos k17] at hcE hvE
     obtain ⟨a1,a2,a3,a4⟩ := zwn (zs := zs) hf.s (zci (ty_old hf.ty k17))
     have hb := zad (za5 w.1 e.name).1.ty
     have hst := hr.st
     have a5 := a4 0 (by omega)
     rw [Nat.add_zero] at a5
     rw [hvE,<- a5]
     rw [hcE] at hL |-
     have e0 : znm w e.name 0 = ⟨2,(za5 w.1 e.name).1.at_,0,0⟩ := by simp [znm]
     rw [e0] at hL
     exact zd6 hA hL.head (by simp) (yd0 (a := (za5 w.1 e.name).1.at_) hU a1 (by omega) (by simp; omega) hl16)
   rw [if_neg k17] at hcE hvE
   by_cases k7 : e.kind = 7
   . rw [if_pos k7] at hcE
     rw [if_neg (by omega)] at hvE
     have hsb : za8 e = (3,3) := by simp [za8,k7]
     rw [hsb] at hln
     dsimp only at hln
     have ts := zrl hf.ty (by omega)
     rw [zg1 (by omega),zg1 (by omega),zg1 (by omega)] at hcE
     have m0 : e.subs.getD 0 default ∈ e.subs := List.mem_of_getElem? (z4 default (by omega))
     have m1 : e.subs.getD 1 default ∈ e.subs := List.mem_of_getElem? (z4 default (by omega))
     have m2 : e.subs.getD 2 default ∈ e.subs := List.mem_of_getElem? (z4 default (by omega))
     have d0 := zfq m0
     have d1 := zfq m1
     have d2 := zfq m2
     have f0 := hf.sub m0 (ts _ m0)
     have f1 := hf.sub m1 (ts _ m1)
     have f2 := hf.sub m2 (ts _ m2)
     have i0 := ih _ m0 p v s f0
     have i1 := fun p v => ih _ m1 p v s f1
     have i2 := fun p v => ih _ m2 p v s f2
     have v0 := zft (w := w) (st := st) (l := e.subs) (i := 0) (by omega)
     have v1 := zft (w := w) (st := st) (l := e.subs) (i := 1) (by omega)
     have v2 := zft (w := w) (st := st) (l := e.subs) (i := 2) (by omega)
     have hv : valE w st e = if (valE w st (e.subs.getD 0 default)).2 ≠ 0 then (0,(valE w st (e.subs.getD 0 default)).2) else if (valE w st (e.subs.getD 0 default)).1 ≠ 0 then valE w st (e.subs.getD 1 default) else valE w st (e.subs.getD 2 default) := by
       rw [hvE]; unfold opV; rw [v0,v1,v2,if_neg (show ¬ e.kind = 5 by omega),if_pos k7]
     rw [hv]
     generalize e.subs.getD 0 default = x0 at *
     generalize e.subs.getD 1 default = x1 at *
     generalize e.subs.getD 2 default = x2 at *
     simp only [zj6] at hcE
     rw [hcE] at hL |-
     have L0 := hL.left
     have R0 := hL.right
     generalize hA0 : zao w x0 p = A at *
     have L1 := R0.left
     have R1 := R0.right
     simp only [List.length_singleton] at R1
     generalize hB0 : zao w x1 (p + A.length + 1) = B at *
     have L2 := R1.left
     have R2 := R1.right
     have L3 := R2.left
     have R3 := R2.right
     simp only [List.length_singleton] at R3
     have hr3 := L3.len
     simp only [List.length_singleton] at hr3
     have hrl : p + A.length + 1 + B.length + 1 + (zao w x2 (p + A.length + 1 + B.length + 1)).length <= code.length := by
       cases hC : zao w x2 (p + A.length + 1 + B.length + 1) with
       | nil => simpa using hr3
       | cons y l => rw [hC] at R3; exact R3.len
     have hend : p + (A ++ ([(⟨7,((p + A.length + 1 + B.length + 1 : Nat) : Int),0,0⟩ : In4)] ++ (B ++ ([(⟨6,((p + A.length + 1 + B.length + 1 + (zao w x2 (p + A.length + 1 + B.length + 1)).length : Nat) : Int),0,0⟩ : In4)] ++ zao w x2 (p + A.length + 1 + B.length + 1))))).length = p + A.length + 1 + B.length + 1 + (zao w x2 (p + A.length + 1 + B.length + 1)).length := by
       simp; omega
     have goal : zi9 code v (p + A.length + 1 + B.length + 1 + (zao w x2 (p + A.length + 1 + B.length + 1)).length) s (st ++ zs) (if (valE w st x0).2 ≠ 0 then (0,(valE w st x0).2) else if (valE w st x0).1 ≠ 0 then valE w st x1 else valE w st x2) := by
       refine (i0 L0 (by omega) hA).bind (fun z u hu => ?_) (fun z => by rw [if_pos z])
       rw [if_neg (by simp [z])]
       refine ycf hu (x := ⟨7,((p + A.length + 1 + B.length + 1 : Nat) : Int),0,0⟩) L1.head (by simp) (do_zero hu.used (by omega)) fun u1 hu1 => ?_
       by_cases q : (valE w st x0).1 = 0
       . rw [if_pos q] at hu1
         rw [if_neg (by simp [q])]
         exact i2 _ u1 R3 (by omega) hu1
       . rw [if_neg q] at hu1
         rw [if_pos q]
         have hb := i1 _ u1 (by rw [hB0]; exact L2) (by omega) hu1
         rw [hB0] at hb
         refine hb.bind (fun z2 u2 hu2 => ?_) (fun z2 => rfl)
         have : valE w st x1 = ((valE w st x1).1,0) := Prod.ext rfl z2
         rw [this]
         exact zd6 hu2 (x := ⟨6,((p + A.length + 1 + B.length + 1 + (zao w x2 (p + A.length + 1 + B.length + 1)).length : Nat) : Int),0,0⟩) L3.head (by simp) (do_jump hu2.used (by omega))
     exact Eq.mpr (congrArg (fun q => zi9 code v q s (st ++ zs) _) hend) goal
   rw [if_neg k7] at hcE
   by_cases k15 : e.kind = 15
   . rw [if_pos k15] at hcE hvE
     have hsb : za8 e = (2,2) := by simp [za8,k15]
     rw [hsb] at hln
     dsimp only at hln
     obtain ⟨t0,t1⟩ := zz6 hf.ty k15 (by omega)
     have m1 : e.subs.getD 1 default ∈ e.subs := List.mem_of_getElem? (z4 default (by omega))
     have d1 := zfq m1
     have i1 := ih _ m1 p v s (hf.sub m1 t1)
     rw [zg1 (by omega)] at hcE
     rw [zft (by omega)] at hvE
     generalize e.subs.getD 0 default = x0 at *
     generalize e.subs.getD 1 default = x1 at *
     obtain ⟨a1,a2,a3,a4⟩ := zwn (zs := zs) hf.s (zci t0)
     have hb := zad (za5 w.1 x0.name).1.ty
     have hst := hr.st
     rw [hvE]
     rw [hcE] at hL |-
     have L0 := hL.left
     have R0 := hL.right
     have hend : p + (zao w x1 p ++ [getC w x0.name]).length = p + (zao w x1 p).length + 1 := by simp; omega
     rw [hend]
     refine (i1 L0 (by omega) hA).bind (fun z u hu => ?_) (fun z => by simp [getV,z])
     obtain ⟨g1,g2⟩ := do_get hu.used (a := (za5 w.1 x0.name).1.at_) (b := zt (za5 w.1 x0.name).1.ty) a1 (by omega) (by omega) (by omega) (by simp; omega)
     by_cases q : (valE w st x1).1 < 0 \/ zt (za5 w.1 x0.name).1.ty <= (valE w st x1).1
     . have hg : getV (zap w.1 st x0.name) (valE w st x1) = (0,16) := by
         unfold getV; rw [if_neg (by simp [z]),a3,if_pos q]
       rw [hg]
       exact z2i hu R0.head (by simp) (g1 q)
     . have hg : getV (zap w.1 st x0.name) (valE w st x1) = ((zap w.1 st x0.name).getD (valE w st x1).1.toNat 0,0) := by
         unfold getV; rw [if_neg (by simp [z]),a3,if_neg q]
       rw [hg,<- a4 _ (by omega)]
       exact zd6 hu R0.head (by simp [getC]) (g2 q)
   rw [if_neg k15] at hcE hvE
   have hk := znc hf.ty
   have k56 : e.kind = 5 \/ e.kind = 6 := by omega
   have ts := zrl hf.ty (by omega)
   obtain ⟨to1,to2⟩ := ty_op hf.ty (by omega)
   unfold opT at to2
   rw [if_pos to1] at to2
   rcases k56 with k5 | k6
   . rw [if_pos k5] at to2
     have ho := un_op to2
     have hsb : za8 e = (1,1) := by simp [za8,k5]
     rw [hsb] at hln
     dsimp only at hln
     obtain ⟨x0,hx0⟩ : ∃ x0,e.subs = [x0] := by
       match hq : e.subs,hln with
       | [],h => simp at h
       | [x],_ => exact ⟨x,rfl⟩
       | _ :: _ :: _,h => simp at h; omega
     have m0 : x0 ∈ e.subs := by rw [hx0]; simp
     have d0 := zfq m0
     have i0 := ih _ m0 p v s (hf.sub m0 (ts _ m0))
     rw [if_pos k5,hx0] at hcE
     simp only [List.map_cons,List.map_nil,seqC,List.append_nil] at hcE
     rw [hx0] at hvE
     have hv : valE w st e = if (valE w st x0).2 ≠ 0 then (0,(valE w st x0).2) else unF e.op (valE w st x0).1 := by
       rw [hvE]; simp [opV,k5]
     rw [hv]
     rw [hcE] at hL |-
     have L0 := hL.left
     have R0 := hL.right
     have hend : p + (zao w x0 p ++ [(⟨4,e.op,0,0⟩ : In4)]).length = p + (zao w x0 p).length + 1 := by simp; omega
     rw [hend]
     refine (i0 L0 (by omega) hA).bind (fun z u hu => ?_) (fun z => by rw [if_pos z])
     rw [if_neg (by simp [z])]
     have hu2 : (unF e.op (valE w st x0).1).2 = 0 := by rcases ho with h | h <;> rw [h] <;> rfl
     have : unF e.op (valE w st x0).1 = ((unF e.op (valE w st x0).1).1,0) := Prod.ext rfl hu2
     rw [this]
     exact zd6 hu R0.head (by simp) (do_un hu.used ho)
   . rw [if_neg (by omega),if_pos k6] at to2
     have ho := bin_op to2
     have hsb : za8 e = (2,2) := by simp [za8,k6]
     rw [hsb] at hln
     dsimp only at hln
     obtain ⟨x0,x1,hx0⟩ : ∃ x0 x1,e.subs = [x0,x1] := by
       match hq : e.subs,hln with
       | [],h => simp at h
       | [x],h => simp at h
       | [x,y],_ => exact ⟨x,y,rfl⟩
       | _ :: _ :: _ :: _,h => simp at h; omega
     have m0 : x0 ∈ e.subs := by rw [hx0]; simp
     have m1 : x1 ∈ e.subs := by rw [hx0]; simp
     have d0 := zfq m0
     have d1 := zfq m1
     have i0 := ih _ m0 p v s (hf.sub m0 (ts _ m0))
     have i1 := fun p v s => ih _ m1 p v s (hf.sub m1 (ts _ m1))
     rw [if_neg (by omega),hx0] at hcE
     simp only [List.map_cons,List.map_nil,seqC,List.append_nil,List.append_assoc] at hcE
     rw [hx0] at hvE
     have hv : valE w st e = if (valE w st x0).2 ≠ 0 then (0,(valE w st x0).2) else if (valE w st x1).2 ≠ 0 then (0,(valE w st x1).2) else binF e.op (valE w st x0).1 (valE w st x1).1 := by
       rw [hvE]; simp [opV,k6]
     rw [hv]
     rw [hcE] at hL |-
     have L0 := hL.left
     have R0 := hL.right
     have L1 := R0.left
     have R1 := R0.right
     have hend : p + (zao w x0 p ++ (zao w x1 (p + (zao w x0 p).length) ++ [(⟨5,e.op,0,0⟩ : In4)])).length = p + (zao w x0 p).length + (zao w x1 (p + (zao w x0 p).length)).length + 1 := by simp; omega
     rw [hend]
     refine (i0 L0 (by omega) hA).bind (fun z u hu => ?_) (fun z => by rw [if_pos z])
     rw [if_neg (by simp [z])]
     refine (i1 _ u _ L1 (by simp; omega) hu).bind (fun z2 u2 hu2 => ?_) (fun z2 => by rw [if_pos z2])
     rw [if_neg (by simp [z2])]
     obtain ⟨b1,b2⟩ := do_bin hu2.used ho.1 ho.2
     by_cases q : (binF e.op (valE w st x0).1 (valE w st x1).1).2 = 0
     . have : binF e.op (valE w st x0).1 (valE w st x1).1 = ((binF e.op (valE w st x0).1 (valE w st x1).1).1,0) := Prod.ext rfl q
       rw [this]
       exact zd6 hu2 R1.head (by simp) (b2 q)
     . exact z2i hu2 R1.head q (b1 _ rfl q)
set_option linter.all false
set_option maxRecDepth 20000
open Go.Nk
theorem arm_n (l : List En) (s : List UInt8) : (armT l s).1.n = 0 := by
 unfold armT
 repeat' split
 all_goals rfl
theorem unTy_n (o : Int) (t : Ty) : (zpq o t).1.n = 0 := by
 unfold zpq
 repeat' split
 all_goals rfl
theorem binTy_n (o : Int) (t u : Ty) : (zes o t u).1.n = 0 := by
 unfold zes
 repeat' split
 all_goals rfl
theorem tyE_n {w : Img × Img} (e : Ex) (h : (tyE w e).2 = true) (hp : okPl e) : (tyE w e).1.n = 0 := by
 induction e using Ex.ind with
 | h e ih =>
   have hk := znc h
   have hln := hp.len
   by_cases k : e.kind = 5 \/ e.kind = 6 \/ e.kind = 7
   . have ts := zrl h k
     obtain ⟨to1,to2⟩ := ty_op h k
     have he : tyE w e = opT e.kind e.op (allT (e.subs.map (tyE w))) := by rw [zif,if_neg (by omega),if_neg (by omega),if_neg (by omega),if_neg (by omega),if_pos k]
     rw [he]
     unfold opT
     rw [if_pos to1]
     split
     . exact unTy_n _ _
     split
     . exact binTy_n _ _ _
     . have k7 : e.kind = 7 := by omega
       have hsb : za8 e = (3,3) := by simp [za8,k7]
       rw [hsb] at hln
       dsimp only at hln
       rw [(ziz to1).1]
       have m1 : e.subs.getD 1 default ∈ e.subs := List.mem_of_getElem? (z4 default (by omega))
       have : ((e.subs.map (tyE w)).map (·.1)).getD 1 tyZ = (tyE w (e.subs.getD 1 default)).1 := by
         have h1 : 1 < e.subs.length := by omega
         simp [List.getD,h1]
       rw [this]
       exact ih _ m1 (ts _ m1) (hp.sub m1)
   . have he := zif w e
     rw [he] at h |-
     split
     . rfl
     split
     . rfl
     split
     . exact arm_n _ _
     split
     . rename_i h1 h2 h3 h4
       rw [if_neg h1,if_neg h2,if_neg h3,if_pos h4] at h
       simp only [Bool.and_eq_true,beq_iff_eq] at h
       exact h.2
     split
     . rfl
     . rfl
def zbb (w : Img × Img) (st : List Int) (e : Ex) (k : Nat) : Int × Int := if e.kind = 14 then valE w st (e.subs.getD k default) else if e.kind = 17 then ((zap w.1 st e.name).getD k 0,0) else valE w st e
theorem zvo (v : Int × Int) : ∀ (vs : List (Int × Int)) (o : List Int),zam (vs ++ [v]) o = if (zam vs o).2 = 0 then (if v.2 = 0 then ((zam vs o).1 ++ [v.1],0) else ([],v.2)) else zam vs o
 | [],o => by simp [zam]
 | x :: vs,o => by
   by_cases q : x.2 = 0
   . have e1 : zam (x :: vs) o = zam vs (o ++ [x.1]) := by simp [zam,q]
     have e2 : zam (x :: vs ++ [v]) o = zam (vs ++ [v]) (o ++ [x.1]) := by simp [zam,q]
     rw [e1,e2,zvo v vs]
   . have e1 : zam (x :: vs) o = ([],x.2) := by simp [zam,q]
     have e2 : zam (x :: vs ++ [v]) o = ([],x.2) := by simp [zam,q]
     rw [e1,e2]
     simp [q]
theorem zmp : ∀ (c o : List Int),zam (c.map fun x => (x,0)) o = (o ++ c,0)
 | [],o => by simp [zam]
 | x :: c,o => by simp [zam,zmp c]
theorem zye {α : Type} (d : α) (l : List α) : (List.range l.length).map (fun k => l.getD k d) = l := by
 refine List.ext_getElem? fun i => ?_
 by_cases h : i < l.length
 . simp [h]
 . simp [h]
theorem zio {w : Img × Img} {st : List Int} {e : Ex} {t : Ty} (h : whFit w st e) (ht : ofT w e = (t,true)) : zav w st e = zam ((List.range (zt t).toNat).map (zbb w st e)) [] := by
 by_cases k17 : e.kind = 17
 . have ht' := ht
   unfold ofT at ht'
   rw [if_pos k17] at ht'
   have hf : (zc1 w e.name).2 = true := by rw [ht']
   have hl := zkw h.s (zci hf)
   have hty : zt (w.1.slots.getD (fndI w.1.slots e.name).toNat default).ty = zt t := by
     have hp := zci hf
     have hs : (za5 w.1 e.name) = (w.1.slots.getD (fndI w.1.slots e.name).toNat default,true) := by unfold za5; rw [if_neg (by omega)]
     have hh : zcc w.1.en w.2.en (za5 w.1 e.name).1.ty = (t,true) := by
       have := ht'
       unfold zc1 at this
       rw [hs] at this |-
       simpa using this
     rw [hs] at hh
     dsimp only at hh
     generalize (w.1.slots.getD (fndI w.1.slots e.name).toNat default).ty = u at *
     have key : ∀ (l : List En) (i : Int),(zgb w.1.en w.2.en u l i).2 = true -> (zgb w.1.en w.2.en u l i).1.n = u.n := by
       intro l
       induction l with
       | nil => intro i h; cases h
       | cons x l ih =>
         intro i h
         simp only [zgb] at h |-
         split
         . rfl
         . rename_i c
           rw [if_neg c] at h
           exact ih _ h
     have hn : t.n = u.n := by
       unfold zcc at hh
       split at hh
       . split at hh
         . have := key w.2.en 0 (by rw [hh])
           rw [hh] at this
           exact this
         . injection hh with h1 _; rw [h1]
       . injection hh with _ h2; cases h2
     simp only [zt,hn]
   rw [hty] at hl
   have hc : (zt t).toNat = (zap w.1 st e.name).length := by omega
   have e1 : zav w st e = (zap w.1 st e.name,0) := by simp [zav,k17]
   rw [e1,hc]
   have e2 : (List.range (zap w.1 st e.name).length).map (zbb w st e) = (zap w.1 st e.name).map fun x => (x,0) := by
     have : zbb w st e = fun k => ((zap w.1 st e.name).getD k 0,(0 : Int)) := by funext k; simp [zbb,k17]
     rw [this]
     have h3 := zye 0 (zap w.1 st e.name)
     generalize zap w.1 st e.name = c at *
     have h4 := congrArg (List.map fun x : Int => (x,(0 : Int))) h3
     rw [List.map_map] at h4
     exact h4
   rw [e2,zmp,List.nil_append]
 by_cases k14 : e.kind = 14
 . have e1 : zav w st e = zam (e.subs.map (valE w st)) [] := by simp [zav,k14]
   rw [e1,zjv ht h.pl k14]
   have : zbb w st e = fun k => valE w st (e.subs.getD k default) := by funext k; simp [zbb,k14]
   rw [this]
   have h4 := congrArg (List.map (valE w st)) (zye default e.subs)
   rw [List.map_map] at h4
   exact congrArg (fun l => zam l []) h4.symm
 . have e1 : zav w st e = zam ([e].map (valE w st)) [] := by simp [zav,k14,k17]
   have e2 : ofT w e = tyE w e := by unfold ofT; rw [if_neg k17,if_neg k14]
   have hn := tyE_n e (by rw [<- e2,ht]) h.pl
   rw [<- e2,ht] at hn
   have hc : (zt t).toNat = 1 := by
     dsimp only at hn
     simp [zt,hn]
   rw [e1,hc]
   have : zbb w st e = fun _ => valE w st e := by funext k; simp [zbb,k14,k17]
   rw [this]
   rfl
def zfm (w : Img × Img) (e : Ex) (hi : Nat) (j : Nat) : List In4 := (List.range j).foldl (z7n w e hi) []
theorem zqp (w : Img × Img) (e : Ex) (hi j : Nat) : zfm w e hi (j + 1) = zfm w e hi j ++ (zea w e j (zfm w e hi j).length ++ [⟨3,hi + j,0,0⟩]) := by
 unfold zfm
 rw [List.range_succ,List.foldl_append]
 simp [z7n]
theorem cell_run {w : Img × Img} {st zs : List Int} (hr : runFit w st) {code : List Ins} (hcl : code.length <= 65535) {e : Ex} {t : Ty} (h : whFit w st e) (ht : ofT w e = (t,true)) (hd : zc0 e <= 16) {k p : Nat} (hk : k < (zt t).toNat) {v : MS}
   (hL : zg0 code p (zea w e k p)) (hA : AtM v p [] (st ++ zs)) : zi9 code v (p + (zea w e k p).length) [] (st ++ zs) (zbb w st e k) := by
 by_cases k14 : e.kind = 14
 . have hc : zea w e k p = zao w (e.subs.getD k default) p := by simp [zea,k14]
   have hv : zbb w st e k = valE w st (e.subs.getD k default) := by simp [zbb,k14]
   rw [zjv ht h.pl k14] at hk
   have m0 : e.subs.getD k default ∈ e.subs := List.mem_of_getElem? (z4 default hk)
   have d0 := zfq m0
   rw [hc] at hL |-
   rw [hv]
   exact z8o hr hcl _ p v [] (h.subs k14 _ m0) hL (by rw [List.length_nil]; omega) hA
 by_cases k17 : e.kind = 17
 . have hc : zea w e k p = [znm w e.name k] := by simp [zea,k17]
   have hv : zbb w st e k = ((zap w.1 st e.name).getD k 0,0) := by simp [zbb,k17]
   have ht' := ht
   unfold ofT at ht'
   rw [if_pos k17] at ht'
   obtain ⟨a1,a2,a3,a4⟩ := zwn (zs := zs) h.s (zci (by rw [ht']))
   have hwc := zio h ht
   have e1 : zav w st e = (zap w.1 st e.name,0) := by simp [zav,k17]
   rw [e1] at hwc
   have e2 : (List.range (zt t).toNat).map (zbb w st e) = ((List.range (zt t).toNat).map fun k => (zap w.1 st e.name).getD k 0).map fun x => (x,0) := by
     rw [List.map_map]
     refine List.map_congr_left fun k _ => ?_
     simp [zbb,k17]
   rw [e2,zmp,List.nil_append] at hwc
   have hlen := congrArg (fun x : List Int × Int => x.1.length) hwc
   simp only [List.length_map,List.length_range] at hlen
   have hst := hr.st
   have hb := zad (za5 w.1 e.name).1.ty
   have a5 := a4 k (by omega)
   rw [hc] at hL |-
   rw [hv,<- a5]
   have e3 : ((za5 w.1 e.name).1.at_ + (k : Int)).toNat = (za5 w.1 e.name).1.at_.toNat + k := by omega
   rw [<- e3]
   exact zd6 hA hL.head (by simp [znm]) (yd0 (a := (za5 w.1 e.name).1.at_ + k) hA.used (by omega) (by omega) (by simp; omega) (by simp))
 . have hc : zea w e k p = zao w e p := by simp [zea,k14,k17]
   have hv : zbb w st e k = valE w st e := by simp [zbb,k14,k17]
   rw [hc] at hL |-
   rw [hv]
   exact z8o hr hcl _ p v [] (h.self k14 k17) hL (by rw [List.length_nil]; omega) hA
set_option linter.all false
set_option maxRecDepth 20000
open Go.Nk
theorem set_mid (st o : List Int) (n : Nat) (x : Int) (hn : 0 < n) : (st ++ (o ++ List.replicate n 0)).set (st.length + o.length) x = st ++ ((o ++ [x]) ++ List.replicate (n - 1) 0) := by
 obtain ⟨m,rfl⟩ : ∃ m,n = m + 1 := ⟨n - 1,by omega⟩
 rw [List.set_append_right _ _ (by omega),show st.length + o.length - st.length = o.length by omega,List.set_append_right _ _ (by omega),Nat.sub_self,List.replicate_succ,List.set_cons_zero]
 simp
theorem yef {w : Img × Img} {st : List Int} (hr : runFit w st) {code : List Ins} (hcl : code.length <= 65535) {e : Ex} {t : Ty} (h : whFit w st e) (ht : ofT w e = (t,true)) (hd : zc0 e <= 16) {v0 : MS}
   (hA : AtM v0 0 [] (st ++ List.replicate (zt t).toNat 0)) : ∀ j,j <= (zt t).toNat -> zg0 code 0 (zfm w e st.length j) ->
   ((zam ((List.range j).map (zbb w st e)) []).2 = 0 -> (zam ((List.range j).map (zbb w st e)) []).1.length = j /\ ∃ N u,GoC code v0 N u /\ AtM u (zfm w e st.length j).length [] (st ++ ((zam ((List.range j).map (zbb w st e)) []).1 ++ List.replicate ((zt t).toNat - j) 0))) /\
   ((zam ((List.range j).map (zbb w st e)) []).2 ≠ 0 -> ∃ N,DieC code v0 N (zam ((List.range j).map (zbb w st e)) []).2) := by
 intro j
 induction j with
 | zero => exact fun _ _ => ⟨fun _ => ⟨rfl,0,v0,GoC.refl,hA⟩,fun e => absurd rfl e⟩
 | succ j ih =>
   intro hj hL
   rw [zqp] at hL |-
   obtain ⟨i1,i2⟩ := ih (by omega) hL.left
   have R := hL.right
   rw [Nat.zero_add] at R
   have L1 := R.left
   have R1 := R.right
   rw [List.range_succ,List.map_append,List.map_cons,List.map_nil,zvo]
   generalize zam ((List.range j).map (zbb w st e)) [] = r at *
   by_cases z : r.2 = 0
   rotate_left
   . rw [if_neg z]
     exact ⟨fun e => absurd e z,fun _ => i2 z⟩
   rw [if_pos z]
   obtain ⟨g0,N,u,g1,g2⟩ := i1 z
   obtain ⟨k1,k2⟩ := cell_run hr hcl h ht hd (k := j) (by omega) L1 g2
   by_cases z2 : (zbb w st e j).2 = 0
   rotate_left
   . rw [if_neg z2]
     obtain ⟨M,k3⟩ := k2 z2
     exact ⟨fun e => absurd e z2,fun _ => ⟨N + M,g1.die k3⟩⟩
   rw [if_pos z2]
   refine ⟨fun _ => ⟨by simp [g0],?_⟩,fun e => absurd rfl e⟩
   obtain ⟨M,u2,k3,k4⟩ := k1 z2
   have hst := hr.st
   have hb := zad t
   obtain ⟨u3,d1,d2⟩ := do_store (s := []) (a := (st.length : Int) + j) k4.used (by omega) (by omega) (by simp [g0]; omega)
   have h3 : ((st.length : Int) + (j : Int)).toNat = st.length + r.1.length := by omega
   rw [h3,set_mid _ _ _ _ (by omega)] at d2
   have hg : GoC code u2 1 u3 := z67 k4.at.1 (x := zgv ⟨3,(st.length : Int) + j,0,0⟩) (by rw [k4.at.2]; exact R1.head) (by simp [zgv]) d1
   refine ⟨N + M + 1,u3,(g1.trans k3).trans hg,?_⟩
   have h4 : (zt t).toNat - j - 1 = (zt t).toNat - (j + 1) := by omega
   rw [h4] at d2
   have h5 : (zfm w e st.length j ++ (zea w e j (zfm w e st.length j).length ++ [(⟨3,(st.length : Int) + j,0,0⟩ : In4)])).length = (zfm w e st.length j).length + (zea w e j (zfm w e st.length j).length).length + 1 := by simp; omega
   rw [h5]
   exact d2
theorem yep (l : List In4) : zg0 (l.map zgv) 0 l := fun i x hx => by simp [hx]
theorem move_run {w : Img × Img} {st : List Int} (hr : runFit w st) {e : Ex} {t : Ty} (hcl : (zfm w e st.length (zt t).toNat).length <= 65000) (h : whFit w st e) (ht : ofT w e = (t,true)) (hd : zc0 e <= 16) :
   ((zav w st e).2 = 0 -> ∃ N u,(∀ k,runN ((zfm w e st.length (zt t).toNat ++ [(⟨10,0,0,0⟩ : In4)]).map zgv) (N + k) (m0 (st ++ List.replicate (zt t).toNat 0)) = (0,u)) /\
     (∀ k,k < N -> (runN ((zfm w e st.length (zt t).toNat ++ [(⟨10,0,0,0⟩ : In4)]).map zgv) k (m0 (st ++ List.replicate (zt t).toNat 0))).1 = 17) /\ u.cells = st ++ (zav w st e).1) /\
   ((zav w st e).2 ≠ 0 -> ∃ N,DieC ((zfm w e st.length (zt t).toNat ++ [(⟨10,0,0,0⟩ : In4)]).map zgv) (m0 (st ++ List.replicate (zt t).toNat 0)) N (zav w st e).2) := by
 rw [zio h ht]
 have hL := yep (zfm w e st.length (zt t).toNat ++ [(⟨10,0,0,0⟩ : In4)])
 have hA : AtM (m0 (st ++ List.replicate (zt t).toNat 0)) 0 [] (st ++ List.replicate (zt t).toNat 0) := ⟨rfl,rfl,rfl,rfl,rfl⟩
 have hl : ((zfm w e st.length (zt t).toNat ++ [(⟨10,0,0,0⟩ : In4)]).map zgv).length <= 65535 := by simp; omega
 obtain ⟨c1,c2⟩ := yef hr hl h ht hd hA _ (Nat.le_refl _) hL.left
 generalize (zfm w e st.length (zt t).toNat ++ [(⟨10,0,0,0⟩ : In4)]).map zgv = code at *
 generalize zam ((List.range (zt t).toNat).map (zbb w st e)) [] = r at *
 refine ⟨fun z => ?_,c2⟩
 obtain ⟨g0,N,u,g1,g2⟩ := c1 z
 rw [Nat.sub_self,List.replicate_zero,List.append_nil] at g2
 obtain ⟨u2,d1,d2⟩ := do_halt g2.used
 have R := hL.right.head
 rw [Nat.zero_add] at R
 obtain ⟨s1,s2⟩ := yc2 (code := code) g2.at.1 (x := zgv ⟨10,0,0,0⟩) (by rw [g2.at.2]; exact R) rfl d1
 refine ⟨N + 1,u2,fun k => ?_,fun k hk => ?_,d2⟩
 . rw [Nat.add_assoc,g1.1,s1]
 . by_cases c : k < N
   . exact g1.2 k c
   . obtain rfl : k = N := by omega
     have := g1.1 0
     rw [Nat.add_zero] at this
     rw [this]
     exact s2
theorem told_run {w : Img × Img} {st : List Int} (hr : runFit w st) {e : Ex} {t : Ty} (hcl : (zfm w e st.length (zt t).toNat).length <= 65000) (h : whFit w st e) (ht : ofT w e = (t,true)) (hd : zc0 e <= 16) {p : Pln} {fuel : Int}
   (hp : p.code = (zfm w e st.length (zt t).toNat ++ [(⟨10,0,0,0⟩ : In4)]).map zgv) (hn : p.len = zt t) (hv : okVm p.code (st ++ zbv p.len) fuel) (hf : 0 <= fuel) :
   ((runF p st fuel).e = 17 /\ (runF p st fuel).n = fuel) \/ ((runF p st fuel).e ≠ 17 /\ (runF p st fuel).e = (zav w st e).2 /\ ((zav w st e).2 = 0 -> (runF p st fuel).v = (zav w st e).1)) := by
 obtain ⟨m1,m2⟩ := move_run hr hcl h ht hd
 have h17 := (vm_fuel (f0 := fuel) (f1 := 0) (by rw [Int.add_zero]; exact hv) hf (Int.le_refl 0)).2.2.1
 have hz : zbv p.len = List.replicate (zt t).toNat 0 := by rw [hn]; rfl
 have hrF : runF p st fuel = (let r := vmF p.code (st ++ zbv p.len) fuel; if r.2.2 = 0 then ⟨r.1.drop st.length,r.2.1,0⟩ else ⟨[],r.2.1,r.2.2⟩) := rfl
 rw [hrF]
 dsimp only
 have ex : (vmF p.code (st ++ zbv p.len) fuel).2.2 = (runN p.code fuel.toNat (m0 (st ++ zbv p.len))).1 := by
   unfold vmF; dsimp only; split
   . rfl
   . rename_i c; simp only; omega
 rw [<- hp,<- hz] at m1 m2
 by_cases c : (vmF p.code (st ++ zbv p.len) fuel).2.2 = 17
 . left
   rw [if_neg (by omega)]
   exact ⟨c,(h17 c).1⟩
 right
 by_cases z : (zav w st e).2 = 0
 . obtain ⟨N,u,k1,k2,k3⟩ := m1 z
   have hN : N <= fuel.toNat := by
     rcases Nat.lt_or_ge fuel.toNat N with q | q
     . exact absurd (ex.trans (k2 _ q)) c
     . exact q
   have hk := k1 (fuel.toNat - N)
   rw [show N + (fuel.toNat - N) = fuel.toNat by omega] at hk
   have hvm : vmF p.code (st ++ zbv p.len) fuel = (u.cells,u.used,0) := by
     unfold vmF; dsimp only; rw [hk]; rfl
   rw [hvm]
   simp only [if_true]
   refine ⟨by decide,z.symm,fun _ => ?_⟩
   rw [k3,List.drop_left]
 . obtain ⟨N,k1,k2⟩ := m2 z
   have hN : N <= fuel.toNat := by
     rcases Nat.lt_or_ge fuel.toNat N with q | q
     . exact absurd (ex.trans (k2 _ q)) c
     . exact q
   have hk := k1 (fuel.toNat - N)
   rw [show N + (fuel.toNat - N) = fuel.toNat by omega] at hk
   rw [hk] at ex
   rw [if_neg (by rw [ex]; exact z)]
   exact ⟨c,ex,fun e => absurd e z⟩
end Go.Proofs.YtjgefhgkinocmaaGreat
