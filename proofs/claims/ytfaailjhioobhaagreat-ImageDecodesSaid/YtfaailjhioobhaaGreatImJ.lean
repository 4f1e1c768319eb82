/- Writers of sections: what was written, and whether it went well; the bytes stay where they are when it goes wrong. -/
import Derived.Test.YtfaailjhioobhaaGreatInK
import Derived.Test.YtfaailjhioobhaaGreatSlA
import Derived.Test.YtfaailjhioobhaaGreatCrI
set_option maxHeartbeats 4000000
set_option linter.all false
set_option maxRecDepth 20000
namespace Go.Proofs.YtfaailjhioobhaaGreat
open Go.Nk
structure SW where
 b : List UInt8
 ok : Bool
def rowW (g : Bool) (m : Nat) (s : SW) : List DV := if s.ok then [.own m s.b.length 0 s.b.length,.bool g] else [.nil,.bool (!g)]
def hx (g : Bool) (hp : List DObj) (n m : Nat) (s : SW) : List DObj := (hp.set m ⟨.imm,1,bsl s.b⟩).set n ⟨.loc,2,[rowW g m s]⟩
def nxW (s : SW) (f : List UInt8 → WS) : SW := if s.ok then (match f s.b with | some b' => ⟨b',true⟩ | none => ⟨s.b,false⟩) else s
def zaf (k z : Int) (s : SW) : SW := nxW s fun b => wNum b k z
def zu9 (x : Int) (s : SW) : SW := nxW s fun b => wLen b (intF x) 1
def zau (c : List UInt8) (s : SW) : SW := nxW s fun b => wLen b c 2
def zjx (c : List UInt8) (s : SW) : SW := nxW s fun b => wLen b c 4
section
variable {g : Bool} {hp t : List DObj} {n m : Nat} {s : SW}
theorem zdt : (hx g hp n m s).length = hp.length := by simp [hx]
theorem hx_ok {b : List UInt8} : hx g hp n m ⟨b,true⟩ = hw g hp n m b := rfl
theorem hx_n (h1 : n < hp.length) : (hx g hp n m s ++ t)[n]? = some ⟨.loc,2,[rowW g m s]⟩ := by
 rw [List.getElem?_append_left (by rw [zdt]; exact h1)]
 simp [hx,h1]
theorem zj8 {α : Type} {args : α → List DV} {f : List UInt8 → α → Prop × DV × WS} {d z : α → Prop × DV} (ha : InjL args) (h1 : n < hp.length) (h2 : m < hp.length) (h3 : n ≠ m) (s : SW) (t : List DObj) (a : α) {P : Prop}
   (hv : (f s.b a).2.1 = .tup []) (hd : (d a).2 = .tup []) (hp1 : (f s.b a).1 = P) (hp2 : (d a).1 = P) :
   zho g args (fW g f) d z (.ptr n 1 0 0 :: args a) (hx g hp n m s ++ t) = ⟨P,.tup [],hx g hp n m (nxW s fun b => (f b a).2.2) ++ t⟩ := by
 obtain ⟨b,ok⟩ := s
 cases ok with
 | true =>
   have hw' := z66 (g := g) (b := b) (t := t) h1 h2 h3
   rw [hx_ok,zfy ha hw' a]
   simp only at hv hp1
   simp only [fW,hv,hp1,nxW,if_true]
   congr 1
   cases hf : (f b a).2.2 with
   | some b' => exact zzg h1 h2 h3
   | none =>
     show (hw g hp n m b ++ t).set n _ = _
     rw [List.set_append_left _ _ (by rw [zgu]; exact h1)]
     congr 1
     simp only [hw,setW,hx,rowW]
     rw [List.set_set]
     rfl
 | false =>
   have hw' : isW g (hx g hp n m ⟨b,false⟩ ++ t) n 0 none := hx_n h1
   rw [zgf ha hw' a,hd,hp2]
   rfl
theorem zjq (h1 : n < hp.length) (h2 : m < hp.length) (h3 : n ≠ m) (s : SW) (t : List DObj) (k z : Int) (hb : s.b.length + 4 ≤ 4294967296) (hk : k < 9223372036854775808) :
   ze4 [.ptr n 1 0 0,.int .i64 k,.int .i64 z] (hx true hp n m s ++ t) = ⟨True,.tup [],hx true hp n m (zaf k z s) ++ t⟩ :=
 zj8 zpu h1 h2 h3 s t (k,z) rfl rfl (eq_true ⟨hb,hk⟩) rfl
theorem ztj (h1 : n < hp.length) (h2 : m < hp.length) (h3 : n ≠ m) (s : SW) (t : List DObj) (k z : Int) (hb : s.b.length + 4 ≤ 4294967296) (hk : k < 9223372036854775808) :
   zd5 [.ptr n 1 0 0,.int .i64 k,.int .i64 z] (hx false hp n m s ++ t) = ⟨True,.tup [],hx false hp n m (zaf k z s) ++ t⟩ :=
 zj8 zpu h1 h2 h3 s t (k,z) rfl rfl (eq_true ⟨hb,hk⟩) rfl
theorem hx_int (h1 : n < hp.length) (h2 : m < hp.length) (h3 : n ≠ m) (s : SW) (t : List DObj) (x : Int) (hb : s.b.length + 20 ≤ 4294967296) (hx' : zbd x) :
   zwi [.ptr n 1 0 0,.int .i64 x] (hx true hp n m s ++ t) = ⟨True,.tup [],hx true hp n m (zu9 x s) ++ t⟩ :=
 zj8 zew h1 h2 h3 s t x rfl rfl (eq_true ⟨hb,hx'⟩) (eq_true hx')
theorem hu_int' (h1 : n < hp.length) (h2 : m < hp.length) (h3 : n ≠ m) (s : SW) (t : List DObj) (x : Int) (hb : s.b.length + 20 ≤ 4294967296) (hx' : zbd x) :
   zrd [.ptr n 1 0 0,.int .i64 x] (hx false hp n m s ++ t) = ⟨True,.tup [],hx false hp n m (zu9 x s) ++ t⟩ :=
 zj8 zew h1 h2 h3 s t x rfl rfl (eq_true ⟨hb,hx'⟩) (eq_true hx')
theorem zyp (h1 : n < hp.length) (h2 : m < hp.length) (h3 : n ≠ m) (s : SW) (t : List DObj) (c : List UInt8) (hb : s.b.length + c.length + 20 ≤ 4294967296) :
   zti [.ptr n 1 0 0,.str c] (hx true hp n m s ++ t) = ⟨True,.tup [],hx true hp n m (zau c s) ++ t⟩ :=
 zj8 z45 h1 h2 h3 s t c rfl rfl (eq_true hb) (eq_true (show c.length ≤ 4294967296 by omega))
theorem hu_text (h1 : n < hp.length) (h2 : m < hp.length) (h3 : n ≠ m) (s : SW) (t : List DObj) (c : List UInt8) (hb : s.b.length + c.length + 20 ≤ 4294967296) :
   zqv [.ptr n 1 0 0,.str c] (hx false hp n m s ++ t) = ⟨True,.tup [],hx false hp n m (zau c s) ++ t⟩ :=
 zj8 z45 h1 h2 h3 s t c rfl rfl (eq_true hb) (eq_true (show c.length ≤ 4294967296 by omega))
theorem hx_part (h1 : n < hp.length) (h2 : m < hp.length) (h3 : n ≠ m) (s : SW) (t : List DObj) (c : List UInt8) (hb : s.b.length + c.length + 20 ≤ 4294967296) :
   zx0 [.ptr n 1 0 0,.sl (bsl c)] (hx true hp n m s ++ t) = ⟨True,.tup [],hx true hp n m (zjx c s) ++ t⟩ :=
 zj8 zp9 h1 h2 h3 s t c rfl rfl (eq_true hb) (eq_true (show c.length ≤ 4294967296 by omega))
theorem hu_part (h1 : n < hp.length) (h2 : m < hp.length) (h3 : n ≠ m) (s : SW) (t : List DObj) (c : List UInt8) (hb : s.b.length + c.length + 20 ≤ 4294967296) :
   zw7 [.ptr n 1 0 0,.sl (bsl c)] (hx false hp n m s ++ t) = ⟨True,.tup [],hx false hp n m (zjx c s) ++ t⟩ :=
 zj8 zp9 h1 h2 h3 s t c rfl rfl (eq_true hb) (eq_true (show c.length ≤ 4294967296 by omega))
end
theorem z3d {s : SW} {f : List UInt8 → WS} {k : Nat} (h : ∀ b',f s.b = some b' → b'.length ≤ s.b.length + k) : (nxW s f).b.length ≤ s.b.length + k := by
 unfold nxW
 split
 · split
   · rename_i b' e; exact h b' e
   · exact Nat.le_add_right _ _
 · exact Nat.le_add_right _ _
theorem z5d {b c b' : List UInt8} {z : Int} (h : wLen b c z = some b') : b'.length ≤ b.length + (c.length + 4) := by
 unfold wLen at h
 cases e : wNum b c.length z with
 | none => rw [e] at h; cases h
 | some b1 =>
   rw [e] at h
   injection h with h
   have := zhb e
   subst h
   simp only [List.length_append]
   omega
theorem z5 (k z : Int) (s : SW) : (zaf k z s).b.length ≤ s.b.length + 4 := z3d fun _ h => zhb h
theorem zun (x : Int) (s : SW) : (zu9 x s).b.length ≤ s.b.length + 12 := by
 have := zdk x
 exact z3d fun _ h => by have := z5d h; omega
theorem zbt (c : List UInt8) (s : SW) : (zau c s).b.length ≤ s.b.length + (c.length + 4) := z3d fun _ h => z5d h
def stTy (t : Ty) (s : SW) : SW := zaf t.n 1 (zaf t.e 1 (zaf t.k 1 s))
theorem zll (t : Ty) (s : SW) : (stTy t s).b.length ≤ s.b.length + 12 := by
 have h1 := z5 t.k 1 s
 have h2 := z5 t.e 1 (zaf t.k 1 s)
 have h3 := z5 t.n 1 (zaf t.e 1 (zaf t.k 1 s))
 unfold stTy
 omega
end Go.Proofs.YtfaailjhioobhaaGreat
set_option linter.all false
set_option maxRecDepth 20000
namespace Go.Proofs.YtfaailjhioobhaaGreat
open Go.Nk
structure WT (β : Type) where
 n : Nat
 o : Option (Nat × List UInt8)
 v : β
def isO (g : Bool) (hp : List DObj) (n : Nat) : Option (Nat × List UInt8) → Prop
 | some (m,b) => isW g hp n m (some b)
 | none => isW g hp n 0 none
theorem isO_u {g : Bool} {hp : List DObj} {n : Nat} : ∀ {o o' : Option (Nat × List UInt8)},isO g hp n o → isO g hp n o' → o = o'
 | none,none,_,_ => rfl
 | some (m,b),none,h,h' => by
   have := h.1.symm.trans (show hp[n]? = _ from h')
   simp at this
 | none,some (m,b),h,h' => by
   have := h'.1.symm.trans (show hp[n]? = _ from h)
   simp at this
 | some (m,b),some (m',b'),h,h' => by
   have h7 := h.1.symm.trans h'.1
   simp only [Option.some.injEq,DObj.mk.injEq,List.cons.injEq,DV.own.injEq,and_true,true_and] at h7
   obtain ⟨rfl,_⟩ := h7
   have h8 := h.2.1.symm.trans h'.2.1
   simp only [Option.some.injEq,DObj.mk.injEq,true_and] at h8
   rw [zfo h8]
def outO (g : Bool) (hp : List DObj) (n : Nat) (f : SW → SW) : Option (Nat × List UInt8) → List DObj
 | some (m,b) => hx g hp n m (f ⟨b,true⟩)
 | none => hp
def okO (k : Nat) : Option (Nat × List UInt8) → Prop
 | some (_,b) => b.length + k ≤ 4294967296
 | none => True
theorem hx_O {g : Bool} {hp t : List DObj} {n m : Nat} (h1 : n < hp.length) (h2 : m < hp.length) (h3 : n ≠ m) (s : SW) : isO g (hx g hp n m s ++ t) n (if s.ok then some (m,s.b) else none) := by
 obtain ⟨b,ok⟩ := s
 cases ok with
 | true => exact z66 h1 h2 h3
 | false => exact hx_n h1
theorem hx_hx {g : Bool} {hp t : List DObj} {n m : Nat} (h1 : n < hp.length) (h2 : m < hp.length) (h3 : n ≠ m) (s s' : SW) : hx g (hx g hp n m s ++ t) n m s' = hx g hp n m s' ++ t := by
 unfold hx
 rw [List.set_append_left _ _ (by simpa using h2),List.set_append_left _ _ (by simpa using h1)]
 congr 1
 rw [List.set_comm _ _ (Ne.symm h3),List.set_set,List.set_comm _ _ h3,List.set_set]
theorem zwn {g : Bool} {hp : List DObj} {n m : Nat} {s : SW} (h1 : n < hp.length) (h2 : m < hp.length) : ∀ (i : Nat) (x : DObj),(hx g hp n m s)[i]? = some x → hp[i]? = some x ∨ x.cut hp.length = x := by
 intro i x hx'
 simp only [hx] at hx'
 by_cases e1 : i = n
 · subst e1
   rw [List.getElem?_set_self (by rw [List.length_set]; exact h1)] at hx'
   injection hx' with hx'; subst hx'
   refine .inr ?_
   unfold rowW
   split <;> simp [DObj.cut,DV.cut,DV.inB,h2]
 · rw [List.getElem?_set_ne (fun e => e1 e.symm)] at hx'
   by_cases e2 : i = m
   · subst e2
     rw [List.getElem?_set_self h2] at hx'
     injection hx' with hx'; subst hx'; exact .inr rfl
   · rw [List.getElem?_set_ne (fun e => e2 e.symm)] at hx'
     exact .inl hx'
theorem yaw {g : Bool} {hp t : List DObj} {n m : Nat} (h1 : n < hp.length) (h2 : m < hp.length) (h3 : n ≠ m) (s : SW) (f : SW → SW) (hf : s.ok = false → f s = s) :
   outO g (hx g hp n m s ++ t) n f (if s.ok then some (m,s.b) else none) = hx g hp n m (f s) ++ t := by
 obtain ⟨b,ok⟩ := s
 cases ok with
 | true => exact hx_hx h1 h2 h3 _ _
 | false => rw [hf rfl]; rfl
theorem z4o {t : Ty} {s : SW} (h : s.ok = false) : stTy t s = s := by
 simp [stTy,zaf,nxW,h]
def rTyP (x : WT Ty) (a : List DV) (hp : List DObj) : Prop := a = [.agg [.ptr x.n 1 0 0],.agg (cTy x.v)] ∧ isO true hp x.n x.o
def rTyQ (x : WT Ty) (a : List DV) (hp : List DObj) : Prop := a = [.ptr x.n 1 0 0,.agg (cTy x.v)] ∧ isO false hp x.n x.o
theorem rTyP_u : ∀ x y a hp,rTyP x a hp → rTyP y a hp → x = y := by
 rintro ⟨n,o,v⟩ ⟨n',o',v'⟩ a hp ⟨h1,h2⟩ ⟨h3,h4⟩
 subst h1
 simp only [List.cons.injEq,DV.agg.injEq,DV.ptr.injEq,and_true] at h3
 obtain ⟨h3,h5⟩ := h3
 subst h3
 have e1 : o = o' := isO_u h2 h4
 have e2 : v = v' := z2r _ _ (by simpa [cTy] using h5)
 rw [e1,e2]
theorem rTyQ_u : ∀ x y a hp,rTyQ x a hp → rTyQ y a hp → x = y := by
 rintro ⟨n,o,v⟩ ⟨n',o',v'⟩ a hp ⟨h1,h2⟩ ⟨h3,h4⟩
 subst h1
 simp only [List.cons.injEq,DV.agg.injEq,DV.ptr.injEq,and_true] at h3
 obtain ⟨h3,h5⟩ := h3
 subst h3
 have e1 : o = o' := isO_u h2 h4
 have e2 : v = v' := z2r _ _ (by simpa [cTy] using h5)
 rw [e1,e2]
def ok3 (t : Ty) : Prop := zbd t.k ∧ zbd t.e ∧ zbd t.n
noncomputable def s_wTy : List DV → List DObj → Res := zee rTyP (fun x => (okO 12 x.o ∧ ok3 x.v,.tup [])) (fun x hp => outO true hp x.n (stTy x.v) x.o)
noncomputable def yaf : List DV → List DObj → Res := zee rTyQ (fun x => (okO 12 x.o ∧ ok3 x.v,.tup [])) (fun x hp => outO false hp x.n (stTy x.v) x.o)
theorem okO_hx {s : SW} {m k : Nat} (h : s.b.length + k ≤ 4294967296) : okO k (if s.ok then some (m,s.b) else none) := by
 obtain ⟨b,ok⟩ := s
 cases ok with
 | true => exact h
 | false => trivial
theorem hx_ty {hp : List DObj} {n m : Nat} (h1 : n < hp.length) (h2 : m < hp.length) (h3 : n ≠ m) (s : SW) (t : List DObj) (v : Ty) (hb : s.b.length + 12 ≤ 4294967296) (hv : ok3 v) :
   s_wTy [.agg [.ptr n 1 0 0],.agg (cTy v)] (hx true hp n m s ++ t) = ⟨True,.tup [],hx true hp n m (stTy v s) ++ t⟩ := by
 refine (za5 (x := ⟨n,if s.ok then some (m,s.b) else none,v⟩) rTyP_u ⟨rfl,hx_O h1 h2 h3 s⟩).trans ?_
 rw [eq_true (show okO 12 (if s.ok then some (m,s.b) else none) ∧ ok3 v from ⟨okO_hx hb,hv⟩),yaw h1 h2 h3 s (stTy v) z4o]
theorem hu_ty {hp : List DObj} {n m : Nat} (h1 : n < hp.length) (h2 : m < hp.length) (h3 : n ≠ m) (s : SW) (t : List DObj) (v : Ty) (hb : s.b.length + 12 ≤ 4294967296) (hv : ok3 v) :
   yaf [.ptr n 1 0 0,.agg (cTy v)] (hx false hp n m s ++ t) = ⟨True,.tup [],hx false hp n m (stTy v s) ++ t⟩ := by
 refine (za5 (x := ⟨n,if s.ok then some (m,s.b) else none,v⟩) rTyQ_u ⟨rfl,hx_O h1 h2 h3 s⟩).trans ?_
 rw [eq_true (show okO 12 (if s.ok then some (m,s.b) else none) ∧ ok3 v from ⟨okO_hx hb,hv⟩),yaw h1 h2 h3 s (stTy v) z4o]
theorem zpw {g : Bool} {hp : List DObj} {n m : Nat} {b : List UInt8} (h : isW g hp n m (some b)) : hx g hp n m ⟨b,true⟩ = hp := set_w h
theorem hx_b {g : Bool} {hp t : List DObj} {n m : Nat} {s : SW} {o : DObj} : (hx g hp n m s ++ (o :: t))[hp.length]? = some o := by
 rw [List.getElem?_append_right (by simp [zdt])]; simp [zdt]
theorem zuo {hp t : List DObj} {o : DObj} : (hp ++ (o :: t))[hp.length]? = some o := by
 rw [List.getElem?_append_right (by simp)]; simp
theorem zhi : OkH Tryz.prog 106 s_wTy := by
 refine OkH.mkG (ps := []) (hs := [(20,ze4)]) trivial ⟨zhu,trivial⟩ zqo (fun x a hp h => by rw [h.1]; rfl) (fun w a hp h hp1 => ?_)
 obtain ⟨n,o,v⟩ := w
 obtain ⟨rfl,hW⟩ := h
 obtain ⟨hb,hk,he,hn⟩ := hp1
 simp only at hb hk he hn hW ⊢
 obtain ⟨vk,ve,vn⟩ := v
 simp only at hk he hn
 
 cases o with
 | some mb =>
   obtain ⟨m,b⟩ := mb
   replace hW : isW true hp n m (some b) := hW
   have h1 := zh9 hW
   have h2 := zi2 hW
   have h3 := hW.2.2
   have hb : b.length + 12 ≤ 4294967296 := hb
   have es : (⟨za 0 [.agg [.ptr n 1 0 0],.agg (cTy ⟨vk,ve,vn⟩)],hp⟩ : DS) = ⟨za 0 [.agg [.ptr n 1 0 0],.agg (cTy ⟨vk,ve,vn⟩)],hx true hp n m ⟨b,true⟩ ++ []⟩ := by rw [List.append_nil,zpw hW]
   rw [es]
   have l1 := z5 vk 1 ⟨b,true⟩
   have l2 := z5 ve 1 (zaf vk 1 ⟨b,true⟩)
   simp only at l1
   have q0 := fun t => zjq h1 h2 h3 ⟨b,true⟩ t vk 1 (by show b.length + 4 ≤ _; omega) hk.2
   have q1 := fun t => zjq h1 h2 h3 (zaf vk 1 ⟨b,true⟩) t ve 1 (by omega) he.2
   have q2 := fun t => zjq h1 h2 h3 (zaf ve 1 (zaf vk 1 ⟨b,true⟩)) t vn 1 (by omega) hn.2
   simp only [outO,stTy]
   (have hcondQ := Bool.and_self; refine Todo.of ?_); (repeat' (first | ((with_reducible refine Todo.to ?_); (repeat (simp only [↓rP,rT,rU,zc,dval,za,zg,zb,retV,retL,DV.immB,DV.one,alive,cellsOf,Nat.reduceEqDiff,Nat.reduceAdd,↓reduceIte,reduceCtorEq,Nat.reduceLT,forall_const,zeo,q0,q1,q2,zdt,hx_b,List.append_assoc,Nat.add_zero ,hcondQ]))) | ((with_reducible refine And.intro ?_ ?_); · first | (trivial) | ((simp; done))) | fail))
   all_goals exact zwn h1 h2
 | none =>
   replace hW : isW true hp n 0 none := hW
   have q0 : ∀ k t,ze4 [.ptr n 1 0 0,.int .i64 k,.int .i64 1] (hp ++ t) = ⟨True,.tup [],hp ++ t⟩ := fun k t => zl1 (by
     show (hp ++ t)[n]? = _
     rw [List.getElem?_append_left (zh9 hW)]; exact hW) k 1
   have es : (⟨za 0 [.agg [.ptr n 1 0 0],.agg (cTy ⟨vk,ve,vn⟩)],hp⟩ : DS) = ⟨za 0 [.agg [.ptr n 1 0 0],.agg (cTy ⟨vk,ve,vn⟩)],hp ++ []⟩ := by rw [List.append_nil]
   rw [es]
   simp only [outO]
   (have hcondQ := Bool.and_self; refine Todo.of ?_); (repeat' (first | ((with_reducible refine Todo.to ?_); (repeat (simp only [↓rP,rT,rU,zc,dval,za,zg,zb,retV,retL,DV.immB,DV.one,alive,cellsOf,Nat.reduceEqDiff,Nat.reduceAdd,↓reduceIte,reduceCtorEq,Nat.reduceLT,forall_const,zeo,q0,zuo,List.append_assoc,Nat.add_zero ,hcondQ]))) | ((with_reducible refine And.intro ?_ ?_); · first | (trivial) | ((simp; done))) | fail))
   all_goals exact fun i x h => .inl h
theorem zju : OkH Tryz.prog 68 yaf := by
 refine OkH.mkG (ps := []) (hs := [(30,zd5)]) trivial ⟨zhs,trivial⟩ zu1 (fun x a hp h => by rw [h.1]; rfl) (fun w a hp h hp1 => ?_)
 obtain ⟨n,o,v⟩ := w
 obtain ⟨rfl,hW⟩ := h
 obtain ⟨hb,hk,he,hn⟩ := hp1
 simp only at hb hk he hn hW ⊢
 obtain ⟨vk,ve,vn⟩ := v
 simp only at hk he hn
 
 cases o with
 | some mb =>
   obtain ⟨m,b⟩ := mb
   replace hW : isW false hp n m (some b) := hW
   have h1 := zh9 hW
   have h2 := zi2 hW
   have h3 := hW.2.2
   have hb : b.length + 12 ≤ 4294967296 := hb
   have es : (⟨za 0 [.ptr n 1 0 0,.agg (cTy ⟨vk,ve,vn⟩)],hp⟩ : DS) = ⟨za 0 [.ptr n 1 0 0,.agg (cTy ⟨vk,ve,vn⟩)],hx false hp n m ⟨b,true⟩ ++ []⟩ := by rw [List.append_nil,zpw hW]
   rw [es]
   have l1 := z5 vk 1 ⟨b,true⟩
   have l2 := z5 ve 1 (zaf vk 1 ⟨b,true⟩)
   simp only at l1
   have q0 := fun t => ztj h1 h2 h3 ⟨b,true⟩ t vk 1 (by show b.length + 4 ≤ _; omega) hk.2
   have q1 := fun t => ztj h1 h2 h3 (zaf vk 1 ⟨b,true⟩) t ve 1 (by omega) he.2
   have q2 := fun t => ztj h1 h2 h3 (zaf ve 1 (zaf vk 1 ⟨b,true⟩)) t vn 1 (by omega) hn.2
   simp only [outO,stTy]
   (refine Todo.of ?_); (repeat' (first | ((with_reducible refine Todo.to ?_); (repeat (simp only [↓rP,rT,rU,zc,dval,za,zg,zb,retV,retL,DV.one,alive,cellsOf,Nat.reduceEqDiff,Nat.reduceAdd,↓reduceIte,reduceCtorEq,Nat.reduceLT,forall_const,zgn,q0,q1,q2,zdt,hx_b,List.append_assoc,Nat.add_zero ]))) | ((with_reducible refine And.intro ?_ ?_); · first | (trivial) | ((simp; done))) | fail))
   all_goals exact zwn h1 h2
 | none =>
   replace hW : isW false hp n 0 none := hW
   have q0 : ∀ k t,zd5 [.ptr n 1 0 0,.int .i64 k,.int .i64 1] (hp ++ t) = ⟨True,.tup [],hp ++ t⟩ := fun k t => zlr (by
     show (hp ++ t)[n]? = _
     rw [List.getElem?_append_left (zh9 hW)]; exact hW) k 1
   have es : (⟨za 0 [.ptr n 1 0 0,.agg (cTy ⟨vk,ve,vn⟩)],hp⟩ : DS) = ⟨za 0 [.ptr n 1 0 0,.agg (cTy ⟨vk,ve,vn⟩)],hp ++ []⟩ := by rw [List.append_nil]
   rw [es]
   simp only [outO]
   (refine Todo.of ?_); (repeat' (first | ((with_reducible refine Todo.to ?_); (repeat (simp only [↓rP,rT,rU,zc,dval,za,zg,zb,retV,retL,DV.one,alive,cellsOf,Nat.reduceEqDiff,Nat.reduceAdd,↓reduceIte,reduceCtorEq,Nat.reduceLT,forall_const,zgn,q0,zuo,List.append_assoc,Nat.add_zero ]))) | ((with_reducible refine And.intro ?_ ?_); · first | (trivial) | ((simp; done))) | fail))
   all_goals exact fun i x h => .inl h
end Go.Proofs.YtfaailjhioobhaaGreat
set_option linter.all false
set_option maxRecDepth 20000
namespace Go.Proofs.YtfaailjhioobhaaGreat
open Go.Nk
def stCt (l : List (List UInt8)) (s : SW) : SW := l.foldl (fun s c => zau c s) s
def stEn (s : SW) (e : En) : SW := stCt e.ct (zaf e.ct.length 1 (zau e.name s))
def zkz (l : List En) (s : SW) : SW := l.foldl stEn (zaf l.length 1 s)
def zu3 (s : SW) (p : Prt) : SW := stTy p.ty (zau p.name s)
def zc4 (l : List Prt) (s : SW) : SW := l.foldl zu3 (zaf l.length 1 s)
def zwl (l : List Int) (s : SW) : SW := l.foldl (fun s n => zu9 n s) s
def zff (l : List Int) (s : SW) : SW := l.foldl (fun s n => zaf n 2 s) (zaf l.length 2 s)
def szCt (l : List (List UInt8)) : Nat := (l.map fun c => c.length + 4).sum
def szEn (e : En) : Nat := e.name.length + 8 + szCt e.ct
def zow (l : List En) : Nat := (l.map szEn).sum + 4
def zvp (p : Prt) : Nat := p.name.length + 16
def zea (l : List Prt) : Nat := (l.map zvp).sum + 4
theorem zur (c : List UInt8) (l : List (List UInt8)) : szCt (c :: l) = c.length + 4 + szCt l := by simp [szCt]
theorem z5r : ∀ (l : List (List UInt8)) (s : SW),(stCt l s).b.length ≤ s.b.length + szCt l
 | [],s => Nat.le_refl _
 | c :: l,s => by
   have h1 := z5r l (zau c s)
   have h2 := zbt c s
   rw [zur]
   show (stCt l (zau c s)).b.length ≤ _
   omega
theorem stEn_len (s : SW) (e : En) : (stEn s e).b.length ≤ s.b.length + szEn e := by
 have h1 := z5r e.ct (zaf e.ct.length 1 (zau e.name s))
 have h2 := z5 e.ct.length 1 (zau e.name s)
 have h3 := zbt e.name s
 unfold stEn szEn
 omega
theorem yb7 (s : SW) (p : Prt) : (zu3 s p).b.length ≤ s.b.length + zvp p := by
 have h1 := zll p.ty (zau p.name s)
 have h2 := zbt p.name s
 unfold zu3 zvp
 omega
structure WB (β : Type) where
 n : Nat
 m : Nat
 b : List UInt8
 v : β
def rW {β : Type} (g : Bool) (args : Nat → β → List DV) (x : WB β) (a : List DV) (hp : List DObj) : Prop := a = args x.n x.v ∧ isW g hp x.n x.m (some x.b)
theorem rW_u {β : Type} {g : Bool} {args : Nat → β → List DV} (ha : ∀ n v n' v',args n v = args n' v' → n = n' ∧ v = v') : ∀ x y a hp,rW g args x a hp → rW g args y a hp → x = y := by
 rintro ⟨n,m,b,v⟩ ⟨n',m',b',v'⟩ a hp ⟨h1,h2⟩ ⟨h3,h4⟩
 obtain ⟨e1,e2⟩ := ha n v n' v' (h1.symm.trans h3)
 simp only at h2 h4
 subst e1; subst e2
 have e : some (m,b) = some (m',b') := isO_u (g := g) (hp := hp) (n := n) h2 h4
 injection e with e
 injection e with e1 e2
 subst e1; subst e2
 rfl
theorem hx_e {g : Bool} {hp t u : List DObj} {n m : Nat} {s : SW} {o z : DObj} : (hx g hp n m s ++ (o :: (t ++ z :: u)))[hp.length + (t.length + 1)]? = some z := by
 rw [List.getElem?_append_right (by simp [zdt])]
 simp [zdt]
theorem hx_se {g : Bool} {hp t u : List DObj} {n m : Nat} {s : SW} {o z z' : DObj} : (hx g hp n m s ++ (o :: (t ++ z :: u))).set (hp.length + (t.length + 1)) z' = hx g hp n m s ++ (o :: (t ++ z' :: u)) := by
 rw [List.set_append_right _ _ (by simp [zdt])]
 simp [zdt]
def aEns (n : Nat) (x : Img) : List DV := [.agg [.ptr n 1 0 0],.agg (cImg x)]
theorem ya0 : ∀ n v n' v',aEns n v = aEns n' v' → n = n' ∧ v = v' := fun n v n' v' h => by
 simp only [aEns,List.cons.injEq,DV.agg.injEq,DV.ptr.injEq,and_true] at h
 exact ⟨h.1,z5u _ _ (by simpa [cImg] using h.2)⟩
noncomputable def z3x : List DV → List DObj → Res := zee (rW true aEns) (fun x => (x.b.length + zow x.v.en ≤ 4294967000 ∧ x.v.en.length ≤ 1000000000 ∧ ∀ e ∈ x.v.en,e.ct.length ≤ 1000000000,.tup [])) (fun x hp => hx true hp x.n x.m (zkz x.v.en ⟨x.b,true⟩))
theorem z75 {hp : List DObj} {n m : Nat} {b : List UInt8} (x : Img) (h : isW true hp n m (some b)) :
   z3x [.agg [.ptr n 1 0 0],.agg (cImg x)] hp = ⟨b.length + zow x.en ≤ 4294967000 ∧ x.en.length ≤ 1000000000 ∧ ∀ e ∈ x.en,e.ct.length ≤ 1000000000,.tup [],hx true hp n m (zkz x.en ⟨b,true⟩)⟩ :=
 za5 (x := ⟨n,m,b,x⟩) (rW_u ya0) ⟨rfl,h⟩
theorem zkd : OkH Tryz.prog 52 z3x := by
 refine OkH.mkG (ps := []) (hs := [(20,ze4),(105,zti)]) trivial ⟨zhu,zyq,trivial⟩ zl7 (fun x a hp h => by rw [h.1]; rfl) (fun w a hp h hp1 => ?_)
 obtain ⟨n,m,b,x⟩ := w
 obtain ⟨rfl,hW⟩ := h
 obtain ⟨hb,hl,hct⟩ := hp1
 simp only at hb hl hct hW ⊢
 
 have h1 := zh9 hW
 have h2 := zi2 hW
 have h3 := hW.2.2
 have es : (⟨za 0 (aEns n x),hp⟩ : DS) = ⟨za 0 [.agg [.ptr n 1 0 0],.agg (cImg x)],hx true hp n m ⟨b,true⟩ ++ []⟩ := by rw [List.append_nil,zpw hW]; rfl
 rw [es]
 obtain ⟨en,ins,outs,slots,loc,code⟩ := x
 simp only at hb hl hct ⊢
 unfold zow at hb
 have q0 := fun t => zjq h1 h2 h3 ⟨b,true⟩ t en.length 1 (by show b.length + 4 ≤ _; omega) (by omega)
 have l0 := z5 en.length 1 ⟨b,true⟩
 simp only at l0
 (have hcondQ := Bool.and_self; refine Todo.of ?_); (repeat' (first | ((with_reducible refine Todo.to ?_); (repeat (simp only [↓rP,rT,rU,zc,dval,za,zg,zb,DV.immB,DV.one,alive,cellsOf,Nat.reduceEqDiff,Nat.reduceAdd,↓reduceIte,reduceCtorEq,Nat.reduceLT,forall_const,zft,q0,zdt,hx_b,List.append_assoc,Nat.add_zero ,hcondQ])))))
 refine zad en (fun k (a : SW × List DObj) => ⟨[(2,.ptr hp.length 1 0 0),(15,.sl (en.map cEn)),(16,.int .i64 en.length),(17,.int .i64 k)],hx true hp n m a.1 ++ (⟨.loc,1,[[.ptr n 1 0 0]]⟩ :: a.2)⟩) (fun k r a => a.1.b.length + (r.map szEn).sum ≤ 4294967000 ∧ r.foldl stEn a.1 = zkz en ⟨b,true⟩) (zaf en.length 1 ⟨b,true⟩,[]) trivial (by simp only [zn,List.map_cons,List.map_nil,zd,Nk.get_nil,Nat.reduceEqDiff,↓reduceIte] <;> rfl) ⟨by simp only; omega,rfl⟩ (fun k e r a d hge hd hr => ?_) fun k a hk hr => ?_
 · obtain ⟨s,t⟩ := a
   obtain ⟨hr1,hr2⟩ := hr
   simp only [List.map_cons,List.sum_cons] at hr1
   have wk := zci d (by omega)
   have hrow := za8 cEn hge
   have he := hct e (List.mem_of_getElem? hge)
   obtain ⟨nm,ct⟩ := e
   simp only [szEn] at hr1 he
   have l1 := zbt nm s
   have l2 := z5 ct.length 1 (zau nm s)
   have q1 := fun t => zyp h1 h2 h3 s t nm (by omega)
   have q2 := fun t => zjq h1 h2 h3 (zau nm s) t ct.length 1 (by omega) (by omega)
   (refine Todo.of ?_); (repeat' (first | ((with_reducible refine Todo.to ?_); (repeat (simp only [↓rP,rT,rU,zc,dval,dBin,dInt,zg,zb,zo,DV.one,alive,cellsOf,zf,Nat.reduceEqDiff,Nat.reduceAdd,↓reduceIte,reduceCtorEq,Nat.reduceLeDiff,Nat.reduceLT,forall_const,zek,d,hrow,q1,q2,zdt,hx_b,hx_e,hx_se,List.append_assoc,Nat.add_zero ]))) | ((with_reducible refine And.intro ?_ ?_); · omega) | fail))
   refine zad ct (fun j (s' : SW) => ⟨[(2,.ptr hp.length 1 0 0),(15,.sl (en.map cEn)),(16,.int .i64 en.length),(17,.int .i64 k),(33,.sl (sls ct)),(34,.int .i64 ct.length),(35,.int .i64 j)],hx true hp n m s' ++ (⟨.loc,1,[[.ptr n 1 0 0]]⟩ :: (t ++ [⟨.loc,2,[[.str nm,.sl (sls ct)]]⟩]))⟩) (fun j q s' => s'.b.length + szCt q + (r.map szEn).sum ≤ 4294967000 ∧ stCt q s' = stEn s ⟨nm,ct⟩) (zaf ct.length 1 (zau nm s)) trivial (by simp only [zn,List.map_cons,List.map_nil,zd,Nk.get_nil,Nat.reduceEqDiff,↓reduceIte,Nat.succ_ne_self] <;> rfl) ⟨by omega,rfl⟩ (fun j c q s' dj hgj hdj hq => ?_) fun j s' hj hq => ?_
   · obtain ⟨hq1,hq2⟩ := hq
     rw [zur] at hq1
     have wj := zci dj (by omega)
     have hrj := sls_at hgj
     have l3 := zbt c s'
     have q3 := fun t => zyp h1 h2 h3 s' t c (by omega)
     (refine Todo.of ?_); (repeat' (first | ((with_reducible refine Todo.to ?_); (repeat (simp only [↓rP,rT,rU,zc,dval,dBin,dInt,zg,zb,alive,Nat.reduceEqDiff,↓reduceIte,reduceCtorEq,zek,dj,wj,hrj,q3,hx_b,Nat.add_zero ]))) | ((with_reducible refine And.intro ?_ ?_); · omega) | fail))
     exact ⟨zau c s',by simp only [zn,List.map_cons,List.map_nil,zd,Nk.get_nil,Nat.reduceEqDiff,↓reduceIte,Nat.succ_ne_self,Int.natCast_add,Int.natCast_one] <;> rfl,by omega,hq2⟩
   · obtain ⟨hq1,hq2⟩ := hq
     have hq2 : s' = stEn s ⟨nm,ct⟩ := hq2
     have dj : ¬ j < ct.length := by omega
     subst hq2
     (refine Todo.of ?_); (repeat' (first | ((with_reducible refine Todo.to ?_); (repeat (simp only [↓rP,rT,rU,zc,dval,dBin,dInt,Nat.reduceEqDiff,↓reduceIte,dj,wk ])))))
     exact ⟨(stEn s ⟨nm,ct⟩,t ++ [⟨.loc,2,[[.str nm,.sl (sls ct)]]⟩]),by simp only [zn,List.map_cons,List.map_nil,zd,Nk.get_nil,Nat.reduceEqDiff,↓reduceIte,Nat.succ_ne_self,Int.natCast_add,Int.natCast_one] <;> rfl,by simp only; omega,hr2⟩
 · have d : ¬ k < en.length := by omega
   have e : a.1 = zkz en ⟨b,true⟩ := hr.2
   (refine Todo.of ?_); (repeat' (first | ((with_reducible refine Todo.to ?_); (repeat (simp only [↓rP,rT,rU,zc,dval,dBin,dInt,retV,retL,Nat.reduceEqDiff,↓reduceIte,d,zdt ]))) | ((with_reducible refine And.intro ?_ ?_); · trivial) | fail))
   rw [e]
   exact ⟨⟨_,rfl⟩,zwn h1 h2⟩
end Go.Proofs.YtfaailjhioobhaaGreat
set_option linter.all false
set_option maxRecDepth 20000
namespace Go.Proofs.YtfaailjhioobhaaGreat
open Go.Nk
def ybb (n : Nat) (l : List Prt) : List DV := [.agg [.ptr n 1 0 0],.sl (l.map cPrt)]
theorem aPrts_u : ∀ n v n' v',ybb n v = ybb n' v' → n = n' ∧ v = v' := fun n v n' v' h => by
 simp only [ybb,List.cons.injEq,DV.agg.injEq,DV.ptr.injEq,DV.sl.injEq,and_true] at h
 exact ⟨h.1,zk3 zsq _ _ h.2⟩
noncomputable def zs3 : List DV → List DObj → Res := zee (rW true ybb) (fun x => (x.b.length + zea x.v ≤ 4294967000 ∧ x.v.length ≤ 1000000000 ∧ ∀ p ∈ x.v,ok3 p.ty,.tup [])) (fun x hp => hx true hp x.n x.m (zc4 x.v ⟨x.b,true⟩))
theorem zw3 {hp : List DObj} {n m : Nat} {b : List UInt8} (l : List Prt) (h : isW true hp n m (some b)) :
   zs3 [.agg [.ptr n 1 0 0],.sl (l.map cPrt)] hp = ⟨b.length + zea l ≤ 4294967000 ∧ l.length ≤ 1000000000 ∧ ∀ p ∈ l,ok3 p.ty,.tup [],hx true hp n m (zc4 l ⟨b,true⟩)⟩ :=
 za5 (x := ⟨n,m,b,l⟩) (rW_u aPrts_u) ⟨rfl,h⟩
theorem zkl : OkH Tryz.prog 53 zs3 := by
 refine OkH.mkG (ps := []) (hs := [(20,ze4),(105,zti),(106,s_wTy)]) trivial ⟨zhu,zyq,zhi,trivial⟩ zme (fun x a hp h => by rw [h.1]; rfl) (fun w a hp h hp1 => ?_)
 obtain ⟨n,m,b,l⟩ := w
 obtain ⟨rfl,hW⟩ := h
 obtain ⟨hb,hl,hty⟩ := hp1
 simp only at hb hl hty hW ⊢
 
 have h1 := zh9 hW
 have h2 := zi2 hW
 have h3 := hW.2.2
 have es : (⟨za 0 (ybb n l),hp⟩ : DS) = ⟨za 0 [.agg [.ptr n 1 0 0],.sl (l.map cPrt)],hx true hp n m ⟨b,true⟩ ++ []⟩ := by rw [List.append_nil,zpw hW]; rfl
 rw [es]
 unfold zea at hb
 have q0 := fun t => zjq h1 h2 h3 ⟨b,true⟩ t l.length 1 (by show b.length + 4 ≤ _; omega) (by omega)
 have l0 := z5 l.length 1 ⟨b,true⟩
 simp only at l0
 (refine Todo.of ?_); (repeat' (first | ((with_reducible refine Todo.to ?_); (repeat (simp only [↓rP,rT,rU,zc,dval,za,zg,zb,DV.one,alive,cellsOf,Nat.reduceEqDiff,↓reduceIte,reduceCtorEq,forall_const,zfv,q0,zdt,hx_b,List.append_assoc,Nat.add_zero ])))))
 refine zad l (fun k (a : SW × List DObj) => ⟨[(2,.ptr hp.length 1 0 0),(11,.sl (l.map cPrt)),(12,.int .i64 l.length),(13,.int .i64 k)],hx true hp n m a.1 ++ (⟨.loc,1,[[.ptr n 1 0 0]]⟩ :: a.2)⟩) (fun k r a => a.1.b.length + (r.map zvp).sum ≤ 4294967000 ∧ r.foldl zu3 a.1 = zc4 l ⟨b,true⟩) (zaf l.length 1 ⟨b,true⟩,[]) trivial (by simp only [zn,List.map_cons,List.map_nil,zd,Nk.get_nil,Nat.reduceEqDiff,↓reduceIte] <;> rfl) ⟨by simp only; omega,rfl⟩ (fun k e r a d hge hd hr => ?_) fun k a hk hr => ?_
 · obtain ⟨s,t⟩ := a
   obtain ⟨hr1,hr2⟩ := hr
   simp only [List.map_cons,List.sum_cons] at hr1
   have wk := zci d (by omega)
   have hrow := za8 cPrt hge
   have he := hty e (List.mem_of_getElem? hge)
   obtain ⟨nm,⟨tk,te,tn⟩⟩ := e
   simp only [zvp] at hr1 he
   have l1 := zbt nm s
   have l2 := zll ⟨tk,te,tn⟩ (zau nm s)
   have q1 := fun t => zyp h1 h2 h3 s t nm (by omega)
   have q2 := fun t => hx_ty h1 h2 h3 (zau nm s) t ⟨tk,te,tn⟩ (by omega) he
   (refine Todo.of ?_); (repeat' (first | ((with_reducible refine Todo.to ?_); (repeat (simp only [↓rP,rT,rU,zc,dval,dBin,dInt,zg,zb,zo,DV.one,alive,cellsOf,zf,Nat.reduceEqDiff,Nat.reduceAdd,↓reduceIte,reduceCtorEq,Nat.reduceLeDiff,Nat.reduceLT,forall_const,d,wk,hrow,q1,q2,zdt,hx_b,hx_e,hx_se,List.append_assoc,Nat.add_zero ]))) | ((with_reducible refine And.intro ?_ ?_); · omega) | fail))
   exact ⟨(zu3 s ⟨nm,⟨tk,te,tn⟩⟩,t ++ [⟨.loc,4,[[.str nm,.int .i64 tk,.int .i64 te,.int .i64 tn]]⟩]),by simp only [zn,List.map_cons,List.map_nil,zd,Nk.get_nil,Nat.reduceEqDiff,↓reduceIte,Nat.succ_ne_self,Int.natCast_add,Int.natCast_one] <;> rfl,by unfold zu3; simp only; omega,hr2⟩
 · have d : ¬ k < l.length := by omega
   have e : a.1 = zc4 l ⟨b,true⟩ := hr.2
   (refine Todo.of ?_); (repeat' (first | ((with_reducible refine Todo.to ?_); (repeat (simp only [↓rP,rT,rU,zc,dval,dBin,dInt,retV,retL,Nat.reduceEqDiff,↓reduceIte,d,zdt ]))) | ((with_reducible refine And.intro ?_ ?_); · trivial) | fail))
   rw [e]
   exact ⟨⟨_,rfl⟩,zwn h1 h2⟩
noncomputable def zyb : List DV → List DObj → Res := zee (rW true aEns) (fun x => (x.b.length + 4 * x.v.loc.length ≤ 4294967000 ∧ x.v.loc.length ≤ 1000000000 ∧ ∀ k ∈ x.v.loc,zbd k,.tup [])) (fun x hp => hx true hp x.n x.m (zff x.v.loc ⟨x.b,true⟩))
theorem z6h {hp : List DObj} {n m : Nat} {b : List UInt8} (x : Img) (h : isW true hp n m (some b)) :
   zyb [.agg [.ptr n 1 0 0],.agg (cImg x)] hp = ⟨b.length + 4 * x.loc.length ≤ 4294967000 ∧ x.loc.length ≤ 1000000000 ∧ ∀ k ∈ x.loc,zbd k,.tup [],hx true hp n m (zff x.loc ⟨b,true⟩)⟩ :=
 za5 (x := ⟨n,m,b,x⟩) (rW_u ya0) ⟨rfl,h⟩
theorem zjz : OkH Tryz.prog 55 zyb := by
 refine OkH.mkG (ps := []) (hs := [(20,ze4)]) trivial ⟨zhu,trivial⟩ zkx (fun x a hp h => by rw [h.1]; rfl) (fun w a hp h hp1 => ?_)
 obtain ⟨n,m,b,x⟩ := w
 obtain ⟨rfl,hW⟩ := h
 obtain ⟨hb,hl,hty⟩ := hp1
 simp only at hb hl hty hW ⊢
 
 have h1 := zh9 hW
 have h2 := zi2 hW
 have h3 := hW.2.2
 have es : (⟨za 0 (aEns n x),hp⟩ : DS) = ⟨za 0 [.agg [.ptr n 1 0 0],.agg (cImg x)],hx true hp n m ⟨b,true⟩ ++ []⟩ := by rw [List.append_nil,zpw hW]; rfl
 rw [es]
 obtain ⟨en,ins,outs,slots,l,code⟩ := x
 simp only at hb hl hty ⊢
 have q0 := fun t => zjq h1 h2 h3 ⟨b,true⟩ t l.length 2 (by show b.length + 4 ≤ _; omega) (by omega)
 have l0 := z5 l.length 2 ⟨b,true⟩
 simp only at l0
 (have hcondQ := Bool.and_self; refine Todo.of ?_); (repeat' (first | ((with_reducible refine Todo.to ?_); (repeat (simp only [↓rP,rT,rU,zc,dval,za,zg,zb,DV.immB,DV.one,alive,cellsOf,Nat.reduceEqDiff,Nat.reduceAdd,↓reduceIte,reduceCtorEq,Nat.reduceLT,forall_const,zfa,zbq,q0,zdt,hx_b,List.append_assoc,Nat.add_zero ,hcondQ])))))
 refine zad l (fun k (s : SW) => ⟨[(2,.ptr hp.length 1 0 0),(13,.sl (ils l)),(14,.int .i64 l.length),(15,.int .i64 k)],hx true hp n m s ++ [⟨.loc,1,[[.ptr n 1 0 0]]⟩]⟩) (fun k r s => s.b.length + 4 * r.length ≤ 4294967100 ∧ r.foldl (fun s n => zaf n 2 s) s = zff l ⟨b,true⟩) (zaf l.length 2 ⟨b,true⟩) trivial (by simp only [zn,List.map_cons,List.map_nil,zd,Nk.get_nil,Nat.reduceEqDiff,↓reduceIte] <;> rfl) ⟨by omega,rfl⟩ (fun k e r s d hge hd hr => ?_) fun k s hk hr => ?_
 · obtain ⟨hr1,hr2⟩ := hr
   simp only [List.length_cons] at hr1
   have wk := zci d (by omega)
   have hrow := zrt hge
   have he := hty e (List.mem_of_getElem? hge)
   have l1 := z5 e 2 s
   have q1 := fun t => zjq h1 h2 h3 s t e 2 (by omega) he.2
   (refine Todo.of ?_); (repeat' (first | ((with_reducible refine Todo.to ?_); (repeat (simp only [↓rP,rT,rU,zc,dval,dBin,dInt,zg,zb,alive,Nat.reduceEqDiff,↓reduceIte,reduceCtorEq,zbq,d,wk,hrow,q1,hx_b,Nat.add_zero ]))) | ((with_reducible refine And.intro ?_ ?_); · omega) | fail))
   exact ⟨zaf e 2 s,by simp only [zn,List.map_cons,List.map_nil,zd,Nk.get_nil,Nat.reduceEqDiff,↓reduceIte,Nat.succ_ne_self,Int.natCast_add,Int.natCast_one] <;> rfl,by omega,hr2⟩
 · have d : ¬ k < l.length := by omega
   have e : s = zff l ⟨b,true⟩ := hr.2
   (refine Todo.of ?_); (repeat' (first | ((with_reducible refine Todo.to ?_); (repeat (simp only [↓rP,rT,rU,zc,dval,dBin,dInt,retV,retL,Nat.reduceEqDiff,↓reduceIte,d,zdt ]))) | ((with_reducible refine And.intro ?_ ?_); · trivial) | fail))
   rw [e]
   exact ⟨⟨_,rfl⟩,zwn h1 h2⟩
end Go.Proofs.YtfaailjhioobhaaGreat
set_option linter.all false
set_option maxRecDepth 20000
namespace Go.Proofs.YtfaailjhioobhaaGreat
open Go.Nk
def zna (s : SW) (x : Slt) : SW := zwl x.ini (zaf x.ini.length 1 (stTy x.ty (zau x.path s)))
def zd2 (a : SW × Int) (x : Slt) : SW × Int := (if x.at_ = a.2 then zna a.1 x else zaf (-1) 1 (zna a.1 x),a.2 + zbh x.ty)
def zed (l : List Slt) (s : SW) : SW := (l.foldl zd2 (zaf l.length 1 s,0)).1
def zo0 (x : Slt) : Nat := x.path.length + 40 + 12 * x.ini.length
def zhe (l : List Slt) : Nat := (l.map zo0).sum + 4
theorem z0f (t : Ty) : 1 ≤ zbh t ∧ zbh t ≤ 8 := by unfold zbh; split <;> (try split) <;> omega
theorem zvx : ∀ (l : List Int) (s : SW),(zwl l s).b.length ≤ s.b.length + 12 * l.length
 | [],s => Nat.le_refl _
 | c :: l,s => by
   have h1 := zvx l (zu9 c s)
   have h2 := zun c s
   show (zwl l (zu9 c s)).b.length ≤ _
   simp only [List.length_cons]
   omega
theorem zt3 (a : SW × Int) (x : Slt) : (zd2 a x).1.b.length ≤ a.1.b.length + zo0 x := by
 have h1 := zbt x.path a.1
 have h2 := zll x.ty (zau x.path a.1)
 have h3 := z5 x.ini.length 1 (stTy x.ty (zau x.path a.1))
 have h4 := zvx x.ini (zaf x.ini.length 1 (stTy x.ty (zau x.path a.1)))
 have h5 := z5 (-1) 1 (zna a.1 x)
 unfold zd2 zo0
 simp only
 split
 · unfold zna; omega
 · unfold zna at h5 ⊢; omega
noncomputable def zw9 : List DV → List DObj → Res := zee (rW true aEns) (fun x => (x.b.length + zhe x.v.slots ≤ 4294967000 ∧ x.v.slots.length ≤ 1000000000 ∧ ∀ p ∈ x.v.slots,ok3 p.ty ∧ p.ini.length ≤ 1000000000 ∧ ∀ n ∈ p.ini,zbd n,.tup [])) (fun x hp => hx true hp x.n x.m (zed x.v.slots ⟨x.b,true⟩))
theorem z7o {hp : List DObj} {n m : Nat} {b : List UInt8} (x : Img) (h : isW true hp n m (some b)) :
   zw9 [.agg [.ptr n 1 0 0],.agg (cImg x)] hp = ⟨b.length + zhe x.slots ≤ 4294967000 ∧ x.slots.length ≤ 1000000000 ∧ ∀ p ∈ x.slots,ok3 p.ty ∧ p.ini.length ≤ 1000000000 ∧ ∀ n ∈ p.ini,zbd n,.tup [],hx true hp n m (zed x.slots ⟨b,true⟩)⟩ :=
 za5 (x := ⟨n,m,b,x⟩) (rW_u ya0) ⟨rfl,h⟩
theorem zlb : OkH Tryz.prog 54 zw9 := by
 refine OkH.mkG (ps := [(88,zf8)]) (hs := [(20,ze4),(105,zti),(107,zwi),(106,s_wTy)]) ⟨zvy,trivial⟩ ⟨zhu,zyq,z73,zhi,trivial⟩ zmh (fun x a hp h => by rw [h.1]; rfl) (fun w a hp h hp1 => ?_)
 obtain ⟨n,m,b,x⟩ := w
 obtain ⟨rfl,hW⟩ := h
 obtain ⟨hb,hl,hty⟩ := hp1
 simp only at hb hl hty hW ⊢
 
 have h1 := zh9 hW
 have h2 := zi2 hW
 have h3 := hW.2.2
 have es : (⟨za 0 (aEns n x),hp⟩ : DS) = ⟨za 0 [.agg [.ptr n 1 0 0],.agg (cImg x)],hx true hp n m ⟨b,true⟩ ++ []⟩ := by rw [List.append_nil,zpw hW]; rfl
 rw [es]
 obtain ⟨en,ins,outs,l,loc,code⟩ := x
 simp only at hb hl hty ⊢
 unfold zhe at hb
 have q0 := fun t => zjq h1 h2 h3 ⟨b,true⟩ t l.length 1 (by show b.length + 4 ≤ _; omega) (by omega)
 have l0 := z5 l.length 1 ⟨b,true⟩
 simp only at l0
 (have hcondQ := Bool.and_self; refine Todo.of ?_); (repeat' (first | ((with_reducible refine Todo.to ?_); (repeat (simp only [↓rP,rT,rU,zc,dval,za,zg,zb,DV.immB,DV.one,alive,cellsOf,Nat.reduceEqDiff,Nat.reduceAdd,↓reduceIte,reduceCtorEq,Nat.reduceLT,Int.reduceNeg,forall_const,zfs,q0,zdt,hx_b,List.append_assoc,Nat.add_zero ,hcondQ])))))
 refine zad l (fun k (a : (SW × Int) × List DObj) => ⟨[(2,.ptr hp.length 1 0 0),(4,.int .i64 a.1.2),(16,.sl (l.map cSlt)),(17,.int .i64 l.length),(18,.int .i64 k)],hx true hp n m a.1.1 ++ (⟨.loc,1,[[.ptr n 1 0 0]]⟩ :: a.2)⟩)
   (fun k r a => a.1.1.b.length + (r.map zo0).sum ≤ 4294967000 ∧ r.foldl zd2 a.1 = l.foldl zd2 (zaf l.length 1 ⟨b,true⟩,0) ∧ 0 ≤ a.1.2 ∧ a.1.2 ≤ 8 * (k : Int)) ((zaf l.length 1 ⟨b,true⟩,0),[]) trivial (by simp only [zn,List.map_cons,List.map_nil,zd,Nk.get_nil,Nat.reduceEqDiff,↓reduceIte] <;> rfl) ⟨by simp only; omega,rfl,by simp only; omega,by simp only; omega⟩ (fun k e r a d hge hd hr => ?_) fun k a hk hr => ?_
 · obtain ⟨⟨s,at_⟩,t⟩ := a
   obtain ⟨hr1,hr2,hr3,hr4⟩ := hr
   simp only [List.map_cons,List.sum_cons] at hr1 hr3 hr4
   have wk := zci d (by omega)
   have hrow := za8 cSlt hge
   obtain ⟨he,hi1,hi2⟩ := hty e (List.mem_of_getElem? hge)
   have cr := z0f e.ty
   have ec := zg9 e.ty
   have lS := zt3 (s,at_) e
   obtain ⟨nm,⟨tk,te,tn⟩,ea,ini⟩ := e
   simp only [zo0] at hr1 he hi1 hi2 cr ec lS
   have wa : IntKind.i64.wrap (at_ + zbh ⟨tk,te,tn⟩) = at_ + zbh ⟨tk,te,tn⟩ := zt (by omega)
   have l1 := zbt nm s
   have l2 := zll ⟨tk,te,tn⟩ (zau nm s)
   have l3 := z5 ini.length 1 (stTy ⟨tk,te,tn⟩ (zau nm s))
   have q1 := fun t => zyp h1 h2 h3 s t nm (by omega)
   have q2 := fun t => hx_ty h1 h2 h3 (zau nm s) t ⟨tk,te,tn⟩ (by omega) he
   have q3 := fun t => zjq h1 h2 h3 (stTy ⟨tk,te,tn⟩ (zau nm s)) t ini.length 1 (by omega) (by omega)
   (refine Todo.of ?_); (repeat' (first | ((with_reducible refine Todo.to ?_); (repeat (simp only [↓rP,rT,rU,zc,dval,dBin,dInt,zg,zb,zo,DV.one,alive,cellsOf,zf,Nat.reduceEqDiff,Nat.reduceAdd,↓reduceIte,reduceCtorEq,Nat.reduceLeDiff,Nat.reduceLT,Int.reduceNeg,forall_const,zbq,d,hrow,q1,q2,q3,zdt,hx_b,hx_e,hx_se,List.append_assoc,Nat.add_zero ]))) | ((with_reducible refine And.intro ?_ ?_); · omega) | fail))
   refine zad ini (fun j (s' : SW) => ⟨[(2,.ptr hp.length 1 0 0),(4,.int .i64 at_),(6,.ptr (hp.length + (t.length + 1)) 1 0 0),(16,.sl (l.map cSlt)),(17,.int .i64 l.length),(18,.int .i64 k),(38,.sl (ils ini)),(39,.int .i64 ini.length),(40,.int .i64 j)],
       hx true hp n m s' ++ (⟨.loc,1,[[.ptr n 1 0 0]]⟩ :: (t ++ [⟨.loc,6,[[.str nm,.int .i64 tk,.int .i64 te,.int .i64 tn,.int .i64 ea,.sl (ils ini)]]⟩]))⟩) (fun j q s' => s'.b.length + 12 * q.length + 10 + (r.map zo0).sum ≤ 4294967000 ∧ zwl q s' = zna s ⟨nm,⟨tk,te,tn⟩,ea,ini⟩) (zaf ini.length 1 (stTy ⟨tk,te,tn⟩ (zau nm s))) trivial (by simp only [zn,List.map_cons,List.map_nil,zd,Nk.get_nil,Nat.reduceEqDiff,↓reduceIte,Nat.succ_ne_self] <;> rfl) ⟨by omega,rfl⟩ (fun j c q s' dj hgj hdj hq => ?_) fun j s' hj hq => ?_
   · obtain ⟨hq1,hq2⟩ := hq
     simp only [List.length_cons] at hq1
     have wj := zci dj (by omega)
     have hrj := zrt hgj
     have l3 := zun c s'
     have q3 := fun t => hx_int h1 h2 h3 s' t c (by omega) (hi2 c (List.mem_of_getElem? hgj))
     (refine Todo.of ?_); (repeat' (first | ((with_reducible refine Todo.to ?_); (repeat (simp only [↓rP,rT,rU,zc,dval,dBin,dInt,zg,zb,alive,Nat.reduceEqDiff,↓reduceIte,reduceCtorEq,Int.reduceNeg,zbq,dj,wj,hrj,q3,hx_b,Nat.add_zero ]))) | ((with_reducible refine And.intro ?_ ?_); · omega) | fail))
     exact ⟨zu9 c s',by simp only [zn,List.map_cons,List.map_nil,zd,Nk.get_nil,Nat.reduceEqDiff,↓reduceIte,Nat.succ_ne_self,Int.natCast_add,Int.natCast_one] <;> rfl,by omega,hq2⟩
   · obtain ⟨hq1,hq2⟩ := hq
     have hq2 : s' = zna s ⟨nm,⟨tk,te,tn⟩,ea,ini⟩ := hq2
     have dj : ¬ j < ini.length := by omega
     subst hq2
     have q4 := fun t => zjq h1 h2 h3 (zna s ⟨nm,⟨tk,te,tn⟩,ea,ini⟩) t (-1) 1 (by omega) (by omega)
     by_cases eq : ea = at_
     · subst eq
       (refine Todo.of ?_); (repeat' (first | ((with_reducible refine Todo.to ?_); (repeat (simp only [↓rP,rT,rU,zc,dval,dBin,dInt,zg,zb,DV.immB,zp,zq,z1,zz,za4,zu,z6,alive,Nat.reduceEqDiff,Nat.reduceAdd,↓reduceIte,reduceCtorEq,Nat.reduceLeDiff,Nat.reduceLT,Int.reduceNeg,dj,wk,ec,wa,hx_e ])))))
       exact ⟨(zd2 (s,ea) ⟨nm,⟨tk,te,tn⟩,ea,ini⟩,t ++ [⟨.loc,6,[[.str nm,.int .i64 tk,.int .i64 te,.int .i64 tn,.int .i64 ea,.sl (ils ini)]]⟩]),by simp only [zd2,if_true]; exact by simp only [zn,List.map_cons,List.map_nil,zd,Nk.get_nil,Nat.reduceEqDiff,↓reduceIte,Nat.succ_ne_self,Int.natCast_add,Int.natCast_one] <;> rfl,by simp only; omega,hr2,by simp only [zd2]; omega,by simp only [zd2]; omega⟩
     · (have hcondQ := Bool.and_self; refine Todo.of ?_); (repeat' (first | ((with_reducible refine Todo.to ?_); (repeat (simp only [↓rP,rT,rU,zc,dval,dBin,dInt,zg,zb,DV.immB,zp,zq,z1,zz,za4,zu,z6,alive,Nat.reduceEqDiff,Nat.reduceAdd,↓reduceIte,reduceCtorEq,Nat.reduceLeDiff,Nat.reduceLT,Int.reduceNeg,dj,wk,ec,wa,q4,hx_b,hx_e,hcondQ]))) | (((((with_reducible refine zw (t := ?_) ?_ (fun hcQ => ?_) (fun hcQ => ?_)); rotate_left; · (rfl))) <;> (have hn := hcQ; have hcondQ := hcQ) <;> (try simp only [bne_iff_ne,ne_eq,bne_eq_false_iff_eq] at hn) <;> (try (exfalso; omega)) <;> (refine Todo.of ?_))) | fail))
       exact ⟨(zd2 (s,at_) ⟨nm,⟨tk,te,tn⟩,ea,ini⟩,t ++ [⟨.loc,6,[[.str nm,.int .i64 tk,.int .i64 te,.int .i64 tn,.int .i64 ea,.sl (ils ini)]]⟩]),by simp only [zd2,if_neg eq]; exact by simp only [zn,List.map_cons,List.map_nil,zd,Nk.get_nil,Nat.reduceEqDiff,↓reduceIte,Nat.succ_ne_self,Int.natCast_add,Int.natCast_one] <;> rfl,by simp only; omega,hr2,by simp only [zd2]; omega,by simp only [zd2]; omega⟩
 · have d : ¬ k < l.length := by omega
   have e : a.1.1 = zed l ⟨b,true⟩ := by have := hr.2.1; unfold zed; rw [← this]; rfl
   (refine Todo.of ?_); (repeat' (first | ((with_reducible refine Todo.to ?_); (repeat (simp only [↓rP,rT,rU,zc,dval,dBin,dInt,retV,retL,Nat.reduceEqDiff,↓reduceIte,Int.reduceNeg,d,zdt ]))) | ((with_reducible refine And.intro ?_ ?_); · trivial) | fail))
   rw [e]
   exact ⟨⟨_,rfl⟩,zwn h1 h2⟩
end Go.Proofs.YtfaailjhioobhaaGreat
set_option linter.all false
set_option maxRecDepth 20000
namespace Go.Proofs.YtfaailjhioobhaaGreat
open Go.Nk
def nw (hp : List DObj) (s : SW) : List DObj := hp ++ [⟨.loc,2,[rowW false (hp.length + 1) s]⟩,⟨.imm,1,bsl s.b⟩]
theorem nw_hx (hp : List DObj) (o1 o2 : DObj) (s : SW) : hx false (hp ++ [o1,o2]) hp.length (hp.length + 1) s = nw hp s := by
 unfold hx nw
 rw [List.set_append_right _ _ (by omega),List.set_append_right _ _ (by omega)]
 simp
theorem zzd (hp : List DObj) (s : SW) : nw hp s = hx false (hp ++ [⟨.imm,0,[]⟩,⟨.imm,0,[]⟩]) hp.length (hp.length + 1) s ++ [] := by rw [nw_hx,List.append_nil]
theorem zrg (hp : List DObj) (s : SW) (k z : Int) (hb : s.b.length + 4 ≤ 4294967296) (hk : k < 9223372036854775808) : zd5 [.ptr hp.length 1 0 0,.int .i64 k,.int .i64 z] (nw hp s) = ⟨True,.tup [],nw hp (zaf k z s)⟩ := by
 rw [zzd,zzd,ztj (by simp) (by simp) (by omega) s [] k z hb hk]
theorem zxd (hp : List DObj) (s : SW) (c : List UInt8) (hb : s.b.length + c.length + 20 ≤ 4294967296) : zqv [.ptr hp.length 1 0 0,.str c] (nw hp s) = ⟨True,.tup [],nw hp (zau c s)⟩ := by
 rw [zzd,zzd,hu_text (by simp) (by simp) (by omega) s [] c hb]
theorem nw_int (hp : List DObj) (s : SW) (x : Int) (hb : s.b.length + 20 ≤ 4294967296) (hx' : zbd x) : zrd [.ptr hp.length 1 0 0,.int .i64 x] (nw hp s) = ⟨True,.tup [],nw hp (zu9 x s)⟩ := by
 rw [zzd,zzd,hu_int' (by simp) (by simp) (by omega) s [] x hb hx']
theorem nw_ty (hp : List DObj) (s : SW) (v : Ty) (hb : s.b.length + 12 ≤ 4294967296) (hv : ok3 v) : yaf [.ptr hp.length 1 0 0,.agg (cTy v)] (nw hp s) = ⟨True,.tup [],nw hp (stTy v s)⟩ := by
 rw [zzd,zzd,hu_ty (by simp) (by simp) (by omega) s [] v hb hv]
theorem z5j (hp : List DObj) (o : DObj) : (hp ++ [o]).set hp.length ⟨.loc,2,[[.own (hp.length + 1) 0 0 0,.bool false]]⟩ ++ [⟨.imm,1,[]⟩] = nw hp ⟨[],true⟩ := by
 rw [List.set_append_right _ _ (Nat.le_refl _)]
 simp [nw,rowW,bsl]
def rN {β : Type} (e : β → DV) (x : Nat × β) (a : List DV) (hp : List DObj) : Prop := a = [e x.2] ∧ x.1 = hp.length
theorem rN_u {β : Type} {e : β → DV} (he : Inj e) : ∀ x y a hp,rN e x a hp → rN e y a hp → x = y := by
 rintro ⟨n,v⟩ ⟨n',v'⟩ a hp ⟨h1,h2⟩ ⟨h3,h4⟩
 simp only at h1 h2 h3 h4
 subst h2; subst h4
 have := he _ _ (List.cons.inj (h1.symm.trans h3)).1
 rw [this]
def eEnsL (l : List En) : DV := .sl (l.map cEn)
theorem inj_EnsL : Inj eEnsL := yaq z9q
noncomputable def z90 : List DV → List DObj → Res := zee (rN eEnsL) (fun x => (zow x.2 ≤ 4294967000 ∧ x.2.length ≤ 1000000000 ∧ ∀ e ∈ x.2,e.ct.length ≤ 1000000000,.ptr x.1 1 0 0)) (fun x hp => nw hp (zkz x.2 ⟨[],true⟩))
theorem z8w (hp : List DObj) (l : List En) : z90 [.sl (l.map cEn)] hp = ⟨zow l ≤ 4294967000 ∧ l.length ≤ 1000000000 ∧ ∀ e ∈ l,e.ct.length ≤ 1000000000,.ptr hp.length 1 0 0,nw hp (zkz l ⟨[],true⟩)⟩ :=
 za5 (x := (hp.length,l)) (rN_u inj_EnsL) ⟨rfl,rfl⟩
theorem znb : OkH Tryz.prog 26 z90 := by
 refine OkH.mkGH (ps := []) (hs := [(30,zd5),(67,zqv)]) trivial ⟨zhs,zxk,trivial⟩ zpd (fun x a hp h => by rw [h.1]; rfl) (fun w a hp h hp1 => ?_)
 obtain ⟨n,l⟩ := w
 obtain ⟨rfl,hn⟩ := h
 obtain ⟨hb,hl,hct⟩ := hp1
 simp only at hb hl hct hn ⊢
 subst hn
 
 simp only [eEnsL]
 unfold zow at hb
 (refine Todo.of ?_); (repeat' (first | ((with_reducible refine Todo.to ?_); (repeat (simp only [↓rP,rT,rU,zj,zc,dval,za,DV.one,cellsOf,Nat.reduceAdd,↓reduceIte,forall_const,zg5 ])))))
 refine za9 ?_
 have q0 := zrg hp ⟨[],true⟩ l.length 1 (by simp) (by omega)
 have l0 := z5 l.length 1 ⟨[],true⟩
 simp only [List.length_nil,Nat.zero_add] at l0
 (refine Todo.of ?_); (repeat' (first | ((with_reducible refine Todo.to ?_); (repeat (simp only [↓rP,rT,rU,zc,dval,Nat.reduceEqDiff,↓reduceIte,reduceCtorEq,z5j,q0,zuo ])))))
 refine zad l (fun k (s : SW) => ⟨[(0,.sl (l.map cEn)),(3,.ptr hp.length 1 0 0),(4,.int .i64 k)],nw hp s⟩) (fun k r s => s.b.length + (r.map szEn).sum ≤ 4294967000 ∧ r.foldl stEn s = zkz l ⟨[],true⟩) (zaf l.length 1 ⟨[],true⟩) trivial (by simp only [zn,List.map_cons,List.map_nil,zd,Nk.get_nil,Nat.reduceEqDiff,↓reduceIte,reduceCtorEq] <;> rfl) ⟨by omega,rfl⟩ (fun k e r s d hge hd hr => ?_) fun k s hk hr => ?_
 · obtain ⟨hr1,hr2⟩ := hr
   simp only [List.map_cons,List.sum_cons] at hr1
   have wk := zci d (by omega)
   have hrow := za8 cEn hge
   have he := hct e (List.mem_of_getElem? hge)
   obtain ⟨nm,ct⟩ := e
   simp only [szEn] at hr1 he
   have l1 := zbt nm s
   have l2 := z5 ct.length 1 (zau nm s)
   have q1 := zxd hp s nm (by omega)
   have q2 := zrg hp (zau nm s) ct.length 1 (by omega) (by omega)
   (refine Todo.of ?_); (repeat' (first | ((with_reducible refine Todo.to ?_); (repeat (simp only [↓rP,rT,rU,zc,dval,dBin,dInt,zg,zb,Nat.reduceEqDiff,Nat.reduceAdd,↓reduceIte,reduceCtorEq,Nat.reduceLT,zek,d,hrow,q1,q2 ]))) | ((with_reducible refine And.intro ?_ ?_); · omega) | fail))
   refine zad ct (fun j (s' : SW) => ⟨[(0,.sl (l.map cEn)),(3,.ptr hp.length 1 0 0),(4,.int .i64 k),(5,.int .i64 j)],nw hp s'⟩) (fun j q s' => s'.b.length + szCt q + (r.map szEn).sum ≤ 4294967000 ∧ stCt q s' = stEn s ⟨nm,ct⟩) (zaf ct.length 1 (zau nm s)) trivial (by simp only [zn,List.map_cons,List.map_nil,zd,Nk.get_nil,Nat.reduceEqDiff,↓reduceIte,Nat.succ_ne_self,reduceCtorEq] <;> rfl) ⟨by omega,rfl⟩ (fun j c q s' dj hgj hdj hq => ?_) fun j s' hj hq => ?_
   · obtain ⟨hq1,hq2⟩ := hq
     rw [zur] at hq1
     have wj := zci dj (by omega)
     have hrj := sls_at hgj
     have l3 := zbt c s'
     have q3 := zxd hp s' c (by omega)
     (refine Todo.of ?_); (repeat' (first | ((with_reducible refine Todo.to ?_); (repeat (simp only [↓rP,rT,rU,zc,dval,dBin,dInt,zg,zb,Nat.reduceEqDiff,Nat.reduceAdd,↓reduceIte,reduceCtorEq,zek,d,hrow,dj,wj,hrj,q3 ]))) | ((with_reducible refine And.intro ?_ ?_); · omega) | fail))
     exact ⟨zau c s',by simp only [zn,List.map_cons,List.map_nil,zd,Nk.get_nil,Nat.reduceEqDiff,↓reduceIte,Nat.succ_ne_self,reduceCtorEq,Int.natCast_add,Int.natCast_one] <;> rfl,by omega,hq2⟩
   · obtain ⟨hq1,hq2⟩ := hq
     have hq2 : s' = stEn s ⟨nm,ct⟩ := hq2
     have dj : ¬ j < ct.length := by omega
     subst hq2
     (refine Todo.of ?_); (repeat' (first | ((with_reducible refine Todo.to ?_); (repeat (simp only [↓rP,rT,rU,zc,dval,dBin,dInt,zg,zb,Nat.reduceEqDiff,Nat.reduceAdd,↓reduceIte,reduceCtorEq,zek,d,hrow,dj,wk ]))) | ((with_reducible refine And.intro ?_ ?_); · omega) | fail))
     exact ⟨stEn s ⟨nm,ct⟩,by simp only [zn,List.map_cons,List.map_nil,zd,Nk.get_nil,Nat.reduceEqDiff,↓reduceIte,reduceCtorEq,Int.natCast_add,Int.natCast_one] <;> rfl,by simp only [szCt,List.map_nil,List.sum_nil] at hq1; omega,hr2⟩
 · have d : ¬ k < l.length := by omega
   have e : s = zkz l ⟨[],true⟩ := hr.2
   subst e
   (refine Todo.of ?_); (repeat' (first | ((with_reducible refine Todo.to ?_); (repeat (simp only [↓rP,rT,rU,zc,dval,dBin,dInt,retV,DR.val,Nat.reduceEqDiff,↓reduceIte,reduceCtorEq,d ])))))
end Go.Proofs.YtfaailjhioobhaaGreat
set_option linter.all false
set_option maxRecDepth 20000
namespace Go.Proofs.YtfaailjhioobhaaGreat
open Go.Nk
def ePrtL (l : List Prt) : DV := .sl (l.map cPrt)
theorem inj_PrtL : Inj ePrtL := yaq zsq
noncomputable def z2f : List DV → List DObj → Res := zee (rN ePrtL) (fun x => (zea x.2 ≤ 4294967000 ∧ x.2.length ≤ 1000000000 ∧ ∀ e ∈ x.2,ok3 e.ty,.ptr x.1 1 0 0)) (fun x hp => nw hp (zc4 x.2 ⟨[],true⟩))
theorem zwf (hp : List DObj) (l : List Prt) : z2f [.sl (l.map cPrt)] hp = ⟨zea l ≤ 4294967000 ∧ l.length ≤ 1000000000 ∧ ∀ e ∈ l,ok3 e.ty,.ptr hp.length 1 0 0,nw hp (zc4 l ⟨[],true⟩)⟩ :=
 za5 (x := (hp.length,l)) (rN_u inj_PrtL) ⟨rfl,rfl⟩
theorem znu : OkH Tryz.prog 27 z2f := by
 refine OkH.mkGH (ps := []) (hs := [(30,zd5),(67,zqv),(68,yaf)]) trivial ⟨zhs,zxk,zju,trivial⟩ zot (fun x a hp h => by rw [h.1]; rfl) (fun w a hp h hp1 => ?_)
 obtain ⟨n,l⟩ := w
 obtain ⟨rfl,hn⟩ := h
 obtain ⟨hb,hl,hty⟩ := hp1
 simp only at hb hl hty hn ⊢
 subst hn
 
 simp only [ePrtL]
 unfold zea at hb
 (refine Todo.of ?_); (repeat' (first | ((with_reducible refine Todo.to ?_); (repeat (simp only [↓rP,rT,rU,zj,zc,dval,za,DV.one,cellsOf,Nat.reduceAdd,↓reduceIte,forall_const,zg2 ])))))
 refine za9 ?_
 have q0 := zrg hp ⟨[],true⟩ l.length 1 (by simp) (by omega)
 have l0 := z5 l.length 1 ⟨[],true⟩
 simp only [List.length_nil,Nat.zero_add] at l0
 (refine Todo.of ?_); (repeat' (first | ((with_reducible refine Todo.to ?_); (repeat (simp only [↓rP,rT,rU,zc,dval,Nat.reduceEqDiff,↓reduceIte,reduceCtorEq,z5j,q0,zuo ])))))
 refine zad l (fun k (s : SW) => ⟨[(0,.sl (l.map cPrt)),(3,.ptr hp.length 1 0 0),(4,.int .i64 k)],nw hp s⟩) (fun k r s => s.b.length + (r.map zvp).sum ≤ 4294967000 ∧ r.foldl zu3 s = zc4 l ⟨[],true⟩) (zaf l.length 1 ⟨[],true⟩) trivial (by simp only [zn,List.map_cons,List.map_nil,zd,Nk.get_nil,Nat.reduceEqDiff,↓reduceIte,reduceCtorEq] <;> rfl) ⟨by omega,rfl⟩ (fun k e r s d hge hd hr => ?_) fun k s hk hr => ?_
 · obtain ⟨hr1,hr2⟩ := hr
   simp only [List.map_cons,List.sum_cons] at hr1
   have wk := zci d (by omega)
   have hrow := za8 cPrt hge
   have he := hty e (List.mem_of_getElem? hge)
   obtain ⟨nm,⟨tk,te,tn⟩⟩ := e
   simp only [zvp] at hr1 he
   have l1 := zbt nm s
   have l2 := zll ⟨tk,te,tn⟩ (zau nm s)
   have q1 := zxd hp s nm (by omega)
   have q2 := nw_ty hp (zau nm s) ⟨tk,te,tn⟩ (by omega) he
   (refine Todo.of ?_); (repeat' (first | ((with_reducible refine Todo.to ?_); (repeat (simp only [↓rP,rT,rU,zc,dval,dBin,dInt,zg,zb,Nat.reduceEqDiff,Nat.reduceAdd,↓reduceIte,reduceCtorEq,Nat.reduceLeDiff,Nat.reduceLT,d,wk,hrow,q1,q2 ]))) | ((with_reducible refine And.intro ?_ ?_); · omega) | fail))
   exact ⟨zu3 s ⟨nm,⟨tk,te,tn⟩⟩,by simp only [zn,List.map_cons,List.map_nil,zd,Nk.get_nil,Nat.reduceEqDiff,↓reduceIte,reduceCtorEq,Int.natCast_add,Int.natCast_one] <;> rfl,by unfold zu3; simp only; omega,hr2⟩
 · have d : ¬ k < l.length := by omega
   have e : s = zc4 l ⟨[],true⟩ := hr.2
   subst e
   (refine Todo.of ?_); (repeat' (first | ((with_reducible refine Todo.to ?_); (repeat (simp only [↓rP,rT,rU,zc,dval,dBin,dInt,retV,DR.val,Nat.reduceEqDiff,↓reduceIte,reduceCtorEq,d ])))))
def eIlsL (l : List Int) : DV := .sl (ils l)
theorem inj_IlsL : Inj eIlsL := fun _ _ h => z2x (by simpa [eIlsL] using h)
noncomputable def z2q : List DV → List DObj → Res := zee (rN eIlsL) (fun x => (4 * x.2.length ≤ 4294967000 ∧ ∀ e ∈ x.2,zbd e,.ptr x.1 1 0 0)) (fun x hp => nw hp (zff x.2 ⟨[],true⟩))
theorem z60 (hp : List DObj) (l : List Int) : z2q [.sl (ils l)] hp = ⟨4 * l.length ≤ 4294967000 ∧ ∀ e ∈ l,zbd e,.ptr hp.length 1 0 0,nw hp (zff l ⟨[],true⟩)⟩ :=
 za5 (x := (hp.length,l)) (rN_u inj_IlsL) ⟨rfl,rfl⟩
theorem zmb : OkH Tryz.prog 29 z2q := by
 refine OkH.mkGH (ps := []) (hs := [(30,zd5)]) trivial ⟨zhs,trivial⟩ zm8 (fun x a hp h => by rw [h.1]; rfl) (fun w a hp h hp1 => ?_)
 obtain ⟨n,l⟩ := w
 obtain ⟨rfl,hn⟩ := h
 obtain ⟨hb,hty⟩ := hp1
 simp only at hb hty hn ⊢
 subst hn
 
 simp only [eIlsL]
 (refine Todo.of ?_); (repeat' (first | ((with_reducible refine Todo.to ?_); (repeat (simp only [↓rP,rT,rU,zj,zc,dval,za,DV.one,cellsOf,Nat.reduceAdd,↓reduceIte,forall_const,zgp ])))))
 refine za9 ?_
 have q0 := zrg hp ⟨[],true⟩ l.length 2 (by simp) (by omega)
 have l0 := z5 l.length 2 ⟨[],true⟩
 simp only [List.length_nil,Nat.zero_add] at l0
 (refine Todo.of ?_); (repeat' (first | ((with_reducible refine Todo.to ?_); (repeat (simp only [↓rP,rT,rU,zc,dval,Nat.reduceEqDiff,↓reduceIte,reduceCtorEq,zbq,z5j,q0,zuo ])))))
 refine zad l (fun k (s : SW) => ⟨[(0,.sl (ils l)),(3,.ptr hp.length 1 0 0),(4,.int .i64 k)],nw hp s⟩) (fun k r s => s.b.length + 4 * r.length ≤ 4294967100 ∧ r.foldl (fun s n => zaf n 2 s) s = zff l ⟨[],true⟩) (zaf l.length 2 ⟨[],true⟩) trivial (by simp only [zn,List.map_cons,List.map_nil,zd,Nk.get_nil,Nat.reduceEqDiff,↓reduceIte,reduceCtorEq] <;> rfl) ⟨by omega,rfl⟩ (fun k e r s d hge hd hr => ?_) fun k s hk hr => ?_
 · obtain ⟨hr1,hr2⟩ := hr
   simp only [List.length_cons] at hr1
   have wk := zci d (by omega)
   have hrow := zrt hge
   have he := hty e (List.mem_of_getElem? hge)
   have l1 := z5 e 2 s
   have q1 := zrg hp s e 2 (by omega) he.2
   (refine Todo.of ?_); (repeat' (first | ((with_reducible refine Todo.to ?_); (repeat (simp only [↓rP,rT,rU,zc,dval,dBin,dInt,zg,zb,Nat.reduceEqDiff,↓reduceIte,reduceCtorEq,zbq,d,wk,hrow,q1 ]))) | ((with_reducible refine And.intro ?_ ?_); · omega) | fail))
   exact ⟨zaf e 2 s,by simp only [zn,List.map_cons,List.map_nil,zd,Nk.get_nil,Nat.reduceEqDiff,↓reduceIte,reduceCtorEq,Int.natCast_add,Int.natCast_one] <;> rfl,by omega,hr2⟩
 · have d : ¬ k < l.length := by omega
   have e : s = zff l ⟨[],true⟩ := hr.2
   subst e
   (refine Todo.of ?_); (repeat' (first | ((with_reducible refine Todo.to ?_); (repeat (simp only [↓rP,rT,rU,zc,dval,dBin,dInt,retV,DR.val,Nat.reduceEqDiff,↓reduceIte,reduceCtorEq,zbq,d ])))))
end Go.Proofs.YtfaailjhioobhaaGreat
set_option linter.all false
set_option maxRecDepth 20000
namespace Go.Proofs.YtfaailjhioobhaaGreat
open Go.Nk
def eSltL (l : List Slt) : DV := .sl (l.map cSlt)
theorem inj_SltL : Inj eSltL := yaq z4t
noncomputable def z20 : List DV → List DObj → Res := zee (rN eSltL) (fun x => (zhe x.2 ≤ 4294967000 ∧ x.2.length ≤ 1000000000 ∧ ∀ p ∈ x.2,ok3 p.ty ∧ p.ini.length ≤ 1000000000 ∧ ∀ n ∈ p.ini,zbd n,.ptr x.1 1 0 0)) (fun x hp => nw hp (zed x.2 ⟨[],true⟩))
theorem z7q (hp : List DObj) (l : List Slt) : z20 [.sl (l.map cSlt)] hp = ⟨zhe l ≤ 4294967000 ∧ l.length ≤ 1000000000 ∧ ∀ p ∈ l,ok3 p.ty ∧ p.ini.length ≤ 1000000000 ∧ ∀ n ∈ p.ini,zbd n,.ptr hp.length 1 0 0,nw hp (zed l ⟨[],true⟩)⟩ :=
 za5 (x := (hp.length,l)) (rN_u inj_SltL) ⟨rfl,rfl⟩
theorem zne : OkH Tryz.prog 28 z20 := by
 refine OkH.mkGH (ps := [(69,zf8)]) (hs := [(30,zd5),(67,zqv),(66,zrd),(68,yaf)]) ⟨zof,trivial⟩ ⟨zhs,zxk,yan,zju,trivial⟩ zon (fun x a hp h => by rw [h.1]; rfl) (fun w a hp h hp1 => ?_)
 obtain ⟨n,l⟩ := w
 obtain ⟨rfl,hn⟩ := h
 obtain ⟨hb,hl,hty⟩ := hp1
 simp only at hb hl hty hn ⊢
 subst hn
 
 simp only [eSltL]
 unfold zhe at hb
 (refine Todo.of ?_); (repeat' (first | ((with_reducible refine Todo.to ?_); (repeat (simp only [↓rP,rT,rU,zj,zc,dval,za,DV.one,cellsOf,Nat.reduceAdd,↓reduceIte,Int.reduceNeg,forall_const,zgy ])))))
 refine za9 ?_
 have q0 := zrg hp ⟨[],true⟩ l.length 1 (by simp) (by omega)
 have l0 := z5 l.length 1 ⟨[],true⟩
 simp only [List.length_nil,Nat.zero_add] at l0
 (refine Todo.of ?_); (repeat' (first | ((with_reducible refine Todo.to ?_); (repeat (simp only [↓rP,rT,rU,zc,dval,Nat.reduceEqDiff,↓reduceIte,reduceCtorEq,Int.reduceNeg,z5j,q0,zuo ])))))
 refine zad l (fun k (a : SW × Int) => ⟨[(0,.sl (l.map cSlt)),(3,.ptr hp.length 1 0 0),(4,.int .i64 a.2),(5,.int .i64 k)],nw hp a.1⟩)
   (fun k r a => a.1.b.length + (r.map zo0).sum ≤ 4294967000 ∧ r.foldl zd2 a = l.foldl zd2 (zaf l.length 1 ⟨[],true⟩,0) ∧ 0 ≤ a.2 ∧ a.2 ≤ 8 * (k : Int)) (zaf l.length 1 ⟨[],true⟩,0) trivial (by simp only [zn,List.map_cons,List.map_nil,zd,Nk.get_nil,Nat.reduceEqDiff,↓reduceIte,reduceCtorEq] <;> rfl) ⟨by simp only; omega,rfl,by simp only; omega,by simp only; omega⟩ (fun k e r a d hge hd hr => ?_) fun k a hk hr => ?_
 · obtain ⟨s,at_⟩ := a
   obtain ⟨hr1,hr2,hr3,hr4⟩ := hr
   simp only [List.map_cons,List.sum_cons] at hr1 hr3 hr4
   have wk := zci d (by omega)
   have hrow := za8 cSlt hge
   obtain ⟨he,hi1,hi2⟩ := hty e (List.mem_of_getElem? hge)
   have cr := z0f e.ty
   have ec := zg9 e.ty
   have lS := zt3 (s,at_) e
   obtain ⟨nm,⟨tk,te,tn⟩,ea,ini⟩ := e
   simp only [zo0] at hr1 he hi1 hi2 cr ec lS
   have wa : IntKind.i64.wrap (at_ + zbh ⟨tk,te,tn⟩) = at_ + zbh ⟨tk,te,tn⟩ := zt (by omega)
   have l1 := zbt nm s
   have l2 := zll ⟨tk,te,tn⟩ (zau nm s)
   have l3 := z5 ini.length 1 (stTy ⟨tk,te,tn⟩ (zau nm s))
   have q1 := zxd hp s nm (by omega)
   have q2 := nw_ty hp (zau nm s) ⟨tk,te,tn⟩ (by omega) he
   have q3 := zrg hp (stTy ⟨tk,te,tn⟩ (zau nm s)) ini.length 1 (by omega) (by omega)
   (refine Todo.of ?_); (repeat' (first | ((with_reducible refine Todo.to ?_); (repeat (simp only [↓rP,rT,rU,zc,dval,dBin,dInt,zg,zb,Nat.reduceEqDiff,Nat.reduceAdd,↓reduceIte,reduceCtorEq,Nat.reduceLeDiff,Nat.reduceLT,Int.reduceNeg,zbq,d,hrow,q1,q2,q3 ]))) | ((with_reducible refine And.intro ?_ ?_); · omega) | fail))
   refine zad ini (fun j (s' : SW) => ⟨[(0,.sl (l.map cSlt)),(3,.ptr hp.length 1 0 0),(4,.int .i64 at_),(5,.int .i64 k),(6,.int .i64 j)],nw hp s'⟩)
     (fun j q s' => s'.b.length + 12 * q.length + 10 + (r.map zo0).sum ≤ 4294967000 ∧ zwl q s' = zna s ⟨nm,⟨tk,te,tn⟩,ea,ini⟩) (zaf ini.length 1 (stTy ⟨tk,te,tn⟩ (zau nm s))) trivial (by simp only [zn,List.map_cons,List.map_nil,zd,Nk.get_nil,Nat.reduceEqDiff,↓reduceIte,Nat.succ_ne_self,reduceCtorEq] <;> rfl) ⟨by omega,rfl⟩ (fun j c q s' dj hgj hdj hq => ?_) fun j s' hj hq => ?_
   · obtain ⟨hq1,hq2⟩ := hq
     simp only [List.length_cons] at hq1
     have wj := zci dj (by omega)
     have hrj := zrt hgj
     have l3 := zun c s'
     have q3 := nw_int hp s' c (by omega) (hi2 c (List.mem_of_getElem? hgj))
     (refine Todo.of ?_); (repeat' (first | ((with_reducible refine Todo.to ?_); (repeat (simp only [↓rP,rT,rU,zc,dval,dBin,dInt,zg,zb,Nat.reduceEqDiff,Nat.reduceAdd,↓reduceIte,reduceCtorEq,Int.reduceNeg,zbq,d,hrow,dj,wj,hrj,q3 ]))) | ((with_reducible refine And.intro ?_ ?_); · omega) | fail))
     exact ⟨zu9 c s',by simp only [zn,List.map_cons,List.map_nil,zd,Nk.get_nil,Nat.reduceEqDiff,↓reduceIte,Nat.succ_ne_self,reduceCtorEq,Int.natCast_add,Int.natCast_one] <;> rfl,by omega,hq2⟩
   · obtain ⟨hq1,hq2⟩ := hq
     have hq2 : s' = zna s ⟨nm,⟨tk,te,tn⟩,ea,ini⟩ := hq2
     have dj : ¬ j < ini.length := by omega
     subst hq2
     have q4 := zrg hp (zna s ⟨nm,⟨tk,te,tn⟩,ea,ini⟩) (-1) 1 (by omega) (by omega)
     by_cases eq : ea = at_
     · subst eq
       (refine Todo.of ?_); (repeat' (first | ((with_reducible refine Todo.to ?_); (repeat (simp only [↓rP,rT,rU,zc,dval,dBin,dInt,zg,zb,DV.immB,zp,zq,z1,zz,za4,zu,z6,Nat.reduceEqDiff,Nat.reduceAdd,↓reduceIte,reduceCtorEq,Nat.reduceLeDiff,Nat.reduceLT,Int.reduceNeg,zbq,d,hrow,dj,wk,ec,wa ]))) | ((with_reducible refine And.intro ?_ ?_); · omega) | fail))
       exact ⟨zd2 (s,ea) ⟨nm,⟨tk,te,tn⟩,ea,ini⟩,by simp only [zd2,if_true]; exact by simp only [zn,List.map_cons,List.map_nil,zd,Nk.get_nil,Nat.reduceEqDiff,↓reduceIte,reduceCtorEq,Int.natCast_add,Int.natCast_one] <;> rfl,by omega,hr2,by simp only [zd2]; omega,by simp only [zd2]; omega⟩
     · (have hcondQ := Bool.and_self; refine Todo.of ?_); (repeat' (first | ((with_reducible refine Todo.to ?_); (repeat (simp only [↓rP,rT,rU,zc,dval,dBin,dInt,zg,zb,DV.immB,zp,zq,z1,zz,za4,zu,z6,Nat.reduceEqDiff,Nat.reduceAdd,↓reduceIte,reduceCtorEq,Nat.reduceLeDiff,Nat.reduceLT,Int.reduceNeg,zbq,d,hrow,dj,wk,ec,wa,q4,hcondQ]))) | ((with_reducible refine And.intro ?_ ?_); · omega) | (((((with_reducible refine zw (t := ?_) ?_ (fun hcQ => ?_) (fun hcQ => ?_)); rotate_left; · (rfl))) <;> (have hn := hcQ; have hcondQ := hcQ) <;> (try simp only [bne_iff_ne,ne_eq,bne_eq_false_iff_eq] at hn) <;> (try (exfalso; omega)) <;> (refine Todo.of ?_))) | fail))
       exact ⟨zd2 (s,at_) ⟨nm,⟨tk,te,tn⟩,ea,ini⟩,by simp only [zd2,if_neg eq]; exact by simp only [zn,List.map_cons,List.map_nil,zd,Nk.get_nil,Nat.reduceEqDiff,↓reduceIte,reduceCtorEq,Int.natCast_add,Int.natCast_one] <;> rfl,by omega,hr2,by simp only [zd2]; omega,by simp only [zd2]; omega⟩
 · have d : ¬ k < l.length := by omega
   have e : a.1 = zed l ⟨[],true⟩ := by have := hr.2.1; unfold zed; rw [← this]; rfl
   (refine Todo.of ?_); (repeat' (first | ((with_reducible refine Todo.to ?_); (repeat (simp only [↓rP,rT,rU,zc,dval,dBin,dInt,retV,DR.val,Nat.reduceEqDiff,↓reduceIte,reduceCtorEq,Int.reduceNeg,d ])))))
   rw [e]
end Go.Proofs.YtfaailjhioobhaaGreat
set_option linter.all false
set_option maxRecDepth 20000
namespace Go.Proofs.YtfaailjhioobhaaGreat
open Go.Nk
def st2o (s : SW) : Option (List UInt8) := if s.ok then some s.b else none
def secO (x : Img) (i : Int) : Option (List UInt8) :=
 if i = 1 then st2o (zkz x.en ⟨[],true⟩) else if i = 2 then st2o (zc4 x.ins ⟨[],true⟩) else if i = 3 then st2o (zc4 x.outs ⟨[],true⟩)
 else if i = 4 then st2o (zed x.slots ⟨[],true⟩) else if i = 5 then st2o (zff x.loc ⟨[],true⟩) else putI x.code
structure okIm (x : Img) : Prop where
 en : zow x.en ≤ 4294967000 ∧ x.en.length ≤ 1000000000 ∧ ∀ e ∈ x.en,e.ct.length ≤ 1000000000
 ins : zea x.ins ≤ 4294967000 ∧ x.ins.length ≤ 1000000000 ∧ ∀ p ∈ x.ins,ok3 p.ty
 outs : zea x.outs ≤ 4294967000 ∧ x.outs.length ≤ 1000000000 ∧ ∀ p ∈ x.outs,ok3 p.ty
 slots : zhe x.slots ≤ 4294967000 ∧ x.slots.length ≤ 1000000000 ∧ ∀ p ∈ x.slots,ok3 p.ty ∧ p.ini.length ≤ 1000000000 ∧ ∀ n ∈ p.ini,zbd n
 loc : 4 * x.loc.length ≤ 4294967000 ∧ x.loc.length ≤ 1000000000 ∧ ∀ k ∈ x.loc,zbd k
 code : okIns x.code
def NE (s : SW) : Prop := s.ok = true → s.b ≠ []
theorem ybc {s : SW} {f : List UInt8 → WS} (hf : ∀ b b',f b = some b' → b' ≠ []) : NE (nxW s f) := by
 intro q
 unfold nxW at q ⊢
 split at q
 · rename_i e
   rw [if_pos e]
   split at q
   · rename_i b' e'
     exact hf _ _ e'
   · cases q
 · rename_i e; exact absurd q e
theorem z9c {b b' : List UInt8} {k z : Int} (h : wNum b k z = some b') : b' ≠ [] := by
 unfold wNum at h
 split at h
 · cases h
 · rename_i c
   simp only [not_or] at c
   injection h with h
   subst h
   intro e
   have := congrArg List.length e
   simp only [List.length_append,ze,List.length_nil] at this
   omega
theorem ya4 {b c b' : List UInt8} {z : Int} (h : wLen b c z = some b') : b' ≠ [] := by
 unfold wLen at h
 cases e : wNum b c.length z with
 | none => rw [e] at h; cases h
 | some b1 =>
   rw [e] at h
   injection h with h
   subst h
   have := z9c e
   simp [this]
theorem zfz (k z : Int) (s : SW) : NE (zaf k z s) := ybc fun _ _ h => z9c h
theorem stInt_NE (x : Int) (s : SW) : NE (zu9 x s) := ybc fun _ _ h => ya4 h
theorem z8v (c : List UInt8) (s : SW) : NE (zau c s) := ybc fun _ _ h => ya4 h
theorem zjh {α β : Type} {g : β → SW} {f : β → α → β} (hf : ∀ s x,NE (g (f s x)) ∨ g (f s x) = g s) : ∀ (l : List α) (s : β),NE (g s) → NE (g (l.foldl f s))
 | [],_,h => h
 | x :: l,s,h => zjh hf l (f s x) ((hf s x).elim id fun e => e ▸ h)
theorem stCt_NE (l : List (List UInt8)) (s : SW) (h : NE s) : NE (stCt l s) := zjh (g := id) (fun s c => .inl (z8v c s)) l s h
theorem ybd (l : List Int) (s : SW) (h : NE s) : NE (zwl l s) := zjh (g := id) (fun s c => .inl (stInt_NE c s)) l s h
theorem stEns_NE (l : List En) (s : SW) : NE (zkz l s) := zjh (g := id) (fun _ _ => .inl (stCt_NE _ _ (zfz _ _ _))) l _ (zfz _ _ _)
theorem z0c (l : List Prt) (s : SW) : NE (zc4 l s) := zjh (g := id) (fun _ _ => .inl (zfz _ _ _)) l _ (zfz _ _ _)
theorem z83 (l : List Int) (s : SW) : NE (zff l s) := zjh (g := id) (fun _ _ => .inl (zfz _ _ _)) l _ (zfz _ _ _)
theorem z84 (l : List Slt) (s : SW) : NE (zed l s) := zjh (g := Prod.fst) (fun s x => .inl (by
 unfold zd2
 simp only
 split
 · exact ybd _ _ (zfz _ _ _)
 · exact zfz _ _ _)) l _ (zfz _ _ _)
theorem zkk {α β : Type} {g : β → SW} {f : β → α → β} {z : α → Nat} (hf : ∀ s x,(g (f s x)).b.length ≤ (g s).b.length + z x) : ∀ (l : List α) (s : β),(g (l.foldl f s)).b.length ≤ (g s).b.length + (l.map z).sum
 | [],s => by simp
 | x :: l,s => by
   have h1 := zkk hf l (f s x)
   have h2 := hf s x
   simp only [List.foldl_cons,List.map_cons,List.sum_cons]
   omega
theorem zz9 (l : List En) : (zkz l ⟨[],true⟩).b.length ≤ zow l := by
 have h1 := zkk (g := id) (f := stEn) (z := szEn) (fun s x => stEn_len s x) l (zaf l.length 1 ⟨[],true⟩)
 have h2 := z5 l.length 1 ⟨[],true⟩
 simp only [id,List.length_nil] at h1 h2
 unfold zkz zow
 omega
theorem zlq (l : List Prt) : (zc4 l ⟨[],true⟩).b.length ≤ zea l := by
 have h1 := zkk (g := id) (f := zu3) (z := zvp) (fun s x => yb7 s x) l (zaf l.length 1 ⟨[],true⟩)
 have h2 := z5 l.length 1 ⟨[],true⟩
 simp only [id,List.length_nil] at h1 h2
 unfold zc4 zea
 omega
theorem zv1 (l : List Slt) : (zed l ⟨[],true⟩).b.length ≤ zhe l := by
 have h1 := zkk (g := Prod.fst) (f := zd2) (z := zo0) (fun s x => zt3 s x) l (zaf l.length 1 ⟨[],true⟩,0)
 have h2 := z5 l.length 1 ⟨[],true⟩
 simp only [List.length_nil] at h1 h2
 unfold zed zhe
 omega
theorem z9a (c : Nat) {α : Type} (l : List α) : (l.map fun _ => c).sum = c * l.length := by
 induction l with
 | nil => rfl
 | cons x l ih => simp only [List.map_cons,List.sum_cons,List.length_cons,ih,Nat.mul_succ]; omega
theorem zv0 (l : List Int) : (zff l ⟨[],true⟩).b.length ≤ 4 * l.length + 4 := by
 have h1 := zkk (g := id) (f := fun s n => zaf n 2 s) (z := fun _ => 4) (fun s x => z5 x 2 s) l (zaf l.length 2 ⟨[],true⟩)
 have h2 := z5 l.length 2 ⟨[],true⟩
 rw [z9a] at h1
 simp only [id,List.length_nil] at h1 h2
 unfold zff
 omega
end Go.Proofs.YtfaailjhioobhaaGreat
set_option linter.all false
set_option maxRecDepth 20000
namespace Go.Proofs.YtfaailjhioobhaaGreat
open Go.Nk
def secH (x : Img) (s : SW) : List DObj := [⟨.loc,6,[cImg x]⟩,⟨.loc,2,[rowW true 3 s]⟩,⟨.loc,1,[[.ptr 1 1 0 0]]⟩,⟨.imm,1,bsl s.b⟩]
theorem zu8 (x : Img) (s s' : SW) : hx true (secH x s) 1 3 s' = secH x s' := rfl
theorem zqj (x : Img) (b : List UInt8) : isW true (secH x ⟨b,true⟩) 1 3 (some b) := ⟨rfl,rfl,by decide⟩
theorem zht (x : Img) (s : SW) : (secH x s)[2]? = some ⟨.loc,1,[[.ptr 1 1 0 0]]⟩ := rfl
theorem zzj (x : Img) (s : SW) (o : DObj) (t : List DObj) : (secH x s ++ (o :: t))[4]? = some o := rfl
abbrev secI (en : List En) (ins outs : List Prt) (slots : List Slt) (loc : List Int) (code : List In4) : List DObj := [⟨.loc,6,[[.sl (en.map cEn),.sl (ins.map cPrt),.sl (outs.map cPrt),.sl (slots.map cSlt),.sl (ils loc),.sl (code.map cIn4)]]⟩,⟨.loc,2,[[.own 3 0 0 0,.bool true]]⟩,⟨.loc,1,[[.ptr 1 1 0 0]]⟩,⟨.imm,1,[]⟩]
theorem zit {x : Img} {s : SW} (h : s.ok = true) (hn : s.b ≠ []) (hb : s.b.length ≤ 4294967296) : zeu [.ptr 1 1 0 0] (secH x s) = ⟨True,.own 4 s.b.length 0 s.b.length,secH x s ++ [⟨.imm,1,bsl s.b⟩]⟩ := by
 obtain ⟨b,ok⟩ := s
 simp only at h; subst h
 refine (znv (zqj x b)).trans ?_
 rw [eq_true (show b ≠ [] ∧ b.length ≤ 4294967296 from ⟨hn,hb⟩)]; rfl
theorem zgc {x : Img} {s : SW} (h : s.ok = false) : zeu [.ptr 1 1 0 0] (secH x s) = ⟨True,.nil,secH x s⟩ := by
 obtain ⟨b,ok⟩ := s
 simp only at h; subst h
 exact zzy rfl
theorem zqa {x : Img} {s : SW} (t : List DObj) : zvk [.ptr 1 1 0 0] (secH x s ++ t) = ⟨True,.bool s.ok,secH x s ++ t⟩ := by
 obtain ⟨b,ok⟩ := s
 cases ok
 · exact zoy rfl
 · exact zsd (m := 3) (b := b) ⟨rfl,rfl,by decide⟩
noncomputable def s_sec : List DV → Prop × DV := zzt eImg eI fun x i => (okIm x,putV (secO x i))
theorem s_sec_at (x : Img) (i : Int) : s_sec [.agg (cImg x),.int .i64 i] = (okIm x,putV (secO x i)) := zsk z9g z2d _ x i
theorem zrz : OkP Tryz.prog 19 s_sec := by
 refine OkP.mk2 (ps := [(56,z0v)]) (hs := [(18,zpq),(52,z3x),(53,zs3),(54,zw9),(55,zyb),(24,zeu),(57,zvk)]) ⟨z0h,trivial⟩ ⟨zyn,zkd,zkl,zlb,zjz,zs8,z5p,trivial⟩ zuw fun x i h => ?_
 
 have hz : ∀ l : List In4,l.map cIn4 = l.map cIn := fun _ => rfl
 have fin : ∀ s : SW,NE s → s.b.length ≤ 4294967200 → (∀ K : DV,True) := fun _ _ _ _ => trivial
 have i1 := z75 x (zqj x [])
 rw [eq_true (show [].length + zow x.en ≤ 4294967000 ∧ x.en.length ≤ 1000000000 ∧ ∀ e ∈ x.en,e.ct.length ≤ 1000000000 by simpa using h.en),zu8] at i1
 have i2 := zw3 x.ins (zqj x [])
 rw [eq_true (show [].length + zea x.ins ≤ 4294967000 ∧ x.ins.length ≤ 1000000000 ∧ ∀ p ∈ x.ins,ok3 p.ty by simpa using h.ins),zu8] at i2
 have i3 := zw3 x.outs (zqj x [])
 rw [eq_true (show [].length + zea x.outs ≤ 4294967000 ∧ x.outs.length ≤ 1000000000 ∧ ∀ p ∈ x.outs,ok3 p.ty by simpa using h.outs),zu8] at i3
 have i4 := z7o x (zqj x [])
 rw [eq_true (show [].length + zhe x.slots ≤ 4294967000 ∧ x.slots.length ≤ 1000000000 ∧ ∀ p ∈ x.slots,ok3 p.ty ∧ p.ini.length ≤ 1000000000 ∧ ∀ n ∈ p.ini,zbd n by simpa using h.slots),zu8] at i4
 have i5 := z6h x (zqj x [])
 rw [eq_true (show [].length + 4 * x.loc.length ≤ 4294967000 ∧ x.loc.length ≤ 1000000000 ∧ ∀ k ∈ x.loc,zbd k by simpa using h.loc),zu8] at i5
 have i6 := zzf x.code
 rw [eq_true h.code] at i6
 have ok' : ∀ (s : SW),zvk [.ptr 1 1 0 0] (secH x s) = ⟨True,.bool s.ok,secH x s⟩ := fun s => by have := zqa (x := x) (s := s) []; simpa using this
 have hkey : ∀ s : SW,NE s → s.b.length ≤ 4294967296 → putV (st2o s) = .tup [.sl (bsl (if s.ok then s.b else [])),.bool s.ok] := fun s _ _ => by
   obtain ⟨b,ok⟩ := s
   cases ok <;> rfl
 obtain ⟨en,ins,outs,slots,loc,code⟩ := x
 simp only [cImg] at i1 i2 i3 i4 i5 i6 ⊢
 have j1 : z3x [.agg [.ptr 1 1 0 0],.agg [.sl (en.map cEn),.sl (ins.map cPrt),.sl (outs.map cPrt),.sl (slots.map cSlt),.sl (ils loc),.sl (code.map cIn4)]] (secI en ins outs slots loc code) = ⟨True,.tup [],secH ⟨en,ins,outs,slots,loc,code⟩ (zkz en ⟨[],true⟩)⟩ := i1
 have j2 : zs3 [.agg [.ptr 1 1 0 0],.sl (ins.map cPrt)] (secI en ins outs slots loc code) = ⟨True,.tup [],secH ⟨en,ins,outs,slots,loc,code⟩ (zc4 ins ⟨[],true⟩)⟩ := i2
 have j3 : zs3 [.agg [.ptr 1 1 0 0],.sl (outs.map cPrt)] (secI en ins outs slots loc code) = ⟨True,.tup [],secH ⟨en,ins,outs,slots,loc,code⟩ (zc4 outs ⟨[],true⟩)⟩ := i3
 have j4 : zw9 [.agg [.ptr 1 1 0 0],.agg [.sl (en.map cEn),.sl (ins.map cPrt),.sl (outs.map cPrt),.sl (slots.map cSlt),.sl (ils loc),.sl (code.map cIn4)]] (secI en ins outs slots loc code) = ⟨True,.tup [],secH ⟨en,ins,outs,slots,loc,code⟩ (zed slots ⟨[],true⟩)⟩ := i4
 have j5 : zyb [.agg [.ptr 1 1 0 0],.agg [.sl (en.map cEn),.sl (ins.map cPrt),.sl (outs.map cPrt),.sl (slots.map cSlt),.sl (ils loc),.sl (code.map cIn4)]] (secI en ins outs slots loc code) = ⟨True,.tup [],secH ⟨en,ins,outs,slots,loc,code⟩ (zff loc ⟨[],true⟩)⟩ := i5
 clear i1 i2 i3 i4 i5
 (refine Todo.of ?_); (repeat' (first | ((with_reducible refine Todo.to ?_); (repeat (simp only [↓rP,rT,rU,eI,eA,zj,zc,dval,zo,DV.one,cellsOf,zf,DV.isU,Nat.reduceEqDiff,Nat.reduceAdd,↓reduceIte,Nat.reduceLeDiff,forall_const,zle,eImg,ztz ])))))
 refine za9 ?_
 by_cases c1 : i = 1
 · subst c1
   simp only [secO,↓reduceIte]
   have hN := stEns_NE en ⟨[],true⟩
   have hL : (zkz en ⟨[],true⟩).b.length ≤ 4294967296 := by have := zz9 en; have := h.en.1; simp only at this; omega
   rw [hkey _ hN hL]
   generalize zkz en ⟨[],true⟩ = S at *
   cases e : S.ok
   · have eb := zgc (x := ⟨en,ins,outs,slots,loc,code⟩) e
     have eo := ok' S
     rw [e] at eo
     (refine Todo.of ?_); (repeat' (first | ((with_reducible refine Todo.to ?_); (repeat (simp only [↓rP,rT,rU,zc,dval,dBin,dInt,zg,zb,retV,retL,DR.val,fzT,fzVs,fzV,fz1,DV.immB,alive,Nat.reduceEqDiff,Nat.reduceAdd,↓reduceIte,reduceCtorEq,Nat.reduceLeDiff,j1,zht,eb,eo ]))) | ((with_reducible refine And.intro ?_ ?_); · (simp; done)) | fail))
     all_goals first | rfl | skip
   · have eb := zit (x := ⟨en,ins,outs,slots,loc,code⟩) e (hN e) hL
     have eo := fun t => zqa (x := ⟨en,ins,outs,slots,loc,code⟩) (s := S) t
     rw [e] at eo
     (refine Todo.of ?_); (repeat' (first | ((with_reducible refine Todo.to ?_); (repeat (simp only [↓rP,rT,rU,zc,dval,dBin,dInt,zg,zb,retV,retL,DR.val,fzT,fzVs,fzV,fz1,DV.immB,zi,alive,freezeAt,Nat.reduceEqDiff,Nat.reduceAdd,↓reduceIte,reduceCtorEq,Nat.reduceLeDiff,ziu,j1,zht,zzj,eb,eo ]))) | ((with_reducible refine And.intro ?_ ?_); · (simp; done)) | fail)) <;> (try (exact Nat.le_refl _))
     all_goals first | rfl | (rw [List.take_of_length_le (by rw [zab]; exact Nat.le_refl _)]; done) | skip
 by_cases c2 : i = 2
 · subst c2
   simp only [secO,↓reduceIte,Int.reduceEq]
   have hN := z0c ins ⟨[],true⟩
   have hL : (zc4 ins ⟨[],true⟩).b.length ≤ 4294967296 := by have := zlq ins; have := h.ins.1; simp only at this; omega
   rw [hkey _ hN hL]
   generalize zc4 ins ⟨[],true⟩ = S at *
   cases e : S.ok
   · have eb := zgc (x := ⟨en,ins,outs,slots,loc,code⟩) e
     have eo := ok' S
     rw [e] at eo
     (refine Todo.of ?_); (repeat' (first | ((with_reducible refine Todo.to ?_); (repeat (simp only [↓rP,rT,rU,zc,dval,dBin,dInt,zg,zb,retV,retL,DR.val,fzT,fzVs,fzV,fz1,DV.immB,alive,Nat.reduceEqDiff,Nat.reduceAdd,↓reduceIte,reduceCtorEq,Nat.reduceLeDiff,Nat.reduceLT,Int.reduceBEq,j2,zht,eb,eo ]))) | ((with_reducible refine And.intro ?_ ?_); · (simp; done)) | fail))
     all_goals first | rfl | skip
   · have eb := zit (x := ⟨en,ins,outs,slots,loc,code⟩) e (hN e) hL
     have eo := fun t => zqa (x := ⟨en,ins,outs,slots,loc,code⟩) (s := S) t
     rw [e] at eo
     (refine Todo.of ?_); (repeat' (first | ((with_reducible refine Todo.to ?_); (repeat (simp only [↓rP,rT,rU,zc,dval,dBin,dInt,zg,zb,retV,retL,DR.val,fzT,fzVs,fzV,fz1,DV.immB,zi,alive,freezeAt,Nat.reduceEqDiff,Nat.reduceAdd,↓reduceIte,reduceCtorEq,Nat.reduceLeDiff,Nat.reduceLT,Int.reduceBEq,ziu,j2,zht,zzj,eb,eo ]))) | ((with_reducible refine And.intro ?_ ?_); · (simp; done)) | fail)) <;> (try (exact Nat.le_refl _))
     all_goals first | rfl | (rw [List.take_of_length_le (by rw [zab]; exact Nat.le_refl _)]; done) | skip
 by_cases c3 : i = 3
 · subst c3
   simp only [secO,↓reduceIte,Int.reduceEq]
   have hN := z0c outs ⟨[],true⟩
   have hL : (zc4 outs ⟨[],true⟩).b.length ≤ 4294967296 := by have := zlq outs; have := h.outs.1; simp only at this; omega
   rw [hkey _ hN hL]
   generalize zc4 outs ⟨[],true⟩ = S at *
   cases e : S.ok
   · have eb := zgc (x := ⟨en,ins,outs,slots,loc,code⟩) e
     have eo := ok' S
     rw [e] at eo
     (refine Todo.of ?_); (repeat' (first | ((with_reducible refine Todo.to ?_); (repeat (simp only [↓rP,rT,rU,zc,dval,dBin,dInt,zg,zb,retV,retL,DR.val,fzT,fzVs,fzV,fz1,DV.immB,alive,Nat.reduceEqDiff,Nat.reduceAdd,↓reduceIte,reduceCtorEq,Nat.reduceLeDiff,Nat.reduceLT,Int.reduceBEq,j3,zht,eb,eo ]))) | ((with_reducible refine And.intro ?_ ?_); · (simp; done)) | fail))
     all_goals first | rfl | skip
   · have eb := zit (x := ⟨en,ins,outs,slots,loc,code⟩) e (hN e) hL
     have eo := fun t => zqa (x := ⟨en,ins,outs,slots,loc,code⟩) (s := S) t
     rw [e] at eo
     (refine Todo.of ?_); (repeat' (first | ((with_reducible refine Todo.to ?_); (repeat (simp only [↓rP,rT,rU,zc,dval,dBin,dInt,zg,zb,retV,retL,DR.val,fzT,fzVs,fzV,fz1,DV.immB,zi,alive,freezeAt,Nat.reduceEqDiff,Nat.reduceAdd,↓reduceIte,reduceCtorEq,Nat.reduceLeDiff,Nat.reduceLT,Int.reduceBEq,ziu,j3,zht,zzj,eb,eo ]))) | ((with_reducible refine And.intro ?_ ?_); · (simp; done)) | fail)) <;> (try (exact Nat.le_refl _))
     all_goals first | rfl | (rw [List.take_of_length_le (by rw [zab]; exact Nat.le_refl _)]; done) | skip
 by_cases c4 : i = 4
 · subst c4
   simp only [secO,↓reduceIte,Int.reduceEq]
   have hN := z84 slots ⟨[],true⟩
   have hL : (zed slots ⟨[],true⟩).b.length ≤ 4294967296 := by have := zv1 slots; have := h.slots.1; simp only at this; omega
   rw [hkey _ hN hL]
   generalize zed slots ⟨[],true⟩ = S at *
   cases e : S.ok
   · have eb := zgc (x := ⟨en,ins,outs,slots,loc,code⟩) e
     have eo := ok' S
     rw [e] at eo
     (refine Todo.of ?_); (repeat' (first | ((with_reducible refine Todo.to ?_); (repeat (simp only [↓rP,rT,rU,zc,dval,dBin,dInt,zg,zb,retV,retL,DR.val,fzT,fzVs,fzV,fz1,DV.immB,alive,Nat.reduceEqDiff,Nat.reduceAdd,↓reduceIte,reduceCtorEq,Nat.reduceLeDiff,Int.reduceBEq,j4,zht,eb,eo ]))) | ((with_reducible refine And.intro ?_ ?_); · (simp; done)) | fail))
     all_goals first | rfl | skip
   · have eb := zit (x := ⟨en,ins,outs,slots,loc,code⟩) e (hN e) hL
     have eo := fun t => zqa (x := ⟨en,ins,outs,slots,loc,code⟩) (s := S) t
     rw [e] at eo
     (refine Todo.of ?_); (repeat' (first | ((with_reducible refine Todo.to ?_); (repeat (simp only [↓rP,rT,rU,zc,dval,dBin,dInt,zg,zb,retV,retL,DR.val,fzT,fzVs,fzV,fz1,DV.immB,zi,alive,freezeAt,Nat.reduceEqDiff,Nat.reduceAdd,↓reduceIte,reduceCtorEq,Nat.reduceLeDiff,Int.reduceBEq,ziu,j4,zht,zzj,eb,eo ]))) | ((with_reducible refine And.intro ?_ ?_); · (simp; done)) | fail)) <;> (try (exact Nat.le_refl _))
     all_goals first | rfl | (rw [List.take_of_length_le (by rw [zab]; exact Nat.le_refl _)]; done) | skip
 by_cases c5 : i = 5
 · subst c5
   simp only [secO,↓reduceIte,Int.reduceEq]
   have hN := z83 loc ⟨[],true⟩
   have hL : (zff loc ⟨[],true⟩).b.length ≤ 4294967296 := by have := zv0 loc; have := h.loc.1; simp only at this; omega
   rw [hkey _ hN hL]
   generalize zff loc ⟨[],true⟩ = S at *
   cases e : S.ok
   · have eb := zgc (x := ⟨en,ins,outs,slots,loc,code⟩) e
     have eo := ok' S
     rw [e] at eo
     (refine Todo.of ?_); (repeat' (first | ((with_reducible refine Todo.to ?_); (repeat (simp only [↓rP,rT,rU,zc,dval,dBin,dInt,zg,zb,retV,retL,DR.val,fzT,fzVs,fzV,fz1,DV.immB,alive,Nat.reduceEqDiff,Nat.reduceAdd,↓reduceIte,reduceCtorEq,Nat.reduceLeDiff,Int.reduceBEq,j5,zht,eb,eo ]))) | ((with_reducible refine And.intro ?_ ?_); · (simp; done)) | fail))
     all_goals first | rfl | skip
   · have eb := zit (x := ⟨en,ins,outs,slots,loc,code⟩) e (hN e) hL
     have eo := fun t => zqa (x := ⟨en,ins,outs,slots,loc,code⟩) (s := S) t
     rw [e] at eo
     (refine Todo.of ?_); (repeat' (first | ((with_reducible refine Todo.to ?_); (repeat (simp only [↓rP,rT,rU,zc,dval,dBin,dInt,zg,zb,retV,retL,DR.val,fzT,fzVs,fzV,fz1,DV.immB,zi,alive,freezeAt,Nat.reduceEqDiff,Nat.reduceAdd,↓reduceIte,reduceCtorEq,Nat.reduceLeDiff,Int.reduceBEq,ziu,j5,zht,zzj,eb,eo ]))) | ((with_reducible refine And.intro ?_ ?_); · (simp; done)) | fail)) <;> (try (exact Nat.le_refl _))
     all_goals first | rfl | (rw [List.take_of_length_le (by rw [zab]; exact Nat.le_refl _)]; done) | skip
 have e : secO ⟨en,ins,outs,slots,loc,code⟩ i = putI code := by simp [secO,c1,c2,c3,c4,c5]
 rw [e]
 (have hcondQ := Bool.and_self; refine Todo.of ?_); (repeat' (first | ((with_reducible refine Todo.to ?_); (repeat (simp only [↓rP,rT,rU,zc,dval,dBin,dInt,zg,zb,retV,retL,DR.val,fzT,fzVs,fzV,fz1,DV.immB,zp,zq,z1,zz,zu,z6,alive,Nat.reduceEqDiff,Nat.reduceAdd,↓reduceIte,reduceCtorEq,Nat.reduceLT,i6,hz,putV ,hcondQ]))) | (((((with_reducible refine zw (t := ?_) ?_ (fun hcQ => ?_) (fun hcQ => ?_)); rotate_left; · (rfl))) <;> (have hn := hcQ; have hcondQ := hcQ) <;> (try simp only [beq_iff_eq,ne_eq,beq_eq_false_iff_ne] at hn) <;> (try (exfalso; omega)) <;> (refine Todo.of ?_))) | fail))
end Go.Proofs.YtfaailjhioobhaaGreat
