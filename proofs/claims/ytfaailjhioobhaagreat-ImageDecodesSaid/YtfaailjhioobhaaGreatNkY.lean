/- Functions each by itself: what one tells, and an oracle of those that a body calls; what a function tells, over encodings. -/
import Derived.Test.YtfaailjhioobhaaGreatNkX
set_option linter.all false
namespace Go.Nk
def OkP [Inhabited Env] (P : Program) (f : FuncId) (s : List DV → Prop × DV) : Prop := ∀ a,(s a).1 → zeb P f = true ∧ zwv P f a (s a).2
def OkH [Inhabited Env] (P : Program) (f : FuncId) (s : List DV → List DObj → Res) : Prop := ∀ a hp,(s a hp).pre → zeb P f = true ∧ z0u P f a hp (s a hp).val (s a hp).hp
def pOf : List (FuncId × (List DV → Prop × DV)) → FuncId → List DV → Prop × DV
 | [],_,_ => (False,.undef)
 | (f,s) :: r,g,a => if g = f then s a else pOf r g a
def hOf : List (FuncId × (List DV → List DObj → Res)) → FuncId → List DV → List DObj → Res
 | [],_,_,_ => no
 | (f,s) :: r,g,a,hp => if g = f then s a hp else hOf r g a hp
def iOf : List (FuncId × (List DV → Prop × List (List DV))) → FuncId → List DV → Prop × List (List DV)
 | [],_,_ => (False,[])
 | (f,s) :: r,g,a => if g = f then s a else iOf r g a
def Orc.ofI (ps : List (FuncId × (List DV → Prop × DV))) (hs : List (FuncId × (List DV → List DObj → Res))) (is : List (FuncId × (List DV → Prop × List (List DV)))) : Orc := ⟨pOf ps,hOf hs,iOf is⟩
def Orc.of (ps : List (FuncId × (List DV → Prop × DV))) (hs : List (FuncId × (List DV → List DObj → Res))) : Orc := Orc.ofI ps hs []
theorem of_p (ps hs) (f : FuncId) (a : List DV) : (Orc.of ps hs).p f a = pOf ps f a := rfl
theorem of_h (ps hs) (f : FuncId) (a : List DV) (hp : List DObj) : (Orc.of ps hs).h f a hp = hOf hs f a hp := rfl
theorem zxp (f : FuncId) (s : List DV → Prop × DV) (r) (g : FuncId) (a : List DV) : pOf ((f,s) :: r) g a = if g = f then s a else pOf r g a := rfl
theorem zy3 (f : FuncId) (s : List DV → List DObj → Res) (r) (g : FuncId) (a : List DV) (hp : List DObj) : hOf ((f,s) :: r) g a hp = if g = f then s a hp else hOf r g a hp := rfl
def AllP [Inhabited Env] (P : Program) : List (FuncId × (List DV → Prop × DV)) → Prop
 | [] => True
 | (f,s) :: r => OkP P f s ∧ AllP P r
def AllH [Inhabited Env] (P : Program) : List (FuncId × (List DV → List DObj → Res)) → Prop
 | [] => True
 | (f,s) :: r => OkH P f s ∧ AllH P r
def OkI [Inhabited Env] (P : Program) (f : FuncId) (s : List DV → Prop × List (List DV)) : Prop := ∀ a,(s a).1 → zeb P f = true ∧ z78 P f a (s a).2
def AllI [Inhabited Env] (P : Program) : List (FuncId × (List DV → Prop × List (List DV))) → Prop
 | [] => True
 | (f,s) :: r => OkI P f s ∧ AllI P r
theorem ofI_ok [Inhabited Env] {P : Program} {ps hs is} (h1 : AllP P ps) (h2 : AllH P hs) (h3 : AllI P is) : (Orc.ofI ps hs is).ok P := by
 refine ⟨?_,?_,?_⟩
 · intro f a h
   change (pOf ps f a).1 at h
   change zeb P f = true ∧ zwv P f a (pOf ps f a).2
   induction ps with
   | nil => exact h.elim
   | cons x r ih =>
     obtain ⟨g,s⟩ := x
     simp only [zxp] at h ⊢ ih
     by_cases e : f = g
     · simp only [if_pos e] at h ⊢
       subst e
       exact h1.1 a h
     · simp only [if_neg e] at h ⊢
       exact ih h1.2 h
 · intro f a hp h
   change (hOf hs f a hp).pre at h
   change zeb P f = true ∧ z0u P f a hp (hOf hs f a hp).val (hOf hs f a hp).hp
   induction hs with
   | nil => exact h.elim
   | cons x r ih =>
     obtain ⟨g,s⟩ := x
     simp only [zy3] at h ⊢ ih
     by_cases e : f = g
     · simp only [if_pos e] at h ⊢
       subst e
       exact h2.1 a hp h
     · simp only [if_neg e] at h ⊢
       exact ih h2.2 h
 · intro f a h
   change (iOf is f a).1 at h
   change zeb P f = true ∧ z78 P f a (iOf is f a).2
   induction is with
   | nil => exact h.elim
   | cons x r ih =>
     obtain ⟨g,s⟩ := x
     simp only [iOf] at h ⊢ ih
     by_cases e : f = g
     · simp only [if_pos e] at h ⊢
       subst e
       exact h3.1 a h
     · simp only [if_neg e] at h ⊢
       exact ih h3.2 h
theorem of_ok [Inhabited Env] {P : Program} {ps hs} (h1 : AllP P ps) (h2 : AllH P hs) : (Orc.of ps hs).ok P := ofI_ok h1 h2 trivial
theorem OkP.mk [Inhabited Env] {P : Program} {ps hs} {f : FuncId} {s : List DV → Prop × DV} {d : DFun} {n : Nat} (h1 : AllP P ps) (h2 : AllH P hs) (hm : mFun P f n d = true)
   (h : ∀ args,(s args).1 → args.length = n ∧ dwp (Orc.of ps hs) 0 d.code (EndP d.res (s args).2) ⟨za 0 args,[]⟩) : OkP P f s := by
 intro a ha
 obtain ⟨e,hw⟩ := h a ha
 exact z94 (of_ok h1 h2) (by rw [e]; exact hm) hw
theorem OkH.mk [Inhabited Env] {P : Program} {ps hs} {f : FuncId} {s : List DV → List DObj → Res} {d : DFun} {n : Nat} (h1 : AllP P ps) (h2 : AllH P hs) (hm : mFun P f n d = true)
   (h : ∀ args hp,(s args hp).pre → args.length = n ∧ dwp (Orc.of ps hs) hp.length d.code (EndH d.res (s args hp).val (s args hp).hp) ⟨za 0 args,hp⟩) : OkH P f s := by
 intro a hp ha
 obtain ⟨e,hw⟩ := h a hp ha
 exact z8s (of_ok h1 h2) (by rw [e]; exact hm) hw
def Inj {α : Type} (e : α → DV) : Prop := ∀ x y,e x = e y → x = y
open Classical in
noncomputable def ybv (r : Prop × DV) : List DV → Prop × DV := fun args => if args = [] then r else (False,.undef)
open Classical in
noncomputable def zdu {α : Type} (e : α → DV) (f : α → Prop × DV) : List DV → Prop × DV := fun args =>
 if h : ∃ a,args = [e a] then f h.choose else (False,.undef)
open Classical in
noncomputable def zzt {α β : Type} (e : α → DV) (e' : β → DV) (f : α → β → Prop × DV) : List DV → Prop × DV := fun args =>
 if h : ∃ x : α × β,args = [e x.1,e' x.2] then f h.choose.1 h.choose.2 else (False,.undef)
open Classical in
noncomputable def yby {α β γ : Type} (e : α → DV) (e' : β → DV) (e'' : γ → DV) (f : α → β → γ → Prop × DV) : List DV → Prop × DV := fun args =>
 if h : ∃ x : α × β × γ,args = [e x.1,e' x.2.1,e'' x.2.2] then f h.choose.1 h.choose.2.1 h.choose.2.2 else (False,.undef)
theorem z4y (r : Prop × DV) : ybv r [] = r := by simp [ybv]
theorem zan {α : Type} {e : α → DV} (h : Inj e) (f : α → Prop × DV) (a : α) : zdu e f [e a] = f a := by
 unfold zdu
 have hx : ∃ b,[e a] = [e b] := ⟨a,rfl⟩
 rw [dif_pos hx]
 have hy := hx.choose_spec
 generalize hx.choose = x at hy ⊢
 rw [h _ _ (List.cons.inj hy).1]
theorem zsk {α β : Type} {e : α → DV} {e' : β → DV} (h : Inj e) (h' : Inj e') (f : α → β → Prop × DV) (a : α) (b : β) : zzt e e' f [e a,e' b] = f a b := by
 unfold zzt
 have hx : ∃ x : α × β,[e a,e' b] = [e x.1,e' x.2] := ⟨(a,b),rfl⟩
 rw [dif_pos hx]
 have hy := hx.choose_spec
 generalize hx.choose = x at hy ⊢
 have h1 := List.cons.inj hy
 rw [h _ _ h1.1,h' _ _ (List.cons.inj h1.2).1]
theorem spec3_at {α β γ : Type} {e : α → DV} {e' : β → DV} {e'' : γ → DV} (h : Inj e) (h' : Inj e') (h'' : Inj e'') (f : α → β → γ → Prop × DV) (a : α) (b : β) (c : γ) : yby e e' e'' f [e a,e' b,e'' c] = f a b c := by
 unfold yby
 have hx : ∃ x : α × β × γ,[e a,e' b,e'' c] = [e x.1,e' x.2.1,e'' x.2.2] := ⟨(a,b,c),rfl⟩
 rw [dif_pos hx]
 have hy := hx.choose_spec
 generalize hx.choose = x at hy ⊢
 have h1 := List.cons.inj hy
 have h2 := List.cons.inj h1.2
 rw [h _ _ h1.1,h' _ _ h2.1,h'' _ _ (List.cons.inj h2.2).1]
section
variable {P : Program} {ps : List (FuncId × (List DV → Prop × DV))} {hs : List (FuncId × (List DV → List DObj → Res))} {g : FuncId} {d : DFun}
theorem OkP.mk0 [Inhabited Env] {r : Prop × DV} (h1 : AllP P ps) (h2 : AllH P hs) (hm : mFun P g 0 d = true)
   (k : r.1 → dwp (Orc.of ps hs) 0 d.code (EndP d.res r.2) ⟨[],[]⟩) : OkP P g (ybv r) := by
 refine OkP.mk h1 h2 hm fun args hp => ?_
 unfold ybv at hp ⊢
 split at hp
 · rename_i h
   subst h
   rw [if_pos rfl]
   exact ⟨rfl,k hp⟩
 · exact hp.elim
theorem OkP.mk1 [Inhabited Env] {α : Type} {e : α → DV} {f : α → Prop × DV} (h1 : AllP P ps) (h2 : AllH P hs) (hm : mFun P g 1 d = true)
   (k : ∀ a,(f a).1 → dwp (Orc.of ps hs) 0 d.code (EndP d.res (f a).2) ⟨[(0,e a)],[]⟩) : OkP P g (zdu e f) := by
 refine OkP.mk h1 h2 hm fun args hp => ?_
 unfold zdu at hp ⊢
 split at hp
 · rename_i h
   rw [dif_pos h]
   have hx := h.choose_spec
   have := k _ hp
   generalize h.choose = a at *
   subst hx
   exact ⟨rfl,this⟩
 · exact hp.elim
theorem OkP.mk2 [Inhabited Env] {α β : Type} {e : α → DV} {e' : β → DV} {f : α → β → Prop × DV} (h1 : AllP P ps) (h2 : AllH P hs) (hm : mFun P g 2 d = true)
   (k : ∀ a b,(f a b).1 → dwp (Orc.of ps hs) 0 d.code (EndP d.res (f a b).2) ⟨[(0,e a),(1,e' b)],[]⟩) : OkP P g (zzt e e' f) := by
 refine OkP.mk h1 h2 hm fun args hp => ?_
 unfold zzt at hp ⊢
 split at hp
 · rename_i h
   rw [dif_pos h]
   have hx := h.choose_spec
   have := k _ _ hp
   generalize h.choose = a at *
   subst hx
   exact ⟨rfl,this⟩
 · exact hp.elim
theorem OkP.mk3 [Inhabited Env] {α β γ : Type} {e : α → DV} {e' : β → DV} {e'' : γ → DV} {f : α → β → γ → Prop × DV} (h1 : AllP P ps) (h2 : AllH P hs) (hm : mFun P g 3 d = true)
   (k : ∀ a b c,(f a b c).1 → dwp (Orc.of ps hs) 0 d.code (EndP d.res (f a b c).2) ⟨[(0,e a),(1,e' b),(2,e'' c)],[]⟩) : OkP P g (yby e e' e'' f) := by
 refine OkP.mk h1 h2 hm fun args hp => ?_
 unfold yby at hp ⊢
 split at hp
 · rename_i h
   rw [dif_pos h]
   have hx := h.choose_spec
   have := k _ _ _ hp
   generalize h.choose = a at *
   subst hx
   exact ⟨rfl,this⟩
 · exact hp.elim
end
noncomputable def zk8 {α : Type} (e : α → DV) (W : α → Prop) : List DV → Prop × DV := fun args => (∃ x,args = [e x,e x] ∧ W x,.bool true)
theorem zcx {α : Type} (e : α → DV) {W : α → Prop} {x : α} (h : W x) : zk8 e W [e x,e x] = (True,.bool true) := by
 unfold zk8
 exact congrArg (·,DV.bool true) (eq_true ⟨x,rfl,h⟩)
theorem OkP.mkE [Inhabited Env] {P : Program} {ps hs} {g : FuncId} {d : DFun} {α : Type} {e : α → DV} {W : α → Prop} (h1 : AllP P ps) (h2 : AllH P hs) (hm : mFun P g 2 d = true)
   (k : ∀ x,W x → dwp (Orc.of ps hs) 0 d.code (EndP d.res (.bool true)) ⟨[(0,e x),(1,e x)],[]⟩) : OkP P g (zk8 e W) := by
 refine OkP.mk h1 h2 hm fun args hp => ?_
 obtain ⟨x,rfl,hx⟩ := hp
 exact ⟨rfl,k x hx⟩
theorem za8 {α : Type} (c : α → List DV) {l : List α} {k : Nat} {x : α} (h : l[k]? = some x) : (l.map c).getD k [] = c x := by
 simp [List.getD,h]
theorem zci {k n : Nat} (h : k < n) (hn : n < 9223372036854775808) : IntKind.i64.wrap ((k : Int) + 1) = ((k + 1 : Nat) : Int) := by rw [zt (by omega)]; omega
def InjL {α β : Type} (c : α → β) : Prop := ∀ x y,c x = c y → x = y
open Classical in
noncomputable def zgt {ρ α : Type} (o : ρ → DObj) (args : α → List DV) (f : ρ → α → Prop × DV × ρ) (g : α → Prop × DV) : List DV → List DObj → Res := fun a hp =>
 if h : ∃ x : Nat × ρ × α,a = .ptr x.1 1 0 0 :: args x.2.2 ∧ hp[x.1]? = some (o x.2.1) then
   ⟨(f h.choose.2.1 h.choose.2.2).1,(f h.choose.2.1 h.choose.2.2).2.1,hp.set h.choose.1 (o (f h.choose.2.1 h.choose.2.2).2.2)⟩
 else if h : ∃ x : α,a = .nilp :: args x then ⟨(g h.choose).1,(g h.choose).2,hp⟩
 else no
theorem zcb {ρ α : Type} {o : ρ → DObj} {args : α → List DV} (ho : InjL o) (ha : InjL args) (f : ρ → α → Prop × DV × ρ) (g : α → Prop × DV) {n : Nat} {hp : List DObj} {r : ρ} (hh : hp[n]? = some (o r)) (a : α) :
   zgt o args f g (.ptr n 1 0 0 :: args a) hp = ⟨(f r a).1,(f r a).2.1,hp.set n (o (f r a).2.2)⟩ := by
 unfold zgt
 have hx : ∃ x : Nat × ρ × α,.ptr n 1 0 0 :: args a = .ptr x.1 1 0 0 :: args x.2.2 ∧ hp[x.1]? = some (o x.2.1) := ⟨(n,r,a),rfl,hh⟩
 rw [dif_pos hx]
 have hy := hx.choose_spec
 generalize hx.choose = x at hy ⊢
 obtain ⟨m,r',a'⟩ := x
 obtain ⟨h1,h2⟩ := hy
 have h3 := List.cons.inj h1
 injection h3.1 with h4
 dsimp only at *
 subst h4
 have h5 := ha _ _ h3.2
 subst h5
 rw [hh] at h2
 injection h2 with h2
 have h6 := ho _ _ h2
 subst h6
 rfl
theorem zuu {ρ α : Type} {o : ρ → DObj} {args : α → List DV} (ha : InjL args) (f : ρ → α → Prop × DV × ρ) (g : α → Prop × DV) (hp : List DObj) (a : α) :
   zgt o args f g (.nilp :: args a) hp = ⟨(g a).1,(g a).2,hp⟩ := by
 unfold zgt
 have hn : ¬ ∃ x : Nat × ρ × α,.nilp :: args a = .ptr x.1 1 0 0 :: args x.2.2 ∧ hp[x.1]? = some (o x.2.1) := by
   rintro ⟨x,h1,_⟩
   have := (List.cons.inj h1).1
   cases this
 rw [dif_neg hn]
 have hx : ∃ x : α,.nilp :: args a = .nilp :: args x := ⟨a,rfl⟩
 rw [dif_pos hx]
 have hy := hx.choose_spec
 generalize hx.choose = x at hy ⊢
 have h3 := ha _ _ (List.cons.inj hy).2
 subst h3
 rfl
theorem OkH.mkM [Inhabited Env] {P : Program} {ps hs} {fn : FuncId} {d : DFun} {N : Nat} {ρ α : Type} {o : ρ → DObj} {args : α → List DV} {f : ρ → α → Prop × DV × ρ} {g : α → Prop × DV} (h1 : AllP P ps) (h2 : AllH P hs) (hm : mFun P fn N d = true)
   (hN : ∀ a,(args a).length + 1 = N)
   (k : ∀ n hp r a,hp[n]? = some (o r) → n < hp.length → (f r a).1 → dwp (Orc.of ps hs) hp.length d.code (EndH d.res (f r a).2.1 (hp.set n (o (f r a).2.2))) ⟨(0,.ptr n 1 0 0) :: za 1 (args a),hp⟩)
   (kn : ∀ hp a,(g a).1 → dwp (Orc.of ps hs) hp.length d.code (EndH d.res (g a).2 hp) ⟨(0,.nilp) :: za 1 (args a),hp⟩) : OkH P fn (zgt o args f g) := by
 refine OkH.mk h1 h2 hm fun a hp hpre => ?_
 unfold zgt at hpre ⊢
 split at hpre
 · rename_i h
   rw [dif_pos h]
   have hx := h.choose_spec
   generalize h.choose = x at hx hpre ⊢
   obtain ⟨rfl,hx⟩ := hx
   refine ⟨hN _,k _ _ _ _ hx ?_ hpre⟩
   exact (List.getElem?_eq_some_iff.1 hx).1
 · rename_i h
   rw [dif_neg h]
   split at hpre
   · rename_i h'
     rw [dif_pos h']
     have hx := h'.choose_spec
     generalize h'.choose = x at hx hpre ⊢
     subst hx
     exact ⟨hN _,kn _ _ hpre⟩
   · exact hpre.elim
theorem zb8 {hp : List DObj} {n : Nat} {x : DObj} (h : hp[n]? = some x) : hp.set n x = hp := by
 obtain ⟨hl,rfl⟩ := List.getElem?_eq_some_iff.1 h
 exact List.set_getElem_self hl
theorem z4 {n : Nat} {hp : List DObj} {o : DObj} : Only (some n) hp (hp.set n o) := by
 intro h _ e
 have : n ≠ h := fun c => e (congrArg some c)
 rw [List.getElem?_set_ne this]
theorem z96 {x : Option Nat} {hp : List DObj} : Only x hp hp := fun _ _ _ => rfl
theorem yay {a b : DObj} {l l' : List DObj} (hl : l' = l) : Only (some 0) (a :: l) (b :: l') := by
 subst hl
 intro h _ e
 cases h with
 | zero => exact absurd rfl e
 | succ n => simp
theorem yab {k : Nat} {a b : DObj} {l l' : List DObj} (hb : b = a) (h : Only (some k) l l') : Only (some (k + 1)) (a :: l) (b :: l') := by
 subst hb
 intro i hi e
 cases i with
 | zero => simp
 | succ n => simpa using h n (by simpa using hi) (fun c => e (by injection c with c; rw [c]))
theorem zbc {β : Type} (c : Unit → β) : InjL c := fun _ _ _ => rfl
theorem zew : InjL (fun n : Int => [DV.int .i64 n]) := fun x y h => by
 simp only [List.cons.injEq,DV.int.injEq,true_and,and_true] at h
 exact h
theorem beq_ft : (false == true) = false := rfl
theorem beq_tf : (true == false) = false := rfl
theorem bne_ft : (false != true) = true := rfl
theorem bne_tf : (true != false) = true := rfl
theorem zcf (f : List UInt8 → Prop × DV) : zby f [.sl []] = f [] := by simp [zby,unb]
theorem z1q (f : List UInt8 → List UInt8 → Prop × DV) (l : List UInt8) : zgo f [.sl [],.sl (bsl l)] = f [] l := by simp [zgo,unb,znd]
theorem z14 (f : List UInt8 → List UInt8 → Prop × DV) (l : List UInt8) : zgo f [.sl (bsl l),.sl []] = f l [] := by simp [zgo,unb,znd]
theorem z21 (f : List UInt8 → List UInt8 → Prop × DV) : zgo f [.sl [],.sl []] = f [] [] := by simp [zgo,unb]
@[reducible] def eI (n : Int) : DV := .int .i64 n
@[reducible] def eBs (l : List UInt8) : DV := .sl (bsl l)
@[reducible] def eL {α : Type} (c : α → List DV) (l : List α) : DV := .sl (l.map c)
@[reducible] def eA {α : Type} (c : α → List DV) (x : α) : DV := .agg (c x)
theorem z2d : Inj eI := fun _ _ h => by cases h; rfl
theorem zfo {l l' : List UInt8} (h : bsl l = bsl l') : l = l' := by
 have := znd l
 rw [h,znd] at this
 injection this with this
 exact this.symm
theorem zfu : Inj eBs := fun _ _ h => by
 injection h with h
 exact zfo h
theorem zk3 {α : Type} {c : α → List DV} (hc : ∀ x y,c x = c y → x = y) : ∀ l l' : List α,l.map c = l'.map c → l = l'
 | [],[],_ => rfl
 | [],_ :: _,h => by simp at h
 | _ :: _,[],h => by simp at h
 | x :: l,y :: l',h => by
   simp only [List.map_cons,List.cons.injEq] at h
   rw [hc x y h.1,zk3 hc l l' h.2]
theorem yaq {α : Type} {c : α → List DV} (hc : ∀ x y,c x = c y → x = y) : Inj (eL c) := fun _ _ h => by
 injection h with h
 exact zk3 hc _ _ h
theorem inj_A {α : Type} {c : α → List DV} (hc : ∀ x y,c x = c y → x = y) : Inj (eA c) := fun _ _ h => by
 injection h with h
 exact hc _ _ h
end Go.Nk
