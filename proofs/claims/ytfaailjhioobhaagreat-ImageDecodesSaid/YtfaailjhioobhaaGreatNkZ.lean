/- Shapes of arguments: what a type's values are at the data level, by a table that the kernel reckons; how they come of data of Lean's own. -/
import Derived.Test.YtfaailjhioobhaaGreatNkY
set_option linter.all false
namespace Go.Nk
inductive Sh where
 | int (k : IntKind)
 | bool
 | str
 | slice (s : Sh)
 | ptr (s : Sh)
 | struct (ss : List Sh)
def zwp {α β : Type} (f : α → β → Bool) : List α → List β → Bool
 | [],[] => true
 | a :: as,b :: bs => f a b && zwp f as bs
 | _,_ => false
def zen (P : Program) : Nat → TypeId → Sh → Bool
 | 0,_,_ => false
 | n + 1,t,s =>
   match P.underlying t,s with
   | some (.int k),.int k' => decide (k = k')
   | some .bool,.bool => true
   | some .string,.str => true
   | some (.slice e),.slice s => zen P n e s
   | some (.pointer e),.ptr s => zen P n e s
   | some (.struct fs),.struct ss => zwp (fun f s => zen P n f.type s) fs.toList ss
   | some (.array k e),.struct ss => ss.length == k && ss.all fun s => zen P n e s
   | _,_ => false
mutual
def HasS : Sh → List DV → Prop
 | .int k,ds => ∃ i,ds = [.int k i] ∧ (Lit.int k i).wf = true
 | .bool,ds => ∃ b,ds = [.bool b]
 | .str,ds => ∃ s,ds = [.str s] ∧ s.length ≤ zhg
 | .slice s,ds => ∃ es,ds = [.sl es] ∧ lenW es ≤ zhg ∧ ∀ x ∈ es,HasS s x
 | .ptr s,ds => ds = [.nilp] ∨ ∃ r,ds = [.ref r] ∧ HasS s r
 | .struct ss,ds => zpo ss ds
def zpo : List Sh → List DV → Prop
 | [],ds => ds = []
 | s :: ss,ds => ∃ a b,ds = a ++ b ∧ HasS s a ∧ zpo ss b
end
theorem zni {P : Program} : ∀ (n : Nat) (t : TypeId) (s : Sh),zen P n t s = true → ∀ m ds,Has P m t ds → (∀ L ∈ zc8 ds,L ≤ zhg) → HasS s ds
 | 0,_,_,h,_,_,_,_ => by simp [zen] at h
 | n + 1,t,s,h,0,_,hd,_ => hd.elim
 | n + 1,t,s,h,m + 1,ds,hd,hsm => by
   unfold zen at h
   unfold Has at hd
   split at h
   · rename_i k k' e
     simp only [e] at hd
     simp only [decide_eq_true_eq] at h
     subst h
     unfold HasS
     exact hd
   · rename_i e
     simp only [e] at hd
     unfold HasS
     exact hd
   · rename_i e
     simp only [e] at hd
     unfold HasS
     obtain ⟨s,rfl,_⟩ := hd
     exact ⟨s,rfl,hsm _ (by simp [zc8,DV.lens])⟩
   · rename_i el s' e
     simp only [e] at hd
     obtain ⟨es,h1,h2,h3⟩ := hd
     unfold HasS
     subst h1
     have hrow : ∀ (es : List (List DV)),(∀ L ∈ zrn es,L ≤ zhg) → ∀ x ∈ es,∀ L ∈ zc8 x,L ≤ zhg := by
       intro es
       induction es with
       | nil => intro _ x hx; simp at hx
       | cons e es ih =>
         intro hs x hx L hL
         simp only [zrn,List.mem_append] at hs
         rcases List.mem_cons.1 hx with rfl | hx
         · exact hs L (.inl hL)
         · exact ih (fun L hL => hs L (.inr hL)) x hx L hL
     exact ⟨es,rfl,hsm _ (by simp [zc8,DV.lens]),fun x hx => zni n el s' h m x (h3 x hx) (hrow es (fun L hL => hsm L (by simp [zc8,DV.lens,hL])) x hx)⟩
   · rename_i el s' e
     simp only [e] at hd
     unfold HasS
     rcases hd with hd | ⟨r,rfl,h2⟩
     · exact .inl hd
     · exact .inr ⟨r,rfl,zni n el s' h m r h2 fun L hL => hsm L (by simpa [zc8,DV.lens] using hL)⟩
   · rename_i fs ss e
     simp only [e] at hd
     unfold HasS
     have key : ∀ (fs : List Field) (ss : List Sh) (ds : List DV),zwp (fun f s => zen P n f.type s) fs ss = true → HasL (Has P m) fs ds → (∀ L ∈ zc8 ds,L ≤ zhg) → zpo ss ds := by
       intro fs
       induction fs with
       | nil => intro ss ds h hd _; cases ss with
         | nil => unfold zpo; exact hd
         | cons => simp [zwp] at h
       | cons f fs ih => intro ss ds h hd hs; cases ss with
         | nil => simp [zwp] at h
         | cons s ss =>
           simp only [zwp,Bool.and_eq_true] at h
           obtain ⟨a,b,rfl,ha,hb⟩ := hd
           unfold zpo
           rw [ze1] at hs
           exact ⟨a,b,rfl,zni n _ s h.1 m a ha (fun L hL => hs L (List.mem_append.2 (.inl hL))),ih ss b h.2 hb fun L hL => hs L (List.mem_append.2 (.inr hL))⟩
     exact key _ _ _ h hd hsm
   · rename_i k e' ss e
     simp only [e] at hd
     simp only [Bool.and_eq_true,beq_iff_eq,List.all_eq_true] at h
     unfold HasS
     have key : ∀ (k : Nat) (ss : List Sh) (ds : List DV),ss.length = k → (∀ s ∈ ss,zen P n e' s = true) → HasN (Has P m e') k ds → (∀ L ∈ zc8 ds,L ≤ zhg) → zpo ss ds := by
       intro k
       induction k with
       | zero => intro ss ds hl h hd _; cases ss with
         | nil => unfold zpo; exact hd
         | cons => cases hl
       | succ k ih => intro ss ds hl h hd hs; cases ss with
         | nil => cases hl
         | cons s ss =>
           obtain ⟨a,b,rfl,ha,hb⟩ := hd
           unfold zpo
           rw [ze1] at hs
           exact ⟨a,b,rfl,zni n _ s (h s (by simp)) m a ha (fun L hL => hs L (List.mem_append.2 (.inl hL))),ih ss b (by simpa using hl) (fun s hs => h s (by simp [hs])) hb fun L hL => hs L (List.mem_append.2 (.inr hL))⟩
     exact key _ _ _ h.1 h.2 hd hsm
   · cases h
def zgr {α : Type} (s : Sh) (c : α → List DV) (W : α → Prop) : Prop := ∀ ds,HasS s ds → ∃ a,ds = c a ∧ W a
theorem zgr.int : zgr (.int .i64) (fun n => [.int .i64 n]) (fun n : Int => -9223372036854775808 ≤ n ∧ n < 9223372036854775808) := by
 intro ds h
 unfold HasS at h
 obtain ⟨i,rfl,hw⟩ := h
 have : -9223372036854775808 ≤ i ∧ i ≤ 9223372036854775807 := by simpa [Lit.wf,IntKind.min,IntKind.max,IntKind.signed,IntKind.bits] using hw
 exact ⟨i,rfl,this.1,by omega⟩
theorem zgr.bool : zgr .bool (fun b => [.bool b]) (fun _ : Bool => True) := by
 intro ds h
 unfold HasS at h
 obtain ⟨i,rfl⟩ := h
 exact ⟨i,rfl,trivial⟩
theorem zgr.str : zgr .str (fun s => [.str s]) (fun s : List UInt8 => s.length ≤ zhg) := by
 intro ds h
 unfold HasS at h
 obtain ⟨i,rfl,h⟩ := h
 exact ⟨i,rfl,h⟩
theorem z39 {α : Type} {c : α → List DV} {W : α → Prop} : ∀ es : List (List DV),(∀ x ∈ es,∃ a,x = c a ∧ W a) → ∃ l : List α,es = l.map c ∧ ∀ a ∈ l,W a
 | [],_ => ⟨[],rfl,by simp⟩
 | x :: es,h => by
   obtain ⟨l,rfl,hl⟩ := z39 es fun y hy => h y (by simp [hy])
   obtain ⟨a,rfl,ha⟩ := h x (by simp)
   exact ⟨a :: l,rfl,by intro b hb; rcases List.mem_cons.1 hb with rfl | hb; exact ha; exact hl b hb⟩
theorem zgr.slice {α : Type} {s : Sh} {c : α → List DV} {W : α → Prop} (h : zgr s c W) : zgr (.slice s) (fun l : List α => [.sl (l.map c)]) (fun l => l.length ≤ zhg ∧ ∀ a ∈ l,W a) := by
 intro ds hd
 unfold HasS at hd
 obtain ⟨es,rfl,hl,hx⟩ := hd
 obtain ⟨l,rfl,hw⟩ := z39 es fun x hx' => h x (hx x hx')
 exact ⟨l,rfl,by simpa using Nat.le_trans (z8r _) hl,hw⟩
theorem zgr.bytes : zgr (.slice (.int .u8)) (fun l : List UInt8 => [.sl (bsl l)]) (fun l => l.length ≤ zhg) := by
 intro ds hd
 unfold HasS at hd
 obtain ⟨es,rfl,hl,hx⟩ := hd
 obtain ⟨l,rfl⟩ := zwh es fun x hx' => by have := hx x hx'; unfold HasS at this; exact this
 exact ⟨l,rfl,by simpa [zab] using Nat.le_trans (z8r _) hl⟩
theorem zgr.cons {α β : Type} {s : Sh} {ss : List Sh} {c : α → List DV} {W : α → Prop} {c' : β → List DV} {W' : β → Prop} (h : zgr s c W) (h' : ∀ ds,zpo ss ds → ∃ b,ds = c' b ∧ W' b) :
   ∀ ds,zpo (s :: ss) ds → ∃ x : α × β,ds = c x.1 ++ c' x.2 ∧ W x.1 ∧ W' x.2 := by
 intro ds hd
 unfold zpo at hd
 obtain ⟨a,b,rfl,ha,hb⟩ := hd
 obtain ⟨x,rfl,hx⟩ := h a ha
 obtain ⟨y,rfl,hy⟩ := h' b hb
 exact ⟨(x,y),rfl,hx,hy⟩
theorem zgr.nil : ∀ ds,zpo [] ds → ∃ b : Unit,ds = (fun _ => []) b ∧ True := by
 intro ds hd
 unfold zpo at hd
 exact ⟨(),hd,trivial⟩
theorem zgr.struct {α : Type} {ss : List Sh} {c : α → List DV} {W : α → Prop} (h : ∀ ds,zpo ss ds → ∃ b,ds = c b ∧ W b) : zgr (.struct ss) c W := by
 intro ds hd
 unfold HasS at hd
 exact h ds hd
theorem zgr.as {α β : Type} {s : Sh} {c : α → List DV} {W : α → Prop} {c' : β → List DV} {W' : β → Prop} (h : zgr s c W) (f : α → β) (e : ∀ a,c a = c' (f a)) (w : ∀ a,W a → W' (f a)) : zgr s c' W' := by
 intro ds hd
 obtain ⟨a,rfl,ha⟩ := h ds hd
 exact ⟨f a,e a,w a ha⟩
def zlh : Sh → Bool
 | .struct _ => true
 | _ => false
theorem z7l {P : Program} {t : TypeId} {d : DV} {s : Sh} {n : Nat} (hm : zen P n t s = true) {α : Type} {c : α → List DV} {W : α → Prop} (h : zgr s c W) (hd : HasV P t d) :
   ∃ a,d = (if zlh s then .agg (c a) else (c a).headD .undef) ∧ W a ∧ (zlh s = false → c a = [d]) := by
 have hsm := hd.2
 replace hd := hd.1
 unfold HasV0 at hd
 have hs : zlh s = (match P.underlying t with | some (.struct _) => true | some (.array _ _) => true | _ => false) := by
   cases n with
   | zero => simp [zen] at hm
   | succ n =>
     unfold zen at hm
     split at hm <;> first | (rename_i e; simp [zlh,e]; done) | cases hm
 split at hd
 · rename_i fs e
   rw [e] at hs
   obtain ⟨ds,rfl,hd⟩ := hd
   obtain ⟨a,rfl,ha⟩ := h ds (zni n t s hm 8 ds hd (by simpa [z2n,DV.lens] using hsm))
   exact ⟨a,by simp [hs],ha,by simp [hs]⟩
 · rename_i k e' e
   rw [e] at hs
   obtain ⟨ds,rfl,hd⟩ := hd
   obtain ⟨a,rfl,ha⟩ := h ds (zni n t s hm 8 ds hd (by simpa [z2n,DV.lens] using hsm))
   exact ⟨a,by simp [hs],ha,by simp [hs]⟩
 · rename_i hne hne2
   have hs' : zlh s = false := by
     rw [hs]
     split
     · rename_i e; exact absurd e (hne _)
     · rename_i e; exact absurd e (hne2 _ _)
     · rfl
   obtain ⟨a,e,ha⟩ := h [d] (zni n t s hm 8 [d] hd (by simpa [z2n,zc8] using hsm))
   exact ⟨a,by simp [hs',← e],ha,fun _ => e.symm⟩
theorem HasV_one {P : Program} {t : TypeId} {d : DV} {s : Sh} (hm : zen P 9 t s = true) (hs : zlh s = false) {α : Type} {c : α → List DV} {W : α → Prop} (h : zgr s c W) (hd : HasV P t d) : ∃ a,c a = [d] ∧ W a := by
 obtain ⟨a,_,h1,h2⟩ := z7l hm h hd
 exact ⟨a,h2 hs,h1⟩
end Go.Nk
