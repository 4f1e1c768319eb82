/- VmRuns. -/
import Derived.Test.YtjgefhgkinocmaaGreatVm9
import Derived.Test.YtjgefhgkinocmaaGreatVmL
set_option linter.all false
set_option maxRecDepth 20000
namespace Go.Proofs.YtjgefhgkinocmaaGreat
open Go.Nk
structure okA (code : List Ins) (cells : List Int) : Prop where
 ins : ∀ i ∈ code,in64 i.n
 ci : ∀ x ∈ cells,in64 x
 l1 : code.length <= 9223372036854775807
 l2 : cells.length <= 9223372036854775807
set_option linter.all false
set_option maxRecDepth 20000
open Go.Nk
theorem doR_17 (v : MS) (x : Ins) : (doR v x).1 ≠ 17 := by
 have p : ∀ v,zsi v ≠ 17 := fun v => by unfold zsi; split <;> decide
 have hu : ∀ op a,(unF op a).2 ≠ 17 := fun op a => by
   unfold unF; repeat' split
   all_goals (simp only; omega)
 have hb : ∀ op a b,(binF op a b).2 ≠ 17 := fun op a b => by
   unfold binF numF; repeat' split
   all_goals (simp only; omega)
 have h1 : ∀ v,(zkg v x).1 ≠ 17 := fun v => by
   unfold zkg; repeat' split
   all_goals first | (simp only; omega) | exact p _
 have h2 : ∀ v,(getR v x).1 ≠ 17 := fun v => by
   unfold getR; repeat' split
   all_goals first | (simp only; omega) | exact p _
 have h3 : ∀ v,(putR v x).1 ≠ 17 := fun v => by
   unfold putR; repeat' split
   all_goals first | (simp only; omega) | exact p _
 have h4 : ∀ v,(zmy v x).1 ≠ 17 := fun v => by
   by_cases c : x.o = 4
   . simp only [zmy,zso,zs4,c,↓reduceIte]; repeat' split
     all_goals first | (simp only; omega) | exact p _ | exact hu _ _
   . simp only [zmy,zso,zs4,c,↓reduceIte]; repeat' split
     all_goals first | (simp only; omega) | exact p _ | exact hb _ _ _
 unfold doR
 dsimp only
 repeat' split
 all_goals first | (simp only; omega) | exact p _ | exact h1 _ | exact h2 _ | exact h3 _ | exact h4 _
section
variable (code : List Ins) (hin : ∀ i ∈ code,in64 i.n) (hl : code.length <= 1000000)
theorem zu4 {v : MS} (h : okM v) (hp : v.pc <= 1000000) (hu : v.used + 1 <= 1000000) (hin : ∀ i ∈ code,in64 i.n) (hl : code.length <= 1000000) (c : ¬ (code.length : Int) <= v.pc) :
   After { v with used := v.used + 1 } (doR { v with used := v.used + 1 } (code.getD v.pc.toNat default)).2 1000000 := by
 have p0 := h.p0
 have u0 := h.u0
 have hx : v.pc.toNat < code.length := by omega
 have hi : in64 (code.getD v.pc.toNat default).n := hin _ (by rw [List.getD_eq_getElem?_getD,List.getElem?_eq_getElem hx]; exact List.getElem_mem hx)
 exact z11 (z07 h (x := v.used + 1) (by omega) (by omega)) (by simp only; omega) hi
include hin hl
theorem z6p : ∀ (k : Nat) (v : MS),okM v -> v.pc <= 1000000 -> v.used + k <= 1000000 -> (runN code k v).1 = 17 -> (runN code k v).2.used = v.used + k /\ ∀ m : Nat,v.used + k + m <= 1000000 -> v.used + k <= (runN code (k + m) v).2.used
 | 0,v,h,hp,hu,e => by
   refine ⟨?_,fun m hm => ?_⟩
   . unfold runN; split <;> (simp only; omega)
   . rw [Nat.zero_add]
     have := (zm1 code hin hl m v h hp (by omega)).2.2.1
     omega
 | k + 1,v,h,hp,hu,e => by
   have e' := e
   unfold runN at e'
   split at e'
   . simp at e'
   . rename_i c
     dsimp only at e'
     split at e'
     . exact absurd e' (doR_17 _ _)
     . rename_i c2
       have ha := zu4 code h hp (by omega) hin hl c
       have hq := ha.used
       simp only at hq
       obtain ⟨r1,r2⟩ := z6p k _ ha.ok ha.pc (by rw [hq]; omega) e'
       have un : ∀ j,runN code (j + 1) v = runN code j (doR { v with used := v.used + 1 } (code.getD v.pc.toNat default)).2 := fun j => by
         rw [runN]; rw [if_neg c]; dsimp only; rw [if_neg c2]
       rw [un k,r1,hq]
       refine ⟨by omega,fun m hm => ?_⟩
       have := r2 m (by rw [hq]; omega)
       rw [hq] at this
       rw [show k + 1 + m = (k + m) + 1 by omega,un]
       omega
theorem zvx : ∀ (k : Nat) (v : MS),(runN code k v).1 ≠ 17 -> ∀ m,runN code (k + m) v = runN code k v
 | 0,v,e,m => by
   unfold runN at e
   split at e
   . rename_i c
     cases m <;> simp [runN,c]
   . exact absurd rfl e
 | k + 1,v,e,m => by
   rw [show k + 1 + m = (k + m) + 1 by omega]
   rw [runN] at e |-
   rw [runN]
   split
   . rfl
   . rename_i c
     rw [if_neg c] at e
     dsimp only at e |-
     split
     . rfl
     . rename_i c2
       rw [if_neg c2] at e
       exact zvx k _ e m
theorem yc1 : ∀ (k : Nat) (v : MS),okM v -> v.pc <= 1000000 -> v.used + k <= 1000000 -> (runN code k v).1 ≠ 17 -> runN code ((runN code k v).2.used - v.used).toNat v = runN code k v
 | 0,v,h,hp,hu,e => by
   have : (runN code 0 v).2.used = v.used := by unfold runN; split <;> rfl
   rw [this,Int.sub_self]; rfl
 | k + 1,v,h,hp,hu,e => by
   by_cases c : (code.length : Int) <= v.pc
   . have : runN code (k + 1) v = (13,v) := by rw [runN]; rw [if_pos c]
     rw [this,Int.sub_self]
     show runN code 0 v = _
     rw [runN,if_pos c]
   . by_cases c2 : (doR { v with used := v.used + 1 } (code.getD v.pc.toNat default)).1 ≠ 0 \/ (code.getD v.pc.toNat default).o = 10
     . have un : ∀ j,runN code (j + 1) v = doR { v with used := v.used + 1 } (code.getD v.pc.toNat default) := fun j => by
         rw [runN]; rw [if_neg c]; dsimp only; rw [if_pos c2]
       have ha := zu4 code h hp (by omega) hin hl c
       have hq := ha.used
       simp only at hq
       rw [un k,hq,show (v.used + 1 - v.used).toNat = 0 + 1 by omega,un]
     . have un : ∀ j,runN code (j + 1) v = runN code j (doR { v with used := v.used + 1 } (code.getD v.pc.toNat default)).2 := fun j => by
         rw [runN]; rw [if_neg c]; dsimp only; rw [if_neg c2]
       have ha := zu4 code h hp (by omega) hin hl c
       have hq := ha.used
       simp only at hq
       rw [un k] at e |-
       have ih := yc1 k _ ha.ok ha.pc (by rw [hq]; omega) e
       have ge := (zm1 code hin hl k _ ha.ok ha.pc (by rw [hq]; omega)).2.2.1
       rw [hq] at ih ge
       obtain ⟨j,hj⟩ : ∃ j : Nat,(runN code k (doR { v with used := v.used + 1 } (code.getD v.pc.toNat default)).2).2.used - v.used = ((j + 1 : Nat) : Int) := ⟨((runN code k (doR { v with used := v.used + 1 } (code.getD v.pc.toNat default)).2).2.used - v.used - 1).toNat,by omega⟩
       rw [hj,Int.toNat_natCast,un j]
       have : ((runN code k (doR { v with used := v.used + 1 } (code.getD v.pc.toNat default)).2).2.used - (v.used + 1)).toNat = j := by omega
       rw [this] at ih
       exact ih
end
theorem vm_fuel {code : List Ins} {cells : List Int} {f0 f1 : Int} (h : okVm code cells (f0 + f1)) (g0 : 0 <= f0) (g1 : 0 <= f1) :
   (vmF code cells f0).2.1 <= f0 /\ (vmF code cells f0).2.1 <= (vmF code cells (f0 + f1)).2.1 /\
   ((vmF code cells f0).2.2 = 17 -> (vmF code cells f0).2.1 = f0 /\ (vmF code cells f0).1 = cells) /\
   ((vmF code cells f0).2.2 ≠ 17 -> vmF code cells (f0 + f1) = vmF code cells f0 /\ vmF code cells (vmF code cells f0).2.1 = vmF code cells f0) := by
 have hk := okM_0 h.c h.ci
 have hf := h.fuel
 have z : (m0 cells).used = 0 := rfl
 have hp : (m0 cells).pc <= 1000000 := by simp [m0]
 have e01 : (f0 + f1).toNat = f0.toNat + f1.toNat := by omega
 have ex : ∀ f,(vmF code cells f).2.2 = (runN code f.toNat (m0 cells)).1 /\ (vmF code cells f).2.1 = (runN code f.toNat (m0 cells)).2.used := fun f => by
   unfold vmF; dsimp only; split
   . exact ⟨rfl,rfl⟩
   . rename_i c; exact ⟨by simp only; omega,rfl⟩
 have ok0 := zm1 code h.ins h.len f0.toNat (m0 cells) hk hp (by rw [z]; omega)
 have ok1 := zm1 code h.ins h.len (f0 + f1).toNat (m0 cells) hk hp (by rw [z]; omega)
 rw [(ex f0).1,(ex f0).2,(ex (f0 + f1)).2]
 refine ⟨by rw [z] at ok0; omega,?_,fun e => ?_,fun e => ?_⟩
 . by_cases e : (runN code f0.toNat (m0 cells)).1 = 17
   . have a := z6p code h.ins h.len f0.toNat (m0 cells) hk hp (by rw [z]; omega) e
     have b := a.2 f1.toNat (by rw [z]; omega)
     rw [a.1,e01]
     exact b
   . rw [e01,zvx code h.ins h.len _ _ e]
     exact Int.le_refl _
 . have a := z6p code h.ins h.len f0.toNat (m0 cells) hk hp (by rw [z]; omega) e
   refine ⟨by rw [a.1,z]; omega,?_⟩
   unfold vmF
   simp [e]
 . have e1 := zvx code h.ins h.len _ _ e f1.toNat
   have e2 := yc1 code h.ins h.len f0.toNat (m0 cells) hk hp (by rw [z]; omega) e
   rw [z,Int.sub_zero] at e2
   refine ⟨?_,?_⟩
   . unfold vmF; rw [e01,e1]
   . unfold vmF; rw [e2]
end Go.Proofs.YtjgefhgkinocmaaGreat
