/- Every operation does what the data level says. -/
import Derived.Test.YtjgefhgkinocmaaGreatNkN
import Derived.Laws.LoneSync
set_option linter.all false
namespace Go.Nk
open Go.RowKit

section
variable {P : Program} {K F F' : Nat → Prop} {σ σ' : Nat → Option Nat} {hp hp' : List DObj} {w w' : World} {fr : List (Nat × DV)} {a : Act} {o : Oper} {C : Orc}

theorem mArgs_one {xs : Array Operand} {y : DA} (h : mArgs xs.toList [y] = true) : ∃ x, xs = #[x] ∧ mArg x y = true := by
  obtain ⟨l⟩ := xs
  match l, h with
  | [x], h => exact ⟨x, rfl, by simpa [mArgs] using h⟩
  | [], h => simp [mArgs] at h
  | _ :: _ :: _, h => simp [mArgs] at h

theorem mArgs_two {xs : Array Operand} {y z : DA} (h : mArgs xs.toList [y, z] = true) : ∃ x u, xs = #[x, u] ∧ mArg x y = true ∧ mArg u z = true := by
  obtain ⟨l⟩ := xs
  match l, h with
  | [x, u], h => exact ⟨x, u, rfl, by simpa [mArgs] using h⟩
  | [], h => simp [mArgs] at h
  | [_], h => simp [mArgs] at h
  | _ :: _ :: _ :: _, h => simp [mArgs] at h

theorem toList_one {α : Type} {ts : Array α} {t : α} (h : ts.toList = [t]) : ts = #[t] := by apply Array.ext'; simpa using h
theorem toList_two {α : Type} {ts : Array α} {t u : α} (h : ts.toList = [t, u]) : ts = #[t, u] := by apply Array.ext'; simpa using h

theorem alive_ptr {h L i j : Nat} {v : Value} (hv : VRep F σ hp w (.ptr h L i j) v) (ha : alive hp h L) : ∃ ob g, hp[h]? = some ob ∧ ob.k ≠ .dead ∧ ob.es.length = L ∧ σ h = some g ∧ v = .pointer (some ⟨g, i * ob.z + j, none⟩) := by
  obtain ⟨hl, hob⟩ := hv.ptr_inv
  unfold alive at ha
  cases hhp : hp[h]? with
  | none => simp [hhp] at ha
  | some ob =>
    simp only [hhp] at ha
    obtain ⟨g, hg, e⟩ := (hob ob hhp).2 ha.1 ha.2
    exact ⟨ob, g, rfl, ha.1, ha.2, hg, e⟩

/-- A pointer moved within its element. -/
theorem ptr_moved {h L i j : Nat} {ob : DObj} {g : Nat} (hob : hp[h]? = some ob) (hL : ob.es.length = L) (hg : σ h = some g) (k : Nat) : VRep F σ hp w (.ptr h L i (j + k)) (.pointer (some ⟨g, i * ob.z + j + k, none⟩)) := by
  refine .ptr _ _ _ _ _ rfl (lt_of_some hob) fun o ho => ?_
  rw [hob] at ho; injection ho with ho; subst ho
  exact ⟨by omega, fun _ _ => ⟨g, hg, by rw [Nat.add_assoc]⟩⟩

theorem mArgs_three {xs : Array Operand} {y z u : DA} (h : mArgs xs.toList [y, z, u] = true) : ∃ x1 x2 x3, xs = #[x1, x2, x3] ∧ mArg x1 y = true ∧ mArg x2 z = true ∧ mArg x3 u = true := by
  obtain ⟨l⟩ := xs
  match l, h with
  | [x1, x2, x3], h => exact ⟨x1, x2, x3, rfl, by simpa [mArgs] using h⟩
  | [], h => simp [mArgs] at h
  | [_], h => simp [mArgs] at h
  | [_, _], h => simp [mArgs] at h
  | _ :: _ :: _ :: _ :: _, h => simp [mArgs] at h

/-! sync/atomic's own functions. -/
theorem run_ext {f : FuncId} {xs : Array Operand} {ts : Array TypeId} {v : Value} (ho : o.op = .call { callee := .value (.func f), args := xs, argTypes := ts }) (h : (callFunc f (xs.map a.eval)).run P w = .ok (.value v) w') :
    (execOp a.eval o).run P w = .ok (.value v) w' := by
  have hx : a.eval (.func f) = .func (.func f) #[] #[] := rfl
  simp only [execOp, ho, resolve, hx, Deferred.ofValue, Sem.run_bind, Sem.run_pure, Result.andThen_ok, invoke, Array.empty_append, Array.append_empty]
  exact h
theorem at_of {x : At} {k : IntKind} {f : FuncId} (h : atOk P f x k = true) : ∃ fn n, P.funcs[f]? = some fn ∧ atName x k = some n ∧ fn.name = n ∧ fn.origin = "" ∧ fn.body.isNone = true := by
  unfold atOk at h
  split at h
  · rename_i fn n h1 h2
    simp only [Bool.and_eq_true, beq_iff_eq] at h
    exact ⟨fn, n, h1, h2, h.1.1, h.1.2, h.2⟩
  · cases h
theorem next_none {fn : Func} {n : String} (h1 : fn.name = n) (h2 : fn.origin = "") (hn : Extern.allNextRows.lookup n = none) : Extern.findNext fn = none := by
  have h3 : Extern.allNextRows.lookup "" = none := by kernel_rfl
  simp [Extern.findNext, h1, h2, hn, h3]
theorem find_some {fn : Func} {n : String} {e : Array Value → Sem Value} (h1 : fn.name = n) (hg : Extern.allGenericRows.lookup n = none) (ht : Extern.allTypedRows.lookup n = none) (ha : Extern.allRows.lookup n = some e) : Extern.find fn = some e := by
  simp [Extern.find, h1, hg, ht, ha]
theorem at_load {k : IntKind} {f : FuncId} (h : atOk P f .load k = true) {p : Addr} {x : Int} (hc : w.cell? p = some (.int k x)) : (callFunc f #[.pointer (some p)]).run P w = .ok (.value (.int k x)) w := by
  obtain ⟨fn, n, h1, h2, h3, h4, h5⟩ := at_of h
  cases k <;> simp only [atName, Option.some.injEq, reduceCtorEq] at h2 <;> subst h2
  · exact run_call_load h1 (by rw [h3]; decide) h5 (next_none h3 h4 (by kernel_rfl)) .i64 (find_some h3 (by kernel_rfl) (by kernel_rfl) (by kernel_rfl)) hc
  · exact run_call_load h1 (by rw [h3]; decide) h5 (next_none h3 h4 (by kernel_rfl)) .u32 (find_some h3 (by kernel_rfl) (by kernel_rfl) (by kernel_rfl)) hc
theorem at_store {k : IntKind} {f : FuncId} (h : atOk P f .store k = true) {p : Addr} {y : Int} {u : Value} (hc : w.cell? p = some u) (hz : w.frozen? p = false) : (callFunc f #[.pointer (some p), .int k y]).run P w = .ok (.value (.tuple #[])) (w.setCell p (.int k y)) := by
  obtain ⟨fn, n, h1, h2, h3, h4, h5⟩ := at_of h
  cases k <;> simp only [atName, Option.some.injEq, reduceCtorEq] at h2 <;> subst h2
  · exact run_call_store h1 (by rw [h3]; decide) h5 (next_none h3 h4 (by kernel_rfl)) (find_some h3 (by kernel_rfl) (by kernel_rfl) (by kernel_rfl)) hc hz
  · exact run_call_store h1 (by rw [h3]; decide) h5 (next_none h3 h4 (by kernel_rfl)) (find_some h3 (by kernel_rfl) (by kernel_rfl) (by kernel_rfl)) hc hz
theorem at_add {k : IntKind} {f : FuncId} (h : atOk P f .add k = true) {p : Addr} {x y : Int} (hc : w.cell? p = some (.int k x)) (hz : w.frozen? p = false) : (callFunc f #[.pointer (some p), .int k y]).run P w = .ok (.value (.int k (k.wrap (x + y)))) (w.setCell p (.int k (k.wrap (x + y)))) := by
  obtain ⟨fn, n, h1, h2, h3, h4, h5⟩ := at_of h
  cases k <;> simp only [atName, Option.some.injEq, reduceCtorEq] at h2 <;> subst h2
  · exact run_call_add h1 (by rw [h3]; decide) h5 (next_none h3 h4 (by kernel_rfl)) .i32 (find_some h3 (by kernel_rfl) (by kernel_rfl) (by kernel_rfl)) hc hz rfl
  · exact run_call_add h1 (by rw [h3]; decide) h5 (next_none h3 h4 (by kernel_rfl)) .i64 (find_some h3 (by kernel_rfl) (by kernel_rfl) (by kernel_rfl)) hc hz rfl
theorem at_cas {k : IntKind} {f : FuncId} (h : atOk P f .cas k = true) {p : Addr} {x y z : Int} (hc : w.cell? p = some (.int k x)) (hz : w.frozen? p = false) : (callFunc f #[.pointer (some p), .int k y, .int k z]).run P w = .ok (.value (.bool (decide (x = y)))) (if x = y then w.setCell p (.int k z) else w) := by
  obtain ⟨fn, n, h1, h2, h3, h4, h5⟩ := at_of h
  cases k <;> simp only [atName, Option.some.injEq, reduceCtorEq] at h2 <;> subst h2
  by_cases e : x = y
  · subst e
    rw [if_pos rfl, decide_eq_true rfl]
    exact run_call_cas_hit h1 (by rw [h3]; decide) h5 (next_none h3 h4 (by kernel_rfl)) .i32 (find_some h3 (by kernel_rfl) (by kernel_rfl) (by kernel_rfl)) hc hz
  · rw [if_neg e, decide_eq_false e]
    exact run_call_cas_miss h1 (by rw [h3]; decide) h5 (next_none h3 h4 (by kernel_rfl)) .i32 (find_some h3 (by kernel_rfl) (by kernel_rfl) (by kernel_rfl)) hc hz e
theorem load_int [Inhabited Env] (hs : SimH K F σ hp w) {d : DV} {v : Value} (hv : VRep F σ hp w d v) {r : Prop} {k : IntKind} {n : Int} (h : dLoad none (cellsAt hp d) = (r, .int k n)) (hr : r) : ∃ p, v = .pointer (some p) ∧ w.cell? p = some (.int k n) := by
  simp only [dLoad, Prod.mk.injEq] at h
  obtain ⟨h1, h2⟩ := h
  rw [← h1] at hr
  obtain ⟨b, rfl, hb, hc⟩ := cellsAt_rep hs hv hr.1
  have h0 : (cellsAt hp d).2[0]? = some (.int k n) := by
    rw [List.getD_eq_getElem?_getD] at h2
    cases hq : (cellsAt hp d).2[0]? with
    | none => rw [hq] at h2; simp at h2
    | some x => rw [hq] at h2; simpa using h2
  obtain ⟨u, hu, hr'⟩ := hc 0 _ h0
  have := hr'.int_inv
  subst this
  obtain ⟨bb, bo, bs⟩ := b
  simp only at hb
  subst hb
  exact ⟨_, rfl, by simpa using hu⟩
/-- A pointer to a cell of one's own. -/
theorem put_at [Inhabited Env] (hs : SimH K F σ hp w) {d e : DV} {v u : Value} {dr : DV} {vr : Value} (hv : VRep F σ hp w d v) (h : (dPut hp d e).pre)
    (he : ∀ (F : Nat → Prop) (σ : Nat → Option Nat) (hp : List DObj) (w : World), VRep F σ hp w e u) (hr : ∀ (F : Nat → Prop) (σ : Nat → Option Nat) (hp : List DObj) (w : World), VRep F σ hp w dr vr) :
    ∃ p, v = .pointer (some p) ∧ (∃ u, w.cell? p = some u) ∧ w.frozen? p = false ∧ Gives K F σ hp w dr (dPut hp d e).hp vr (w.setCell p u) := by
  unfold dPut at h ⊢
  cases d <;> simp only [no] at h ⊢ <;> try exact h.elim
  rename_i h' L i j
  cases hob : hp[h']? with
  | none => simp [hob] at h
  | some ob =>
    simp only [hob] at h ⊢
    obtain ⟨hk, hL, hi, hj⟩ := h
    obtain ⟨ob', g, h1, h2, h3, hg, e1⟩ := alive_ptr hv (by unfold alive; rw [hob]; exact ⟨by rw [hk]; simp, hL⟩)
    rw [hob] at h1; injection h1 with h1; subst h1
    rw [← hL] at hi
    obtain ⟨q1, q2, q3⟩ := g_put hs hob hk hg hi hj he hr
    exact ⟨_, e1, q1, q2, q3⟩
theorem x_xload [Inhabited Env] {f : FuncId} {xs : Array Operand} {ts : Array TypeId} {x1 : Operand} {p : DA} {k : IntKind} (hs : SimH K F σ hp w) (ho : o.op = .call { callee := .value (.func f), args := xs, argTypes := ts }) (hxs : xs = #[x1]) (h1 : atOk P f .load k = true)
    (hv : VRep F σ hp w (p.ev fr) (a.eval x1)) (h : (dval C (.xload k f p) ⟨fr, hp⟩).pre) : Meets P o a w (fun v w' => Gives K F σ hp w (dval C (.xload k f p) ⟨fr, hp⟩).val (dval C (.xload k f p) ⟨fr, hp⟩).hp v w') := by
  simp only [dval] at h ⊢
  split at h
  · rename_i r k' n e
    obtain ⟨hr, rfl⟩ := h
    simp only []
    obtain ⟨q, e1, e2⟩ := load_int hs hv e hr
    subst hxs
    exact meets_value ⟨_, w, run_ext ho (by simpa [e1] using at_load h1 e2), Gives.same hs (.imm (.int _ _))⟩
  · exact h.elim
theorem x_xstore [Inhabited Env] {f : FuncId} {xs : Array Operand} {ts : Array TypeId} {x1 x2 : Operand} {p v : DA} {k : IntKind} (hs : SimH K F σ hp w) (ho : o.op = .call { callee := .value (.func f), args := xs, argTypes := ts }) (hxs : xs = #[x1, x2]) (h1 : atOk P f .store k = true)
    (hp1 : VRep F σ hp w (p.ev fr) (a.eval x1)) (hv1 : VRep F σ hp w (v.ev fr) (a.eval x2)) (h : (dval C (.xstore k f p v) ⟨fr, hp⟩).pre) : Meets P o a w (fun u w' => Gives K F σ hp w (dval C (.xstore k f p v) ⟨fr, hp⟩).val (dval C (.xstore k f p v) ⟨fr, hp⟩).hp u w') := by
  simp only [dval] at h ⊢
  split at h
  · rename_i k' n e
    obtain ⟨hr, rfl⟩ := h
    simp only [e] at hv1 ⊢
    have e2 := hv1.int_inv
    obtain ⟨q, e1, ⟨u, hu⟩, hz, hg⟩ := put_at (K := K) (u := .int k' n) (dr := .tup []) (vr := .tuple #[]) hs hp1 hr (fun _ _ _ _ => .imm (.int _ _)) (fun _ _ _ _ => .tup [] #[] rfl (fun _ => undef) (fun j d hd => by simp at hd) (fun j d hd => by simp at hd))
    subst hxs
    exact meets_value ⟨_, _, run_ext ho (by simpa [e1, e2] using at_store h1 hu hz), hg⟩
  · exact h.elim
theorem x_xadd [Inhabited Env] {f : FuncId} {xs : Array Operand} {ts : Array TypeId} {x1 x2 : Operand} {p v : DA} {k : IntKind} (hs : SimH K F σ hp w) (ho : o.op = .call { callee := .value (.func f), args := xs, argTypes := ts }) (hxs : xs = #[x1, x2]) (h1 : atOk P f .add k = true)
    (hp1 : VRep F σ hp w (p.ev fr) (a.eval x1)) (hv1 : VRep F σ hp w (v.ev fr) (a.eval x2)) (h : (dval C (.xadd k f p v) ⟨fr, hp⟩).pre) : Meets P o a w (fun u w' => Gives K F σ hp w (dval C (.xadd k f p v) ⟨fr, hp⟩).val (dval C (.xadd k f p v) ⟨fr, hp⟩).hp u w') := by
  simp only [dval] at h ⊢
  split at h
  · rename_i r k1 x k2 y e e'
    obtain ⟨hr, hr2, rfl, rfl⟩ := h
    simp only [e'] at hv1 ⊢
    have e2 := hv1.int_inv
    obtain ⟨q', e3, e4⟩ := load_int hs hp1 e hr
    obtain ⟨q, e1, ⟨u, hu⟩, hz, hg⟩ := put_at (K := K) (u := .int k2 (k2.wrap (x + y))) (dr := .int k2 (k2.wrap (x + y))) (vr := .int k2 (k2.wrap (x + y))) hs hp1 hr2 (fun _ _ _ _ => .imm (.int _ _)) (fun _ _ _ _ => .imm (.int _ _))
    rw [e1] at e3
    injection e3 with e3; injection e3 with e3; subst e3
    subst hxs
    exact meets_value ⟨_, _, run_ext ho (by simpa [e1, e2] using at_add h1 e4 hz), hg⟩
  · exact h.elim
theorem x_xcas [Inhabited Env] {f : FuncId} {xs : Array Operand} {ts : Array TypeId} {x1 x2 x3 : Operand} {p v n : DA} {k : IntKind} (hs : SimH K F σ hp w) (ho : o.op = .call { callee := .value (.func f), args := xs, argTypes := ts }) (hxs : xs = #[x1, x2, x3]) (h1 : atOk P f .cas k = true)
    (hp1 : VRep F σ hp w (p.ev fr) (a.eval x1)) (hv1 : VRep F σ hp w (v.ev fr) (a.eval x2)) (hn1 : VRep F σ hp w (n.ev fr) (a.eval x3)) (h : (dval C (.xcas k f p v n) ⟨fr, hp⟩).pre) : Meets P o a w (fun u w' => Gives K F σ hp w (dval C (.xcas k f p v n) ⟨fr, hp⟩).val (dval C (.xcas k f p v n) ⟨fr, hp⟩).hp u w') := by
  simp only [dval] at h ⊢
  split at h
  · rename_i r k1 x k2 y k3 z e e' e''
    simp only [e', e''] at hv1 hn1 ⊢
    have e2 := hv1.int_inv
    have e5 := hn1.int_inv
    have hh : r ∧ (dPut hp (p.ev fr) (.int k z)).pre ∧ k1 = k ∧ k2 = k ∧ k3 = k := by split at h <;> exact h
    obtain ⟨hr, hr2, rfl, rfl, rfl⟩ := hh
    obtain ⟨q', e3, e4⟩ := load_int hs hp1 e hr
    obtain ⟨q, e1, ⟨u, hu⟩, hz, hg⟩ := put_at (K := K) (u := .int k3 z) (dr := .bool true) (vr := .bool true) hs hp1 hr2 (fun _ _ _ _ => .imm (.int _ _)) (fun _ _ _ _ => .imm (.bool _))
    rw [e1] at e3
    injection e3 with e3; injection e3 with e3; subst e3
    subst hxs
    have hrun := at_cas (z := z) (y := y) h1 e4 hz
    by_cases ee : x = y
    · rw [if_pos ee] at hrun ⊢
      rw [decide_eq_true ee] at hrun
      exact meets_value ⟨_, _, run_ext ho (by simpa [e1, e2, e5] using hrun), hg⟩
    · rw [if_neg ee] at hrun ⊢
      rw [decide_eq_false ee] at hrun
      exact meets_value ⟨_, _, run_ext ho (by simpa [e1, e2, e5] using hrun), Gives.same hs (.imm (.bool _))⟩
  · exact h.elim

def Sound [Inhabited Env] (P : Program) (K F : Nat → Prop) (σ : Nat → Option Nat) (hp : List DObj) (w : World) (fr : List (Nat × DV)) (a : Act) (C : Orc) (o : Oper) (d : DOp) : Prop :=
  (dval C d ⟨fr, hp⟩).pre → Meets P o a w (fun v w' => Gives K F σ hp w (dval C d ⟨fr, hp⟩).val (dval C d ⟨fr, hp⟩).hp v w')

theorem x_mvd [Inhabited Env] {x : Operand} {y : DA} (hs : SimH K F σ hp w) (ho : o.op = .move x ∨ o.op = .assign x) (hv : VRep F σ hp w (y.ev fr) (a.eval x)) (h : (dval C (.mvd y) ⟨fr, hp⟩).pre) :
    Meets P o a w (fun v w' => Gives K F σ hp w (dval C (.mvd y) ⟨fr, hp⟩).val (dval C (.mvd y) ⟨fr, hp⟩).hp v w') := by
  have run : (execOp a.eval o).run P w = .ok (.value (a.eval x)) w := by rcases ho with ho | ho <;> simp [execOp, ho]
  simp only [dval] at h ⊢
  cases he : y.ev fr <;> simp only [he, no] at h hv ⊢ <;> try exact h.elim
  rename_i h' L off len
  cases hob : hp[h']? with
  | none => simp [hob] at h
  | some ob =>
    simp only [hob] at h ⊢
    by_cases c : ob.k = .imm ∧ ob.es = []
    · rw [if_pos c] at h ⊢
      obtain ⟨rfl, rfl⟩ := h
      obtain ⟨A, cap, e, hle, hA⟩ := (hv.own_inv.2 ob hob).2 (by rw [c.1]; simp) (by rw [c.2]; rfl)
      refine meets_value ⟨a.eval x, w, run, .same hs (.imm ?_)⟩
      rw [e]
      exact IRep.sl_mk (es := []) (z := 0) (Nat.zero_le _) (fun i e he => by simp at he) (fun h => absurd rfl h)
    · rw [if_neg c] at h ⊢
      cases hob2 : (fzLL hp ob.es).hp[h']? with
      | none => simp [hob2] at h
      | some ob2 =>
        simp only [hob2] at h ⊢
        obtain ⟨k1, rfl, rfl, rfl, k2, k3, k4, k5⟩ := h
        obtain ⟨F1, f1, r1⟩ := deep_rep hs hob k1 hv k2 k3 k4 hob2 k5
        exact meets_value ⟨a.eval x, w, run, .of_frzd f1 (.same f1.1 (.imm r1))⟩

theorem VRep.immI {d : DV} {v : Value} (hb : d.immB = true) (h : VRep F σ hp w d v) : IRep F w d v := by
  cases h <;> first | assumption | (simp [DV.immB] at hb)

theorem only1_rep {hp2 : List DObj} {k : Nat} {ob : DObj} {d : DV} {v : Value} (h1 : hp[k]? = some ob) (h2 : hp2[k]? = some ob) (hb : onlyH1 k d = true) (h : VRep F σ hp w d v) : VRep F σ hp2 w d v := by
  unfold onlyH1 at hb
  rw [Bool.or_eq_true] at hb
  rcases hb with hb | hb
  · exact .imm (h.immI hb)
  · split at hb
    · rename_i h' L i j
      have e : h' = k := by simpa using hb
      subst e
      cases h with
      | imm h => exact .imm h
      | ptr _ _ _ _ _ q1 q2 q3 =>
        exact .ptr _ _ _ _ _ q1 (List.getElem?_eq_some_iff.1 h2).1 fun o ho => q3 o (by rw [h1]; rw [h2] at ho; exact ho)
    · cases hb
theorem only2_rep {hp2 : List DObj} {k : Nat} {ob : DObj} {d : DV} {v : Value} (h1 : hp[k]? = some ob) (h2 : hp2[k]? = some ob) (hb : onlyH2 k d = true) (h : VRep F σ hp w d v) : VRep F σ hp2 w d v := by
  unfold onlyH2 at hb
  rw [Bool.or_eq_true] at hb
  rcases hb with hb | hb
  · exact only1_rep h1 h2 hb h
  · split at hb
    · rename_i cs
      cases h with
      | imm h => exact .imm h
      | agg _ vs hl vv hv hr => exact .agg _ vs hl vv hv fun j d hd => only1_rep h1 h2 (List.all_eq_true.1 hb d (List.mem_of_getElem? hd)) (hr j d hd)
    · cases hb
theorem only_rep {hp2 : List DObj} {k : Nat} {ob : DObj} {d : DV} {v : Value} (h1 : hp[k]? = some ob) (h2 : hp2[k]? = some ob) (hb : onlyH k d = true) (h : VRep F σ hp w d v) : VRep F σ hp2 w d v := by
  unfold onlyH at hb
  rw [Bool.or_eq_true] at hb
  rcases hb with hb | hb
  · exact only2_rep h1 h2 hb h
  · split at hb
    · rename_i f cs
      cases h with
      | imm h => exact .imm h
      | meth _ _ vs hl vv hv hr => exact .meth _ _ vs hl vv hv fun j d hd => only2_rep h1 h2 (List.all_eq_true.1 hb d (List.mem_of_getElem? hd)) (hr j d hd)
    · cases hb
theorem immR_rep {σ2 : Nat → Option Nat} {hp2 : List DObj} {d : DV} {v : Value} (hb : immR d = true) (h : VRep F σ hp w d v) : VRep F σ2 hp2 w d v := by
  unfold immR at hb
  rw [Bool.or_eq_true] at hb
  rcases hb with hb | hb
  · exact .imm (h.immI hb)
  · split at hb
    · rename_i cs
      cases h with
      | imm h => exact .imm h
      | agg _ vs hl vv hv hr => exact .agg _ vs hl vv hv fun j d hd => .imm ((hr j d hd).immI (List.all_eq_true.1 hb d (List.mem_of_getElem? hd)))
    · cases hb

/-- The blocks of all other objects that may change. -/
def Oth (K : Nat → Prop) (σ : Nat → Option Nat) (hp : List DObj) (k b : Nat) : Prop := K b ∨ ∃ (h : Nat) (o : DObj), hp[h]? = some o ∧ h ≠ k ∧ o.k.mut ∧ σ h = some b

theorem mask_sim [Inhabited Env] (hs : SimH K F σ hp w) {k : Nat} {ob : DObj} (hob : hp[k]? = some ob) (hk : ob.k = .loc) (himm : ∀ r ∈ ob.es, ∀ d ∈ r, d.immB = true) :
    SimH (Oth K σ hp k) F σ (List.replicate k ⟨.dead, 0, []⟩ ++ [ob]) w := by
  have hget : ∀ h : Nat, ∀ o' : DObj, (List.replicate k (⟨.dead, 0, []⟩ : DObj) ++ [ob])[h]? = some o' → (h < k ∧ o' = ⟨.dead, 0, []⟩) ∨ (h = k ∧ o' = ob) := by
    intro h o' hh
    rcases Nat.lt_trichotomy h k with hl | hl | hl
    · rw [List.getElem?_append_left (by simpa using hl), List.getElem?_replicate, if_pos hl] at hh
      injection hh with hh
      exact .inl ⟨hl, hh.symm⟩
    · subst hl
      rw [List.getElem?_append_right (by simp)] at hh
      simp at hh
      exact .inr ⟨rfl, hh.symm⟩
    · rw [List.getElem?_eq_none (by simp; omega)] at hh
      cases hh
  refine ⟨fun h o' ho' => ?_, fun k1 k2 o1 o2 g e1 m1 e2 m2 s1 s2 => ?_, hs.fb, fun b hb => ?_, hs.tab⟩
  · rcases hget h o' ho' with ⟨_, rfl⟩ | ⟨rfl, rfl⟩
    · unfold ORep; trivial
    · have old := hs.obj _ _ hob
      unfold ORep at old ⊢
      rw [hk] at old ⊢
      dsimp only at old ⊢
      obtain ⟨g, hg, nF, nK, c, ty, hh, hcz, hzz, hcc⟩ := old
      refine ⟨g, hg, nF, fun hO => ?_, c, ty, hh, hcz, hzz, fun i j d hd => ?_⟩
      · rcases hO with hO | ⟨h', o2, q1, q2, q3, q4⟩
        · exact nK hO
        · exact q2 (hs.inj h' h o2 o' g q1 q3 hob (.inr hk) q4 hg)
      · obtain ⟨u, hu, hr⟩ := hcc i j d hd
        refine ⟨u, hu, .imm (hr.immI ?_)⟩
        unfold cellAt at hd
        cases hq : o'.es[i]? with
        | none => simp [hq] at hd
        | some row =>
          simp [hq] at hd
          exact himm row (List.mem_of_getElem? hq) d (List.mem_of_getElem? hd)
  · rcases hget k1 o1 e1 with ⟨_, rfl⟩ | ⟨rfl, rfl⟩
    · rcases m1 with m1 | m1 <;> cases m1
    · rcases hget k2 o2 e2 with ⟨_, rfl⟩ | ⟨rfl, rfl⟩
      · rcases m2 with m2 | m2 <;> cases m2
      · rfl
  · rcases hb with hb | ⟨h', o2, q1, _, q3, q4⟩
    · exact hs.kb b hb
    · exact hs.blk_lt q1 (by rcases q3 with q | q <;> rw [q] <;> simp) q4

theorem unmask [Inhabited Env] (hs : SimH K F σ hp w) {k : Nat} {ob o' : DObj} {val : DV} {hpr : List DObj} {v : Value} (hob : hp[k]? = some ob) (hk : ob.k = .loc)
    (ho' : hpr[k]? = some o') (hk' : o'.k = .loc) (hlen : o'.es.length = ob.es.length) (himm : ∀ r ∈ o'.es, ∀ d ∈ r, d.immB = true) (hv : immR val = true)
    (hg : Gives (Oth K σ hp k) F σ (List.replicate k ⟨.dead, 0, []⟩ ++ [ob]) w val hpr v w') : Gives K F σ hp w val (hp.set k o') v w' := by
  obtain ⟨F', σ', h1, h2, h3, h4⟩ := hg
  have hlt := lt_of_some hob
  have hmk : (List.replicate k (⟨.dead, 0, []⟩ : DObj) ++ [ob])[k]? = some ob := by
    rw [List.getElem?_append_right (by simp)]; simp
  obtain ⟨o2, q1, _, q3⟩ := h3.ob k ob hmk
  rw [ho'] at q1; injection q1 with q1; subst q1
  obtain ⟨_, hz, hσ, hbsz⟩ := q3 (by rw [hk']; simp) hlen
  have keepO : ∀ (h : Nat) (o2 : DObj) (g : Nat), h ≠ k → hp[h]? = some o2 → o2.k ≠ .dead → σ h = some g → w'.heap[g]? = w.heap[g]? ∧ (F' g → F g) := by
    intro h o2 g hne ho2 hd hg
    have mutc : o2.k.mut → w'.heap[g]? = w.heap[g]? ∧ (F' g → F g) := fun hm => by
      have hO : Oth K σ hp k g := .inr ⟨h, o2, ho2, hne, hm, hg⟩
      exact ⟨h2.keepK g hO, fun hF => (h2.new g hF).elim id fun hn => absurd hO hn⟩
    have old := hs.obj h o2 ho2
    unfold ORep at old
    split at old
    · exact absurd (by assumption) hd
    · exact mutc (.inl (by assumption))
    · rcases old with ⟨_, h0⟩ | ⟨g2, e1, e2, _⟩
      · rw [hg] at h0; cases h0
      · rw [hg] at e1; injection e1 with e1; subst e1
        exact ⟨h2.keepF g e2, fun _ => e2⟩
    · exact mutc (.inr (by assumption))
  have hget : ∀ h : Nat, (hp.set k o')[h]? = if h = k then some o' else hp[h]? := by
    intro h
    by_cases e : h = k
    · subst e; rw [if_pos rfl]; simp [hlt]
    · rw [if_neg e, List.getElem?_set_ne (Ne.symm e)]
  have hm : HM F σ hp w F' σ (hp.set k o') w' := by
    refine ⟨h3.mono, h3.keepF, by simp, fun h o2 ho2 => ?_⟩
    rw [hget]
    by_cases e : h = k
    · subst e
      rw [hob] at ho2; injection ho2 with ho2; subst ho2
      rw [if_pos rfl]
      exact ⟨_, rfl, by omega, fun _ _ => ⟨by rw [hk]; simp, hz, rfl, hbsz⟩⟩
    · rw [if_neg e]
      exact ⟨o2, ho2, Nat.le_refl _, fun hd _ => ⟨hd, rfl, rfl, fun g hg => bsz_of (keepO h o2 g e ho2 hd hg).1⟩⟩
  refine ⟨F', σ, ⟨fun h o2 ho2 => ?_, fun k1 k2 o1 o2 g e1 m1 e2 m2 s1 s2 => ?_, h1.fb, fun b hb => Nat.lt_of_lt_of_le (hs.kb b hb) h2.size, h1.tab⟩,
    ⟨h2.os, h2.tape, h2.output, h2.size, fun b hb => h2.keepK b (.inl hb), h2.keepF, h2.mono, fun b hb => (h2.new b hb).imp id fun hn hK => hn (.inl hK)⟩, hm, immR_rep hv h4⟩
  · rw [hget] at ho2
    by_cases e : h = k
    · rw [if_pos e] at ho2; injection ho2 with ho2; subst ho2
      subst e
      have new := h1.obj _ _ ho'
      unfold ORep at new ⊢
      rw [hk'] at new ⊢
      dsimp only at new ⊢
      obtain ⟨g, hg, nF, nK, c, ty, hh, hcz, hzz, hcc⟩ := new
      rw [hσ] at hg
      refine ⟨g, hg, nF, fun hK => nK (.inl hK), c, ty, hh, hcz, hzz, fun i j d hd => ?_⟩
      obtain ⟨u, hu, hr⟩ := hcc i j d hd
      refine ⟨u, hu, .imm (hr.immI ?_)⟩
      unfold cellAt at hd
      cases hq : o'.es[i]? with
      | none => simp [hq] at hd
      | some row =>
        simp [hq] at hd
        exact himm row (List.mem_of_getElem? hq) d (List.mem_of_getElem? hd)
    · rw [if_neg e] at ho2
      have old := hs.obj _ _ ho2
      unfold ORep at old ⊢
      split
      · trivial
      · rename_i hkk
        rw [hkk] at old; dsimp only at old
        rcases old with h0 | ⟨g, e1, e2, e3, e4⟩
        · exact .inl h0
        · obtain ⟨k1, k2⟩ := keepO h o2 g e ho2 (by rw [hkk]; simp) e1
          exact .inr ⟨g, e1, fun hF => e2 (k2 hF), e3, e4.mono k1 fun d v hr => ⟨hr.1.mono hm.mono hm.keepF, hr.2⟩⟩
      · rename_i hkk
        rw [hkk] at old; dsimp only at old
        rcases old with h0 | ⟨g, e1, e2, e4⟩
        · exact .inl h0
        · obtain ⟨k1, _⟩ := keepO h o2 g e ho2 (by rw [hkk]; simp) e1
          exact .inr ⟨g, e1, h2.mono g e2, e4.mono k1 fun d v hr => ⟨hr.1.mono hm.mono hm.keepF, hr.2⟩⟩
      · rename_i hkk
        rw [hkk] at old; dsimp only at old
        obtain ⟨g, e1, e2, e3, e4⟩ := old
        obtain ⟨k1, k2⟩ := keepO h o2 g e ho2 (by rw [hkk]; simp) e1
        exact ⟨g, e1, fun hF => e2 (k2 hF), e3, e4.mono k1 fun d v hr => hr.mono hm⟩
  · have orig : ∀ (h : Nat) (o2 : DObj), (hp.set k o')[h]? = some o2 → o2.k.mut → ∃ o3, hp[h]? = some o3 ∧ o3.k.mut := fun h o2 e m => by
      rw [hget] at e
      by_cases q : h = k
      · subst q; exact ⟨ob, hob, .inr hk⟩
      · rw [if_neg q] at e; exact ⟨o2, e, m⟩
    obtain ⟨p1, r1, t1⟩ := orig k1 o1 e1 m1
    obtain ⟨p2, r2, t2⟩ := orig k2 o2 e2 m2
    exact hs.inj k1 k2 p1 p2 g r1 t1 r2 t2 s1 s2

/-- An own slice of nothing reads as a slice of nothing. -/
theorem own_nil {σ2 : Nat → Option Nat} {hp2 : List DObj} {n off : Nat} {ob : DObj} {v : Value} (h : VRep F σ hp w (.own n 0 off 0) v) (ho : hp[n]? = some ob) (hk : ob.k = .imm) (hL : ob.es.length = 0) : VRep F σ2 hp2 w (.sl []) v := by
  obtain ⟨A, cap, rfl, hc, _⟩ := (h.own_inv.2 ob ho).2 (by rw [hk]; simp) hL
  exact .imm (.sl [] A 0 cap ⟨0, 0, none⟩ 0 (fun _ _ => .bool false) rfl hc (fun h => absurd rfl h) (by simp) (by simp [cellAt]) (by simp [cellAt]))

theorem unmask2 [Inhabited Env] (hs : SimH K F σ hp w) {k h n L off len : Nat} {ob o' od obj : DObj} {hpr : List DObj} {v : Value} (hob : hp[k]? = some ob) (hk : ob.k = .loc)
    (ho' : hpr[k]? = some o') (hk' : o'.k = .loc) (hlen : o'.es.length = ob.es.length) (himm : ∀ r ∈ o'.es, ∀ d ∈ r, d.immB = true)
    (hod : hp[h]? = some od) (hd1 : od.k = .dead) (hd2 : od.es = []) (hkn : k < n) (hn : hpr[n]? = some obj) (hj1 : obj.k = .imm) (hj2 : obj.es.length = L) (hL : L ≠ 0)
    (hg : Gives (Oth K σ hp k) F σ (List.replicate k ⟨.dead, 0, []⟩ ++ [ob]) w (.own n L off len) hpr v w') : Gives K F σ hp w (.own h L off len) ((hp.set k o').set h obj) v w' := by
  obtain ⟨F', σ', h1, h2, h3, h4⟩ := hg
  have hlt := lt_of_some hob
  have hlt2 := lt_of_some hod
  have hne : h ≠ k := fun e => by subst e; rw [hob] at hod; injection hod with hod; subst hod; rw [hk] at hd1; cases hd1
  have hmk : (List.replicate k (⟨.dead, 0, []⟩ : DObj) ++ [ob])[k]? = some ob := by
    rw [List.getElem?_append_right (by simp)]; simp
  obtain ⟨o2, q1, _, q3⟩ := h3.ob k ob hmk
  rw [ho'] at q1; injection q1 with q1; subst q1
  obtain ⟨_, hz, hσ, hbsz⟩ := q3 (by rw [hk']; simp) hlen
  have nobj := h1.obj _ _ hn
  unfold ORep at nobj
  rw [hj1] at nobj; dsimp only at nobj
  have hesn : obj.es ≠ [] := fun e => hL (by rw [← hj2, e]; rfl)
  obtain ⟨gn, gn1, gn2, gn3, gn4⟩ := nobj.resolve_left fun e => hesn e.1
  have keepO : ∀ (i : Nat) (o2 : DObj) (g : Nat), i ≠ k → hp[i]? = some o2 → o2.k ≠ .dead → σ i = some g → w'.heap[g]? = w.heap[g]? ∧ (F' g → F g) := by
    intro h o2 g hne ho2 hd hg
    have mutc : o2.k.mut → w'.heap[g]? = w.heap[g]? ∧ (F' g → F g) := fun hm => by
      have hO : Oth K σ hp k g := .inr ⟨h, o2, ho2, hne, hm, hg⟩
      exact ⟨h2.keepK g hO, fun hF => (h2.new g hF).elim id fun hn => absurd hO hn⟩
    have old := hs.obj h o2 ho2
    unfold ORep at old
    split at old
    · exact absurd (by assumption) hd
    · exact mutc (.inl (by assumption))
    · rcases old with ⟨_, h0⟩ | ⟨g2, e1, e2, _⟩
      · rw [hg] at h0; cases h0
      · rw [hg] at e1; injection e1 with e1; subst e1
        exact ⟨h2.keepF g e2, fun _ => e2⟩
    · exact mutc (.inr (by assumption))
  have hget : ∀ i : Nat, ((hp.set k o').set h obj)[i]? = if i = h then some obj else if i = k then some o' else hp[i]? := by
    intro i
    by_cases e : i = h
    · subst e; rw [if_pos rfl]; simp [hlt2]
    · rw [if_neg e, List.getElem?_set_ne (Ne.symm e)]
      by_cases e' : i = k
      · subst e'; rw [if_pos rfl]; simp [hlt]
      · rw [if_neg e', List.getElem?_set_ne (Ne.symm e')]
  let τ : Nat → Option Nat := fun i => if i = h then σ' n else σ i
  have τh : τ h = some gn := by simp only [τ, if_true, gn1]
  have τe : ∀ i, i ≠ h → τ i = σ i := fun i e => if_neg e
  have hm : HM F σ hp w F' τ ((hp.set k o').set h obj) w' := by
    refine ⟨h3.mono, h3.keepF, by simp, fun i o2 ho2 => ?_⟩
    rw [hget]
    by_cases e : i = h
    · subst e
      rw [hod] at ho2; injection ho2 with ho2; subst ho2
      rw [if_pos rfl]
      refine ⟨_, rfl, by rw [hd2]; simp, fun _ e2 => ?_⟩
      rw [hd2] at e2
      exact absurd (by rw [← hj2, e2]; rfl) hL
    · rw [if_neg e]
      by_cases e' : i = k
      · subst e'
        rw [hob] at ho2; injection ho2 with ho2; subst ho2
        rw [if_pos rfl]
        exact ⟨_, rfl, by omega, fun _ _ => ⟨by rw [hk]; simp, hz, τe _ e, hbsz⟩⟩
      · rw [if_neg e']
        exact ⟨o2, ho2, Nat.le_refl _, fun hd _ => ⟨hd, rfl, τe _ e, fun g hg => bsz_of (keepO i o2 g e' ho2 hd hg).1⟩⟩
  obtain ⟨_, hv4⟩ := h4.own_inv
  have hov := (hv4 obj hn).2 (by rw [hj1]; simp) hj2
  refine ⟨F', τ, ⟨fun i o2 ho2 => ?_, fun k1 k2 o1 o2 g e1 m1 e2 m2 s1 s2 => ?_, h1.fb, fun b hb => Nat.lt_of_lt_of_le (hs.kb b hb) h2.size, h1.tab⟩,
    ⟨h2.os, h2.tape, h2.output, h2.size, fun b hb => h2.keepK b (.inl hb), h2.keepF, h2.mono, fun b hb => (h2.new b hb).imp id fun hn hK => hn (.inl hK)⟩, hm, ?_⟩
  · rw [hget] at ho2
    by_cases e0 : i = h
    · rw [if_pos e0] at ho2; injection ho2 with ho2; subst ho2
      subst e0
      unfold ORep
      rw [hj1]; dsimp only
      exact .inr ⟨gn, τh, gn2, fun hK => gn3 (.inl hK), gn4⟩
    rw [if_neg e0] at ho2
    by_cases e : i = k
    · rw [if_pos e] at ho2; injection ho2 with ho2; subst ho2
      subst e
      have new := h1.obj _ _ ho'
      unfold ORep at new ⊢
      rw [hk'] at new ⊢
      dsimp only at new ⊢
      obtain ⟨g, hg, nF, nK, c, ty, hh, hcz, hzz, hcc⟩ := new
      rw [hσ] at hg
      refine ⟨g, (τe _ e0).trans hg, nF, fun hK => nK (.inl hK), c, ty, hh, hcz, hzz, fun i j d hd => ?_⟩
      obtain ⟨u, hu, hr⟩ := hcc i j d hd
      refine ⟨u, hu, .imm (hr.immI ?_)⟩
      unfold cellAt at hd
      cases hq : o'.es[i]? with
      | none => simp [hq] at hd
      | some row =>
        simp [hq] at hd
        exact himm row (List.mem_of_getElem? hq) d (List.mem_of_getElem? hd)
    · rw [if_neg e] at ho2
      have old := hs.obj _ _ ho2
      unfold ORep at old ⊢
      rw [τe _ e0]
      split
      · trivial
      · rename_i hkk
        rw [hkk] at old; dsimp only at old
        rcases old with h0 | ⟨g, e1, e2, e3, e4⟩
        · exact .inl h0
        · obtain ⟨k1, k2⟩ := keepO i o2 g e ho2 (by rw [hkk]; simp) e1
          exact .inr ⟨g, e1, fun hF => e2 (k2 hF), e3, e4.mono k1 fun d v hr => ⟨hr.1.mono hm.mono hm.keepF, hr.2⟩⟩
      · rename_i hkk
        rw [hkk] at old; dsimp only at old
        rcases old with h0 | ⟨g, e1, e2, e4⟩
        · exact .inl h0
        · obtain ⟨k1, _⟩ := keepO i o2 g e ho2 (by rw [hkk]; simp) e1
          exact .inr ⟨g, e1, h2.mono g e2, e4.mono k1 fun d v hr => ⟨hr.1.mono hm.mono hm.keepF, hr.2⟩⟩
      · rename_i hkk
        rw [hkk] at old; dsimp only at old
        obtain ⟨g, e1, e2, e3, e4⟩ := old
        obtain ⟨k1, k2⟩ := keepO i o2 g e ho2 (by rw [hkk]; simp) e1
        exact ⟨g, e1, fun hF => e2 (k2 hF), e3, e4.mono k1 fun d v hr => hr.mono hm⟩
  · have orig : ∀ (i : Nat) (o2 : DObj), i ≠ h → ((hp.set k o').set h obj)[i]? = some o2 → o2.k.mut → ∃ o3, hp[i]? = some o3 ∧ o3.k.mut := fun i o2 e0 e m => by
      rw [hget, if_neg e0] at e
      by_cases q : i = k
      · subst q; exact ⟨ob, hob, .inr hk⟩
      · rw [if_neg q] at e; exact ⟨o2, e, m⟩
    have far : ∀ (i : Nat) (o2 : DObj), i ≠ h → ((hp.set k o').set h obj)[i]? = some o2 → o2.k.mut → τ i = some gn → False := fun i o2 e0 e m s => by
      rw [τe _ e0] at s
      by_cases q : i = k
      · subst q
        have := h1.inj i n o' obj gn ho' (.inr hk') hn (.inl hj1) (hσ.trans s) gn1
        omega
      · obtain ⟨p, r, t⟩ := orig i o2 e0 e m
        exact gn3 (.inr ⟨i, p, r, q, t, s⟩)
    by_cases a1 : k1 = h
    · by_cases a2 : k2 = h
      · rw [a1, a2]
      · exfalso
        rw [a1, τh] at s1; injection s1 with s1; subst s1
        exact far k2 o2 a2 e2 m2 s2
    · by_cases a2 : k2 = h
      · exfalso
        rw [a2, τh] at s2; injection s2 with s2; subst s2
        exact far k1 o1 a1 e1 m1 s1
      · obtain ⟨p1, r1, t1⟩ := orig k1 o1 a1 e1 m1
        obtain ⟨p2, r2, t2⟩ := orig k2 o2 a2 e2 m2
        rw [τe _ a1] at s1
        rw [τe _ a2] at s2
        exact hs.inj k1 k2 p1 p2 g r1 t1 r2 t2 s1 s2
  · obtain ⟨A, cap, rfl, hc, hb⟩ := hov
    refine .own _ _ _ _ _ rfl (by simpa using hlt2) fun o ho => ?_
    rw [hget, if_pos rfl] at ho; injection ho with ho; subst ho
    refine ⟨Nat.le_of_eq hj2.symm, fun _ _ => ⟨A, cap, rfl, hc, hb.imp id fun ⟨g, g1, g2⟩ => ⟨g, ?_, g2⟩⟩⟩
    rw [τh, ← g1, gn1]

theorem op_sound [Inhabited Env] (hC : C.ok P) (hs : SimH K F σ hp w) (hf : FRep F σ hp w fr a.tmps) {op : Op} {d : DOp} (ho : o.op = op) (hm : mOp P op d = true) : Sound P K F σ hp w fr a C o d := by
  intro h
  unfold mOp at hm
  split at hm
  -- move, assign
  · exact (q_mv (.inl ho) hf hm).meets hs
  · exact (q_mv (.inr ho) hf hm).meets hs
  · rename_i x y
    obtain ⟨F1, f1, r1⟩ := fzV_rep hs (mArg_rep hf hm) h
    exact meets_value ⟨a.eval x, w, by simp [execOp, ho], .of_frzd f1 (.same f1.1 r1.bare)⟩
  · rename_i x y
    obtain ⟨F1, f1, r1⟩ := fzV_rep hs (mArg_rep hf hm) h
    exact meets_value ⟨a.eval x, w, by simp [execOp, ho], .of_frzd f1 (.same f1.1 r1.bare)⟩
  · exact x_mvd hs (.inl ho) (mArg_rep hf hm) h
  · exact x_mvd hs (.inr ho) (mArg_rep hf hm) h
  · rename_i x z y
    have hv := mArg_rep hf hm
    simp only [dval] at h ⊢
    cases he : y.ev fr <;> simp only [he, no] at h hv ⊢ <;> try exact h.elim
    exact meets_value (x_mkown hs (.inl ho) hv.nil_inv)
  · rename_i x z y
    have hv := mArg_rep hf hm
    simp only [dval] at h ⊢
    cases he : y.ev fr <;> simp only [he, no] at h hv ⊢ <;> try exact h.elim
    exact meets_value (x_mkown hs (.inr ho) hv.nil_inv)
  -- capacity
  · rename_i xs ts y
    simp only [Bool.and_eq_true] at hm
    obtain ⟨hm1, ht⟩ := hm
    obtain ⟨x, hxs, hx⟩ := mArgs_one hm1
    split at ht
    rotate_left
    · cases ht
    rename_i t hts
    obtain rfl := toList_one hts
    split at ht
    · rename_i e hte
      have hv := mArg_rep hf hx
      simp only [dval] at h ⊢
      cases he : y.ev fr <;> simp only [he, no] at h hv ⊢ <;> try exact h.elim
      exact (q_cap ho hxs hte hv.nil_inv).meets hs
    · cases ht
  -- pick
  · rename_i c x y c' x' y'
    simp only [Bool.and_eq_true] at hm
    simp only [dval] at h ⊢
    cases he : c'.ev fr <;> simp only [he, no] at h ⊢ <;> try exact h.elim
    rename_i b
    cases b
    · exact (q_pick ho hf hm.1.1 hm.1.2 hm.2 he).meets hs
    · exact (q_pick ho hf hm.1.1 hm.1.2 hm.2 he).meets hs
  -- bin
  · simp only [Bool.and_eq_true, decide_eq_true_eq] at hm
    obtain ⟨⟨rfl, h1⟩, h2⟩ := hm
    exact (q_bin ho hf h1 h2 h).meets hs
  · simp only [Bool.and_eq_true] at hm
    obtain ⟨⟨⟨h0, h1⟩, h2⟩, h3⟩ := hm
    split at h3
    · rename_i ht
      exact (q_beq ho h0 ht hf h1 h2 h).meets hs
    · cases h3
  · simp only [Bool.and_eq_true] at hm
    obtain ⟨⟨⟨h0, h1⟩, h2⟩, h3⟩ := hm
    split at h3
    · rename_i ht
      simp only [dval] at h ⊢
      revert h
      split
      · rename_i e1 e2
        intro h
        obtain ⟨ob, g, _, _, _, _, ev⟩ := alive_ptr (by have := mArg_rep hf h1; rw [e1] at this; exact this) h
        have ev2 := (by have := mArg_rep hf h2; rw [e2] at this; exact this.nilp_inv)
        have := (q_peq0 (F := F) (σ := σ) (hp := hp) (w := w) ho h0 ht ev ev2 (.inr rfl)).meets hs
        simpa using this
      · intro h
        exact (q_peq ho h0 ht hf h1 h2 h).meets hs
    · cases h3
  · simp only [Bool.and_eq_true] at hm
    obtain ⟨⟨⟨h0, h1⟩, h2⟩, h3⟩ := hm
    exact (q_aeq ho h0 h3 hf h1 h2 h).meets hs
  · rename_i op t x u n x'
    simp only [Bool.and_eq_true] at hm
    obtain ⟨⟨h0, h1⟩, h2⟩ := hm
    have hh : (dval C (.snil n x') ⟨fr, hp⟩).hp = hp := by
      simp only [dval] at h ⊢
      split at h <;> first | rfl | exact h.elim
    rw [hh]
    split at h2
    · rename_i e ht
      exact (q_snil ho h0 ht hf h1 h).meets hs
    · cases h2
  · simp only [Bool.and_eq_true, decide_eq_true_eq] at hm
    obtain ⟨rfl, h1⟩ := hm
    exact (q_un ho hf h1 h).meets hs
  -- conv
  · rename_i s t x k y
    simp only [Bool.and_eq_true] at hm
    have hv := mArg_rep hf hm.1.1
    simp only [dval] at h ⊢
    cases he : y.ev fr <;> simp only [he, no] at h hv ⊢ <;> try exact h.elim
    exact (q_conv ho hm.1.2 (isInt_eq hm.2) hv.int_inv).meets hs
  · rename_i s t x y
    simp only [Bool.and_eq_true] at hm
    have hv := mArg_rep hf hm.1.1
    simp only [dval] at h ⊢
    cases he : y.ev fr <;> simp only [he, no] at h hv ⊢ <;> try exact h.elim
    obtain ⟨⟨_, h1⟩, h2⟩ := hm
    split at h2
    · rename_i e ht
      exact meets_value (x_s2b hs ho h1 ht (isInt_eq h2) hv.str_inv)
    · cases h2
  · rename_i s t x y
    simp only [Bool.and_eq_true] at hm
    obtain ⟨⟨h0, h1⟩, h2⟩ := hm
    have hv := mArg_rep hf h0
    simp only [dval] at h ⊢
    obtain ⟨hp1, hp2, hp3⟩ := h
    have hstr : ∀ s, y.ev fr ≠ .str s := by intro s hs'; rw [hs'] at hp2; exact hp2
    split at h2
    · rename_i e hse
      obtain ⟨A, c, z, e1, hlc, hzz, hA, _⟩ := elemsOf_rep hs hv hp1 hstr
      refine (q_b2s ho hse (isInt_eq h2) (isStr_eq h1) e1 hp3 (fun hne => ?_) (fun _ _ _ => trivial)).meets hs
      obtain ⟨b, hb, hsp, _, hc⟩ := hA hne
      refine ⟨b, hb, hsp, fun i j d hd => ?_⟩
      obtain ⟨u, hu, _, hr⟩ := hc i j d hd
      have hz1 : z = 1 := by
        obtain ⟨e0, he0⟩ := List.exists_mem_of_ne_nil _ hne
        obtain ⟨k0, hk0, rfl⟩ := List.getElem_of_mem he0
        obtain ⟨n, hn⟩ := hp3 _ he0
        have := hzz k0 _ (List.getElem?_eq_getElem hk0)
        rw [hn] at this; simpa using this.symm
      subst hz1
      exact ⟨u, hu, hr⟩
    · cases h2
  -- a literal's bytes
  · rename_i s t x y
    simp only [Bool.and_eq_true] at hm
    obtain ⟨⟨h0, h1⟩, h2⟩ := hm
    have hv := mArg_rep hf h0
    have e0 : s = t := by simpa using h1
    subst e0
    simp only [dval] at h ⊢
    cases he : y.ev fr <;> simp only [he, no] at h hv ⊢ <;> try exact h.elim
    rename_i h' L off len
    cases hob : hp[h']? with
    | none => simp [hob] at h
    | some ob =>
      simp only [hob] at h ⊢
      obtain ⟨k1, rfl, rfl, rfl, k2⟩ := h
      split at h2
      · rename_i e ht
        exact meets_value (x_mark hs ho ht (isInt_eq h2) hob k1 hv k2)
      · cases h2
  -- a slice of an array
  · rename_i t x hi n y k
    simp only [Bool.and_eq_true] at hm
    obtain ⟨⟨h0, h1⟩, h2⟩ := hm
    have hv := mArg_rep hf h0
    have hv2 := mArg_rep hf h1
    simp only [dval] at h ⊢
    cases he : y.ev fr <;> simp only [he, no] at h hv ⊢ <;> try exact h.elim
    rename_i h' L i j
    cases he2 : k.ev fr <;> simp only [he2] at h hv2 ⊢ <;> try exact h.elim
    rename_i kk m
    cases hob : hp[h']? with
    | none => simp [hob] at h
    | some ob =>
      simp only [hob] at h ⊢
      obtain ⟨k1, rfl, rfl, rfl, k2, k3, k4, k5, k6, k7⟩ := h
      split at h2
      · rename_i e0 n0 e ht
        simp only [Bool.and_eq_true, beq_iff_eq] at h2
        obtain ⟨rfl, h2⟩ := h2
        split at h2
        · rename_i inf hinf
          exact meets_value (x_slA hs ho ht hinf (by simpa using h2) hob k1 k2 k3 k4 k5 k6 k7 hv hv2.int_inv)
        · cases h2
      · cases h2
  · rename_i s t x y
    simp only [Bool.and_eq_true] at hm
    have hv := mArg_rep hf hm.1.1
    simp only [dval] at h ⊢
    cases he : y.ev fr <;> simp only [he, no] at h hv ⊢ <;> try exact h.elim
    exact (q_same ho hm.1.2 (isStr_eq hm.2) hv.str_inv).meets hs
  -- len
  · rename_i xs ts y
    simp only [Bool.and_eq_true] at hm
    obtain ⟨hm1, ht⟩ := hm
    obtain ⟨x, hxs, hx⟩ := mArgs_one hm1
    split at ht
    rotate_left
    · cases ht
    rename_i t hts
    obtain rfl := toList_one hts
    split at ht
    · rename_i e hte
      have hv := mArg_rep hf hx
      simp only [dval] at h ⊢
      cases he : y.ev fr <;> simp only [he, no] at h hv ⊢ <;> try exact h.elim
      · exact (q_len ho hxs hte hv.nil_inv).meets hs
      · obtain ⟨A, c, z, e1, _⟩ := hv.sl_inv.sl_inv
        exact (q_len ho hxs hte e1).meets hs
      · rename_i h' L off n
        obtain ⟨hl, hob⟩ := hv.own_inv
        unfold alive at h
        cases hhp : hp[h']? with
        | none => simp [hhp] at h
        | some ob =>
          simp only [hhp] at h
          obtain ⟨A, cap, e1, _⟩ := (hob ob hhp).2 h.1 h.2
          exact (q_len ho hxs hte e1).meets hs
    · cases ht
  · rename_i xs ts y
    simp only [Bool.and_eq_true] at hm
    obtain ⟨hm1, ht⟩ := hm
    obtain ⟨x, hxs, hx⟩ := mArgs_one hm1
    split at ht
    rotate_left
    · cases ht
    rename_i t hts
    obtain rfl := toList_one hts
    have hv := mArg_rep hf hx
    simp only [dval] at h ⊢
    cases he : y.ev fr <;> simp only [he, no] at h hv ⊢ <;> try exact h.elim
    exact (q_lenS ho hxs (isStr_eq ht) hv.str_inv).meets hs
  · rename_i xs ts n
    simp only [Bool.and_eq_true, beq_iff_eq] at hm
    obtain ⟨hm1, ht⟩ := hm
    split at ht
    rotate_left
    · cases ht
    rename_i t hts
    obtain rfl := toList_one hts
    obtain ⟨x, hxs⟩ : ∃ x, xs = #[x] := by
      obtain ⟨l⟩ := xs
      match l, hm1 with
      | [x], _ => exact ⟨x, rfl⟩
    subst hxs
    refine Quick.meets hs (q_builtin ho (v := .int .i64 n) (fun cs => ?_) (.imm (.int _ _)))
    split at ht
    · rename_i m e hte
      simp at ht; subst ht
      cases a.eval x <;> simp [builtin, Builtin.len_, run_under hte, goInt]
    · rename_i e hte
      split at ht
      · rename_i m e' hte'
        simp at ht; subst ht
        cases a.eval x <;> simp [builtin, Builtin.len_, run_under hte, run_under hte', goInt]
      · cases ht
    · cases ht
  -- max, min
  · rename_i xs ts x y
    obtain ⟨x1, y1, hxs, h1, h2⟩ := mArgs_two hm
    have v1 := mArg_rep hf h1
    have v2 := mArg_rep hf h2
    simp only [dval] at h ⊢
    cases he : x.ev fr <;> cases he2 : y.ev fr <;> simp only [he, he2, no] at h v1 v2 ⊢ <;> try exact h.elim
    subst h
    exact (q_minmax (mx := true) rfl ho hxs v1.int_inv v2.int_inv).meets hs
  · rename_i xs ts x y
    obtain ⟨x1, y1, hxs, h1, h2⟩ := mArgs_two hm
    have v1 := mArg_rep hf h1
    have v2 := mArg_rep hf h2
    simp only [dval] at h ⊢
    cases he : x.ev fr <;> cases he2 : y.ev fr <;> simp only [he, he2, no] at h v1 v2 ⊢ <;> try exact h.elim
    subst h
    exact (q_minmax (mx := false) rfl ho hxs v1.int_inv v2.int_inv).meets hs
  -- load
  · simp only [Bool.and_eq_true, decide_eq_true_eq] at hm
    exact (q_load hs ho hm.2 hf hm.1 h).meets hs
  -- store
  · rename_i t p v n q u
    simp only [Bool.and_eq_true] at hm
    obtain ⟨⟨h1, h2⟩, h3⟩ := hm
    cases hi : P.info? t with
    | none => simp [hi] at h3
    | some i =>
      simp only [hi, beq_iff_eq] at h3
      subst h3
      simp only [dval, dStore] at h ⊢
      cases he : q.ev fr <;> simp only [he, no] at h ⊢ <;> try exact h.elim
      rename_i h' L r j
      cases hob : hp[h']? with
      | none => simp [hob] at h
      | some ob =>
        simp only [hob] at h ⊢
        by_cases hk : ob.k = .loc
        · simp only [if_pos hk] at h ⊢
          obtain ⟨hn, hL, hr, hj, h1'⟩ := h
          subst hL
          exact meets_skip (x_store_loc hs ho hi hf h1 h2 hob hk he hn hr hj h1')
        · simp only [if_neg hk] at h ⊢
          by_cases hk2 : ob.k = .imm
          · simp only [if_pos hk2] at h ⊢
            cases hob' : (fzL hp (cellsOf (u.ev fr))).hp[h']? with
            | none => simp [hob'] at h
            | some ob' =>
              simp only [hob'] at h ⊢
              obtain ⟨hn, hpre, hk', hL, hr, hj⟩ := h
              subst hL
              refine meets_skip (x_store_imm hs ho hi hf h1 h2 hob hk2 he hn hr hj hpre hob' hk' ?_)
              intro hu
              rw [hu] at hpre
              simp [cellsOf, fzL, fz1, DV.immB] at hpre
          · simp only [if_neg hk2] at h
  -- fieldAddr
  · rename_i t p f off q
    simp only [Bool.and_eq_true] at hm
    obtain ⟨h1, h2⟩ := hm
    split at h2
    · rename_i fs hts
      split at h2
      · rename_i fl hfl
        simp only [Bool.and_eq_true, beq_iff_eq] at h2
        obtain ⟨rfl, h2⟩ := h2
        cases hi : P.info? fl.type with
        | none => simp [hi] at h2
        | some i =>
          simp only [hi, bne_iff_ne] at h2
          have hv := mArg_rep hf h1
          simp only [dval] at h ⊢
          cases he : q.ev fr <;> simp only [he, no] at h hv ⊢ <;> try exact h.elim
          · rename_i h' L r j
            obtain ⟨ob, g, hob, hk, hL, hg, e1⟩ := alive_ptr hv h
            exact (q_faddr ho hts hfl hi h2 e1 rfl (ptr_moved hob hL hg _)).meets hs
          · rename_i cs
            obtain ⟨b, e1, hsp, _⟩ := hv.ref_inv.ref_inv
            have hr := hv.ref_inv
            rw [e1] at hr
            exact (q_faddr ho hts hfl hi h2 e1 hsp (.imm (drop_ref hr _))).meets hs
      · cases h2
    · cases h2
  -- field
  · rename_i t x f off sz y
    simp only [Bool.and_eq_true] at hm
    obtain ⟨h1, h2⟩ := hm
    split at h2
    · rename_i fs hts
      split at h2
      · rename_i fl hfl
        simp only [Bool.and_eq_true, beq_iff_eq, decide_eq_true_eq] at h2
        obtain ⟨rfl, h2⟩ := h2
        simp only [dval] at h ⊢
        cases he : y.ev fr <;> simp only [he, no] at h ⊢ <;> try exact h.elim
        exact (q_field ho hts hfl h2 hf h1 he h).meets hs
      · cases h2
    · cases h2
  -- indexAddr of a slice
  · rename_i t x i z y k
    simp only [Bool.and_eq_true] at hm
    obtain ⟨⟨h1, h2⟩, h3⟩ := hm
    obtain ⟨e, ti, zv, hte, hi, hzv, rfl, hpos, hby, hzs⟩ := elemOk_of h3
    have v1 := mArg_rep hf h1
    have v2 := mArg_rep hf h2
    simp only [dval] at h ⊢
    cases he : y.ev fr <;> cases he2 : k.ev fr <;> simp only [he, he2, no] at h v1 v2 ⊢ <;> try exact h.elim
    · rename_i es kk n
      obtain ⟨hz, h0, hn⟩ := h
      obtain ⟨A, c, z, e1, hlc, hA, hzz⟩ := v1.sl_inv.sl_inv
      have hlt : n.toNat < es.length := by omega
      obtain ⟨b, hb, hsp, hF, hc⟩ := hA (by intro e; rw [e] at hlt; simp at hlt)
      have hrow : es.getD n.toNat [] = es[n.toNat] := by simp [List.getD, hlt]
      have hzi : z = ti.size := by rw [← hzz n.toNat _ (List.getElem?_eq_getElem hlt), ← hrow]; exact hz
      refine (q_iaddr ho hte hi e1 v2.int_inv hb hsp h0 (by exact_mod_cast hn) (.imm (IRep.ref_mk rfl hF fun j d hd => ?_))).meets hs
      rw [hrow] at hd
      obtain ⟨u, hu, h1', hr⟩ := hc n.toNat j d (by simp [cellAt, hlt, hd])
      exact ⟨u, by rw [← hzi]; simpa [Nat.add_assoc] using hu, h1', hr⟩
    · rename_i h' L off len kk n
      cases hob : hp[h']? with
      | none => simp [hob] at h
      | some ob =>
        simp only [hob] at h ⊢
        obtain ⟨hk, hz, hL, h0, hn⟩ := h
        obtain ⟨A, cap, e1, hle, hA⟩ := (v1.own_inv.2 ob hob).2 hk hL
        rcases hA with hA | ⟨g, hg, rfl, hcap⟩
        · omega
        · refine (q_iaddr ho hte hi e1 v2.int_inv rfl rfl h0 hn (.ptr _ _ _ _ _ rfl (lt_of_some hob) fun o' ho' => ?_)).meets hs
          rw [hob] at ho'; injection ho' with ho'; subst ho'
          refine ⟨by omega, fun _ _ => ⟨g, hg, ?_⟩⟩
          rw [hz, Nat.add_mul]; simp
  -- indexAddr of an array
  · rename_i t x i n z y k
    simp only [Bool.and_eq_true] at hm
    obtain ⟨⟨h1, h2⟩, h3⟩ := hm
    split at h3
    · rename_i m e hte
      simp only [Bool.and_eq_true, beq_iff_eq] at h3
      obtain ⟨rfl, h3⟩ := h3
      cases hi : P.info? e with
      | none => simp [hi] at h3
      | some ti =>
        simp only [hi, beq_iff_eq] at h3
        subst h3
        have v1 := mArg_rep hf h1
        have v2 := mArg_rep hf h2
        simp only [dval] at h ⊢
        cases he : y.ev fr <;> cases he2 : k.ev fr <;> simp only [he, he2, no] at h v1 v2 ⊢ <;> try exact h.elim
        · rename_i h' L r j kk q
          obtain ⟨ha, h0, hn⟩ := h
          obtain ⟨ob, g, hob, hk, hL, hg, e1⟩ := alive_ptr v1 ha
          exact (q_iaddrA ho hte hi e1 v2.int_inv rfl h0 hn (ptr_moved hob hL hg _)).meets hs
        · rename_i cs kk q
          obtain ⟨h0, hn⟩ := h
          obtain ⟨b, e1, hsp, _⟩ := v1.ref_inv.ref_inv
          have hr := v1.ref_inv
          rw [e1] at hr
          exact (q_iaddrA ho hte hi e1 v2.int_inv hsp h0 hn (.imm (drop_ref hr _))).meets hs
    · cases h3
  -- index of a text
  · rename_i t x i y k
    simp only [Bool.and_eq_true] at hm
    obtain ⟨⟨h1, h2⟩, h3⟩ := hm
    have v1 := mArg_rep hf h1
    have v2 := mArg_rep hf h2
    simp only [dval] at h ⊢
    cases he : y.ev fr <;> cases he2 : k.ev fr <;> simp only [he, he2, no] at h v1 v2 ⊢ <;> try exact h.elim
    exact (q_index ho (isStr_eq h3) v1.str_inv v2.int_inv h.1 h.2).meets hs
  -- slices
  · rename_i t x lo hi mx y l hh
    simp only [Bool.and_eq_true] at hm
    obtain ⟨⟨⟨⟨h1, h2⟩, h3⟩, h4⟩, h5⟩ := hm
    exact (q_sliceS ho (isStr_eq h5) (by simpa using h4) hf h1 h2 h3 h).meets hs
  · rename_i t x lo hi mx z y l hh m
    simp only [Bool.and_eq_true] at hm
    obtain ⟨⟨⟨⟨h1, h2⟩, h3⟩, h4⟩, h5⟩ := hm
    obtain ⟨e, ti, zv, hte, hi', hzv, rfl, hpos, hby, hzs⟩ := elemOk_of h5
    exact (q_slice ho hte hi' hf h1 h2 h3 h4 h).meets hs
  -- make
  · rename_i t n c zero n' c'
    simp only [Bool.and_eq_true] at hm
    obtain ⟨⟨h1, h2⟩, h3⟩ := hm
    split at h3
    · rename_i e hte
      have v1 := mArg_rep hf h1
      have v2 := mArg_rep hf h2
      simp only [dval] at h ⊢
      cases he : n'.ev fr <;> cases he2 : c'.ev fr <;> simp only [he, he2, no] at h v1 v2 ⊢ <;> try exact h.elim
      exact meets_value (x_make hs ho hte h3 v1.int_inv v2.int_inv h.1 h.2.1 h.2.2)
    · cases h3
  · rename_i t n ps zero parts
    simp only [Bool.and_eq_true, beq_iff_eq, decide_eq_true_eq] at hm
    obtain ⟨⟨⟨h1, h2⟩, h3⟩, h4⟩ := hm
    split at h4
    · rename_i e hte
      simp only [dval] at h ⊢
      rw [← h1]
      exact meets_value (x_bown hs ho hte h4 h1 h2 h3 hf h.1 h.2)
    · cases h4
  -- buildSlice
  · rename_i t n ps imm zero parts
    simp only [Bool.and_eq_true, beq_iff_eq, decide_eq_true_eq] at hm
    obtain ⟨⟨⟨h1, h2⟩, h3⟩, h4⟩ := hm
    split at h4
    · rename_i e hte
      exact meets_value (x_bslice hs ho hte h4 h1 h2 h3 hf C h)
    · cases h4
  -- build
  · rename_i t ps zero parts
    exact (q_build ho (by simp only [mOp]; exact hm) hf h).meets hs
  -- alloc
  · rename_i e zero
    cases hi : P.info? e with
    | none => simp [hi] at hm
    | some i =>
      simp only [hi] at hm
      cases hz : i.zero with
      | none => simp [hz] at hm
      | some z =>
        simp only [hz] at hm
        exact meets_value (x_alloc hs ho hi hz hm)
  -- homes
  · rename_i x z y
    have hv := mArg_rep hf hm
    simp only [dval] at h ⊢
    cases he : y.ev fr <;> simp only [he, no] at h hv ⊢ <;> try exact h.elim
    · exact meets_value (x_mkown hs (.inl ho) hv.nil_inv)
    · rename_i h' L off len
      cases hob : hp[h']? with
      | none => simp [hob] at h
      | some ob =>
        simp only [hob] at h ⊢
        obtain ⟨hk, rfl, rfl, hl⟩ := h
        exact meets_value (x_home hs (.inl ho) hob hk hl hv)
  · rename_i x z y
    have hv := mArg_rep hf hm
    simp only [dval] at h ⊢
    cases he : y.ev fr <;> simp only [he, no] at h hv ⊢ <;> try exact h.elim
    · exact meets_value (x_mkown hs (.inr ho) hv.nil_inv)
    · rename_i h' L off len
      cases hob : hp[h']? with
      | none => simp [hob] at h
      | some ob =>
        simp only [hob] at h ⊢
        obtain ⟨hk, rfl, rfl, hl⟩ := h
        exact meets_value (x_home hs (.inr ho) hob hk hl hv)
  -- append of zeros
  · rename_i xs ts z zero s x
    simp only [Bool.and_eq_true] at hm
    obtain ⟨hm1, hm2⟩ := hm
    obtain ⟨s1, x1, hxs, h1, h2⟩ := mArgs_two hm1
    split at hm2
    rotate_left
    · cases hm2
    rename_i t u hts
    obtain rfl := toList_two hts
    simp only [Bool.and_eq_true] at hm2
    obtain ⟨⟨h3, h4⟩, h5⟩ := hm2
    obtain ⟨e, ti, zv, hte, hi, hzv, rfl, hpos, hby, hzs⟩ := elemOk_of h3
    have v1 := mArg_rep hf h1
    have v2 := mArg_rep hf h2
    split at h4
    rotate_left
    · cases h4
    rename_i k hu
    rw [hte] at h5
    dsimp only at h5
    obtain ⟨i2, z2, hi2, hz2, hmz, hsz, _, _, hzs2, _⟩ := zeroOk_of h5
    rw [hi] at hi2; injection hi2 with hi2; subst hi2
    rw [hzv] at hz2; injection hz2 with hz2; subst hz2
    have hall := fun n => zero_rows (F := F) (w := w) hmz hzs2 n
    have hz3 : ∀ n : Nat, Builtin.zeroCells zv.cells n = (Array.range (n * zero.length)).map (zv.cells[· % zv.cells.size]!) := fun n => by
      unfold Builtin.zeroCells; rw [hzs2]
    simp only [dval, dAppz] at h ⊢
    cases he2 : x.ev fr <;> simp only [he2, no] at h v2 ⊢ <;> try exact h.elim
    rename_i kk m
    cases kk <;> simp only [] at h v2 ⊢ <;> try exact h.elim
    have hx2 : a.eval x1 = .int .i64 m := v2.int_inv
    have one1 : ∀ v ∈ (Builtin.zeroCells zv.cells m.toNat).toList, v.oneCell' = true := by
      intro v hv
      rw [hz3] at hv
      obtain ⟨k, hk, rfl⟩ := List.getElem_of_mem hv
      have hkl : k < m.toNat * zero.length := by simpa using hk
      have hzl : 0 < zero.length := by omega
      obtain ⟨u, hu, hr⟩ := (hall m.toNat).2.2 (k / zero.length) (k % zero.length) (zero[k % zero.length]'(Nat.mod_lt _ hzl)) (by
        unfold cellAt
        rw [List.getElem?_replicate, if_pos ((Nat.div_lt_iff_lt_mul hzl).2 hkl)]
        simp [Nat.mod_lt _ hzl])
      rw [show k / zero.length * zero.length + k % zero.length = k from by rw [Nat.mul_comm]; exact Nat.div_add_mod _ _] at hu
      have : (((Array.range (m.toNat * zero.length)).map (zv.cells[· % zv.cells.size]!)).toList)[k]? = some u := by rw [Array.getElem?_toList]; exact hu
      rw [List.getElem?_eq_getElem hk] at this
      injection this with this
      rw [this]
      exact hr.1.oneCell
    have rows : ∀ (k : Nat) (r : List DV), (List.replicate m.toNat zero)[k]? = some r → r.length = ti.size := by
      intro k r hr
      rw [List.getElem?_replicate] at hr
      split at hr
      · injection hr with hr; rw [← hr, hsz]
      · cases hr
    have cells : ∀ k j r, cellAt (List.replicate m.toNat zero) k j = some r → ∃ x, (Builtin.zeroCells zv.cells m.toNat).toList[k * ti.size + j]? = some x ∧ IOne F w r x := by
      intro k j r hr
      obtain ⟨u, hu, hr⟩ := (hall m.toNat).2.2 k j r hr
      exact ⟨u, by rw [hz3, hsz, Array.getElem?_toList]; exact hu, hr⟩
    cases he : s.ev fr <;> simp only [he] at h v1 ⊢ <;> try exact h.elim
    · have hA := App.ofZeros (P := P) (w := w) (ty := o.type) hte hu hi hzv hpos hby hzs h.1 h.2 one1
      have hr := x_append_nil (es := List.replicate m.toNat zero) hs ho hxs hby hzs v1.nil_inv (by rw [hx2, List.length_replicate]; exact hA) rows cells (by simpa using h.2)
      simp only [List.length_replicate] at hr
      exact meets_value hr
    · rename_i h' L off len
      cases hob : hp[h']? with
      | none => simp [hob] at h
      | some ob =>
        simp only [hob] at h ⊢
        obtain ⟨h0, hk, hbz, rfl, rfl, rfl, hlen⟩ := h
        have hA := App.ofZeros (P := P) (w := w) (ty := o.type) hte hu hi hzv hpos hby hzs h0 (by omega) one1
        have hr := x_append_own (es := List.replicate m.toNat zero) hs ho hxs hby hzs (by rw [hx2, List.length_replicate]; exact hA) rows cells hob hk hbz v1 (by simpa using hlen)
        simp only [List.length_replicate] at hr
        exact meets_value hr
  -- a new object at a place
  · rename_i e hh zero
    simp only [dval] at h ⊢
    revert h
    cases h0 : hp[hh]? with
    | none => intro hx; exact hx.elim
    | some o0 =>
      intro hx
      cases hi : P.info? e with
      | none => simp [hi] at hm
      | some i =>
        simp only [hi] at hm
        cases hz : i.zero with
        | none => simp [hz] at hm
        | some z =>
          simp only [hz] at hm
          exact meets_value (x_aa hs ho hi hz hm h0 hx.1 hx.2)
  -- box
  · exact meets_value (x_box hs ho hf hm h)
  · exact meets_value (x_bref hs ho hf hm h)
  -- append
  · rename_i xs ts z s x
    simp only [Bool.and_eq_true] at hm
    obtain ⟨hm1, hm2⟩ := hm
    obtain ⟨s1, x1, hxs, h1, h2⟩ := mArgs_two hm1
    split at hm2
    rotate_left
    · cases hm2
    rename_i t u hts
    obtain rfl := toList_two hts
    simp only [Bool.and_eq_true] at hm2
    obtain ⟨h3, h4⟩ := hm2
    obtain ⟨e, ti, zv, hte, hi, hzv, rfl, hpos, hby, hzs⟩ := elemOk_of h3
    have v1 := mArg_rep hf h1
    have hkd : (∃ e', P.underlying u = some (.slice e')) ∨ P.underlying u = some .string := by
      split at h4
      · rename_i e' he'; exact .inl ⟨e', he'⟩
      · rename_i he'; exact .inr he'
      · cases h4
    simp only [dval] at h ⊢
    have v2 := mArg_rep hf h2
    cases he : s.ev fr <;> simp only [he, no] at h v1 ⊢ <;> try exact h.elim
    cases he2 : x.ev fr <;> simp only [he2] at h v2 ⊢ <;> try exact h.elim
    rename_i hA LA offA lenA hB LB offB lenB
    cases hob : hp[hA]? with
    | none => simp [hob] at h
    | some ob =>
      cases hob2 : hp[hB]? with
      | none => simp [hob, hob2] at h
      | some ob2 =>
        simp only [hob, hob2] at h ⊢
        obtain ⟨k1, k2, rfl, rfl, rfl, k3, k4, rfl, rfl, rfl, k5, k6, k7⟩ := h
        obtain ⟨news, hsrc, hrows, hcells⟩ := src_loc (P := P) hs hob2 k3 v2 k5 k6 hkd
        rw [k4] at hsrc hrows hcells
        exact meets_value (x_append_loc hs ho hxs hby hzs (App.ofSrc hte hi hzv hsrc) hrows hcells hob k1 k2 v1 k5 k7)
  · rename_i xs ts z s x
    simp only [Bool.and_eq_true] at hm
    obtain ⟨hm1, hm2⟩ := hm
    obtain ⟨s1, x1, hxs, h1, h2⟩ := mArgs_two hm1
    split at hm2
    rotate_left
    · cases hm2
    rename_i t u hts
    obtain rfl := toList_two hts
    simp only [Bool.and_eq_true] at hm2
    obtain ⟨h3, h4⟩ := hm2
    obtain ⟨e, ti, zv, hte, hi, hzv, rfl, hpos, hby, hzs⟩ := elemOk_of h3
    have v1 := mArg_rep hf h1
    have hkd : (∃ e', P.underlying u = some (.slice e')) ∨ P.underlying u = some .string := by
      split at h4
      · rename_i e' he'; exact .inl ⟨e', he'⟩
      · rename_i he'; exact .inr he'
      · cases h4
    simp only [dval, dAppend] at h ⊢
    cases he : s.ev fr <;> simp only [he, no] at h v1 ⊢ <;> try exact h.elim
    · obtain ⟨news, hsrc, hrows, hcells⟩ := src_of (P := P) hs (mArg_rep hf h2) h.1 hpos h.2.2 hkd
      exact meets_value (x_append_nil hs ho hxs hby hzs v1.nil_inv (App.ofSrc hte hi hzv hsrc) hrows hcells h.2.1)
    · rename_i h' L off len
      cases hob : hp[h']? with
      | none => simp [hob] at h
      | some ob =>
        simp only [hob] at h ⊢
        obtain ⟨hp1, hz, hk, hbz, rfl, rfl, rfl, hlen⟩ := h
        obtain ⟨news, hsrc, hrows, hcells⟩ := src_of (P := P) hs (mArg_rep hf h2) hp1 hpos hz hkd
        exact meets_value (x_append_own hs ho hxs hby hzs (App.ofSrc hte hi hzv hsrc) hrows hcells hob hk hbz v1 hlen)
  -- sync/atomic's own
  · rename_i f xs ts k g p
    simp only [Bool.and_eq_true, beq_iff_eq] at hm
    obtain ⟨⟨rfl, h1⟩, h2⟩ := hm
    obtain ⟨x1, hxs, h3⟩ := mArgs_one h2
    exact x_xload hs ho hxs h1 (mArg_rep hf h3) h
  · rename_i f xs ts k g p v
    simp only [Bool.and_eq_true, beq_iff_eq] at hm
    obtain ⟨⟨rfl, h1⟩, h2⟩ := hm
    obtain ⟨x1, x2, hxs, h3, h4⟩ := mArgs_two h2
    exact x_xstore hs ho hxs h1 (mArg_rep hf h3) (mArg_rep hf h4) h
  · rename_i f xs ts k g p v
    simp only [Bool.and_eq_true, beq_iff_eq] at hm
    obtain ⟨⟨rfl, h1⟩, h2⟩ := hm
    obtain ⟨x1, x2, hxs, h3, h4⟩ := mArgs_two h2
    exact x_xadd hs ho hxs h1 (mArg_rep hf h3) (mArg_rep hf h4) h
  · rename_i f xs ts k g p v n
    simp only [Bool.and_eq_true, beq_iff_eq] at hm
    obtain ⟨⟨rfl, h1⟩, h2⟩ := hm
    obtain ⟨x1, x2, x3, hxs, h3, h4, h5⟩ := mArgs_three h2
    exact x_xcas hs ho hxs h1 (mArg_rep hf h3) (mArg_rep hf h4) (mArg_rep hf h5) h
  -- copy
  · rename_i xs ts z s x
    simp only [Bool.and_eq_true] at hm
    obtain ⟨hm1, hm2⟩ := hm
    obtain ⟨s1, x1, hxs, h1, h2⟩ := mArgs_two hm1
    split at hm2
    rotate_left
    · cases hm2
    rename_i t u hts
    obtain rfl := toList_two hts
    simp only [Bool.and_eq_true] at hm2
    obtain ⟨h3, _⟩ := hm2
    obtain ⟨e, ti, zv, hte, hi, hzv, rfl, hpos, hby, hzs⟩ := elemOk_of h3
    have v1 := mArg_rep hf h1
    simp only [dval] at h ⊢
    cases he : s.ev fr <;> simp only [he, no] at h v1 ⊢ <;> try exact h.elim
    rename_i h' L off len
    cases hob : hp[h']? with
    | none => simp [hob] at h
    | some ob =>
      simp only [hob] at h ⊢
      obtain ⟨hstr, hp1, hz, hk, hbz, rfl, hin⟩ := h
      have hns : ∀ b, x.ev fr ≠ .str b := by intro b hb; simp [hb] at hstr
      obtain ⟨news, l1, l2, l3, l4, l5⟩ := src_take (P := P) hs (mArg_rep hf h2) hp1 hns hpos hz (m := min (elemsOf hp (x.ev fr)).es.length len) (Nat.min_le_left _ _)
      exact meets_value (x_copy hs ho hxs hte hi l1 l2 l3 l4 (fun k r hr => hz r (List.mem_of_getElem? hr)) l5 hob hk hbz v1 hin)
  -- extract
  · rename_i x i i' y
    simp only [Bool.and_eq_true, beq_iff_eq] at hm
    obtain ⟨rfl, h1⟩ := hm
    simp only [dval] at h ⊢
    cases he : y.ev fr <;> simp only [he, no] at h ⊢ <;> try exact h.elim
    exact (q_extract ho hf h1 he h).meets hs
  -- nilCheck
  · rename_i x y
    have hv := mArg_rep hf hm
    simp only [dval] at h ⊢
    cases he : y.ev fr <;> simp only [he, no] at h hv ⊢ <;> try exact h.elim
    · obtain ⟨ob, g, hob, hk, hL, hg, e1⟩ := alive_ptr hv h
      exact (q_nilck ho rfl (.inl ⟨_, e1⟩) hv).meets hs
    · obtain ⟨b, e1, _⟩ := hv.ref_inv.ref_inv
      exact (q_nilck ho rfl (.inl ⟨_, e1⟩) hv).meets hs
    · obtain ⟨vs, e1, _⟩ := hv.clo_inv
      exact (q_nilck ho rfl (.inr ⟨_, _, _, e1⟩) hv).meets hs
    · obtain ⟨vs, e1, _⟩ := hv.meth_inv
      exact (q_nilck ho rfl (.inr ⟨_, _, _, e1⟩) hv).meets hs
  -- makeFunc
  · rename_i f fst caps g caps'
    simp only [Bool.and_eq_true, beq_iff_eq] at hm
    obtain ⟨⟨rfl, h2⟩, h3⟩ := hm
    exact (q_mkfun ho h2 hf h3).meets hs
  · rename_i f fst caps g fst'
    simp only [Bool.and_eq_true, beq_iff_eq] at hm
    obtain ⟨⟨rfl, h2⟩, h3⟩ := hm
    exact (q_mkmeth ho h2 hf h3).meets hs
  -- calls
  · rename_i f xs ts g ys
    simp only [Bool.and_eq_true, beq_iff_eq] at hm
    obtain ⟨rfl, h1⟩ := hm
    obtain ⟨hok, hc⟩ := call_pure hC hs (args_rep hf h1) h
    exact meets_call (by simpa using run_call (P := P) (w := w) (x := .func f) (caps := #[]) ho rfl hok) hc
  · rename_i f xs ts g ys
    simp only [Bool.and_eq_true, beq_iff_eq] at hm
    obtain ⟨rfl, h1⟩ := hm
    obtain ⟨hok, hc⟩ := hC.h _ _ _ h
    exact meets_call (by simpa using run_call (P := P) (w := w) (x := .func f) (caps := #[]) ho rfl hok) (hc K F σ w _ hs (args_rep hf h1))
  · rename_i f xs ts b z g ys
    simp only [Bool.and_eq_true, beq_iff_eq] at hm
    obtain ⟨rfl, h1⟩ := hm
    simp only [dval] at h ⊢
    cases e1 : hdl (get b fr) with
    | none => simp [e1, no] at h
    | some n =>
      simp only [e1] at h ⊢
      cases e2 : hp[n]? with
      | none => simp [e2, no] at h
      | some ob =>
        simp only [e2] at h ⊢
        cases e4 : (C.h f (ys.map (·.ev fr)) (List.replicate n ⟨.dead, 0, []⟩ ++ [ob])).hp[n]? with
        | none => simp [e4, no] at h
        | some o' =>
          simp only [e4] at h ⊢
          obtain ⟨_, q1, q2, q3, q4, q5, q6, q7, q8⟩ := h
          obtain ⟨hok, hc⟩ := hC.h _ _ _ q2
          have hmk : (List.replicate n (⟨.dead, 0, []⟩ : DObj) ++ [ob])[n]? = some ob := by
            rw [List.getElem?_append_right (by simp)]; simp
          have hargs := args_rep hf h1
          have hargs2 : All2 (VRep F σ (List.replicate n ⟨.dead, 0, []⟩ ++ [ob]) w) (ys.map (·.ev fr)) (xs.map a.eval).toList :=
            ⟨hargs.1, fun j d hd => let ⟨u, hu, hr⟩ := hargs.2 j d hd; ⟨u, hu, only_rep e2 hmk (List.all_eq_true.1 q1 d (List.mem_of_getElem? hd)) hr⟩⟩
          refine meets_call (by simpa using run_call (P := P) (w := w) (x := .func f) (caps := #[]) ho rfl hok) ((hc (Oth K σ hp n) F σ w _ (mask_sim hs e2 q3 q4) hargs2).mono fun e w' hh => ?_)
          obtain ⟨v, hv, hgv⟩ := hh
          exact ⟨v, hv, unmask hs e2 q3 e4 q5 q6 q7 q8 hgv⟩
  · rename_i f xs ts hh b z g ys
    simp only [Bool.and_eq_true, beq_iff_eq] at hm
    obtain ⟨rfl, h1⟩ := hm
    simp only [dval] at h ⊢
    cases e1 : hdl (get b fr) with
    | none => simp [e1, no] at h
    | some k =>
      simp only [e1] at h ⊢
      cases e2 : hp[k]? with
      | none => simp [e2, no] at h
      | some ob =>
      cases e3 : hp[hh]? with
      | none => simp [e2, e3, no] at h
      | some od =>
        simp only [e2, e3] at h ⊢
        cases e5 : (C.h f (ys.map (·.ev fr)) (List.replicate k ⟨.dead, 0, []⟩ ++ [ob])).val <;> simp only [e5, no] at h ⊢ <;> try exact h.elim
        rename_i n L off len
        cases e4 : (C.h f (ys.map (·.ev fr)) (List.replicate k ⟨.dead, 0, []⟩ ++ [ob])).hp[k]? with
        | none => simp [e4] at h
        | some o' =>
        cases e6 : (C.h f (ys.map (·.ev fr)) (List.replicate k ⟨.dead, 0, []⟩ ++ [ob])).hp[n]? with
        | none => simp [e4, e6] at h
        | some oj =>
          simp only [e4, e6] at h ⊢
          obtain ⟨_, q1, q2, q3, q4, q5, q6, q7, q8, q9, q10, q11, q12, q13⟩ := h
          obtain ⟨hok, hc⟩ := hC.h _ _ _ q2
          have hmk : (List.replicate k (⟨.dead, 0, []⟩ : DObj) ++ [ob])[k]? = some ob := by
            rw [List.getElem?_append_right (by simp)]; simp
          have hargs := args_rep hf h1
          have hargs2 : All2 (VRep F σ (List.replicate k ⟨.dead, 0, []⟩ ++ [ob]) w) (ys.map (·.ev fr)) (xs.map a.eval).toList :=
            ⟨hargs.1, fun j d hd => let ⟨u, hu, hr⟩ := hargs.2 j d hd; ⟨u, hu, only_rep e2 hmk (List.all_eq_true.1 q1 d (List.mem_of_getElem? hd)) hr⟩⟩
          refine meets_call (by simpa using run_call (P := P) (w := w) (x := .func f) (caps := #[]) ho rfl hok) ((hc (Oth K σ hp k) F σ w _ (mask_sim hs e2 q3 q4) hargs2).mono fun e w' hh => ?_)
          obtain ⟨v, hv, hgv⟩ := hh
          rw [e5] at hgv
          refine ⟨v, hv, ?_⟩
          by_cases hL : L = 0
          · rw [if_pos hL, if_pos hL]
            obtain rfl := q13 hL
            subst hL
            obtain ⟨F', σ', g1, g2, g3, g4⟩ := hgv
            exact unmask hs e2 q3 e4 q5 q6 q7 rfl ⟨F', σ', g1, g2, g3, own_nil g4 e6 q11 q12⟩
          · rw [if_neg hL, if_neg hL]
            exact unmask2 hs e2 q3 e4 q5 q6 q7 e3 q8 q9 q10 e6 q11 q12 hL hgv
  · rename_i x xs ts g ys
    simp only [Bool.and_eq_true] at hm
    obtain ⟨h0, h1⟩ := hm
    have hv := mArg_rep hf h0
    simp only [dval] at h ⊢
    cases he : g.ev fr <;> simp only [he, no] at h hv ⊢ <;> try exact h.elim
    · rename_i f caps
      obtain ⟨vs, e1, hl, hr⟩ := hv.clo_inv
      have hargs : All2 (VRep F σ hp w) (ys.map (·.ev fr) ++ caps) (xs.map a.eval ++ vs).toList := by
        rw [Array.toList_append]
        exact (args_rep hf h1).append ⟨by simpa using hl, fun j d hd => let ⟨u, hu, hr⟩ := hr j d hd; ⟨u, by simpa using hu, hr⟩⟩
      obtain ⟨hok, hc⟩ := call_pure hC hs hargs h
      exact meets_call (run_call (P := P) (w := w) ho e1 hok) hc
    · rename_i f fst
      obtain ⟨vs, e1, hl, hr⟩ := hv.meth_inv
      have hargs : All2 (VRep F σ hp w) (fst ++ ys.map (·.ev fr)) (vs ++ xs.map a.eval).toList := by
        rw [Array.toList_append]
        exact All2.append ⟨by simpa using hl, fun j d hd => let ⟨u, hu, hr⟩ := hr j d hd; ⟨u, by simpa using hu, hr⟩⟩ (args_rep hf h1)
      obtain ⟨hok, hc⟩ := call_pure hC hs hargs h
      exact meets_call (run_callM (P := P) (w := w) ho e1 hok) hc
  · rename_i x xs ts g ys
    simp only [Bool.and_eq_true] at hm
    obtain ⟨h0, h1⟩ := hm
    have hv := mArg_rep hf h0
    simp only [dval] at h ⊢
    cases he : g.ev fr <;> simp only [he, no] at h hv ⊢ <;> try exact h.elim
    · rename_i f caps
      obtain ⟨vs, e1, hl, hr⟩ := hv.clo_inv
      have hargs : All2 (VRep F σ hp w) (ys.map (·.ev fr) ++ caps) (xs.map a.eval ++ vs).toList := by
        rw [Array.toList_append]
        exact (args_rep hf h1).append ⟨by simpa using hl, fun j d hd => let ⟨u, hu, hr⟩ := hr j d hd; ⟨u, by simpa using hu, hr⟩⟩
      obtain ⟨hok, hc⟩ := hC.h _ _ _ h
      exact meets_call (run_call (P := P) (w := w) ho e1 hok) (hc K F σ w _ hs hargs)
    · rename_i f fst
      obtain ⟨vs, e1, hl, hr⟩ := hv.meth_inv
      have hargs : All2 (VRep F σ hp w) (fst ++ ys.map (·.ev fr)) (vs ++ xs.map a.eval).toList := by
        rw [Array.toList_append]
        exact All2.append ⟨by simpa using hl, fun j d hd => let ⟨u, hu, hr⟩ := hr j d hd; ⟨u, by simpa using hu, hr⟩⟩ (args_rep hf h1)
      obtain ⟨hok, hc⟩ := hC.h _ _ _ h
      exact meets_call (run_callM (P := P) (w := w) ho e1 hok) (hc K F σ w _ hs hargs)
  · exact h.elim
  · cases hm

theorem op_soundX [Inhabited Env] (hC : C.ok P) (hs : SimH K F σ hp w) (hf : FRep F σ hp w fr a.tmps) {op : Op} {d : DOp} (ho : o.op = op) (hm : mOpX P op d = true) :
    (dvalX C d ⟨fr, hp⟩).pre → Meets P o a w (fun v w' => Gives K F σ hp w (dvalX C d ⟨fr, hp⟩).val (dvalX C d ⟨fr, hp⟩).hp v w') := by
  cases d
  case im d =>
    intro h
    simp only [mOpX, Bool.and_eq_true, decide_eq_true_eq] at hm
    simp only [dvalX] at h ⊢
    obtain ⟨e1, e2, e3⟩ := kind1e C d fr [] hp hm.1 h.2
    rw [List.nil_append] at e1 e2 e3
    have := op_sound (P := P) (K := K) hC hs hf ho hm.2 e1
    rw [e2, e3] at this
    exact this
  case rk lo d =>
    intro h
    simp only [dvalX] at h ⊢
    have := op_sound (P := P) (K := K) hC hs hf ho hm h.1
    rw [h.2.2] at this
    exact this
  case tk b lo d =>
    intro h
    simp only [dvalX] at h ⊢
    exact op_sound (P := P) (K := K) hC hs hf ho hm h.1
  case fz d =>
    intro h
    simp only [dvalX] at h ⊢
    have := op_sound (P := P) (K := K) hC hs hf ho hm h.1
    intro Kn Q hK
    refine this Kn Q fun v w' hg => ?_
    obtain ⟨F', σ', s1, m1, h1, r1⟩ := hg
    obtain ⟨F'', f, rr⟩ := fzV_rep s1 r1 h.2
    exact hK v w' ⟨F'', σ', f.1, m1.trans f.2.1, h1.trans f.2.2, rr.bare⟩
  case rz z d =>
    intro h
    simp only [mOpX, Bool.and_eq_true, decide_eq_true_eq] at hm
    simp only [dvalX] at h ⊢
    have := op_sound (P := P) (K := K) hC hs hf ho hm.2 h.1
    have e3 := (kind1e C d fr hp [] hm.1 h.1).2.2
    rw [List.append_nil] at e3
    rw [e3] at this
    exact this
  case rd d =>
    intro h
    simp only [dvalX] at h ⊢
    have := op_sound (P := P) (K := K) hC hs hf ho hm h.1
    rw [h.2] at this
    exact this
  case ei f args =>
    intro h
    simp only [mOpX, Bool.and_eq_true] at hm
    simp only [dvalX] at h ⊢
    split at h
    · rename_i hc; rw [if_pos hc]; exact op_sound (P := P) (K := K) hC hs hf ho hm.1 h
    · rename_i hc; rw [if_neg hc]; exact op_sound (P := P) (K := K) hC hs hf ho hm.2 h
  case al d =>
    intro h
    simp only [dvalX] at h ⊢
    exact op_sound (P := P) (K := K) hC hs hf ho hm h.1
  case to b d =>
    intro h
    simp only [dvalX] at h ⊢
    exact op_sound (P := P) (K := K) hC hs hf ho hm h.1
  all_goals exact op_sound hC hs hf ho hm
end
end Go.Nk
