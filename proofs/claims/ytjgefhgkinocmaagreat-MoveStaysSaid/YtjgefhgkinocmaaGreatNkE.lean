/- The operations that leave the world alone. -/
import Derived.Test.YtjgefhgkinocmaaGreatNkD
import Derived.Laws.StructEq
set_option linter.all false
namespace Go.Nk
open Go.RowKit

section
variable {P : Program} {K F : Nat → Prop} {σ : Nat → Option Nat} {hp : List DObj} {w : World} {fr : List (Nat × DV)} {a : Act} {o : Oper}

/-- The operation's run: a value, in the very world. -/
def Quick (P : Program) (F : Nat → Prop) (σ : Nat → Option Nat) (hp : List DObj) (w : World) (o : Oper) (a : Act) (val : DV) : Prop :=
  ∃ v, (execOp a.eval o).run P w = .ok (.value v) w ∧ VRep F σ hp w val v

theorem q_mv {x : Operand} {y : DA} (ho : o.op = .move x ∨ o.op = .assign x) (hf : FRep F σ hp w fr a.tmps) (hm : mArg x y = true) : Quick P F σ hp w o a (y.ev fr) := by
  refine ⟨a.eval x, ?_, mArg_rep hf hm⟩
  rcases ho with ho | ho <;> simp [execOp, ho]

theorem q_bin {op : BinOp} {t u : TypeId} {x y : Operand} {x' y' : DA} (ho : o.op = .binOp op t x y u) (hf : FRep F σ hp w fr a.tmps) (hx : mArg x x' = true) (hy : mArg y y' = true)
    (h : (dBin op (x'.ev fr) (y'.ev fr)).1) : Quick P F σ hp w o a (dBin op (x'.ev fr) (y'.ev fr)).2 := by
  have vx := mArg_rep hf hx
  have vy := mArg_rep hf hy
  have key : ∃ v, (do eqGuard op t x y (a.eval x) (a.eval y); binOp op t (a.eval x) (a.eval y) : Sem Value).run P w = .ok v w ∧ IRep F w (dBin op (x'.ev fr) (y'.ev fr)).2 v := by
    generalize x'.ev fr = dx at *
    generalize y'.ev fr = dy at *
    unfold dBin at h ⊢
    split at h
    · rename_i k i k' j
      have e1 := vx.int_inv
      have e2 := vy.int_inv
      rw [e1, e2]
      have hg : (eqGuard op t x y (.int k i) (.int k' j)).run P w = .ok () w := by
        unfold eqGuard; cases op <;> simp
      rw [Sem.run_bind, hg, Result.andThen_ok]
      split at h
      · refine ⟨_, ?_, IRep.int _ _⟩
        have : ¬ j < 0 := by simpa using h
        simp [binOp, Op.shift, this]
      · refine ⟨_, ?_, IRep.int _ _⟩
        have : ¬ j < 0 := by simpa using h
        simp [binOp, Op.shift, this]
      · rename_i n1 n2
        split at h
        · rename_i hk
          subst hk
          rw [if_pos rfl]
          exact r_int op t k i j h
        · exact h.elim
    · rename_i s1 s2
      have e1 := vx.str_inv
      have e2 := vy.str_inv
      rw [e1, e2]
      have hg : (eqGuard op t x y (.string ⟨s1.toArray⟩) (.string ⟨s2.toArray⟩)).run P w = .ok () w := by
        unfold eqGuard; cases op <;> simp
      rw [Sem.run_bind, hg, Result.andThen_ok]
      exact r_str op t s1 s2 h
    · exact h.elim
  obtain ⟨v, h1, h2⟩ := key
  exact ⟨v, by simp only [execOp, ho, Sem.run_bind] at h1 ⊢; rw [h1]; rfl, .imm h2⟩

theorem isEq_cases {n : Bool} {op : BinOp} (h : isEq n op = true) : (n = true ∧ op = .neq) ∨ (n = false ∧ op = .eql) := by
  unfold isEq at h
  split at h
  · rename_i hn; exact .inl ⟨hn, by simpa using h⟩
  · rename_i hn; exact .inr ⟨by simpa using hn, by simpa using h⟩

theorem q_eq {op : BinOp} {n : Bool} {t u : TypeId} {x y : Operand} (ho : o.op = .binOp op t x y u) (b : Bool)
    (hg : (eqGuard op t x y (a.eval x) (a.eval y)).run P w = .ok () w) (hb : (binOp op t (a.eval x) (a.eval y)).run P w = .ok (.bool (if n then !b else b)) w) :
    Quick P F σ hp w o a (.bool (if n then !b else b)) := by
  refine ⟨_, ?_, .imm (.bool _)⟩
  simp only [execOp, ho, Sem.run_bind, hg, Result.andThen_ok, hb]
  rfl

theorem q_beq {op : BinOp} {n : Bool} {t u : TypeId} {x y : Operand} {x' y' : DA} (ho : o.op = .binOp op t x y u) (hn : isEq n op = true) (ht : P.underlying t = some .bool) (hf : FRep F σ hp w fr a.tmps) (hx : mArg x x' = true) (hy : mArg y y' = true)
    (h : (dBeq n (x'.ev fr) (y'.ev fr)).1) : Quick P F σ hp w o a (dBeq n (x'.ev fr) (y'.ev fr)).2 := by
  have vx := mArg_rep hf hx
  have vy := mArg_rep hf hy
  generalize x'.ev fr = dx at *
  generalize y'.ev fr = dy at *
  unfold dBeq at h ⊢
  split at h
  · rename_i p q
    have e1 := vx.bool_inv
    have e2 := vy.bool_inv
    refine q_eq ho (p == q) ?_ ?_ <;> rw [e1, e2]
    · unfold eqGuard; cases op <;> simp
    · rcases isEq_cases hn with ⟨rfl, rfl⟩ | ⟨rfl, rfl⟩ <;> simp [binOp, r_beq ht]
  · exact h.elim

/-- Cells held against each other, piece by piece. -/
theorem eqCells_head {k : Nat} {ks : List Nat} {cs ds : List DV} {r : Bool} (h : eqCells (k :: ks) cs ds = some r) :
    ∃ (c : DV) (cs' : List DV) (d : DV) (ds' : List DV) (b : Bool), cs = c :: cs' ∧ ds = d :: ds' ∧ ∀ ks2 cs2 ds2, eqCells (k :: ks2) (c :: cs2) (d :: ds2) = if b then eqCells ks2 cs2 ds2 else some false := by
  rcases cs with _ | ⟨c, cs⟩
  · rcases k with _ | _ | _ | k <;> simp [eqCells] at h
  rcases ds with _ | ⟨d, ds⟩
  · rcases k with _ | _ | _ | k <;> cases c <;> simp [eqCells] at h
  rcases k with _ | _ | _ | k <;> cases c <;> cases d <;> try (simp [eqCells] at h; done)
  · rename_i k1 a k2 b
    by_cases hk : k1 = k2
    · exact ⟨_, _, _, _, (a == b), rfl, rfl, fun ks2 cs2 ds2 => by simp only [eqCells, if_pos hk]⟩
    · simp [eqCells, if_neg hk] at h
  · rename_i a b
    exact ⟨_, _, _, _, (a == b), rfl, rfl, fun ks2 cs2 ds2 => rfl⟩
  · rename_i a b
    exact ⟨_, _, _, _, (a == b), rfl, rfl, fun ks2 cs2 ds2 => rfl⟩
theorem eqCells_app : ∀ (n : Nat) (ks : List Nat) (cs ds : List DV) (r : Bool), n ≤ ks.length → eqCells ks cs ds = some r →
    ∃ q, eqCells (ks.take n) (cs.take n) (ds.take n) = some q ∧ (if q then eqCells (ks.drop n) (cs.drop n) (ds.drop n) else some false) = some r
  | 0, ks, cs, ds, r, _, h => ⟨true, by simp [eqCells], by simpa using h⟩
  | n + 1, [], cs, ds, r, hn, h => by simp at hn
  | n + 1, k :: ks, cs, ds, r, hn, h => by
    have hn' : n ≤ ks.length := by simpa using hn
    obtain ⟨c, cs', d, ds', b, rfl, rfl, hb⟩ := eqCells_head h
    rw [hb] at h
    simp only [List.take_succ_cons, List.drop_succ_cons, hb]
    cases b
    · exact ⟨false, rfl, by simpa using h⟩
    · obtain ⟨q, h1, h2⟩ := eqCells_app n ks cs' ds' r hn' (by simpa using h)
      exact ⟨q, by simpa using h1, h2⟩
theorem eqFields_run {nest : TypeId → List Nat → Bool} {cs ds : List DV} {vs us : Array Value} (hv : ∀ (j : Nat) (d : DV), cs[j]? = some d → ∃ u, vs[j]? = some u ∧ VRep F σ hp w d u) (hu : ∀ (j : Nat) (d : DV), ds[j]? = some d → ∃ u, us[j]? = some u ∧ VRep F σ hp w d u)
    (hlv : cs.length = vs.size) (hlu : ds.length = us.size) (k' : Nat)
    (hnest : ∀ t ks cs' ds' u v q, nest t ks = true → cs'.length = ks.length → ds'.length = ks.length → VRep F σ hp w (.agg cs') u → VRep F σ hp w (.agg ds') v → eqCells ks cs' ds' = some q → (Op.equalIn (k' + 1) t u v).run P w = .ok q w) :
    ∀ (fs : List Field) (ks : List Nat) (k : Nat) (r : Bool), scalarsFrom P nest k fs ks = true → cs.length = k + ks.length → ds.length = k + ks.length → eqCells ks (cs.drop k) (ds.drop k) = some r →
    (Op.eqFields (k' + 1) vs us fs).run P w = .ok r w
  | [], ks, k, r, hs, _, _, h => by
    simp only [scalarsFrom, List.isEmpty_iff] at hs
    subst hs
    unfold eqCells at h
    split at h
    · simp only [Option.some.injEq] at h; subst h; simp [Op.eqFields]
    · rename_i e _ _; cases e
    · rename_i e _ _; cases e
    · rename_i e _ _; cases e
    · cases h
  | f :: fs, ks, k, r, hs, g1, g2, h => by
    simp only [scalarsFrom, Bool.and_eq_true, beq_iff_eq, bne_iff_ne, ne_eq] at hs
    obtain ⟨⟨ho, hn⟩, hr⟩ := hs
    have go : ∀ (u v : Value) (b : Bool), (part f.type vs k).run P w = .ok u w → (part f.type us k).run P w = .ok v w → (Op.equalIn (k' + 1) f.type u v).run P w = .ok b w →
        (b = true → (Op.eqFields (k' + 1) vs us fs).run P w = .ok r w) → (b = false → r = false) → (Op.eqFields (k' + 1) vs us (f :: fs)).run P w = .ok r w := by
      intro u v b pu pv hb h1 h2
      simp only [Op.eqFields, ne_eq, hn, not_false_eq_true, if_true, ho, Sem.run_bind, pu, pv, hb, Result.andThen_ok]
      cases b
      · simp [h2 rfl]
      · simpa using h1 rfl
    split at hr
    · rename_i hsz
      split at hr
      · rename_i n ns
        simp only [Bool.and_eq_true] at hr
        obtain ⟨hsc, hr⟩ := hr
        have fit : ∀ (x y : DV) (t t' : List DV), cs.drop k = x :: t → ds.drop k = y :: t' → t = cs.drop (k + 1) ∧ t' = ds.drop (k + 1) ∧
            ∃ u v, (part f.type vs k).run P w = .ok u w ∧ (part f.type us k).run P w = .ok v w ∧ VRep F σ hp w x u ∧ VRep F σ hp w y v := by
          intro x y t t' e1 e2
          have a1 : t = cs.drop (k + 1) := by rw [← List.drop_drop, e1]; rfl
          have a2 : t' = ds.drop (k + 1) := by rw [← List.drop_drop, e2]; rfl
          obtain ⟨u, pu, ru⟩ := r_part (P := P) hsz hlv hv k (by rw [e1]; simp [dLoad])
          obtain ⟨v, pv, rv⟩ := r_part (P := P) hsz hlu hu k (by rw [e2]; simp [dLoad])
          have d1 : (dLoad none (True, cs.drop k)).2 = x := by rw [e1]; rfl
          have d2 : (dLoad none (True, ds.drop k)).2 = y := by rw [e2]; rfl
          rw [d1] at ru
          rw [d2] at rv
          exact ⟨a1, a2, u, v, pu, pv, ru, rv⟩
        have step : ∀ (u v : Value) (b : Bool), (part f.type vs k).run P w = .ok u w → (part f.type us k).run P w = .ok v w → (Op.equalIn (k' + 1) f.type u v).run P w = .ok b w →
            (if b then eqCells ns (cs.drop (k + 1)) (ds.drop (k + 1)) else some false) = some r → (Op.eqFields (k' + 1) vs us (f :: fs)).run P w = .ok r w := by
          intro u v b pu pv hb hr'
          refine go u v b pu pv hb (fun e => ?_) (fun e => ?_)
          · subst e
            exact eqFields_run hv hu hlv hlu k' hnest fs ns (k + 1) r hr (by simp only [List.length_cons] at g1; omega) (by simp only [List.length_cons] at g2; omega) (by simpa using hr')
          · subst e; simpa using hr'.symm
        unfold eqCells at h
        split at h
        · rename_i e _ _; cases e
        · rename_i ks1 k1 a r1 k2 b s1 e0 e1 e2
          cases e0
          obtain ⟨rfl, rfl, u, v, pu, pv, ru, rv⟩ := fit _ _ _ _ e1 e2
          split at h
          · rename_i hk; subst hk
            have f1 := ru.int_inv
            have f2 := rv.int_inv
            subst f1; subst f2
            unfold scalarAt at hsc
            split at hsc
            · rename_i ht
              exact step _ _ _ pu pv (run_equalIn_int w k' _ _ _ _ _ ht) h
            · simp at hsc
            · simp at hsc
            · cases hsc
          · cases h
        · rename_i ks1 a r1 b s1 e0 e1 e2
          cases e0
          obtain ⟨rfl, rfl, u, v, pu, pv, ru, rv⟩ := fit _ _ _ _ e1 e2
          have f1 := ru.bool_inv
          have f2 := rv.bool_inv
          subst f1; subst f2
          unfold scalarAt at hsc
          split at hsc
          · simp at hsc
          · rename_i ht
            exact step _ _ _ pu pv (run_equalIn_bool' w k' _ _ _ ht) h
          · simp at hsc
          · cases hsc
        · rename_i ks1 a r1 b s1 e0 e1 e2
          cases e0
          obtain ⟨rfl, rfl, u, v, pu, pv, ru, rv⟩ := fit _ _ _ _ e1 e2
          have f1 := ru.str_inv
          have f2 := rv.str_inv
          subst f1; subst f2
          unfold scalarAt at hsc
          split at hsc
          · simp at hsc
          · simp at hsc
          · rename_i ht
            refine step _ _ (a == b) pu pv ?_ h
            rw [run_equalIn_string w k' _ _ _ ht, ByteArray.toList_eq, ByteArray.toList_eq]
          · cases hsc
        · cases h
      · cases hr
    · rename_i n hsz
      simp only [Bool.and_eq_true, decide_eq_true_eq] at hr
      obtain ⟨⟨hle, hne⟩, hr⟩ := hr
      obtain ⟨q, h1, h2⟩ := eqCells_app n _ _ _ _ hle h
      have l1 : n ≤ (cs.drop k).length ∧ n ≤ (ds.drop k).length := by
        rw [List.length_drop, List.length_drop]; omega
      obtain ⟨u, pu, ru⟩ := r_part (P := P) hsz hlv hv k (by simpa [dLoad] using l1.1)
      obtain ⟨v, pv, rv⟩ := r_part (P := P) hsz hlu hu k (by simpa [dLoad] using l1.2)
      refine go u v q pu pv (hnest _ _ _ _ _ _ _ hne (by simp only [List.length_take]; omega) (by simp only [List.length_take]; omega) ru rv h1) (fun e => ?_) (fun e => ?_)
      · subst e
        exact eqFields_run hv hu hlv hlu k' hnest fs (ks.drop n) (k + n) r hr (by rw [List.length_drop]; omega) (by rw [List.length_drop]; omega) (by simpa [List.drop_drop, Nat.add_comm] using h2)
      · subst e; simpa using h2.symm
    · cases hr

theorem q_aeq {op : BinOp} {n : Bool} {t u : TypeId} {x y : Operand} {x' y' : DA} {ks : List Nat} (ho : o.op = .binOp op t x y u) (hn : isEq n op = true) (ht : structEqOk P t ks = true) (hf : FRep F σ hp w fr a.tmps) (hx : mArg x x' = true) (hy : mArg y y' = true)
    (h : (dAeq n ks (x'.ev fr) (y'.ev fr)).1) : Quick P F σ hp w o a (dAeq n ks (x'.ev fr) (y'.ev fr)).2 := by
  have vx := mArg_rep hf hx
  have vy := mArg_rep hf hy
  generalize x'.ev fr = dx at *
  generalize y'.ev fr = dy at *
  unfold structEqOk at ht
  split at ht
  · rename_i fs hu
    simp only [Bool.and_eq_true, Bool.not_eq_true'] at ht
    obtain ⟨⟨hs, hst⟩, hg⟩ := ht
    have hfs : P.fieldsOf t = fs := by simp [Program.fieldsOf, hu]
    unfold dAeq at h ⊢
    split at h
    · rename_i cs ds
      obtain ⟨vs, e1, l1, r1⟩ := vx.agg_inv
      obtain ⟨us, e2, l2, r2⟩ := vy.agg_inv
      split at h
      · rename_i r hr
        obtain ⟨g1, g2⟩ := h
        have hrun : (Op.equalIn 10000 t (.agg vs) (.agg us)).run P w = .ok r w := by
          rw [run_equalIn_struct w 9999 t vs us (by rw [hfs]; exact hu) hst, hfs]
          refine eqFields_run r1 r2 l1 l2 9998 (fun t' ks' cs' ds' u v q hne n1 n2 ru rv hq => ?_) fs.toList ks 0 r hs (by omega) (by omega) hr
          unfold nest1 at hne
          split at hne
          · rename_i gs hu'
            simp only [Bool.and_eq_true, Bool.not_eq_true'] at hne
            obtain ⟨hs', hst'⟩ := hne
            obtain ⟨vs', rfl, l1', r1'⟩ := ru.agg_inv
            obtain ⟨us', rfl, l2', r2'⟩ := rv.agg_inv
            have hgs : P.fieldsOf t' = gs := by simp [Program.fieldsOf, hu']
            rw [run_equalIn_struct w 9998 t' vs' us' (by rw [hgs]; exact hu') hst', hgs]
            exact eqFields_run r1' r2' l1' l2' 9997 (fun _ _ _ _ _ _ _ h => by cases h) gs.toList ks' 0 q hs' (by omega) (by omega) hq
          · cases hne
        refine q_eq ho r ?_ ?_ <;> rw [e1, e2]
        · exact run_eqGuard_agg w op t x y vs us hg
        · rcases isEq_cases hn with ⟨rfl, rfl⟩ | ⟨rfl, rfl⟩
          · rw [run_neq_struct, hrun]; rfl
          · rw [run_eql_struct, hrun]; rfl
      · exact h.elim
    · exact h.elim
  · cases ht

theorem q_snil {C : Orc} {op : BinOp} {n : Bool} {t u e : TypeId} {x : Operand} {x' : DA} (ho : o.op = .binOp op t x (.const (.slice none 0 0)) u) (hn : isEq n op = true) (ht : P.underlying t = some (.slice e)) (hf : FRep F σ hp w fr a.tmps) (hx : mArg x x' = true)
    (h : (dval C (.snil n x') ⟨fr, hp⟩).pre) : Quick P F σ hp w o a (dval C (.snil n x') ⟨fr, hp⟩).val := by
  have vx := mArg_rep hf hx
  simp only [dval] at h ⊢
  generalize x'.ev fr = dx at *
  have key : ∀ A m c, a.eval x = .slice A m c → Quick P F σ hp w o a (.bool (if n then !A.isNone else A.isNone)) := by
    intro A m c e1
    have e2 : a.eval (.const (.slice none 0 0)) = .slice none 0 0 := rfl
    refine q_eq ho _ ?_ ?_ <;> rw [e1, e2]
    · unfold eqGuard; cases op <;> simp
    · rcases isEq_cases hn with ⟨rfl, rfl⟩ | ⟨rfl, rfl⟩ <;> simp [binOp, r_seq ht]
  have anyq : ∀ b, Quick P F σ hp w o a (.bool b) → Quick P F σ hp w o a .anyb := by
    rintro b ⟨v, h1, h2⟩
    exact ⟨v, h1, by rw [h2.bool_inv]; exact .imm (.anyb b)⟩
  split at h
  · have := key none 0 0 vx.nil_inv
    cases n <;> simpa using this
  · obtain ⟨A, m, c, e1⟩ : ∃ A m c, a.eval x = .slice A m c := by
      generalize a.eval x = v at vx ⊢
      cases vx.sl_inv
      exact ⟨_, _, _, rfl⟩
    exact anyq _ (key A m c e1)
  · rename_i r s
    obtain ⟨A, m, c, e1, hA⟩ : ∃ A m c, a.eval x = .slice A m c ∧ A.isNone = false := by
      generalize a.eval x = v at vx ⊢
      cases vx.sl_inv with
      | sl _ A m c b z cv _ _ hA => exact ⟨A, m, c, rfl, by rw [(hA (by simp)).1]; rfl⟩
    have := key A m c e1
    rw [hA] at this
    cases n <;> simpa using this
  · rename_i h' L off len
    obtain ⟨hl, hob⟩ := vx.own_inv
    obtain ⟨A, cap, e1, hlc, e2⟩ : ∃ A cap, a.eval x = .slice A len cap ∧ len ≤ cap ∧ (cap = 0 ∨ A.isNone = false) := by
      unfold alive at h
      cases hhp : hp[h']? with
      | none => simp [hhp] at h
      | some ob =>
        simp only [hhp] at h
        obtain ⟨A, cap, e1, e2, e3⟩ := (hob ob hhp).2 h.1 h.2
        exact ⟨A, cap, e1, e2, e3.imp id fun ⟨g, _, hA, _⟩ => by rw [hA]; rfl⟩
    have := key A len cap e1
    split
    · rename_i hlt
      rw [e2.resolve_left (by omega)] at this
      cases n <;> simpa using this
    · exact anyq _ this
  · exact h.elim

theorem q_peq0 {op : BinOp} {n : Bool} {t u e : TypeId} {x y : Operand} (ho : o.op = .binOp op t x y u) (hn : isEq n op = true) (ht : P.underlying t = some (.pointer e)) {p q : Option Addr} (e1 : a.eval x = .pointer p) (e2 : a.eval y = .pointer q) (hpq : p = none ∨ q = none) :
    Quick P F σ hp w o a (.bool (if n then !(p.isNone && q.isNone) else (p.isNone && q.isNone))) := by
  refine q_eq ho _ ?_ ?_ <;> rw [e1, e2]
  · unfold eqGuard; cases op <;> simp
  · rcases isEq_cases hn with ⟨rfl, rfl⟩ | ⟨rfl, rfl⟩ <;> simp [binOp, r_peq ht p q hpq]

theorem q_peq {op : BinOp} {n : Bool} {t u e : TypeId} {x y : Operand} {x' y' : DA} (ho : o.op = .binOp op t x y u) (hn : isEq n op = true) (ht : P.underlying t = some (.pointer e)) (hf : FRep F σ hp w fr a.tmps) (hx : mArg x x' = true) (hy : mArg y y' = true)
    (h : (dPeq n (x'.ev fr) (y'.ev fr)).1) : Quick P F σ hp w o a (dPeq n (x'.ev fr) (y'.ev fr)).2 := by
  have vx := mArg_rep hf hx
  have vy := mArg_rep hf hy
  generalize x'.ev fr = dx at *
  generalize y'.ev fr = dy at *
  have key : ∀ p q : Option Addr, a.eval x = .pointer p → a.eval y = .pointer q → (p = none ∨ q = none) → Quick P F σ hp w o a (.bool (if n then !(p.isNone && q.isNone) else (p.isNone && q.isNone))) := by
    intro p q e1 e2 hpq
    refine q_eq ho _ ?_ ?_ <;> rw [e1, e2]
    · unfold eqGuard; cases op <;> simp
    · rcases isEq_cases hn with ⟨rfl, rfl⟩ | ⟨rfl, rfl⟩ <;> simp [binOp, r_peq ht p q hpq]
  unfold dPeq at h ⊢
  split at h
  · have := key none none vx.nilp_inv vy.nilp_inv (.inl rfl)
    cases n <;> simpa using this
  · obtain ⟨b, e1, _⟩ := vx.ref_inv.ref_inv
    have := key _ none e1 vy.nilp_inv (.inr rfl)
    cases n <;> simpa using this
  · obtain ⟨b, e1, _⟩ := vy.ref_inv.ref_inv
    have := key none _ vx.nilp_inv e1 (.inl rfl)
    cases n <;> simpa using this
  · exact h.elim

theorem q_un {op : UnOp} {t : TypeId} {x : Operand} {x' : DA} (ho : o.op = .unOp op t x) (hf : FRep F σ hp w fr a.tmps) (hx : mArg x x' = true)
    (h : (dUn op (x'.ev fr)).1) : Quick P F σ hp w o a (dUn op (x'.ev fr)).2 := by
  obtain ⟨v, h1, h2⟩ := r_un (P := P) op _ _ (mArg_rep hf hx) h
  exact ⟨v, by simp [execOp, ho, h1], .imm h2⟩

theorem q_conv {s t : TypeId} {k k' : IntKind} {n : Int} {x : Operand} (ho : o.op = .convert s t x) (hs : (P.underlying s).isSome = true) (ht : P.underlying t = some (.int k)) (hx : a.eval x = .int k' n) :
    Quick P F σ hp w o a (.int k (k.wrap n)) := by
  obtain ⟨d, hd⟩ := Option.isSome_iff_exists.1 hs
  refine ⟨_, ?_, .imm (.int _ _)⟩
  simp [execOp, ho, hx, convert, run_under hd, run_under ht, Conv.intToInt]

theorem q_same {s t : TypeId} {x : Operand} {b : List UInt8} (ho : o.op = .convert s t x) (hs : (P.underlying s).isSome = true) (ht : P.underlying t = some .string) (hx : a.eval x = .string ⟨b.toArray⟩) :
    Quick P F σ hp w o a (.str b) := by
  obtain ⟨d, hd⟩ := Option.isSome_iff_exists.1 hs
  refine ⟨_, ?_, .imm (.str _)⟩
  simp [execOp, ho, hx, convert, run_under hd, run_under ht]

theorem q_builtin {b : Builtin} {xs : Array Operand} {ts : Array TypeId} {v : Value} {d : DV} (ho : o.op = .call { callee := .builtin b, args := xs, argTypes := ts })
    (hb : ∀ cs, (builtin b ts o.type cs (xs.map a.eval)).run P w = .ok (.value v) w) (hv : VRep F σ hp w d v) : Quick P F σ hp w o a d := by
  refine ⟨v, ?_, hv⟩
  simp [execOp, ho, resolve, invoke, hb]

theorem q_minmax {b : Builtin} {mx : Bool} {xs : Array Operand} {ts : Array TypeId} {x y : Operand} {k : IntKind} {m n : Int} (hb : b = if mx then .max else .min)
    (ho : o.op = .call { callee := .builtin b, args := xs, argTypes := ts }) (hxs : xs = #[x, y]) (hx : a.eval x = .int k m) (hy : a.eval y = .int k n) :
    Quick P F σ hp w o a (.int k (if mx then max m n else min m n)) := by
  subst hb hxs
  refine q_builtin ho (v := .int k (if mx then max m n else min m n)) (fun cs => ?_) (.imm (.int _ _))
  cases mx
  · have e : (if n < m then n else m) = min m n := by rw [Int.min_def]; split <;> split <;> omega
    simp [builtin, Builtin.min_, Builtin.min2, hx, hy, e]
  · have e : (if m < n then n else m) = max m n := by rw [Int.max_def]; split <;> split <;> omega
    simp [builtin, Builtin.max_, Builtin.max2, hx, hy, e]

theorem q_lenS {xs : Array Operand} {t : TypeId} {x : Operand} {b : List UInt8} (ho : o.op = .call { callee := .builtin .len, args := xs, argTypes := #[t] }) (hxs : xs = #[x]) (ht : P.underlying t = some .string) (hx : a.eval x = .string ⟨b.toArray⟩) :
    Quick P F σ hp w o a (.int .i64 b.length) := by
  subst hxs
  refine q_builtin ho (v := .int .i64 b.length) (fun cs => ?_) (.imm (.int _ _))
  have e : (⟨b.toArray⟩ : ByteArray).size = b.length := rfl
  simp [builtin, Builtin.len_, run_under ht, hx, goInt, e]

theorem q_len {xs : Array Operand} {t e : TypeId} {x : Operand} {A : Option Addr} {n c : Nat} (ho : o.op = .call { callee := .builtin .len, args := xs, argTypes := #[t] }) (hxs : xs = #[x]) (ht : P.underlying t = some (.slice e)) (hx : a.eval x = .slice A n c) :
    Quick P F σ hp w o a (.int .i64 n) := by
  subst hxs
  refine q_builtin ho (v := .int .i64 n) (fun cs => ?_) (.imm (.int _ _))
  simp [builtin, Builtin.len_, run_under ht, hx, goInt]

theorem q_cap {xs : Array Operand} {t e : TypeId} {x : Operand} {A : Option Addr} {n c : Nat} (ho : o.op = .call { callee := .builtin .cap, args := xs, argTypes := #[t] }) (hxs : xs = #[x]) (ht : P.underlying t = some (.slice e)) (hx : a.eval x = .slice A n c) :
    Quick P F σ hp w o a (.int .i64 c) := by
  subst hxs
  refine q_builtin ho (v := .int .i64 c) (fun cs => ?_) (.imm (.int _ _))
  simp [builtin, Builtin.cap_, run_under ht, hx, goInt]

theorem q_load [Inhabited Env] (hs : SimH K F σ hp w) {t : TypeId} {sz : Option Nat} {x : Operand} {x' : DA} (ho : o.op = .load t x) (hsz : szOf P t = some sz) (hf : FRep F σ hp w fr a.tmps) (hx : mArg x x' = true)
    (h : (dLoad sz (cellsAt hp (x'.ev fr))).1) : Quick P F σ hp w o a (dLoad sz (cellsAt hp (x'.ev fr))).2 := by
  obtain ⟨u, hu, hr⟩ := r_dload (P := P) hs hsz (mArg_rep hf hx) h
  exact ⟨u, by simp [execOp, ho, hu], hr⟩

theorem q_field {t : TypeId} {f : Nat} {fs : Array Field} {fl : Field} {sz : Option Nat} {x : Operand} {x' : DA} {cs : List DV} (ho : o.op = .field t x f) (ht : P.underlying t = some (.struct fs)) (hfl : fs[f]? = some fl) (hsz : szOf P fl.type = some sz)
    (hf : FRep F σ hp w fr a.tmps) (hx : mArg x x' = true) (hcs : x'.ev fr = .agg cs) (h : (dLoad sz (True, cs.drop fl.offset)).1) : Quick P F σ hp w o a (dLoad sz (True, cs.drop fl.offset)).2 := by
  have hv := mArg_rep hf hx
  rw [hcs] at hv
  obtain ⟨vs, e1, hl, hv⟩ := hv.agg_inv
  obtain ⟨u, hu, hr⟩ := r_part (P := P) hsz hl hv fl.offset h
  exact ⟨u, by simp [execOp, ho, Instr.field, run_under ht, hfl, e1, asAgg, hu], hr⟩

theorem q_faddr {t : TypeId} {f : Nat} {fs : Array Field} {fl : Field} {i : TypeInfo} {x : Operand} {p : Addr} (ho : o.op = .fieldAddr t x f) (ht : P.underlying t = some (.struct fs)) (hfl : fs[f]? = some fl) (hi : P.info? fl.type = some i) (hne : i.size ≠ 0)
    (hx : a.eval x = .pointer (some p)) (hp' : p.spot = none) {d : DV} (hv : VRep F σ hp w d (.pointer (some ⟨p.block, p.off + fl.offset, none⟩))) : Quick P F σ hp w o a d := by
  refine ⟨_, ?_, hv⟩
  simp [execOp, ho, Instr.fieldAt, run_under ht, hfl, hx, Instr.sureAddr, fieldPlace, sizeOf, typeInfo, hi, hne, add_none hp']

theorem drop_ref {cs : List DV} {p : Addr} (h : IRep F w (.ref cs) (.pointer (some p))) (n : Nat) : IRep F w (.ref (cs.drop n)) (.pointer (some ⟨p.block, p.off + n, none⟩)) := by
  obtain ⟨b, e, hs, hF, hc⟩ := h.ref_inv
  injection e with e
  injection e with e
  subst e
  refine IRep.ref_mk rfl hF fun j d hd => ?_
  rw [List.getElem?_drop] at hd
  obtain ⟨u, hu, h1⟩ := hc _ _ hd
  exact ⟨u, by simpa [Nat.add_assoc] using hu, h1⟩

theorem q_iaddr {t e : TypeId} {i : TypeInfo} {x y : Operand} {A : Option Addr} {n c : Nat} {k : IntKind} {m : Int} {b : Addr} (ho : o.op = .indexAddr t x y) (ht : P.underlying t = some (.slice e)) (hi : P.info? e = some i)
    (hx : a.eval x = .slice A n c) (hy : a.eval y = .int k m) (hA : A = some b) (hb : b.spot = none) (h0 : 0 ≤ m) (h1 : m < n) {d : DV}
    (hv : VRep F σ hp w d (.pointer (some ⟨b.block, b.off + m.toNat * i.size, none⟩))) : Quick P F σ hp w o a d := by
  refine ⟨_, ?_, hv⟩
  simp [execOp, ho, Instr.indexAt, hx, hy, asIntOf, run_under ht, hA, h0, h1, sizeOf, typeInfo, hi, add_none hb]

theorem q_iaddrA {t e : TypeId} {i : TypeInfo} {x y : Operand} {n : Nat} {k : IntKind} {m : Int} {b : Addr} (ho : o.op = .indexAddr t x y) (ht : P.underlying t = some (.array n e)) (hi : P.info? e = some i)
    (hx : a.eval x = .pointer (some b)) (hy : a.eval y = .int k m) (hb : b.spot = none) (h0 : 0 ≤ m) (h1 : m < n) {d : DV}
    (hv : VRep F σ hp w d (.pointer (some ⟨b.block, b.off + m.toNat * i.size, none⟩))) : Quick P F σ hp w o a d := by
  refine ⟨_, ?_, hv⟩
  simp [execOp, ho, Instr.indexAt, hx, hy, asIntOf, run_under ht, Instr.sureAddr, h0, h1, sizeOf, typeInfo, hi, add_none hb]

theorem q_index {t : TypeId} {x y : Operand} {k : IntKind} {m : Int} {s : List UInt8} (ho : o.op = .index t x y) (ht : P.underlying t = some .string)
    (hx : a.eval x = .string ⟨s.toArray⟩) (hy : a.eval y = .int k m) (h0 : 0 ≤ m) (h1 : m < s.length) : Quick P F σ hp w o a (.int .u8 (s.getD m.toNat 0).toNat) := by
  have hlt : m.toNat < s.length := by omega
  have e : (⟨s.toArray⟩ : ByteArray)[m.toNat]? = some s[m.toNat] := by
    have hs : m.toNat < (⟨s.toArray⟩ : ByteArray).size := hlt
    exact (getElem?_pos (⟨s.toArray⟩ : ByteArray) m.toNat hs).trans rfl
  refine ⟨_, ?_, .imm (.int _ _)⟩
  simp [execOp, ho, Instr.index, hx, hy, asIntOf, run_under ht, h0, e, List.getD, hlt]

theorem q_extract {x : Operand} {x' : DA} {i : Nat} {ds : List DV} (ho : o.op = .extract x i) (hf : FRep F σ hp w fr a.tmps) (hx : mArg x x' = true) (hd : x'.ev fr = .tup ds) (h : i < ds.length) : Quick P F σ hp w o a (ds.getD i .undef) := by
  have hv := mArg_rep hf hx
  rw [hd] at hv
  obtain ⟨vs, e1, hl, hv⟩ := hv.tup_inv
  obtain ⟨u, hu, hr⟩ := hv i ds[i] (by simp)
  refine ⟨u, by simp [execOp, ho, Instr.extract, e1, hu], ?_⟩
  have : ds.getD i .undef = ds[i] := by simp [List.getD, h]
  rw [this]; exact hr

theorem q_nilck {x : Operand} {v : Value} (ho : o.op = .nilCheck x) (hx : a.eval x = v) (hv : (∃ p, v = .pointer (some p)) ∨ ∃ f b c, v = .func (.func f) b c) {d : DV} (hr : VRep F σ hp w d v) : Quick P F σ hp w o a d := by
  refine ⟨v, ?_, hr⟩
  rcases hv with ⟨p, rfl⟩ | ⟨f, b, c, rfl⟩ <;> simp [execOp, ho, hx]

theorem q_mkfun {f : FuncId} {fst caps : Array Operand} {caps' : List DA} (ho : o.op = .makeFunc (.func f) fst caps) (hfst : fst.size = 0) (hf : FRep F σ hp w fr a.tmps) (hc : mArgs caps.toList caps' = true) :
    Quick P F σ hp w o a (.clo f (caps'.map (·.ev fr))) := by
  obtain ⟨hl, hv⟩ := mArgs_rep hf hc
  have : fst = #[] := Array.eq_empty_of_size_eq_zero hfst
  subst this
  refine ⟨.func (.func f) #[] (caps.map a.eval), by simp [execOp, ho, Instr.makeFunc], VRep.clo_mk (by simpa using hl) fun j d hd => ?_⟩
  obtain ⟨u, hu, hr⟩ := hv j d hd
  exact ⟨u, by simpa using hu, hr⟩

theorem q_mkmeth {f : FuncId} {fst caps : Array Operand} {fst' : List DA} (ho : o.op = .makeFunc (.func f) fst caps) (hcap : caps.size = 0) (hf : FRep F σ hp w fr a.tmps) (hc : mArgs fst.toList fst' = true) :
    Quick P F σ hp w o a (.meth f (fst'.map (·.ev fr))) := by
  obtain ⟨hl, hv⟩ := mArgs_rep hf hc
  have : caps = #[] := Array.eq_empty_of_size_eq_zero hcap
  subst this
  refine ⟨.func (.func f) (fst.map a.eval) #[], by simp [execOp, ho, Instr.makeFunc], VRep.meth_mk (by simpa using hl) fun j d hd => ?_⟩
  obtain ⟨u, hu, hr⟩ := hv j d hd
  exact ⟨u, by simpa using hu, hr⟩

theorem q_pick {c x y : Operand} {c' x' y' : DA} {b : Bool} (ho : o.op = .pick c x y) (hf : FRep F σ hp w fr a.tmps) (hc : mArg c c' = true) (hx : mArg x x' = true) (hy : mArg y y' = true) (hb : c'.ev fr = .bool b) :
    Quick P F σ hp w o a (if b then x'.ev fr else y'.ev fr) := by
  have hv := mArg_rep hf hc
  rw [hb] at hv
  have e := hv.bool_inv
  refine ⟨if b then a.eval x else a.eval y, by simp [execOp, ho, e, asBool], ?_⟩
  cases b
  · exact mArg_rep hf hy
  · exact mArg_rep hf hx
end
end Go.Nk
