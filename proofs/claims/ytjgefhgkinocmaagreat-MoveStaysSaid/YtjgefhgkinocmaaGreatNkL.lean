/- store. -/
import Derived.Test.YtjgefhgkinocmaaGreatNkK1
set_option linter.all false
namespace Go.Nk
open Go.RowKit

section
variable {P : Program} {K F F' : Nat → Prop} {σ σ' : Nat → Option Nat} {hp hp' : List DObj} {w w' : World} {fr : List (Nat × DV)} {a : Act} {o : Oper}

theorem run_storeOp {t : TypeId} {p v : Operand} {i : TypeInfo} {g n : Nat} {c : Array Value} {ty : TypeId} (ho : o.op = .store t p v) (hi : P.info? t = some i) (hp' : a.eval p = .pointer (some ⟨g, n, none⟩)) (hsz : (a.eval v).cells.size = i.size)
    (hh : w.heap[g]? = some (.cells c ty (0, 0))) (hfit : n + (a.eval v).cells.size ≤ c.size) (h1 : ∀ u ∈ (a.eval v).cells.toList, u.oneCell' = true) :
    (execOp a.eval o).run P w = .ok .skip (w.setRow g (c.toList.take n ++ (a.eval v).cells.toList ++ c.toList.drop (n + (a.eval v).cells.toList.length)).toArray) := by
  have hst := run_storeCells_at P g n ty (a.eval v).cells.toList 0 c w hh (by simpa using hfit) h1
  simp only [Nat.add_zero] at hst
  simp only [execOp, ho, Instr.storeAt, hp', Instr.sureAddr, storeVar, Sem.run_bind, Sem.run_pure, Result.andThen_ok, sizeOf, typeInfo, run_program, hi, hsz, ne_eq, not_true, if_false, hst]

theorem rows_store {z i j : Nat} {es : List (List DV)} {R R' : DV → Value → Prop} {cs : List DV} {vs : List Value} {c c' : Array Value} (hzz : ∀ (i : Nat) (e : List DV), es[i]? = some e → e.length = z)
    (hcc : ∀ i j d, cellAt es i j = some d → ∃ v, c[i * z + j]? = some v ∧ R d v) (hi : i < es.length) (hj : j + cs.length ≤ (es.getD i []).length) (hv : All2 R' cs vs) (hR : ∀ d v, R d v → R' d v)
    (hat : ∀ k : Nat, c'[k]? = if i * z + j ≤ k ∧ k < i * z + j + vs.length then vs[k - (i * z + j)]? else c[k]?) :
    (∀ (k : Nat) (e : List DV), (es.set i (setFrom (es.getD i []) j cs))[k]? = some e → e.length = z) ∧
    ∀ k l d, cellAt (es.set i (setFrom (es.getD i []) j cs)) k l = some d → ∃ v, c'[k * z + l]? = some v ∧ R' d v := by
  have hrow : es.getD i [] = es[i] := by simp [List.getD, hi]
  rw [hrow] at hj ⊢
  have hrz := hzz i es[i] (by simp [hi])
  obtain ⟨s1, s2⟩ := setFrom_spec cs es[i] j
  have hvl := hv.1
  refine ⟨fun k e he => ?_, fun k l d hd => ?_⟩
  · by_cases hk : k = i
    · subst hk
      rw [List.getElem?_set_self hi] at he
      injection he with he; rw [← he, s1, hrz]
    · rw [List.getElem?_set_ne (Ne.symm hk)] at he
      exact hzz _ _ he
  · by_cases hk : k = i
    · subst hk
      have hd' : (setFrom es[k] j cs)[l]? = some d := by
        unfold cellAt at hd
        rw [List.getElem?_set_self hi] at hd
        simpa using hd
      rw [s2] at hd'
      split at hd'
      · rename_i hl
        obtain ⟨u, hu, hr⟩ := hv.2 _ _ hd'
        refine ⟨u, ?_, hr⟩
        rw [hat, if_pos (by omega), ← hu]
        congr 1; omega
      · rename_i hl
        have hlt : l < es[k].length := (List.getElem?_eq_some_iff.1 hd').1
        obtain ⟨u, hu, hr⟩ := hcc k l d (by simp [cellAt, hi, hd'])
        exact ⟨u, by rw [hat, if_neg (by omega)]; exact hu, hR _ _ hr⟩
    · have hd' : cellAt es k l = some d := by
        unfold cellAt at hd ⊢
        rwa [List.getElem?_set_ne (Ne.symm hk)] at hd
      obtain ⟨u, hu, hr⟩ := hcc _ _ _ hd'
      obtain ⟨_, hl, _⟩ := row_len hzz hd'
      refine ⟨u, ?_, hR _ _ hr⟩
      rw [hat, if_neg]
      · exact hu
      · intro h
        exact idx_ne hl (Ne.symm hk) ⟨by omega, by omega⟩

theorem x_store_loc [Inhabited Env] {t : TypeId} {p v : Operand} {p' v' : DA} {i : TypeInfo} {h r j : Nat} {ob : DObj} (hs : SimH K F σ hp w) (ho : o.op = .store t p v) (hi : P.info? t = some i) (hf : FRep F σ hp w fr a.tmps) (hp1 : mArg p p' = true) (hv1 : mArg v v' = true)
    (hob : hp[h]? = some ob) (hk : ob.k = .loc) (hpp : p'.ev fr = .ptr h ob.es.length r j) (hn : (cellsOf (v'.ev fr)).length = i.size) (hr : r < ob.es.length) (hj : j + (cellsOf (v'.ev fr)).length ≤ (ob.es.getD r []).length)
    (h1 : ∀ d ∈ cellsOf (v'.ev fr), d.one = true) :
    ∃ w', (execOp a.eval o).run P w = .ok .skip w' ∧ Gives K F σ hp w (.tup []) (hp.set h { ob with es := ob.es.set r (setFrom (ob.es.getD r []) j (cellsOf (v'.ev fr))) }) undef w' := by
  have hvp := mArg_rep hf hp1
  rw [hpp] at hvp
  have hkd : ob.k ≠ .dead := by rw [hk]; simp
  have hl := lt_of_some hob
  obtain ⟨g, hg, hpv⟩ := (hvp.ptr_inv.2 ob hob).2 hkd rfl
  have hold := hs.obj h ob hob
  unfold ORep at hold
  rw [hk] at hold; dsimp only at hold
  obtain ⟨g', hg', nF, nK, c, ty, hh, hcz, hzz, hcc⟩ := hold
  rw [hg] at hg'; injection hg' with hg'; subst hg'
  have hc := cells_rep (mArg_rep hf hv1) h1
  have hsz : (a.eval v).cells.size = i.size := by rw [← hn, hc.1]; simp
  have hrow : (ob.es.getD r []).length = ob.z := hzz r _ (by simp [List.getD, hr])
  have hfit : r * ob.z + j + (a.eval v).cells.toList.length ≤ c.size := by
    rw [← hc.1]
    have : (r + 1) * ob.z ≤ ob.es.length * ob.z := Nat.mul_le_mul_right _ hr
    rw [Nat.add_mul] at this; omega
  have one : ∀ u ∈ (a.eval v).cells.toList, u.oneCell' = true := by
    intro u hu
    obtain ⟨k, hk', rfl⟩ := List.getElem_of_mem hu
    have hk2 : k < (cellsOf (v'.ev fr)).length := by rw [hc.1]; exact hk'
    obtain ⟨u', hu', hr'⟩ := hc.2 k (cellsOf (v'.ev fr))[k] (by simp [hk2])
    rw [List.getElem?_eq_getElem hk'] at hu'
    injection hu' with hu'
    rw [hu']
    exact hr'.oneCell (h1 _ (List.getElem_mem _))
  refine ⟨_, run_storeOp ho hi hpv hsz hh (by simpa using hfit) one, ?_⟩
  have hat := splice_at (cur := c) (n := r * ob.z + j) (vs := (a.eval v).cells.toList) hfit
  have hget := setRow_heap w g c (c.toList.take (r * ob.z + j) ++ (a.eval v).cells.toList ++ c.toList.drop (r * ob.z + j + (a.eval v).cells.toList.length)).toArray ty (0, 0) hh
  have hcs : (c.toList.take (r * ob.z + j) ++ (a.eval v).cells.toList ++ c.toList.drop (r * ob.z + j + (a.eval v).cells.toList.length)).toArray.size = c.size := by simp at hfit ⊢; omega
  generalize (c.toList.take (r * ob.z + j) ++ (a.eval v).cells.toList ++ c.toList.drop (r * ob.z + j + (a.eval v).cells.toList.length)).toArray = c' at *
  have cg : Chg K F σ hp w h { ob with es := ob.es.set r (setFrom (ob.es.getD r []) j (cellsOf (v'.ev fr))) } F σ (hp.set h { ob with es := ob.es.set r (setFrom (ob.es.getD r []) j (cellsOf (v'.ev fr))) }) (w.setRow g c') :=
    { os := rfl, tape := rfl, output := rfl, size := by simp, hF := fun _ h => h, newF := fun _ h => .inl h, ltF := fun b hb => by simpa using hs.fb b hb
      heap := fun b hb hne => setRow_other _ _ _ _ (fun e => hne ob hob (.inr hk) (by rw [hg, e])), hps := .inl ⟨hl, rfl⟩
      sig := fun h' hne => rfl, newg := fun g hg => .inl ⟨hg, ob, hob, .inr hk⟩
      grow := fun oh hoh => by
        rw [hob] at hoh; injection hoh with e; subst e
        refine ⟨.inl (.inr hk), by simp, fun _ _ => ⟨rfl, rfl, fun g1 hg1 => ?_⟩⟩
        rw [hg] at hg1; injection hg1 with hg1; subst hg1
        unfold bsz; rw [hget, hh]; exact hcs }
  have hm := cg.hm hs
  refine ⟨F, σ, cg.sim hs ?_, cg.moves hs, hm, .tup [] #[] rfl (fun _ => undef) (fun j d hd => by simp at hd) (fun j d hd => by simp at hd)⟩
  unfold ORep
  simp only [hk]
  obtain ⟨q1, q2⟩ := rows_store (R' := VRep F σ (hp.set h { ob with es := ob.es.set r (setFrom (ob.es.getD r []) j (cellsOf (v'.ev fr))) }) (w.setRow g c')) hzz hcc hr hj (hc.imp fun d v h => h.mono hm) (fun d v h => h.mono hm) hat
  simp only [hk] at q2
  exact ⟨g, hg, nF, nK, c', ty, hget, by rw [hcs]; simpa using hcz, q1, q2⟩

theorem x_store_imm [Inhabited Env] {t : TypeId} {p v : Operand} {p' v' : DA} {i : TypeInfo} {h r j : Nat} {ob ob' : DObj} (hs : SimH K F σ hp w) (ho : o.op = .store t p v) (hi : P.info? t = some i) (hf : FRep F σ hp w fr a.tmps) (hp1 : mArg p p' = true) (hv1 : mArg v v' = true)
    (hob : hp[h]? = some ob) (hk : ob.k = .imm) (hpp : p'.ev fr = .ptr h ob.es.length r j) (hn : (cellsOf (v'.ev fr)).length = i.size) (hr : r < ob.es.length) (hj : j + (cellsOf (v'.ev fr)).length ≤ (ob.es.getD r []).length)
    (hpre : (fzL hp (cellsOf (v'.ev fr))).pre) (hob' : (fzL hp (cellsOf (v'.ev fr))).hp[h]? = some ob') (hk' : ob'.k = .imm) (hu : v'.ev fr ≠ .undef) :
    ∃ w', (execOp a.eval o).run P w = .ok .skip w' ∧ Gives K F σ hp w (.tup []) ((fzL hp (cellsOf (v'.ev fr))).hp.set h { ob with es := ob.es.set r (setFrom (ob.es.getD r []) j (fzL hp (cellsOf (v'.ev fr))).vals) }) undef w' := by
  have hc0 := cells_rep' (mArg_rep hf hv1) hu
  obtain ⟨F1, f1, r1⟩ := fzL_rep hs hc0 hpre
  obtain ⟨hs1, mv1, hm1⟩ := f1
  have hvp := mArg_rep hf hp1
  rw [hpp] at hvp
  have hkd : ob.k ≠ .dead := by rw [hk]; simp
  obtain ⟨g, hg, hpv⟩ := (hvp.ptr_inv.2 ob hob).2 hkd rfl
  -- the object is what it was
  have hzes : ob'.es = ob.es ∧ ob'.z = ob.z := by
    have key : ∀ (ds : List DV) (hp0 : List DObj), hp0[h]? = some ob → ∃ o2, (fzL hp0 ds).hp[h]? = some o2 ∧ o2.es = ob.es ∧ o2.z = ob.z := by
      have one : ∀ (d : DV) (hp0 : List DObj) (o1 : DObj), hp0[h]? = some o1 → ∃ o2, (fz1 hp0 d).hp[h]? = some o2 ∧ o2.es = o1.es ∧ o2.z = o1.z := by
        intro d hp0 o1 h0
        unfold fz1
        split
        · rename_i h' L off len
          show ∃ o2, (freezeAt hp0 h')[h]? = some o2 ∧ _
          unfold freezeAt
          cases hh : hp0[h']? with
          | none => exact ⟨o1, h0, rfl, rfl⟩
          | some q =>
            by_cases e : h = h'
            · subst e
              rw [h0] at hh; injection hh with hh; subst hh
              exact ⟨{ o1 with k := .frz }, by simp [lt_of_some h0], rfl, rfl⟩
            · exact ⟨o1, by dsimp only; rw [List.getElem?_set_ne (Ne.symm e)]; exact h0, rfl, rfl⟩
        · exact ⟨o1, h0, rfl, rfl⟩
        · exact ⟨o1, h0, rfl, rfl⟩
        · split
          · exact ⟨o1, h0, rfl, rfl⟩
          · exact ⟨o1, h0, rfl, rfl⟩
      have gen : ∀ (ds : List DV) (hp0 : List DObj) (o1 : DObj), hp0[h]? = some o1 → ∃ o2, (fzL hp0 ds).hp[h]? = some o2 ∧ o2.es = o1.es ∧ o2.z = o1.z := by
        intro ds
        induction ds with
        | nil => intro hp0 o1 h0; exact ⟨o1, h0, rfl, rfl⟩
        | cons d ds ih =>
          intro hp0 o1 h0
          obtain ⟨o2, e1, e2, e3⟩ := one d hp0 o1 h0
          obtain ⟨o3, e4, e5, e6⟩ := ih _ o2 e1
          exact ⟨o3, e4, e5.trans e2, e6.trans e3⟩
      intro ds hp0 h0
      exact gen ds hp0 ob h0
    obtain ⟨o2, e1, e2, e3⟩ := key (cellsOf (v'.ev fr)) hp hob
    rw [hob'] at e1; injection e1 with e1; subst e1; exact ⟨e2, e3⟩
  have hl := lt_of_some hob'
  have hold := hs1.obj h ob' hob'
  unfold ORep at hold
  rw [hk'] at hold; dsimp only at hold
  rw [hzes.1, hzes.2] at hold
  rcases hold with ⟨h0, _⟩ | ⟨g', hg', nF, nK, c, ty, hh, hcz, hzz, hcc⟩
  · rw [h0] at hr; simp at hr
  rw [hg] at hg'; injection hg' with hg'; subst hg'
  have hlen : (fzL hp (cellsOf (v'.ev fr))).vals.length = (cellsOf (v'.ev fr)).length := by rw [r1.1, hc0.1]
  have hsz : (a.eval v).cells.size = i.size := by rw [← hn, hc0.1]; simp
  have hrow : (ob.es.getD r []).length = ob.z := hzz r _ (by simp [List.getD, hr])
  have hfit : r * ob.z + j + (a.eval v).cells.toList.length ≤ c.size := by
    rw [← hc0.1]
    have : (r + 1) * ob.z ≤ ob.es.length * ob.z := Nat.mul_le_mul_right _ hr
    rw [Nat.add_mul] at this; omega
  have one : ∀ u ∈ (a.eval v).cells.toList, u.oneCell' = true := by
    intro u hu
    obtain ⟨k, hk', rfl⟩ := List.getElem_of_mem hu
    have hk2 : k < (fzL hp (cellsOf (v'.ev fr))).vals.length := by rw [r1.1]; exact hk'
    obtain ⟨u', hu', hr'⟩ := r1.2 k (fzL hp (cellsOf (v'.ev fr))).vals[k] (by simp [hk2])
    rw [List.getElem?_eq_getElem hk'] at hu'
    injection hu' with hu'
    rw [hu']
    exact hr'.1.oneCell
  refine ⟨_, run_storeOp ho hi hpv hsz hh (by simpa using hfit) one, ?_⟩
  have hat := splice_at (cur := c) (n := r * ob.z + j) (vs := (a.eval v).cells.toList) hfit
  have hget := setRow_heap w g c (c.toList.take (r * ob.z + j) ++ (a.eval v).cells.toList ++ c.toList.drop (r * ob.z + j + (a.eval v).cells.toList.length)).toArray ty (0, 0) hh
  have hcs : (c.toList.take (r * ob.z + j) ++ (a.eval v).cells.toList ++ c.toList.drop (r * ob.z + j + (a.eval v).cells.toList.length)).toArray.size = c.size := by simp at hfit ⊢; omega
  generalize (c.toList.take (r * ob.z + j) ++ (a.eval v).cells.toList ++ c.toList.drop (r * ob.z + j + (a.eval v).cells.toList.length)).toArray = c' at *
  refine Gives.of_frzd ⟨hs1, mv1, hm1⟩ ?_
  generalize (fzL hp (cellsOf (v'.ev fr))).vals = cs at *
  generalize (fzL hp (cellsOf (v'.ev fr))).hp = hp1' at *
  have cg : Chg K F1 σ hp1' w h { ob with es := ob.es.set r (setFrom (ob.es.getD r []) j cs) } F1 σ (hp1'.set h { ob with es := ob.es.set r (setFrom (ob.es.getD r []) j cs) }) (w.setRow g c') :=
    { os := rfl, tape := rfl, output := rfl, size := by simp, hF := fun _ h => h, newF := fun _ h => .inl h, ltF := fun b hb => by simpa using hs1.fb b hb
      heap := fun b hb hne => setRow_other _ _ _ _ (fun e => hne ob' hob' (.inl hk') (by rw [hg, e])), hps := .inl ⟨hl, rfl⟩
      sig := fun h' hne => rfl, newg := fun g hg => .inl ⟨hg, ob', hob', .inl hk'⟩
      grow := fun oh hoh => by
        rw [hob'] at hoh; injection hoh with e; subst e
        refine ⟨.inl (.inl hk'), by simp [hzes.1], fun _ _ => ⟨hzes.2.symm, rfl, fun g1 hg1 => ?_⟩⟩
        rw [hg] at hg1; injection hg1 with hg1; subst hg1
        unfold bsz; rw [hget, hh]; exact hcs }
  have hm := cg.hm hs1
  refine ⟨F1, σ, cg.sim hs1 ?_, cg.moves hs1, hm, .tup [] #[] rfl (fun _ => undef) (fun j d hd => by simp at hd) (fun j d hd => by simp at hd)⟩
  unfold ORep
  simp only [hk]
  obtain ⟨q1, q2⟩ := rows_store (R' := fun d v => IRep F1 (w.setRow g c') d v ∧ d.one = true) hzz hcc hr (by rw [hlen]; exact hj) (r1.imp fun d v h => ⟨h.1.mono hm.mono hm.keepF, h.2⟩) (fun d v h => ⟨h.1.mono hm.mono hm.keepF, h.2⟩) hat
  exact .inr ⟨g, hg, nF, nK, c', ty, hget, by rw [hcs]; simpa using hcz, q1, q2⟩
/-- A cell of one's own is set. -/
theorem g_put [Inhabited Env] {h i j : Nat} {ob : DObj} {g : Nat} {d : DV} {v : Value} {dr : DV} {vr : Value} (hs : SimH K F σ hp w) (hob : hp[h]? = some ob) (hk : ob.k = .loc) (hg : σ h = some g) (hi : i < ob.es.length) (hj : j < (ob.es.getD i []).length)
    (hd : ∀ (F : Nat → Prop) (σ : Nat → Option Nat) (hp : List DObj) (w : World), VRep F σ hp w d v) (hr : ∀ (F : Nat → Prop) (σ : Nat → Option Nat) (hp : List DObj) (w : World), VRep F σ hp w dr vr) :
    (∃ u, w.cell? ⟨g, i * ob.z + j, none⟩ = some u) ∧ w.frozen? ⟨g, i * ob.z + j, none⟩ = false ∧
      Gives K F σ hp w dr (hp.set h { ob with es := ob.es.set i ((ob.es.getD i []).set j d) }) vr (w.setCell ⟨g, i * ob.z + j, none⟩ v) := by
  have hl := lt_of_some hob
  have hold := hs.obj h ob hob
  unfold ORep at hold
  rw [hk] at hold; dsimp only at hold
  obtain ⟨g', hg', nF, nK, c, ty, hh, hcz, hzz, hcc⟩ := hold
  rw [hg] at hg'; injection hg' with hg'; subst hg'
  have hrow : (ob.es.getD i []).length = ob.z := hzz i _ (by simp [List.getD, hi])
  have hfit : i * ob.z + j < c.size := by
    have : (i + 1) * ob.z ≤ ob.es.length * ob.z := Nat.mul_le_mul_right _ hi
    rw [Nat.add_mul] at this; omega
  refine ⟨⟨c[i * ob.z + j], by rw [cell_blk hh]; simp [hfit]⟩, by simp [World.frozen?, hh], ?_⟩
  rw [setCell_eq_setRow w g (i * ob.z + j) c ty (0, 0) v hh]
  have hget := setRow_heap w g c (c.setIfInBounds (i * ob.z + j) v) ty (0, 0) hh
  have hcs : (c.setIfInBounds (i * ob.z + j) v).size = c.size := by simp
  have hat : ∀ k : Nat, (c.setIfInBounds (i * ob.z + j) v)[k]? = if i * ob.z + j ≤ k ∧ k < i * ob.z + j + [v].length then [v][k - (i * ob.z + j)]? else c[k]? := by
    intro k
    rw [Array.getElem?_setIfInBounds]
    by_cases e : i * ob.z + j = k
    · subst e; simp [hfit]
    · rw [if_neg e, if_neg (by simp; omega)]
  have hset : setFrom (ob.es.getD i []) j [d] = (ob.es.getD i []).set j d := rfl
  generalize (c.setIfInBounds (i * ob.z + j) v) = c' at *
  have cg : Chg K F σ hp w h { ob with es := ob.es.set i ((ob.es.getD i []).set j d) } F σ (hp.set h { ob with es := ob.es.set i ((ob.es.getD i []).set j d) }) (w.setRow g c') :=
    { os := rfl, tape := rfl, output := rfl, size := by simp, hF := fun _ h => h, newF := fun _ h => .inl h, ltF := fun b hb => by simpa using hs.fb b hb
      heap := fun b hb hne => setRow_other _ _ _ _ (fun e => hne ob hob (.inr hk) (by rw [hg, e])), hps := .inl ⟨hl, rfl⟩
      sig := fun h' hne => rfl, newg := fun g hg => .inl ⟨hg, ob, hob, .inr hk⟩
      grow := fun oh hoh => by
        rw [hob] at hoh; injection hoh with e; subst e
        refine ⟨.inl (.inr hk), by simp, fun _ _ => ⟨rfl, rfl, fun g1 hg1 => ?_⟩⟩
        rw [hg] at hg1; injection hg1 with hg1; subst hg1
        unfold bsz; rw [hget, hh]; exact hcs }
  have hm := cg.hm hs
  refine ⟨F, σ, cg.sim hs ?_, cg.moves hs, hm, hr _ _ _ _⟩
  unfold ORep
  simp only [hk]
  obtain ⟨q1, q2⟩ := rows_store (R' := VRep F σ (hp.set h { ob with es := ob.es.set i ((ob.es.getD i []).set j d) }) (w.setRow g c')) hzz hcc hi (cs := [d]) (vs := [v]) (by simp only [List.length_cons, List.length_nil]; omega) (All2.mk_cons (hd _ _ _ _) All2.mk_nil) (fun d v h => h.mono hm) hat
  rw [hset] at q1 q2
  simp only [hk] at q2
  exact ⟨g, hg, nF, nK, c', ty, hget, by rw [hcs]; simpa using hcz, q1, q2⟩
end
end Go.Nk
