/- Own slices whose elements hold handles: built, and grown. -/
import Derived.Test.YtjgefhgkinocmaaGreatNkK
set_option linter.all false
namespace Go.Nk
open Go.RowKit

section
variable {P : Program} {K F F' : Nat → Prop} {σ σ' : Nat → Option Nat} {hp hp' : List DObj} {w w' : World} {fr : List (Nat × DV)} {a : Act} {o : Oper}

theorem x_bown [Inhabited Env] {t e : TypeId} {n : Nat} {ps : Array (Nat × Operand)} {zero : List DV} {parts : List (Option DA)} (hs : SimH K F σ hp w) (ho : o.op = .buildSlice t n ps) (ht : P.underlying t = some (.slice e)) (hze : zeroOk P e zero = true)
    (hn : n = parts.length) (hm : mParts 0 ps.toList parts = true) (hbig : n * zero.length ≤ 16777216) (hf : FRep F σ hp w fr a.tmps)
    (hu : (parts.all (bU fr zero)) = true) (hr : ∀ e ∈ parts.map (bRow fr zero), e.length = zero.length) :
    ∃ v w', (execOp a.eval o).run P w = .ok (.value v) w' ∧ Gives K F σ hp w (.own hp.length n 0 n) (hp ++ [⟨.loc, zero.length, parts.map (bRow fr zero)⟩]) v w' := by
  obtain ⟨i, z, hi, hz, hmz, hsz, hpos, hby, hzs, hcp⟩ := zeroOk_of hze
  have hpos' : 0 < zero.length := by omega
  have hrows := zero_rows (F := F) (w := w) hmz hzs parts.length
  obtain ⟨c', e1, e2⟩ := fill_slice hf zero.length zero rfl parts 0 ps.toList [] _ hm rfl (by simpa using hrows.imp fun d v h => .imm h.1) hu
  simp only [List.nil_append] at e2
  have hl : (ps.map fun x => match x with | (i, x) => (i, a.eval x)).toList = ps.toList.map fun (i, x) => (i, a.eval x) := by simp
  have hrun : (execOp a.eval o).run P w = .ok (.value (.slice (some ⟨w.heap.size, 0, none⟩) n n)) (w.alloc (.cells c' e)) := by
    have hbig' : ¬ (n * zero.length > 2 ^ 24) := by omega
    have hps : List.map (fun x : Nat × Operand => (x.fst, a.eval x.snd)) ps.toList = ps.toList.map fun (i, x) => (i, a.eval x) := rfl
    by_cases h0 : n * zero.length = 0
    · have hfill : Instr.fill (fun i => some (i * zero.length, zero.length)) ((Array.range (n * zero.length)).map ((#[] : Array Value)[· % (#[] : Array Value).size]!)) (ps.toList.map fun (i, x) => (i, a.eval x)) = some c' := by
        have e0 : ∀ f : Nat → Value, Array.map f (Array.range 0) = #[] := fun f => by apply Array.ext'; simp
        rw [← e1, ← hn, h0, e0, e0]
      simp only [execOp, ho, Instr.buildSlice, Sem.run_bind, run_under ht, Result.andThen_ok, sizeOf, typeInfo, run_program, hi, hsz, hbig', if_false, Sem.run_pure, if_pos h0, hl, hps, hfill, newRow, run_newObj]
      rfl
    · have hfill : Instr.fill (fun i => some (i * zero.length, zero.length)) ((Array.range (n * zero.length)).map (z.cells[· % z.cells.size]!)) (ps.toList.map fun (i, x) => (i, a.eval x)) = some c' := by
        rw [← e1, ← hn]
      have hzv : (zeroValue e).run P w = .ok z w := by simp [zeroValue, typeInfo, hi, hz]
      simp only [execOp, ho, Instr.buildSlice, Sem.run_bind, run_under ht, Result.andThen_ok, sizeOf, typeInfo, run_program, hi, hsz, hbig', if_false, Sem.run_pure, if_neg h0, hzv, hl, hps, hfill, newRow, run_newObj]
      rfl
  refine ⟨_, _, hrun, ?_⟩
  have hsize : c'.size = n * zero.length := by rw [e2.1]; simp [hn]
  obtain ⟨h1, h2, h3⟩ := new_obj (w' := w.alloc (.cells c' e)) hs rfl rfl rfl (by simp) (heap_alloc_lt _) ⟨.loc, zero.length, parts.map (bRow fr zero)⟩ (.inr rfl) (fun hm => by
    simp only [if_true]
    refine ⟨c', e, heap_alloc_new w _, ?_, fun i e he => hr e (List.mem_of_getElem? he), fun i j d hd => ?_⟩
    · rw [hsize, List.length_map, hn]; exact Nat.le_refl _
    · obtain ⟨u, hu, hr⟩ := e2.2.2 i j d hd
      exact ⟨u, hu, hr.mono hm⟩)
  refine ⟨F, _, h1, h2, h3, own_new (by simp [hn]) (Nat.le_refl _) ?_⟩
  rw [bsz_alloc, hsize]; exact Nat.le_refl _

/-- The cells of an own slice whose elements hold handles, as what is appended. -/
theorem src_loc [Inhabited Env] (hs : SimH K F σ hp w) {h : Nat} {ob : DObj} {v : Value} (hob : hp[h]? = some ob) (hk : ob.k = .loc) (hv : VRep F σ hp w (.own h ob.es.length 0 ob.es.length) v) (hne : 0 < ob.es.length) (hone : ∀ r ∈ ob.es, ∀ d ∈ r, d.one = true) {u : TypeId} (hkd : (∃ e', P.underlying u = some (.slice e')) ∨ P.underlying u = some .string) :
    ∃ news, Src P ob.z u v ob.es.length news w ∧ (∀ (i : Nat) (e : List DV), ob.es[i]? = some e → e.length = ob.z) ∧
      ∀ i j e, cellAt ob.es i j = some e → ∃ x, news[i * ob.z + j]? = some x ∧ VRep F σ hp w e x := by
  have hold := hs.obj h ob hob
  unfold ORep at hold
  rw [hk] at hold; dsimp only at hold
  obtain ⟨g, hg, nF, nK, c, ty, hh, hcz, hzz, hcc⟩ := hold
  obtain ⟨A, cap, rfl, hle, hA⟩ := (hv.own_inv.2 ob hob).2 (by rw [hk]; simp) rfl
  have hA' : A = some ⟨g, 0, none⟩ := by
    rcases hA with h0 | ⟨g', hg', e, _⟩
    · omega
    · rw [hg] at hg'; injection hg' with hg'; subst hg'; simpa using e
  subst hA'
  have hcell : ∀ j, j < ob.es.length * ob.z → ∃ d u, w.cell? ⟨g, j, none⟩ = some u ∧ c[j]? = some u ∧ VRep F σ hp w d u ∧ d.one = true := by
    intro j hj
    have hz0 : 0 < ob.z := by
      rcases Nat.eq_zero_or_pos ob.z with e | e
      · rw [e, Nat.mul_zero] at hj; omega
      · exact e
    have hi : j / ob.z < ob.es.length := (Nat.div_lt_iff_lt_mul hz0).2 hj
    have hrow := hzz (j / ob.z) ob.es[j / ob.z] (by simp [hi])
    have hjj : j % ob.z < ob.es[j / ob.z].length := by rw [hrow]; exact Nat.mod_lt _ hz0
    obtain ⟨u, hu, hr⟩ := hcc (j / ob.z) (j % ob.z) (ob.es[j / ob.z][j % ob.z]) (by simp [cellAt, hi, hjj])
    have e : j / ob.z * ob.z + j % ob.z = j := by rw [Nat.mul_comm]; exact Nat.div_add_mod j ob.z
    rw [e] at hu
    exact ⟨_, u, by rw [cell_blk hh]; simpa using hu, hu, hr, hone _ (List.getElem_mem hi) _ (List.getElem_mem hjj)⟩
  have hread : ∀ w0 : World, (∀ b : Nat, w0.heap[b]? = w.heap[b]?) → (Builtin.firstCells ob.z ob.es.length (.slice (some ⟨g, 0, none⟩) ob.es.length cap)).run P w0 = .ok (c.toList.take (ob.es.length * ob.z)).toArray w0 := by
    intro w0 hw0
    refine run_firstCells_some w0 ob.z ob.es.length _ ob.es.length cap _ (by simp; omega) fun j v hj => ?_
    rw [List.getElem?_take] at hj
    split at hj
    · rename_i hlt
      rw [toList_at] at hj
      obtain ⟨d, u, h1, h2, _⟩ := hcell j hlt
      rw [h2] at hj; injection hj with hj; subst hj
      rw [add_none rfl]
      have : w0.cell? ⟨g, j, none⟩ = w.cell? ⟨g, j, none⟩ := cell_of_heap (hw0 _)
      simpa [this] using h1
    · cases hj
  refine ⟨c.toList.take (ob.es.length * ob.z), ⟨hkd, fun _ => rfl, hread w fun _ => rfl, hread w.drew fun _ => rfl, by simp; omega, fun u hu => ?_⟩, hzz, fun i j e he => ?_⟩
  · obtain ⟨j, hj⟩ := List.mem_iff_getElem?.1 hu
    rw [List.getElem?_take] at hj
    split at hj
    · rename_i hlt
      rw [toList_at] at hj
      obtain ⟨d, u', h1, h2, h3, h4⟩ := hcell j hlt
      rw [h2] at hj; injection hj with hj; subst hj
      exact h3.oneCell h4
    · cases hj
  · obtain ⟨u, hu, hr⟩ := hcc _ _ _ he
    obtain ⟨_, _, hlt⟩ := row_len hzz he
    exact ⟨u, by rw [List.getElem?_take, if_pos hlt, toList_at]; exact hu, hr⟩

theorem x_append_loc [Inhabited Env] {xs : Array Operand} {t u e : TypeId} {s x : Operand} {i : TypeInfo} {zv : Value} {h : Nat} {ob : DObj} {es : List (List DV)} {news : List Value} (hs : SimH K F σ hp w) (ho : o.op = .call { callee := .builtin .append, args := xs, argTypes := #[t, u] }) (hxs : xs = #[s, x])
    (hby : i.bytes ≤ 32768) (hzs : zv.cells.size = i.size) (hsrc : App P i zv t u o.type e (a.eval x) es.length news w)
    (hrows : ∀ (k : Nat) (r : List DV), es[k]? = some r → r.length = i.size) (hcells : ∀ k j r, cellAt es k j = some r → ∃ x, news[k * i.size + j]? = some x ∧ VRep F σ hp w r x)
    (hob : hp[h]? = some ob) (hk : ob.k = .loc ∨ (ob.k = .imm ∧ ob.es = [])) (hbz : ob.z = i.size) (hsv : VRep F σ hp w (.own h ob.es.length 0 ob.es.length) (a.eval s)) (hn : 0 < es.length) (hlen : ob.es.length + es.length ≤ lenMax) :
    ∃ v w', (execOp a.eval o).run P w = .ok (.value v) w' ∧ Gives K F σ hp w (.own h (ob.es.length + es.length) 0 (ob.es.length + es.length)) (hp.set h ⟨.loc, i.size, ob.es ++ es⟩) v w' := by
  have hl := lt_of_some hob
  have hmut : ob.k.mut := by
    rcases hk with e | e
    · exact .inr e
    · exact .inl e.1
  have hkd : ob.k ≠ .dead := by rcases hmut with e | e <;> rw [e] <;> simp
  have hold0 := hs.obj h ob hob
  have hold : ∀ g, σ h = some g → ¬ F g ∧ ¬ K g ∧ ∃ c ty, w.heap[g]? = some (.cells c ty (0, 0)) ∧ ob.es.length * ob.z ≤ c.size ∧ (∀ (i : Nat) (e : List DV), ob.es[i]? = some e → e.length = ob.z) ∧
      ∀ i j d, cellAt ob.es i j = some d → ∃ v, c[i * ob.z + j]? = some v ∧ VRep F σ hp w d v := by
    intro g hg
    unfold ORep at hold0
    rcases hk with e | ⟨e, e0⟩
    · rw [e] at hold0; dsimp only at hold0
      obtain ⟨g', hg', nF, nK, c, ty, q1, q2, q3, q4⟩ := hold0
      rw [hg] at hg'; injection hg' with hg'; subst hg'
      exact ⟨nF, nK, c, ty, q1, q2, q3, q4⟩
    · rw [e] at hold0; dsimp only at hold0
      rcases hold0 with ⟨_, h1⟩ | ⟨g', hg', nF, nK, c, ty, q1, q2, q3, q4⟩
      · rw [hg] at h1; cases h1
      · rw [hg] at hg'; injection hg' with hg'; subst hg'
        exact ⟨nF, nK, c, ty, q1, q2, q3, fun i j d hd => by rw [e0] at hd; simp [cellAt] at hd⟩
  have hzo : ∀ (i' : Nat) (r : List DV), ob.es[i']? = some r → r.length = i.size := by
    intro i' r hr
    unfold ORep at hold0
    rcases hk with e | ⟨e, e0⟩
    · rw [e] at hold0; dsimp only at hold0
      obtain ⟨g', _, _, _, c, ty, q1, q2, q3, q4⟩ := hold0
      rw [← hbz]; exact q3 _ _ hr
    · rw [e0] at hr; simp at hr
  obtain ⟨A, cap, hv, hle, hA⟩ := (hsv.own_inv.2 ob hob).2 hkd rfl
  have one : ∀ v ∈ news, v.oneCell' = true := hsrc.one
  have newLen := hsrc.newsLen
  by_cases hroom : ob.es.length + es.length ≤ cap
  · rcases hA with hc0 | ⟨g, hg, rfl, hcap⟩
    · omega
    · -- there is room
      obtain ⟨nF, nK, c, ty, hh, hcz, hzz, hcc⟩ := hold g hg
      have hbs : bsz w g = c.size := by unfold bsz; rw [hh]
      have hfit : ob.es.length * i.size + news.length ≤ c.size := by
        rw [newLen, ← Nat.add_mul]
        refine Nat.le_trans (Nat.mul_le_mul_right _ hroom) ?_
        rw [hbs, hbz] at hcap; simpa using hcap
      have hrun := hsrc.room g (0 * ob.z) ob.es.length cap hroom
        (fun j hj => by rw [cell_blk hh]; simp; omega) (fun j hj => by simp [World.frozen?, hh])
      refine ⟨_, _, q_append_run ho hxs (by rw [hv]; exact hrun), ?_⟩
      simp only [Nat.zero_mul, Nat.zero_add]
      rw [setCells_eq hh (by omega) one]
      have hget := setRow_heap w g c (c.toList.take (ob.es.length * i.size) ++ news ++ c.toList.drop (ob.es.length * i.size + news.length)).toArray ty (0, 0) hh
      generalize hcd : (c.toList.take (ob.es.length * i.size) ++ news ++ c.toList.drop (ob.es.length * i.size + news.length)).toArray = c' at *
      have hat : ∀ k : Nat, c'[k]? = if ob.es.length * i.size ≤ k ∧ k < ob.es.length * i.size + news.length then news[k - ob.es.length * i.size]? else c[k]? := fun k => by rw [← hcd]; exact splice_at hfit k
      have hsz : c'.size = c.size := by rw [← hcd]; simp; omega
      have cg : Chg K F σ hp w h ⟨.loc, i.size, ob.es ++ es⟩ F σ (hp.set h ⟨.loc, i.size, ob.es ++ es⟩) (w.setRow g c') :=
        { os := rfl, tape := rfl, output := rfl, size := by simp, hF := fun _ h => h, newF := fun _ h => .inl h, ltF := fun b hb => by simpa using hs.fb b hb
          heap := fun b hb hne => setRow_other _ _ _ _ (fun e => hne ob hob hmut (by rw [hg, e])), hps := .inl ⟨hl, rfl⟩
          sig := fun h' hne => rfl, newg := fun g hg => .inl ⟨hg, ob, hob, hmut⟩
          grow := fun oh hoh => by
            rw [hob] at hoh; injection hoh with e; subst e
            refine ⟨.inl hmut, by simp, fun _ _ => ⟨hbz.symm, rfl, fun g1 hg1 => ?_⟩⟩
            rw [hg] at hg1; injection hg1 with hg1; subst hg1
            unfold bsz; rw [hget, hh]; exact hsz }
      have hm := cg.hm hs
      refine ⟨F, σ, cg.sim hs ?_, cg.moves hs, hm, .own _ _ _ _ _ rfl (by simpa using hl) fun o' ho' => ?_⟩
      · unfold ORep; dsimp only
        refine ⟨g, hg, nF, nK, c', ty, hget, ?_, append_rows hzo hrows, fun i' j d hd => ?_⟩
        · rw [hsz, List.length_append, Nat.add_mul, ← newLen]; exact hfit
        · rcases cellAt_append hd with ⟨hlt, hd⟩ | ⟨hge, hd⟩
          · obtain ⟨u, hu, hr⟩ := hcc _ _ _ hd
            obtain ⟨_, hj, hlt2⟩ := row_len hzz hd
            rw [hbz] at hu hlt2
            exact ⟨u, by rw [hat, if_neg (by omega)]; exact hu, hr.mono hm⟩
          · obtain ⟨u, hu, hr⟩ := hcells _ _ _ hd
            obtain ⟨_, hj, hlt2⟩ := row_len hrows hd
            have e : i' * i.size + j = ob.es.length * i.size + ((i' - ob.es.length) * i.size + j) := by
              rw [← Nat.add_assoc, ← Nat.add_mul]; congr 2; omega
            exact ⟨u, by rw [hat, if_pos (by omega), e, Nat.add_sub_cancel_left]; exact hu, hr.mono hm⟩
      · rw [cg.get] at ho'; injection ho' with ho'; subst ho'
        refine ⟨by simp, fun _ _ => ⟨_, cap, rfl, hroom, .inr ⟨g, hg, by simp, ?_⟩⟩⟩
        have : bsz (w.setRow g c') g = c.size := by unfold bsz; rw [hget]; exact hsz
        rw [this]
        rw [hbs, hbz] at hcap; exact hcap
  · -- a new block
    obtain ⟨olds, holds, holdc, holdl⟩ : ∃ olds : List Value, (Builtin.firstCells i.size ob.es.length (.slice A ob.es.length cap)).run P w.drew = .ok olds.toArray w.drew ∧
        (∀ i' j d, cellAt ob.es i' j = some d → ∃ u, olds[i' * i.size + j]? = some u ∧ VRep F σ hp w d u) ∧ olds.length = ob.es.length * i.size := by
      rcases hA with hc0 | ⟨g, hg, rfl, hcap⟩
      · have e1 : ob.es = [] := List.eq_nil_of_length_eq_zero (by omega)
        refine ⟨[], ?_, fun i' j d hd => by rw [e1] at hd; simp [cellAt] at hd, by simp [e1]⟩
        rw [e1]
        cases A <;> simp [Builtin.firstCells, loadCells, loadCellsFrom]
      · obtain ⟨nF, nK, c, ty, hh, hcz, hzz, hcc⟩ := hold g hg
        rw [hbz] at hcz hzz hcc
        refine ⟨c.toList.take (ob.es.length * i.size), ?_, fun i' j d hd => ?_, by simp; omega⟩
        · refine run_firstCells_some w.drew i.size ob.es.length _ ob.es.length cap _ (by simp; omega) fun j v hj => ?_
          rw [List.getElem?_take] at hj
          split at hj
          · rw [toList_at] at hj
            show w.cell? _ = _
            rw [add_none rfl, cell_blk hh]
            simpa using hj
          · cases hj
        · obtain ⟨u, hu, hr⟩ := hcc _ _ _ hd
          obtain ⟨_, _, hlt⟩ := row_len hzz hd
          exact ⟨u, by rw [List.getElem?_take, if_pos hlt, toList_at]; exact hu, hr⟩
    have hrun := hsrc.grow A ob.es.length cap olds holds (by omega) (by simp only [lenMax] at hlen; omega) (fits_append (by omega) hlen hby)
    refine ⟨_, _, q_append_run ho hxs (by rw [hv]; exact hrun), ?_⟩
    have hge := grownCap_ge w (ob.es.length + es.length) cap e
    generalize hcap' : grownCap w (ob.es.length + es.length) cap e = cap' at *
    have hnewb := heap_alloc_new w.drew (.cells ((olds ++ news).toArray ++ Builtin.zeroCells zv.cells (cap' - (ob.es.length + es.length))) e)
    have hsz : ((olds ++ news).toArray ++ Builtin.zeroCells zv.cells (cap' - (ob.es.length + es.length))).size = cap' * i.size := by
      simp only [Array.size_append, size_zeroCells, List.size_toArray, List.length_append, newLen, holdl, hzs, ← Nat.add_mul]
      congr 1; omega
    have hat : ∀ k u, (olds ++ news)[k]? = some u → ((olds ++ news).toArray ++ Builtin.zeroCells zv.cells (cap' - (ob.es.length + es.length)))[k]? = some u := fun k u hk => by
      have hlt := (List.getElem?_eq_some_iff.1 hk).1
      rw [Array.getElem?_append_left (by simpa using hlt)]
      simpa using hk
    generalize (olds ++ news).toArray ++ Builtin.zeroCells zv.cells (cap' - (ob.es.length + es.length)) = c' at *
    have nF : ¬ F w.heap.size := fun h => by have := hs.fb _ h; omega
    have nK : ¬ K w.heap.size := fun h => by have := hs.kb _ h; omega
    have cg : Chg K F σ hp w h ⟨.loc, i.size, ob.es ++ es⟩ F (fun x => if x = h then some w.heap.size else σ x) (hp.set h ⟨.loc, i.size, ob.es ++ es⟩) (w.drew.alloc (.cells c' e)) :=
      { os := rfl, tape := rfl, output := rfl, size := by simp, hF := fun _ h => h, newF := fun _ h => .inl h, ltF := fun b hb => by have := hs.fb b hb; simp; omega
        heap := fun b hb hne => Below.heap_alloc w.drew _ b hb, hps := .inl ⟨hl, rfl⟩
        sig := fun h' hne => by simp [hne], newg := fun g hg => .inr (by simp at hg; omega)
        grow := fun oh hoh => by
          rw [hob] at hoh; injection hoh with e; subst e
          exact ⟨.inl hmut, by simp, fun he => by simp at he; rw [he] at hn; simp at hn⟩ }
    have hm := cg.hm hs
    refine ⟨F, _, cg.sim hs ?_, cg.moves hs, hm, .own _ _ _ _ _ rfl (by simpa using hl) fun o' ho' => ?_⟩
    · unfold ORep; dsimp only
      refine ⟨w.heap.size, by simp, nF, nK, c', e, hnewb, ?_, append_rows hzo hrows, fun i' j d hd => ?_⟩
      · rw [hsz, List.length_append]; exact Nat.mul_le_mul_right _ hge
      · rcases cellAt_append hd with ⟨hlt, hd⟩ | ⟨hge', hd⟩
        · obtain ⟨u, hu, hr⟩ := holdc _ _ _ hd
          refine ⟨u, hat _ _ ?_, hr.mono hm⟩
          rw [List.getElem?_append_left (List.getElem?_eq_some_iff.1 hu).1]; exact hu
        · obtain ⟨u, hu, hr⟩ := hcells _ _ _ hd
          refine ⟨u, hat _ _ ?_, hr.mono hm⟩
          have e : i' * i.size + j = ob.es.length * i.size + ((i' - ob.es.length) * i.size + j) := by
            rw [← Nat.add_assoc, ← Nat.add_mul]; congr 2; omega
          rw [e, List.getElem?_append_right (by omega), holdl, Nat.add_sub_cancel_left]; exact hu
    · rw [cg.get] at ho'; injection ho' with ho'; subst ho'
      refine ⟨by simp, fun _ _ => ⟨_, cap', rfl, hge, .inr ⟨w.heap.size, by simp, by simp, ?_⟩⟩⟩
      have : bsz (w.drew.alloc (.cells c' e)) w.heap.size = c'.size := by unfold bsz; rw [show (w.drew.alloc (.cells c' e)).heap[w.heap.size]? = _ from hnewb]
      rw [this, hsz]; simp
/-- An object's block is frozen, and told of no more. -/
theorem SimH.killF [Inhabited Env] (hs : SimH K F σ hp w) {h : Nat} {o : DObj} (ho : hp[h]? = some o) (hk : o.k.mut) :
    Frzd K F σ hp w (fun b => F b ∨ σ h = some b) (hp.set h { o with k := .dead }) := by
  have hlt := lt_of_some ho
  have hget : ∀ k : Nat, (hp.set h { o with k := .dead })[k]? = if k = h then some { o with k := .dead } else hp[k]? := by
    intro k
    by_cases e : k = h
    · subst e; rw [if_pos rfl]; simp [hlt]
    · rw [if_neg e, List.getElem?_set_ne (Ne.symm e)]
  generalize hgen : hp.set h { o with k := .dead } = hp2 at *
  have hl2 : hp2.length = hp.length := by rw [← hgen]; simp
  have hd : o.k ≠ .dead := by rcases hk with e | e <;> rw [e] <;> simp
  have hm : HM F σ hp w (fun b => F b ∨ σ h = some b) σ hp2 w := by
    refine ⟨fun _ h => .inl h, fun _ _ => rfl, by omega, fun k o' ho' => ?_⟩
    rw [hget]
    by_cases e : k = h
    · subst e
      rw [ho] at ho'; injection ho' with ho'; subst ho'
      rw [if_pos rfl]
      exact ⟨_, rfl, Nat.le_refl _, fun hd => absurd rfl hd⟩
    · rw [if_neg e]
      exact ⟨o', ho', Nat.le_refl _, fun hd _ => ⟨hd, rfl, rfl, fun _ _ => rfl⟩⟩
  refine ⟨⟨fun k o' ho' => ?_, fun k1 k2 o1 o2 g' e1 m1 e2 m2 s1 s2 => ?_, fun b hb => hb.elim (hs.fb b) fun e => hs.blk_lt ho hd e, hs.kb, hs.tab.mono hm.keepF hm.mono⟩, ⟨rfl, rfl, rfl, Nat.le_refl _, fun _ _ => rfl, fun _ _ => rfl, fun b hb => .inl hb, fun b hb => hb.imp id fun e => (hs.mut_nF ho hk e).2⟩, hm⟩
  · rw [hget] at ho'
    by_cases e : k = h
    · rw [if_pos e] at ho'; injection ho' with ho'; subst ho'
      unfold ORep; trivial
    · rw [if_neg e] at ho'
      have old := hs.obj k o' ho'
      have ne : ∀ g', o'.k.mut → σ k = some g' → σ h ≠ some g' := fun g' hm hg' e2 => e (hs.inj k h o' o g' ho' hm ho hk hg' e2)
      unfold ORep at old ⊢
      split
      · trivial
      · rename_i hkk
        rw [hkk] at old; dsimp only at old
        rcases old with h0 | ⟨g', h1, h2, h3, h4⟩
        · exact .inl h0
        · exact .inr ⟨g', h1, fun hh => hh.elim h2 (ne g' (.inl hkk) h1), h3, h4.mono rfl fun d v hr => ⟨hr.1.mono hm.mono hm.keepF, hr.2⟩⟩
      · rename_i hkk
        rw [hkk] at old; dsimp only at old
        rcases old with h0 | ⟨g', h1, h2, h4⟩
        · exact .inl h0
        · exact .inr ⟨g', h1, .inl h2, h4.mono rfl fun d v hr => ⟨hr.1.mono hm.mono hm.keepF, hr.2⟩⟩
      · rename_i hkk
        rw [hkk] at old; dsimp only at old
        obtain ⟨g', h1, h2, h3, h4⟩ := old
        exact ⟨g', h1, fun hh => hh.elim h2 (ne g' (.inr hkk) h1), h3, h4.mono rfl fun d v hr => hr.mono hm⟩
  · rw [hget] at e1 e2
    by_cases q1 : k1 = h
    · rw [if_pos q1] at e1; injection e1 with e1; subst e1
      rcases m1 with m1 | m1 <;> cases m1
    by_cases q2 : k2 = h
    · rw [if_pos q2] at e2; injection e2 with e2; subst e2
      rcases m2 with m2 | m2 <;> cases m2
    rw [if_neg q1] at e1
    rw [if_neg q2] at e2
    exact hs.inj k1 k2 o1 o2 g' e1 m1 e2 m2 s1 s2

/-- An own slice whose elements hold own slices, made free of handles. -/
theorem deep_rep [Inhabited Env] (hs : SimH K F σ hp w) {h : Nat} {ob : DObj} {v : Value} (hob : hp[h]? = some ob) (hk : ob.k = .loc) (hv : VRep F σ hp w (.own h ob.es.length 0 ob.es.length) v) (hne : 0 < ob.es.length)
    (hpre : (fzLL hp ob.es).pre) (hz : ∀ e ∈ (fzLL hp ob.es).vals, e.length = ob.z) {ob2 : DObj} (hob2 : (fzLL hp ob.es).hp[h]? = some ob2) (hk2 : ob2.k = .loc) :
    ∃ F', Frzd K F σ hp w F' ((fzLL hp ob.es).hp.set h { ob2 with k := .dead }) ∧ IRep F' w (.sl (fzLL hp ob.es).vals) v := by
  have hold := hs.obj h ob hob
  unfold ORep at hold
  rw [hk] at hold; dsimp only at hold
  obtain ⟨g, hg, nF, nK, c, ty, hh, hcz, hzz, hcc⟩ := hold
  obtain ⟨A, cap, rfl, hle, hA⟩ := (hv.own_inv.2 ob hob).2 (by rw [hk]; simp) rfl
  have hA' : A = some ⟨g, 0, none⟩ := by
    rcases hA with h0 | ⟨g', hg', e, _⟩
    · omega
    · rw [hg] at hg'; injection hg' with hg'; subst hg'; simpa using e
  subst hA'
  obtain ⟨vs, hall, hvs⟩ := rows_of (c := c.toList.take (ob.es.length * ob.z)) (R := VRep F σ hp w) (by simp; omega) hzz (fun i j d hd => by
    obtain ⟨u, hu, hr⟩ := hcc i j d hd
    obtain ⟨_, _, hlt⟩ := row_len hzz hd
    exact ⟨u, by rw [List.getElem?_take, if_pos hlt, toList_at]; exact hu, hr⟩)
  obtain ⟨F1, f1, r1⟩ := fzLL_rep hs hall hpre
  obtain ⟨g1, g2⟩ := getElem?_flat r1 hz
  have hlen : (fzLL hp ob.es).vals.length = ob.es.length := by
    have : ∀ (es : List (List DV)) (hp : List DObj), (fzLL hp es).vals.length = es.length := by
      intro es
      induction es with
      | nil => intro hp; rfl
      | cons e es ih => intro hp; simp only [fzLL, List.length_cons, ih]
    exact this _ _
  have k := f1.1.killF hob2 (.inr hk2)
  refine ⟨_, f1.trans k, ?_⟩
  have e := IRep.sl_mk (F := fun b => F1 b ∨ σ h = some b) (w := w) (z := ob.z) (es := (fzLL hp ob.es).vals) (A := some ⟨g, 0, none⟩) (c := cap) (by omega) (fun i e he => hz e (List.mem_of_getElem? he)) fun _ => ⟨_, rfl, rfl, .inr hg, fun i j d hd => by
    obtain ⟨u, hu, hr⟩ := g2 i j d hd
    rw [hvs, List.getElem?_take] at hu
    split at hu
    · rw [toList_at] at hu
      refine ⟨u, by rw [cell_blk hh]; simpa using hu, hr.2, hr.1.mono (fun _ h => .inl h) fun _ _ => rfl⟩
    · cases hu⟩
  rw [hlen] at e
  exact e

/-- An object's block is frozen, told of no more, and may have changed. -/
theorem SimH.killM [Inhabited Env] (hs : SimH K F σ hp w) {h : Nat} {o : DObj} (ho : hp[h]? = some o) (hk : o.k.mut)
    (h1 : w'.os = w.os) (h2 : w'.tape = w.tape) (h3 : w'.output = w.output) (h4 : w'.heap.size = w.heap.size) (h5 : ∀ b, σ h ≠ some b → w'.heap[b]? = w.heap[b]?) :
    SimH K (fun b => F b ∨ σ h = some b) σ (hp.set h { o with k := .dead }) w' ∧ Moves K F w (fun b => F b ∨ σ h = some b) w' ∧ HM F σ hp w (fun b => F b ∨ σ h = some b) σ (hp.set h { o with k := .dead }) w' := by
  have hlt := lt_of_some ho
  have hget : ∀ k : Nat, (hp.set h { o with k := .dead })[k]? = if k = h then some { o with k := .dead } else hp[k]? := by
    intro k
    by_cases e : k = h
    · subst e; rw [if_pos rfl]; simp [hlt]
    · rw [if_neg e, List.getElem?_set_ne (Ne.symm e)]
  generalize hgen : hp.set h { o with k := .dead } = hp2 at *
  have hl2 : hp2.length = hp.length := by rw [← hgen]; simp
  have hd : o.k ≠ .dead := by rcases hk with e | e <;> rw [e] <;> simp
  have nF : ∀ b, F b → σ h ≠ some b := fun b hb e => (hs.mut_nF ho hk e).1 hb
  have nK : ∀ b, K b → σ h ≠ some b := fun b hb e => (hs.mut_nF ho hk e).2 hb
  have ne : ∀ (k : Nat) (o' : DObj) g', k ≠ h → hp[k]? = some o' → o'.k ≠ .dead → σ k = some g' → σ h ≠ some g' := fun k o' g' e ho' hd' hg' e2 => by
    by_cases hm : o'.k.mut
    · exact e (hs.inj k h o' o g' ho' hm ho hk hg' e2)
    · have old := hs.obj k o' ho'
      unfold ORep at old
      split at old
      · exact hd' (by assumption)
      · exact hm (.inl (by assumption))
      · rcases old with ⟨_, h0⟩ | ⟨g2, q1, q2, _⟩
        · rw [hg'] at h0; cases h0
        · rw [hg'] at q1; injection q1 with q1; subst q1; exact nF _ q2 e2
      · exact hm (.inr (by assumption))
  have hm : HM F σ hp w (fun b => F b ∨ σ h = some b) σ hp2 w' := by
    refine ⟨fun _ h => .inl h, fun b hb => h5 b (nF b hb), by omega, fun k o' ho' => ?_⟩
    rw [hget]
    by_cases e : k = h
    · subst e
      rw [ho] at ho'; injection ho' with ho'; subst ho'
      rw [if_pos rfl]
      exact ⟨_, rfl, Nat.le_refl _, fun hd => absurd rfl hd⟩
    · rw [if_neg e]
      exact ⟨o', ho', Nat.le_refl _, fun hd _ => ⟨hd, rfl, rfl, fun g hg => bsz_of (h5 g (ne k o' g e ho' hd hg))⟩⟩
  refine ⟨⟨fun k o' ho' => ?_, fun k1 k2 o1 o2 g' e1 m1 e2 m2 s1 s2 => ?_, fun b hb => by rw [h4]; exact hb.elim (hs.fb b) fun e => hs.blk_lt ho hd e, fun b hb => by rw [h4]; exact hs.kb b hb, hs.tab.mono hm.keepF hm.mono⟩, ⟨h1, h2, h3, by omega, fun b hb => h5 b (nK b hb), fun b hb => h5 b (nF b hb), fun b hb => .inl hb, fun b hb => hb.imp id fun e => (hs.mut_nF ho hk e).2⟩, hm⟩
  · rw [hget] at ho'
    by_cases e : k = h
    · rw [if_pos e] at ho'; injection ho' with ho'; subst ho'
      unfold ORep; trivial
    · rw [if_neg e] at ho'
      have old := hs.obj k o' ho'
      have ne' : ∀ g', o'.k ≠ .dead → σ k = some g' → σ h ≠ some g' := fun g' hm hg' => ne k o' g' e ho' hm hg'
      unfold ORep at old ⊢
      split
      · trivial
      · rename_i hkk
        rw [hkk] at old; dsimp only at old
        rcases old with h0 | ⟨g', q1, q2, q3, q4⟩
        · exact .inl h0
        · have n := ne' g' (by rw [hkk]; simp) q1
          exact .inr ⟨g', q1, fun hh => hh.elim q2 n, q3, q4.mono (h5 g' n) fun d v hr => ⟨hr.1.mono hm.mono hm.keepF, hr.2⟩⟩
      · rename_i hkk
        rw [hkk] at old; dsimp only at old
        rcases old with h0 | ⟨g', q1, q2, q4⟩
        · exact .inl h0
        · have n := ne' g' (by rw [hkk]; simp) q1
          exact .inr ⟨g', q1, .inl q2, q4.mono (h5 g' n) fun d v hr => ⟨hr.1.mono hm.mono hm.keepF, hr.2⟩⟩
      · rename_i hkk
        rw [hkk] at old; dsimp only at old
        obtain ⟨g', q1, q2, q3, q4⟩ := old
        have n := ne' g' (by rw [hkk]; simp) q1
        exact ⟨g', q1, fun hh => hh.elim q2 n, q3, q4.mono (h5 g' n) fun d v hr => hr.mono hm⟩
  · rw [hget] at e1 e2
    by_cases q1 : k1 = h
    · rw [if_pos q1] at e1; injection e1 with e1; subst e1
      rcases m1 with m1 | m1 <;> cases m1
    by_cases q2 : k2 = h
    · rw [if_pos q2] at e2; injection e2 with e2; subst e2
      rcases m2 with m2 | m2 <;> cases m2
    rw [if_neg q1] at e1
    rw [if_neg q2] at e2
    exact hs.inj k1 k2 o1 o2 g' e1 m1 e2 m2 s1 s2

theorem x_mark [Inhabited Env] {t e : TypeId} {x : Operand} {h : Nat} {ob : DObj} (hs : SimH K F σ hp w) (ho : o.op = .convert t t x) (ht : P.underlying t = some (.slice e)) (he : P.underlying e = some (.int .u8))
    (hob : hp[h]? = some ob) (hk : ob.k = .imm) (hv : VRep F σ hp w (.own h ob.es.length 0 ob.es.length) (a.eval x)) (hne : 0 < ob.es.length) :
    ∃ v w', (execOp a.eval o).run P w = .ok (.value v) w' ∧ Gives K F σ hp w (.sl ob.es) (hp.set h { ob with k := .dead }) v w' := by
  have hold := hs.obj h ob hob
  unfold ORep at hold
  rw [hk] at hold; dsimp only at hold
  rcases hold with ⟨h0, _⟩ | ⟨g, hg, nF, nK, c, ty, hh, hcz, hzz, hcc⟩
  · rw [h0] at hne; simp at hne
  obtain ⟨A, cap, hA0, hle, hA⟩ := (hv.own_inv.2 ob hob).2 (by rw [hk]; simp) rfl
  have hA' : A = some ⟨g, 0, none⟩ := by
    rcases hA with h0 | ⟨g', hg', e, _⟩
    · omega
    · rw [hg] at hg'; injection hg' with hg'; subst hg'; simpa using e
  subst hA'
  have hsh : w.shape? g = some (ty, c.size) := by unfold World.shape?; rw [hh]
  have hrun : (execOp a.eval o).run P w = .ok (.value (.slice (some ⟨g, 0, none⟩) ob.es.length cap)) (w.freeze ⟨g, c.size, none⟩ 1) := by
    simp only [execOp, ho, hA0, convert, Sem.run_bind, run_under ht, Result.andThen_ok, run_under he, beq_self_eq_true, markStringish, run_shape, hsh, run_freeze, Sem.run_pure]
  have hot : ∀ b, σ h ≠ some b → (w.freeze ⟨g, c.size, none⟩ 1).heap[b]? = w.heap[b]? := fun b hb => by
    have : b ≠ g := fun e => hb (by rw [e]; exact hg)
    unfold World.freeze
    simp only [Nat.one_ne_zero, if_false]
    rw [Array.getElem?_modify, if_neg (Ne.symm this)]
  have hnew : ∃ mk, (w.freeze ⟨g, c.size, none⟩ 1).heap[g]? = some (.cells c ty mk) := by
    unfold World.freeze
    simp only [Nat.one_ne_zero, if_false]
    rw [Array.getElem?_modify, if_pos rfl, hh]
    exact ⟨_, rfl⟩
  obtain ⟨mk, hmk⟩ := hnew
  obtain ⟨k1, k2, k3⟩ := hs.killM (w' := w.freeze ⟨g, c.size, none⟩ 1) hob (.inl hk) (by simp [World.freeze]) (by simp [World.freeze]) (by simp [World.freeze]) (by simp [World.freeze]) hot
  refine ⟨_, _, hrun, _, _, k1, k2, k3, .imm ?_⟩
  exact IRep.sl_mk (z := ob.z) hle hzz fun _ => ⟨_, rfl, rfl, .inr hg, fun i j d hd => by
    obtain ⟨u, hu, hr⟩ := hcc i j d hd
    refine ⟨u, by rw [cell_blk hmk]; simpa using hu, hr.2, hr.1.mono k3.mono k3.keepF⟩⟩

theorem x_slA [Inhabited Env] {t e : TypeId} {x hi : Operand} {n h : Nat} {ob : DObj} {k : IntKind} {m : Int} {i : TypeInfo} (hs : SimH K F σ hp w) (ho : o.op = .slice t x none (some hi) none) (ht : P.underlying t = some (.array n e)) (hi1 : P.info? e = some i) (hi2 : i.size = 1)
    (hob : hp[h]? = some ob) (hk : ob.k = .loc) (hz : ob.z = n) (hl1 : ob.es.length = 1) (hrl : (ob.es.getD 0 []).length = n) (hn : 1 < n) (hm0 : 0 ≤ m) (hmn : m ≤ n)
    (hv : VRep F σ hp w (.ptr h 1 0 0) (a.eval x)) (hhi : a.eval hi = .int k m) :
    ∃ v w', (execOp a.eval o).run P w = .ok (.value v) w' ∧ Gives K F σ hp w (.own h n 0 m.toNat) (hp.set h ⟨.loc, 1, (ob.es.getD 0 []).map fun d => [d]⟩) v w' := by
  have hlt := lt_of_some hob
  have hold := hs.obj h ob hob
  unfold ORep at hold
  rw [hk] at hold; dsimp only at hold
  obtain ⟨g, hg, nF, nK, c, ty, hh, hcz, hzz, hcc⟩ := hold
  obtain ⟨g', hg', hx⟩ := (hv.ptr_inv.2 ob hob).2 (by rw [hk]; simp) hl1
  rw [hg] at hg'; injection hg' with hg'; subst hg'
  have hx : a.eval x = .pointer (some ⟨g, 0, none⟩) := by simpa using hx
  have hrun : (execOp a.eval o).run P w = .ok (.value (.slice (some ⟨g, 0, none⟩) m.toNat n)) w := by
    have hmn' : ¬ (n : Int) < m := by omega
    have hmm : ¬ m < 0 := by omega
    have hz0 : ¬ n = 0 := by omega
    simp [execOp, ho, hx, hhi, Instr.sliceAt, run_under ht, Instr.sureAddr, Instr.sliceBounds, Instr.sliceBound, asIntOf, hm0, hmn, sizeOf, typeInfo, hi1, Addr.add]
  have hrow0 : ob.es[0]? = some (ob.es.getD 0 []) := by
    rw [List.getD_eq_getElem?_getD, List.getElem?_eq_getElem (by omega)]; rfl
  generalize ob.es.getD 0 [] = row at *
  have hE : ∀ r, (row.map fun d => [d])[r]? = row[r]?.map fun d => [d] := fun r => List.getElem?_map ..
  have cg : Chg K F σ hp w h ⟨.loc, 1, row.map fun d => [d]⟩ F σ (hp.set h ⟨.loc, 1, row.map fun d => [d]⟩) w :=
    { os := rfl, tape := rfl, output := rfl, size := Nat.le_refl _, hF := fun _ h => h, newF := fun _ h => .inl h, ltF := hs.fb
      heap := fun b hb hne => rfl, hps := .inl ⟨hlt, rfl⟩
      sig := fun h' hne => rfl, newg := fun g hg => .inl ⟨hg, ob, hob, .inr hk⟩
      grow := fun oh hoh => by
        rw [hob] at hoh; injection hoh with e; subst e
        refine ⟨.inl (.inr hk), by simp only [List.length_map]; omega, fun e => ?_⟩
        simp only [List.length_map] at e
        omega }
  have hm := cg.hm hs
  refine ⟨_, w, hrun, F, σ, cg.sim hs ?_, cg.moves hs, hm, .own _ _ _ _ _ rfl (by simpa using hlt) fun o' ho' => ?_⟩
  · unfold ORep; dsimp only
    refine ⟨g, hg, nF, nK, c, ty, hh, by rw [List.length_map]; rw [hl1, hz] at hcz; omega, fun r rw' hr => ?_, fun r j d hd => ?_⟩
    · rw [hE] at hr
      cases hq : row[r]? with
      | none => simp [hq] at hr
      | some d => simp [hq] at hr; subst hr; rfl
    · unfold cellAt at hd
      rw [hE] at hd
      cases hq : row[r]? with
      | none => simp [hq] at hd
      | some d' =>
        simp [hq] at hd
        cases j with
        | succ j => simp at hd
        | zero =>
          simp at hd
          subst hd
          have h0 : cellAt ob.es 0 r = some d' := by
            unfold cellAt
            rw [hrow0]; exact hq
          obtain ⟨u, hu, hr⟩ := hcc 0 r d' h0
          exact ⟨u, by simpa using hu, hr.mono hm⟩
  · rw [cg.get] at ho'; injection ho' with ho'; subst ho'
    refine ⟨by simp only [List.length_map]; omega, fun _ _ => ⟨some ⟨g, 0, none⟩, n, rfl, by omega, .inr ⟨g, hg, by simp, ?_⟩⟩⟩
    have : bsz w g = c.size := by unfold bsz; rw [hh]
    rw [this]
    simp only [Nat.zero_add, Nat.mul_one]
    rw [hl1, hz] at hcz
    omega
end
end Go.Nk
