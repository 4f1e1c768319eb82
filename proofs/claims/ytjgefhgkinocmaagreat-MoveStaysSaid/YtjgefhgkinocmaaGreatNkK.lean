/- append; store. -/
import Derived.Test.YtjgefhgkinocmaaGreatNkJ
set_option linter.all false
namespace Go.Nk
open Go.RowKit

section
variable {P : Program} {K F F' : Nat → Prop} {σ σ' : Nat → Option Nat} {hp hp' : List DObj} {w w' : World} {fr : List (Nat × DV)} {a : Act} {o : Oper}

theorem elemOk_of {t : TypeId} {z : Nat} (h : (elemOk P t z).isSome = true) : ∃ e i zv, P.underlying t = some (.slice e) ∧ P.info? e = some i ∧ i.zero = some zv ∧ i.size = z ∧ 0 < z ∧ i.bytes ≤ 32768 ∧ zv.cells.size = z := by
  unfold elemOk at h
  split at h
  · rename_i e he
    split at h
    · rename_i i hi
      split at h
      · rename_i zv hz
        split at h
        · rename_i hh
          exact ⟨e, i, zv, he, hi, hz, hh⟩
        · simp at h
      · simp at h
    · simp at h
  · simp at h

theorem getD_cell_all {a : Addr} {n : Nat} (h : ∀ k, k < n → ∃ u, w.cell? (a.add k) = some u) :
    ∀ (j : Nat) (v : Value), ((List.range n).map fun k => (w.cell? (a.add k)).getD undef)[j]? = some v → w.cell? (a.add j) = some v := by
  intro j v hj
  rw [List.getElem?_map] at hj
  rcases Nat.lt_or_ge j n with hl | hl
  · rw [List.getElem?_range hl] at hj
    obtain ⟨u, hu⟩ := h j hl
    simp [hu] at hj
    rw [hu, hj]
  · rw [List.getElem?_eq_none (by simpa using hl)] at hj
    simp at hj

/-- What is appended. -/
theorem src_of [Inhabited Env] (hs : SimH K F σ hp w) {d : DV} {v : Value} (hv : VRep F σ hp w d v) (h : (elemsOf hp d).pre) {z : Nat} (hpos : 0 < z) (hz : ∀ e ∈ (elemsOf hp d).es, e.length = z) {u : TypeId}
    (hkd : (∃ e', P.underlying u = some (.slice e')) ∨ P.underlying u = some .string) :
    ∃ news, Src P z u v (elemsOf hp d).es.length news w ∧ (∀ (i : Nat) (e : List DV), (elemsOf hp d).es[i]? = some e → e.length = z) ∧
      ∀ i j e, cellAt (elemsOf hp d).es i j = some e → ∃ x, news[i * z + j]? = some x ∧ IOne F w e x := by
  by_cases hstr : ∃ s, d = .str s
  · obtain ⟨s, rfl⟩ := hstr
    have hv' := hv.str_inv
    subst hv'
    simp only [elemsOf] at hz ⊢
    have hz1 : z = 1 ∨ s = [] := by
      cases s with
      | nil => exact .inr rfl
      | cons b s => exact .inl (by have := hz [.int .u8 b.toNat] (by simp); simpa using this.symm)
    have hsrc : Src P 1 u (.string ⟨s.toArray⟩) (⟨s.toArray⟩ : ByteArray).size (byteCells ⟨s.toArray⟩) w :=
      ⟨hkd, fun _ => rfl, firstCells_string _ w, firstCells_string _ w.drew, by rw [byteCells_length, Nat.mul_one], fun u hu => by
        obtain ⟨_, _, rfl⟩ := List.mem_map.1 hu
        rfl⟩
    rcases hz1 with rfl | rfl
    · refine ⟨_, by simpa [ByteArray.size] using hsrc, fun i e he => ?_, fun i j e he => ?_⟩
      · rw [List.getElem?_map] at he; cases hb : s[i]? <;> simp [hb] at he; subst he; rfl
      · unfold cellAt at he
        rw [List.getElem?_map] at he
        cases hb : s[i]? with
        | none => simp [hb] at he
        | some x =>
          simp [hb] at he
          cases j with
          | zero => simp at he; subst he; exact ⟨_, by simp [byteCells, hb], .int _ _, rfl⟩
          | succ j => simp at he
    · refine ⟨[], ⟨hsrc.kind, fun _ => rfl, ?_, ?_, by simp, fun _ h => by cases h⟩, fun i e he => by simp at he, fun i j e he => by simp [cellAt] at he⟩
      · simp [Builtin.firstCells]
      · simp [Builtin.firstCells]
  · have hstr' : ∀ s, d ≠ .str s := fun s hs => hstr ⟨s, hs⟩
    obtain ⟨A, c, z', rfl, hlc, hzz, hA, hAn⟩ := elemsOf_rep hs hv h hstr'
    generalize (elemsOf hp d).es = es at *
    by_cases hne : es = []
    · subst hne
      refine ⟨[], ⟨hkd, fun _ => rfl, ?_, ?_, by simp, fun _ h => by cases h⟩, fun i e he => by simp at he, fun i j e he => by simp [cellAt] at he⟩
      · cases A <;> simp [Builtin.firstCells, loadCells, loadCellsFrom]
      · cases A <;> simp [Builtin.firstCells, loadCells, loadCellsFrom]
    · have hz' : z' = z := by
        obtain ⟨e0, he0⟩ := List.exists_mem_of_ne_nil es hne
        obtain ⟨k0, hk0, rfl⟩ := List.getElem_of_mem he0
        rw [← hzz k0 _ (List.getElem?_eq_getElem hk0)]; exact hz _ he0
      subst hz'
      obtain ⟨b, rfl, hb1, _, hc⟩ := hA hne
      have hcell : ∀ k, k < es.length * z' → ∃ e u, w.cell? (b.add k) = some u ∧ IOne F w e u := by
        intro k hk
        have hi : k / z' < es.length := (Nat.div_lt_iff_lt_mul hpos).2 hk
        have hrow := hzz (k / z') es[k / z'] (by simp [hi])
        have hj : k % z' < es[k / z'].length := by rw [hrow]; exact Nat.mod_lt _ hpos
        obtain ⟨u, hu, h1, hr⟩ := hc (k / z') (k % z') (es[k / z'][k % z']) (by simp [cellAt, hi, hj])
        refine ⟨_, u, ?_, hr, h1⟩
        rw [add_none hb1, ← hu]
        congr 2
        rw [Nat.mul_comm, Nat.div_add_mod]
      refine ⟨(List.range (es.length * z')).map fun k => (w.cell? (b.add k)).getD undef,
        ⟨hkd, fun _ => rfl, run_firstCells_some w _ _ _ _ c _ (by simp) (getD_cell_all fun k hk => let ⟨_, u, hu, _⟩ := hcell k hk; ⟨u, hu⟩), run_firstCells_some w.drew _ _ _ _ c _ (by simp) (getD_cell_all fun k hk => let ⟨_, u, hu, _⟩ := hcell k hk; ⟨u, hu⟩), by simp, fun u hu => ?_⟩, hzz, fun i j e he => ?_⟩
      · obtain ⟨k, hk, rfl⟩ := List.mem_map.1 hu
        obtain ⟨e, u, hu, hr⟩ := hcell k (by simpa using hk)
        rw [hu]
        exact hr.1.oneCell
      · obtain ⟨u, hu, h1, hr⟩ := hc i j e he
        have hlt : i * z' + j < es.length * z' := by
          unfold cellAt at he
          cases hes : es[i]? with
          | none => simp [hes] at he
          | some row =>
            simp [hes] at he
            have hi := (List.getElem?_eq_some_iff.1 hes).1
            have hj := (List.getElem?_eq_some_iff.1 he).1
            rw [hzz i row hes] at hj
            have : (i + 1) * z' ≤ es.length * z' := Nat.mul_le_mul_right _ hi
            rw [Nat.add_mul] at this; omega
        refine ⟨u, ?_, hr, h1⟩
        rw [List.getElem?_map, List.getElem?_range hlt]
        simp [add_none hb1, hu]

theorem cellAt_append {xs ys : List (List DV)} {i j : Nat} {d : DV} (h : cellAt (xs ++ ys) i j = some d) : (i < xs.length ∧ cellAt xs i j = some d) ∨ (xs.length ≤ i ∧ cellAt ys (i - xs.length) j = some d) := by
  unfold cellAt at h ⊢
  rcases Nat.lt_or_ge i xs.length with hl | hl
  · rw [List.getElem?_append_left hl] at h; exact .inl ⟨hl, h⟩
  · rw [List.getElem?_append_right hl] at h; exact .inr ⟨hl, h⟩

theorem row_len {z : Nat} {es : List (List DV)} (hz : ∀ (i : Nat) (e : List DV), es[i]? = some e → e.length = z) {i j : Nat} {d : DV} (h : cellAt es i j = some d) : i < es.length ∧ j < z ∧ i * z + j < es.length * z := by
  unfold cellAt at h
  cases he : es[i]? with
  | none => simp [he] at h
  | some e =>
    simp [he] at h
    have hi := (List.getElem?_eq_some_iff.1 he).1
    have hj := (List.getElem?_eq_some_iff.1 h).1
    rw [hz i e he] at hj
    have : (i + 1) * z ≤ es.length * z := Nat.mul_le_mul_right _ hi
    rw [Nat.add_mul] at this
    exact ⟨hi, hj, by omega⟩

theorem append_rows {z : Nat} {xs ys : List (List DV)} (hx : ∀ (i : Nat) (e : List DV), xs[i]? = some e → e.length = z) (hy : ∀ (i : Nat) (e : List DV), ys[i]? = some e → e.length = z) :
    ∀ (i : Nat) (e : List DV), (xs ++ ys)[i]? = some e → e.length = z := by
  intro i e he
  rcases Nat.lt_or_ge i xs.length with hl | hl
  · rw [List.getElem?_append_left hl] at he; exact hx _ _ he
  · rw [List.getElem?_append_right hl] at he; exact hy _ _ he

theorem fits_append {n b c : Nat} (h : c < n) (hn : n ≤ lenMax) (hb : b ≤ 32768) : Builtin.nextslicecap n c * b ≤ 281474976710656 := by
  refine growslice_fits h ?_
  have h1 : n ≤ 4294967296 := hn
  calc n * b ≤ 4294967296 * 32768 := Nat.mul_le_mul h1 hb
    _ = 140737488355328 := by decide

theorem q_append_run {xs : Array Operand} {t u : TypeId} {s x : Operand} {v : Value} {w' : World} (ho : o.op = .call { callee := .builtin .append, args := xs, argTypes := #[t, u] }) (hxs : xs = #[s, x])
    (h : (Builtin.append_ #[t, u] o.type #[a.eval s, a.eval x]).run P w = .ok v w') : (execOp a.eval o).run P w = .ok (.value v) w' := by
  subst hxs
  simp [execOp, ho, resolve, invoke, builtin, h]

theorem setCells_eq {g n : Nat} {cur : Array Value} {t : TypeId} {vs : List Value} (hg : w.heap[g]? = some (.cells cur t (0, 0))) (hfit : n + vs.length ≤ cur.size) (h1 : ∀ v ∈ vs, v.oneCell' = true) :
    w.setCells g n vs = w.setRow g (cur.toList.take n ++ vs ++ cur.toList.drop (n + vs.length)).toArray := by
  have e1 := run_storeCells_cells (P := default) g n vs 0 w (fun j hj => by rw [cell_blk hg]; simp; omega) (fun j hj => by simp [World.frozen?, hg]) h1
  have e2 := run_storeCells_at default g n t vs 0 cur w hg (by omega) h1
  simp only [Nat.add_zero] at e1 e2
  rw [e1] at e2
  injection e2

theorem toList_at {c : Array Value} (k : Nat) : c.toList[k]? = c[k]? := by simp

theorem splice_at {cur : Array Value} {n : Nat} {vs : List Value} (hfit : n + vs.length ≤ cur.size) (k : Nat) :
    ((cur.toList.take n ++ vs ++ cur.toList.drop (n + vs.length)).toArray)[k]? = if n ≤ k ∧ k < n + vs.length then vs[k - n]? else cur[k]? := by
  rw [List.getElem?_toArray]
  have hl : (cur.toList.take n).length = n := by simp; omega
  by_cases h1 : k < n
  · rw [if_neg (by omega), List.append_assoc, List.getElem?_append_left (by omega), List.getElem?_take, if_pos h1, toList_at]
  · by_cases h2 : k < n + vs.length
    · rw [if_pos ⟨by omega, h2⟩, List.append_assoc, List.getElem?_append_right (by omega), hl, List.getElem?_append_left (by omega)]
    · rw [if_neg (by omega), List.getElem?_append_right (by simp; omega), List.length_append, hl, List.getElem?_drop, toList_at]
      congr 1; omega

/-- What an append of some rows does, wherever it goes. -/
structure App (P : Program) (i : TypeInfo) (zv : Value) (t u ty e : TypeId) (x : Value) (n : Nat) (news : List Value) (w : World) : Prop where
  newsLen : news.length = n * i.size
  one : ∀ v ∈ news, v.oneCell' = true
  zero : n = 0 → ∀ A c, (Builtin.append_ #[t, u] ty #[.slice A 0 c, x]).run P w = .ok (.slice A 0 c) w
  room : ∀ b off sLen sCap : Nat, sLen + n ≤ sCap → (∀ j, j < news.length → (w.cell? ⟨b, off + sLen * i.size + j, none⟩).isSome = true) → (∀ j, j < news.length → w.frozen? ⟨b, off + sLen * i.size + j, none⟩ = false) →
    (Builtin.append_ #[t, u] ty #[.slice (some ⟨b, off, none⟩) sLen sCap, x]).run P w = .ok (.slice (some ⟨b, off, none⟩) (sLen + n) sCap) (w.setCells b (off + sLen * i.size) news)
  grow : ∀ (base : Option Addr) (sLen sCap : Nat) (olds : List Value), (Builtin.firstCells i.size sLen (.slice base sLen sCap)).run P w.drew = .ok olds.toArray w.drew → sCap < sLen + n → ((sLen + n : Nat) : Int) ≤ 9223372036854775807 → Builtin.nextslicecap (sLen + n) sCap * i.bytes ≤ 281474976710656 →
    (Builtin.append_ #[t, u] ty #[.slice base sLen sCap, x]).run P w =
      .ok (.slice (some ⟨w.heap.size, 0, none⟩) (sLen + n) (grownCap w (sLen + n) sCap e))
        (w.drew.alloc (.cells ((olds ++ news).toArray ++ Builtin.zeroCells zv.cells (grownCap w (sLen + n) sCap e - (sLen + n))) e))

theorem App.ofSrc {i : TypeInfo} {zv : Value} {t u ty e : TypeId} {x : Value} {n : Nat} {news : List Value} (ht : P.underlying t = some (.slice e)) (hi : P.info? e = some i) (hzv : i.zero = some zv) (hs : Src P i.size u x n news w) : App P i zv t u ty e x n news w := by
  refine ⟨hs.newsLen, hs.one, fun h0 A c => ?_, fun b off sLen sCap h1 h2 h3 => run_append_room_src (P := P) w t u ty e i ht hi b off sLen sCap x n news hs h1 h2 h3, fun base sLen sCap olds h1 h2 h3 h4 => run_append_grow_src (P := P) w t u ty e i zv ht hi hzv base sLen sCap olds h1 x n news hs h2 h3 h4⟩
  subst h0
  have hnews : news = [] := List.eq_nil_of_length_eq_zero (by simpa using hs.newsLen)
  have h1 := hs.cells
  have h2 := hs.len
  rcases hs.kind with ⟨e', hk'⟩ | hk' <;> cases A <;> simp [Builtin.append_, run_underlying ht, run_underlying hk', sizeOf, typeInfo, hi, h2, h1, hnews, storeCells]

theorem App.ofZeros {i : TypeInfo} {zv : Value} {t u ty e : TypeId} {k : IntKind} {m : Int} (ht : P.underlying t = some (.slice e)) (hu : P.underlying u = some (.int k)) (hi : P.info? e = some i) (hzv : i.zero = some zv) (hpos : 0 < i.size) (hby : i.bytes ≤ 32768) (hzs : zv.cells.size = i.size) (h0 : 0 ≤ m) (hm : m.toNat ≤ lenMax)
    (h1 : ∀ v ∈ (Builtin.zeroCells zv.cells m.toNat).toList, v.oneCell' = true) : App P i zv t u ty e (.int .i64 m) m.toNat (Builtin.zeroCells zv.cells m.toNat).toList w := by
  have hmm : m ≤ 4294967296 := by simp only [lenMax] at hm; omega
  have hw : IntKind.i64.wrap m = m := by rw [IntKind.wrap_i64]; omega
  have hb : ¬ 281474976710656 < m * (i.bytes : Int) := by
    have : m * (i.bytes : Int) ≤ 4294967296 * 32768 := Int.mul_le_mul hmm (by omega) (by omega) (by omega)
    omega
  have hn : ¬ m < 0 := by omega
  refine ⟨by simp [size_zeroCells, hzs], h1, fun hz A c => ?_, fun b off sLen sCap h2 h3 h4 => ?_, fun base sLen sCap olds h2 h3 h4 h5 => ?_⟩
  · have hm0 : m = 0 := by omega
    subst hm0
    cases A <;> simp [Builtin.append_, run_underlying ht, run_underlying hu, sizeOf, typeInfo, hi, asInt, asIntOf, hw, storeCells]
  · have hst := run_storeCells_cells (P := P) b (off + sLen * i.size) (Builtin.zeroCells zv.cells m.toNat).toList 0 w (by simpa using h3) (by simpa using h4) h1
    simp only [Nat.add_zero] at hst
    by_cases hz : m.toNat * i.size = 0
    · have hm0 : m.toNat = 0 := by rcases Nat.mul_eq_zero.1 hz with h | h <;> omega
      have hz2 : (Builtin.zeroCells zv.cells m.toNat).toList = [] := by rw [hm0]; simp [Builtin.zeroCells]
      rw [hz2] at hst ⊢
      simp [Builtin.append_, run_underlying ht, run_underlying hu, sizeOf, typeInfo, hi, asInt, asIntOf, hw, hn, hb, h2, hz, Addr.add_lit, hst]
    · simp [Builtin.append_, run_underlying ht, run_underlying hu, sizeOf, typeInfo, zeroValue, hzv, hi, asInt, asIntOf, hw, hn, hb, h2, hz, Addr.add_lit, hst]
  · have hn2 : ¬ (sLen + m.toNat ≤ sCap) := by omega
    have h63' : ¬ (9223372036854775807 < ((sLen : Int) + max m 0)) := by omega
    have h48' : ¬ (281474976710656 < Builtin.nextslicecap (sLen + m.toNat) sCap * i.bytes) := by omega
    by_cases hz : m.toNat * i.size = 0
    · have hm0 : m.toNat = 0 := by rcases Nat.mul_eq_zero.1 hz with h | h <;> omega
      have hz2 : (Builtin.zeroCells zv.cells m.toNat).toList = [] := by rw [hm0]; simp [Builtin.zeroCells]
      rw [hz2]
      simp [Builtin.append_, run_underlying ht, run_underlying hu, sizeOf, typeInfo, zeroValue, hi, hzv, asInt, asIntOf, hw, hn, hb, hn2, hz, h63', h48', Question.forced, h2, newRow, grownCap]
    · simp [Builtin.append_, run_underlying ht, run_underlying hu, sizeOf, typeInfo, zeroValue, hi, hzv, asInt, asIntOf, hw, hn, hb, hn2, hz, h63', h48', Question.forced, h2, newRow, grownCap]
      congr 2
      apply Array.ext'
      simp [List.append_assoc]

theorem x_append_nil [Inhabited Env] {xs : Array Operand} {t u e : TypeId} {s x : Operand} {i : TypeInfo} {zv : Value} {es : List (List DV)} {news : List Value} (hs : SimH K F σ hp w) (ho : o.op = .call { callee := .builtin .append, args := xs, argTypes := #[t, u] }) (hxs : xs = #[s, x])
    (hby : i.bytes ≤ 32768) (hzs : zv.cells.size = i.size) (hsv : a.eval s = .slice none 0 0) (hsrc : App P i zv t u o.type e (a.eval x) es.length news w)
    (hrows : ∀ (k : Nat) (r : List DV), es[k]? = some r → r.length = i.size) (hcells : ∀ k j r, cellAt es k j = some r → ∃ x, news[k * i.size + j]? = some x ∧ IOne F w r x) (hlen : es.length ≤ lenMax) :
    ∃ v w', (execOp a.eval o).run P w = .ok (.value v) w' ∧ Gives K F σ hp w (.own hp.length es.length 0 es.length) (hp ++ [⟨.imm, i.size, es⟩]) v w' := by
  by_cases h0 : es = []
  · subst h0
    have hrun := hsrc.zero rfl none 0
    refine ⟨_, _, q_append_run ho hxs (by rw [hsv]; exact hrun), ?_⟩
    have c : Chg K F σ hp w hp.length ⟨.imm, i.size, []⟩ F (fun x => if x = hp.length then none else σ x) (hp ++ [⟨.imm, i.size, []⟩]) w :=
      { os := rfl, tape := rfl, output := rfl, size := Nat.le_refl _, hF := fun _ h => h, newF := fun _ h => .inl h, ltF := hs.fb, heap := fun b h _ => rfl, hps := .inr ⟨rfl, rfl⟩
        sig := fun h' hne => by simp [hne], newg := fun g hg => by simp at hg, grow := fun oh hoh => by simp at hoh }
    refine ⟨F, _, c.sim hs (.inl ⟨rfl, by simp⟩), c.moves hs, c.hm hs, .own _ _ _ _ _ rfl (by simp) fun ob hob => ?_⟩
    have : ob = ⟨.imm, i.size, []⟩ := by simpa using hob.symm
    subst this
    exact ⟨by simp, fun _ _ => ⟨none, 0, rfl, Nat.le_refl _, .inl rfl⟩⟩
  · have hpos' : 0 < es.length := List.length_pos_iff.2 h0
    have hrun := hsrc.grow none 0 0 [] (by simp [Builtin.firstCells]) (by omega) (by simp only [lenMax] at hlen; omega) (fits_append (by omega) (by omega) hby)
    refine ⟨_, _, q_append_run ho hxs (by rw [hsv]; exact hrun), ?_⟩
    have hge := grownCap_ge w (0 + es.length) 0 e
    have := g_new_own hs (es := es) (z := i.size) (cap := grownCap w (0 + es.length) 0 e) (w' := w.drew.alloc (.cells (([] ++ news).toArray ++ Builtin.zeroCells zv.cells (grownCap w (0 + es.length) 0 e - (0 + es.length))) e)) (t := e)
      rfl rfl rfl (by simp) (fun b hb => Below.heap_alloc w.drew _ b hb) (heap_alloc_new w.drew _) hrows (fun i' j d hd => by
        obtain ⟨x, hx', hr⟩ := hcells i' j d hd
        refine ⟨x, ?_, hr⟩
        have hlt := (List.getElem?_eq_some_iff.1 hx').1
        rw [Array.getElem?_append_left (by simpa using hlt)]
        simpa using hx') (by omega) (by
        simp only [Array.size_append, size_zeroCells, List.size_toArray, List.nil_append, hsrc.newsLen, hzs, ← Nat.add_mul]
        exact Nat.mul_le_mul_right _ (by omega))
    simpa using this

theorem lt_of_some {h : Nat} {ob : DObj} (hob : hp[h]? = some ob) : h < hp.length := by
  rcases Nat.lt_or_ge h hp.length with h' | h'
  · exact h'
  · rw [List.getElem?_eq_none h'] at hob; cases hob

theorem x_append_own [Inhabited Env] {xs : Array Operand} {t u e : TypeId} {s x : Operand} {i : TypeInfo} {zv : Value} {h : Nat} {ob : DObj} {es : List (List DV)} {news : List Value} (hs : SimH K F σ hp w) (ho : o.op = .call { callee := .builtin .append, args := xs, argTypes := #[t, u] }) (hxs : xs = #[s, x])
    (hby : i.bytes ≤ 32768) (hzs : zv.cells.size = i.size) (hsrc : App P i zv t u o.type e (a.eval x) es.length news w)
    (hrows : ∀ (k : Nat) (r : List DV), es[k]? = some r → r.length = i.size) (hcells : ∀ k j r, cellAt es k j = some r → ∃ x, news[k * i.size + j]? = some x ∧ IOne F w r x)
    (hob : hp[h]? = some ob) (hk : ob.k = .imm) (hbz : ob.z = i.size) (hsv : VRep F σ hp w (.own h ob.es.length 0 ob.es.length) (a.eval s)) (hlen : ob.es.length + es.length ≤ lenMax) :
    ∃ v w', (execOp a.eval o).run P w = .ok (.value v) w' ∧ Gives K F σ hp w (.own h (ob.es.length + es.length) 0 (ob.es.length + es.length)) (hp.set h ⟨.imm, i.size, ob.es ++ es⟩) v w' := by
  have hl := lt_of_some hob
  have hkd : ob.k ≠ .dead := by rw [hk]; simp
  have hold := hs.obj h ob hob
  unfold ORep at hold
  rw [hk] at hold; dsimp only at hold
  obtain ⟨A, cap, hv, hle, hA⟩ := (hsv.own_inv.2 ob hob).2 hkd rfl
  have one : ∀ v ∈ news, v.oneCell' = true := hsrc.one
  have newLen := hsrc.newsLen
  by_cases hroom : ob.es.length + es.length ≤ cap
  · rcases hA with hc0 | ⟨g, hg, rfl, hcap⟩
    · -- nothing is there, nothing comes
      have e1 : ob.es = [] := List.eq_nil_of_length_eq_zero (by omega)
      have e2 : es = [] := List.eq_nil_of_length_eq_zero (by omega)
      subst e2
      have hnews : news = [] := List.eq_nil_of_length_eq_zero (by simpa using newLen)
      have hrun : (Builtin.append_ #[t, u] o.type #[a.eval s, a.eval x]).run P w = .ok (.slice A 0 cap) w := by
        rw [hv, e1, hc0]
        exact hsrc.zero rfl A 0
      refine ⟨_, _, q_append_run ho hxs hrun, ?_⟩
      have c : Chg K F σ hp w h ⟨.imm, i.size, ob.es ++ []⟩ F σ (hp.set h ⟨.imm, i.size, ob.es ++ []⟩) w :=
        { os := rfl, tape := rfl, output := rfl, size := Nat.le_refl _, hF := fun _ h => h, newF := fun _ h => .inl h, ltF := hs.fb, heap := fun b h _ => rfl, hps := .inl ⟨hl, rfl⟩
          sig := fun h' hne => rfl, newg := fun g hg => .inl ⟨hg, ob, hob, .inl hk⟩
          grow := fun oh hoh => by rw [hob] at hoh; injection hoh with e; subst e; exact ⟨.inl (.inl hk), by simp, fun _ _ => ⟨hbz.symm, rfl, fun _ _ => rfl⟩⟩ }
      refine ⟨F, σ, c.sim hs ?_, c.moves hs, c.hm hs, .own _ _ _ _ _ rfl (by simpa using hl) fun o' ho' => ?_⟩
      · unfold ORep; dsimp only
        rw [List.append_nil, ← hbz]
        rcases hold with h0 | ⟨g, hg, h1, h2, hb⟩
        · exact .inl h0
        · exact .inr ⟨g, hg, h1, h2, hb⟩
      · rw [c.get] at ho'; injection ho' with ho'; subst ho'
        exact ⟨by simp [e1], fun _ _ => ⟨A, cap, by simp [e1], by simp [e1], .inl hc0⟩⟩
    · -- there is room
      rcases hold with ⟨_, h0⟩ | ⟨g', hg', nF, nK, c, ty, hh, hcz, hzz, hcc⟩
      · rw [hg] at h0; cases h0
      · rw [hg] at hg'; injection hg' with hg'; subst hg'
        have hbs : bsz w g = c.size := by unfold bsz; rw [hh]
        have hfit : ob.es.length * i.size + news.length ≤ c.size := by
          rw [newLen, ← Nat.add_mul]
          refine Nat.le_trans (Nat.mul_le_mul_right _ hroom) ?_
          rw [hbs, hbz] at hcap; simpa using hcap
        have hrun := hsrc.room g (0 * ob.z) ob.es.length cap hroom
          (fun j hj => by rw [cell_blk hh]; simp; omega) (fun j hj => by simp [World.frozen?, hh])
        refine ⟨_, _, q_append_run ho hxs (by rw [hv]; exact hrun), ?_⟩
        simp only [Nat.zero_mul, Nat.zero_add]
        rw [setCells_eq hh (by omega) one]
        have hget := setRow_heap w g c (c.toList.take (ob.es.length * i.size) ++ news ++ c.toList.drop (ob.es.length * i.size + news.length)).toArray ty (0, 0) hh
        generalize hcd : (c.toList.take (ob.es.length * i.size) ++ news ++ c.toList.drop (ob.es.length * i.size + news.length)).toArray = c' at *
        have hat : ∀ k : Nat, c'[k]? = if ob.es.length * i.size ≤ k ∧ k < ob.es.length * i.size + news.length then news[k - ob.es.length * i.size]? else c[k]? := fun k => by rw [← hcd]; exact splice_at hfit k
        have hsz : c'.size = c.size := by rw [← hcd]; simp; omega
        have cg : Chg K F σ hp w h ⟨.imm, i.size, ob.es ++ es⟩ F σ (hp.set h ⟨.imm, i.size, ob.es ++ es⟩) (w.setRow g c') :=
          { os := rfl, tape := rfl, output := rfl, size := by simp, hF := fun _ h => h, newF := fun _ h => .inl h, ltF := fun b hb => by simpa using hs.fb b hb
            heap := fun b hb hne => setRow_other _ _ _ _ (fun e => hne ob hob (.inl hk) (by rw [hg, e])), hps := .inl ⟨hl, rfl⟩
            sig := fun h' hne => rfl, newg := fun g hg => .inl ⟨hg, ob, hob, .inl hk⟩
            grow := fun oh hoh => by
              rw [hob] at hoh; injection hoh with e; subst e
              refine ⟨.inl (.inl hk), by simp, fun _ _ => ⟨hbz.symm, rfl, fun g1 hg1 => ?_⟩⟩
              rw [hg] at hg1; injection hg1 with hg1; subst hg1
              unfold bsz; rw [hget, hh]; exact hsz }
        have hm := cg.hm hs
        refine ⟨F, σ, cg.sim hs ?_, cg.moves hs, hm, .own _ _ _ _ _ rfl (by simpa using hl) fun o' ho' => ?_⟩
        · unfold ORep; dsimp only
          refine .inr ⟨g, hg, nF, nK, c', ty, hget, ?_, append_rows (by rw [← hbz]; exact hzz) hrows, fun i' j d hd => ?_⟩
          · rw [hsz, List.length_append, Nat.add_mul, ← newLen]; exact hfit
          · rcases cellAt_append hd with ⟨hlt, hd⟩ | ⟨hge, hd⟩
            · obtain ⟨u, hu, hr⟩ := hcc _ _ _ hd
              obtain ⟨_, hj, hlt2⟩ := row_len hzz hd
              rw [hbz] at hu hlt2
              exact ⟨u, by rw [hat, if_neg (by omega)]; exact hu, hr.1.mono hm.mono hm.keepF, hr.2⟩
            · obtain ⟨u, hu, hr⟩ := hcells _ _ _ hd
              obtain ⟨_, hj, hlt2⟩ := row_len hrows hd
              have e : i' * i.size + j = ob.es.length * i.size + ((i' - ob.es.length) * i.size + j) := by
                rw [← Nat.add_assoc, ← Nat.add_mul]; congr 2; omega
              exact ⟨u, by rw [hat, if_pos (by omega), e, Nat.add_sub_cancel_left]; exact hu, hr.1.mono hm.mono hm.keepF, hr.2⟩
        · rw [cg.get] at ho'; injection ho' with ho'; subst ho'
          refine ⟨by simp, fun _ _ => ⟨_, cap, rfl, hroom, .inr ⟨g, hg, by simp, ?_⟩⟩⟩
          have : bsz (w.setRow g c') g = c.size := by unfold bsz; rw [hget]; exact hsz
          rw [this]
          rw [hbs, hbz] at hcap; exact hcap
  · -- a new block
    have hn : 0 < es.length := by omega
    obtain ⟨olds, holds, holdc, holdl⟩ : ∃ olds : List Value, (Builtin.firstCells i.size ob.es.length (.slice A ob.es.length cap)).run P w.drew = .ok olds.toArray w.drew ∧
        (∀ i' j d, cellAt ob.es i' j = some d → ∃ u, olds[i' * i.size + j]? = some u ∧ IOne F w d u) ∧ olds.length = ob.es.length * i.size := by
      rcases hA with hc0 | ⟨g, hg, rfl, hcap⟩
      · have e1 : ob.es = [] := List.eq_nil_of_length_eq_zero (by omega)
        refine ⟨[], ?_, fun i' j d hd => by rw [e1] at hd; simp [cellAt] at hd, by simp [e1]⟩
        rw [e1]
        cases A <;> simp [Builtin.firstCells, loadCells, loadCellsFrom]
      · rcases hold with ⟨_, h0⟩ | ⟨g', hg', nF, nK, c, ty, hh, hcz, hzz, hcc⟩
        · rw [hg] at h0; cases h0
        · rw [hg] at hg'; injection hg' with hg'; subst hg'
          rw [hbz] at hcz hzz hcc
          refine ⟨c.toList.take (ob.es.length * i.size), ?_, fun i' j d hd => ?_, by simp; omega⟩
          · refine run_firstCells_some w.drew i.size ob.es.length _ ob.es.length cap _ (by simp; omega) fun j v hj => ?_
            rw [List.getElem?_take] at hj
            split at hj
            · rw [toList_at] at hj
              show w.cell? _ = _
              rw [add_none rfl, cell_blk hh]
              simpa using hj
            · cases hj
          · obtain ⟨u, hu, hr⟩ := hcc _ _ _ hd
            obtain ⟨_, _, hlt⟩ := row_len hzz hd
            exact ⟨u, by rw [List.getElem?_take, if_pos hlt, toList_at]; exact hu, hr⟩
    have hrun := hsrc.grow A ob.es.length cap olds holds (by omega) (by simp only [lenMax] at hlen; omega) (fits_append (by omega) hlen hby)
    refine ⟨_, _, q_append_run ho hxs (by rw [hv]; exact hrun), ?_⟩
    have hge := grownCap_ge w (ob.es.length + es.length) cap e
    generalize hcap' : grownCap w (ob.es.length + es.length) cap e = cap' at *
    have hnewb := heap_alloc_new w.drew (.cells ((olds ++ news).toArray ++ Builtin.zeroCells zv.cells (cap' - (ob.es.length + es.length))) e)
    have hsz : ((olds ++ news).toArray ++ Builtin.zeroCells zv.cells (cap' - (ob.es.length + es.length))).size = cap' * i.size := by
      simp only [Array.size_append, size_zeroCells, List.size_toArray, List.length_append, newLen, holdl, hzs, ← Nat.add_mul]
      congr 1; omega
    have hat : ∀ k u, (olds ++ news)[k]? = some u → ((olds ++ news).toArray ++ Builtin.zeroCells zv.cells (cap' - (ob.es.length + es.length)))[k]? = some u := fun k u hk => by
      have hlt := (List.getElem?_eq_some_iff.1 hk).1
      rw [Array.getElem?_append_left (by simpa using hlt)]
      simpa using hk
    generalize (olds ++ news).toArray ++ Builtin.zeroCells zv.cells (cap' - (ob.es.length + es.length)) = c' at *
    have nF : ¬ F w.heap.size := fun h => by have := hs.fb _ h; omega
    have nK : ¬ K w.heap.size := fun h => by have := hs.kb _ h; omega
    have cg : Chg K F σ hp w h ⟨.imm, i.size, ob.es ++ es⟩ F (fun x => if x = h then some w.heap.size else σ x) (hp.set h ⟨.imm, i.size, ob.es ++ es⟩) (w.drew.alloc (.cells c' e)) :=
      { os := rfl, tape := rfl, output := rfl, size := by simp, hF := fun _ h => h, newF := fun _ h => .inl h, ltF := fun b hb => by have := hs.fb b hb; simp; omega
        heap := fun b hb hne => Below.heap_alloc w.drew _ b hb, hps := .inl ⟨hl, rfl⟩
        sig := fun h' hne => by simp [hne], newg := fun g hg => .inr (by simp at hg; omega)
        grow := fun oh hoh => by
          rw [hob] at hoh; injection hoh with e; subst e
          exact ⟨.inl (.inl hk), by simp, fun he => by simp at he; rw [he] at hn; simp at hn⟩ }
    have hm := cg.hm hs
    refine ⟨F, _, cg.sim hs ?_, cg.moves hs, hm, .own _ _ _ _ _ rfl (by simpa using hl) fun o' ho' => ?_⟩
    · unfold ORep; dsimp only
      have hzo : ∀ (i' : Nat) (r : List DV), ob.es[i']? = some r → r.length = i.size := by
        intro i' r hr
        rcases hold with ⟨h0, _⟩ | ⟨g', hg', _, _, c, ty, hh, hcz, hzz, hcc⟩
        · rw [h0] at hr; simp at hr
        · rw [← hbz]; exact hzz _ _ hr
      refine .inr ⟨w.heap.size, by simp, nF, nK, c', e, hnewb, ?_, append_rows hzo hrows, fun i' j d hd => ?_⟩
      · rw [hsz, List.length_append]; exact Nat.mul_le_mul_right _ hge
      · rcases cellAt_append hd with ⟨hlt, hd⟩ | ⟨hge', hd⟩
        · obtain ⟨u, hu, hr⟩ := holdc _ _ _ hd
          refine ⟨u, hat _ _ ?_, hr.1.mono hm.mono hm.keepF, hr.2⟩
          rw [List.getElem?_append_left (List.getElem?_eq_some_iff.1 hu).1]; exact hu
        · obtain ⟨u, hu, hr⟩ := hcells _ _ _ hd
          refine ⟨u, hat _ _ ?_, hr.1.mono hm.mono hm.keepF, hr.2⟩
          have e : i' * i.size + j = ob.es.length * i.size + ((i' - ob.es.length) * i.size + j) := by
            rw [← Nat.add_assoc, ← Nat.add_mul]; congr 2; omega
          rw [e, List.getElem?_append_right (by omega), holdl, Nat.add_sub_cancel_left]; exact hu
    · rw [cg.get] at ho'; injection ho' with ho'; subst ho'
      refine ⟨by simp, fun _ _ => ⟨_, cap', rfl, hge, .inr ⟨w.heap.size, by simp, by simp, ?_⟩⟩⟩
      have : bsz (w.drew.alloc (.cells c' e)) w.heap.size = c'.size := by unfold bsz; rw [show (w.drew.alloc (.cells c' e)).heap[w.heap.size]? = _ from hnewb]
      rw [this, hsz]; simp

/-- The first of what is copied. -/
theorem src_take [Inhabited Env] (hs : SimH K F σ hp w) {d : DV} {v : Value} (hv : VRep F σ hp w d v) (h : (elemsOf hp d).pre) (hstr : ∀ s, d ≠ .str s) {z : Nat} (hpos : 0 < z) (hz : ∀ e ∈ (elemsOf hp d).es, e.length = z) {m : Nat} (hm : m ≤ (elemsOf hp d).es.length) :
    ∃ news : List Value, (Builtin.lenOf v).run P w = .ok (elemsOf hp d).es.length w ∧ (Builtin.firstCells z m v).run P w = .ok news.toArray w ∧ news.length = m * z ∧ (∀ u ∈ news, u.oneCell' = true) ∧
      ∀ i j e, i < m → cellAt (elemsOf hp d).es i j = some e → ∃ x, news[i * z + j]? = some x ∧ IOne F w e x := by
  obtain ⟨A, c, z', rfl, hlc, hzz, hA, hAn⟩ := elemsOf_rep hs hv h hstr
  generalize (elemsOf hp d).es = es at *
  by_cases hne : es = []
  · subst hne
    have : m = 0 := by simpa using hm
    subst this
    refine ⟨[], rfl, ?_, by simp, (fun _ h => by cases h), fun i j e hi => by omega⟩
    cases A <;> simp [Builtin.firstCells, loadCells, loadCellsFrom]
  · have hz' : z' = z := by
      obtain ⟨e0, he0⟩ := List.exists_mem_of_ne_nil es hne
      obtain ⟨k0, hk0, rfl⟩ := List.getElem_of_mem he0
      rw [← hzz k0 _ (List.getElem?_eq_getElem hk0)]; exact hz _ he0
    subst hz'
    obtain ⟨b, rfl, hb1, _, hc⟩ := hA hne
    have hcell : ∀ k, k < m * z' → ∃ e u, w.cell? (b.add k) = some u ∧ IOne F w e u := by
      intro k hk
      have hi : k / z' < m := (Nat.div_lt_iff_lt_mul hpos).2 hk
      have hi' : k / z' < es.length := by omega
      have hrow := hzz (k / z') es[k / z'] (by simp [hi'])
      have hj : k % z' < es[k / z'].length := by rw [hrow]; exact Nat.mod_lt _ hpos
      obtain ⟨u, hu, h1, hr⟩ := hc (k / z') (k % z') (es[k / z'][k % z']) (by simp [cellAt, hi', hj])
      refine ⟨_, u, ?_, hr, h1⟩
      rw [add_none hb1, ← hu]
      congr 2
      rw [Nat.mul_comm, Nat.div_add_mod]
    refine ⟨(List.range (m * z')).map fun k => (w.cell? (b.add k)).getD undef, rfl,
      run_firstCells_some w _ _ _ _ c _ (by simp) (getD_cell_all fun k hk => let ⟨_, u, hu, _⟩ := hcell k hk; ⟨u, hu⟩), by simp, fun u hu => ?_, fun i j e him he => ?_⟩
    · obtain ⟨k, hk, rfl⟩ := List.mem_map.1 hu
      obtain ⟨e, u, hu, hr⟩ := hcell k (by simpa using hk)
      rw [hu]
      exact hr.1.oneCell
    · obtain ⟨u, hu, h1, hr⟩ := hc i j e he
      have hlt : i * z' + j < m * z' := by
        unfold cellAt at he
        cases hes : es[i]? with
        | none => simp [hes] at he
        | some row =>
          simp [hes] at he
          have hj := (List.getElem?_eq_some_iff.1 he).1
          rw [hzz i row hes] at hj
          have : (i + 1) * z' ≤ m * z' := Nat.mul_le_mul_right _ him
          rw [Nat.add_mul] at this; omega
      refine ⟨u, ?_, hr, h1⟩
      rw [List.getElem?_map, List.getElem?_range hlt]
      simp [add_none hb1, hu]

theorem q_copy_run {xs : Array Operand} {t u : TypeId} {s x : Operand} {v : Value} {w' : World} (ho : o.op = .call { callee := .builtin .copy, args := xs, argTypes := #[t, u] }) (hxs : xs = #[s, x])
    (h : (Builtin.copy_ #[t, u] o.type #[a.eval s, a.eval x]).run P w = .ok v w') : (execOp a.eval o).run P w = .ok (.value v) w' := by
  subst hxs
  simp [execOp, ho, resolve, invoke, builtin, h]

theorem x_copy [Inhabited Env] {xs : Array Operand} {t u e : TypeId} {s x : Operand} {i : TypeInfo} {h off len : Nat} {ob : DObj} {es : List (List DV)} {news : List Value} (hs : SimH K F σ hp w) (ho : o.op = .call { callee := .builtin .copy, args := xs, argTypes := #[t, u] }) (hxs : xs = #[s, x])
    (ht : P.underlying t = some (.slice e)) (hi : P.info? e = some i)
    (hlen : (Builtin.lenOf (a.eval x)).run P w = .ok es.length w) (hcells : (Builtin.firstCells i.size (min es.length len) (a.eval x)).run P w = .ok news.toArray w) (hnl : news.length = min es.length len * i.size) (one : ∀ u ∈ news, u.oneCell' = true)
    (hrows : ∀ (k : Nat) (r : List DV), es[k]? = some r → r.length = i.size) (hc : ∀ k j r, k < min es.length len → cellAt es k j = some r → ∃ x, news[k * i.size + j]? = some x ∧ IOne F w r x)
    (hob : hp[h]? = some ob) (hk : ob.k = .imm) (hbz : ob.z = i.size) (hsv : VRep F σ hp w (.own h ob.es.length off len) (a.eval s)) (hin : off + len ≤ ob.es.length) :
    ∃ v w', (execOp a.eval o).run P w = .ok (.value v) w' ∧ Gives K F σ hp w (.int .i64 (min es.length len : Nat)) (hp.set h ⟨.imm, ob.z, ob.es.take off ++ es.take len ++ ob.es.drop (off + min es.length len)⟩) v w' := by
  have hl := lt_of_some hob
  have hkd : ob.k ≠ .dead := by rw [hk]; simp
  have hold := hs.obj h ob hob
  unfold ORep at hold
  rw [hk] at hold; dsimp only at hold
  obtain ⟨A, cap, hv, hle, hA⟩ := (hsv.own_inv.2 ob hob).2 hkd rfl
  have hmin : Nat.min es.length len = min es.length len := rfl
  by_cases hn0 : min es.length len = 0
  · -- nothing comes
    have hnews : news = [] := List.eq_nil_of_length_eq_zero (by rw [hnl, hn0, Nat.zero_mul])
    have hrun : (Builtin.copy_ #[t, u] o.type #[a.eval s, a.eval x]).run P w = .ok (goInt ((min es.length len : Nat) : Int)) w := by
      rw [hv]
      cases A <;> simp [Builtin.copy_, run_underlying ht, sizeOf, typeInfo, hi, hlen, hmin, hcells, hnews, storeCells]
    have hsame : ob.es.take off ++ es.take len ++ ob.es.drop (off + min es.length len) = ob.es := by
      have : es.take len = [] := by
        rcases Nat.eq_zero_or_pos len with h0 | h0
        · simp [h0]
        · have : es = [] := List.eq_nil_of_length_eq_zero (by omega)
          simp [this]
      rw [this, hn0, List.append_nil, Nat.add_zero, List.take_append_drop]
    refine ⟨_, _, q_copy_run ho hxs hrun, ?_⟩
    rw [hsame, ← hk]
    have : hp.set h { k := ob.k, z := ob.z, es := ob.es } = hp := by
      refine List.ext_getElem? fun k => ?_
      rw [List.getElem?_set]
      split
      · rename_i e; subst e; rw [hob]
      · rfl
    rw [this]
    exact Gives.same hs (.imm (.int _ _))
  · rcases hA with hc0 | ⟨g, hg, rfl, hcap⟩
    · omega
    rcases hold with ⟨_, h0⟩ | ⟨g', hg', nF, nK, c, ty, hh, hcz, hzz, hcc⟩
    · rw [hg] at h0; cases h0
    rw [hg] at hg'; injection hg' with hg'; subst hg'
    have hfit : off * i.size + news.length ≤ c.size := by
      rw [hnl, ← Nat.add_mul, ← hbz]
      refine Nat.le_trans (Nat.mul_le_mul_right _ ?_) hcz
      omega
    have hst := run_storeCells_at P g (off * i.size) ty news 0 c w hh (by simpa using hfit) one
    simp only [Nat.add_zero] at hst
    have hrun : (Builtin.copy_ #[t, u] o.type #[a.eval s, a.eval x]).run P w = .ok (goInt ((min es.length len : Nat) : Int)) (w.setRow g (c.toList.take (off * i.size) ++ news ++ c.toList.drop (off * i.size + news.length)).toArray) := by
      rw [hv, hbz]
      simp [Builtin.copy_, run_underlying ht, sizeOf, typeInfo, hi, hlen, hmin, hcells, hst]
    refine ⟨_, _, q_copy_run ho hxs hrun, ?_⟩
    have hat := splice_at (cur := c) (n := off * i.size) (vs := news) hfit
    have hget := setRow_heap w g c (c.toList.take (off * i.size) ++ news ++ c.toList.drop (off * i.size + news.length)).toArray ty (0, 0) hh
    have hcs : (c.toList.take (off * i.size) ++ news ++ c.toList.drop (off * i.size + news.length)).toArray.size = c.size := by simp at hfit ⊢; omega
    generalize (c.toList.take (off * i.size) ++ news ++ c.toList.drop (off * i.size + news.length)).toArray = c' at *
    have hL : (ob.es.take off ++ es.take len ++ ob.es.drop (off + min es.length len)).length = ob.es.length := by
      simp only [List.length_append, List.length_take, List.length_drop]; omega
    generalize hE : ob.es.take off ++ es.take len ++ ob.es.drop (off + min es.length len) = E at *
    have hEat : ∀ k : Nat, E[k]? = if k < off then ob.es[k]? else if k < off + min es.length len then es[k - off]? else ob.es[k]? := by
      intro k
      rw [← hE]
      have l1 : (ob.es.take off).length = off := by simp; omega
      have l2 : (es.take len).length = min es.length len := by simp; omega
      by_cases a1 : k < off
      · rw [if_pos a1, List.append_assoc, List.getElem?_append_left (by omega), List.getElem?_take, if_pos a1]
      · rw [if_neg a1]
        by_cases a2 : k < off + min es.length len
        · rw [if_pos a2, List.append_assoc, List.getElem?_append_right (by omega), l1, List.getElem?_append_left (by omega), List.getElem?_take, if_pos (by omega)]
        · rw [if_neg a2, List.getElem?_append_right (by rw [List.length_append]; omega), List.length_append, l1, l2, List.getElem?_drop]
          congr 1; omega
    have cg : Chg K F σ hp w h ⟨.imm, ob.z, E⟩ F σ (hp.set h ⟨.imm, ob.z, E⟩) (w.setRow g c') :=
      { os := rfl, tape := rfl, output := rfl, size := by simp, hF := fun _ h => h, newF := fun _ h => .inl h, ltF := fun b hb => by simpa using hs.fb b hb
        heap := fun b hb hne => setRow_other _ _ _ _ (fun e => hne ob hob (.inl hk) (by rw [hg, e])), hps := .inl ⟨hl, rfl⟩
        sig := fun h' hne => rfl, newg := fun g hg => .inl ⟨hg, ob, hob, .inl hk⟩
        grow := fun oh hoh => by
          rw [hob] at hoh; injection hoh with e; subst e
          refine ⟨.inl (.inl hk), by dsimp only; omega, fun _ _ => ⟨rfl, rfl, fun g1 hg1 => ?_⟩⟩
          rw [hg] at hg1; injection hg1 with hg1; subst hg1
          unfold bsz; rw [hget, hh]; exact hcs }
    have hm := cg.hm hs
    refine ⟨F, σ, cg.sim hs ?_, cg.moves hs, hm, .imm (.int _ _)⟩
    unfold ORep; dsimp only
    refine .inr ⟨g, hg, nF, nK, c', ty, hget, by rw [hcs, hL]; exact hcz, fun k r hr => ?_, fun k j d hd => ?_⟩
    · rw [hEat] at hr
      split at hr
      · exact hzz k r hr
      · split at hr
        · rw [hbz]; exact hrows _ r hr
        · exact hzz k r hr
    · obtain ⟨row, h1, h2⟩ := (by unfold cellAt at hd; cases hq : E[k]? with
        | none => simp [hq] at hd
        | some row => exact ⟨row, rfl, by simpa [hq] using hd⟩ : ∃ row, E[k]? = some row ∧ row[j]? = some d)
      have hj : j < ob.z := by
        have hrl : row.length = ob.z := by
          rw [hEat] at h1
          split at h1
          · exact hzz k row h1
          · split at h1
            · rw [hbz]; exact hrows _ row h1
            · exact hzz k row h1
        have := (List.getElem?_eq_some_iff.1 h2).1
        omega
      rw [hEat] at h1
      by_cases a1 : k < off
      · rw [if_pos a1] at h1
        obtain ⟨u, hu, hr⟩ := hcc k j d (by simp [cellAt, h1, h2])
        refine ⟨u, ?_, hr.1.mono hm.mono hm.keepF, hr.2⟩
        rw [hat, if_neg]
        · exact hu
        · intro hh2
          have : (k + 1) * ob.z ≤ off * ob.z := Nat.mul_le_mul_right _ a1
          rw [Nat.add_mul, hbz] at this
          rw [hbz] at hh2 hj
          omega
      · rw [if_neg a1] at h1
        by_cases a2 : k < off + min es.length len
        · rw [if_pos a2] at h1
          obtain ⟨u, hu, hr⟩ := hc (k - off) j d (by omega) (by simp [cellAt, h1, h2])
          refine ⟨u, ?_, hr.1.mono hm.mono hm.keepF, hr.2⟩
          have ek : k * i.size = off * i.size + (k - off) * i.size := by rw [← Nat.add_mul]; congr 1; omega
          have hlt : (k - off) * i.size + j < news.length := (List.getElem?_eq_some_iff.1 hu).1
          rw [hat, if_pos (by rw [hbz]; omega), ← hu]
          congr 1
          rw [hbz]; omega
        · rw [if_neg a2] at h1
          obtain ⟨u, hu, hr⟩ := hcc k j d (by simp [cellAt, h1, h2])
          refine ⟨u, ?_, hr.1.mono hm.mono hm.keepF, hr.2⟩
          rw [hat, if_neg]
          · exact hu
          · intro hh2
            have : (off + min es.length len) * i.size ≤ k * i.size := Nat.mul_le_mul_right _ (by omega)
            rw [Nat.add_mul, ← hnl] at this
            rw [hbz] at hh2
            omega

/-- An own slice moves to a new place, short of what stands behind. -/
theorem x_home [Inhabited Env] {x : Operand} {h len : Nat} {ob : DObj} (hs : SimH K F σ hp w) (ho : o.op = .move x ∨ o.op = .assign x) (hob : hp[h]? = some ob) (hk : ob.k = .imm) (hl : len ≤ ob.es.length) (hv : VRep F σ hp w (.own h ob.es.length 0 len) (a.eval x)) :
    ∃ v w', (execOp a.eval o).run P w = .ok (.value v) w' ∧ Gives K F σ hp w (.own hp.length len 0 len) (hp.set h ⟨.dead, ob.z, ob.es⟩ ++ [⟨.imm, ob.z, ob.es.take len⟩]) v w' := by
  have hlt := lt_of_some hob
  have hkd : ob.k ≠ .dead := by rw [hk]; simp
  have hnew : ∀ k : Nat, (hp.set h (⟨.dead, ob.z, ob.es⟩ : DObj) ++ [(⟨.imm, ob.z, ob.es.take len⟩ : DObj)])[k]? = if k = hp.length then some ⟨.imm, ob.z, ob.es.take len⟩ else if k = h then some ⟨.dead, ob.z, ob.es⟩ else hp[k]? := by
    intro k
    by_cases h1 : k = hp.length
    · subst h1; rw [if_pos rfl, List.getElem?_append_right (by simp)]; simp
    · rw [if_neg h1]
      by_cases h2 : k = h
      · subst h2; rw [if_pos rfl, List.getElem?_append_left (by simpa using hlt)]; simp [hlt]
      · rw [if_neg h2]
        rcases Nat.lt_or_ge k hp.length with h3 | h3
        · rw [List.getElem?_append_left (by simpa using h3), List.getElem?_set_ne (Ne.symm h2)]
        · rw [List.getElem?_eq_none h3, List.getElem?_eq_none (by simp; omega)]
  generalize hgen : (hp.set h (⟨.dead, ob.z, ob.es⟩ : DObj) ++ [(⟨.imm, ob.z, ob.es.take len⟩ : DObj)]) = hp2 at *
  have hl2 : hp2.length = hp.length + 1 := by rw [← hgen]; simp
  obtain ⟨σ2, sg1, sg2⟩ : ∃ σ2 : Nat → Option Nat, σ2 hp.length = σ h ∧ ∀ k, k ≠ hp.length → σ2 k = σ k := ⟨fun x => if x = hp.length then σ h else σ x, if_pos rfl, fun k hk => if_neg hk⟩
  have hm : HM F σ hp w F σ2 hp2 w := by
    refine ⟨fun _ h => h, fun _ _ => rfl, by omega, fun k o' ho' => ?_⟩
    have hkl := lt_of_some ho'
    rw [hnew, if_neg (by omega)]
    by_cases h2 : k = h
    · subst h2
      rw [hob] at ho'; injection ho' with ho'; subst ho'
      rw [if_pos rfl]
      exact ⟨_, rfl, Nat.le_refl _, fun hd => absurd rfl hd⟩
    · rw [if_neg h2]
      exact ⟨o', ho', Nat.le_refl _, fun hd _ => ⟨hd, rfl, sg2 k (by omega), fun _ _ => rfl⟩⟩
  have hold := hs.obj h ob hob
  unfold ORep at hold
  rw [hk] at hold; dsimp only at hold
  refine ⟨a.eval x, w, by rcases ho with ho | ho <;> simp only [execOp, ho] <;> rfl, F, σ2, ⟨fun k o' ho' => ?_, fun k1 k2 o1 o2 g e1 m1 e2 m2 s1 s2 => ?_, hs.fb, hs.kb, hs.tab⟩, .refl _ _ _, hm, ?_⟩
  · rw [hnew] at ho'
    by_cases h1 : k = hp.length
    · subst h1
      rw [if_pos rfl] at ho'; injection ho' with ho'; subst ho'
      unfold ORep; dsimp only
      rcases hold with ⟨h0, h1⟩ | ⟨g, hg, nF, nK, c, ty, hh, hcz, hzz, hcc⟩
      · exact .inl ⟨by rw [h0]; simp, sg1.trans h1⟩
      · refine .inr ⟨g, sg1.trans hg, nF, nK, c, ty, hh, ?_, fun i e he => ?_, fun i j d hd => ?_⟩
        · exact Nat.le_trans (Nat.mul_le_mul_right _ (by simp; omega)) hcz
        · rw [List.getElem?_take] at he; split at he
          · exact hzz i e he
          · cases he
        · have : cellAt ob.es i j = some d := by
            unfold cellAt at hd ⊢
            rw [List.getElem?_take] at hd; split at hd
            · exact hd
            · cases hd
          exact hcc i j d this
    · rw [if_neg h1] at ho'
      by_cases h2 : k = h
      · rw [if_pos h2] at ho'; injection ho' with ho'; subst ho'; exact trivial
      · rw [if_neg h2] at ho'
        have old := hs.obj k o' ho'
        unfold ORep at old ⊢
        split
        · trivial
        · rename_i hkk
          rw [hkk] at old; dsimp only at old
          rw [sg2 k h1]; exact old
        · rename_i hkk
          rw [hkk] at old; dsimp only at old
          rw [sg2 k h1]; exact old
        · rename_i hkk
          rw [hkk] at old; dsimp only at old
          obtain ⟨g, hg, q1, q2, hb⟩ := old
          rw [sg2 k h1]
          exact ⟨g, hg, q1, q2, hb.mono rfl fun d v h => h.mono hm⟩
  · rw [hnew] at e1 e2
    have key : ∀ {k : Nat} {o' : DObj}, (if k = hp.length then some (⟨.imm, ob.z, ob.es.take len⟩ : DObj) else if k = h then some ⟨.dead, ob.z, ob.es⟩ else hp[k]?) = some o' → o'.k.mut → (k = hp.length ∨ (k ≠ h ∧ k ≠ hp.length ∧ hp[k]? = some o')) := by
      intro k o' he hmu
      by_cases h1 : k = hp.length
      · exact .inl h1
      · rw [if_neg h1] at he
        by_cases h2 : k = h
        · rw [if_pos h2] at he; injection he with he; subst he; rcases hmu with e | e <;> cases e
        · rw [if_neg h2] at he; exact .inr ⟨h2, h1, he⟩
    rcases key e1 m1 with r1 | ⟨r1, r1', r1''⟩ <;> rcases key e2 m2 with r2 | ⟨r2, r2', r2''⟩
    · rw [r1, r2]
    · exfalso
      rw [r1, sg1] at s1
      rw [sg2 _ r2'] at s2
      exact r2 (hs.inj _ _ _ _ _ r2'' m2 hob (.inl hk) s2 s1)
    · exfalso
      rw [r2, sg1] at s2
      rw [sg2 _ r1'] at s1
      exact r1 (hs.inj _ _ _ _ _ r1'' m1 hob (.inl hk) s1 s2)
    · rw [sg2 _ r1'] at s1
      rw [sg2 _ r2'] at s2
      exact hs.inj _ _ _ _ _ r1'' m1 r2'' m2 s1 s2
  · obtain ⟨A, cap, e1, hle, hA⟩ := (hv.own_inv.2 ob hob).2 hkd rfl
    refine .own _ _ _ _ _ (by rw [e1]; rfl) (by omega) fun o' ho' => ?_
    rw [hnew, if_pos rfl] at ho'; injection ho' with ho'; subst ho'
    refine ⟨by simp; omega, fun _ _ => ⟨A, cap, e1, hle, ?_⟩⟩
    rcases hA with hA | ⟨g, hg, q1, q2⟩
    · exact .inl hA
    · exact .inr ⟨g, sg1.trans hg, q1, q2⟩
end
end Go.Nk
