/- Slices that are built or made; bytes of a text; nil that is to grow. -/
import Derived.Test.YtjgefhgkinocmaaGreatNkI
set_option linter.all false
namespace Go.Nk
open Go.RowKit

section
variable {P : Program} {K F F' : Nat → Prop} {σ σ' : Nat → Option Nat} {hp hp' : List DObj} {w w' : World} {fr : List (Nat × DV)} {a : Act} {o : Oper}

/-- Cells that are rows, z each. -/
def Rows (R : DV → Value → Prop) (z : Nat) (es : List (List DV)) (c : Array Value) : Prop :=
  c.size = es.length * z ∧ (∀ (i : Nat) (e : List DV), es[i]? = some e → e.length = z) ∧ ∀ i j d, cellAt es i j = some d → ∃ u, c[i * z + j]? = some u ∧ R d u

theorem Rows.imp {R R' : DV → Value → Prop} {z : Nat} {es : List (List DV)} {c : Array Value} (h : Rows R z es c) (hR : ∀ d v, R d v → R' d v) : Rows R' z es c :=
  ⟨h.1, h.2.1, fun i j d hd => let ⟨u, hu, hr⟩ := h.2.2 i j d hd; ⟨u, hu, hR _ _ hr⟩⟩

theorem rows_of : ∀ {es : List (List DV)} {c : List Value} {R : DV → Value → Prop} {z : Nat}, c.length = es.length * z → (∀ (i : Nat) (e : List DV), es[i]? = some e → e.length = z) →
    (∀ i j d, cellAt es i j = some d → ∃ u, c[i * z + j]? = some u ∧ R d u) → ∃ vs, AllR R es vs ∧ vs.flatten = c
  | [], c, R, z, hl, _, _ => ⟨[], trivial, by simp at hl; subst hl; rfl⟩
  | e :: es, c, R, z, hl, hz, h => by
    have he := hz 0 e rfl
    have hlen : z ≤ c.length := by rw [hl, List.length_cons, Nat.add_mul]; omega
    obtain ⟨vs, h1, h2⟩ := rows_of (es := es) (c := c.drop z) (R := R) (z := z) (by rw [List.length_drop, hl, List.length_cons, Nat.add_mul]; omega) (fun i e' he' => hz (i + 1) e' (by simpa using he'))
      (fun i j d hd => by
        obtain ⟨u, hu, hr⟩ := h (i + 1) j d (by simpa [cellAt] using hd)
        refine ⟨u, ?_, hr⟩
        rw [List.getElem?_drop, ← hu]
        congr 1
        rw [Nat.add_mul]; omega)
    refine ⟨c.take z :: vs, ⟨⟨by simp [he]; omega, fun j d hd => ?_⟩, h1⟩, by simp [h2]⟩
    obtain ⟨u, hu, hr⟩ := h 0 j d (by simpa [cellAt] using hd)
    refine ⟨u, ?_, hr⟩
    have : j < z := by rw [← he]; exact (List.getElem?_eq_some_iff.1 hd).1
    rw [List.getElem?_take, if_pos this]
    simpa using hu

theorem idx_ne {z i i' j : Nat} (hj : j < z) (h : i ≠ i') : ¬ (i * z ≤ i' * z + j ∧ i' * z + j < i * z + z) := by
  rintro ⟨h1, h2⟩
  rcases Nat.lt_or_gt_of_ne h with h | h
  · have : (i + 1) * z ≤ i' * z := Nat.mul_le_mul_right _ h
    rw [Nat.add_mul] at this; omega
  · have : (i' + 1) * z ≤ i * z := Nat.mul_le_mul_right _ h
    rw [Nat.add_mul] at this; omega

theorem fill_slice (hf : FRep F σ hp w fr a.tmps) (z : Nat) (zero : List DV) (hz : zero.length = z) : ∀ (parts : List (Option DA)) (i : Nat) (ps : List (Nat × Operand)) (pre : List (List DV)) (c : Array Value),
    mParts i ps parts = true → pre.length = i → Rows (VRep F σ hp w) z (pre ++ List.replicate parts.length zero) c →
    (parts.all (bU fr zero)) = true →
    ∃ c', Instr.fill (fun i => some (i * z, z)) c (ps.map fun (i, x) => (i, a.eval x)) = some c' ∧
      Rows (VRep F σ hp w) z (pre ++ parts.map (bRow fr zero)) c'
  | [], i, ps, pre, c, hm, hpre, h, _ => by
    cases ps with
    | nil => exact ⟨c, rfl, by simpa using h⟩
    | cons p ps => simp [mParts] at hm
  | none :: parts, i, ps, pre, c, hm, hpre, h, hu => by
    obtain ⟨c', e1, e2⟩ := fill_slice hf z zero hz parts (i + 1) ps (pre ++ [zero]) c (by simpa [mParts] using hm) (by simp [hpre]) (by simpa [List.replicate_succ, List.append_assoc] using h) (by simpa [bU] using hu)
    exact ⟨c', e1, by simpa [List.append_assoc, bRow] using e2⟩
  | some y :: parts, i, ps, pre, c, hm, hpre, h, hu => by
    cases ps with
    | nil => simp [mParts] at hm
    | cons p ps =>
      obtain ⟨k, x⟩ := p
      simp only [mParts, Bool.and_eq_true, beq_iff_eq] at hm
      obtain ⟨⟨rfl, hx⟩, hm⟩ := hm
      simp only [List.all_cons, bU, Bool.and_eq_true, Bool.not_eq_true', beq_iff_eq] at hu
      obtain ⟨⟨hu1, hu2⟩, hu3⟩ := hu
      have hc := cells_rep' (mArg_rep hf hx) (isU_ne hu1)
      have hsz : (a.eval x).cells.size = z := by rw [← hz, ← hu2, hc.1]; simp
      obtain ⟨f1, f2⟩ := fold_cells (k * z) (a.eval x).cells c
      simp only [List.length_cons] at h
      have hcs := h.1
      simp only [List.length_append, List.length_replicate, hpre] at hcs
      have hkz : k * z + z ≤ c.size := by
        rw [hcs, show k + (parts.length + 1) = (k + 1) + parts.length by omega, Nat.add_mul, Nat.add_mul]; omega
      obtain ⟨c', e1, e2⟩ := fill_slice hf z zero hz parts (k + 1) ps (pre ++ [cellsOf (y.ev fr)]) (putCells (k * z) (a.eval x).cells c) hm (by simp [hpre])
        ⟨by rw [f1, hcs]; simp [hpre], fun i e he => by
          by_cases hik : i = k
          · subst hik
            rw [List.append_assoc, List.getElem?_append_right (by omega), hpre] at he
            simp at he; subst he; omega
          · refine h.2.1 i e ?_
            rcases Nat.lt_or_ge i k with hlt | hge
            · rw [List.append_assoc, List.getElem?_append_left (by omega)] at he
              rw [List.getElem?_append_left (by omega)]; exact he
            · rw [List.append_assoc, List.getElem?_append_right (by omega), List.getElem?_append_right (by simp; omega)] at he
              rw [List.getElem?_append_right (by omega), List.replicate_succ, List.getElem?_cons]
              rw [if_neg (by omega)]
              simpa [Nat.sub_sub] using he, fun i j d hd => by
          by_cases hik : i = k
          · subst hik
            have hd' : (cellsOf (y.ev fr))[j]? = some d := by
              unfold cellAt at hd
              rw [List.append_assoc, List.getElem?_append_right (by omega), hpre] at hd
              simpa using hd
            obtain ⟨u, hu, hr⟩ := hc.2 _ _ hd'
            have hjz : j < z := by
              have := (List.getElem?_eq_some_iff.1 hd').1
              omega
            refine ⟨u, ?_, hr⟩
            rw [f2, if_pos (by omega)]
            simpa using hu
          · have hd' : cellAt (pre ++ List.replicate (parts.length + 1) zero) i j = some d := by
              unfold cellAt at hd ⊢
              rcases Nat.lt_or_ge i k with hlt | hge
              · rw [List.append_assoc, List.getElem?_append_left (by omega)] at hd
                rw [List.getElem?_append_left (by omega)]; exact hd
              · rw [List.append_assoc, List.getElem?_append_right (by omega), List.getElem?_append_right (by simp; omega)] at hd
                rw [List.getElem?_append_right (by omega), List.replicate_succ, List.getElem?_cons]
                rw [if_neg (by omega)]
                simpa [Nat.sub_sub] using hd
            obtain ⟨u, hu, hr⟩ := h.2.2 _ _ _ hd'
            have hjz : j < z := by
              unfold cellAt at hd'
              cases he : (pre ++ List.replicate (parts.length + 1) zero)[i]? with
              | none => simp [he] at hd'
              | some e =>
                simp [he] at hd'
                rw [← h.2.1 i e he]
                exact (List.getElem?_eq_some_iff.1 hd').1
            refine ⟨u, ?_, hr⟩
            rw [f2, if_neg (by rw [hsz]; intro h3; exact idx_ne hjz (Ne.symm hik) ⟨h3.1, h3.2.1⟩)]
            exact hu⟩ hu3
      refine ⟨c', ?_, by simpa [List.append_assoc, bRow] using e2⟩
      simp only [List.map_cons, Instr.fill]
      rw [if_neg]
      · exact e1
      · simp [hsz]; omega

theorem zeroOk_of {e : TypeId} {zero : List DV} (h : zeroOk P e zero = true) :
    ∃ i z, P.info? e = some i ∧ i.zero = some z ∧ cMatchL z.cells.toList zero = true ∧ i.size = zero.length ∧ 0 < i.size ∧ i.bytes ≤ 32768 ∧ z.cells.size = zero.length ∧ lenCap zero * i.bytes ≤ 281474976710656 := by
  unfold zeroOk at h
  split at h
  · rename_i i hi
    split at h
    · rename_i z hz
      simp only [Bool.and_eq_true, beq_iff_eq, decide_eq_true_eq] at h
      obtain ⟨⟨⟨⟨h1, h2⟩, h3⟩, h4⟩, h5⟩ := h
      exact ⟨i, z, hi, hz, h1, h2, h3, h4, by have := (cMatchL_imm (F := fun _ => False) (w := default) h1).1; simpa using this.symm, h5⟩
    · cases h
  · cases h

theorem zero_rows {z : Value} {zero : List DV} (hm : cMatchL z.cells.toList zero = true) (hsz : z.cells.size = zero.length) (n : Nat) :
    Rows (IOne F w) zero.length (List.replicate n zero) ((Array.range (n * zero.length)).map (z.cells[· % z.cells.size]!)) := by
  refine ⟨by simp, fun i e he => ?_, fun i j d hd => ?_⟩
  · rw [List.getElem?_replicate] at he
    split at he
    · injection he with he; rw [← he]
    · cases he
  · unfold cellAt at hd
    rw [List.getElem?_replicate] at hd
    split at hd
    · rename_i hi
      simp at hd
      obtain ⟨u, hu, hr⟩ := (cMatchL_all (F := F) (w := w) hm).2 j d hd
      have hj : j < zero.length := (List.getElem?_eq_some_iff.1 hd).1
      refine ⟨u, ?_, hr⟩
      have hlt : i * zero.length + j < n * zero.length := by
        have : (i + 1) * zero.length ≤ n * zero.length := Nat.mul_le_mul_right _ hi
        rw [Nat.add_mul] at this; omega
      have hmod : (i * zero.length + j) % z.cells.size = j := by
        rw [hsz, Nat.mul_comm, Nat.mul_add_mod, Nat.mod_eq_of_lt hj]
      rw [Array.getElem?_map, Array.getElem?_range, if_pos hlt]
      simp only [Option.map_some, hmod]
      rw [getElem!_def]
      simp at hu
      rw [hu]
    · simp at hd

/-- A new block of immutable content: for good. -/
theorem g_new_imm [Inhabited Env] (hs : SimH K F σ hp w) {es : List (List DV)} {z cap : Nat} {c : Array Value} {t : TypeId} {mk : Nat × Nat} {w' : World} (os : w'.os = w.os) (tape : w'.tape = w.tape) (output : w'.output = w.output)
    (size : w'.heap.size = w.heap.size + 1) (heap : ∀ b, b < w.heap.size → w'.heap[b]? = w.heap[b]?) (hg : w'.heap[w.heap.size]? = some (.cells c t mk)) (hz : ∀ (i : Nat) (e : List DV), es[i]? = some e → e.length = z)
    (hc : ∀ i j d, cellAt es i j = some d → ∃ u, c[i * z + j]? = some u ∧ IOne F w d u) (hcap : es.length ≤ cap) :
    Gives K F σ hp w (.sl es) hp (.slice (some ⟨w.heap.size, 0, none⟩) es.length cap) w' := by
  obtain ⟨h1, h2, h3⟩ := hs.ext (w' := w') (F' := fun b => F b ∨ b = w.heap.size) os tape output (by omega) heap (fun b h => .inl h) (fun b h => h.imp id fun e => by omega) (fun b h => h.elim (fun h => by have := hs.fb b h; omega) fun e => by omega)
  refine ⟨_, σ, h1, h2, h3, .imm (IRep.sl_mk hcap hz fun _ => ⟨_, rfl, rfl, .inr rfl, fun i j d hd => ?_⟩)⟩
  obtain ⟨u, hu, hr, h1'⟩ := hc i j d hd
  exact ⟨u, by rw [cell_blk hg]; simpa using hu, h1', hr.mono h3.mono h3.keepF⟩

theorem x_bref [Inhabited Env] {t : TypeId} {x : Operand} {x' : DA} (hs : SimH K F σ hp w) (ho : o.op = .box t x) (hf : FRep F σ hp w fr a.tmps) (hx : mArg x x' = true) (h0 : (cellsOf (x'.ev fr)).all DV.immB = true) :
    ∃ v w', (execOp a.eval o).run P w = .ok (.value v) w' ∧ Gives K F σ hp w (.ref (cellsOf (x'.ev fr))) hp v w' := by
  have h1 : ∀ d ∈ cellsOf (x'.ev fr), d.immB = true := by simpa using h0
  have hv := cells_rep (mArg_rep hf hx) (fun d hd => immB_one (h1 d hd))
  refine ⟨.pointer (some ⟨w.heap.size, 0, none⟩), w.alloc (.cells (a.eval x).cells t), by simp [execOp, ho, Instr.box, newVar, newRow], ?_⟩
  obtain ⟨k1, k2, k3⟩ := hs.ext (w' := w.alloc (.cells (a.eval x).cells t)) (F' := fun b => F b ∨ b = w.heap.size) rfl rfl rfl (by simp) (heap_alloc_lt _) (fun b h => .inl h) (fun b h => h.imp id fun e => by omega) (fun b h => h.elim (fun h => by have := hs.fb b h; simp; omega) fun e => by simp; omega)
  refine ⟨_, σ, k1, k2, k3, .imm (.ref _ _ (fun j => ((a.eval x).cells[j]?).getD undef) rfl (.inr rfl) (fun j d hd => ?_) (fun j d hd => ?_))⟩
  · obtain ⟨u, hu, hr⟩ := hv.2 j d hd
    have hu' : (a.eval x).cells[j]? = some u := by simpa using hu
    refine ⟨?_, immB_one (h1 d (List.mem_of_getElem? hd))⟩
    rw [cell_blk (heap_alloc_new w _)]
    simp [hu']
  · obtain ⟨u, hu, hr⟩ := hv.2 j d hd
    have hu' : (a.eval x).cells[j]? = some u := by simpa using hu
    rw [hu']
    exact (hr.imm_of (h1 d (List.mem_of_getElem? hd))).mono k3.mono k3.keepF

/-- A new block, an object of the call's own with immutable content. -/
theorem g_new_own [Inhabited Env] (hs : SimH K F σ hp w) {es : List (List DV)} {z cap : Nat} {c : Array Value} {t : TypeId} {w' : World} (os : w'.os = w.os) (tape : w'.tape = w.tape) (output : w'.output = w.output)
    (size : w'.heap.size = w.heap.size + 1) (heap : ∀ b, b < w.heap.size → w'.heap[b]? = w.heap[b]?) (hg : w'.heap[w.heap.size]? = some (.cells c t (0, 0))) (hz : ∀ (i : Nat) (e : List DV), es[i]? = some e → e.length = z)
    (hc : ∀ i j d, cellAt es i j = some d → ∃ u, c[i * z + j]? = some u ∧ IOne F w d u) (hcap : es.length ≤ cap) (hcz : cap * z ≤ c.size) :
    Gives K F σ hp w (.own hp.length es.length 0 es.length) (hp ++ [⟨.imm, z, es⟩]) (.slice (some ⟨w.heap.size, 0, none⟩) es.length cap) w' := by
  obtain ⟨h1, h2, h3⟩ := new_obj (w' := w') hs os tape output size heap ⟨.imm, z, es⟩ (.inl rfl) (fun hm => by
    simp only [reduceCtorEq, if_false]
    refine ⟨c, t, hg, Nat.le_trans (Nat.mul_le_mul_right _ hcap) hcz, hz, fun i j d hd => ?_⟩
    obtain ⟨u, hu, hr, h1'⟩ := hc i j d hd
    exact ⟨u, hu, hr.mono hm.mono hm.keepF, h1'⟩)
  refine ⟨F, _, h1, h2, h3, own_new rfl hcap ?_⟩
  unfold bsz; rw [hg]; exact hcz

theorem Gives.of_frzd [Inhabited Env] {F1 : Nat → Prop} {hp1 hp2 : List DObj} {w1 : World} {d : DV} {v : Value} (f : Frzd K F σ hp w F1 hp1) (h : Gives K F1 σ hp1 w d hp2 v w1) : Gives K F σ hp w d hp2 v w1 := by
  obtain ⟨F', σ', h1, h2, h3, h4⟩ := h
  exact ⟨F', σ', h1, f.2.1.trans h2, f.2.2.trans h3, h4⟩

theorem x_bslice [Inhabited Env] {t e : TypeId} {n : Nat} {ps : Array (Nat × Operand)} {imm : Bool} {zero : List DV} {parts : List (Option DA)} (hs : SimH K F σ hp w) (ho : o.op = .buildSlice t n ps) (ht : P.underlying t = some (.slice e)) (hze : zeroOk P e zero = true)
    (hn : n = parts.length) (hm : mParts 0 ps.toList parts = true) (hbig : n * zero.length ≤ 16777216) (hf : FRep F σ hp w fr a.tmps) (C : Orc)
    (h : (dval C (.bslice imm zero parts) ⟨fr, hp⟩).pre) :
    ∃ v w', (execOp a.eval o).run P w = .ok (.value v) w' ∧ Gives K F σ hp w (dval C (.bslice imm zero parts) ⟨fr, hp⟩).val (dval C (.bslice imm zero parts) ⟨fr, hp⟩).hp v w' := by
  obtain ⟨i, z, hi, hz, hmz, hsz, hpos, hby, hzs, hcp⟩ := zeroOk_of hze
  have hpos' : 0 < zero.length := by omega
  have hrows := zero_rows (F := F) (w := w) hmz hzs parts.length
  have hu : (parts.all (bU fr zero)) = true := by
    cases imm <;> exact h.1
  obtain ⟨c', e1, e2⟩ := fill_slice hf zero.length zero rfl parts 0 ps.toList [] _ hm rfl (by simpa using hrows.imp fun d v h => .imm h.1) hu
  simp only [List.nil_append] at e2
  have hl : (ps.map fun x => match x with | (i, x) => (i, a.eval x)).toList = ps.toList.map fun (i, x) => (i, a.eval x) := by simp
  have hrun : (execOp a.eval o).run P w = .ok (.value (.slice (some ⟨w.heap.size, 0, none⟩) n n)) (w.alloc (.cells c' e)) := by
    have hbig' : ¬ (n * zero.length > 2 ^ 24) := by omega
    have hps : List.map (fun x : Nat × Operand => (x.fst, a.eval x.snd)) ps.toList = ps.toList.map fun (i, x) => (i, a.eval x) := rfl
    by_cases h0 : n * zero.length = 0
    · have hfill : Instr.fill (fun i => some (i * zero.length, zero.length)) ((Array.range (n * zero.length)).map ((#[] : Array Value)[· % (#[] : Array Value).size]!)) (ps.toList.map fun (i, x) => (i, a.eval x)) = some c' := by
        have e0 : ∀ f : Nat → Value, Array.map f (Array.range 0) = #[] := fun f => by apply Array.ext'; simp
        rw [← e1, ← hn, h0, e0, e0]
      simp only [execOp, ho, Instr.buildSlice, Sem.run_bind, run_under ht, Result.andThen_ok, sizeOf, typeInfo, run_program, hi, hsz, hbig', if_false, Sem.run_pure, if_pos h0, hl, hps, hfill, newRow, run_newObj]
      rfl
    · have hfill : Instr.fill (fun i => some (i * zero.length, zero.length)) ((Array.range (n * zero.length)).map (z.cells[· % z.cells.size]!)) (ps.toList.map fun (i, x) => (i, a.eval x)) = some c' := by
        rw [← e1, ← hn]
      have hzv : (zeroValue e).run P w = .ok z w := by simp [zeroValue, typeInfo, hi, hz]
      simp only [execOp, ho, Instr.buildSlice, Sem.run_bind, run_under ht, Result.andThen_ok, sizeOf, typeInfo, run_program, hi, hsz, hbig', if_false, Sem.run_pure, if_neg h0, hzv, hl, hps, hfill, newRow, run_newObj]
      rfl
  refine ⟨_, _, hrun, ?_⟩
  have hrw : ∃ vs, AllR (VRep F σ hp w) (parts.map (bRow fr zero)) vs ∧ vs.flatten = c'.toList :=
    rows_of (by simpa using e2.1) e2.2.1 (fun i j d hd => by obtain ⟨u, hu, hr⟩ := e2.2.2 i j d hd; exact ⟨u, by simpa using hu, hr⟩)
  obtain ⟨vs, hall, hvs⟩ := hrw
  have hpre : (fzLL hp (parts.map (bRow fr zero))).pre ∧ ∀ e ∈ (fzLL hp (parts.map (bRow fr zero))).vals, e.length = zero.length := by
    cases imm <;> exact h.2
  obtain ⟨F1, f1, r1⟩ := fzLL_rep hs hall hpre.1
  obtain ⟨g1, g2⟩ := getElem?_flat r1 hpre.2
  have hlen : (fzLL hp (parts.map (bRow fr zero))).vals.length = n := by
    have h1 : (fzLL hp (parts.map (bRow fr zero))).vals.length * zero.length = parts.length * zero.length := by
      rw [← g1, hvs]; simpa using e2.1
    rw [hn]
    exact Nat.eq_of_mul_eq_mul_right hpos' h1
  rw [hvs] at g1 g2
  refine Gives.of_frzd f1 ?_
  have hzz : ∀ (i : Nat) (e : List DV), (fzLL hp (parts.map (bRow fr zero))).vals[i]? = some e → e.length = zero.length := fun i e he => hpre.2 e (List.mem_of_getElem? he)
  have hcc : ∀ i j d, cellAt (fzLL hp (parts.map (bRow fr zero))).vals i j = some d → ∃ u, c'[i * zero.length + j]? = some u ∧ IOne F1 w d u := fun i j d hd => by
    obtain ⟨u, hu, hr⟩ := g2 i j d hd
    exact ⟨u, by simpa using hu, hr⟩
  have hsize : n * zero.length ≤ c'.size := by rw [e2.1]; simp [hn]
  have ev : Value.slice (some ⟨w.heap.size, 0, none⟩) n n = .slice (some ⟨w.heap.size, 0, none⟩) (fzLL hp (parts.map (bRow fr zero))).vals.length n := by rw [hlen]
  rw [ev]
  cases imm
  · exact g_new_own f1.1 (w' := w.alloc (.cells c' e)) (cap := n) rfl rfl rfl (by simp) (heap_alloc_lt _) (heap_alloc_new w _) hzz hcc (Nat.le_of_eq hlen) hsize
  · exact g_new_imm f1.1 (w' := w.alloc (.cells c' e)) (cap := n) (t := e) rfl rfl rfl (by simp) (heap_alloc_lt _) (heap_alloc_new w _) hzz hcc (Nat.le_of_eq hlen)

theorem x_make [Inhabited Env] {t e : TypeId} {x y : Operand} {zero : List DV} {k k' : IntKind} {m n : Int} (hs : SimH K F σ hp w) (ho : o.op = .makeSlice t x y) (ht : P.underlying t = some (.slice e)) (hze : zeroOk P e zero = true)
    (hx : a.eval x = .int k m) (hy : a.eval y = .int k' n) (h0 : 0 ≤ m) (h1 : m ≤ n) (h2 : n ≤ lenCap zero) :
    ∃ v w', (execOp a.eval o).run P w = .ok (.value v) w' ∧ Gives K F σ hp w (.own hp.length m.toNat 0 m.toNat) (hp ++ [⟨.imm, zero.length, List.replicate m.toNat zero⟩]) v w' := by
  obtain ⟨i, z, hi, hz, hmz, hsz, hpos, hby, hzs, hcp⟩ := zeroOk_of hze
  have hb : (i.bytes : Int) * n ≤ 281474976710656 := by
    calc (i.bytes : Int) * n ≤ (i.bytes : Int) * (lenCap zero : Int) := Int.mul_le_mul_of_nonneg_left h2 (by omega)
      _ = ((lenCap zero * i.bytes : Nat) : Int) := by rw [Int.natCast_mul, Int.mul_comm]
      _ ≤ 281474976710656 := by omega
  have hlc : lenCap zero ≤ 17592186044416 := by unfold lenCap; split <;> omega
  have hmk := run_make (P := P) w t e i z ht hi hz k k' m n h0 h1 hb (by omega)
  have hrows := zero_rows (F := F) (w := w) hmz hzs n.toNat
  refine ⟨_, _, by simp only [execOp, ho, hx, hy, Sem.run_bind, hmk, Result.andThen_ok]; rfl, ?_⟩
  have hr2 : ∀ i j d, cellAt (List.replicate m.toNat zero) i j = some d → ∃ u, (madeCells z.cells (n.toNat * i * 0 + n.toNat * zero.length))[i * zero.length + j]? = some u ∧ IOne F w d u := by
    intro i j d hd
    have hd' : cellAt (List.replicate n.toNat zero) i j = some d := by
      unfold cellAt at hd ⊢
      rw [List.getElem?_replicate] at hd ⊢
      split at hd
      · rw [if_pos (by omega)]; exact hd
      · simp at hd
    obtain ⟨u, hu, hr⟩ := hrows.2.2 _ _ _ hd'
    exact ⟨u, by simpa [madeCells] using hu, hr⟩
  have := g_new_own hs (es := List.replicate m.toNat zero) (z := zero.length) (cap := n.toNat) (w' := w.alloc (.cells (madeCells z.cells (n.toNat * i.size)) e)) rfl rfl rfl (by simp) (heap_alloc_lt _) (heap_alloc_new w _)
    (fun i e he => by
      rw [List.getElem?_replicate] at he
      split at he
      · injection he with he; rw [← he]
      · cases he) (fun i' j d hd => by
      obtain ⟨u, hu, hr⟩ := hr2 i' j d hd
      exact ⟨u, by rw [hsz]; simpa using hu, hr⟩) (by simp; omega) (by simp [madeCells, hsz])
  simpa using this

theorem x_mkown [Inhabited Env] {x : Operand} {z : Nat} (hs : SimH K F σ hp w) (ho : o.op = .move x ∨ o.op = .assign x) (hx : a.eval x = .slice none 0 0) :
    ∃ v w', (execOp a.eval o).run P w = .ok (.value v) w' ∧ Gives K F σ hp w (.own hp.length 0 0 0) (hp ++ [⟨.imm, z, []⟩]) v w' := by
  refine ⟨_, _, by rcases ho with ho | ho <;> simp only [execOp, ho, hx] <;> rfl, ?_⟩
  have c : Chg K F σ hp w hp.length ⟨.imm, z, []⟩ F (fun x => if x = hp.length then none else σ x) (hp ++ [⟨.imm, z, []⟩]) w :=
    { os := rfl, tape := rfl, output := rfl, size := Nat.le_refl _, hF := fun _ h => h, newF := fun _ h => .inl h, ltF := hs.fb, heap := fun b h _ => rfl, hps := .inr ⟨rfl, rfl⟩
      sig := fun h' hne => by simp [hne], newg := fun g hg => by simp at hg, grow := fun oh hoh => by simp at hoh }
  refine ⟨F, _, c.sim hs (.inl ⟨rfl, by simp⟩), c.moves hs, c.hm hs, .own _ _ _ _ _ rfl (by simp) fun ob hob => ?_⟩
  have : ob = ⟨.imm, z, []⟩ := by simpa using hob.symm
  subst this
  exact ⟨by simp, fun _ _ => ⟨none, 0, rfl, Nat.le_refl _, .inl rfl⟩⟩

theorem shape_alloc (c : Array Value) (e : TypeId) : (w.alloc (.cells c e)).shape? w.heap.size = some (e, c.size) := by
  unfold World.shape?
  rw [heap_alloc_new]

theorem freeze_heap (w : World) (g n m : Nat) (b : Nat) (h : b ≠ g) : (w.freeze ⟨g, n, none⟩ m).heap[b]? = w.heap[b]? := by
  unfold World.freeze
  split
  · rfl
  · simp [Array.getElem?_modify, Ne.symm h]

theorem freeze_new (c : Array Value) (e : TypeId) (n : Nat) : ∃ mk, ((w.alloc (.cells c e)).freeze ⟨w.heap.size, n, none⟩ 1).heap[w.heap.size]? = some (.cells c e mk) := by
  unfold World.freeze
  simp only [Nat.one_ne_zero, if_false]
  rw [Array.getElem?_modify]
  simp only [if_true]
  rw [heap_alloc_new]
  exact ⟨_, rfl⟩

theorem x_s2b [Inhabited Env] {s t e : TypeId} {x : Operand} {b : List UInt8} (hs : SimH K F σ hp w) (ho : o.op = .convert s t x) (hsS : (P.underlying s).isSome = true) (ht : P.underlying t = some (.slice e)) (he : P.underlying e = some (.int .u8)) (hx : a.eval x = .string ⟨b.toArray⟩) :
    ∃ v w', (execOp a.eval o).run P w = .ok (.value v) w' ∧ Gives K F σ hp w (.sl (b.map fun c => [.int .u8 c.toNat])) hp v w' := by
  obtain ⟨d, hd⟩ := Option.isSome_iff_exists.1 hsS
  let cap := (Question.appendCap b.length 0 e).cut (w.tape w.drawn (.appendCap b.length 0 e))
  let c : Array Value := (b.toArray.map fun x => Value.int .u8 x.toNat) ++ Array.replicate (cap - b.length) (.int .u8 0)
  let w0 := w.drew.alloc (.cells c e)
  let w1 := w0.freeze ⟨w.heap.size, c.size, none⟩ 1
  have hrun : (execOp a.eval o).run P w = .ok (.value (.slice (some ⟨w.heap.size, 0, none⟩) b.length cap)) w1 := by
    have hsize : (⟨b.toArray⟩ : ByteArray).size = b.length := rfl
    have h1 : (choose (.appendCap b.length 0 e)).run P w = .ok cap w.drew := by
      rw [run_choose]; simp only [Question.forced, Bool.false_eq_true, if_false]; rfl
    have h2 : ∀ c : Array Value, (markStringish ⟨w.drew.heap.size, 0, none⟩).run P (w.drew.alloc (.cells c e)) = .ok () ((w.drew.alloc (.cells c e)).freeze ⟨w.heap.size, c.size, none⟩ 1) := by
      intro c
      simp only [markStringish, Sem.run_bind, run_shape, shape_alloc (w := w.drew) c e, Result.andThen_ok, run_freeze]
      rfl
    have hconv : (Conv.stringToBytes e ⟨b.toArray⟩).run P w = .ok (.slice (some ⟨w.heap.size, 0, none⟩) b.length cap) w1 := by
      simp only [Conv.stringToBytes, hsize, Sem.run_bind, h1, Result.andThen_ok, newRow, run_newObj, Sem.run_pure, World.alloc_eq, h2]
      rfl
    simp only [execOp, ho, hx, convert, Sem.run_bind, run_under hd, run_under ht, Result.andThen_ok, run_under he, hconv]
    rfl
  obtain ⟨mk, hmk⟩ := freeze_new (w := w.drew) c e c.size
  refine ⟨_, _, hrun, ?_⟩
  have := g_new_imm hs (es := b.map fun c => [.int .u8 c.toNat]) (z := 1) (cap := cap) (w' := w1) (c := c) (t := e) (mk := mk) rfl rfl rfl
    (by simp [w1, w0, World.freeze]) (fun g hg => by
      rw [freeze_heap _ _ _ _ _ (by omega)]
      exact Below.heap_alloc w.drew _ g hg) hmk
    (fun i e he => by rw [List.getElem?_map] at he; cases hb : b[i]? <;> simp [hb] at he; subst he; rfl)
    (fun i j d hd => by
      unfold cellAt at hd
      rw [List.getElem?_map] at hd
      cases hb : b[i]? with
      | none => simp [hb] at hd
      | some u =>
        simp [hb] at hd
        cases j with
        | zero =>
          simp at hd; subst hd
          refine ⟨_, ?_, .int _ _, rfl⟩
          have hlt : i < b.length := (List.getElem?_eq_some_iff.1 hb).1
          simp only [c, Nat.mul_one, Nat.add_zero]
          rw [Array.getElem?_append_left (by simpa using hlt)]
          simp [hb]
        | succ j => simp at hd) (by simp [cap, Question.cut])
  simpa using this
end
end Go.Nk
