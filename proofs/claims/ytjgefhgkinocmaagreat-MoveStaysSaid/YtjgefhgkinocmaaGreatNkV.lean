/- Arguments read behind the call as they read before; a law's contract from what the data level tells. -/
import Derived.Test.YtjgefhgkinocmaaGreatNkU
import Derived.Handed
import Derived.JoinedCond
import Derived.Calls
set_option linter.all false
namespace Go.Nk
open Go.RowKit Go.WideShapes Go.ChangeShapes Go.Deep

section
variable {H : Type} {enc : TypeId × Value → H} {P : Program} {w w' : World}

theorem trod_spare {sp : Nat → Bool} {Ls : List TypeId} (hL : Closed P Ls) : ∀ (fuel : Nat) (t : TypeId) (cs : List Value) (x : DataW H × List MemPlace), t ∈ Ls → DataW.trod enc P w 0 allSp true fuel t cs = some x →
    (∀ p ∈ x.2, sp p.block = true) → DataW.trod enc P w 0 sp true fuel t cs = some x
  | 0, t, cs, x, _, hx, _ => by simp [DataW.trod] at hx
  | m + 1, t, cs, x, hin, hx, hs => by
    have h := hL t hin
    unfold locOk at h
    rw [DataW.trod_step] at hx ⊢
    unfold DataW.trodStep at hx ⊢
    split at h
    · rename_i k hk
      rw [hk] at hx ⊢
      split at hx <;> simp_all
    · rename_i hk
      rw [hk] at hx ⊢
      split at hx <;> simp_all
    · rename_i hk
      rw [hk] at hx ⊢
      split at hx <;> simp_all
    · rename_i e hk
      simp only [Bool.and_eq_true, decide_eq_true_eq] at h
      have heL : e ∈ Ls := by simpa using h.1.1.2
      rw [hk] at hx ⊢
      split at hx <;> rename_i hk' <;> try (first | (cases hk'; done) | (cases hx; done))
      · cases hk'; exact hx
      · rename_i e' a len cap
        cases hk'
        simp only at hx ⊢
        split at hx
        · rename_i hc
          rw [if_pos hc]
          simp only [if_true, Option.map_eq_some_iff, Option.bind_eq_some_iff] at hx ⊢
          obtain ⟨elems, he, rest, hrest, rfl⟩ := hx
          have one : ∀ (i : Nat) (y : DataW H × List MemPlace), y ∈ elems ++ rest →
              (w.cells? 0 (a.add (i * P.cellsOf e)) (P.cellsOf e)).bind (DataW.trod enc P w 0 allSp true m e) = some y → (w.cells? 0 (a.add (i * P.cellsOf e)) (P.cellsOf e)).bind (DataW.trod enc P w 0 sp true m e) = some y := by
            intro i y hy hv
            simp only [Option.bind_eq_some_iff] at hv ⊢
            obtain ⟨cs', hc', hy'⟩ := hv
            refine ⟨cs', hc', trod_spare hL m e cs' y heL hy' fun p hp => hs p ?_⟩
            simp only [List.mem_append, List.mem_flatMap]
            right
            exact ⟨y, by simpa using hy, hp⟩
          refine ⟨elems, mapM_carry he (fun i y hi hy => one i y (by simp [hy])), rest, ?_, rfl⟩
          by_cases hsp : sp a.block = true
          · rw [if_pos hsp]
            exact mapM_carry hrest (fun j y hj hy => one (len + j) y (by simp [hy]))
          · rw [if_neg hsp]
            have h0 : (elems.length + rest.length) * P.cellsOf e = 0 := by
              rcases Nat.eq_zero_or_pos ((elems.length + rest.length) * P.cellsOf e) with h0 | h0
              · exact h0
              · exact absurd (hs (.cell a.block (a.off + 0)) (by simp only [List.mem_append]; left; exact MemPlace.mem_row.2 ⟨0, h0, rfl⟩)) hsp
            have : elems.length + rest.length = 0 := by
              rcases Nat.mul_eq_zero.1 h0 with h1 | h1
              · exact h1
              · omega
            have : rest = [] := List.eq_nil_of_length_eq_zero (by omega)
            rw [this]
        · cases hx
    · rename_i e hk
      simp only [Bool.and_eq_true, decide_eq_true_eq] at h
      have he : e ∈ Ls := by simpa using h.2
      rw [hk] at hx ⊢
      split at hx <;> rename_i hk' <;> try (first | (cases hk'; done) | (cases hx; done))
      · cases hk'; exact hx
      · rename_i e' a
        cases hk'
        simp only [Option.map_eq_some_iff, Option.bind_eq_some_iff] at hx ⊢
        obtain ⟨y, ⟨cs', hc, hy⟩, rfl⟩ := hx
        exact ⟨y, ⟨cs', hc, trod_spare hL m e cs' y he hy (fun p hp => hs p (by simp [hp]))⟩, rfl⟩
    · rename_i k e hk
      simp only [Bool.and_eq_true, decide_eq_true_eq] at h
      have he : e ∈ Ls := by simpa using h.2
      rw [hk] at hx ⊢
      simp only at hx ⊢
      split at hx
      · rename_i hc
        simp only [if_pos hc, Option.map_eq_some_iff] at hx ⊢
        obtain ⟨xs, hx, rfl⟩ := hx
        exact ⟨xs, mapM_carry hx (fun f y hf hy hv => trod_spare hL m e _ y he hv (fun p hp => hs p (List.mem_flatMap.2 ⟨y, hy, hp⟩))), rfl⟩
      · cases hx
    · rename_i fs hk
      simp only [Bool.and_eq_true, List.all_eq_true, beq_iff_eq] at h
      have hfs : ∀ f ∈ fs.toList, f.type ∈ Ls := fun f hf => by simpa using h.1.1 f hf
      rw [hk] at hx ⊢
      simp only at hx ⊢
      split at hx
      · rename_i hc
        simp only [if_pos hc, Option.map_eq_some_iff] at hx ⊢
        obtain ⟨xs, hx, rfl⟩ := hx
        exact ⟨xs, mapM_carry hx (fun f y hf hy hv => trod_spare hL m f.type _ y (hfs f hf) hv (fun p hp => hs p (List.mem_flatMap.2 ⟨y, hy, hp⟩))), rfl⟩
      · cases hx
    · cases h

/-- An argument behind the call. -/
theorem Trod_again {sp : Nat → Bool} {Ls : List TypeId} (hL : Closed P Ls) {t : TypeId} {v : Value} {d : DataW H} {ps : List MemPlace} (hok : t ∈ Ls) (h : DataW.Trod enc P w 0 allSp true t v d ps)
    (hb : Below w.heap.size w w') (hs : ∀ p ∈ ps, sp p.block = true) : DataW.Trod enc P w' 0 sp true t v d ps := by
  obtain ⟨m, hm⟩ := h
  refine ⟨m, ?_⟩
  have hlt := DataW.trod_lt _ _ _ _ hm
  exact DataW.trod_carry _ _ _ _ (trod_spare hL m t _ _ hok hm hs) fun p hp => hb.same (hlt p hp)

/-- All arguments' types. -/
def tysOk (P : Program) (ts : List TypeId) : Bool := (fun Ls => ts.all (fun t => Ls.contains t) && Ls.all fun t => locOk P Ls t) (reachT P 300 ts [])
theorem tysOk_of {ts : List TypeId} (h : tysOk P ts = true) : ∃ Ls, Closed P Ls ∧ ∀ t ∈ ts, t ∈ Ls := by
  simp only [tysOk, Bool.and_eq_true, List.all_eq_true] at h
  exact ⟨_, fun t ht => h.2 t ht, fun t ht => by simpa using h.1 t ht⟩

theorem TrodAll_again {sp : Nat → Bool} {Ls : List TypeId} (hL : Closed P Ls) (hb : Below w.heap.size w w') : ∀ {ts : List TypeId} {vs : List Value} {ds : List (DataW H)} {ps : List MemPlace}, (∀ t ∈ ts, t ∈ Ls) → DataW.TrodAll enc P w 0 allSp true ts vs ds ps →
    (∀ p ∈ ps, sp p.block = true) → DataW.TrodAll enc P w' 0 sp true ts vs ds ps
  | [], _, _, _, _, h, _ => by
    obtain ⟨rfl, rfl, rfl⟩ := trodAll_nil h
    exact trodAll_mk0
  | t :: ts, _, _, _, hk, h, hs => by
    obtain ⟨v, vs, d, ds, a, b, rfl, rfl, rfl, h1, h2⟩ := trodAll_cons h
    exact trodAll_cons_mk (Trod_again hL (hk t (by simp)) h1 hb fun p hp => hs p (by simp [hp])) (TrodAll_again hL hb (fun u hu => hk u (by simp [hu])) h2 fun p hp => hs p (by simp [hp]))

/-- What an argument is at the data level. -/
def HasV0 (P : Program) (t : TypeId) (d : DV) : Prop :=
  match P.underlying t with
  | some (.struct _) => ∃ ds, d = .agg ds ∧ ∃ n, Has P n t ds
  | some (.array _ _) => ∃ ds, d = .agg ds ∧ ∃ n, Has P n t ds
  | _ => ∃ n, Has P n t [d]

/-- How long a list or a text that is handed in can be. -/
def capLen : Nat := 140737488355328
def Small (d : DV) : Prop := ∀ L ∈ d.lens, L ≤ capLen
def HasV (P : Program) (t : TypeId) (d : DV) : Prop := HasV0 P t d ∧ Small d

def HasAll (P : Program) : List TypeId → List DV → Prop
  | [], ds => ds = []
  | t :: ts, ds => ∃ d r, ds = d :: r ∧ HasV P t d ∧ HasAll P ts r

theorem dv_rep {B : DataW H → Nat} {BA : List (DataW H) → Nat} (hB : Bulk B BA) {Ls : List TypeId} (hL : Closed P Ls) {t : TypeId} {v : Value} {d : DataW H} {ps : List MemPlace} {base : Nat} (hval : Value.okWide P w .any base t v) (hok : t ∈ Ls) (h : DataW.Trod enc P w 0 allSp true t v d ps) (hw : ∀ x ∈ DataW.weights P t d, x ≤ reachBytes) :
    ∃ dv, HasV P t dv ∧ VRep (oldF w) none_ [] w dv v ∧ dv.sz ≤ B d + 1 := by
  obtain ⟨m, hm⟩ := h
  obtain ⟨ds, ⟨h1, h2⟩, h3, h4⟩ := trod_rep hB hL m t _ _ hok hm
  have hsm : ∀ L ∈ lensL ds, L ≤ capLen := by
    intro L hL
    rcases h4 L hL with rfl | ⟨x, h5, h6⟩
    · exact Nat.zero_le _
    · have := hw x h5
      simp only [reachBytes, capLen] at this ⊢
      omega
  unfold HasV HasV0
  split
  · rename_i fs hk
    simp only [Value.okWide, hk] at hval
    obtain ⟨cs, rfl, _, _⟩ := hval
    refine ⟨.agg ds, ⟨⟨ds, rfl, m, h1⟩, by simpa [Small, DV.lens] using hsm⟩, VRep.agg_mk (by simpa [Value.cells] using h2.1) fun j d hd => ?_, by simp only [DV.sz] at h3 ⊢; omega⟩
    obtain ⟨u, hu, hr⟩ := h2.2 j d hd
    exact ⟨u, by simpa [Value.cells] using hu, .imm hr⟩
  · rename_i k e hk
    simp only [Value.okWide, hk] at hval
    obtain ⟨cs, rfl, _, _⟩ := hval
    refine ⟨.agg ds, ⟨⟨ds, rfl, m, h1⟩, by simpa [Small, DV.lens] using hsm⟩, VRep.agg_mk (by simpa [Value.cells] using h2.1) fun j d hd => ?_, by simp only [DV.sz] at h3 ⊢; omega⟩
    obtain ⟨u, hu, hr⟩ := h2.2 j d hd
    exact ⟨u, by simpa [Value.cells] using hu, .imm hr⟩
  · rename_i hk hk2
    have one : ds.length = 1 ∧ v.cells.toList = [v] := by
      have hc : ∀ cs, v ≠ .agg cs := by
        intro cs hv
        subst hv
        have hok := hL t hok
        unfold locOk at hok
        split at hok <;> rename_i hk' <;> simp_all [Value.okWide, Cell.okWide, Cell.ok]
      have hl : v.cells.toList = [v] := by cases v <;> first | rfl | exact absurd rfl (hc _)
      exact ⟨by rw [h2.1, hl]; rfl, hl⟩
    match ds, one.1 with
    | [dv], _ =>
      rw [one.2] at h2
      obtain ⟨u, us, e, hr, _⟩ := h2.cons
      cases e
      exact ⟨dv, ⟨⟨m, h1⟩, by simpa [Small, lensL] using hsm⟩, .imm hr, by simp only [szL] at h3; omega⟩

theorem dvs_rep {B : DataW H → Nat} {BA : List (DataW H) → Nat} (hB : Bulk B BA) {Ls : List TypeId} (hL : Closed P Ls) {base : Nat} : ∀ {ts : List TypeId} {vs : List Value} {ds : List (DataW H)} {ps : List MemPlace},
    (∀ (j : Nat) t v, ts[j]? = some t → vs[j]? = some v → Value.okWide P w .any base t v) → (∀ t ∈ ts, t ∈ Ls) → DataW.TrodAll enc P w 0 allSp true ts vs ds ps → (∀ x ∈ DataW.weightsEach P ts ds, x ≤ reachBytes) →
    ∃ dvs, HasAll P ts dvs ∧ All2 (VRep (oldF w) none_ [] w) dvs vs ∧ szL dvs ≤ BA ds + ts.length
  | [], _, _, _, _, _, h, _ => by
    obtain ⟨rfl, rfl, rfl⟩ := trodAll_nil h
    exact ⟨[], rfl, .mk_nil, by simp [szL]⟩
  | t :: ts, _, _, _, hv, hk, h, hw => by
    obtain ⟨v, vs, d, ds, a, b, rfl, rfl, rfl, h1, h2⟩ := trodAll_cons h
    unfold DataW.weightsEach at hw
    obtain ⟨dv, r1, r2, r3⟩ := dv_rep hB hL (hv 0 t v rfl rfl) (hk t (by simp)) h1 fun x hx => hw x (List.mem_append.2 (.inl hx))
    obtain ⟨dvs, r4, r5, r6⟩ := dvs_rep hB hL (fun j t v h h' => hv (j + 1) t v h h') (fun u hu => hk u (by simp [hu])) h2 fun x hx => hw x (List.mem_append.2 (.inr hx))
    exact ⟨dv :: dvs, ⟨dv, dvs, rfl, r1, r4⟩, .mk_cons r2 r5, by have := hB.cons d ds; simp only [szL, List.length_cons]; omega⟩

theorem below_of_moves {F' : Nat → Prop} (h : Moves (oldF w) (oldF w) w F' w') : Below w.heap.size w w' := ⟨h.os, h.tape, h.output, h.size, fun k hk => h.keepK k hk⟩

theorem post_of_below {f : Func} {s : ChangeSpec} {apart fresh handsOn again : Bool} {W W' : World} {args : Array Value} {v : Value} {ds gs : List (DataW H)} {before pa pv : List MemPlace}
    (hW : DataW.Whole enc P f.params.toList s.vars apart W args.toList ds gs before)
    (hres : ∀ (b : Nat) (sp : Nat → Bool) (hd : Bool), DataW.TrodAll enc P W' b sp hd f.resultTypes.toList (v.resultList f.resultTypes.size) (s.fn H (ds ++ gs)).results [])
    (hargs : ∀ sp : Nat → Bool, (∀ p ∈ before, sp p.block = true) → DataW.TrodAll enc P W' 0 sp true f.params.toList args.toList (s.fn H (ds ++ gs)).args pa)
    (hvars : ∀ sp : Nat → Bool, (∀ p ∈ before, sp p.block = true) → DataW.TrodVars enc P W' sp s.vars (s.fn H (ds ++ gs)).vars pv)
    (hps : before = pa ++ pv) (hb : Below W.heap.size W W')
    (hok : ∀ (j : Nat) (t : TypeId) (r : Value), f.resultTypes[j]? = some t → (v.resultList f.resultTypes.size)[j]? = some r → Value.okWide P W' .any 0 t r) :
    s.post enc P f apart fresh handsOn again W args v W' := by
  have hlt : ∀ p ∈ before, p.block < W.heap.size := fun p hp => hW.lt p hp
  have hold : ∀ p ∈ before, (fun b => decide (b < W.heap.size)) p.block = true := fun p hp => by simpa using hlt p hp
  refine ⟨ds, gs, before, [], pa, pv, hW, hres _ _ _, hargs _ hold, hvars _ hold, World.keptBut_mono (fun p hp => ⟨hp, ?_⟩) (hb.frame (· ∈ before)), fun _ => ?_⟩
  · rw [hps, List.mem_append] at hp
    exact Or.inr hp
  · obtain ⟨_, _, _, _, _, hz, hn⟩ := hW
    refine ⟨hok, _, _, ([] ++ pa) ++ pv, ⟨[] ++ pa, pv, trodAll_append (hargs _ (fun _ _ => rfl)) (hres _ _ _), hvars _ (fun _ _ => rfl), rfl, ?_, ?_⟩, ?_⟩
    · intro b off hp
      have hin : MemPlace.cell b off ∈ before := by rw [hps]; simpa using hp
      rw [hb.frozen (hlt _ hin)]
      exact hz b off hin
    · intro ha
      have := hn ha
      rw [hps] at this
      simpa using this
    · intro p hp _
      rw [hps]
      simpa using hp

/-- A law: it answers true, and its arguments read as they did. -/
theorem law_contract [Inhabited Env] {f : FuncId} {fn : Func} {s : ChangeSpec} {apart fresh handsOn again : Bool} {tb : TypeId} {B : DataW H → Nat} {BA : List (DataW H) → Nat} (hB : Bulk B BA)
    (hp : tysOk P fn.params.toList = true) (hr : fn.resultTypes = #[tb]) (hb : P.underlying tb = some .bool) (hvars : s.vars = [])
    {W : World} {base : Nat} {args : Array Value} {ds gs : List (DataW H)} {before : List MemPlace}
    (hs : ∀ l : List (DataW H), l.length = fn.params.size → (s.fn H l).results = [.lit (.bool true)] ∧ (s.fn H l).args = l ∧ (s.fn H l).vars = [])
    (hval : ∀ (j : Nat) t v, fn.params[j]? = some t → args[j]? = some v → Value.okWide P W .any base t v)
    (hW : DataW.Whole enc P fn.params.toList s.vars apart W args.toList ds gs before)
    (hsz : (DataW.weightsEach P (fn.params.toList ++ s.plain.varTypes P) (ds ++ gs)).all (· ≤ reachBytes) = true)
    (hX : XF (oldF W) W)
    (law : ∀ dvs, HasAll P fn.params.toList dvs → szL dvs ≤ BA (ds ++ gs) + fn.params.size → TellsP P f dvs (.bool true)) :
    Calls P f args W fun e W' => ∃ v, e = .returned v ∧ s.post enc P fn apart fresh handsOn again W args v W' := by
  have hW' := hW
  obtain ⟨p, q, hA, hV, rfl, hfz, hnd⟩ := hW
  rw [hvars] at hV
  obtain ⟨rfl, rfl⟩ := trodVars_none hV
  have hvt : s.plain.varTypes P = [] := by
    have : s.plain.vars = [] := hvars
    simp [DataSpec.varTypes, this]
  rw [hvt, List.append_nil, List.append_nil] at hsz
  simp only [List.all_eq_true, decide_eq_true_eq] at hsz
  obtain ⟨Ls, hL, hp⟩ := tysOk_of hp
  obtain ⟨dvs, h1, h2, h3⟩ := dvs_rep hB hL (fun j t v a b => hval j t v (by simpa using a) (by simpa using b)) hp hA hsz
  have hlen : ∀ {ts : List TypeId} {vs : List Value} {ds : List (DataW H)} {ps : List MemPlace}, DataW.TrodAll enc P W 0 allSp true ts vs ds ps → ds.length = ts.length := by
    intro ts
    induction ts with
    | nil => intro vs ds ps h; obtain ⟨rfl, rfl, rfl⟩ := trodAll_nil h; rfl
    | cons t ts ih => intro vs ds ps h; obtain ⟨v, vs, d, ds, a, b, rfl, rfl, rfl, h1, h2⟩ := trodAll_cons h; simp [ih h2]
  have hl := hlen hA
  obtain ⟨s1, s2, s3⟩ := hs (ds ++ []) (by simpa using hl)
  refine (law dvs h1 (by simpa using h3) (oldF W) (oldF W) W args (fun _ h => h) (fun _ h => h) hX h2).mono ?_
  rintro e W' ⟨v, F', rfl, hm, _, hv⟩
  have e1 := hv.bool_inv
  subst e1
  have hbel := below_of_moves hm
  refine ⟨_, rfl, post_of_below (pa := p) (pv := []) hW' (fun b sp hd => ?_) (fun sp h => ?_) (fun sp _ => ?_) (by simp) hbel (ok_one hr rfl (okWide_bool_mk hb _))⟩
  · rw [hr, s1]
    exact trodAll_cons_mk (shut_bool hb _) trodAll_mk0
  · rw [s2, List.append_nil]
    exact TrodAll_again hL hbel hp hA fun p hp => h p (by simpa using hp)
  · rw [hvars, s3]
    exact rfl
end
end Go.Nk
