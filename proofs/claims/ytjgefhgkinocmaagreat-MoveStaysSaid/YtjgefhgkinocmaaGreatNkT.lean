/- Codes: what the data level shows of a code holds of the code. -/
import Derived.Test.YtjgefhgkinocmaaGreatNkT2
set_option linter.all false
namespace Go.Nk
open Go.RowKit

section
variable {P : Program} {K F0 : Nat → Prop} {σ0 : Nat → Option Nat} {hp0 : List DObj} {N : Nat} {w0 : World} {C : Orc}

/-! Codes. -/

def mCode (P : Program) (N : Nat) : Code → DCode → Bool
  | .skip, .skip => true
  | .region _ ops draw, .ops draw' dl => draw == draw' && (if draw then drawOk P N ops [] (placesD 0 dl) else mOpers P N ops ops.toList dl)
  | .region _ ops draw, .opsP l => draw && drawOk P N ops [] l
  | .region _ ops draw, .opsS seps l => draw && drawOk P N ops seps l
  | .seq a b, .seq a' b' => mCode P N a a' && mCode P N b b'
  | .cond c a b, .cond c' a' b' => mArg c c' && mCode P N a a' && mCode P N b b'
  | .block id c, .block id' c' => id == id' && mCode P N c c'
  | .loop c, .loop _ _ c' => mCode P N c c'
  | c, .cut _ _ c' => mCode P N c c'
  | c, .gown _ _ _ c' => mCode P N c c'
  | c, .rsv c' => mCode P N c c'
  | .scope c, .scope c' => mCode P N c c'
  | .rangeFunc f qs asg c, .rangeF _ _ g ps asg' c' => mArg f g && qs.toList == ps && decide ps.Nodup && ps.all (fun p => decide (p < N)) && plainC asg && plainC c && mCode P N asg asg' && mCode P N c c'
  | .label _, .skip => true
  | _, .bad => true
  | .exit id, .exit id' => id == id'
  | .ret, .ret => true
  | _, _ => false

/-- What is to hold at an end, as the data level says it. -/
def QQ [Inhabited Env] (K : Nat → Prop) (N : Nat) (F0 : Nat → Prop) (σ0 : Nat → Option Nat) (hp0 : List DObj) (w0 : World) (Q : DExit → DS → Prop) : Exit → Act → World → Prop
  | .normal, a, w => ∃ s, Cur K N F0 σ0 hp0 w0 s a w ∧ Q .normal s
  | .exit id, a, w => ∃ s, Cur K N F0 σ0 hp0 w0 s a w ∧ Q (.exit id) s
  | .ret, a, w => ∃ s, Cur K N F0 σ0 hp0 w0 s a w ∧ Q .ret s
  | _, _, _ => False

/-- What is kept between the rounds of a range over a function. -/
def JR [Inhabited Env] (K F1 : Nat → Prop) (σ1 : Nat → Option Nat) (hp1 : List DObj) (w1 : World) (D L : Nat) (rec : LoopState → Option Code → Loop) (I : Nat → List DObj → Prop) (X : Code → List DObj → Prop) : Option Nat → (Nat → Prop) → (Nat → Prop) → World → Prop := fun k F B W =>
  W.heap[D]? = some (.deferred (some [])) ∧ ¬ F D ∧ ¬ F L ∧ ¬ B D ∧ ¬ B L ∧ (∀ b, K b → ¬ B b) ∧
  ∃ σ hp, SimH (fun b => (K b ∨ b = D ∨ b = L) ∨ B b) F σ hp W ∧ Moves K F1 w1 F W ∧ HM F1 σ1 hp1 w1 F σ hp W ∧
    match k with
    | some k => W.heap[L]? = some (.loop (rec .ready none)) ∧ I k hp
    | none => ∃ jc, W.heap[L]? = some (.loop (rec .done (some jc))) ∧ X jc hp

theorem JR.abide [Inhabited Env] {K F1 : Nat → Prop} {σ1 : Nat → Option Nat} {hp1 : List DObj} {w1 : World} {D L : Nat} {rec : LoopState → Option Code → Loop} {I : Nat → List DObj → Prop} {X : Code → List DObj → Prop} : AbideI (JR K F1 σ1 hp1 w1 D L rec I X) := by
  intro k F B W F' B' W' h st
  obtain ⟨hD, fD, fL, bD, bL, hKB, σ, hp, hs, hmv, hhm, hk⟩ := h
  have ltD : D < W.heap.size := (Array.getElem?_eq_some_iff.1 hD).1
  have ltL : L < W.heap.size := by
    cases k with
    | some k => exact (Array.getElem?_eq_some_iff.1 hk.1).1
    | none => obtain ⟨jc, h1, _⟩ := hk; exact (Array.getElem?_eq_some_iff.1 h1).1
  have hK : ∀ b, K b → b < W.heap.size := fun b hb => hs.kb b (.inl (.inl hb))
  obtain ⟨hs', hm'⟩ := hs.turn (K' := fun b => (K b ∨ b = D ∨ b = L) ∨ B' b) (F' := F') st.size st.keepF (fun b hb hk => st.heap b hb fun h => hk (.inr h)) st.mono
    (fun b hb => (st.new b hb).imp id (fun h => h.imp .inr id)) (fun b hb => hb.elim (fun h => .inl (.inl h)) fun h => (st.own b h).imp .inr id) st.fb
    (fun b hb => hb.elim (fun h => Nat.lt_of_lt_of_le (h.elim (hK b) (fun h => h.elim (fun h => h ▸ ltD) fun h => h ▸ ltL)) st.size) (st.bb b))
  have nb : ∀ b, b < W.heap.size → ¬ B b → ¬ B' b := fun b hl hb h => (st.own b h).elim hb fun h => by omega
  have nf : ∀ b, b < W.heap.size → ¬ F b → ¬ B b → ¬ F' b := fun b hl hf hb h => (st.new b h).elim hf fun h => h.elim hb fun h => by omega
  refine ⟨(st.heap D ltD bD).trans hD, nf D ltD fD bD, nf L ltL fL bL, nb D ltD bD, nb L ltL bL, fun b hb => nb b (hK b hb) (hKB b hb), σ, hp, hs', hmv.trans ?_, hhm.trans hm', ?_⟩
  · exact ⟨st.os, st.tape, st.output, st.size, fun b hb => st.heap b (hK b hb) (hKB b hb), st.keepF, st.mono, fun b hb => (st.new b hb).imp id fun h hk => h.elim (hKB b hk) fun h => by have := hK b hk; omega⟩
  · cases k with
    | some k => exact ⟨(st.heap L ltL bL).trans hk.1, hk.2⟩
    | none => obtain ⟨jc, h1, h2⟩ := hk; exact ⟨jc, (st.heap L ltL bL).trans h1, h2⟩

set_option maxHeartbeats 1000000 in
theorem range_sound [Inhabited Env] (hC : C.ok P) {f : Operand} {qs : Array Tmp} {c : Code} {live : List Nat} {m : Option Nat} {g : DA} {ps : List Nat} {c' : DCode} {asg : Code} {asg' : DCode}
    (ihA : ∀ (L : Nat) (K F0 : Nat → Prop) (σ0 : Nat → Option Nat) (hp0 : List DObj) (w0 : World) (Q : DExit → DS → Prop) (s : DS) (a : Act) (w : World), mCode P N asg asg' = true → dwp C hp0.length asg' Q s → Cur K N F0 σ0 hp0 w0 s a w → Code.wpIn (Fw (some L)) 0 P asg (QQ K N F0 σ0 hp0 w0 Q) a w)
    (ih : ∀ (L : Nat) (K F0 : Nat → Prop) (σ0 : Nat → Option Nat) (hp0 : List DObj) (w0 : World) (Q : DExit → DS → Prop) (s : DS) (a : Act) (w : World), mCode P N c c' = true → dwp C hp0.length c' Q s → Cur K N F0 σ0 hp0 w0 s a w → Code.wpIn (Fw (some L)) 0 P c (QQ K N F0 σ0 hp0 w0 Q) a w)
    {n : Nat} {Q : DExit → DS → Prop} {s : DS} {a : Act} {w : World} (hm : mCode P N (.rangeFunc f qs asg c) (.rangeF live m g ps asg' c') = true) (h : dwp C hp0.length (.rangeF live m g ps asg' c') Q s) (hc : Cur K N F0 σ0 hp0 w0 s a w) :
    Code.wpIn (Fw none) n P (.rangeFunc f qs asg c) (QQ K N F0 σ0 hp0 w0 Q) a w := by
  simp only [mCode, Bool.and_eq_true, beq_iff_eq, decide_eq_true_eq] at hm
  obtain ⟨⟨⟨⟨⟨⟨⟨hg, hps⟩, hnd⟩, hlt⟩, hplA⟩, hpl⟩, hmA⟩, hm⟩ := hm
  simp only [dwp] at h
  obtain ⟨hmm, h⟩ := h
  obtain ⟨K', F, σ, hx⟩ := hc
  have hx1 := hx.cut live m hmm
  have hv := mArg_rep hx.2.2.1 hg
  have hws := hx.2.1
  obtain ⟨hKK, hs, hf, hN, hdef, hmv, hhm⟩ := hx1
  generalize hs1 : s.cut live m = s1 at h hs hf hhm
  cases he : g.ev s.fr <;> simp only [he] at h hv
  rename_i gf caps
  obtain ⟨hpre, himm, I, hI0, hround, hdone⟩ := h
  obtain ⟨cv, hcv, hcl, hcr⟩ := hv.clo_inv
  obtain ⟨hok, hti⟩ := hC.i gf _ hpre
  have hcap0 : All2 (CapR F σ s1.hp w) caps cv.toList := ⟨by simpa using hcl, fun j d hd => by
    obtain ⟨u, hu, hr⟩ := hcr j d hd
    refine ⟨u, by simpa using hu, ?_⟩
    rw [← hs1]
    cases m with
    | none => exact capR_of hr
    | some m => exact capR_cut hr m⟩
  obtain ⟨B0, σB, hB0, hsA, hmA0, hsB, hcaps⟩ := caps_split hs hcap0 himm
  generalize hhk : (capsOf s1.hp caps).2.2 = hpk at *
  generalize hcc : (capsOf s1.hp caps).2.1 = capk at *
  have hKlt : ∀ b, K' b → b < w.heap.size := hs.kb
  have hFlt : ∀ b, F b → b < w.heap.size := hs.fb
  show Code.wpIn Fence.wide n P (.rangeFunc f qs asg c) _ a w
  refine wpIn_rangeFunc fun fn hfn => ?_
  obtain ⟨rec, hrec⟩ : ∃ rec : LoopState → Option Code → Loop, rec = fun st pe => { state := st, pending := pe, fn, tmps := a.tmps, params := qs, assign := asg, body := c, defers := w.heap.size } := ⟨_, rfl⟩
  obtain ⟨W1, hW1⟩ : ∃ W1, (w.alloc (.deferred (some []))).alloc (.loop (rec .ready none)) = W1 := ⟨_, rfl⟩
  have hold : ∀ b, b < w.heap.size → W1.heap[b]? = w.heap[b]? := fun b hb => by
    rw [← hW1]; exact (Below.heap_alloc _ _ b (by simp; omega)).trans (Below.heap_alloc _ _ b hb)
  have hsz : W1.heap.size = w.heap.size + 2 := by rw [← hW1]; simp
  have hL1 : W1.heap[w.heap.size + 1]? = some (.loop (rec .ready none)) := by
    rw [← hW1]; have := World.alloc_heap_new (w.alloc (.deferred (some []))) (.loop (rec .ready none)); rwa [World.size_alloc] at this
  have hD1 : W1.heap[w.heap.size]? = some (.deferred (some [])) := by
    rw [← hW1]; exact (Below.heap_alloc _ _ _ (by simp)).trans (World.alloc_heap_new w _)
  refine ⟨w.heap.size + 1, [{ target := .collected w.heap.size, args := #[] }], W1, { target := .fn (.func gf) cv, args := #[.func (.yield (w.heap.size + 1)) #[] #[]] }, W1, gf,
    #[.func (.yield (w.heap.size + 1)) #[] #[]] ++ cv, W1, ?_, ?_, fun _ _ => trivial, ?_, fun h => by simp [Fence.wide] at h, ?_⟩
  · rw [← hW1, hrec]; exact run_enterLoop_outer _ _ _ _ _
  · simp only [resolve, hcv]
    simp [go_sem]
  · have eg := fun args w => run_callFunc (P := P) (w := w) hok args
    simp [invoke, go_sem, eg]
  generalize hL : w.heap.size + 1 = L at *
  generalize hD : w.heap.size = D at *
  have hfr : ∀ {F2 : Nat → Prop} {σ2 : Nat → Option Nat} {hp2 : List DObj} {W : World}, HM F σ s1.hp w F2 σ2 hp2 W → FRep F2 σ2 hp2 W s1.fr a.tmps := fun hm i => (hf i).mono hm
  obtain ⟨X, hX⟩ : ∃ X : Code → List DObj → Prop, X = fun jc hp => (jc = .ret ∧ Q .ret ⟨s1.fr, hp⟩) ∨ ∃ id, jc = .exit id ∧ Q (.exit id) ⟨s1.fr, hp⟩ := ⟨_, rfl⟩
  -- the start
  obtain ⟨hs1', hm1'⟩ := hsA.turn (K' := fun b => (K' b ∨ b = D ∨ b = L) ∨ B0 b) (F' := F) (w' := W1) (by omega) (fun b hb => hold b (hFlt b hb)) (fun b hb _ => hold b (by omega)) (fun _ h => h) (fun _ h => .inl h)
    (fun b hb => hb.elim (fun h => h.elim (fun h => .inl (.inl h)) fun h => .inr (by omega)) fun h => .inl (.inr h)) (fun b hb => by have := hFlt b hb; omega) (fun b hb => hb.elim (fun h => h.elim (fun h => by have := hKlt b h; omega) fun h => by omega) fun h => by have := (hB0 b h).1; omega)
  have hmv1 : Moves K' F w F W1 := ⟨by rw [← hW1]; rfl, by rw [← hW1]; rfl, by rw [← hW1]; rfl, by omega, fun b hb => hold b (hKlt b hb), fun b hb => hold b (hFlt b hb), fun _ h => h, fun _ h => .inl h⟩
  have nKD : ∀ b, K' b → b ≠ D ∧ b ≠ L := fun b hb => by have := hKlt b hb; omega
  have nFD : ∀ b, F b → b ≠ D ∧ b ≠ L := fun b hb => by have := hFlt b hb; omega
  have hDL : D ≠ L := by omega
  have start : JR K' F σ s1.hp w D L rec I X (some 0) F B0 W1 :=
    ⟨hD1, fun h => (nFD D h).1 rfl, fun h => (nFD L h).2 rfl, fun h => by have := (hB0 D h).1; omega, fun h => by have := (hB0 L h).1; omega, fun b hb h => (hB0 b h).2.2 hb, σ, hpk, hs1', hmv1, hmA0.trans hm1', hL1, hI0⟩
  obtain ⟨hsB', hmB'⟩ := hsB.turn (K' := fun b => b < W1.heap.size ∧ ¬ B0 b) (F' := F) (w' := W1) (by omega) (fun b hb => hold b (hFlt b hb)) (fun b hb _ => hold b (by omega)) (fun _ h => h) (fun _ h => .inl h)
    (fun b hb => by rcases Nat.lt_or_ge b D with h | h; exact .inl ⟨by omega, hb.2⟩; exact .inr (by omega)) (fun b hb => by have := hFlt b hb; omega) (fun b hb => hb.1)
  have key := hti L (JR K' F σ s1.hp w D L rec I X) F B0 σB W1 cv JR.abide ?_ (fun b hb => by have := (hB0 b hb).1; omega) hsB'
    (hcaps.imp fun d v hr => hr.mono hmB') start
  · refine callsIn_wide.2 ((callsIn_wide.1 key).mono ?_)
    rintro e W3 ⟨⟨v, rfl⟩, F3, B3, k, hJ, hk⟩
    obtain ⟨jD, jfD, jfL, jbD, jbL, jKB, σ3, hp3, js, jmv, jhm, jk⟩ := hJ
    have fin : ∀ W4 o, W4 = W3.putObj L o → ∀ (e : DExit), Q e ⟨s1.fr, hp3⟩ → ∃ s', Cur K N F0 σ0 hp0 w0 s' { a with defers := [{ target := .collected D, args := #[] }] ++ a.defers } W4 ∧ Q e s' := by
      rintro W4 o rfl e hq
      have hkeep : ∀ b, b ≠ L → (W3.putObj L o).heap[b]? = W3.heap[b]? := fun b hb => World.putObj_heap_other hb
      obtain ⟨js4, jm4⟩ := js.turn (K' := fun b => (K' b ∨ b = D ∨ b = L) ∨ B3 b) (F' := F3) (w' := W3.putObj L o) (by simp) (fun b hb => hkeep b fun h => jfL (h ▸ hb)) (fun b _ hb => hkeep b fun h => hb (.inl (.inr (.inr h)))) (fun _ h => h) (fun _ h => .inl h) (fun _ h => .inl h)
        (fun b hb => by simpa using js.fb b hb) (fun b hb => by simpa using js.kb b hb)
      have mv4 : Moves K' F3 W3 F3 (W3.putObj L o) := Moves.put (fun h => (nKD L h).2 rfl) jfL
      refine ⟨⟨s1.fr, hp3⟩, ⟨fun b => K' b ∨ b = D, F3, σ3, fun b hb => .inl (hKK b hb), js4.weak fun b hb => .inl (hb.imp id .inl), hfr (jhm.trans jm4), hN, ⟨⟨D, rfl, .inr rfl, jfD, (hkeep D hDL).trans jD, fun hk => (nKD D (hKK D hk)).1 rfl, fun hd => ?_⟩, ?_⟩, hmv.trans ((jmv.trans mv4).weak hKK), hhm.trans (jhm.trans jm4)⟩, hq⟩
      · obtain ⟨D', h1, h2⟩ := hdef.mem _ hd
        injection h1 with h1
        injection h1 with h1
        exact (nKD D' h2).1 h1.symm
      · exact (hdef.move (jmv.trans mv4)).weak fun b hb => .inl hb
    rcases hk with rfl | rfl
    · obtain ⟨jc, j1, j2⟩ := jk
      have hend := run_endLoop (P := P) j1 (by rw [hrec]; simp)
      rw [hrec] at hend
      refine ⟨some jc, _, by rw [hrec] at j1; exact hend, ?_⟩
      rw [hX] at j2
      rcases j2 with ⟨rfl, hq⟩ | ⟨id, rfl, hq⟩
      · exact wpIn_ret (fin _ _ rfl .ret hq)
      · exact wpIn_exit (fin _ _ rfl (.exit id) hq)
    · have hend := run_endLoop (P := P) jk.1 (by rw [hrec]; simp)
      rw [hrec] at hend
      exact ⟨none, _, hend, fin _ _ rfl .normal (hdone hp3 jk.2)⟩
  · -- one round
    intro k F2 B W x vs hJ hF2 hB hxk hvs
    obtain ⟨jD, jfD, jfL, jbD, jbL, jKB, σ2, hp2, js, jmv, jhm, jl, jI⟩ := hJ
    obtain ⟨hxl, hbody⟩ := hround k x hp2 jI hxk
    have hlv : vs.length = qs.size := by rw [← hvs.1, hxl, ← hps]; simp
    have hy := run_yield (P := P) (args := vs.toArray) jl (by rw [hrec]; simpa using hlv)
    rw [hrec] at hy
    dsimp only at hy
    refine ⟨fn, _, asg, c, hy, roundIn_of_wpIn trivial ?_⟩
    have hfold : (qs.zip vs.toArray).foldl (fun t (y : Nat × Value) => t.setIfInBounds y.1 y.2) a.tmps = (ps.zip vs).foldl (fun t (y : Nat × Value) => t.setIfInBounds y.1 y.2) a.tmps := by
      rw [← Array.foldl_toList, Array.toList_zip, hps]
    have hfsz : ∀ (l : List (Nat × Value)) (t : Array Value), (l.foldl (fun t (y : Nat × Value) => t.setIfInBounds y.1 y.2) t).size = t.size := by
      intro l
      induction l with
      | nil => intro t; rfl
      | cons y l ih => intro t; rw [List.foldl_cons, ih]; simp
    have hfr2 : FRep F2 σ2 hp2 W (ps.zip x ++ s1.fr) ((ps.zip vs).foldl (fun t (y : Nat × Value) => t.setIfInBounds y.1 y.2) a.tmps) :=
      frame_fold ps x vs a.tmps s1.fr hnd (hvs.imp fun d v hr => hr.mono hm0) hxl (fun p hp => by
        rw [hN]; simpa using List.all_eq_true.1 hlt p hp) (hfr jhm)
    have hcur : Cur (fun b => (K' b ∨ b = D ∨ b = L) ∨ B b) N F2 σ2 hp2 W ⟨ps.zip x ++ s1.fr, hp2⟩ { tmps := (ps.zip vs).foldl (fun t (y : Nat × Value) => t.setIfInBounds y.1 y.2) a.tmps, defers := [] } W :=
      ⟨_, F2, σ2, fun _ h => h, js, hfr2, by rw [hfsz]; exact hN, trivial, .refl _ _ _, .refl _ _ _ _⟩
    have hbwA := ihA L _ F2 σ2 hp2 W _ _ _ W hmA hbody hcur
    have e1 : (qs.zip vs.toArray).foldl (fun (tmps : Array Value) (x : Nat × Value) => match x with | (t, a) => tmps.setIfInBounds t a) a.tmps = (ps.zip vs).foldl (fun t (y : Nat × Value) => t.setIfInBounds y.1 y.2) a.tmps := hfold
    rw [e1]
    refine wpIn_mono (show Code.wpIn (Fence.wide.inRound L) 0 P asg _ _ W from hbwA) ?_
    rintro eA aA WA hqA
    cases eA with
    | exit id => exact hqA.choose_spec.2.elim
    | ret => exact hqA.choose_spec.2.elim
    | goto l => exact hqA.elim
    | panic c => exact hqA.elim
    | outgrown => exact hqA.elim
    | normal =>
    obtain ⟨sA, ⟨KA, FA, σA, hKA, hsA, hfA, hNA, hdA, hmvA, hhmA⟩, hbody2⟩ := hqA
    simp only [DExit.only] at hbody2
    have lA : WA.heap[L]? = some (.loop (rec .ready none)) := (hmvA.keepK L (.inl (.inr (.inr rfl)))).trans jl
    have ltLA : L < WA.heap.size := (Array.getElem?_eq_some_iff.1 lA).1
    have fAL : ¬ FA L := fun h => (hmvA.new L h).elim jfL (fun h => h (.inl (.inr (.inr rfl))))
    refine ⟨_, run_beginRound lA (by rw [hrec]), ?_⟩
    generalize hWb : WA.putObj L (.loop { rec .ready none with state := .busy }) = Wb
    have hkb : ∀ b, b ≠ L → Wb.heap[b]? = WA.heap[b]? := fun b hb => by rw [← hWb]; exact World.putObj_heap_other hb
    have hszb : Wb.heap.size = WA.heap.size := by rw [← hWb]; simp
    have hLb : Wb.heap[L]? = some (.loop { rec .ready none with state := .busy }) := by rw [← hWb]; exact World.putObj_heap_same ltLA
    obtain ⟨jsb, jmb⟩ := hsA.turn (K' := KA) (F' := FA) (w' := Wb) (by omega) (fun b hb => hkb b fun h => fAL (h ▸ hb)) (fun b _ hb => hkb b fun h => hb (h ▸ hKA L (.inl (.inr (.inr rfl))))) (fun _ h => h) (fun _ h => .inl h) (fun _ h => .inl h)
      (fun b hb => by rw [hszb]; exact hsA.fb b hb) (fun b hb => by rw [hszb]; exact hsA.kb b hb)
    have mvb : Moves K' FA WA FA Wb := by rw [← hWb]; exact Moves.put (fun h => (nKD L h).2 rfl) fAL
    have hdb : Marks (fun b => (K' b ∨ b = D ∨ b = L) ∨ B b) KA FA Wb aA.defers := by
      rw [← hWb]
      exact hdA.put fun hd => by
        obtain ⟨D', h1, h2⟩ := hdA.at _ hd
        injection h1 with h1
        injection h1 with h1
        rw [← h1, lA] at h2; cases h2
    have hcurb : Cur (fun b => (K' b ∨ b = D ∨ b = L) ∨ B b) N FA σA sA.hp Wb sA aA Wb :=
      ⟨KA, FA, σA, hKA, jsb, fun n => (hfA n).mono jmb, hNA, hdb, .refl _ _ _, .refl _ _ _ _⟩
    have hbw := ih L _ FA σA sA.hp Wb _ _ _ Wb hm hbody2 hcurb
    refine wpIn_mono (show Code.wpIn (Fence.wide.inRound L) 0 P c _ _ Wb from hbw) ?_
    -- the round's end
    have fin : ∀ (jump : Option Code) (s3 : DS) (a3 : Act) (W3 : World) (hp3 : List DObj), Cur (fun b => (K' b ∨ b = D ∨ b = L) ∨ B b) N FA σA sA.hp Wb s3 a3 W3 →
        (hp3 = (s3.cut [] m).hp ∨ hp3 = s3.hp) → (match jump with | none => I (k + 1) hp3 | some jc => X jc hp3) →
        ∃ v w', (Instr.endRound L jump).run P W3 = .ok v w' ∧ ∃ b F', Ending.returned v = .returned (.bool b) ∧ (∀ c, F2 c → F' c) ∧ (∀ c, F' c → F2 c ∨ ¬ B c) ∧ (∀ c, F' c → c < w'.heap.size) ∧ W.heap.size ≤ w'.heap.size ∧
          (∀ c, F2 c → w'.heap[c]? = W.heap[c]?) ∧ (∀ c, B c → w'.heap[c]? = W.heap[c]?) ∧ JR K' F σ s1.hp w D L rec I X (if b then some (k + 1) else none) F' B w' := by
      rintro jump s3 a3 W3 hp3 ⟨Kz, F3, σ3, hKz, hs3, _, _, _, hmv3, hhm3⟩ hhp hj
      have l3 : W3.heap[L]? = some (.loop { rec .ready none with state := .busy }) := (hmv3.keepK L (.inl (.inr (.inr rfl)))).trans hLb
      have hend := run_endRound (P := P) jump l3
      have hkeep : ∀ o b, b ≠ L → (W3.putObj L o).heap[b]? = W3.heap[b]? := fun o b hb => World.putObj_heap_other hb
      have f3L : ¬ F3 L := fun h => (hmv3.new L h).elim fAL (fun h => h (.inl (.inr (.inr rfl))))
      have fAD : ¬ FA D := fun h => (hmvA.new D h).elim jfD (fun h => h (.inl (.inr (.inl rfl))))
      have f3D : ¬ F3 D := fun h => (hmv3.new D h).elim fAD (fun h => h (.inl (.inr (.inl rfl))))
      refine ⟨_, _, hend, jump.isNone, F3, rfl, fun c hc => hmv3.mono c (hmvA.mono c hc), fun c hc => ?_, fun c hc => by simpa using hs3.fb c hc, by have := hmv3.size; have := hmvA.size; simp; omega, fun c hc => ?_, fun c hc => ?_, ?_⟩
      · rcases hmv3.new c hc with h | h
        · exact (hmvA.new c h).imp id fun h hb => h (.inr hb)
        · exact .inr fun hb => h (.inr hb)
      · have : c ≠ L := fun h => jfL (h ▸ hc)
        exact (hkeep _ c this).trans ((hmv3.keepF c (hmvA.mono c hc)).trans ((hkb c this).trans (hmvA.keepF c hc)))
      · have : c ≠ L := fun h => jbL (h ▸ hc)
        exact (hkeep _ c this).trans ((hmv3.keepK c (.inr hc)).trans ((hkb c this).trans (hmvA.keepK c (.inr hc))))
      generalize hob : Obj.loop { rec .ready none with state := if jump.isNone then .ready else .done, pending := jump } = ob
      obtain ⟨js4, jm4⟩ := (hs3.weak hKz).turn (K' := fun b => (K' b ∨ b = D ∨ b = L) ∨ B b) (F' := F3) (w' := W3.putObj L ob) (by simp) (fun b hb => hkeep _ b fun h => f3L (h ▸ hb)) (fun b _ hb => hkeep _ b fun h => hb (.inl (.inr (.inr h)))) (fun _ h => h) (fun _ h => .inl h) (fun _ h => .inl h)
        (fun b hb => by simpa using hs3.fb b hb) (fun b hb => by simpa using hs3.kb b (hKz b hb))
      have wk : ∀ b, K' b → (K' b ∨ b = D ∨ b = L) ∨ B b := fun b hb => .inl (.inl hb)
      have hmv4 : Moves K' F w F3 (W3.putObj L ob) := (((jmv.trans (hmvA.weak wk)).trans mvb).trans (hmv3.weak wk)).trans (Moves.put (fun h => (nKD L h).2 rfl) f3L)
      have hhm4 : HM F σ s1.hp w F3 σ3 s3.hp (W3.putObj L ob) := (((jhm.trans hhmA).trans jmb).trans hhm3).trans jm4
      have l4 : (W3.putObj L ob).heap[L]? = some ob := World.putObj_heap_same (Array.getElem?_eq_some_iff.1 l3).1
      have d4 : (W3.putObj L ob).heap[D]? = some (.deferred (some [])) := (hkeep _ D hDL).trans ((hmv3.keepK D (.inl (.inr (.inl rfl)))).trans ((hkb D hDL).trans ((hmvA.keepK D (.inl (.inr (.inl rfl)))).trans jD)))
      have both : SimH (fun b => (K' b ∨ b = D ∨ b = L) ∨ B b) F3 σ3 hp3 (W3.putObj L ob) ∧ HM F σ s1.hp w F3 σ3 hp3 (W3.putObj L ob) := by
        rcases hhp with rfl | rfl
        · cases m with
          | none => exact ⟨js4, hhm4⟩
          | some m =>
            refine ⟨js4.cut m, hhm4.cut ?_⟩
            rw [← hs1]; simp [DS.cut]; omega
        · exact ⟨js4, hhm4⟩
      refine ⟨d4, f3D, f3L, jbD, jbL, jKB, σ3, hp3, both.1, hmv4, both.2, ?_⟩
      cases jump with
      | none => exact ⟨by rw [l4, ← hob, hrec]; rfl, hj⟩
      | some jc => exact ⟨jc, by rw [l4, ← hob, hrec]; rfl, hj⟩
    rintro e a3 W3 hq
    cases e with
    | normal => obtain ⟨s3, hc3, h3⟩ := hq; exact fin none s3 a3 W3 _ hc3 (.inl rfl) h3
    | ret => obtain ⟨s3, hc3, h3⟩ := hq; exact fin (some .ret) s3 a3 W3 _ hc3 (.inr rfl) (by rw [hX]; exact .inl ⟨rfl, h3⟩)
    | exit id => obtain ⟨s3, hc3, h3⟩ := hq; exact fin (some (.exit id)) s3 a3 W3 _ hc3 (.inr rfl) (by rw [hX]; exact .inr ⟨id, rfl, h3⟩)
    | goto l => exact hq.elim
    | panic c => exact hq.elim
    | outgrown => exact hq.elim

theorem code_soundIn [Inhabited Env] (hC : C.ok P) : ∀ (dc : DCode) (c : Code) (ro : Option Nat) (n : Nat) (K F0 : Nat → Prop) (σ0 : Nat → Option Nat) (hp0 : List DObj) (w0 : World) (Q : DExit → DS → Prop) (s : DS) (a : Act) (w : World), (ro = none ∨ plainC c = true) → mCode P N c dc = true → dwp C hp0.length dc Q s → Cur K N F0 σ0 hp0 w0 s a w → Code.wpIn (Fw ro) n P c (QQ K N F0 σ0 hp0 w0 Q) a w
  | .ops draw' dl, cc, ro, n, K, F0, σ0, hp0, w0, Q, s, a, w, hp, hm, h, hc => by
    cases cc with
    | region rid ops draw =>
      simp only [mCode, Bool.and_eq_true] at hm
      obtain ⟨_, hm⟩ := hm
      simp only [plainC] at hp
      cases draw with
      | false => exact wpIn_region_list (ops_soundIn hC (fun s' a' w' hc' h' => ⟨s', hc', h'⟩) (hp.imp id fun h => by rwa [← Array.all_toList] at h) (by simpa using hm) hc h)
      | true =>
        refine region_drawIn hC hp (seps := []) (by simpa using hm) (fun s' a' w' hc' h' => ⟨s', hc', h'⟩) hc (fun p hp => by simp at hp) ?_
        rw [placesD_ops]
        exact h
    | _ => exact (Bool.false_ne_true hm).elim
  | .opsP l, cc, ro, n, K, F0, σ0, hp0, w0, Q, s, a, w, hp, hm, h, hc => by
    cases cc with
    | region rid ops draw =>
      simp only [mCode, Bool.and_eq_true] at hm
      obtain ⟨rfl, hm⟩ := hm
      exact region_drawIn hC hp hm (fun s' a' w' hc' h' => ⟨s', hc', h'⟩) hc (fun p hp => by simp at hp) h
    | _ => exact (Bool.false_ne_true hm).elim
  | .opsS seps l, cc, ro, n, K, F0, σ0, hp0, w0, Q, s, a, w, hp, hm, h, hc => by
    cases cc with
    | region rid ops draw =>
      simp only [mCode, Bool.and_eq_true] at hm
      obtain ⟨rfl, hm⟩ := hm
      exact region_drawIn hC hp hm (fun s' a' w' hc' h' => ⟨s', hc', h'⟩) hc (sepJ_of h.1) h.2
    | _ => exact (Bool.false_ne_true hm).elim
  | .seq x' y', cc, ro, n, K, F0, σ0, hp0, w0, Q, s, a, w, hp, hm, h, hc => by
    cases cc with
    | seq x y =>
      simp only [mCode, Bool.and_eq_true] at hm
      simp only [plainC, Bool.and_eq_true] at hp
      refine wpIn_seq (wpIn_mono (code_soundIn hC x' x ro n K F0 σ0 hp0 w0 _ s a w (hp.imp id (·.1)) hm.1 h hc) fun e a' w' hq => ?_)
      cases e with
      | normal => obtain ⟨s', hc', h'⟩ := hq; exact code_soundIn hC y' y ro n K F0 σ0 hp0 w0 Q s' a' w' (hp.imp id (·.2)) hm.2 h' hc'
      | exit id => obtain ⟨s', hc', h'⟩ := hq; exact ⟨s', hc', h'⟩
      | ret => obtain ⟨s', hc', h'⟩ := hq; exact ⟨s', hc', h'⟩
      | goto l => exact hq.elim
      | panic c => exact hq.elim
      | outgrown => exact hq.elim
    | _ => exact (Bool.false_ne_true hm).elim
  | .cond c' x' y', cc, ro, n, K, F0, σ0, hp0, w0, Q, s, a, w, hp, hm, h, hc => by
    cases cc with
    | cond c x y =>
      simp only [mCode, Bool.and_eq_true] at hm
      simp only [plainC, Bool.and_eq_true] at hp
      have hcur := hc
      obtain ⟨K', F, σ, hKK, hs, hf, hN, hdef, hmv, hhm⟩ := hc
      have hv := mArg_rep hf hm.1.1
      simp only [dwp] at h
      cases he : c'.ev s.fr with
      | bool t =>
        rw [he] at hv
        simp only [he] at h
        refine wpIn_cond_split hv.bool_inv (fun ht => code_soundIn hC x' x ro n K F0 σ0 hp0 w0 Q s a w (hp.imp id (·.1)) hm.1.2 (h.1 ht) hcur) (fun ht => code_soundIn hC y' y ro n K F0 σ0 hp0 w0 Q s a w (hp.imp id (·.2)) hm.2 (h.2 ht) hcur)
      | anyb =>
        rw [he] at hv
        simp only [he] at h
        obtain ⟨b, hb⟩ := hv.anyb_inv
        exact wpIn_cond_split hb (fun _ => code_soundIn hC x' x ro n K F0 σ0 hp0 w0 Q s a w (hp.imp id (·.1)) hm.1.2 h.1 hcur) (fun _ => code_soundIn hC y' y ro n K F0 σ0 hp0 w0 Q s a w (hp.imp id (·.2)) hm.2 h.2 hcur)
      | _ => simp only [he] at h
    | _ => exact (Bool.false_ne_true hm).elim
  | .block id' c', cc, ro, n, K, F0, σ0, hp0, w0, Q, s, a, w, hp, hm, h, hc => by
    cases cc with
    | block id c =>
      simp only [mCode, Bool.and_eq_true, beq_iff_eq] at hm
      simp only [plainC] at hp
      obtain ⟨rfl, hm⟩ := hm
      refine wpIn_block (wpIn_mono (code_soundIn hC c' c ro n K F0 σ0 hp0 w0 _ s a w hp hm h hc) fun e a' w' hq => ?_)
      cases e with
      | normal => obtain ⟨s', hc', h'⟩ := hq; exact ⟨s', hc', h'⟩
      | exit k =>
        obtain ⟨s', hc', h'⟩ := hq
        simp only [DExit.inBlock] at h'
        simp only [Exit.inBlock]
        split at h'
        · rename_i e; rw [if_pos e]; exact ⟨s', hc', h'⟩
        · rename_i e; rw [if_neg e]; exact ⟨s', hc', h'⟩
      | ret => obtain ⟨s', hc', h'⟩ := hq; exact ⟨s', hc', h'⟩
      | goto l => exact hq.elim
      | panic c => exact hq.elim
      | outgrown => exact hq.elim
    | _ => exact (Bool.false_ne_true hm).elim
  | .loop live m c', cc, ro, n, K, F0, σ0, hp0, w0, Q, s, a, w, hp, hm, h, hc => by
    cases cc with
    | loop c =>
      simp only [mCode] at hm
      simp only [plainC] at hp
      simp only [dwp] at h
      obtain ⟨hmm, I, μ, h0, hr⟩ := h
      refine wpIn_loop_ghost (fun i a w => ∃ s', Cur K N F0 σ0 hp0 w0 s' a w ∧ I s' ∧ μ s' = i) (μ (s.cut live m)) ⟨_, hc.cut live m hmm, h0, rfl⟩ fun i a w hI => ?_
      obtain ⟨s', hc', hI', rfl⟩ := hI
      refine wpIn_mono (code_soundIn hC c' c ro n K F0 σ0 hp0 w0 _ s' a w hp hm (hr s' hI') hc') fun e a' w' hq => ?_
      cases e with
      | normal =>
        obtain ⟨s'', hc'', h''⟩ := hq
        exact ⟨_, h''.2, s''.cut live m, hc''.cut live m hmm, h''.1, rfl⟩
      | exit id => obtain ⟨s', hc', h'⟩ := hq; exact ⟨s', hc', h'⟩
      | ret => obtain ⟨s', hc', h'⟩ := hq; exact ⟨s', hc', h'⟩
      | goto l => exact hq.elim
      | panic c => exact hq.elim
      | outgrown => exact hq.elim
    | _ => exact (Bool.false_ne_true hm).elim
  | .scope c', cc, ro, n, K, F0, σ0, hp0, w0, Q, s, a, w, hp, hm, h, hc => by
    cases cc with
    | scope c =>
      refine wpIn_scope_straight (wpIn_mono (code_soundIn hC c' c ro n K F0 σ0 hp0 w0 Q s a w hp hm h hc) fun e a' w' hq => ?_)
      cases e with
      | normal => exact hq
      | exit id => exact hq
      | ret => exact hq
      | goto l => exact hq.elim
      | panic c => exact hq.elim
      | outgrown => exact hq.elim
    | _ => exact (Bool.false_ne_true hm).elim
  | .exit id', cc, ro, n, K, F0, σ0, hp0, w0, Q, s, a, w, hp, hm, h, hc => by
    cases cc with
    | exit id =>
      simp only [mCode, beq_iff_eq] at hm
      subst hm
      exact wpIn_exit ⟨s, hc, h⟩
    | _ => exact (Bool.false_ne_true hm).elim
  | .ret, cc, ro, n, K, F0, σ0, hp0, w0, Q, s, a, w, hp, hm, h, hc => by
    cases cc with
    | ret =>
      exact wpIn_ret ⟨s, hc, h⟩
    | _ => exact (Bool.false_ne_true hm).elim
  | .skip, cc, ro, n, K, F0, σ0, hp0, w0, Q, s, a, w, hp, hm, h, hc => by
    cases cc with
    | skip => exact wpIn_skip ⟨s, hc, h⟩
    | label l => exact wpIn_label ⟨s, hc, h⟩
    | _ => exact (Bool.false_ne_true hm).elim
  | .gown t off z c', c, ro, n, K, F0, σ0, hp0, w0, Q, s, a, w, hp, hm, h, hc => by
    have hm' : mCode P N c c' = true := by cases c <;> simpa only [mCode] using hm
    simp only [dwp] at h
    split at h
    · rename_i hh L i j e1
      split at h
      · rename_i o e2
        rcases h with ⟨⟨h1, h2, h3, h4⟩, h5⟩ | h
        · exact code_soundIn hC c' c ro n K F0 σ0 hp0 w0 Q _ a w hp hm' h5 (hc.gown z e2 h1 (by omega) h4)
        · exact code_soundIn hC c' c ro n K F0 σ0 hp0 w0 Q _ a w hp hm' h hc
      · exact h.elim
    · exact h.elim
  | .cut live m c', c, ro, n, K, F0, σ0, hp0, w0, Q, s, a, w, hp, hm, h, hc => by
    have hm' : mCode P N c c' = true := by cases c <;> simpa only [mCode] using hm
    exact code_soundIn hC c' c ro n K F0 σ0 hp0 w0 Q (s.cut live m) a w hp hm' h.2 (hc.cut live m h.1)
  | .rsv c', c, ro, n, K, F0, σ0, hp0, w0, Q, s, a, w, hp, hm, h, hc => by
    have hm' : mCode P N c c' = true := by cases c <;> simpa only [mCode] using hm
    exact code_soundIn hC c' c ro n K F0 σ0 hp0 w0 Q _ a w hp hm' h hc.rsv
  | .bad, _, ro, n, K, F0, σ0, hp0, w0, Q, s, a, w, _, _, h, hc => h.elim
  | .rangeF live m g ps asg' c', cc, ro, n, K, F0, σ0, hp0, w0, Q, s, a, w, hp, hm, h, hc => by
    cases cc with
    | rangeFunc f qs asg c =>
      obtain rfl : ro = none := hp.elim id fun h => by simp [plainC] at h
      have hpl : plainC asg = true ∧ plainC c = true := by simp only [mCode, Bool.and_eq_true] at hm; exact ⟨hm.1.1.1.2, hm.1.1.2⟩
      exact range_sound hC (fun L K F0 σ0 hp0 w0 Q s a w h1 h2 h3 => code_soundIn hC asg' asg (some L) 0 K F0 σ0 hp0 w0 Q s a w (.inr hpl.1) h1 h2 h3) (fun L K F0 σ0 hp0 w0 Q s a w h1 h2 h3 => code_soundIn hC c' c (some L) 0 K F0 σ0 hp0 w0 Q s a w (.inr hpl.2) h1 h2 h3) hm h hc
    | _ => exact (Bool.false_ne_true hm).elim
end
end Go.Nk
