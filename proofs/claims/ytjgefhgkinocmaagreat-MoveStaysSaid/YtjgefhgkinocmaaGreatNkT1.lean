/- Codes in a round's frame; how a heap stands a change of the others' blocks. -/
import Derived.Test.YtjgefhgkinocmaaGreatNkS
import Derived.Deep.LoopGhost
import Derived.Scope
set_option linter.all false
namespace Go.Nk
open Go.RowKit

/-- The widest fence, in a round's frame or not. -/
def Fw (ro : Option Nat) : Fence := { Fence.wide with round := ro }

def plainOp (o : Oper) : Bool := match o.op with | .defer _ => false | _ => true
/-- Neither puts a call off nor ranges over a function. -/
def plainC : Code → Bool
  | .region _ ops _ => ops.all plainOp
  | .seq a b => plainC a && plainC b
  | .cond _ a b => plainC a && plainC b
  | .block _ c => plainC c
  | .loop c => plainC c
  | .scope c => plainC c
  | .rangeFunc .. => false
  | _ => true

theorem callsFw {ro : Option Nat} {n : Nat} {P : Program} {f : FuncId} {args : Array Value} {w : World} {R : Ending → World → Prop} (h : Calls P f args w R) : CallsIn (Fw ro) n P f args w R :=
  show CallsIn Fence.wide n P f args w R from callsIn_wide.2 h

theorem rowsFw {ro : Option Nat} {n : Nat} {P : Program} {row : String} {args : Array Value} {w : World} {R : Value → World → Prop} (h : _root_.Go.Rows P row args w R) : RowsIn (Fw ro) n P row args w R :=
  show RowsIn Fence.wide n P row args w R from fun c cs _ => let ⟨v, w', r, s⟩ := h c cs; ⟨v, w', r, stepsIn_wide.2 s⟩

theorem opIn {P : Program} {o : Oper} {a : Act} {w : World} {Kn : Act → World → Prop} {Q : Exit → Act → World → Prop} {ro : Option Nat} {n : Nat} (hd : ro = none ∨ plainOp o = true) (h : o.wp P a w Kn Q) : o.wpIn (Fw ro) n P a w Kn Q := by
  unfold Oper.wp at h
  refine ⟨fun _ _ => trivial, ?_⟩
  have e : o.semAt (Fw ro).round a.eval = execOp a.eval o := by
    rcases hd with rfl | hd
    · rfl
    · refine Oper.semAt_eq _ _ _ fun c hc => ?_
      simp [plainOp, hc] at hd
  rw [e]
  generalize (execOp a.eval o).run P w = r at h ⊢
  cases r with
  | ok x w' =>
    cases x with
    | value v => exact h
    | skip => exact h
    | defer d => exact h
    | enter f args =>
      rw [Oper.upon_enter] at h
      rw [Oper.uponIn_enter]
      exact ⟨fun hh => by simp [Fw, Fence.wide] at hh, callsFw (h.mono fun e w'' hr => by cases e <;> exact hr)⟩
    | row row args =>
      rw [Oper.upon_row] at h
      rw [Oper.uponIn_row]
      exact ⟨fun hh => by simp [Fw, Fence.wide] at hh, rowsFw h⟩
    | _ => exact h.elim
  | halt x w' =>
    cases x with
    | panic v => exact h
    | _ => exact h.elim

theorem stepR_scope {P : Program} {b : Frame} {a : Act} {k : List Item} {cs : List Frame} {w : World} {c : Code} : step P (lone (b.atR a (.code (.scope c) :: k)) cs w) = .next (lone (b.atR a (.code c :: .inScope c :: k)) cs w) :=
  step_lone_go (by simp [stepG, stepG.exec, Frame.atR])
theorem stepR_inScope {P : Program} {b : Frame} {a : Act} {k : List Item} {cs : List Frame} {w : World} {c : Code} : step P (lone (b.atR a (.inScope c :: k)) cs w) = .next (lone (b.atR a k) cs w) :=
  step_lone_go (by simp [stepG, stepG.exec, Frame.atR])
theorem wpIn_scope_straight {F : Fence} {n : Nat} {P : Program} {c : Code} {Q : Exit → Act → World → Prop} {a : Act} {w : World} (h : c.wpIn F n P (Exit.noGoto Q) a w) : (Code.scope c).wpIn F n P Q a w := by
  intro b k cs hro hb hr
  have h0 : (lone (b.atR a (.code (.scope c) :: k)) cs w).fenced P F := fenced_calm hb hr rfl
  obtain ⟨e, a₁, w₁, hq, harr⟩ := h b (.inScope c :: k) cs hro hb hr
  have h1 : (lone (b.atR a₁ (.inScope c :: k)) cs w₁).fenced P F := fenced_calm hb hr rfl
  cases e with
  | normal => exact ⟨.normal, a₁, w₁, hq, .head h0 stepR_scope (StepsIn.trans harr (.one h1 stepR_inScope))⟩
  | exit id =>
    refine ⟨.exit id, a₁, w₁, hq, fun k' hk => .head h0 stepR_scope (harr.1 k' (by simp [exitTo, hk])), fun hr' hk => ?_⟩
    obtain ⟨k₁, h2, h3⟩ := harr.2 hr' (by simp [exitTo, hk])
    exact ⟨k₁, h2, .head h0 stepR_scope h3⟩
  | goto l => exact hq.elim
  | ret => exact ⟨_, a₁, w₁, hq, .of_steps (.one h0 stepR_scope) harr⟩
  | panic ch => exact ⟨_, a₁, w₁, hq, .of_steps (.one h0 stepR_scope) harr⟩
  | outgrown => exact ⟨_, a₁, w₁, hq, .of_steps (.one h0 stepR_scope) harr⟩

section
variable {P : Program} {K F0 : Nat → Prop} {σ0 : Nat → Option Nat} {hp0 : List DObj} {N : Nat} {w0 : World} {C : Orc}

theorem ops_soundIn [Inhabited Env] (hC : C.ok P) {ro : Option Nat} {n : Nat} {ops : Array Oper} {Q : Exit → Act → World → Prop} {Kd : DS → Prop} (hK : ∀ s' a' w', Cur K N F0 σ0 hp0 w0 s' a' w' → Kd s' → Q .normal a' w') : ∀ {l : List Oper} {dl : List DOper} {s : DS} {a : Act} {w : World},
    (ro = none ∨ l.all plainOp = true) → mOpers P N ops l dl = true → Cur K N F0 σ0 hp0 w0 s a w → dops C dl s Kd → wpListIn (Fw ro) n P ops Q l a w
  | [], [], s, a, w, _, _, hc, h => hK s a w hc h
  | o :: l, d :: dl, s, a, w, hp, hm, hc, h => by
    simp only [mOpers, Bool.and_eq_true] at hm
    simp only [List.all_cons, Bool.and_eq_true] at hp
    have := step_sound hC hm.1 hc h (Kn := wpListIn (Fw ro) n P ops Q l) (Q := Q) (fun s' a' w' hc' h' => ops_soundIn hC hK (hp.imp id (·.2)) hm.2 hc' h')
    unfold wpListIn
    split at this
    · rename_i hw; rw [if_pos hw]; exact opIn (hp.imp id (·.1)) this
    · rename_i hw; rw [if_neg hw]; exact ⟨fun _ _ => trivial, this⟩
  | [], _ :: _, _, _, _, _, hm, _, _ => by simp [mOpers] at hm
  | _ :: _, [], _, _, _, _, hm, _, _ => by simp [mOpers] at hm

theorem any_soundIn [Inhabited Env] (hC : C.ok P) {ro : Option Nat} {n : Nat} {md : Region.Mode} {ops : Array Oper} (hp : ro = none ∨ ops.all plainOp = true) {all : List (Nat × DOper)} (hm : mAt P N ops all = true) {Q : Exit → Act → World → Prop} {Kd : DS → Prop} (hK : ∀ s' a' w', Cur K N F0 σ0 hp0 w0 s' a' w' → Kd s' → Q .normal a' w') :
    ∀ (f : Nat) (listed : Array Bool) (s : DS) (a : Act) (w : World), Cur K N F0 σ0 hp0 w0 s a w → dAny C md ops (lookD all) Kd f listed s → wpAnyIn (Fw ro) n P md ops Q f listed a w
  | 0, listed, s, a, w, hc, h => ⟨h.1, let ⟨s0, e, hk⟩ := h.2; hK s0 a w (hc.eqv e) hk⟩
  | f + 1, listed, s, a, w, hc, h => by
    refine ⟨fun h0 => let ⟨s0, e, hk⟩ := h.1 h0; hK s0 a w (hc.eqv e) hk, fun i hi => ?_⟩
    obtain ⟨d, hd, hs⟩ := h.2 i hi
    obtain ⟨_, o, ho, _⟩ := mem_ready.1 hi
    have hmo := mAt_mem hm (lookD_mem hd) o ho
    unfold wpOpIn
    simp only [ho]
    have hpo : ro = none ∨ plainOp o = true := hp.imp id fun h => by
      have := Array.all_eq_true.1 h i (Array.getElem?_eq_some_iff.1 ho).1
      rwa [(Array.getElem?_eq_some_iff.1 ho).2] at this
    have := step_sound hC hmo hc hs (Kn := wpAnyIn (Fw ro) n P md ops Q f (listed.setIfInBounds i true)) (Q := Q) (fun s' a' w' hc' h' => any_soundIn hC hp hm hK f _ s' a' w' hc' h')
    split at this
    · rename_i hw; rw [if_pos hw]; exact opIn hpo this
    · rename_i hw; rw [if_neg hw]; exact ⟨fun _ _ => trivial, this⟩

theorem region_drawIn [Inhabited Env] (hC : C.ok P) {ro : Option Nat} {n : Nat} {id : Nat} {ops : Array Oper} (hp : ro = none ∨ ops.all plainOp = true) {seps : List (Nat × Nat)} {l : List (Nat × DOper)} (hm : drawOk P N ops seps l = true)
    {Q : Exit → Act → World → Prop} {Kd : DS → Prop} (hK : ∀ s' a' w', Cur K N F0 σ0 hp0 w0 s' a' w' → Kd s' → Q .normal a' w') {s : DS} {a : Act} {w : World} (hc : Cur K N F0 σ0 hp0 w0 s a w) (hJ : SepJ seps s) (h : dops C (l.map (·.2)) s Kd) :
    (Code.region id ops true).wpIn (Fw ro) n P Q a w := by
  simp only [drawOk, Bool.and_eq_true, decide_eq_true_eq, beq_iff_eq] at hm
  obtain ⟨⟨⟨⟨⟨hmix, hn⟩, hlen⟩, hmo⟩, hkp⟩, hlex⟩ := hm
  refine wpIn_region_any hmix ?_
  have := any_soundIn (ro := ro) (n := n) hC hp hmo hK l.length (Array.replicate ops.size false) s a w.drew hc.drew (dAny_lex hkp hn l _ s (fun _ h => h) hlex hJ h)
  rw [hlen] at this
  exact this

/-- The others' blocks change: those that nothing here is said of. -/
theorem SimH.turn [Inhabited Env] {K K' F F' : Nat → Prop} {σ : Nat → Option Nat} {hp : List DObj} {w w' : World} (hs : SimH K F σ hp w) (size : w.heap.size ≤ w'.heap.size) (keep : ∀ b, F b → w'.heap[b]? = w.heap[b]?) (heap : ∀ b, b < w.heap.size → ¬ K b → w'.heap[b]? = w.heap[b]?)
    (hF : ∀ b, F b → F' b) (newF : ∀ b, F' b → F b ∨ K b ∨ w.heap.size ≤ b) (newK : ∀ b, K' b → K b ∨ w.heap.size ≤ b) (fb : ∀ b, F' b → b < w'.heap.size) (kb : ∀ b, K' b → b < w'.heap.size) :
    SimH K' F' σ hp w' ∧ HM F σ hp w F' σ hp w' := by
  have same : ∀ (h : Nat) (o : DObj) (g : Nat), hp[h]? = some o → o.k ≠ .dead → σ h = some g → w'.heap[g]? = w.heap[g]? := by
    intro h o g ho hd hg
    by_cases hm : o.k.mut
    · exact heap g (hs.blk_lt ho hd hg) (hs.mut_nF ho hm hg).2
    · exact keep g (hs.frz_F ho (mut_or _ hd hm) hg)
  have hm : HM F σ hp w F' σ hp w' := ⟨hF, keep, Nat.le_refl _, fun h o ho => ⟨o, ho, Nat.le_refl _, fun hd _ => ⟨hd, rfl, rfl, fun g hg => bsz_of (same h o g ho hd hg)⟩⟩⟩
  refine ⟨⟨fun h o ho => ?_, hs.inj, fb, kb, hs.tab.mono hm.keepF hm.mono⟩, hm⟩
  have old := hs.obj _ _ ho
  have nF : ∀ g, g < w.heap.size → ¬ F g → ¬ K g → ¬ F' g := fun g hl h1 h2 hF => (newF g hF).elim h1 (fun h => h.elim h2 (fun h => by omega))
  have nK : ∀ g, g < w.heap.size → ¬ K g → ¬ K' g := fun g hl h1 hk => (newK g hk).elim h1 (fun h => by omega)
  unfold ORep at old ⊢
  split
  · trivial
  · rename_i hkk
    rw [hkk] at old; dsimp only at old
    rcases old with ⟨h0, h1⟩ | ⟨g, hg, h1, h2, hb⟩
    · exact .inl ⟨h0, h1⟩
    · exact .inr ⟨g, hg, nF g hb.lt h1 h2, nK g hb.lt h2, hb.mono (same h o g ho (by rw [hkk]; simp) hg) fun d v h => ⟨h.1.mono hm.mono hm.keepF, h.2⟩⟩
  · rename_i hkk
    rw [hkk] at old; dsimp only at old
    rcases old with ⟨h0, h1⟩ | ⟨g, hg, h1, hb⟩
    · exact .inl ⟨h0, h1⟩
    · exact .inr ⟨g, hg, hF _ h1, hb.mono (same h o g ho (by rw [hkk]; simp) hg) fun d v h => ⟨h.1.mono hm.mono hm.keepF, h.2⟩⟩
  · rename_i hkk
    rw [hkk] at old; dsimp only at old
    obtain ⟨g, hg, h1, h2, hb⟩ := old
    exact ⟨g, hg, nF g hb.lt h1 h2, nK g hb.lt h2, hb.mono (same h o g ho (by rw [hkk]; simp) hg) fun d v h => h.mono hm⟩

theorem Moves.put {K F : Nat → Prop} {w : World} {L : Nat} {o : Obj} (hK : ¬ K L) (hF : ¬ F L) : Moves K F w F (w.putObj L o) :=
  ⟨rfl, rfl, rfl, by simp, fun b hb => World.putObj_heap_other (fun e => hK (e ▸ hb)), fun b hb => World.putObj_heap_other (fun e => hF (e ▸ hb)), fun _ h => h, fun _ h => .inl h⟩

theorem Marks.weak {K0 K K' F : Nat → Prop} {w : World} (hK : ∀ b, K b → K' b) : ∀ {ds : List Deferred}, Marks K0 K F w ds → Marks K0 K' F w ds
  | [], _ => trivial
  | d :: ds, h => by
    obtain ⟨⟨D, h1, h2, h3⟩, h4⟩ := h
    exact ⟨⟨D, h1, hK D h2, h3⟩, h4.weak hK⟩
theorem Marks.put {K0 K F : Nat → Prop} {w : World} {D : Nat} {o : Obj} : ∀ {ds : List Deferred}, Marks K0 K F w ds → ({ target := .collected D, args := #[] } : Deferred) ∉ ds → Marks K0 K F (w.putObj D o) ds
  | [], _, _ => trivial
  | d :: ds, h, hn => by
    obtain ⟨⟨D', h1, h2, h3, h4, h5⟩, h6⟩ := h
    refine ⟨⟨D', h1, h2, h3, (World.putObj_heap_other fun e => ?_).trans h4, h5⟩, h6.put fun h => hn (List.mem_cons_of_mem _ h)⟩
    subst e; exact hn (h1 ▸ List.mem_cons_self)
theorem Marks.mem {K0 K F : Nat → Prop} {w : World} : ∀ {ds : List Deferred}, Marks K0 K F w ds → ∀ d ∈ ds, ∃ D, d = { target := .collected D, args := #[] } ∧ K D
  | [], _, d, hd => by cases hd
  | d :: ds, h, e, he => by
    rcases List.mem_cons.1 he with rfl | he
    · exact ⟨h.1.choose, h.1.choose_spec.1, h.1.choose_spec.2.1⟩
    · exact h.2.mem e he

theorem Marks.at {K0 K F : Nat → Prop} {w : World} : ∀ {ds : List Deferred}, Marks K0 K F w ds → ∀ d ∈ ds, ∃ D, d = { target := .collected D, args := #[] } ∧ w.heap[D]? = some (.deferred (some []))
  | [], _, d, hd => by cases hd
  | d :: ds, h, e, he => by
    rcases List.mem_cons.1 he with rfl | he
    · exact ⟨h.1.choose, h.1.choose_spec.1, h.1.choose_spec.2.2.2.1⟩
    · exact h.2.at e he

theorem get_move (p : Nat) (d : DV) (fr : List (Nat × DV)) : ∀ (l : List (Nat × DV)), (∀ x ∈ l, x.1 ≠ p) → ∀ n, get n (l ++ (p, d) :: fr) = get n ((p, d) :: (l ++ fr))
  | [], _, n => rfl
  | (q, e) :: l, h, n => by
    have ih := get_move p d fr l (fun x hx => h x (List.mem_cons_of_mem _ hx)) n
    have hq : q ≠ p := h (q, e) List.mem_cons_self
    simp only [List.cons_append, get_cons, ih]
    by_cases h1 : n = q
    · subst h1; simp [hq]
    · simp [h1]
theorem frame_fold {R : DV → Value → Prop} : ∀ (ps : List Nat) (x : List DV) (vs : List Value) (tm : Array Value) (fr : List (Nat × DV)), ps.Nodup → All2 R x vs → x.length = ps.length → (∀ p ∈ ps, p < tm.size) →
    (∀ n, R (get n fr) (tm.getD n undef)) → ∀ n, R (get n (ps.zip x ++ fr)) (((ps.zip vs).foldl (fun t (y : Nat × Value) => t.setIfInBounds y.1 y.2) tm).getD n undef)
  | [], x, vs, tm, fr, _, _, hl, _, h, n => by simpa using h n
  | p :: ps, [], vs, tm, fr, _, _, hl, _, _, n => by simp at hl
  | p :: ps, d :: x, vs, tm, fr, hn, hv, hl, hp, h, n => by
    obtain ⟨v, vs', rfl, h0, h1⟩ := hv.cons
    rw [List.nodup_cons] at hn
    have := frame_fold ps x vs' (tm.setIfInBounds p v) ((p, d) :: fr) hn.2 h1 (by simpa using hl) (fun q hq => by simpa using hp q (List.mem_cons_of_mem _ hq)) (fun n => by
      rw [get_cons]
      have hpl := hp p List.mem_cons_self
      by_cases e : n = p
      · subst e; rw [if_pos rfl]; simpa [Array.getD, hpl] using h0
      · rw [if_neg e]
        have e2 : (tm.setIfInBounds p v).getD n undef = tm.getD n undef := by simp [Array.getElem?_setIfInBounds_ne (Ne.symm e)]
        rw [e2]; exact h n) n
    rw [get_move p d fr (ps.zip x) (fun y hy => by
      have := (List.of_mem_zip hy).1
      intro e; rw [e] at this; exact hn.1 this)] at this
    simpa using this
end
end Go.Nk
