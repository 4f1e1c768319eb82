/- Functions: a contract from what the data level shows of the body. -/
import Derived.Test.YtjgefhgkinocmaaGreatNkT
set_option linter.all false
namespace Go.Nk
open Go.RowKit

inductive DR where
  | t (n : Nat)
  | cell (n : Nat) (sz : Option Nat)

def DR.val (s : DS) : DR → Prop × DV
  | .t n => (True, get n s.fr)
  | .cell n sz => dLoad sz (cellsAt s.hp (get n s.fr))

def retL (s : DS) : List DR → Prop × List DV
  | [] => (True, [])
  | r :: rs => ((r.val s).1 ∧ (retL s rs).1, (r.val s).2 :: (retL s rs).2)

def retV (s : DS) : List DR → Prop × DV
  | [r] => r.val s
  | rs => ((retL s rs).1, .tup (retL s rs).2)

def mRes1 (P : Program) : ResultVar → DR → Bool
  | .tmp t, .t n => t == n
  | .cell a t, .cell n sz => a == n && decide (szOf P t = some sz)
  | _, _ => false

def mRes (P : Program) : List ResultVar → List DR → Bool
  | [], [] => true
  | x :: xs, y :: ys => mRes1 P x y && mRes P xs ys
  | _, _ => false

def frameFrom : Nat → List DV → List (Nat × DV)
  | _, [] => []
  | n, d :: r => (n, d) :: frameFrom (n + 1) r

def fzT (hp : List DObj) : DV → Res
  | .tup vs => let x := fzVs hp vs; ⟨x.pre, .tup x.vals, x.hp⟩
  | d => fzV hp d

/-- A function as the data level has it. -/
structure DFun where
  code : DCode
  res : List DR

def mFun (P : Program) (f : FuncId) (n : Nat) (d : DFun) : Bool :=
  match P.funcs[f]? with
  | some fn => match fn.body with
    | some c => !(fn.name == "runtime.NumGoroutine") && decide (n ≤ fn.ntmps) && mCode P fn.ntmps c d.code && mRes P fn.results.toList d.res
    | none => false
  | none => false

section
variable {P : Program} {K F0 : Nat → Prop} {σ0 : Nat → Option Nat} {hp0 : List DObj} {N : Nat} {w0 : World} {C : Orc}

def resOne (tmps : Array Value) : ResultVar → Sem Value
  | .tmp t => pure (tmps.getD t undef)
  | .cell a t => do loadVar t (← asAddr (tmps.getD a undef))

theorem res1_run [Inhabited Env] {F : Nat → Prop} {σ : Nat → Option Nat} {s : DS} {w : World} {tmps : Array Value} (hs : SimH K F σ s.hp w) (hf : FRep F σ s.hp w s.fr tmps) {x : ResultVar} {y : DR} (hm : mRes1 P x y = true) (h : (y.val s).1) :
    ∃ v, (resOne tmps x).run P w = .ok v w ∧ VRep F σ s.hp w (y.val s).2 v := by
  unfold mRes1 at hm
  split at hm
  · rename_i t n
    simp at hm; subst hm
    exact ⟨_, rfl, hf t⟩
  · rename_i a t n sz
    simp only [Bool.and_eq_true, beq_iff_eq, decide_eq_true_eq] at hm
    obtain ⟨rfl, hsz⟩ := hm
    obtain ⟨u, hu, hr⟩ := r_dload (P := P) hs hsz (hf a) h
    obtain ⟨b, hb, _⟩ := cellsAt_rep hs (hf a) (by simp only [DR.val] at h; cases sz <;> exact h.1)
    refine ⟨u, ?_, hr⟩
    have e : tmps.getD a undef = .pointer (some b) := hb
    simp only [resOne, e, asAddr, Sem.run_bind, Sem.run_pure, Result.andThen_ok]
    rw [hb] at hu
    simpa [Instr.loadAt, Instr.sureAddr] using hu
  · cases hm

theorem resL_run [Inhabited Env] {F : Nat → Prop} {σ : Nat → Option Nat} {s : DS} {w : World} {tmps : Array Value} (hs : SimH K F σ s.hp w) (hf : FRep F σ s.hp w s.fr tmps) : ∀ {xs : List ResultVar} {ys : List DR}, mRes P xs ys = true → (retL s ys).1 →
    ∃ vs, (xs.mapM (resOne tmps)).run P w = .ok vs w ∧ All2 (VRep F σ s.hp w) (retL s ys).2 vs
  | [], [], _, _ => ⟨[], by simp, .mk_nil⟩
  | x :: xs, y :: ys, hm, h => by
    simp only [mRes, Bool.and_eq_true] at hm
    obtain ⟨v, h1, h2⟩ := res1_run hs hf hm.1 h.1
    obtain ⟨vs, h3, h4⟩ := resL_run hs hf hm.2 h.2
    exact ⟨v :: vs, by rw [List.mapM_cons, Sem.run_bind, h1, Result.andThen_ok, Sem.run_bind, h3, Result.andThen_ok]; rfl, .mk_cons h2 h4⟩
  | [], _ :: _, hm, _ => by simp [mRes] at hm
  | _ :: _, [], hm, _ => by simp [mRes] at hm

theorem retL_length (s : DS) : ∀ ys : List DR, (retL s ys).2.length = ys.length
  | [] => rfl
  | y :: ys => by simp [retL, retL_length s ys]

theorem res_run [Inhabited Env] {F : Nat → Prop} {σ : Nat → Option Nat} {s : DS} {w : World} {tmps : Array Value} (hs : SimH K F σ s.hp w) (hf : FRep F σ s.hp w s.fr tmps) {fn : Func} {ys : List DR} (hm : mRes P fn.results.toList ys = true) (h : (retV s ys).1) :
    ∃ v, (results fn tmps).run P w = .ok v w ∧ VRep F σ s.hp w (retV s ys).2 v := by
  have hL : (retL s ys).1 := by
    unfold retV at h
    split at h
    · exact ⟨h, trivial⟩
    · exact h
  obtain ⟨vs, h1, h2⟩ := resL_run hs hf hm hL
  have hrun : (results fn tmps).run P w = .ok (if h : vs.toArray.size = 1 then vs.toArray[0] else .tuple vs.toArray) w := by
    have e : results fn tmps = (do let vs ← fn.results.mapM (resOne tmps); pure (if h : vs.size = 1 then vs[0] else .tuple vs)) := by
      unfold results
      congr 1
    rw [e, Array.mapM_eq_mapM_toList, Sem.run_bind, Sem.run_map, h1]
    rfl
  refine ⟨_, hrun, ?_⟩
  have hlen := h2.1
  rw [retL_length] at hlen
  unfold retV
  split
  · rename_i r
    obtain ⟨v, us, rfl, h0, hr⟩ := h2.cons
    have := hr.nil_; subst this
    simpa using h0
  · rename_i hne
    rw [dif_neg]
    · exact VRep.tup_mk (by simpa using h2.1) fun j d hd => let ⟨u, hu, hr⟩ := h2.2 j d hd; ⟨u, by simpa using hu, hr⟩
    · intro h1'
      have : ys.length = 1 := by rw [hlen]; simpa using h1'
      match ys, this with
      | [r], _ => exact hne r rfl

theorem get_frameFrom : ∀ (ds : List DV) (k n : Nat), get n (frameFrom k ds) = if k ≤ n then (ds[n - k]?).getD .undef else .undef
  | [], k, n => by simp [frameFrom]
  | d :: ds, k, n => by
    simp only [frameFrom, get_cons, get_frameFrom ds (k + 1) n]
    by_cases h : n = k
    · subst h; simp
    · rw [if_neg h]
      by_cases h2 : k + 1 ≤ n
      · rw [if_pos h2, if_pos (by omega)]
        rw [show n - k = (n - (k + 1)) + 1 by omega]; simp
      · rw [if_neg h2, if_neg (by omega)]

theorem frame_start {F : Nat → Prop} {σ : Nat → Option Nat} {hp : List DObj} {w : World} {dargs : List DV} {args : Array Value} {nt : Nat} (ha : All2 (VRep F σ hp w) dargs args.toList) (hn : dargs.length ≤ nt) :
    FRep F σ hp w (frameFrom 0 dargs) (args ++ Array.replicate (nt - args.size) undef) := by
  have hl : dargs.length = args.size := by simpa using ha.1
  intro n
  rw [get_frameFrom, if_pos (Nat.zero_le _), Nat.sub_zero]
  rcases Nat.lt_or_ge n dargs.length with h | h
  · obtain ⟨u, hu, hr⟩ := ha.2 n dargs[n] (by simp [h])
    have h' : n < args.size := by omega
    simp at hu
    simp [h, Array.getElem?_append_left h', hu]
    exact hr
  · simp [List.getElem?_eq_none h]
    exact .undef _

theorem cur_start [Inhabited Env] {F : Nat → Prop} {σ : Nat → Option Nat} {hp : List DObj} {w : World} {dargs : List DV} {args : Array Value} {nt : Nat} (hs : SimH K F σ hp w) (ha : All2 (VRep F σ hp w) dargs args.toList) (hn : dargs.length ≤ nt) :
    Cur K nt F σ hp w ⟨frameFrom 0 dargs, hp⟩ { tmps := args ++ Array.replicate (nt - args.size) undef, defers := [] } w := by
  have hl : dargs.length = args.size := by simpa using ha.1
  exact ⟨K, F, σ, fun _ h => h, hs, frame_start ha hn, by simp; omega, trivial, .refl _ _ _, .refl _ _ _ _⟩

theorem mFun_parts {f : FuncId} {n : Nat} {d : DFun} (h : mFun P f n d = true) : callOk P f = true ∧ ∃ fn c, P.funcs[f]? = some fn ∧ fn.body = some c ∧ n ≤ fn.ntmps ∧ mCode P fn.ntmps c d.code = true ∧ mRes P fn.results.toList d.res = true := by
  unfold mFun at h
  cases hf : P.funcs[f]? with
  | none => simp [hf] at h
  | some fn =>
    simp only [hf] at h
    cases hb : fn.body with
    | none => simp [hb] at h
    | some c =>
      simp only [hb, Bool.and_eq_true, decide_eq_true_eq] at h
      obtain ⟨⟨⟨h1, h2⟩, h3⟩, h4⟩ := h
      exact ⟨by unfold callOk; simp only [hf, hb, Option.isSome_some, Bool.and_true]; exact h1, fn, c, rfl, hb, h2, h3, h4⟩

/-- The blocks that ranges over functions left are shut. -/
theorem leaves_marks [Inhabited Env] {fn : Func} {F : Nat → Prop} {σ : Nat → Option Nat} {hp : List DObj} {w : World} {R : Ending → World → Prop} {s : DS} {tm : Array Value} {K' F' : Nat → Prop} {σ' : Nat → Option Nat}
    (h : ∀ w', CurX K fn.ntmps F σ hp w K' F' σ' s { tmps := tm, defers := [] } w' → ∃ v, (results fn tm).run P w' = .ok v w' ∧ R (.returned v) w') :
    ∀ (ds : List Deferred) (w' : World), CurX K fn.ntmps F σ hp w K' F' σ' s { tmps := tm, defers := ds } w' → LeavesInM Fence.wide 0 P fn tm R ds .returning w'
  | [], w', hc => h w' hc
  | d :: ds, w', hc => by
    obtain ⟨hKK, hs, hf, hN, hdef, hmv, hhm⟩ := hc
    obtain ⟨⟨D, rfl, kD, fD, hD, k0, hni⟩, hrest⟩ := hdef
    refine ⟨by simp, .inl ⟨D, _, rfl, run_takeDeferred hD, leaves_marks h ds _ ?_⟩⟩
    have hkeep : ∀ b, b ≠ D → (w'.putObj D (.deferred none)).heap[b]? = w'.heap[b]? := fun b hb => World.putObj_heap_other hb
    obtain ⟨s1, m1⟩ := hs.turn (K' := K') (F' := F') (w' := w'.putObj D (.deferred none)) (by simp) (fun b hb => hkeep b fun e => fD (e ▸ hb)) (fun b _ hb => hkeep b fun e => hb (e ▸ kD)) (fun _ h => h) (fun _ h => .inl h) (fun _ h => .inl h)
      (fun b hb => by simpa using hs.fb b hb) (fun b hb => by simpa using hs.kb b hb)
    exact ⟨hKK, s1, fun n => (hf n).mono m1, hN, hrest.put hni, hmv.trans (Moves.put k0 fD), hhm.trans m1⟩

/-- A function's contract from its body. -/
theorem calls_of_cur [Inhabited Env] {f : FuncId} {fn : Func} {c : Code} {args : Array Value} {w : World} {R : Ending → World → Prop} {F : Nat → Prop} {σ : Nat → Option Nat} {hp : List DObj} {Q : DExit → DS → Prop}
    (hf : P.funcs[f]? = some fn) (hb : fn.body = some c) (hw : c.wpIn (Fw none) 0 P (QQ K fn.ntmps F σ hp w Q) { tmps := args ++ Array.replicate (fn.ntmps - args.size) undef, defers := [] } w)
    (h : ∀ s a w', Cur K fn.ntmps F σ hp w s a w' → (Q .normal s ∨ Q .ret s) → ∃ v, (results fn a.tmps).run P w' = .ok v w' ∧ R (.returned v) w')
    (hx : ∀ id s, ¬ Q (.exit id) s) : Calls P f args w R := by
  refine callsIn_wide.1 (callsIn_of_wp_marks (F := Fence.wide) (n := 0) hf hb trivial (wpIn_mono (show c.wpIn Fence.wide 0 P _ _ w from hw) ?_))
  have key : ∀ (e : Bool) s a w', Cur K fn.ntmps F σ hp w s a w' → (Q .normal s ∨ Q .ret s) → LeavesInM Fence.wide 0 P fn a.tmps R a.defers .returning w' := by
    rintro _ s ⟨tm, ds⟩ w' ⟨K', F', σ', hx⟩ hq
    exact leaves_marks (fun w'' hc => h s { tmps := tm, defers := [] } w'' ⟨K', F', σ', hc⟩ hq) ds w' hx
  intro e a w' hq
  cases e with
  | normal => obtain ⟨s, hc, h1⟩ := hq; exact key true s a w' hc (.inl h1)
  | ret => obtain ⟨s, hc, h1⟩ := hq; exact key true s a w' hc (.inr h1)
  | exit id => obtain ⟨s, hc, h0⟩ := hq; exact (hx id s h0).elim
  | goto l => exact hq.elim
  | panic c => exact hq.elim
  | outgrown => exact hq.elim

/-- What is asked of an end. -/
def EndH (res : List DR) (r : DV) (hp' : List DObj) : DExit → DS → Prop
  | .exit _, _ => False
  | _, s => (retV s res).1 ∧ (retV s res).2 = r ∧ s.hp = hp'

def EndP (res : List DR) (r : DV) : DExit → DS → Prop
  | .exit _, _ => False
  | _, s => (retV s res).1 ∧ (fzT s.hp (retV s res).2).pre ∧ (fzT s.hp (retV s res).2).val = r

/-- A function that works on the heap. -/
theorem tellsH_of [Inhabited Env] (hC : C.ok P) {f : FuncId} {d : DFun} {dargs : List DV} {hp hp' : List DObj} {r : DV} (hm : mFun P f dargs.length d = true)
    (h : dwp C hp.length d.code (EndH d.res r hp') ⟨frameFrom 0 dargs, hp⟩) : callOk P f = true ∧ TellsH P f dargs hp r hp' := by
  obtain ⟨hok, fn, c, hf, hb, hn, hc, hr⟩ := mFun_parts hm
  refine ⟨hok, fun K F σ w args hs ha => ?_⟩
  refine calls_of_cur hf hb (code_soundIn hC d.code c none 0 K F σ hp w _ _ _ w (.inl rfl) hc h (cur_start hs ha hn)) (fun s a w' hcur hq => ?_) (fun id s h => h)
  obtain ⟨K', F', σ', hKK, hs', hf', hN, hdef, hmv, hhm⟩ := hcur
  have hq' : (retV s d.res).1 ∧ (retV s d.res).2 = r ∧ s.hp = hp' := hq.elim id id
  obtain ⟨h1, rfl, rfl⟩ := hq'
  obtain ⟨v, hv, hrep⟩ := res_run hs' hf' hr h1
  exact ⟨v, hv, v, rfl, F', σ', hs'.weak hKK, hmv, hhm, hrep⟩

theorem fzT_rep [Inhabited Env] {F : Nat → Prop} {σ : Nat → Option Nat} {hp : List DObj} {w : World} (hs : SimH K F σ hp w) {d : DV} {v : Value} (hv : VRep F σ hp w d v) (h : (fzT hp d).pre) :
    ∃ F', Frzd K F σ hp w F' (fzT hp d).hp ∧ VRep F' none_ [] w (fzT hp d).val v := by
  unfold fzT at h ⊢
  split at h
  · obtain ⟨vs, rfl, hl, hr⟩ := hv.tup_inv
    obtain ⟨F', f, r⟩ := fzVs_rep hs (vs := vs.toList) ⟨by simpa using hl, fun j d hd => let ⟨u, hu, hr⟩ := hr j d hd; ⟨u, by simpa using hu, hr⟩⟩ h
    exact ⟨F', f, VRep.tup_mk (by simpa using r.1) fun j d hd => let ⟨u, hu, hr⟩ := r.2 j d hd; ⟨u, by simpa using hu, hr⟩⟩
  · exact fzV_rep hs hv h

/-- A pure function. -/
theorem tellsP_of [Inhabited Env] (hC : C.ok P) {f : FuncId} {d : DFun} {dargs : List DV} {r : DV} (hm : mFun P f dargs.length d = true)
    (h : dwp C 0 d.code (EndP d.res r) ⟨frameFrom 0 dargs, []⟩) : callOk P f = true ∧ TellsP P f dargs r := by
  obtain ⟨hok, fn, c, hf, hb, hn, hc, hr⟩ := mFun_parts hm
  refine ⟨hok, fun K F w args hF hK hX ha => ?_⟩
  have hs : SimH K F none_ [] w := ⟨fun h o ho => by simp at ho, fun h h' o o' g e1 => by simp at e1, hF, hK, hX⟩
  refine calls_of_cur hf hb (code_soundIn hC d.code c none 0 K F none_ [] w _ _ _ w (.inl rfl) hc h (cur_start hs ha hn)) (fun s a w' hcur hq => ?_) (fun id s h => h)
  obtain ⟨K', F', σ', hKK, hs', hf', hN, hdef, hmv, hhm⟩ := hcur
  have hq' : (retV s d.res).1 ∧ (fzT s.hp (retV s d.res).2).pre ∧ (fzT s.hp (retV s d.res).2).val = r := hq.elim id id
  obtain ⟨h1, h2, rfl⟩ := hq'
  obtain ⟨v, hv, hrep⟩ := res_run hs' hf' hr h1
  obtain ⟨F1, f1, r1⟩ := fzT_rep (hs'.weak hKK) hrep h2
  exact ⟨v, hv, v, F1, rfl, hmv.trans f1.2.1, f1.1.fb, r1⟩
end
end Go.Nk
