/- Calls; every operation does what the data level says. -/
import Derived.Test.YtjgefhgkinocmaaGreatNkL
import Derived.RangeFuncOwn
import Derived.RangeFuncLeaves
import Derived.RangeFuncRecord
import Derived.OrdersIn
import Derived.TacticsIn
import Derived.Sort.LoopGhostIn
set_option linter.all false
namespace Go.Nk
open Go.RowKit

def none_ : Nat → Option Nat := fun _ => none

def callOk (P : Program) (f : FuncId) : Bool :=
  match P.funcs[f]? with
  | some fn => !(fn.name == "runtime.NumGoroutine") && fn.body.isSome
  | none => false

/-- What a pure function tells of values without handles. -/
def TellsP [Inhabited Env] (P : Program) (f : FuncId) (dargs : List DV) (r : DV) : Prop :=
  ∀ (K F : Nat → Prop) (w : World) (args : Array Value), (∀ b, F b → b < w.heap.size) → (∀ b, K b → b < w.heap.size) → XF F w → All2 (VRep F none_ [] w) dargs args.toList →
    Calls P f args w fun e w' => ∃ v F', e = .returned v ∧ Moves K F w F' w' ∧ (∀ b, F' b → b < w'.heap.size) ∧ VRep F' none_ [] w' r v

/-- What a function tells that works on the heap. -/
def TellsH [Inhabited Env] (P : Program) (f : FuncId) (dargs : List DV) (hp : List DObj) (r : DV) (hp' : List DObj) : Prop :=
  ∀ (K F : Nat → Prop) (σ : Nat → Option Nat) (w : World) (args : Array Value), SimH K F σ hp w → All2 (VRep F σ hp w) dargs args.toList →
    Calls P f args w fun e w' => ∃ v, e = .returned v ∧ Gives K F σ hp w r hp' v w'

/-- What an iterator does between two rounds: it changes its own blocks B alone; F: what is frozen. -/
structure StepI (F B : Nat → Prop) (W : World) (F' B' : Nat → Prop) (W' : World) : Prop where
  os : W'.os = W.os
  tape : W'.tape = W.tape
  output : W'.output = W.output
  size : W.heap.size ≤ W'.heap.size
  heap : ∀ b, b < W.heap.size → ¬ B b → W'.heap[b]? = W.heap[b]?
  keepF : ∀ b, F b → W'.heap[b]? = W.heap[b]?
  mono : ∀ b, F b → F' b
  new : ∀ b, F' b → F b ∨ B b ∨ W.heap.size ≤ b
  own : ∀ b, B' b → B b ∨ W.heap.size ≤ b
  fb : ∀ b, F' b → b < W'.heap.size
  bb : ∀ b, B' b → b < W'.heap.size

/-- What is to hold between the rounds does not mind what the iterator does. -/
def AbideI (J : Option Nat → (Nat → Prop) → (Nat → Prop) → World → Prop) : Prop :=
  ∀ k F B W F' B' W', J k F B W → StepI F B W F' B' W' → J k F' B' W'

/-- A round, with what is handed over. -/
def RoundsI (P : Program) (l : Nat) (xs : List (List DV)) (J : Option Nat → (Nat → Prop) → (Nat → Prop) → World → Prop) : Prop :=
  ∀ k F B W x vs, J (some k) F B W → (∀ b, F b → b < W.heap.size) → (∀ b, B b → b < W.heap.size) → xs[k]? = some x → All2 (VRep F none_ [] W) x vs →
    ∃ fn tmps assign body, (Instr.yield l vs.toArray).run P W = .ok (.round l fn tmps assign body) W ∧
      RoundIn Fence.wide 0 P l fn tmps assign body W fun e W' => ∃ b F', e = .returned (.bool b) ∧ (∀ c, F c → F' c) ∧ (∀ c, F' c → F c ∨ ¬ B c) ∧ (∀ c, F' c → c < W'.heap.size) ∧ W.heap.size ≤ W'.heap.size ∧
        (∀ c, F c → W'.heap[c]? = W.heap[c]?) ∧ (∀ c, B c → W'.heap[c]? = W.heap[c]?) ∧ J (if b then some (k + 1) else none) F' B W'

/-- What an iterator tells: what it hands over, one after the other, till a round wants no more. -/
def TellsI [Inhabited Env] (P : Program) (f : FuncId) (caps : List DV) (xs : List (List DV)) : Prop :=
  ∀ (l : Nat) (J : Option Nat → (Nat → Prop) → (Nat → Prop) → World → Prop) (F B : Nat → Prop) (σ : Nat → Option Nat) (W : World) (cv : Array Value), AbideI J → RoundsI P l xs J → (∀ b, B b → b < W.heap.size) → SimH (fun b => b < W.heap.size ∧ ¬ B b) F σ (openC caps).2 W →
    All2 (VRep F σ (openC caps).2 W) (openC caps).1 cv.toList → J (some 0) F B W →
    CallsIn Fence.wide 0 P f (#[.func (.yield l) #[] #[]] ++ cv) W fun e W' => (∃ v, e = .returned v) ∧ ∃ F' B' k, J k F' B' W' ∧ (k = none ∨ k = some xs.length)

structure Orc.ok [Inhabited Env] (P : Program) (C : Orc) : Prop where
  p : ∀ f args, (C.p f args).1 → callOk P f = true ∧ TellsP P f args (C.p f args).2
  h : ∀ f args hp, (C.h f args hp).pre → callOk P f = true ∧ TellsH P f args hp (C.h f args hp).val (C.h f args hp).hp
  i : ∀ f caps, (C.i f caps).1 → callOk P f = true ∧ TellsI P f caps (C.i f caps).2

section
variable {P : Program} {K F F' : Nat → Prop} {σ σ' : Nat → Option Nat} {hp hp' : List DObj} {w w' : World} {fr : List (Nat × DV)} {a : Act} {o : Oper} {C : Orc}

def Meets (P : Program) (o : Oper) (a : Act) (w : World) (R : Value → World → Prop) : Prop :=
  ∀ (Kn : Act → World → Prop) (Q : Exit → Act → World → Prop), (∀ v w', R v w' → Kn (a.put o.dst v) w') → o.wp P a w Kn Q

theorem meets_value {R : Value → World → Prop} (h : ∃ v w', (execOp a.eval o).run P w = .ok (.value v) w' ∧ R v w') : Meets P o a w R := by
  obtain ⟨v, w', h1, h2⟩ := h
  intro Kn Q hK
  unfold Oper.wp
  rw [h1]
  exact hK v w' h2

theorem meets_skip {R : Value → World → Prop} (h : ∃ w', (execOp a.eval o).run P w = .ok .skip w' ∧ R undef w') : Meets P o a w R := by
  obtain ⟨w', h1, h2⟩ := h
  intro Kn Q hK
  unfold Oper.wp
  rw [h1]
  exact hK undef w' h2

theorem meets_call {R : Value → World → Prop} {f : FuncId} {args : Array Value} (h1 : (execOp a.eval o).run P w = .ok (.enter f args) w) (h2 : Calls P f args w fun e w' => ∃ v, e = .returned v ∧ R v w') : Meets P o a w R := by
  intro Kn Q hK
  unfold Oper.wp
  rw [h1]
  exact h2.mono fun e w' ⟨v, he, hr⟩ => by subst he; exact hK v w' hr

theorem Quick.meets [Inhabited Env] (hs : SimH K F σ hp w) {d : DV} (h : Quick P F σ hp w o a d) : Meets P o a w (fun v w' => Gives K F σ hp w d hp v w') := by
  obtain ⟨v, h1, h2⟩ := h
  exact meets_value ⟨v, w, h1, .same hs h2⟩

theorem run_callFunc {f : FuncId} (h : callOk P f = true) (args : Array Value) : (callFunc f args).run P w = .ok (.enter f args) w := by
  unfold callOk at h
  cases hf : P.funcs[f]? with
  | none => simp [hf] at h
  | some fn =>
    simp only [hf, Bool.and_eq_true, Bool.not_eq_true'] at h
    have hb : fn.body.isNone = false := by cases hh : fn.body <;> simp_all
    simp only [callFunc, Sem.run_bind, run_program, Result.andThen_ok, hf, h.1, hb, Bool.false_eq_true, if_false, Sem.run_pure]

theorem run_call {f : FuncId} {x : Operand} {xs : Array Operand} {ts : Array TypeId} {caps : Array Value} (ho : o.op = .call { callee := .value x, args := xs, argTypes := ts }) (hx : a.eval x = .func (.func f) #[] caps) (h : callOk P f = true) :
    (execOp a.eval o).run P w = .ok (.enter f (xs.map a.eval ++ caps)) w := by
  simp only [execOp, ho, resolve, hx, Deferred.ofValue, Sem.run_bind, Sem.run_pure, Result.andThen_ok, invoke, Array.empty_append]
  exact run_callFunc h _

theorem run_callM {f : FuncId} {x : Operand} {xs : Array Operand} {ts : Array TypeId} {fst : Array Value} (ho : o.op = .call { callee := .value x, args := xs, argTypes := ts }) (hx : a.eval x = .func (.func f) fst #[]) (h : callOk P f = true) :
    (execOp a.eval o).run P w = .ok (.enter f (fst ++ xs.map a.eval)) w := by
  simp only [execOp, ho, resolve, hx, Deferred.ofValue, Sem.run_bind, Sem.run_pure, Result.andThen_ok, invoke, Array.append_empty]
  exact run_callFunc h _

/-- The blocks that live objects have. -/
def ownF (F : Nat → Prop) (σ : Nat → Option Nat) (hp : List DObj) : Nat → Prop := fun b => F b ∨ ∃ h o, hp[h]? = some o ∧ o.k ≠ .dead ∧ σ h = some b

theorem ownF_lt [Inhabited Env] (hs : SimH K F σ hp w) : ∀ b, ownF F σ hp b → b < w.heap.size := fun b hb => hb.elim (hs.fb b) fun ⟨_, _, ho, hd, hg⟩ => hs.blk_lt ho hd hg

theorem capV_view [Inhabited Env] (hs : SimH K F σ hp w) {d : DV} {v : Value} (hv : VRep F σ hp w d v) (h : (capV hp d).1) : IRep (ownF F σ hp) w (capV hp d).2 v := by
  unfold capV at *
  split at h
  · rename_i k L i j
    cases hob : hp[k]? with
    | none => simp [hob] at h
    | some ob =>
      simp only [hob] at h ⊢
      obtain ⟨h1, h2, h3, h4⟩ := h
      obtain ⟨_, hp2⟩ := hv.ptr_inv
      obtain ⟨g, hg, rfl⟩ := (hp2 ob hob).2 h1 h2
      have hblk : ∃ c ty, w.heap[g]? = some (.cells c ty (0, 0)) ∧ ∀ i j d, cellAt ob.es i j = some d → ∃ v, c[i * ob.z + j]? = some v ∧ IRep F w d v ∧ d.one = true := by
        have old := hs.obj k ob hob
        unfold ORep at old
        rcases hkk : ob.k with _ | _ | _ | _ <;> rw [hkk] at old <;> dsimp only at old
        · rcases old with ⟨e1, _⟩ | ⟨g', hg', _, _, c, ty, b1, b2, b3, b4⟩
          · rw [e1] at h2; simp at h2; omega
          · have : g' = g := Option.some.inj (hg'.symm.trans hg)
            subst this
            exact ⟨c, ty, b1, b4⟩
        · obtain ⟨g', hg', _, _, c, ty, b1, b2, b3, b4⟩ := old
          have : g' = g := Option.some.inj (hg'.symm.trans hg)
          subst this
          refine ⟨c, ty, b1, fun i j d hd => ?_⟩
          obtain ⟨v, v1, v2⟩ := b4 i j d hd
          obtain ⟨e, he, hd'⟩ := cellAt_mem hd
          have hi := h4 e he d hd'
          exact ⟨v, v1, v2.imm_of hi, immB_one hi⟩
        · rcases old with ⟨e1, _⟩ | ⟨g', hg', _, c, ty, b1, b2, b3, b4⟩
          · rw [e1] at h2; simp at h2; omega
          · have : g' = g := Option.some.inj (hg'.symm.trans hg)
            subst this
            exact ⟨c, ty, b1, b4⟩
        · exact absurd hkk h1
      obtain ⟨c, ty, b1, b4⟩ := hblk
      refine IRep.ref_mk rfl (.inr ⟨k, ob, hob, h1, hg⟩) fun n d hd => ?_
      have hc : cellAt ob.es i (j + n) = some d := cellAt_drop hd
      obtain ⟨v, v1, v2, v3⟩ := b4 i (j + n) d hc
      refine ⟨v, ?_, v3, v2.mono (fun b hb => .inl hb) fun _ _ => rfl⟩
      rw [show (⟨g, i * ob.z + j + n, none⟩ : Addr) = ⟨g, i * ob.z + (j + n), none⟩ by rw [Nat.add_assoc]]
      rw [cell_blk b1]
      exact v1
  · exact (hv.imm_of h).mono (fun b hb => .inl hb) fun _ _ => rfl
theorem capVL_rep [Inhabited Env] (hs : SimH K F σ hp w) : ∀ {cs : List DV} {vs : List Value}, All2 (VRep F σ hp w) cs vs → (capVL hp cs).1 → All2 (IRep (ownF F σ hp) w) (capVL hp cs).2 vs
  | [], vs, hv, _ => by rw [hv.nil_]; exact .mk_nil
  | d :: ds, vs, hv, h => by
    obtain ⟨v, us, rfl, h0, hr⟩ := hv.cons
    exact .mk_cons (capV_view hs h0 h.1) (capVL_rep hs hr h.2)

theorem view1_rep [Inhabited Env] (hs : SimH K F σ hp w) {d : DV} {v : Value} (hv : VRep F σ hp w d v) (h : (view1 hp d).1) : IRep (ownF F σ hp) w (view1 hp d).2 v := by
  unfold view1 at h ⊢
  split at h
  · rename_i h' L off len
    obtain ⟨A, c, z, rfl, hlc, hz, hA, _⟩ := elemsOf_rep hs hv h (by simp)
    refine IRep.sl_mk hlc hz fun hne => ?_
    obtain ⟨b, hb, hsp, hF, hc⟩ := hA hne
    refine ⟨b, hb, hsp, ?_, fun i j e he => ?_⟩
    · rcases hF with hF | ⟨h1, L1, o1, l1, e1, e2⟩
      · exact .inl hF
      · injection e1 with e1; subst e1
        have hob : ∃ ob, hp[h']? = some ob ∧ (ob.k = .imm ∨ ob.k = .frz) := by
          simp only [elemsOf] at h
          cases hob : hp[h']? with
          | none => simp [hob] at h
          | some ob =>
            simp only [hob] at h
            split at h
            · rename_i hk; exact ⟨ob, rfl, hk⟩
            · exact h.elim
        obtain ⟨ob, hob, hk⟩ := hob
        exact .inr ⟨h', ob, hob, by rcases hk with e | e <;> rw [e] <;> simp, e2⟩
    · obtain ⟨u, hu, h1, hr⟩ := hc i j e he
      exact ⟨u, hu, h1, hr.mono (fun b hb => .inl hb) fun _ _ => rfl⟩
  · have := hv.nil_inv; subst this
    exact IRep.sl_mk (es := []) (z := 0) (Nat.le_refl _) (fun i e he => by simp at he) (fun h => absurd rfl h)
  · obtain ⟨vs, rfl, hl, hr⟩ := hv.clo_inv
    obtain ⟨l1, l2⟩ := capVL_rep hs ⟨by simpa using hl, fun j d hd => let ⟨u, hu, hr'⟩ := hr j d hd; ⟨u, by simpa using hu, hr'⟩⟩ h (vs := vs.toList)
    obtain ⟨vv, v1, v2⟩ := mk_vv (vs := vs) fun j d hd => let ⟨u, hu, hr'⟩ := l2 j d hd; ⟨u, by simpa using hu, hr'⟩
    exact .clo _ _ vs (by simpa using l1) vv v1 v2
  · split at h
    · rename_i hi
      rw [if_pos hi]
      exact (hv.imm_of hi).mono (fun b hb => .inl hb) fun _ _ => rfl
    · exact h.elim

theorem viewL_rep [Inhabited Env] (hs : SimH K F σ hp w) : ∀ {ds : List DV} {vs : List Value}, All2 (VRep F σ hp w) ds vs → (viewL hp ds).1 → All2 (fun d v => VRep (ownF F σ hp) none_ [] w d v) (viewL hp ds).2 vs
  | [], vs, hv, _ => by rw [hv.nil_]; exact .mk_nil
  | d :: ds, vs, hv, h => by
    obtain ⟨v, us, rfl, h0, hr⟩ := hv.cons
    exact .mk_cons (.imm (view1_rep hs h0 h.1)) (viewL_rep hs hr h.2)

theorem agg_of {cs : List DV} {vs : Array Value} (h : All2 (VRep F σ hp w) cs vs.toList) : VRep F σ hp w (.agg cs) (.agg vs) :=
  VRep.agg_mk (by simpa using h.1) fun j d hd => let ⟨u, hu, hr⟩ := h.2 j d hd; ⟨u, by simpa using hu, hr⟩

theorem viewV_rep [Inhabited Env] (hs : SimH K F σ hp w) {d : DV} {v : Value} (hv : VRep F σ hp w d v) (h : (viewV hp d).1) : VRep (ownF F σ hp) none_ [] w (viewV hp d).2 v := by
  unfold viewV at h ⊢
  split at h
  · obtain ⟨vs, rfl, hl, hr⟩ := hv.agg_inv
    exact agg_of (viewL_rep hs ⟨by simpa using hl, fun j d hd => let ⟨u, hu, hr⟩ := hr j d hd; ⟨u, by simpa using hu, hr⟩⟩ h)
  · exact .imm (view1_rep hs hv h)

theorem viewVs_rep [Inhabited Env] (hs : SimH K F σ hp w) : ∀ {ds : List DV} {vs : List Value}, All2 (VRep F σ hp w) ds vs → (viewVs hp ds).1 → All2 (VRep (ownF F σ hp) none_ [] w) (viewVs hp ds).2 vs
  | [], vs, hv, _ => by rw [hv.nil_]; exact .mk_nil
  | d :: ds, vs, hv, h => by
    obtain ⟨v, us, rfl, h0, hr⟩ := hv.cons
    exact .mk_cons (viewV_rep hs h0 h.1) (viewVs_rep hs hr h.2)

/-- A value without handles is one in every heap. -/
theorem VRep.bare {d : DV} {v : Value} (h : VRep F none_ [] w d v) : VRep F σ hp w d v := by
  refine h.mono ⟨fun _ h => h, fun _ _ => rfl, by simp, fun h o ho => by simp at ho⟩

theorem fzV_rep [Inhabited Env] (hs : SimH K F σ hp w) {d : DV} {v : Value} (hv : VRep F σ hp w d v) (h : (fzV hp d).pre) :
    ∃ F', Frzd K F σ hp w F' (fzV hp d).hp ∧ VRep F' none_ [] w (fzV hp d).val v := by
  unfold fzV at h ⊢
  split at h
  · obtain ⟨vs, rfl, hl, hr⟩ := hv.agg_inv
    obtain ⟨F', f, r⟩ := fzL_rep hs (vs := vs.toList) ⟨by simpa using hl, fun j d hd => let ⟨u, hu, hr⟩ := hr j d hd; ⟨u, by simpa using hu, hr⟩⟩ h
    exact ⟨F', f, agg_of (r.imp fun d v h => .imm h.1)⟩
  · obtain ⟨F', f, r, _⟩ := fz1_rep hs hv h
    exact ⟨F', f, .imm r⟩

theorem fzVs_rep [Inhabited Env] : ∀ {ds : List DV} {vs : List Value} {hp : List DObj} {F : Nat → Prop}, SimH K F σ hp w → All2 (VRep F σ hp w) ds vs → (fzVs hp ds).pre →
    ∃ F', Frzd K F σ hp w F' (fzVs hp ds).hp ∧ All2 (VRep F' none_ [] w) (fzVs hp ds).vals vs
  | [], vs, hp, F, hs, hv, _ => ⟨F, .refl hs, by rw [hv.nil_]; exact .mk_nil⟩
  | d :: ds, vs, hp, F, hs, hv, h => by
    obtain ⟨v, us, rfl, h0, hr⟩ := hv.cons
    obtain ⟨hp1, hp2⟩ := h
    obtain ⟨F1, f1, r1⟩ := fzV_rep hs h0 hp1
    obtain ⟨F2, f2, r2⟩ := fzVs_rep f1.1 (hr.imp fun d v h => h.mono f1.2.2) hp2
    refine ⟨F2, f1.trans f2, .mk_cons (r1.mono ⟨f2.2.1.mono, f2.2.1.keepF, by simp, fun h o ho => by simp at ho⟩) r2⟩

theorem noMem_rep {F0 : Nat → Prop} {w0 : World} {d : DV} {v : Value} (h : VRep F none_ [] w d v) (hd : noMem d = true) : VRep F0 σ hp w0 d v := by
  cases d <;> simp only [noMem, Bool.false_eq_true] at hd
  · rw [h.int_inv]; exact .imm (.int _ _)
  · rw [h.bool_inv]; exact .imm (.bool _)
  · rw [h.str_inv]; exact .imm (.str _)
  · rw [h.nilp_inv]; exact .imm .nilp

theorem noMemV_rep {F0 : Nat → Prop} {w0 : World} {d : DV} {v : Value} (h : VRep F none_ [] w d v) (hd : noMemV d = true) : VRep F0 σ hp w0 d v := by
  unfold noMemV at hd
  split at hd
  · obtain ⟨vs, rfl, hl, hr⟩ := h.tup_inv
    exact VRep.tup_mk hl fun j e he => by
      obtain ⟨u, hu, hr⟩ := hr j e he
      exact ⟨u, hu, noMem_rep hr (List.all_eq_true.1 hd e (List.mem_of_getElem? he))⟩
  · obtain ⟨vs, rfl, hl, hr⟩ := h.agg_inv
    exact VRep.agg_mk hl fun j e he => by
      obtain ⟨u, hu, hr⟩ := hr j e he
      exact ⟨u, hu, noMem_rep hr (List.all_eq_true.1 hd e (List.mem_of_getElem? he))⟩
  · exact noMem_rep h hd

theorem call_pure [Inhabited Env] (hC : C.ok P) (hs : SimH K F σ hp w) {f : FuncId} {dargs : List DV} {args : Array Value} (ha : All2 (VRep F σ hp w) dargs args.toList) (h : (dCallP C hp f dargs).pre) :
    callOk P f = true ∧ Calls P f args w fun e w' => ∃ v, e = .returned v ∧ Gives K F σ hp w (dCallP C hp f dargs).val (dCallP C hp f dargs).hp v w' := by
  unfold dCallP at h ⊢
  dsimp only at h ⊢
  split at h
  · rename_i hn
    rw [if_pos hn]
    obtain ⟨hv, hr⟩ := h
    obtain ⟨hok, ht⟩ := hC.p _ _ hr
    refine ⟨hok, (ht (fun b => b < w.heap.size) (ownF F σ hp) w args (ownF_lt hs) (fun _ h => h) (hs.tab.mono (fun _ _ => rfl) fun _ h => .inl h) (viewVs_rep hs ha hv)).mono ?_⟩
    rintro e w' ⟨v, F', rfl, hm, hlt, hv'⟩
    obtain ⟨s1, s2, s3⟩ := hs.ext (w' := w') (F' := F) hm.os hm.tape hm.output hm.size hm.keepK (fun _ h => h) (fun _ h => .inl h) (fun b hb => Nat.lt_of_lt_of_le (hs.fb b hb) hm.size)
    exact ⟨v, rfl, F, σ, s1, s2, s3, noMemV_rep hv' hn⟩
  · rename_i hn
    rw [if_neg hn]
    obtain ⟨hz, hr⟩ := h
    obtain ⟨hok, ht⟩ := hC.p _ _ hr
    obtain ⟨F1, f1, r1⟩ := fzVs_rep hs ha hz
    refine ⟨hok, (ht (fun b => b < w.heap.size) F1 w args f1.1.fb (fun _ h => h) f1.1.tab r1).mono ?_⟩
    rintro e w' ⟨v, F', rfl, hm, hlt, hv'⟩
    obtain ⟨s1, s2, s3⟩ := f1.1.ext (w' := w') (F' := F') hm.os hm.tape hm.output hm.size hm.keepK hm.mono (fun b hb => (hm.new b hb).imp id fun h => by omega) hlt
    exact ⟨v, rfl, .of_frzd f1 ⟨F', σ, s1, s2, s3, hv'.bare⟩⟩

theorem args_rep (hf : FRep F σ hp w fr a.tmps) {xs : Array Operand} {ys : List DA} (h : mArgs xs.toList ys = true) : All2 (VRep F σ hp w) (ys.map (·.ev fr)) (xs.map a.eval).toList := by
  obtain ⟨hl, hr⟩ := mArgs_rep hf h
  exact ⟨by simpa using hl, fun j d hd => by simpa using hr j d hd⟩

theorem All2.append {R : DV → Value → Prop} {d1 d2 : List DV} {v1 v2 : List Value} (h1 : All2 R d1 v1) (h2 : All2 R d2 v2) : All2 R (d1 ++ d2) (v1 ++ v2) :=
  ⟨by simp [h1.1, h2.1], fun j d hd => by
    rcases Nat.lt_or_ge j d1.length with hl | hl
    · rw [List.getElem?_append_left hl] at hd
      obtain ⟨u, hu, hr⟩ := h1.2 j d hd
      exact ⟨u, by rw [List.getElem?_append_left (by rw [← h1.1]; exact hl)]; exact hu, hr⟩
    · rw [List.getElem?_append_right hl] at hd
      obtain ⟨u, hu, hr⟩ := h2.2 _ d hd
      exact ⟨u, by rw [List.getElem?_append_right (by rw [← h1.1]; exact hl), ← h1.1]; exact hu, hr⟩⟩
end
/-! Objects that are made behind what is there. -/
theorem get_ext {hp t : List DObj} {h : Nat} {o : DObj} (e : hp[h]? = some o) : (hp ++ t)[h]? = some o := by
  rw [List.getElem?_append_left (List.getElem?_eq_some_iff.1 e).1, e]

theorem elems_ext (t : List DObj) {hp : List DObj} {d : DV} (h : (elemsOf hp d).pre) : elemsOf (hp ++ t) d = elemsOf hp d := by
  unfold elemsOf at h ⊢
  split at h <;> try rfl
  · rename_i i L off len
    cases hi : hp[i]? with
    | none => simp [hi] at h
    | some o => simp only [get_ext hi]

theorem cells_ext (t : List DObj) {hp : List DObj} {d : DV} (h : (cellsAt hp d).1) : cellsAt (hp ++ t) d = cellsAt hp d := by
  unfold cellsAt at h ⊢
  split at h <;> try rfl
  · rename_i i L r j
    cases hi : hp[i]? with
    | none => simp [hi] at h
    | some o => simp only [get_ext hi]

theorem alive_ext (t : List DObj) {hp : List DObj} {h L : Nat} (k : alive hp h L) : alive (hp ++ t) h L := by
  unfold Nk.alive at k ⊢
  cases hi : hp[h]? with
  | none => simp [hi] at k
  | some o => simpa only [get_ext hi, hi] using k

theorem load_ext (t : List DObj) {hp : List DObj} {sz : Option Nat} {d : DV} (h : (dLoad sz (cellsAt hp d)).1) : dLoad sz (cellsAt (hp ++ t) d) = dLoad sz (cellsAt hp d) := by
  have : (cellsAt hp d).1 := by cases sz <;> exact h.1
  rw [cells_ext t this]

theorem kind1e (C : Orc) (d : DOp) (fr : List (Nat × DV)) (hp t : List DObj) (hk : d.kind = 1) (h : (dval C d ⟨fr, hp⟩).pre) :
    (dval C d ⟨fr, hp ++ t⟩).pre ∧ (dval C d ⟨fr, hp ++ t⟩).val = (dval C d ⟨fr, hp⟩).val ∧ (dval C d ⟨fr, hp ++ t⟩).hp = hp ++ t := by
  cases d <;> simp only [DOp.kind, reduceCtorEq, Nat.reduceEqDiff] at hk <;> simp only [dval] at h ⊢
  case b2s x => rw [elems_ext t h.1]; exact ⟨h, by first | rfl | trivial, by first | rfl | trivial⟩
  case len x =>
    split at h
    · exact ⟨trivial, rfl, rfl⟩
    · exact ⟨trivial, rfl, rfl⟩
    · exact ⟨alive_ext t h, rfl, rfl⟩
    · exact h.elim
  case snil x =>
    split at h
    · exact ⟨trivial, rfl, rfl⟩
    · exact ⟨trivial, rfl, rfl⟩
    · exact ⟨trivial, rfl, rfl⟩
    · exact ⟨alive_ext t h, rfl, rfl⟩
    · exact h.elim
  case peq n x y =>
    revert h
    split
    · intro h; exact ⟨alive_ext t h, rfl, rfl⟩
    · intro h; exact ⟨h, rfl, rfl⟩
  case load s x => rw [load_ext t h]; exact ⟨h, by first | rfl | trivial, by first | rfl | trivial⟩
  case faddr o x =>
    split at h
    · exact ⟨trivial, rfl, rfl⟩
    · exact ⟨alive_ext t h, rfl, rfl⟩
    · exact h.elim
  case nilck x =>
    split at h
    · exact ⟨alive_ext t h, rfl, rfl⟩
    · exact ⟨trivial, rfl, rfl⟩
    · exact ⟨trivial, rfl, rfl⟩
    · exact ⟨trivial, rfl, rfl⟩
    · exact h.elim
  case iaddrA n z x i =>
    split at h
    · exact ⟨h, rfl, rfl⟩
    · exact ⟨⟨alive_ext t h.1, h.2⟩, rfl, rfl⟩
    · exact h.elim
  case iaddr z x i =>
    split at h
    · exact ⟨h, rfl, rfl⟩
    · rename_i hh L off len k n e1 e2
      cases hi : hp[hh]? with
      | none => simp [hi, no] at h
      | some o => simp only [hi, get_ext hi] at h ⊢; exact ⟨h, trivial, trivial⟩
    · exact h.elim
  case slice z x a b c =>
    unfold dSlice at h ⊢
    split at h
    · exact ⟨h, by first | rfl | trivial, by first | rfl | trivial⟩
    · rename_i hh L off len e1
      cases hi : hp[hh]? with
      | none => simp [hi] at h
      | some o => simp only [hi, get_ext hi] at h ⊢; exact ⟨h, trivial, trivial⟩
    · exact ⟨h, by first | rfl | trivial, by first | rfl | trivial⟩
    · exact h.elim

end Go.Nk
