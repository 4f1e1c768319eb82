/- Iterators: what a function hands to the rounds of a range over it. -/
import Derived.Test.YtjgefhgkinocmaaGreatNkZ3
set_option linter.all false
namespace Go.Nk
open Go.RowKit

/-- The state of an iterator: its own, and how many were handed over (none: no more are wanted). -/
abbrev SI := DS × Option Nat

def immV : DV → Bool
  | .agg cs => cs.all DV.immB
  | d => d.immB

/-- A call of what the range handed in. -/
def yldArgs (l : Nat) (fr : List (Nat × DV)) : DOp → Option (List DV)
  | .callvP g args => match g.ev fr with
    | .yld l' => if l' = l then some (args.map (·.ev fr)) else none
    | _ => none
  | _ => none

/-- One operation of an iterator: a round may want more, or no more. -/
def drunI (C : Orc) (l : Nat) (xs : List (List DV)) (dst : Option Nat) (op : DOp) (s : SI) (Kn : SI → Prop) : Prop :=
  match yldArgs l s.1.fr op with
  | some a => ∃ n, s.2 = some n ∧ xs[n]? = some a ∧ a.all immV = true ∧ Kn (s.1.put dst ⟨True, .bool true, s.1.hp⟩, some (n + 1)) ∧ Kn (s.1.put dst ⟨True, .bool false, s.1.hp⟩, none)
  | none => (dvalX C op s.1).pre ∧ Kn (s.1.put dst (dvalX C op s.1), s.2)

def dstepI (C : Orc) (l : Nat) (xs : List (List DV)) (o : DOper) (s : SI) (Kn : SI → Prop) : Prop :=
  match o.guard with
  | none => drunI C l xs o.dst o.op s Kn
  | some (g, b) =>
    match get g s.1.fr with
    | .bool b' => if b' = b then drunI C l xs o.dst o.op s Kn else Kn (s.1.put o.dst ⟨True, .tup [], s.1.hp⟩, s.2)
    | .tup [] => Kn (s.1.put o.dst ⟨True, .tup [], s.1.hp⟩, s.2)
    | _ => False

def dopsI (C : Orc) (l : Nat) (xs : List (List DV)) : List DOper → SI → (SI → Prop) → Prop
  | [], s, Kn => Kn s
  | o :: r, s, Kn => dstepI C l xs o s (fun s' => dopsI C l xs r s' Kn)

def thenI (next : SI → Prop) (Q : DExit → SI → Prop) : DExit → SI → Prop
  | .normal, s => next s
  | e, s => Q e s
def inBlockI (id : Nat) (Q : DExit → SI → Prop) : DExit → SI → Prop
  | .exit id', s => if id' = id then Q .normal s else Q (.exit id') s
  | e, s => Q e s

def dwpI (C : Orc) (l : Nat) (xs : List (List DV)) : DCode → (DExit → SI → Prop) → SI → Prop
  | .skip, Q, s => Q .normal s
  | .ops false dl, Q, s => dopsI C l xs dl s (Q .normal)
  | .ops true dl, Q, s => dops C dl s.1 (fun s' => Q .normal (s', s.2))
  | .opsP dl, Q, s => dops C (dl.map (·.2)) s.1 (fun s' => Q .normal (s', s.2))
  | .seq a b, Q, s => dwpI C l xs a (thenI (dwpI C l xs b Q) Q) s
  | .cond c a b, Q, s =>
    match c.ev s.1.fr with
    | .bool t => (t = true → dwpI C l xs a Q s) ∧ (t = false → dwpI C l xs b Q s)
    | .anyb => dwpI C l xs a Q s ∧ dwpI C l xs b Q s
    | _ => False
  | .block id c, Q, s => dwpI C l xs c (inBlockI id Q) s
  | .loop live m c, Q, s => ∃ (I : SI → Prop) (μ : SI → Nat), I (s.1.cut live m, s.2) ∧
      ∀ s', I s' → dwpI C l xs c (thenI (fun s'' => I (s''.1.cut live m, s''.2) ∧ μ (s''.1.cut live m, s''.2) < μ s') Q) s'
  | .exit id, Q, s => Q (.exit id) s
  | .ret, Q, s => Q .ret s
  | _, _, _ => False

section
variable {P : Program} {N : Nat} {C : Orc} {xs : List (List DV)} {J : Option Nat → (Nat → Prop) → (Nat → Prop) → World → Prop} {l : Nat}

/-- The state of an iterator's code. -/
def CurI [Inhabited Env] (N : Nat) (J : Option Nat → (Nat → Prop) → (Nat → Prop) → World → Prop) (s : SI) (a : Act) (W : World) : Prop :=
  ∃ F B K' σ, (∀ b, b < W.heap.size → ¬ B b → K' b) ∧ SimH K' F σ s.1.hp W ∧ FRep F σ s.1.hp W s.1.fr a.tmps ∧ a.tmps.size = N ∧ Marks (fun b => ¬ B b) K' F W a.defers ∧ (∀ b, B b → b < W.heap.size) ∧ J s.2 F B W

theorem Marks.base {K0 K0' K F : Nat → Prop} {w : World} (h : ∀ D, D < w.heap.size → ¬ K0 D → ¬ K0' D) : ∀ {ds : List Deferred}, Marks K0 K F w ds → Marks K0' K F w ds
  | [], _ => trivial
  | d :: ds, hm => by
    obtain ⟨⟨D, h1, h2, h3, h4, h5, h6⟩, h7⟩ := hm
    exact ⟨⟨D, h1, h2, h3, h4, h D (Array.getElem?_eq_some_iff.1 h4).1 h5, h6⟩, h7.base h⟩

/-- A piece without rounds: its start, and what became of the world. -/
theorem CurI.start [Inhabited Env] {s : DS} {k : Option Nat} {a : Act} {W : World} (h : CurI N J (s, k) a W) :
    ∃ F B σ, Cur (fun b => b < W.heap.size ∧ ¬ B b) N F σ s.hp W s a W ∧ J k F B W := by
  obtain ⟨F, B, K', σ, hK, hs, hf, hN, hm, hB, hj⟩ := h
  exact ⟨F, B, σ, ⟨K', F, σ, fun b hb => hK b hb.1 hb.2, hs, hf, hN, hm.base fun D _ h1 h2 => h1 h2.2, .refl _ _ _, .refl _ _ _ _⟩, hj⟩
theorem CurI.moved [Inhabited Env] (hJ : AbideI J) {k : Option Nat} {F B : Nat → Prop} {σ0 : Nat → Option Nat} {hp0 : List DObj} {W : World} (hk : J k F B W) {s' : DS} {a' : Act} {W' : World}
    (h : Cur (fun b => b < W.heap.size ∧ ¬ B b) N F σ0 hp0 W s' a' W') : CurI N J (s', k) a' W' := by
  obtain ⟨K', F', σ', hKK, hs, hf, hN, hdef, hmv, hhm⟩ := h
  refine ⟨F', fun b => (B b ∨ W.heap.size ≤ b) ∧ b < W'.heap.size, K', σ', fun b h1 h2 => hKK b ?_, hs, hf, hN, hdef.base fun D h1 h2 h3 => h3 ⟨?_, h1⟩, fun b hb => hb.2,
    hJ k F B W _ _ W' hk ⟨hmv.os, hmv.tape, hmv.output, hmv.size, fun b hb hn => hmv.keepK b ⟨hb, hn⟩, hmv.keepF, hmv.mono, fun b hb => ?_, fun b hb => hb.1, hs.fb, fun b hb => hb.2⟩⟩
  · have h3 : ¬ (B b ∨ W.heap.size ≤ b) := fun h => h2 ⟨h, h1⟩
    refine ⟨?_, fun h => h3 (.inl h)⟩
    rcases Nat.lt_or_ge b W.heap.size with h | h
    · exact h
    · exact absurd (.inr h) h3
  · rcases hmv.new b hb with h | h
    · exact .inl h
    · by_cases h1 : B b
      · exact .inr (.inl h1)
      · refine .inr (.inr ?_)
        rcases Nat.lt_or_ge b W.heap.size with h2 | h2
        · exact absurd ⟨h2, h1⟩ h
        · exact h2
  · by_cases hb : B D
    · exact .inl hb
    · rcases Nat.lt_or_ge D W.heap.size with h | h
      · exact absurd ⟨h, hb⟩ h2
      · exact .inr h

def QI [Inhabited Env] (N : Nat) (J : Option Nat → (Nat → Prop) → (Nat → Prop) → World → Prop) (Q : DExit → SI → Prop) : Exit → Act → World → Prop
  | .normal, a, w => ∃ s, CurI N J s a w ∧ Q .normal s
  | .exit id, a, w => ∃ s, CurI N J s a w ∧ Q (.exit id) s
  | .ret, a, w => ∃ s, CurI N J s a w ∧ Q .ret s
  | _, _, _ => False

theorem immV_rep {F : Nat → Prop} {σ : Nat → Option Nat} {hp : List DObj} {w : World} {d : DV} {v : Value} (h : VRep F σ hp w d v) (hd : immV d = true) : VRep F none_ [] w d v := by
  cases d with
  | agg cs =>
    obtain ⟨vs, rfl, hl, hr⟩ := h.agg_inv
    exact VRep.agg_mk hl fun j d' hd' => let ⟨u, hu, hr⟩ := hr j d' hd'; ⟨u, hu, imm_rep hr (List.all_eq_true.1 hd d' (List.mem_of_getElem? hd'))⟩
  | _ => exact imm_rep h hd

/-- A call of what was handed in. -/
theorem run_yld {o : Oper} {a : Act} {w : World} {x : Operand} {args : Array Operand} {ts : Array TypeId} (ho : o.op = .call { callee := .value x, args, argTypes := ts }) (hx : a.eval x = .func (.yield l) #[] #[]) :
    (execOp a.eval o).run P w = (Instr.yield l (args.map a.eval)).run P w := by
  simp only [execOp, ho, resolve, hx, Deferred.ofValue, Sem.run_bind, Sem.run_pure, Result.andThen_ok, invoke, Array.empty_append]

/-- One operation. -/
theorem run_soundI [Inhabited Env] (hC : C.ok P) (hJ : AbideI J) (hR : RoundsI P l xs J) {ops : Array Oper} {o : Oper} {d : DOper} (hm : mOper P N ops o d = true) {s : SI} {a : Act} {W : World} (hc : CurI N J s a W) {Kd : SI → Prop} {Kn : Act → World → Prop} {Q : Exit → Act → World → Prop}
    (hK : ∀ s' a' w', CurI N J s' a' w' → Kd s' → Kn a' w') (h : drunI C l xs d.dst d.op s Kd) : o.wpIn (Fw none) 0 P a W Kn Q := by
  obtain ⟨s, k⟩ := s
  unfold drunI at h
  have hm0 := hm
  simp only [mOper, Bool.and_eq_true, decide_eq_true_eq] at hm
  obtain ⟨⟨⟨hop, hdst⟩, hlt⟩, hg⟩ := hm
  cases hy : yldArgs l s.fr d.op with
  | none =>
    simp only [hy] at h
    obtain ⟨F, B, σ, hcur, hj⟩ := hc.start
    obtain ⟨K', F1, σ1, hKK, hs, hf, hN, hdef, hmv, hhm⟩ := hcur
    refine opIn (.inl rfl) ?_
    have := op_soundX (P := P) (K := K') hC hs hf (o := o) rfl hop h.1
    refine this Kn Q fun v w' hgv => ?_
    obtain ⟨F', σ', h1, h2, h3, h4⟩ := hgv
    rw [hdst]
    refine hK _ _ _ (CurI.moved (σ0 := σ) (hp0 := s.hp) hJ hj ?_) h.2
    rw [put_pre]
    exact Cur.put hKK hf hN hdef hmv hhm (fun t ht => by rw [ht] at hlt; simpa using hlt) h1 h2 h3 h4
  | some ys =>
    simp only [hy] at h
    obtain ⟨n, hn, hx, him, ht, hf'⟩ := h
    subst hn
    cases hd : d.op with
    | callvP g gs =>
      rw [hd] at hop hy
      simp only [yldArgs] at hy
      cases hgv : g.ev s.fr with
      | yld l' =>
        simp only [hgv] at hy
        split at hy
        · rename_i e
          subst e
          injection hy with hy
          subst hy
          obtain ⟨F, B, K', σ, hKB, hs, hf, hN, hmk, hB, hj⟩ := hc
          cases hoo : o.op with
          | call cl =>
            rw [hoo] at hop
            obtain ⟨cal, args, ts⟩ := cl
            cases cal with
            | value x =>
              have hop' : mArg x g = true ∧ mArgs args.toList gs = true := by
                cases x <;> simpa [mOpX, mOp] using hop
              have hv := mArg_rep hf hop'.1
              rw [hgv] at hv
              have hargs := args_rep hf hop'.2
              have hvs : All2 (VRep F none_ [] W) (gs.map (·.ev s.fr)) (args.map a.eval).toList := ⟨hargs.1, fun j d hd => by
                obtain ⟨u, hu, hr⟩ := hargs.2 j d hd
                exact ⟨u, hu, immV_rep hr (List.all_eq_true.1 him d (List.mem_of_getElem? hd))⟩⟩
              obtain ⟨fn, tm, asg, bd, hyl, hround⟩ := hR n F B W _ _ hj hs.fb hB hx hvs
              rw [Array.toArray_toList] at hyl
              refine ⟨fun _ _ => trivial, ?_⟩
              have e1 : o.semAt (Fw none).round a.eval = execOp a.eval o := rfl
              rw [e1, run_yld hoo hv.yld_inv, hyl, Oper.uponIn_round]
              refine ⟨fun h => by simp [Fw, Fence.wide] at h, RoundIn.mono (show RoundIn Fence.wide 0 P l' fn tm asg bd W _ from hround) ?_⟩
              rintro e W' ⟨b, F', rfl, f1, f2, f3, f4, f5, f6, hj'⟩
              obtain ⟨hs', hm'⟩ := hs.turn (K' := fun b => K' b ∨ (W.heap.size ≤ b ∧ b < W'.heap.size)) (F' := F') f4 f5 (fun b hb hk => f6 b (Classical.byContradiction fun h => hk (hKB b hb h))) f1
                (fun c hc => (f2 c hc).imp id fun h => by
                  rcases Nat.lt_or_ge c W.heap.size with h1 | h1
                  · exact .inl (hKB c h1 h)
                  · exact .inr h1) (fun b hb => hb.imp id (·.1)) f3 (fun b hb => hb.elim (fun h => by have := hs.kb b h; omega) (·.2))
              have hmk' : ∀ {ds : List Deferred}, Marks (fun b => ¬ B b) K' F W ds → Marks (fun b => ¬ B b) (fun b => K' b ∨ (W.heap.size ≤ b ∧ b < W'.heap.size)) F' W' ds := by
                intro ds
                induction ds with
                | nil => intro _; trivial
                | cons d ds ih =>
                  rintro ⟨⟨D, h1, h2, h3, h4, h5, h6⟩, h7⟩
                  have hBD : B D := Classical.byContradiction h5
                  exact ⟨⟨D, h1, .inl h2, fun h => (f2 D h).elim h3 (fun h => h hBD), (f6 D hBD).trans h4, h5, h6⟩, ih h7⟩
              have fin : ∀ (v : DV) (u : Value), VRep F' σ s.hp W' v u → CurI N J (s.put d.dst ⟨True, v, s.hp⟩, if b then some (n + 1) else none) (a.put o.dst u) W' := by
                intro v u hvu
                refine ⟨F', B, fun b => K' b ∨ (W.heap.size ≤ b ∧ b < W'.heap.size), σ, fun c h1 h2 => ?_, ?_, ?_, ?_, ?_, fun c hc => Nat.lt_of_lt_of_le (hB c hc) f4, hj'⟩
                · rcases Nat.lt_or_ge c W.heap.size with h3 | h3
                  · exact .inl (hKB c h3 h2)
                  · exact .inr ⟨h3, h1⟩
                · cases d.dst <;> exact hs'
                · rw [hdst]
                  have := hf.put hm' (dst := d.dst) (fun t ht => by rw [hN]; rw [ht] at hlt; simpa using hlt) hvu
                  generalize d.dst = dd at this ⊢
                  cases dd <;> exact this
                · cases o.dst <;> simp [Act.put, hN]
                · cases o.dst <;> exact hmk' hmk
              cases b with
              | true => exact hK _ _ _ (fin (.bool true) (.bool true) (.imm (.bool true))) ht
              | false => exact hK _ _ _ (fin (.bool false) (.bool false) (.imm (.bool false))) hf'
            | _ => simp [mOpX, mOp] at hop
          | _ => rw [hoo] at hop; simp [mOpX, mOp] at hop
        · cases hy
      | _ => simp [hgv] at hy
    | _ => simp [hd, yldArgs] at hy
theorem CurI.put [Inhabited Env] {s : SI} {a : Act} {W : World} (hc : CurI N J s a W) {dst : Option Nat} (hlt : ∀ t, dst = some t → t < N) {d : DV} {v : Value} (hv : ∀ F σ hp w, VRep F σ hp w d v) : CurI N J (s.1.put dst ⟨True, d, s.1.hp⟩, s.2) (a.put dst v) W := by
  obtain ⟨F, B, K', σ, hK, hs, hf, hN, hmk, hB, hj⟩ := hc
  refine ⟨F, B, K', σ, hK, ?_, ?_, ?_, ?_, hB, hj⟩
  · cases dst <;> exact hs
  · have := hf.put (.refl F σ s.1.hp W) (dst := dst) (fun t ht => by rw [hN]; exact hlt t ht) (hv F σ s.1.hp W)
    cases dst <;> exact this
  · cases dst <;> simp [Act.put, hN]
  · cases dst <;> exact hmk

theorem step_soundI [Inhabited Env] (hC : C.ok P) (hJ : AbideI J) (hR : RoundsI P l xs J) {ops : Array Oper} {o : Oper} {d : DOper} (hm : mOper P N ops o d = true) {s : SI} {a : Act} {W : World} (hc : CurI N J s a W) {Kd : SI → Prop} {Kn : Act → World → Prop} {Q : Exit → Act → World → Prop}
    (hK : ∀ s' a' w', CurI N J s' a' w' → Kd s' → Kn a' w') (h : dstepI C l xs d s Kd) :
    if Region.wanted o (yielded ops a.tmps) = true then o.wpIn (Fw none) 0 P a W Kn Q else Kn (a.put o.dst undef) W := by
  have hm0 := hm
  simp only [mOper, Bool.and_eq_true, decide_eq_true_eq] at hm
  obtain ⟨⟨⟨hop, hdst⟩, hlt⟩, hg⟩ := hm
  have skip : Kd (s.1.put d.dst ⟨True, .tup [], s.1.hp⟩, s.2) → Kn (a.put o.dst undef) W := by
    intro hk
    rw [hdst]
    exact hK _ _ _ (hc.put (fun t ht => by rw [ht] at hlt; simpa using hlt) fun F σ hp w => .tup [] #[] rfl (fun _ => undef) (fun j d hd => by simp at hd) (fun j d hd => by simp at hd)) hk
  unfold dstepI at h
  cases hgd : d.guard with
  | none =>
    rw [hgd] at h hg
    have ho : o.guard = none := by
      cases hh : o.guard with
      | none => rfl
      | some x => rw [hh] at hg; simp [mGuard] at hg
    rw [if_pos (by simp [Region.wanted, ho])]
    exact run_soundI hC hJ hR hm0 hc hK h
  | some gb =>
    obtain ⟨t, b⟩ := gb
    rw [hgd] at h hg
    cases hh : o.guard with
    | none => rw [hh] at hg; simp [mGuard] at hg
    | some x =>
      obtain ⟨j, b'⟩ := x
      rw [hh] at hg
      simp only [mGuard, Bool.and_eq_true, decide_eq_true_eq, beq_iff_eq] at hg
      obtain ⟨ht, rfl⟩ := hg
      have hf := hc.choose_spec.choose_spec.choose_spec.choose_spec.2.2.1
      obtain ⟨y1, y2⟩ := yielded_of hf ht
      dsimp only at h
      cases hgt : get t s.1.fr with
      | bool c =>
        simp only [hgt] at h
        have hy := y1 c hgt
        simp only [Region.wanted, hh, hy]
        by_cases hcb : c = b'
        · subst hcb
          simp only [if_true] at h
          rw [if_pos (by simp)]
          exact run_soundI hC hJ hR hm0 hc hK h
        · rw [if_neg hcb] at h
          rw [if_neg (by simpa using hcb)]
          exact skip h
      | tup vs =>
        cases vs with
        | nil =>
          simp only [hgt] at h
          have hy := y2 hgt
          simp only [Region.wanted, hh, hy]
          rw [if_neg (by simp)]
          exact skip h
        | cons => simp only [hgt] at h
      | _ => simp only [hgt] at h

theorem ops_soundI [Inhabited Env] (hC : C.ok P) (hJ : AbideI J) (hR : RoundsI P l xs J) {ops : Array Oper} {Q : Exit → Act → World → Prop} {Kd : SI → Prop} (hK : ∀ s' a' w', CurI N J s' a' w' → Kd s' → Q .normal a' w') : ∀ {ol : List Oper} {dl : List DOper} {s : SI} {a : Act} {w : World},
    mOpers P N ops ol dl = true → CurI N J s a w → dopsI C l xs dl s Kd → wpListIn (Fw none) 0 P ops Q ol a w
  | [], [], s, a, w, _, hc, h => hK s a w hc h
  | o :: ol, d :: dl, s, a, w, hm, hc, h => by
    simp only [mOpers, Bool.and_eq_true] at hm
    have := step_soundI hC hJ hR hm.1 hc (Kn := wpListIn (Fw none) 0 P ops Q ol) (Q := Q) (fun s' a' w' hc' h' => ops_soundI hC hJ hR hK hm.2 hc' h') h
    unfold wpListIn
    split at this
    · rename_i hw; rw [if_pos hw]; exact this
    · rename_i hw; rw [if_neg hw]; exact ⟨fun _ _ => trivial, this⟩
  | [], _ :: _, _, _, _, hm, _, _ => by simp [mOpers] at hm
  | _ :: _, [], _, _, _, hm, _, _ => by simp [mOpers] at hm

theorem code_soundI [Inhabited Env] (hC : C.ok P) (hJ : AbideI J) (hR : RoundsI P l xs J) : ∀ (dc : DCode) (c : Code) (Q : DExit → SI → Prop) (s : SI) (a : Act) (w : World), mCode P N c dc = true → dwpI C l xs dc Q s → CurI N J s a w → Code.wpIn (Fw none) 0 P c (QI N J Q) a w
  | .skip, cc, Q, s, a, w, hm, h, hc => by
    cases cc with
    | skip => exact wpIn_skip ⟨s, hc, h⟩
    | label l => exact wpIn_label ⟨s, hc, h⟩
    | _ => exact (Bool.false_ne_true hm).elim
  | .ops draw' dl, cc, Q, s, a, w, hm, h, hc => by
    cases cc with
    | region rid ops draw =>
      simp only [mCode, Bool.and_eq_true, beq_iff_eq] at hm
      obtain ⟨rfl, hm⟩ := hm
      cases draw with
      | false => exact wpIn_region_list (ops_soundI hC hJ hR (fun s' a' w' hc' h' => ⟨s', hc', h'⟩) (by simpa using hm) hc h)
      | true =>
        obtain ⟨s, k⟩ := s
        obtain ⟨F, B, σ, hcur, hj⟩ := hc.start
        refine region_drawIn hC (.inl rfl) (seps := []) (by simpa using hm) (fun s' a' w' hc' h' => ⟨(s', k), CurI.moved hJ hj hc', h'⟩) hcur (fun p hp => by simp at hp) ?_
        rw [placesD_ops]
        exact h
    | _ => exact (Bool.false_ne_true hm).elim
  | .opsP dl, cc, Q, s, a, w, hm, h, hc => by
    cases cc with
    | region rid ops draw =>
      simp only [mCode, Bool.and_eq_true] at hm
      obtain ⟨rfl, hm⟩ := hm
      obtain ⟨s, k⟩ := s
      obtain ⟨F, B, σ, hcur, hj⟩ := hc.start
      exact region_drawIn hC (.inl rfl) hm (fun s' a' w' hc' h' => ⟨(s', k), CurI.moved hJ hj hc', h'⟩) hcur (fun p hp => by simp at hp) h
    | _ => exact (Bool.false_ne_true hm).elim
  | .seq x' y', cc, Q, s, a, w, hm, h, hc => by
    cases cc with
    | seq x y =>
      simp only [mCode, Bool.and_eq_true] at hm
      refine wpIn_seq (wpIn_mono (code_soundI hC hJ hR x' x _ s a w hm.1 h hc) fun e a' w' hq => ?_)
      cases e with
      | normal => obtain ⟨s', hc', h'⟩ := hq; exact code_soundI hC hJ hR y' y Q s' a' w' hm.2 h' hc'
      | exit id => obtain ⟨s', hc', h'⟩ := hq; exact ⟨s', hc', h'⟩
      | ret => obtain ⟨s', hc', h'⟩ := hq; exact ⟨s', hc', h'⟩
      | goto l => exact hq.elim
      | panic c => exact hq.elim
      | outgrown => exact hq.elim
    | _ => exact (Bool.false_ne_true hm).elim
  | .cond c' x' y', cc, Q, s, a, w, hm, h, hc => by
    cases cc with
    | cond c x y =>
      simp only [mCode, Bool.and_eq_true] at hm
      have hf := hc.choose_spec.choose_spec.choose_spec.choose_spec.2.2.1
      have hv := mArg_rep hf hm.1.1
      simp only [dwpI] at h
      cases he : c'.ev s.1.fr with
      | bool t =>
        rw [he] at hv
        simp only [he] at h
        exact wpIn_cond_split hv.bool_inv (fun ht => code_soundI hC hJ hR x' x Q s a w hm.1.2 (h.1 ht) hc) (fun ht => code_soundI hC hJ hR y' y Q s a w hm.2 (h.2 ht) hc)
      | anyb =>
        rw [he] at hv
        simp only [he] at h
        obtain ⟨b, hb⟩ := hv.anyb_inv
        exact wpIn_cond_split hb (fun _ => code_soundI hC hJ hR x' x Q s a w hm.1.2 h.1 hc) (fun _ => code_soundI hC hJ hR y' y Q s a w hm.2 h.2 hc)
      | _ => simp only [he] at h
    | _ => exact (Bool.false_ne_true hm).elim
  | .block id' c', cc, Q, s, a, w, hm, h, hc => by
    cases cc with
    | block id c =>
      simp only [mCode, Bool.and_eq_true, beq_iff_eq] at hm
      obtain ⟨rfl, hm⟩ := hm
      refine wpIn_block (wpIn_mono (code_soundI hC hJ hR c' c _ s a w hm h hc) fun e a' w' hq => ?_)
      cases e with
      | normal => obtain ⟨s', hc', h'⟩ := hq; exact ⟨s', hc', h'⟩
      | exit k =>
        obtain ⟨s', hc', h'⟩ := hq
        simp only [inBlockI] at h'
        simp only [Exit.inBlock]
        split at h'
        · rename_i e; rw [if_pos e]; exact ⟨s', hc', h'⟩
        · rename_i e; rw [if_neg e]; exact ⟨s', hc', h'⟩
      | ret => obtain ⟨s', hc', h'⟩ := hq; exact ⟨s', hc', h'⟩
      | goto l => exact hq.elim
      | panic c => exact hq.elim
      | outgrown => exact hq.elim
    | _ => exact (Bool.false_ne_true hm).elim
  | .loop live m c', cc, Q, s, a, w, hm, h, hc => by
    cases cc with
    | loop c =>
      simp only [mCode] at hm
      simp only [dwpI] at h
      obtain ⟨I, μ, h0, hr⟩ := h
      have hcut : ∀ {s : SI} {a : Act} {w : World}, CurI N J s a w → CurI N J (s.1.cut live m, s.2) a w := by
        rintro ⟨s, k⟩ a w ⟨F, B, K', σ, hK, hs, hf, hN, hmk, hB, hj⟩
        have hx : CurX (fun b => b < w.heap.size ∧ ¬ B b) N F none_ [] w K' F σ s a w := ⟨fun b hb => hK b hb.1 hb.2, hs, hf, hN, hmk.base fun D _ h1 h2 => h1 h2.2, .refl _ _ _, hm0⟩
        obtain ⟨_, h2, h3, h4, _⟩ := hx.cut live m (by cases m <;> simp)
        exact ⟨F, B, K', σ, hK, h2, h3, h4, hmk, hB, hj⟩
      refine wpIn_loop_ghost (fun i a w => ∃ s', CurI N J s' a w ∧ I s' ∧ μ s' = i) (μ (s.1.cut live m, s.2)) ⟨_, hcut hc, h0, rfl⟩ fun i a w hI => ?_
      obtain ⟨s', hc', hI', rfl⟩ := hI
      refine wpIn_mono (code_soundI hC hJ hR c' c _ s' a w hm (hr s' hI') hc') fun e a' w' hq => ?_
      cases e with
      | normal =>
        obtain ⟨s'', hc'', h''⟩ := hq
        exact ⟨_, h''.2, _, hcut hc'', h''.1, rfl⟩
      | exit id => obtain ⟨s', hc', h'⟩ := hq; exact ⟨s', hc', h'⟩
      | ret => obtain ⟨s', hc', h'⟩ := hq; exact ⟨s', hc', h'⟩
      | goto l => exact hq.elim
      | panic c => exact hq.elim
      | outgrown => exact hq.elim
    | _ => exact (Bool.false_ne_true hm).elim
  | .exit id', cc, Q, s, a, w, hm, h, hc => by
    cases cc with
    | exit id =>
      simp only [mCode, beq_iff_eq] at hm
      subst hm
      exact wpIn_exit ⟨s, hc, h⟩
    | _ => exact (Bool.false_ne_true hm).elim
  | .ret, cc, Q, s, a, w, hm, h, hc => by
    cases cc with
    | ret => exact wpIn_ret ⟨s, hc, h⟩
    | _ => exact (Bool.false_ne_true hm).elim
  | .opsS .., _, _, _, _, _, _, h, _ => h.elim
  | .gown .., _, _, _, _, _, _, h, _ => h.elim
  | .scope .., _, _, _, _, _, _, h, _ => h.elim
  | .rangeF .., _, _, _, _, _, _, h, _ => h.elim
  | .rsv .., _, _, _, _, _, _, h, _ => h.elim
  | .bad, _, _, _, _, _, _, h, _ => h.elim
  | .cut .., _, _, _, _, _, _, h, _ => h.elim

/-- What is asked of an iterator's end. -/
def EndI (m : Nat) : DExit → SI → Prop
  | .exit _, _ => False
  | _, s => s.2 = none ∨ s.2 = some m

theorem leavesI [Inhabited Env] (hJ : AbideI J) {fn : Func} {s : SI} {tm : Array Value} {R : Ending → World → Prop}
    (h : ∀ w', CurI fn.ntmps J s { tmps := tm, defers := [] } w' → ∃ v, (results fn tm).run P w' = .ok v w' ∧ R (.returned v) w') :
    ∀ (ds : List Deferred) (w' : World), CurI fn.ntmps J s { tmps := tm, defers := ds } w' → LeavesInM Fence.wide 0 P fn tm R ds .returning w'
  | [], w', hc => h w' hc
  | d :: ds, w', hc => by
    obtain ⟨F, B, K', σ, hK, hs, hf, hN, hmk, hB, hj⟩ := hc
    obtain ⟨⟨D, rfl, kD, fD, hD, k0, hni⟩, hrest⟩ := hmk
    refine ⟨by simp, .inl ⟨D, _, rfl, run_takeDeferred hD, leavesI hJ h ds _ ?_⟩⟩
    have hBD : B D := Classical.byContradiction k0
    have hkeep : ∀ b, b ≠ D → (w'.putObj D (.deferred none)).heap[b]? = w'.heap[b]? := fun b hb => World.putObj_heap_other hb
    obtain ⟨s1, m1⟩ := hs.turn (K' := K') (F' := F) (w' := w'.putObj D (.deferred none)) (by simp) (fun b hb => hkeep b fun e => fD (e ▸ hb)) (fun b _ hb => hkeep b fun e => hb (e ▸ kD)) (fun _ h => h) (fun _ h => .inl h) (fun _ h => .inl h)
      (fun b hb => by simpa using hs.fb b hb) (fun b hb => by simpa using hs.kb b hb)
    exact ⟨F, B, K', σ, fun b h1 h2 => hK b (by simpa using h1) h2, s1, fun n => (hf n).mono m1, hN, hrest.put hni, fun b hb => by simpa using hB b hb,
      hJ _ F B w' F B _ hj ⟨rfl, rfl, rfl, by simp, fun b _ hb => hkeep b fun e => hb (e ▸ hBD), fun b hb => hkeep b fun e => fD (e ▸ hb), fun _ h => h, fun _ h => .inl h, fun _ h => .inl h, fun b hb => by simpa using hs.fb b hb, fun b hb => by simpa using hB b hb⟩⟩

set_option maxHeartbeats 1000000 in
/-- An iterator, from what its body does. -/
theorem tellsI_of [Inhabited Env] (hC : C.ok P) {f : FuncId} {d : DFun} {caps : List DV} {xs : List (List DV)} (hm : mFun P f (caps.length + 1) d = true) (hres : d.res = [])
    (h : ∀ l, dwpI C l xs d.code (EndI xs.length) (⟨frameFrom 0 (.yld l :: (openC caps).1), (openC caps).2⟩, some 0)) : callOk P f = true ∧ TellsI P f caps xs := by
  obtain ⟨hok, fn, c, hf, hb, hn, hc, hr⟩ := mFun_parts hm
  refine ⟨hok, fun l J F B σI W cv hJ hR hB hs hcv hj => ?_⟩
  rw [← openC_len caps] at hn
  have ha : All2 (VRep F σI (openC caps).2 W) (.yld l :: (openC caps).1) (#[Value.func (.yield l) #[] #[]] ++ cv).toList := by
    rw [Array.toList_append]
    exact .mk_cons (.imm (.yld l)) (by simpa using hcv)
  obtain ⟨K', F1, σ1, hKK, hs1, hf1, hN1, hd1, _, _⟩ := cur_start (nt := fn.ntmps) hs ha (by simpa using hn)
  have hcur : CurI fn.ntmps J (⟨frameFrom 0 (.yld l :: (openC caps).1), (openC caps).2⟩, some 0) { tmps := (#[Value.func (.yield l) #[] #[]] ++ cv) ++ Array.replicate (fn.ntmps - (#[Value.func (.yield l) #[] #[]] ++ cv).size) undef, defers := [] } W := by
    refine ⟨F, B, _, σI, fun b h1 h2 => ⟨h1, h2⟩, hs, ?_, hN1, trivial, hB, hj⟩
    have hx := cur_start (K := fun b => b < W.heap.size ∧ ¬ B b) (nt := fn.ntmps) hs ha (by simpa using hn)
    exact frame_start ha (by simpa using hn)
  refine callsIn_of_wp_marks (F := Fence.wide) (n := 0) hf hb trivial (wpIn_mono (show c.wpIn Fence.wide 0 P _ _ W from code_soundI hC hJ hR d.code c _ _ _ W hc (h l) hcur) ?_)
  have key : ∀ (s : SI) (a : Act) (w' : World), CurI fn.ntmps J s a w' → (s.2 = none ∨ s.2 = some xs.length) → LeavesInM Fence.wide 0 P fn a.tmps (fun e W' => (∃ v, e = .returned v) ∧ ∃ F' B' k, J k F' B' W' ∧ (k = none ∨ k = some xs.length)) a.defers .returning w' := by
    rintro s ⟨tm, ds⟩ w' hx hq
    refine leavesI hJ (fun w'' hc' => ?_) ds w' hx
    obtain ⟨F', B', K', σ, hK, hs', hf', hN', hmk, hB', hj'⟩ := hc'
    rw [hres] at hr
    obtain ⟨v, hv, _⟩ := res_run (ys := []) hs' hf' hr trivial
    exact ⟨v, hv, ⟨v, rfl⟩, F', B', s.2, hj', hq⟩
  intro e a w' hq
  cases e with
  | normal => obtain ⟨s, hc, h1⟩ := hq; exact key s a w' hc h1
  | ret => obtain ⟨s, hc, h1⟩ := hq; exact key s a w' hc h1
  | exit id => obtain ⟨s, hc, h0⟩ := hq; exact h0.elim
  | goto l => exact hq.elim
  | panic c => exact hq.elim
  | outgrown => exact hq.elim

theorem OkI.mk [Inhabited Env] {ps hs is} {f : FuncId} {s : List DV → Prop × List (List DV)} {d : DFun} {n : Nat} (h1 : AllP P ps) (h2 : AllH P hs) (h3 : AllI P is) (hm : mFun P f (n + 1) d = true) (hres : d.res = [])
    (h : ∀ caps l, (s caps).1 → caps.length = n ∧ dwpI (Orc.ofI ps hs is) l (s caps).2 d.code (EndI (s caps).2.length) (⟨(0, .yld l) :: frameFrom 1 (openC caps).1, (openC caps).2⟩, some 0)) : OkI P f s := by
  intro a ha
  have e := (h a 0 ha).1
  exact tellsI_of (ofI_ok h1 h2 h3) (by rw [e]; exact hm) hres fun l => (h a l ha).2
end
end Go.Nk
