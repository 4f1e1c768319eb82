/- Aggregates and slices that are built; make; bytes of a text. -/
import Derived.Test.YtjgefhgkinocmaaGreatNkH
set_option linter.all false
namespace Go.Nk
open Go.RowKit

section
variable {P : Program} {K F F' : Nat → Prop} {σ σ' : Nat → Option Nat} {hp hp' : List DObj} {w w' : World} {fr : List (Nat × DV)} {a : Act} {o : Oper}

theorem foldl_set (off : Nat) : ∀ (l : List Value) (s : Nat) (cs : Array Value),
    ((l.zipIdx s).foldl (fun (cs : Array Value) (x : Value × Nat) => cs.setIfInBounds (off + x.2) x.1) cs).size = cs.size ∧
    ∀ k, ((l.zipIdx s).foldl (fun (cs : Array Value) (x : Value × Nat) => cs.setIfInBounds (off + x.2) x.1) cs)[k]? = if off + s ≤ k ∧ k < off + s + l.length ∧ k < cs.size then l[k - off - s]? else cs[k]?
  | [], s, cs => ⟨by simp, fun k => by simp; intro h1 h2; omega⟩
  | v :: l, s, cs => by
    obtain ⟨h1, h2⟩ := foldl_set off l (s + 1) (cs.setIfInBounds (off + s) v)
    simp only [List.zipIdx_cons, List.foldl_cons]
    refine ⟨by rw [h1]; simp, fun k => ?_⟩
    rw [h2 k]
    simp only [Array.size_setIfInBounds, List.length_cons]
    by_cases hk : k = off + s
    · subst hk
      rw [if_neg (by omega)]
      by_cases hb : off + s < cs.size
      · rw [if_pos (by omega)]
        simp [hb]
      · rw [if_neg (by omega)]
        simp [hb]
    · by_cases hc : off + (s + 1) ≤ k ∧ k < off + (s + 1) + l.length ∧ k < cs.size
      · rw [if_pos hc, if_pos (by omega)]
        rw [show k - off - s = (k - off - (s + 1)) + 1 by omega]
        simp
      · rw [if_neg hc, if_neg (by omega)]
        rw [Array.getElem?_setIfInBounds_ne (by omega)]

def putCells (off : Nat) (v cs : Array Value) : Array Value := v.zipIdx.foldl (fun cs (c, j) => cs.setIfInBounds (off + j) c) cs

theorem fold_cells (off : Nat) (v : Array Value) (cs : Array Value) :
    (putCells off v cs).size = cs.size ∧ ∀ k, (putCells off v cs)[k]? = if off ≤ k ∧ k < off + v.size ∧ k < cs.size then v[k - off]? else cs[k]? := by
  have e : putCells off v cs = ((v.toList.zipIdx 0).foldl (fun (cs : Array Value) (x : Value × Nat) => cs.setIfInBounds (off + x.2) x.1) cs) := by
    unfold putCells
    rw [← Array.foldl_toList]
    rw [Array.toList_zipIdx]
  rw [e]
  obtain ⟨h1, h2⟩ := foldl_set off v.toList 0 cs
  refine ⟨h1, fun k => ?_⟩
  rw [h2 k]
  simp

theorem setFrom_spec : ∀ (cs row : List DV) (j : Nat), (setFrom row j cs).length = row.length ∧
    ∀ k, (setFrom row j cs)[k]? = if j ≤ k ∧ k < j + cs.length ∧ k < row.length then cs[k - j]? else row[k]?
  | [], row, j => ⟨rfl, fun k => by simp [setFrom]; intro h1 h2; omega⟩
  | c :: cs, row, j => by
    obtain ⟨h1, h2⟩ := setFrom_spec cs (row.set j c) (j + 1)
    simp only [setFrom]
    refine ⟨by rw [h1]; simp, fun k => ?_⟩
    rw [h2 k]
    simp only [List.length_set, List.length_cons]
    by_cases hk : k = j
    · subst hk
      rw [if_neg (by omega)]
      by_cases hb : k < row.length
      · rw [if_pos (by omega)]
        simp [hb]
      · rw [if_neg (by omega)]
        rw [List.getElem?_eq_none (by simp; omega), List.getElem?_eq_none (by omega)]
    · by_cases hc : j + 1 ≤ k ∧ k < j + 1 + cs.length ∧ k < row.length
      · rw [if_pos hc, if_pos (by omega)]
        rw [show k - j = (k - (j + 1)) + 1 by omega]
        simp
      · rw [if_neg hc, if_neg (by omega)]
        rw [List.getElem?_set_ne (by omega)]

theorem isU_ne {d : DV} (h : d.isU = false) : d ≠ .undef := by rintro rfl; simp [DV.isU] at h

theorem fill_build (hf : FRep F σ hp w fr a.tmps) (place : Nat → Option (Nat × Nat)) : ∀ (ps : List (Nat × Operand)) (parts : List (Nat × Nat × DA)) (ds : List DV) (cells : Array Value),
    mBuild place ps parts = true → All2 (VRep F σ hp w) ds cells.toList → (buildCells ds fr parts).1 →
    ∃ cells', Instr.fill place cells (ps.map fun (i, x) => (i, a.eval x)) = some cells' ∧ All2 (VRep F σ hp w) (buildCells ds fr parts).2 cells'.toList
  | [], [], ds, cells, _, h, _ => ⟨cells, rfl, h⟩
  | (i, x) :: ps, (off, n, y) :: parts, ds, cells, hm, h, hb => by
    simp only [mBuild, Bool.and_eq_true, decide_eq_true_eq] at hm
    obtain ⟨⟨hpl, hx⟩, hm⟩ := hm
    obtain ⟨hu, hn, hoff, hb⟩ := hb
    have hc := cells_rep' (mArg_rep hf hx) (isU_ne hu)
    have hsz : (a.eval x).cells.size = n := by rw [← hn, hc.1]; simp
    have hds : ds.length = cells.size := by simpa using h.1
    obtain ⟨f1, f2⟩ := fold_cells off (a.eval x).cells cells
    obtain ⟨s1, s2⟩ := setFrom_spec (cellsOf (y.ev fr)) ds off
    obtain ⟨cells', e1, e2⟩ := fill_build hf place ps parts (setFrom ds off (cellsOf (y.ev fr))) (putCells off (a.eval x).cells cells) hm
      (⟨by rw [s1, hds, Array.length_toList, f1], fun k d hd => by
        rw [s2 k] at hd
        split at hd
        · rename_i hk
          obtain ⟨u, hu, hr⟩ := hc.2 _ _ hd
          refine ⟨u, ?_, hr⟩
          rw [Array.getElem?_toList]
          refine (f2 k).trans ?_
          rw [if_pos (by omega)]
          simpa using hu
        · rename_i hk
          obtain ⟨u, hu, hr⟩ := h.2 _ _ hd
          refine ⟨u, ?_, hr⟩
          rw [Array.getElem?_toList]
          refine (f2 k).trans ?_
          rw [if_neg (by omega)]
          simpa using hu⟩) hb
    refine ⟨cells', ?_, e2⟩
    simp only [List.map_cons, Instr.fill, hpl]
    rw [if_neg]
    · exact e1
    · simp [hsz]; omega
  | [], _ :: _, _, _, hm, _, _ => by simp [mBuild] at hm
  | _ :: _, [], _, _, hm, _, _ => by simp [mBuild] at hm

theorem run_mapM (f : Field → Sem (Nat × Nat)) (g : Field → Nat × Nat) (fs : Array Field) (h : ∀ x ∈ fs.toList, (f x).run P w = .ok (g x) w) : (fs.mapM f).run P w = .ok (fs.map g) w := by
  have key : ∀ l : List Field, (∀ x ∈ l, (f x).run P w = .ok (g x) w) → (l.mapM f).run P w = .ok (l.map g) w := by
    intro l
    induction l with
    | nil => intro _; simp
    | cons x l ih =>
      intro h
      simp [List.mapM_cons, h x (by simp), ih (fun y hy => h y (by simp [hy]))]
  rw [Array.mapM_eq_mapM_toList]
  rw [Sem.run_map, key fs.toList h]
  simp only [Result.andThen_ok]
  congr 1
  apply Array.ext'
  simp

theorem q_build {t : TypeId} {ps : Array (Nat × Operand)} {zero : List DV} {parts : List (Nat × Nat × DA)} (ho : o.op = .build t ps) (hm : mOp P (.build t ps) (.build zero parts) = true) (hf : FRep F σ hp w fr a.tmps)
    (h : (buildCells zero fr parts).1) : Quick P F σ hp w o a (.agg (buildCells zero fr parts).2) := by
  simp only [mOp, Bool.and_eq_true] at hm
  obtain ⟨hz, hm⟩ := hm
  cases hi : P.info? t with
  | none => simp [hi] at hz
  | some i =>
    simp only [hi] at hz
    cases hzz : i.zero with
    | none => simp [hzz] at hz
    | some z =>
      simp only [hzz] at hz
      have hz' : All2 (VRep F σ hp w) zero z.cells.toList := (cMatchL_all hz).imp fun d v h => .imm h.1
      have hzv : (zeroValue t).run P w = .ok z w := by simp [zeroValue, typeInfo, hi, hzz]
      have hl : (ps.map fun x => match x with | (i, x) => (i, a.eval x)).toList = ps.toList.map fun (i, x) => (i, a.eval x) := by simp
      split at hm
      · rename_i fs hu
        simp only [Bool.and_eq_true, List.all_eq_true] at hm
        obtain ⟨hall, hm⟩ := hm
        obtain ⟨cells', e1, e2⟩ := fill_build hf _ _ _ _ _ hm hz' h
        have hpl : (fs.mapM fun f => do pure (f.offset, ← sizeOf f.type) : Sem (Array (Nat × Nat))).run P w = .ok (fs.map fun f => (f.offset, P.cellsOf f.type)) w := by
          refine run_mapM _ _ _ fun x hx => ?_
          obtain ⟨j, hj⟩ := Option.isSome_iff_exists.1 (hall x hx)
          simp [sizeOf, typeInfo, hj, Program.cellsOf]
        have hfun : (fun (i : Nat) => (fs.map fun f => (f.offset, P.cellsOf f.type))[i]?) = fun (i : Nat) => (fs[i]?).bind fun (f : Field) => (P.info? f.type).map fun j => (f.offset, j.size) := by
          funext i
          rw [Array.getElem?_map]
          cases hfi : fs[i]? with
          | none => simp
          | some f =>
            obtain ⟨j, hj⟩ := Option.isSome_iff_exists.1 (hall f (by simpa using Array.mem_of_getElem? hfi))
            simp [hj, Program.cellsOf]
        refine ⟨.agg cells', ?_, VRep.agg_mk (by simpa using e2.1) fun j d hd => by
          obtain ⟨u, hu, hr⟩ := e2.2 j d hd
          exact ⟨u, by simpa using hu, hr⟩⟩
        simp only [execOp, ho, Instr.build, Sem.run_bind, hzv, Result.andThen_ok, run_under hu, hpl, hfun, hl, e1, Sem.run_pure]
      · rename_i n e hu
        cases hj : P.info? e with
        | none => simp [hj] at hm
        | some j =>
          simp only [hj] at hm
          obtain ⟨cells', e1, e2⟩ := fill_build hf _ _ _ _ _ hm hz' h
          refine ⟨.agg cells', ?_, VRep.agg_mk (by simpa using e2.1) fun j d hd => by
            obtain ⟨u, hu, hr⟩ := e2.2 j d hd
            exact ⟨u, by simpa using hu, hr⟩⟩
          have hsz : (sizeOf e).run P w = .ok j.size w := by simp [sizeOf, typeInfo, hj]
          simp only [execOp, ho, Instr.build, Sem.run_bind, hzv, Result.andThen_ok, run_under hu, hsz, hl, e1, Sem.run_pure]
      · cases hm
end
end Go.Nk
