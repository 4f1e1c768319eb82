/- Ports, slots, images; which images have the same inputs and outputs. -/
import Derived.Test.YtkefjfaeaalmbaaDoorTyB
set_option linter.all false
set_option maxRecDepth 20000
namespace Go.Proofs.YtkefjfaeaalmbaaDoor
open Go.Nk


/-- A port. -/
structure Prt where
  name : List UInt8
  ty : Ty
@[reducible] def cPrt (p : Prt) : List DV := [.str p.name, .int .i64 p.ty.k, .int .i64 p.ty.e, .int .i64 p.ty.n]
theorem cPrt_inj : ∀ x y, cPrt x = cPrt y → x = y := fun x y h => by
  obtain ⟨n, k, e, m⟩ := x; obtain ⟨n', k', e', m'⟩ := y
  simp only [cPrt, List.cons.injEq, DV.str.injEq, DV.int.injEq, true_and, and_true] at h
  obtain ⟨rfl, rfl, rfl, rfl⟩ := h
  rfl
instance : Inhabited Prt := ⟨⟨[], default⟩⟩
theorem prt_getD {l : List Prt} {j : Nat} (h : j < l.length) : (l.map cPrt).getD j [] = cPrt (l.getD j default) := by simp [h]
abbrev ePrts : List Prt → DV := eL cPrt
theorem inj_Prts : Inj ePrts := inj_L cPrt_inj

/-- What is kept. -/
structure Slt where
  path : List UInt8
  ty : Ty
  at_ : Int
  ini : List Int
@[reducible] def cSlt (s : Slt) : List DV := [.str s.path, .int .i64 s.ty.k, .int .i64 s.ty.e, .int .i64 s.ty.n, .int .i64 s.at_, .sl (ils s.ini)]
theorem cSlt_inj : ∀ x y, cSlt x = cSlt y → x = y := fun x y h => by
  obtain ⟨n, ⟨k, e, m⟩, a, i⟩ := x; obtain ⟨n', ⟨k', e', m'⟩, a', i'⟩ := y
  simp only [cSlt, List.cons.injEq, DV.str.injEq, DV.int.injEq, DV.sl.injEq, true_and, and_true] at h
  obtain ⟨rfl, rfl, rfl, rfl, rfl, h⟩ := h
  rw [ils_inj h]
instance : Inhabited Slt := ⟨⟨[], default, 0, []⟩⟩

/-- An instruction. -/
structure In4 where
  o : Int
  a : Int
  b : Int
  n : Int
@[reducible] def cIn4 (x : In4) : List DV := [.int .i64 x.o, .int .i64 x.a, .int .i64 x.b, .int .i64 x.n]
theorem cIn4_inj : ∀ x y, cIn4 x = cIn4 y → x = y := fun x y h => by
  cases x; cases y
  simp only [cIn4, List.cons.injEq, DV.int.injEq, true_and, and_true] at h
  obtain ⟨rfl, rfl, rfl, rfl⟩ := h
  rfl

/-- An image. -/
structure Img where
  en : List En
  ins : List Prt
  outs : List Prt
  slots : List Slt
  loc : List Int
  code : List In4
@[reducible] def cImg (x : Img) : List DV := [.sl (x.en.map cEn), .sl (x.ins.map cPrt), .sl (x.outs.map cPrt), .sl (x.slots.map cSlt), .sl (ils x.loc), .sl (x.code.map cIn4)]
theorem cImg_inj : ∀ x y, cImg x = cImg y → x = y := fun x y h => by
  cases x; cases y
  simp only [cImg, List.cons.injEq, DV.sl.injEq, and_true] at h
  obtain ⟨h1, h2, h3, h4, h5, h6⟩ := h
  rw [map_inj cEn_inj _ _ h1, map_inj cPrt_inj _ _ h2, map_inj cPrt_inj _ _ h3, map_inj cSlt_inj _ _ h4, ils_inj h5, map_inj cIn4_inj _ _ h6]
abbrev eImg : Img → DV := eA cImg
theorem inj_Img : Inj eImg := inj_A cImg_inj

def portF (a : List En) (p : Prt) (b : List En) (q : Prt) : Bool := decide (p.name = q.name) && alikeF a p.ty b q.ty
def allP (a : List En) (p : List Prt) (b : List En) (q : List Prt) : Bool := (p.zip q).all fun x => portF a x.1 b x.2
def portsF (a : List En) (p : List Prt) (b : List En) (q : List Prt) : Bool := p.length == q.length && allP a p b q
theorem allP_take {a b : List En} {p q : List Prt} {k : Nat} (h1 : k < p.length) (h2 : k < q.length) (h : ((p.zip q).take k).all (fun x => portF a x.1 b x.2) = true) (e : portF a (p.getD k default) b (q.getD k default) = true) :
    ((p.zip q).take (k + 1)).all (fun x => portF a x.1 b x.2) = true := by
  have hz : (p.zip q)[k]? = some (p[k], q[k]) := List.getElem?_zip_eq_some.2 ⟨by simp [h1], by simp [h2]⟩
  have e1 : p.getD k default = p[k] := by simp [h1]
  have e2 : q.getD k default = q[k] := by simp [h2]
  rw [List.take_add_one, hz, List.all_append, h]
  rw [e1, e2] at e
  simp [e]
theorem allP_not {a b : List En} {p q : List Prt} {k : Nat} (h1 : k < p.length) (h2 : k < q.length) (e : portF a (p.getD k default) b (q.getD k default) = false) : allP a p b q = false := by
  unfold allP
  rw [List.all_eq_false]
  refine ⟨(p.getD k default, q.getD k default), ?_, by simp only [e]; simp⟩
  rw [List.mem_iff_getElem]
  exact ⟨k, by simp; omega, by simp [h1, h2]⟩

noncomputable def s_ports : List DV → Prop × DV := spec4 eEns ePrts eEns ePrts fun a p b q => (fewEn a ∧ fewEn b ∧ p.length ≤ 1000000000, .bool (portsF a p b q))
theorem s_ports_at (a : List En) (p : List Prt) (b : List En) (q : List Prt) : s_ports [.sl (a.map cEn), .sl (p.map cPrt), .sl (b.map cEn), .sl (q.map cPrt)] = (fewEn a ∧ fewEn b ∧ p.length ≤ 1000000000, .bool (portsF a p b q)) := spec4_at inj_Ens inj_Prts inj_Ens inj_Prts _ _ _ _ _
abbrev ePrt : Prt → DV := eA cPrt
theorem inj_Prt : Inj ePrt := inj_A cPrt_inj
@[reducible] def eRImg (x : Img) : DV := .ref (cImg x)
theorem inj_RImg : Inj eRImg := fun _ _ h => by
  injection h with h
  exact cImg_inj _ _ h
noncomputable def s_Same1 : List DV → Prop × DV := spec4 ePrt ePrt eRImg eRImg fun p q a b => (fewEn a.en ∧ fewEn b.en, .bool (portF a.en p b.en q))
theorem s_Same1_at (p q : Prt) (a b : Img) : s_Same1 [.agg (cPrt p), .agg (cPrt q), .ref (cImg a), .ref (cImg b)] = (fewEn a.en ∧ fewEn b.en, .bool (portF a.en p b.en q)) := spec4_at inj_Prt inj_Prt inj_RImg inj_RImg _ _ _ _ _
end Go.Proofs.YtkefjfaeaalmbaaDoor
