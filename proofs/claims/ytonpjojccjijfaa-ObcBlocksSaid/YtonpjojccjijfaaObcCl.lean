/- ObcClasses at the data level; of every arguments. -/
import Derived.Test.YtonpjojccjijfaaObc6
set_option linter.all false
set_option maxRecDepth 20000
namespace Go.Proofs.Ytonpjojccjijfaa
open Go.Nk

theorem few_ok {f : Flow} (h : fewF f = true) : okC f := by
  simp only [fewF, Bool.and_eq_true, decide_eq_true_eq] at h
  unfold okC
  omega
theorem clsF_w {f : Flow} (h : wFlow f) (hf : fewF f = true) : wCls (clsF f) := by
  have h60 : f.eqs.length ≤ 60 := by
    simp only [fewF, Bool.and_eq_true, decide_eq_true_eq] at hf
    exact hf.2
  refine ⟨h.1, h.2.1, h.2.2.1, ?_, fun s hs => ?_⟩
  · have := List.length_filter_le isF f.eqs
    simp [clsF]
    omega
  · simp only [clsF, List.mem_append, List.mem_map] at hs
    rcases hs with ⟨q, hq, rfl⟩ | ⟨q, hq, rfl⟩
    · exact h.2.2.2.2 q hq
    · exact h.2.2.2.2 q (List.mem_filter.1 hq).1

theorem maxLen_lt : capLen < 9223372036854775808 := by decide
theorem reads_names : Reads (.slice .str) (fun l : List (List UInt8) => [.sl (l.map cStr)]) (fun l => lw any l) :=
  Reads.as (Reads.slice Reads.str) (fun l => l) (fun _ => rfl) (fun l h => ⟨by have := maxLen_lt; omega, fun _ _ => trivial⟩)
theorem reads_ints : Reads (.slice (.int .i64)) (fun l : List Int => [.sl (l.map cInt)]) (fun l => lw any l) :=
  Reads.as (Reads.slice Reads.int) (fun l => l) (fun _ => rfl) (fun l h => ⟨by have := maxLen_lt; omega, fun _ _ => trivial⟩)
theorem reads_SN : Reads (.struct [.str, .int .i64]) cSN any :=
  Reads.as (Reads.struct (Reads.cons Reads.str (Reads.cons Reads.int Reads.nil))) (fun x => ⟨x.1, x.2.1⟩) (fun _ => rfl) (fun _ _ => trivial)
theorem reads_SNs : Reads (.slice (.struct [.str, .int .i64])) (fun l : List SN => [.sl (l.map cSN)]) (fun l => lw any l) :=
  Reads.as (Reads.slice reads_SN) (fun l => l) (fun _ => rfl) (fun l h => ⟨by have := maxLen_lt; omega, fun _ _ => trivial⟩)
@[reducible] def shPlain : Sh := .struct [.int .i64, .slice .str, .int .i64, .slice (.struct [.str, .int .i64]), .slice (.int .i64), .int .i64, .bool, .struct [.str, .int .i64], .slice (.struct [.str, .int .i64])]
theorem reads_Plain : Reads shPlain cPlain wPlain :=
  Reads.as (Reads.struct (Reads.cons Reads.int (Reads.cons reads_names (Reads.cons Reads.int (Reads.cons reads_SNs (Reads.cons reads_ints (Reads.cons Reads.int (Reads.cons Reads.bool (Reads.cons reads_SN (Reads.cons reads_SNs Reads.nil))))))))))
    (fun x => ⟨x.1, x.2.1, x.2.2.1, x.2.2.2.1, x.2.2.2.2.1, x.2.2.2.2.2.1, x.2.2.2.2.2.2.1, x.2.2.2.2.2.2.2.1.s, x.2.2.2.2.2.2.2.1.n, x.2.2.2.2.2.2.2.2.1⟩) (fun _ => rfl) (fun _ h => ⟨h.2.1, h.2.2.2.1, h.2.2.2.2.1, h.2.2.2.2.2.2.2.2.1⟩)
@[reducible] def shVar : Sh := .struct [.str, .struct [.int .i64, .int .i64, .int .i64], .slice (.struct [.str, .int .i64])]
theorem reads_Var : Reads shVar cVar wVar :=
  Reads.as (Reads.struct (Reads.cons Reads.str (Reads.cons (Reads.struct (Reads.cons Reads.int (Reads.cons Reads.int (Reads.cons Reads.int Reads.nil)))) (Reads.cons reads_SNs Reads.nil))))
    (fun x => ⟨x.1, x.2.1.1, x.2.1.2.1, x.2.1.2.2.1, x.2.2.1⟩) (fun _ => rfl) (fun _ h => h.2.2.1)
theorem reads_list {α : Type} {s : Sh} {c : α → List DV} {W : α → Prop} (h : Reads s c W) : Reads (.slice s) (fun l : List α => [.sl (l.map c)]) (fun l => lw W l) :=
  Reads.as (Reads.slice h) (fun l => l) (fun _ => rfl) (fun l h => ⟨by have := maxLen_lt; omega, h.2⟩)
@[reducible] def shFlow : Sh := .struct [.str, .slice shVar, .slice shVar, .slice shVar, .slice shPlain]
theorem reads_Flow : Reads shFlow cFlow wFlow :=
  Reads.as (Reads.struct (Reads.cons Reads.str (Reads.cons (reads_list reads_Var) (Reads.cons (reads_list reads_Var) (Reads.cons (reads_list reads_Var) (Reads.cons (reads_list reads_Plain) Reads.nil))))))
    (fun x => ⟨x.1, x.2.1, x.2.2.1, x.2.2.2.1, x.2.2.2.2.1⟩) (fun _ => rfl) (fun _ h => ⟨h.2.1, h.2.2.1, h.2.2.2.1, h.2.2.2.2.1⟩)
end Go.Proofs.Ytonpjojccjijfaa
