/- Every argument of MemStarts. -/
import Derived.Test.YtlbemkkfgijljaaMsH
set_option linter.all false
set_option maxRecDepth 20000
namespace Go.Proofs.Ytlbemkkfgijljaa
open Go.Nk

theorem reads_Nms : Reads (.slice .str) (fun l : List (List UInt8) => [.sl (sls l)]) (fun l => ∀ s ∈ l, s.length ≤ capLen) :=
  Reads.as (Reads.slice Reads.str) (fun l => l) (fun _ => rfl) (fun _ h => h.2)
theorem reads_Tn : Reads (.struct [.str, .int .i64]) cTn (fun _ => True) :=
  Reads.as (Reads.struct (Reads.cons Reads.str (Reads.cons Reads.int Reads.nil))) (fun x => (x.1, x.2.1)) (fun _ => rfl) (fun _ _ => trivial)
theorem reads_Init : Reads (.slice (.int .i64)) (fun l : List Int => [.sl (ils l)]) (fun l => 8 * l.length ≤ capLen) :=
  Reads.as Reads.i64s (fun l => l) (fun _ => rfl) (fun _ h => h.1)
def shPl : Sh := .struct [.int .i64, .slice .str, .int .i64, .slice (.struct [.str, .int .i64]), .slice (.int .i64), .int .i64, .bool, .struct [.str, .int .i64], .slice (.struct [.str, .int .i64])]
theorem reads_Pl : Reads shPl cPl capQ :=
  Reads.as (Reads.struct (Reads.cons Reads.int (Reads.cons reads_Nms (Reads.cons Reads.int (Reads.cons (Reads.slice reads_Tn) (Reads.cons reads_Init (Reads.cons Reads.int (Reads.cons Reads.bool (Reads.cons reads_Tn (Reads.cons (Reads.slice reads_Tn) Reads.nil))))))))))
    (fun x => ⟨x.1, x.2.1, x.2.2.1, x.2.2.2.1, x.2.2.2.2.1, x.2.2.2.2.2.1, x.2.2.2.2.2.2.1, x.2.2.2.2.2.2.2.1.1, x.2.2.2.2.2.2.2.1.2, x.2.2.2.2.2.2.2.2.1⟩) (fun _ => rfl) (fun _ h => ⟨h.2.2.2.2.1, h.2.1⟩)
def shVa : Sh := .struct [.str, .struct [.int .i64, .int .i64, .int .i64], .slice (.struct [.str, .int .i64])]
theorem reads_Va : Reads shVa cVa (fun _ => True) :=
  Reads.as (Reads.struct (Reads.cons Reads.str (Reads.cons (Reads.struct (Reads.cons Reads.int (Reads.cons Reads.int (Reads.cons Reads.int Reads.nil)))) (Reads.cons (Reads.slice reads_Tn) Reads.nil))))
    (fun x => ⟨x.1, x.2.1.1, x.2.1.2.1, x.2.1.2.2.1, x.2.2.1⟩) (fun _ => rfl) (fun _ _ => trivial)
def shFl : Sh := .struct [.str, .slice shVa, .slice shVa, .slice shVa, .slice shPl]
theorem reads_Fl : Reads shFl cFl (fun f => capF f ∧ ∀ q ∈ f.eqs, capQ q) :=
  Reads.as (Reads.struct (Reads.cons Reads.str (Reads.cons (Reads.slice reads_Va) (Reads.cons (Reads.slice reads_Va) (Reads.cons (Reads.slice reads_Va) (Reads.cons (Reads.slice reads_Pl) Reads.nil))))))
    (fun x => ⟨x.1, x.2.1, x.2.2.1, x.2.2.2.1, x.2.2.2.2.1⟩) (fun _ => rfl) (fun _ h => h.2.2.2.2.1)
theorem reads_EnF : Reads (.struct [.str, .slice .str]) cEn (fun _ => True) :=
  Reads.as (Reads.struct (Reads.cons Reads.str (Reads.cons reads_Nms Reads.nil))) (fun x => (x.1, x.2.1)) (fun _ => rfl) (fun _ _ => trivial)
theorem reads_Fls : Reads (.struct [.slice (.struct [.str, .slice .str]), .slice shFl]) cFls capA :=
  Reads.as (Reads.struct (Reads.cons (Reads.slice reads_EnF) (Reads.cons (Reads.slice reads_Fl) Reads.nil))) (fun x => ⟨x.1, x.2.1⟩) (fun _ => rfl)
    (fun _ h => ⟨⟨h.2.1.1, fun f hf => (h.2.1.2 f hf).1⟩, fun f hf => (h.2.1.2 f hf).2⟩)
theorem memStarts_tells (dvs : List DV) (h : HasAll Try.prog [40, 3] dvs) : TellsP Try.prog 5 dvs (.bool true) := by
  obtain ⟨d1, r, rfl, h1, d2, r', rfl, h2, rfl⟩ := h
  obtain ⟨l, rfl, hl⟩ := HasV_agg (by kernel_rfl) reads_Fls h1
  obtain ⟨i, hi, _⟩ := HasV_one (by kernel_rfl) rfl Reads.int h2
  injection hi with hi
  subst hi
  have e := s_lawStarts_at l i
  have := (ok_norialaw23_MemStarts _ (by rw [e]; exact hl)).2
  rw [e] at this
  exact this
end Go.Proofs.Ytlbemkkfgijljaa
