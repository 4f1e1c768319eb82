/- ArithDoes and ArithTurns: of every arguments. -/
import Derived.Test.YtnifkcjpcppioaaArithTu
set_option linter.unusedSimpArgs false
set_option linter.unusedVariables false
set_option maxRecDepth 20000
namespace Go.Proofs.Ytnifkcjpcppioaa
open Go.Nk

theorem arithDoes_tells (dvs : List DV) (h : HasAll Try.prog [3, 2, 2] dvs) : TellsP Try.prog 3 dvs (.bool true) := by
  obtain ⟨d1, r, rfl, h1, d2, r', rfl, h2, d3, r3, rfl, h3, rfl⟩ := h
  obtain ⟨op, rfl, _⟩ := HasV_i64 (by kernel_rfl) h1
  obtain ⟨a, rfl, ha⟩ := HasV_i64 (by kernel_rfl) h2
  obtain ⟨b, rfl, hb⟩ := HasV_i64 (by kernel_rfl) h3
  exact does_tells op a b ha hb

theorem arithTurns_tells (dvs : List DV) (h : HasAll Try.prog [2, 2] dvs) : TellsP Try.prog 4 dvs (.bool true) := by
  obtain ⟨d1, r, rfl, h1, d2, r', rfl, h2, rfl⟩ := h
  obtain ⟨a, rfl, ha⟩ := HasV_i64 (by kernel_rfl) h1
  obtain ⟨b, rfl, hb⟩ := HasV_i64 (by kernel_rfl) h2
  exact turns_tells a b ha hb
end Go.Proofs.Ytnifkcjpcppioaa
