/- Every argument of MemFinds and MemPuts. -/
import Derived.Test.YtlbemkkfgijljaaMmD
set_option linter.all false
set_option maxRecDepth 20000
namespace Go.Proofs.Ytlbemkkfgijljaa
open Go.Nk

theorem reads_Ils : Reads (.slice (.int .i64)) (fun l : List Int => [.sl (ils l)]) (fun _ => True) :=
  Reads.as (Reads.slice Reads.int) (fun l => l) (fun _ => rfl) (fun _ _ => trivial)
theorem reads_Cel : Reads (.struct [.str, .slice (.int .i64)]) cCel (fun _ => True) :=
  Reads.as (Reads.struct (Reads.cons Reads.str (Reads.cons reads_Ils Reads.nil))) (fun x => ⟨x.1, x.2.1⟩) (fun _ => rfl) (fun _ _ => trivial)
theorem reads_Cels : Reads (.slice (.struct [.str, .slice (.int .i64)])) (fun m : List Cel => [.sl (m.map cCel)]) (fun _ => True) :=
  Reads.as (Reads.slice reads_Cel) (fun l => l) (fun _ => rfl) (fun _ _ => trivial)
theorem memFinds_tells (dvs : List DV) (h : HasAll Try.prog [22, 9, 22] dvs) : TellsP Try.prog 4 dvs (.bool true) := by
  obtain ⟨d1, r, rfl, h1, d2, r', rfl, h2, d3, r3, rfl, h3, rfl⟩ := h
  obtain ⟨m, hm, _⟩ := HasV_one (by kernel_rfl) rfl reads_Cels h1
  obtain ⟨p, hp, _⟩ := HasV_one (by kernel_rfl) rfl Reads.str h2
  obtain ⟨s, hs, _⟩ := HasV_one (by kernel_rfl) rfl reads_Cels h3
  injection hm with hm; injection hp with hp; injection hs with hs
  subst hm hp hs
  have e := s_lawFinds_at m p s
  have := (ok_norialaw23_MemFinds _ (by rw [e]; trivial)).2
  rw [e] at this
  exact this
theorem memPuts_tells (dvs : List DV) (h : HasAll Try.prog [22, 9, 23] dvs) : TellsP Try.prog 3 dvs (.bool true) := by
  obtain ⟨d1, r, rfl, h1, d2, r', rfl, h2, d3, r3, rfl, h3, rfl⟩ := h
  obtain ⟨m, hm, _⟩ := HasV_one (by kernel_rfl) rfl reads_Cels h1
  obtain ⟨p, hp, _⟩ := HasV_one (by kernel_rfl) rfl Reads.str h2
  obtain ⟨v, hv, _⟩ := HasV_one (by kernel_rfl) rfl reads_Ils h3
  injection hm with hm; injection hp with hp; injection hv with hv
  subst hm hp hv
  have e := s_lawPuts_at m p v
  have := (ok_norialaw23_MemPuts _ (by rw [e]; trivial)).2
  rw [e] at this
  exact this
end Go.Proofs.Ytlbemkkfgijljaa
