/- Every argument of TyAlike, TyTells. -/
import Derived.Test.YtkefjfaeaalmbaaDoorTxC
set_option linter.all false
set_option maxRecDepth 20000
namespace Go.Proofs.YtkefjfaeaalmbaaDoor
open Go.Nk

theorem reads_Nms : Reads (.slice .str) (fun l : List (List UInt8) => [.sl (sls l)]) (fun _ => True) :=
  Reads.as (Reads.slice Reads.str) (fun l => l) (fun _ => rfl) (fun _ _ => trivial)
theorem reads_EnT : Reads (.struct [.str, .slice .str]) cEn (fun _ => True) :=
  Reads.as (Reads.struct (Reads.cons Reads.str (Reads.cons reads_Nms Reads.nil))) (fun x => ⟨x.1, x.2.1⟩) (fun _ => rfl) (fun _ _ => trivial)
theorem reads_EnsT : Reads (.slice (.struct [.str, .slice .str])) (fun m : List En => [.sl (m.map cEn)]) (fun _ => True) :=
  Reads.as (Reads.slice reads_EnT) (fun l => l) (fun _ => rfl) (fun _ _ => trivial)
def shTy1 : Sh := .struct [.int .i64, .int .i64, .int .i64]
theorem reads_Ty1 : Reads shTy1 cTy (fun _ => True) :=
  Reads.as (Reads.struct (Reads.cons Reads.int (Reads.cons Reads.int (Reads.cons Reads.int Reads.nil)))) (fun x => ⟨x.1, x.2.1, x.2.2.1⟩) (fun _ => rfl) (fun _ _ => trivial)
theorem reads_Ty2 : Reads (.struct [shTy1, shTy1]) cTy2 (fun _ => True) :=
  Reads.as (Reads.struct (Reads.cons reads_Ty1 (Reads.cons reads_Ty1 Reads.nil))) (fun x => (x.1, x.2.1)) (fun _ => rfl) (fun _ _ => trivial)
theorem tyAlike_tells (dvs : List DV) (h : HasAll Tryd.prog [22, 22, 25] dvs) : TellsP Tryd.prog 3 dvs (.bool true) := by
  obtain ⟨d1, r, rfl, h1, d2, r', rfl, h2, d3, r3, rfl, h3, rfl⟩ := h
  obtain ⟨a, ha, _⟩ := HasV_one (by kernel_rfl) rfl reads_EnsT h1
  obtain ⟨b, hb, _⟩ := HasV_one (by kernel_rfl) rfl reads_EnsT h2
  obtain ⟨l, rfl, _⟩ := HasV_agg (by kernel_rfl) reads_Ty2 h3
  injection ha with ha; injection hb with hb
  subst ha hb
  have e := s_lawAlike_at a b l
  have := (ok_norialaw05_TyAlike _ (by rw [e]; trivial)).2
  rw [e] at this
  exact this
theorem tyTells_tells (dvs : List DV) (h : HasAll Tryd.prog [22, 24, 9] dvs) : TellsP Tryd.prog 4 dvs (.bool true) := by
  obtain ⟨d1, r, rfl, h1, d2, r', rfl, h2, d3, r3, rfl, h3, rfl⟩ := h
  obtain ⟨a, ha, _⟩ := HasV_one (by kernel_rfl) rfl reads_EnsT h1
  obtain ⟨t, rfl, _⟩ := HasV_agg (by kernel_rfl) reads_Ty1 h2
  obtain ⟨n, hn, _⟩ := HasV_one (by kernel_rfl) rfl Reads.str h3
  injection ha with ha; injection hn with hn
  subst ha hn
  have e := s_lawTells_at a t n
  have := (ok_norialaw05_TyTells _ (by rw [e]; trivial)).2
  rw [e] at this
  exact this
end Go.Proofs.YtkefjfaeaalmbaaDoor
