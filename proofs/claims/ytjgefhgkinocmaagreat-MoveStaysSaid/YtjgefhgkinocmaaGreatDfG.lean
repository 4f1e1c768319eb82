/- Every argument of DifferTexts and DifferTells. -/
import Derived.Test.YtjgefhgkinocmaaGreatDfF
set_option linter.all false
set_option maxRecDepth 20000
namespace Go.Proofs.YtjgefhgkinocmaaGreat
open Go.Nk

theorem reads_Ss : Reads (.slice .str) (fun l : List (List UInt8) => [.sl (sls l)]) (fun _ => True) :=
  Reads.as (Reads.slice Reads.str) (fun l => l) (fun _ => rfl) (fun _ _ => trivial)
theorem reads_Is : Reads (.slice (.int .i64)) (fun l : List Int => [.sl (ils l)]) (fun l => l.length ≤ capLen) :=
  Reads.as (Reads.slice Reads.int) (fun l => l) (fun _ => rfl) (fun _ h => h.1)
theorem reads_En : Reads (.struct [.str, .slice .str]) cEn (fun _ => True) :=
  Reads.as (Reads.struct (Reads.cons Reads.str (Reads.cons reads_Ss Reads.nil))) (fun x => ⟨x.1, x.2.1⟩) (fun _ => rfl) (fun _ _ => trivial)
@[reducible] def shTy : Sh := .struct [.int .i64, .int .i64, .int .i64]
theorem reads_Ty : Reads shTy cTy (fun _ => True) :=
  Reads.as (Reads.struct (Reads.cons Reads.int (Reads.cons Reads.int (Reads.cons Reads.int Reads.nil)))) (fun x => ⟨x.1, x.2.1, x.2.2.1⟩) (fun _ => rfl) (fun _ _ => trivial)
theorem reads_Prt : Reads (.struct [.str, shTy]) cPrt (fun _ => True) :=
  Reads.as (Reads.struct (Reads.cons Reads.str (Reads.cons reads_Ty Reads.nil))) (fun x => ⟨x.1, x.2.1⟩) (fun _ => rfl) (fun _ _ => trivial)
theorem reads_Slt : Reads (.struct [.str, shTy, .int .i64, .slice (.int .i64)]) cSlt (fun _ => True) :=
  Reads.as (Reads.struct (Reads.cons Reads.str (Reads.cons reads_Ty (Reads.cons Reads.int (Reads.cons reads_Is Reads.nil))))) (fun x => ⟨x.1, x.2.1, x.2.2.1, x.2.2.2.1⟩) (fun _ => rfl) (fun _ _ => trivial)
theorem reads_In4 : Reads (.struct [.int .i64, .int .i64, .int .i64, .int .i64]) cIn4 (fun _ => True) :=
  Reads.as (Reads.struct (Reads.cons Reads.int (Reads.cons Reads.int (Reads.cons Reads.int (Reads.cons Reads.int Reads.nil))))) (fun x => ⟨x.1, x.2.1, x.2.2.1, x.2.2.2.1⟩) (fun _ => rfl) (fun _ _ => trivial)
@[reducible] def shImg : Sh := .struct [.slice (.struct [.str, .slice .str]), .slice (.struct [.str, shTy]), .slice (.struct [.str, shTy]), .slice (.struct [.str, shTy, .int .i64, .slice (.int .i64)]), .slice (.int .i64), .slice (.struct [.int .i64, .int .i64, .int .i64, .int .i64])]
theorem reads_Img : Reads shImg cImg okLen :=
  Reads.as (Reads.struct (Reads.cons (Reads.slice reads_En) (Reads.cons (Reads.slice reads_Prt) (Reads.cons (Reads.slice reads_Prt) (Reads.cons (Reads.slice reads_Slt) (Reads.cons reads_Is (Reads.cons (Reads.slice reads_In4) Reads.nil)))))))
    (fun x => ⟨x.1, x.2.1, x.2.2.1, x.2.2.2.1, x.2.2.2.2.1, x.2.2.2.2.2.1⟩) (fun _ => rfl) (fun x h => by
      have h1 := h.2.1.1
      have h2 := h.2.2.1.1
      simp only [capLen] at h1 h2
      exact ⟨by simp only; omega, by simp only; omega⟩)
end Go.Proofs.YtjgefhgkinocmaaGreat
