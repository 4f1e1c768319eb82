/- Every argument of the laws of face. -/
import Derived.Test.YtiidllpiipcdjaaTyU
set_option linter.all false
set_option maxRecDepth 20000
namespace Go.Proofs.Ytiidllpiipcdjaa
open Go.Nk

theorem reads_Ss : Reads (.slice .str) (fun l : List (List UInt8) => [.sl (sls l)]) (fun _ => True) :=
  Reads.as (Reads.slice Reads.str) (fun l => l) (fun _ => rfl) (fun _ _ => trivial)
theorem reads_Is : Reads (.slice (.int .i64)) (fun l : List Int => [.sl (ils l)]) (fun l => l.length ≤ capLen) :=
  Reads.as (Reads.slice Reads.int) (fun l => l) (fun _ => rfl) (fun _ h => h.1)
theorem reads_En : Reads (.struct [.str, .slice .str]) cEn (fun _ => True) :=
  Reads.as (Reads.struct (Reads.cons Reads.str (Reads.cons reads_Ss Reads.nil))) (fun x => ⟨x.1, x.2.1⟩) (fun _ => rfl) (fun _ _ => trivial)
@[reducible] def shTy : Sh := .struct [.int .i64, .int .i64, .int .i64]
theorem reads_Ty : Reads shTy cTy (fun _ => True) :=
  Reads.as (Reads.struct (Reads.cons Reads.int (Reads.cons Reads.int (Reads.cons Reads.int Reads.nil)))) (fun x => ⟨x.1, x.2.1, x.2.2.1⟩) (fun _ => rfl) (fun _ _ => trivial)
theorem reads_Prt : Reads (.struct [.str, shTy]) cPrt (fun _ => True) :=
  Reads.as (Reads.struct (Reads.cons Reads.str (Reads.cons reads_Ty Reads.nil))) (fun x => ⟨x.1, x.2.1⟩) (fun _ => rfl) (fun _ _ => trivial)
theorem reads_Slt : Reads (.struct [.str, shTy, .int .i64, .slice (.int .i64)]) cSlt (fun _ => True) :=
  Reads.as (Reads.struct (Reads.cons Reads.str (Reads.cons reads_Ty (Reads.cons Reads.int (Reads.cons reads_Is Reads.nil))))) (fun x => ⟨x.1, x.2.1, x.2.2.1, x.2.2.2.1⟩) (fun _ => rfl) (fun _ _ => trivial)
theorem reads_In4 : Reads (.struct [.int .i64, .int .i64, .int .i64, .int .i64]) cIn4 (fun _ => True) :=
  Reads.as (Reads.struct (Reads.cons Reads.int (Reads.cons Reads.int (Reads.cons Reads.int (Reads.cons Reads.int Reads.nil))))) (fun x => ⟨x.1, x.2.1, x.2.2.1, x.2.2.2.1⟩) (fun _ => rfl) (fun _ _ => trivial)
@[reducible] def shImg : Sh := .struct [.slice (.struct [.str, .slice .str]), .slice (.struct [.str, shTy]), .slice (.struct [.str, shTy]), .slice (.struct [.str, shTy, .int .i64, .slice (.int .i64)]), .slice (.int .i64), .slice (.struct [.int .i64, .int .i64, .int .i64, .int .i64])]
theorem reads_Img : Reads shImg cImg okLen :=
  Reads.as (Reads.struct (Reads.cons (Reads.slice reads_En) (Reads.cons (Reads.slice reads_Prt) (Reads.cons (Reads.slice reads_Prt) (Reads.cons (Reads.slice reads_Slt) (Reads.cons reads_Is (Reads.cons (Reads.slice reads_In4) Reads.nil)))))))
    (fun x => ⟨x.1, x.2.1, x.2.2.1, x.2.2.2.1, x.2.2.2.2.1, x.2.2.2.2.2.1⟩) (fun _ => rfl) (fun x h => by
      have h1 := h.2.1.1
      have h2 := h.2.2.1.1
      simp only [capLen] at h1 h2
      exact ⟨by simp only; omega, by simp only; omega⟩)
theorem reads_Three : Reads (.struct [shImg, shImg, shImg]) cThree (fun x => okLen x.1 ∧ okLen x.2.1 ∧ okLen x.2.2) :=
  Reads.as (Reads.struct (Reads.cons reads_Img (Reads.cons reads_Img (Reads.cons reads_Img Reads.nil)))) (fun x => (x.1, x.2.1, x.2.2.1)) (fun _ => rfl) (fun x h => ⟨h.1, h.2.1, h.2.2.1⟩)
theorem reads_Rows : Reads (.slice (.slice (.int .i64))) (fun v : List (List Int) => [.sl (v.map cIls)]) (fun _ => True) :=
  Reads.as (Reads.slice reads_Is) (fun l => l) (fun _ => rfl) (fun _ _ => trivial)

theorem faceSame_tells (dvs : List DV) (h : HasAll Try.prog [28, 28] dvs) : TellsP Try.prog 4 dvs (.bool true) := by
  obtain ⟨d1, r, rfl, h1, d2, r', rfl, h2, rfl⟩ := h
  obtain ⟨a, rfl, ha⟩ := HasV_agg (by kernel_rfl) reads_Img h1
  obtain ⟨b, rfl, hb⟩ := HasV_agg (by kernel_rfl) reads_Img h2
  have e := s_lawSame_at a b
  have := (ok_norialaw36_FaceSame _ (by rw [e]; exact ⟨ha, hb⟩)).2
  rw [e] at this
  exact this
theorem faceLays_tells (dvs : List DV) (h : HasAll Try.prog [28, 36, 38] dvs) : TellsP Try.prog 5 dvs (.bool true) := by
  obtain ⟨d1, r, rfl, h1, d2, r', rfl, h2, d3, r3, rfl, h3, rfl⟩ := h
  obtain ⟨x, rfl, hx⟩ := HasV_agg (by kernel_rfl) reads_Img h1
  obtain ⟨s, hs, _⟩ := HasV_one (by kernel_rfl) rfl reads_Is h2
  obtain ⟨v, hv, _⟩ := HasV_one (by kernel_rfl) rfl reads_Rows h3
  injection hs with hs; injection hv with hv
  subst hs hv
  have e := s_lawLays_at x s v
  have := (ok_norialaw36_FaceLays _ (by rw [e]; exact hx)).2
  rw [e] at this
  exact this
theorem faceTells_tells (dvs : List DV) (h : HasAll Try.prog [28, 36] dvs) : TellsP Try.prog 6 dvs (.bool true) := by
  obtain ⟨d1, r, rfl, h1, d2, r', rfl, h2, rfl⟩ := h
  obtain ⟨x, rfl, hx⟩ := HasV_agg (by kernel_rfl) reads_Img h1
  obtain ⟨c, hc, _⟩ := HasV_one (by kernel_rfl) rfl reads_Is h2
  injection hc with hc
  subst hc
  have e := s_lawTells_at x c
  have := (ok_norialaw36_FaceTells _ (by rw [e]; exact hx)).2
  rw [e] at this
  exact this
theorem faceThirds_tells (dvs : List DV) (h : HasAll Try.prog [29] dvs) : TellsP Try.prog 3 dvs (.bool true) := by
  obtain ⟨d1, r, rfl, h1, rfl⟩ := h
  obtain ⟨x, rfl, hx⟩ := HasV_agg (by kernel_rfl) reads_Three h1
  have e := s_lawThirds_at x
  have := (ok_norialaw36_FaceThirds _ (by rw [e]; exact hx)).2
  rw [e] at this
  exact this
end Go.Proofs.Ytiidllpiipcdjaa
