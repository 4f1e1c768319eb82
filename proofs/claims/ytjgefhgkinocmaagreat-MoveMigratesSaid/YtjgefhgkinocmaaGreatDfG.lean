/- Every argument of DifferTexts and DifferTells. -/
import Derived.Test.YtjgefhgkinocmaaGreatDfF
set_option linter.all false
set_option maxRecDepth 20000
namespace Go.Proofs.YtjgefhgkinocmaaGreat
open Go.Nk
theorem reads_Ss : zaa (.slice .str) (fun l : List (List UInt8) => [.sl (sls l)]) (fun _ => True) :=
 zaa.as (zaa.slice zaa.str) (fun l => l) (fun _ => rfl) (fun _ _ => trivial)
theorem z7z : zaa (.slice (.int .i64)) (fun l : List Int => [.sl (ils l)]) (fun l => l.length <= zds) :=
 zaa.as (zaa.slice zaa.int) (fun l => l) (fun _ => rfl) (fun _ h => h.1)
theorem reads_En : zaa (.struct [.str,.slice .str]) cEn (fun _ => True) :=
 zaa.as (zaa.struct (zaa.cons zaa.str (zaa.cons reads_Ss zaa.nil))) (fun x => ⟨x.1,x.2.1⟩) (fun _ => rfl) (fun _ _ => trivial)
@[reducible] def shTy : Sh := .struct [.int .i64,.int .i64,.int .i64]
theorem z7w : zaa shTy cTy (fun _ => True) :=
 zaa.as (zaa.struct (zaa.cons zaa.int (zaa.cons zaa.int (zaa.cons zaa.int zaa.nil)))) (fun x => ⟨x.1,x.2.1,x.2.2.1⟩) (fun _ => rfl) (fun _ _ => trivial)
theorem z2f : zaa (.struct [.str,shTy]) cPrt (fun _ => True) :=
 zaa.as (zaa.struct (zaa.cons zaa.str (zaa.cons z7w zaa.nil))) (fun x => ⟨x.1,x.2.1⟩) (fun _ => rfl) (fun _ _ => trivial)
theorem yfs : zaa (.struct [.str,shTy,.int .i64,.slice (.int .i64)]) cSlt (fun _ => True) :=
 zaa.as (zaa.struct (zaa.cons zaa.str (zaa.cons z7w (zaa.cons zaa.int (zaa.cons z7z zaa.nil))))) (fun x => ⟨x.1,x.2.1,x.2.2.1,x.2.2.2.1⟩) (fun _ => rfl) (fun _ _ => trivial)
theorem ycy : zaa (.struct [.int .i64,.int .i64,.int .i64,.int .i64]) cIn4 (fun _ => True) :=
 zaa.as (zaa.struct (zaa.cons zaa.int (zaa.cons zaa.int (zaa.cons zaa.int (zaa.cons zaa.int zaa.nil))))) (fun x => ⟨x.1,x.2.1,x.2.2.1,x.2.2.2.1⟩) (fun _ => rfl) (fun _ _ => trivial)
@[reducible] def shImg : Sh := .struct [.slice (.struct [.str,.slice .str]),.slice (.struct [.str,shTy]),.slice (.struct [.str,shTy]),.slice (.struct [.str,shTy,.int .i64,.slice (.int .i64)]),.slice (.int .i64),.slice (.struct [.int .i64,.int .i64,.int .i64,.int .i64])]
theorem z38 : zaa shImg cImg zv3 :=
 zaa.as (zaa.struct (zaa.cons (zaa.slice reads_En) (zaa.cons (zaa.slice z2f) (zaa.cons (zaa.slice z2f) (zaa.cons (zaa.slice yfs) (zaa.cons z7z (zaa.cons (zaa.slice ycy) zaa.nil)))))))
   (fun x => ⟨x.1,x.2.1,x.2.2.1,x.2.2.2.1,x.2.2.2.2.1,x.2.2.2.2.2.1⟩) (fun _ => rfl) (fun x h => by
     have h1 := h.2.1.1
     have h2 := h.2.2.1.1
     simp only [zds] at h1 h2
     exact ⟨by simp only; omega,by simp only; omega⟩)
end Go.Proofs.YtjgefhgkinocmaaGreat
