/- StreamSteps: whatever the input, it answers true and its arguments read as they did. No condition. -/
import Derived.Test.YtcokmopocppmiaaGreatPgNd
import Derived.Test.YtcokmopocppmiaaGreatRows
import Derived.WalkKit
import Derived.ProofKit
import Derived.JoinedOf
import Derived.HandedShaped
set_option linter.all false
namespace Go.Proofs.YtcokmopocppmiaaGreat
open Go.Nk Go.ChangeShapes Go.WideShapes Go.RowKit
theorem streamSteps_bulk(H:Type):aaY (H:=H) Rows.uptoBulk Rows.uptoBulkAll where
 lit l:=by cases l<;>simp[Rows.uptoBulk]
 str s:=by simp[Rows.uptoBulk]
 nil:=by simp[Rows.uptoBulk]
 ptr d:=by simp[Rows.uptoBulk]
 slice a b:=by simp only[Rows.uptoBulk];omega
 agg a:=by simp only[Rows.uptoBulk];omega
 cons d r:=by simp[Rows.uptoBulkAll]
theorem streamSteps_own:ownKnob Tryz.prog.godebug=none:=by kernel_rfl
set_option maxRecDepth 100000 in
theorem streamSteps_lifted(os:Os)(started:os.Started)(H:Type)(enc:TypeId×Value->H):
 ReturnsInHanded {} Tryz.checked os 3 .any (Rows.streamStepsSpec.pre6 enc Tryz.prog Tryz.f3 Rows.streamStepsRow.domain false) (Rows.streamStepsSpec.post enc Tryz.prog Tryz.f3 false true false false):=by
 refine returnsInHanded_of_change_shaped (C:=Tryz.checked) streamSteps_own started (by kernel_rfl) Tryz.func3
  (ChangeSpec.witness6 (enc:=enc) (C:=Tryz.checked) false ⟨#[],#[.agg #[.slice none 0 0,.slice none 0 0],.slice none 0 0,.slice none 0 0],[]⟩ 8 (by kernel_rfl) (by kernel_rfl) (by kernel_rfl) (by kernel_rfl)) ?_
 intro W base args ds gs before hval hW _ iP _ _;refine yj (streamSteps_bulk H) (tb:=4) (by kernel_rfl) (by kernel_rfl) (by kernel_rfl) rfl (λl hl=> ?_) hval hW iP trivial λI7 h _=> ?_
 ·match l,hl with
  |[a,b,c],_=>exact⟨rfl,rfl,rfl⟩
 ·have e:Tryz.f3.params.toList=[25,26,27]:=by kernel_rfl
  rw[e]at h;exact streamSteps_tells I7 h
theorem streamSteps_holds:Rows.StreamStepsSaid:=
 OpenClaim.holds_of_wide 3 Tryz.f3 rfl rfl rfl rfl rfl rfl rfl ⟨rfl,rfl,rfl,rfl,rfl⟩ rfl rfl rfl rfl rfl (by kernel_rfl) Tryz.func3 (by kernel_rfl)
  (of_decide_eq_true (by kernel_rfl)) (by unfold Func.isWrapper;first|(rw[if_pos (by decide+kernel)];kernel_rfl)|(rw[if_neg (by decide+kernel)];exact⟨rfl,rfl⟩))
  (λos started H enc _=>streamSteps_lifted os started H enc)
end Go.Proofs.YtcokmopocppmiaaGreat
