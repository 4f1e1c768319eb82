/- StreamKeeps: whatever the input, it answers true and its arguments read as they did. No condition. -/
import Derived.Test.YtcokmopocppmiaaGreatPgNd
import Derived.Test.YtcokmopocppmiaaGreatRows
import Derived.WalkKit
import Derived.ProofKit
import Derived.JoinedOf
import Derived.HandedShaped
set_option linter.all false
namespace Go.Proofs.YtcokmopocppmiaaGreat
open Go.Nk Go.ChangeShapes Go.WideShapes Go.RowKit
theorem streamKeeps_bulk(H:Type):aaY (H:=H) Rows.uptoBulk Rows.uptoBulkAll where
 lit l:=by cases l<;>simp[Rows.uptoBulk]
 str s:=by simp[Rows.uptoBulk]
 nil:=by simp[Rows.uptoBulk]
 ptr d:=by simp[Rows.uptoBulk]
 slice a b:=by simp only[Rows.uptoBulk];omega
 agg a:=by simp only[Rows.uptoBulk];omega
 cons d r:=by simp[Rows.uptoBulkAll]
theorem streamKeeps_own:ownKnob Tryz.prog.godebug=none:=by kernel_rfl
set_option maxRecDepth 100000 in
theorem streamKeeps_lifted(os:Os)(started:os.Started)(H:Type)(enc:TypeId×Value->H):
 ReturnsInHanded {} Tryz.checked os 5 .any (Rows.streamKeepsSpec.pre6 enc Tryz.prog Tryz.f5 Rows.streamKeepsRow.domain false) (Rows.streamKeepsSpec.post enc Tryz.prog Tryz.f5 false true false false):=by
 refine returnsInHanded_of_change_shaped (C:=Tryz.checked) streamKeeps_own started (by kernel_rfl) Tryz.func5
  (ChangeSpec.witness6 (enc:=enc) (C:=Tryz.checked) false ⟨#[],#[.agg #[.slice none 0 0,.slice none 0 0],.slice none 0 0],[]⟩ 8 (by kernel_rfl) (by kernel_rfl) (by kernel_rfl) (by kernel_rfl)) ?_
 intro W base args ds gs before hval hW _ iP _ _;refine yj (streamKeeps_bulk H) (tb:=4) (by kernel_rfl) (by kernel_rfl) (by kernel_rfl) rfl (λl hl=> ?_) hval hW iP trivial λI7 h _=> ?_
 ·match l,hl with
  |[a,b],_=>exact⟨rfl,rfl,rfl⟩
 ·have e:Tryz.f5.params.toList=[25,46]:=by kernel_rfl
  rw[e]at h;exact streamKeeps_tells I7 h
theorem streamKeeps_holds:Rows.StreamKeepsSaid:=
 OpenClaim.holds_of_wide 5 Tryz.f5 rfl rfl rfl rfl rfl rfl rfl ⟨rfl,rfl,rfl,rfl,rfl⟩ rfl rfl rfl rfl rfl (by kernel_rfl) Tryz.func5 (by kernel_rfl)
  (of_decide_eq_true (by kernel_rfl)) (by unfold Func.isWrapper;first|(rw[if_pos (by decide+kernel)];kernel_rfl)|(rw[if_neg (by decide+kernel)];exact⟨rfl,rfl⟩))
  (λos started H enc _=>streamKeeps_lifted os started H enc)
end Go.Proofs.YtcokmopocppmiaaGreat
