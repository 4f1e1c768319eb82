/- ExecSteps: whatever the input, it answers true and its arguments read as they did. No condition. -/
import Derived.Test.YtldnkkkooabaeaaGreatXcQ
import Derived.Test.YtldnkkkooabaeaaGreatRows
import Derived.WalkKit
import Derived.ProofKit
import Derived.JoinedOf
import Derived.HandedShaped
set_option linter.all false
namespace Go.Proofs.YtldnkkkooabaeaaGreat
open Go.Nk Go.ChangeShapes Go.WideShapes Go.RowKit
theorem execSteps_bulk(H:Type):Vm (H:=H) Rows.uptoBulk Rows.uptoBulkAll where
 lit l:=by cases l<;>simp[Rows.uptoBulk]
 str s:=by simp[Rows.uptoBulk]
 nil:=by simp[Rows.uptoBulk]
 ptr d:=by simp[Rows.uptoBulk]
 slice a b:=by simp only[Rows.uptoBulk];omega
 agg a:=by simp only[Rows.uptoBulk];omega
 cons d r:=by simp[Rows.uptoBulkAll]
theorem execSteps_own:ownKnob Tryz.prog.godebug=none:=by kernel_rfl
set_option maxRecDepth 100000 in
theorem execSteps_lifted(os:Os)(started:os.Started)(H:Type)(enc:TypeId×Value->H):
 ReturnsInHanded {} Tryz.checked os 4 .any (Rows.execStepsSpec.pre6 enc Tryz.prog Tryz.f4 Rows.execStepsRow.domain false) (Rows.execStepsSpec.post enc Tryz.prog Tryz.f4 false true false false):=by
 refine returnsInHanded_of_change_shaped (C:=Tryz.checked) execSteps_own started (by kernel_rfl) Tryz.func4
  (ChangeSpec.witness6 (enc:=enc) (C:=Tryz.checked) false ⟨#[],#[.agg #[.slice none 0 0,.slice none 0 0],.slice none 0 0,.slice none 0 0],[]⟩ 8 (by kernel_rfl) (by kernel_rfl) (by kernel_rfl) (by kernel_rfl)) ?_
 intro W base args ds gs before hval hW _ lP _ _;refine arV (execSteps_bulk H) (tb:=4) (by kernel_rfl) (by kernel_rfl) (by kernel_rfl) rfl (λl hl=>?_) hval hW lP trivial λT6 h _=>?_
 .match l,hl with
  |[a,b,c],_=>exact⟨rfl,rfl,rfl⟩
 .have e:Tryz.f4.params.toList=[25,26,49]:=by kernel_rfl
  rw[e]at h;exact execSteps_tells T6 h
theorem execSteps_holds:Rows.ExecStepsSaid:=
 OpenClaim.holds_of_wide 4 Tryz.f4 rfl rfl rfl rfl rfl rfl rfl ⟨rfl,rfl,rfl,rfl,rfl⟩ rfl rfl rfl rfl rfl (by kernel_rfl) Tryz.func4 (by kernel_rfl)
  (of_decide_eq_true (by kernel_rfl)) (by unfold Func.isWrapper;first|(rw[gr (by decide+kernel)];kernel_rfl)|(rw[ba (by decide+kernel)];exact⟨rfl,rfl⟩))
  (λos started H enc _=>execSteps_lifted os started H enc)
end Go.Proofs.YtldnkkkooabaeaaGreat
