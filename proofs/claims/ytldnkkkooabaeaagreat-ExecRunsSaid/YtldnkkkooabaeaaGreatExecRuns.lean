/- ExecRuns: whatever the input, it answers true and its arguments read as they did. No condition. -/
import Derived.Test.YtldnkkkooabaeaaGreatXcQ
import Derived.Test.YtldnkkkooabaeaaGreatRows
import Derived.WalkKit
import Derived.ProofKit
import Derived.JoinedOf
import Derived.HandedShaped
set_option linter.all false
namespace Go.Proofs.YtldnkkkooabaeaaGreat
open Go.Nk Go.ChangeShapes Go.WideShapes Go.RowKit
theorem execRuns_bulk(H:Type):Vm (H:=H) Rows.uptoBulk Rows.uptoBulkAll where
 lit l:=by cases l<;>simp[Rows.uptoBulk]
 str s:=by simp[Rows.uptoBulk]
 nil:=by simp[Rows.uptoBulk]
 ptr d:=by simp[Rows.uptoBulk]
 slice a b:=by simp only[Rows.uptoBulk];omega
 agg a:=by simp only[Rows.uptoBulk];omega
 cons d r:=by simp[Rows.uptoBulkAll]
theorem execRuns_own:ownKnob Tryz.prog.godebug=none:=by kernel_rfl
set_option maxRecDepth 100000 in
theorem execRuns_lifted(os:Os)(started:os.Started)(H:Type)(enc:TypeId×Value->H):
 ReturnsInHanded {} Tryz.checked os 3 .any (Rows.execRunsSpec.pre6 enc Tryz.prog Tryz.f3 Rows.execRunsRow.domain false) (Rows.execRunsSpec.post enc Tryz.prog Tryz.f3 false true false false):=by
 refine returnsInHanded_of_change_shaped (C:=Tryz.checked) execRuns_own started (by kernel_rfl) Tryz.func3
  (ChangeSpec.witness6 (enc:=enc) (C:=Tryz.checked) false ⟨#[],#[.agg #[.slice none 0 0,.slice none 0 0],.slice none 0 0],[]⟩ 8 (by kernel_rfl) (by kernel_rfl) (by kernel_rfl) (by kernel_rfl)) ?_
 intro W base args ds gs before hval hW _ lP _ _;refine arV (execRuns_bulk H) (tb:=4) (by kernel_rfl) (by kernel_rfl) (by kernel_rfl) rfl (λl hl=>?_) hval hW lP trivial λT6 h _=>?_
 .match l,hl with
  |[a,b],_=>exact⟨rfl,rfl,rfl⟩
 .have e:Tryz.f3.params.toList=[25,26]:=by kernel_rfl
  rw[e]at h;exact execRuns_tells T6 h
theorem execRuns_holds:Rows.ExecRunsSaid:=
 OpenClaim.holds_of_wide 3 Tryz.f3 rfl rfl rfl rfl rfl rfl rfl ⟨rfl,rfl,rfl,rfl,rfl⟩ rfl rfl rfl rfl rfl (by kernel_rfl) Tryz.func3 (by kernel_rfl)
  (of_decide_eq_true (by kernel_rfl)) (by unfold Func.isWrapper;first|(rw[gr (by decide+kernel)];kernel_rfl)|(rw[ba (by decide+kernel)];exact⟨rfl,rfl⟩))
  (λos started H enc _=>execRuns_lifted os started H enc)
end Go.Proofs.YtldnkkkooabaeaaGreat
