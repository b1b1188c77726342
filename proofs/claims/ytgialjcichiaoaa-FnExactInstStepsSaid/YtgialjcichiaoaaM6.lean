/-
The program's InstSteps returns what the reference's returns, for all arguments: the given statement fnExactInstSteps. Its conditions: none.
-/
import Derived.Test.YtgialjcichiaoaaM5
import Derived.Test.YtgialjcichiaoaaRows
set_option linter.all false
/-
The program's InstSteps returns what the reference's returns, for all arguments: the given statement fnExactInstSteps. Its conditions: none.
-/
namespace Go.Proofs.Ytgialjcichiaoaa
namespace V
set_option maxRecDepth 100000
open Go.ChangeShapes Go.WideShapes Go.ChangeAt Go.RowKit

theorem exactInstSteps_lifted (os : Os) (started : os.Started) (H : Type) (enc : TypeId × Value → H) :
    ReturnsInHanded {} Try.checked os 11 .any (Rows.fnExactInstStepsSpec.pre6 enc Try.prog Try.f11 Rows.fnExactInstStepsRow.domain false) (Rows.fnExactInstStepsSpec.post enc Try.prog Try.f11 false Rows.fnExactInstStepsRow.fresh Rows.fnExactInstStepsRow.handsOn Rows.fnExactInstStepsRow.again) := by
  refine returnsInHanded_of_change (C := Try.checked) (by kernel_rfl) started (by kernel_rfl) Try.func11
    (ChangeSpec.witness6 (enc := enc) (C := Try.checked) false ⟨#[], #[.agg #[.slice none 0 0, .slice none 0 0, .bool false, .slice none 0 0], .slice none 0 0], []⟩ 8 (by kernel_rfl) (by kernel_rfl) (by kernel_rfl) (by kernel_rfl)) ?_
  intro W base args ds gs before hval hW _ _
  refine lawN (u := 4) 9 [(true, ckDk), (false, ckPks)] (by kernel_rfl) (by kernel_rfl) (by kernel_rfl) rfl (fun ds h => ?_) (fun ins hl hc => ?_) hval hW
  · match ds, h with
    | [a, b], _ => exact ⟨rfl, rfl, rfl⟩
  · match ins, hl with
    | [a, b], _ =>
      obtain ⟨x0, rfl, h0⟩ := conf_Dk (hc 0 (true, ckDk) a rfl rfl)
      obtain ⟨x1, rfl, h1⟩ := conf_ePks (hc 1 (false, ckPks) b rfl rfl)
      exact exactInstSteps_ok x0 x1 h0 h1
theorem fnExactInstSteps_holds : Rows.FnExactInstStepsSaid :=
  OpenClaim.holds_of_wide 11 Try.f11 rfl rfl rfl rfl rfl rfl rfl ⟨rfl, rfl, rfl, rfl, rfl⟩ rfl rfl rfl rfl rfl (by kernel_rfl) Try.func11 (by kernel_rfl)
    (of_decide_eq_true (by kernel_rfl)) (by unfold Func.isWrapper; rw [if_neg (of_decide_eq_false (by kernel_rfl))]; exact ⟨rfl, rfl⟩)
    (fun os started H enc _ => exactInstSteps_lifted os started H enc)
end V
theorem fnExactInstSteps_proved : Rows.FnExactInstStepsSaid := V.fnExactInstSteps_holds
end Go.Proofs.Ytgialjcichiaoaa

