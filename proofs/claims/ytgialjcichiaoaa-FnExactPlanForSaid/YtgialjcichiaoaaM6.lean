/-
The program's PlanFor returns what the reference's returns, for all arguments: the given statement fnExactPlanFor. Its conditions: none.
-/
import Derived.Test.YtgialjcichiaoaaM5
import Derived.Test.YtgialjcichiaoaaRows
set_option linter.all false
/-
The program's PlanFor returns what the reference's returns, for all arguments: the given statement fnExactPlanFor. Its conditions: none.
-/
namespace Go.Proofs.Ytgialjcichiaoaa
namespace V
set_option maxRecDepth 100000
open Go.ChangeShapes Go.WideShapes Go.ChangeAt Go.RowKit

theorem exactPlanFor_lifted (os : Os) (started : os.Started) (H : Type) (enc : TypeId × Value → H) :
    ReturnsInHanded {} Try.checked os 7 .any (Rows.fnExactPlanForSpec.pre6 enc Try.prog Try.f7 Rows.fnExactPlanForRow.domain false) (Rows.fnExactPlanForSpec.post enc Try.prog Try.f7 false Rows.fnExactPlanForRow.fresh Rows.fnExactPlanForRow.handsOn Rows.fnExactPlanForRow.again) := by
  refine returnsInHanded_of_change (C := Try.checked) (by kernel_rfl) started (by kernel_rfl) Try.func7
    (ChangeSpec.witness6 (enc := enc) (C := Try.checked) false ⟨#[], #[.slice none 0 0, .slice none 0 0, .int .i64 0], []⟩ 8 (by kernel_rfl) (by kernel_rfl) (by kernel_rfl) (by kernel_rfl)) ?_
  intro W base args ds gs before hval hW _ _
  refine lawN (u := 4) 9 [(false, ckPks), (false, ckPks), (false, ckI)] (by kernel_rfl) (by kernel_rfl) (by kernel_rfl) rfl (fun ds h => ?_) (fun ins hl hc => ?_) hval hW
  · match ds, h with
    | [a, b, c], _ => exact ⟨rfl, rfl, rfl⟩
  · match ins, hl with
    | [a, b, c], _ =>
      obtain ⟨x0, rfl, h0⟩ := conf_ePks (hc 0 (false, ckPks) a rfl rfl)
      obtain ⟨x1, rfl, h1⟩ := conf_ePks (hc 1 (false, ckPks) b rfl rfl)
      obtain ⟨x2, rfl, h2⟩ := conf_I (hc 2 (false, ckI) c rfl rfl)
      exact exactPlanFor_ok x0 x1 x2 h0 h1
theorem fnExactPlanFor_holds : Rows.FnExactPlanForSaid :=
  OpenClaim.holds_of_wide 7 Try.f7 rfl rfl rfl rfl rfl rfl rfl ⟨rfl, rfl, rfl, rfl, rfl⟩ rfl rfl rfl rfl rfl (by kernel_rfl) Try.func7 (by kernel_rfl)
    (of_decide_eq_true (by kernel_rfl)) (by unfold Func.isWrapper; rw [if_neg (of_decide_eq_false (by kernel_rfl))]; exact ⟨rfl, rfl⟩)
    (fun os started H enc _ => exactPlanFor_lifted os started H enc)
end V
theorem fnExactPlanFor_proved : Rows.FnExactPlanForSaid := V.fnExactPlanFor_holds
end Go.Proofs.Ytgialjcichiaoaa

