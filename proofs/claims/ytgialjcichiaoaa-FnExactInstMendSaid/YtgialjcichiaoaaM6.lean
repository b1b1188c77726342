/-
The program's InstMend returns what the reference's returns, for all arguments: the given statement fnExactInstMend. Its conditions: none.
-/
import Derived.Test.YtgialjcichiaoaaM5
import Derived.Test.YtgialjcichiaoaaRows
set_option linter.all false
/-
The program's InstMend returns what the reference's returns, for all arguments: the given statement fnExactInstMend. Its conditions: none.
-/
namespace Go.Proofs.Ytgialjcichiaoaa
namespace V
set_option maxRecDepth 100000
open Go.ChangeShapes Go.WideShapes Go.ChangeAt Go.RowKit

theorem exactInstMend_lifted (os : Os) (started : os.Started) (H : Type) (enc : TypeId × Value → H) :
    ReturnsInHanded {} Try.checked os 13 .any (Rows.fnExactInstMendSpec.pre6 enc Try.prog Try.f13 Rows.fnExactInstMendRow.domain false) (Rows.fnExactInstMendSpec.post enc Try.prog Try.f13 false Rows.fnExactInstMendRow.fresh Rows.fnExactInstMendRow.handsOn Rows.fnExactInstMendRow.again) := by
  refine returnsInHanded_of_change (C := Try.checked) (by kernel_rfl) started (by kernel_rfl) Try.func13
    (ChangeSpec.witness6 (enc := enc) (C := Try.checked) false ⟨#[], #[.agg #[.slice none 0 0, .slice none 0 0, .bool false, .slice none 0 0]], []⟩ 8 (by kernel_rfl) (by kernel_rfl) (by kernel_rfl) (by kernel_rfl)) ?_
  intro W base args ds gs before hval hW _ _
  refine lawN (u := 4) 9 [(true, ckDk)] (by kernel_rfl) (by kernel_rfl) (by kernel_rfl) rfl (fun ds h => ?_) (fun ins hl hc => ?_) hval hW
  · match ds, h with
    | [a], _ => exact ⟨rfl, rfl, rfl⟩
  · match ins, hl with
    | [a], _ =>
      obtain ⟨x0, rfl, h0⟩ := conf_Dk (hc 0 (true, ckDk) a rfl rfl)
      exact exactInstMend_ok x0 h0
theorem fnExactInstMend_holds : Rows.FnExactInstMendSaid :=
  OpenClaim.holds_of_wide 13 Try.f13 rfl rfl rfl rfl rfl rfl rfl ⟨rfl, rfl, rfl, rfl, rfl⟩ rfl rfl rfl rfl rfl (by kernel_rfl) Try.func13 (by kernel_rfl)
    (of_decide_eq_true (by kernel_rfl)) (by unfold Func.isWrapper; rw [if_neg (of_decide_eq_false (by kernel_rfl))]; exact ⟨rfl, rfl⟩)
    (fun os started H enc _ => exactInstMend_lifted os started H enc)
end V
theorem fnExactInstMend_proved : Rows.FnExactInstMendSaid := V.fnExactInstMend_holds
end Go.Proofs.Ytgialjcichiaoaa

