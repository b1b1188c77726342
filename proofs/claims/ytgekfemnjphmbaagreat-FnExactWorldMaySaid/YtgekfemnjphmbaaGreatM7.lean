/-
The program's WorldMay returns what the reference's returns, for all arguments: the given statement fnExactWorldMay. Its conditions: none.
-/
import Derived.Test.YtgekfemnjphmbaaGreatM6
import Derived.Test.YtgekfemnjphmbaaGreatRows
set_option linter.all false
/-
The program's WorldMay returns what the reference's returns, for all arguments. The given statement fnExactWorldMay. Its conditions: none.
-/
namespace Go.Proofs.YtgekfemnjphmbaaGreat
namespace V
set_option maxRecDepth 100000
open Go.ChangeShapes Go.WideShapes Go.ChangeAt Go.RowKit

theorem fnExactWorldMay_lifted (os : Os) (started : os.Started) (H : Type) (enc : TypeId × Value → H) :
    ReturnsInHanded {} Tryz.checked os rS .any (Rows.fnExactWorldMaySpec.pre6 enc Tryz.prog Tryz.f4 Rows.fnExactWorldMayRow.domain false) (Rows.fnExactWorldMaySpec.post enc Tryz.prog Tryz.f4 false Rows.fnExactWorldMayRow.fresh Rows.fnExactWorldMayRow.handsOn Rows.fnExactWorldMayRow.again) := by
  refine returnsInHanded_of_change (C := Tryz.checked) (by kernel_rfl) started (by kernel_rfl) Tryz.func4
    (ChangeSpec.witness6 (enc := enc) (C := Tryz.checked) false ⟨#[], #[.agg #[.int .i64 0, .slice none 0 0, .slice none 0 0, .slice none 0 0, .slice none 0 0, .int .i64 0, .slice none 0 0, .int .i64 0, .bool false, .int .i64 0, .int .i64 0, .slice none 0 0, .slice none 0 0, .slice none 0 0, .slice none 0 0, .bool false, .slice none 0 0], .agg #[.int .i64 0, .int .i64 0, .int .i64 0, .int .i64 0, .bool false, .int .i64 0, .int .i64 0, .slice none 0 0, .slice none 0 0, .int .i64 0, .slice none 0 0, .int .i64 0, .slice none 0 0, .int .i64 0, .int .i64 0, .slice none 0 0, .slice none 0 0]], []⟩ 8 (by kernel_rfl) (by kernel_rfl) (by kernel_rfl) (by kernel_rfl)) ?_
  intro W base args ds gs before hval hW _ _
  refine aHo (T := aGi) (u := 4) 9 [(true, aGn), (true, aGo)] (by kernel_rfl) (by kernel_rfl) (by kernel_rfl) rfl (fun ds h => ?_) (fun ins hl hc => ?_) hval hW
  · match ds, h with
    | [a, b], _ => exact ⟨rfl, rfl, rfl⟩
  · match ins, hl with
    | [a, b], _ =>
      obtain ⟨x0, rfl, h0⟩ := aF4 (hc 0 (true, aGn) a rfl rfl)
      obtain ⟨x1, rfl, h1⟩ := aF5 (hc 1 (true, aGo) b rfl rfl)
      exact WB x0 x1 h0 h1
theorem fnExactWorldMay_holds : Rows.FnExactWorldMaySaid :=
  OpenClaim.holds_of_wide rS Tryz.f4 rfl rfl rfl rfl rfl rfl rfl ⟨rfl, rfl, rfl, rfl, rfl⟩ rfl rfl rfl rfl rfl (by kernel_rfl) Tryz.func4 (by kernel_rfl)
    (of_decide_eq_true (by kernel_rfl)) (by unfold Func.isWrapper; rw [if_neg (of_decide_eq_false (by kernel_rfl))]; exact ⟨rfl, rfl⟩)
    (fun os started H enc _ => fnExactWorldMay_lifted os started H enc)
end V
theorem fnExactWorldMay_proved : Rows.FnExactWorldMaySaid := V.fnExactWorldMay_holds
end Go.Proofs.YtgekfemnjphmbaaGreat

