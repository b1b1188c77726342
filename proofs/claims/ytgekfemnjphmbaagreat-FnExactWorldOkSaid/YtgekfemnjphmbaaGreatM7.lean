/-
The program's WorldOk returns what the reference's returns, for all arguments: the given statement fnExactWorldOk. Its conditions: none.
-/
import Derived.Test.YtgekfemnjphmbaaGreatM6
import Derived.Test.YtgekfemnjphmbaaGreatRows
set_option linter.all false
/-
The program's WorldOk returns what the reference's returns, for all arguments. The given statement fnExactWorldOk. Its conditions: none.
-/
namespace Go.Proofs.YtgekfemnjphmbaaGreat
namespace V
set_option maxRecDepth 100000
open Go.ChangeShapes Go.WideShapes Go.ChangeAt Go.RowKit

theorem fnExactWorldOk_lifted (os : Os) (started : os.Started) (H : Type) (enc : TypeId × Value → H) :
    ReturnsInHanded {} Tryz.checked os qV .any (Rows.fnExactWorldOkSpec.pre6 enc Tryz.prog Tryz.f3 Rows.fnExactWorldOkRow.domain false) (Rows.fnExactWorldOkSpec.post enc Tryz.prog Tryz.f3 false Rows.fnExactWorldOkRow.fresh Rows.fnExactWorldOkRow.handsOn Rows.fnExactWorldOkRow.again) := by
  refine returnsInHanded_of_change (C := Tryz.checked) (by kernel_rfl) started (by kernel_rfl) Tryz.func3
    (ChangeSpec.witness6 (enc := enc) (C := Tryz.checked) false ⟨#[], #[.agg #[.int .i64 0, .slice none 0 0, .slice none 0 0, .slice none 0 0, .slice none 0 0, .int .i64 0, .slice none 0 0, .int .i64 0, .bool false, .int .i64 0, .int .i64 0, .slice none 0 0, .slice none 0 0, .slice none 0 0, .slice none 0 0, .bool false, .slice none 0 0]], []⟩ 8 (by kernel_rfl) (by kernel_rfl) (by kernel_rfl) (by kernel_rfl)) ?_
  intro W base args ds gs before hval hW _ _
  refine aEk (T := aDe) (u := 4) 9 [(true, aDj)] (by kernel_rfl) (by kernel_rfl) (by kernel_rfl) rfl (fun ds h => ?_) (fun ins hl hc => ?_) hval hW
  · match ds, h with
    | [a], _ => exact ⟨rfl, rfl, rfl⟩
  · match ins, hl with
    | [a], _ =>
      obtain ⟨x0, rfl, h0⟩ := aC0 (hc 0 (true, aDj) a rfl rfl)
      exact Tt x0 h0
theorem fnExactWorldOk_holds : Rows.FnExactWorldOkSaid :=
  OpenClaim.holds_of_wide qV Tryz.f3 rfl rfl rfl rfl rfl rfl rfl ⟨rfl, rfl, rfl, rfl, rfl⟩ rfl rfl rfl rfl rfl (by kernel_rfl) Tryz.func3 (by kernel_rfl)
    (of_decide_eq_true (by kernel_rfl)) (by unfold Func.isWrapper; rw [if_neg (of_decide_eq_false (by kernel_rfl))]; exact ⟨rfl, rfl⟩)
    (fun os started H enc _ => fnExactWorldOk_lifted os started H enc)
end V
theorem fnExactWorldOk_proved : Rows.FnExactWorldOkSaid := V.fnExactWorldOk_holds
end Go.Proofs.YtgekfemnjphmbaaGreat

