/-
The program's InstTo returns what the reference's returns, for all arguments: the given statement fnExactInstTo. Its conditions: none.
-/
import Derived.Test.YtgialjcichiaoaaM5
import Derived.Test.YtgialjcichiaoaaRows
set_option linter.all false
/-
The program's InstTo returns what the reference's returns, for all arguments: the given statement fnExactInstTo. Its conditions: none.
-/
namespace Go.Proofs.Ytgialjcichiaoaa
namespace V
set_option maxRecDepth 100000
open Go.ChangeShapes Go.WideShapes Go.ChangeAt Go.RowKit

theorem exactInstTo_lifted (os : Os) (started : os.Started) (H : Type) (enc : TypeId × Value → H) :
    ReturnsInHanded {} Try.checked os 12 .any (Rows.fnExactInstToSpec.pre6 enc Try.prog Try.f12 Rows.fnExactInstToRow.domain false) (Rows.fnExactInstToSpec.post enc Try.prog Try.f12 false Rows.fnExactInstToRow.fresh Rows.fnExactInstToRow.handsOn Rows.fnExactInstToRow.again) := by
  refine returnsInHanded_of_change (C := Try.checked) (by kernel_rfl) started (by kernel_rfl) Try.func12
    (ChangeSpec.witness6 (enc := enc) (C := Try.checked) false ⟨#[], #[.agg #[.slice none 0 0, .slice none 0 0, .bool false, .slice none 0 0], .slice none 0 0, .int .i64 0, .bool false], []⟩ 8 (by kernel_rfl) (by kernel_rfl) (by kernel_rfl) (by kernel_rfl)) ?_
  intro W base args ds gs before hval hW _ _
  refine lawN (u := 4) 9 [(true, ckDk), (false, ckSts), (false, ckI), (false, ckB)] (by kernel_rfl) (by kernel_rfl) (by kernel_rfl) rfl (fun ds h => ?_) (fun ins hl hc => ?_) hval hW
  · match ds, h with
    | [a, b, c, g], _ => exact ⟨rfl, rfl, rfl⟩
  · match ins, hl with
    | [a, b, c, g], _ =>
      obtain ⟨x0, rfl, h0⟩ := conf_Dk (hc 0 (true, ckDk) a rfl rfl)
      obtain ⟨x1, rfl, h1⟩ := conf_eSts (hc 1 (false, ckSts) b rfl rfl)
      obtain ⟨x2, rfl, h2⟩ := conf_I (hc 2 (false, ckI) c rfl rfl)
      obtain ⟨x3, rfl⟩ := conf_B (hc 3 (false, ckB) g rfl rfl)
      exact exactInstTo_ok x0 x1 x2 x3 h0 h1
theorem fnExactInstTo_holds : Rows.FnExactInstToSaid :=
  OpenClaim.holds_of_wide 12 Try.f12 rfl rfl rfl rfl rfl rfl rfl ⟨rfl, rfl, rfl, rfl, rfl⟩ rfl rfl rfl rfl rfl (by kernel_rfl) Try.func12 (by kernel_rfl)
    (of_decide_eq_true (by kernel_rfl)) (by unfold Func.isWrapper; rw [if_neg (of_decide_eq_false (by kernel_rfl))]; exact ⟨rfl, rfl⟩)
    (fun os started H enc _ => exactInstTo_lifted os started H enc)
end V
theorem fnExactInstTo_proved : Rows.FnExactInstToSaid := V.fnExactInstTo_holds
end Go.Proofs.Ytgialjcichiaoaa

