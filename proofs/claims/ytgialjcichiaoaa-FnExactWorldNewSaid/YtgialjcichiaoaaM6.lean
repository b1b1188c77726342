/-
The program's WorldNew returns what the reference's returns, for all arguments: the given statement fnExactWorldNew. Its conditions: none.
-/
import Derived.Test.YtgialjcichiaoaaM5
import Derived.Test.YtgialjcichiaoaaRows
set_option linter.all false
/-
The program's WorldNew returns what the reference's returns, for all arguments: the given statement fnExactWorldNew. Its conditions: none.
-/
namespace Go.Proofs.Ytgialjcichiaoaa
namespace V
set_option maxRecDepth 100000
open Go.ChangeShapes Go.WideShapes Go.ChangeAt Go.RowKit

def ckRt : Ck := .int .i64 (.sl ckI (.int .i64 .nil))
def ckIs : Ck := .sl ckI .nil
theorem conf_Rt {x : List D} (h : conf ckRt x) : ∃ r : Rt, x = eRt r ∧ (r.keys.length : Int) ≤ mx := by
  obtain ⟨n, _, rfl, _, ks, _, rfl, c1, c2, m, _, rfl, _, h⟩ := h
  have h := (show _ = [] from h)
  subst h
  obtain ⟨ks, rfl, _⟩ := conf_list (fun x hx => conf_I (c2 x hx))
  rw [List.length_map] at c1
  exact ⟨⟨n, ks, m⟩, rfl, mx_le c1⟩
theorem conf_eIs {x : List D} (h : conf ckIs x) : ∃ l : List Int, x = eIs l ∧ (l.length : Int) ≤ mx := by
  obtain ⟨ks, _, rfl, c1, c2, h⟩ := h
  have h := (show _ = [] from h)
  subst h
  obtain ⟨ks, rfl, _⟩ := conf_list (fun x hx => conf_I (c2 x hx))
  rw [List.length_map] at c1
  exact ⟨ks, rfl, mx_le c1⟩

theorem exactWorldNew_lifted (os : Os) (started : os.Started) (H : Type) (enc : TypeId × Value → H) :
    ReturnsInHanded {} Try.checked os 10 .any (Rows.fnExactWorldNewSpec.pre6 enc Try.prog Try.f10 Rows.fnExactWorldNewRow.domain false) (Rows.fnExactWorldNewSpec.post enc Try.prog Try.f10 false Rows.fnExactWorldNewRow.fresh Rows.fnExactWorldNewRow.handsOn Rows.fnExactWorldNewRow.again) := by
  refine returnsInHanded_of_change (C := Try.checked) (by kernel_rfl) started (by kernel_rfl) Try.func10
    (ChangeSpec.witness6 (enc := enc) (C := Try.checked) false ⟨#[], #[.agg #[.int .i64 0, .slice none 0 0, .int .i64 0], .slice none 0 0], []⟩ 8 (by kernel_rfl) (by kernel_rfl) (by kernel_rfl) (by kernel_rfl)) ?_
  intro W base args ds gs before hval hW _ _
  refine lawN (u := 4) 9 [(true, ckRt), (false, ckIs)] (by kernel_rfl) (by kernel_rfl) (by kernel_rfl) rfl (fun ds h => ?_) (fun ins hl hc => ?_) hval hW
  · match ds, h with
    | [a, b], _ => exact ⟨rfl, rfl, rfl⟩
  · match ins, hl with
    | [a, b], _ =>
      obtain ⟨x0, rfl, h0⟩ := conf_Rt (hc 0 (true, ckRt) a rfl rfl)
      obtain ⟨x1, rfl, h1⟩ := conf_eIs (hc 1 (false, ckIs) b rfl rfl)
      exact exactWorldNew_ok x0 x1 h0 h1
theorem fnExactWorldNew_holds : Rows.FnExactWorldNewSaid :=
  OpenClaim.holds_of_wide 10 Try.f10 rfl rfl rfl rfl rfl rfl rfl ⟨rfl, rfl, rfl, rfl, rfl⟩ rfl rfl rfl rfl rfl (by kernel_rfl) Try.func10 (by kernel_rfl)
    (of_decide_eq_true (by kernel_rfl)) (by unfold Func.isWrapper; rw [if_neg (of_decide_eq_false (by kernel_rfl))]; exact ⟨rfl, rfl⟩)
    (fun os started H enc _ => exactWorldNew_lifted os started H enc)
end V
theorem fnExactWorldNew_proved : Rows.FnExactWorldNewSaid := V.fnExactWorldNew_holds
end Go.Proofs.Ytgialjcichiaoaa

