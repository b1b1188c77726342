/-
The program's StoreTrim returns what the reference's returns, for all arguments: the given statement fnExactStoreTrim, by its tied card. Its conditions: none; the card speaks of the pruned copy of the project.
-/
import Derived.Test.YtnaldhcdcpdbnaaGreatDoorM5
import Derived.Test.YtnaldhcdcpdbnaaGreatDoorRows
import Derived.Test.YtnaldhcdcpdbnaaGreatDoorCards
import Derived.Test.YtnaldhcdcpdbnaaGreatDoorTie
import Derived.ProofKit
import Derived.LaidMore
import Derived.OpenShut
import Derived.Stop.Joined
import Derived.SevenTiedAt
set_option linter.all false
/-
The program's StoreTrim returns what the reference's returns, for all arguments: the given statement fnExactStoreTrim, its tied card. Its conditions: none.
-/
namespace Go.Proofs.YtnaldhcdcpdbnaaGreatDoor
namespace V
set_option maxRecDepth 100000
open Go.ChangeShapes Go.WideShapes Go.ChangeAt Go.RowKit

def ckMt : Ck := .int .i64 (.int .i64 (.int .i64 .nil))
def ckTu : Ck := .int .i64 (.sl ckI (.int .i64 (.bool (.int .i64 (.int .i64 (.sl ckMt .nil))))))
theorem conf_Mt {x : List D} (h : conf ckMt x) : ∃ a : Mt, x = eMt a ∧ True := by
  obtain ⟨n, _, rfl, _, m, _, rfl, _, s, _, rfl, _, h⟩ := h
  have h := (show _ = [] from h)
  subst h
  exact ⟨⟨n, m, s⟩, rfl, trivial⟩
theorem conf_Tu {x : List D} (h : conf ckTu x) : ∃ t : Tu, x = eTu t ∧ (t.r.keys.length : Int) ≤ mx ∧ (t.x.ms.length : Int) ≤ mx := by
  obtain ⟨n, _, rfl, _, ks, _, rfl, c1, c2, m, _, rfl, _, has, _, rfl, a, _, rfl, _, b, _, rfl, _, ms, _, rfl, d1, d2, h⟩ := h
  have h := (show _ = [] from h)
  subst h
  obtain ⟨ks, rfl, _⟩ := conf_list (fun x hx => conf_I (c2 x hx))
  obtain ⟨ms, rfl, _⟩ := conf_list (fun x hx => conf_Mt (d2 x hx))
  rw [List.length_map] at c1 d1
  exact ⟨⟨⟨n, ks, m⟩, has, ⟨a, b, ms⟩⟩, rfl, mx_le c1, mx_le d1⟩

theorem trim_met (os : Os) (args : Array Value) : laidMetH Tryz.prog Rows.fnExactStoreTrimRow.laid ((World.doorLaid Tryz.prog 24 os).forCall (fun _ _ => 0) ⟨#[], args, []⟩).memory :=
  laidMetH_of_parts3 (fuel := 8) (laidMet_of_run' 8 (by kernel_rfl) (by kernel_rfl)) (by kernel_rfl) (by kernel_rfl)

theorem trim_lifted (os : Os) (started : os.Started) (H : Type) (enc : TypeId × Value → H) :
    ReturnsInHanded {} Tryz.checked os 3 .any (fun w args => (Rows.fnExactStoreTrimSpec.pre enc Tryz.prog Tryz.f3 [] false w args ∧ laidMetH Tryz.prog Rows.fnExactStoreTrimRow.laid w) ∧ sizedMet enc Tryz.prog Tryz.f3 (OpenSpec.ofChange Rows.fnExactStoreTrimSpec) false w args)
      (Rows.fnExactStoreTrimSpec.post enc Tryz.prog Tryz.f3 false Rows.fnExactStoreTrimRow.fresh Rows.fnExactStoreTrimRow.handsOn Rows.fnExactStoreTrimRow.again) := by
  refine returnsInHanded_of_change_and (C := Tryz.checked) (X := fun w _ => laidMetH Tryz.prog Rows.fnExactStoreTrimRow.laid w) (fun _ _ _ hh h => h.of_heap hh) (by kernel_rfl) started (by kernel_rfl) Tryz.func3
    (ChangeSpec.witness_shaped (enc := enc) (C := Tryz.checked) (os := os) (X := fun w _ => laidMetH Tryz.prog Rows.fnExactStoreTrimRow.laid w) false (World.doorLaid Tryz.prog 24 os) #[.agg #[.int .i64 0, .slice none 0 0, .int .i64 0, .bool false, .int .i64 0, .int .i64 0, .slice none 0 0], .slice none 0 0] 8 rfl (World.shaped_of_RefB (by kernel_rfl) (by kernel_rfl)) (by kernel_rfl) (by kernel_rfl) (by kernel_rfl) (trim_met os _)) ?_
  intro W base args ds gs before hval hW _ _ _ _
  refine lawN (u := 4) 9 [(true, ckTu), (false, ckPks)] (by kernel_rfl) (by kernel_rfl) (by kernel_rfl) rfl (fun ds h => ?_) (fun ins hl hc => ?_) hval hW
  · match ds, h with
    | [a, b], _ => exact ⟨rfl, rfl, rfl⟩
  · match ins, hl with
    | [a, b], _ =>
      obtain ⟨x0, rfl, h0, h0'⟩ := conf_Tu (hc 0 (true, ckTu) a rfl rfl)
      obtain ⟨x1, rfl, h1⟩ := conf_ePks (hc 1 (false, ckPks) b rfl rfl)
      exact exactStoreTrim_ok x0 x1 h0 h0' h1

theorem fnExactStoreTrim_holds : Rows.FnExactStoreTrimSaid :=
  OpenClaim.holds_of_wide 3 Tryz.f3 rfl rfl rfl rfl rfl rfl rfl ⟨rfl, rfl, rfl, rfl, rfl⟩ rfl rfl rfl rfl rfl (by kernel_rfl) Tryz.func3 (by kernel_rfl)
    (of_decide_eq_true (by kernel_rfl)) (by unfold Func.isWrapper; rw [if_neg (of_decide_eq_false (by kernel_rfl))]; exact ⟨rfl, rfl⟩)
    (fun os started H enc _ => trim_lifted os started H enc)
end V
theorem fnExactStoreTrim_card_proved : Rows.FnExactStoreTrimCardSaid :=
  Claim7.holds_tied_plain_at .later [] [.data, .data, .data] true (true, "ec521493882f95749febd1806384c2f7dd6dcd79e6bb1b462ec0252456bd654c") false
    V.fnExactStoreTrim_holds (fun _ h => by cases h) (by kernel_rfl) (fun _ h => by cases h) fnExactStoreTrim_row_tie rfl ⟨rfl, rfl⟩ (by kernel_rfl) rfl
    (fun f fn hf hfn => by
      obtain rfl : f = 3 := Option.some.inj ((show Tryz.prog.funcNamed "loop.example/purser/laws.FnExactStoreTrim" = some 3 by kernel_rfl).symm.trans hf) |>.symm
      obtain rfl : fn = Tryz.f3 := (Option.some.inj (Tryz.func3.symm.trans hfn)).symm
      have hall : (Tryz.f3.params.toList.all fun u => !Tryz.prog.wantsStandIn u) = true := by kernel_rfl
      exact ⟨by kernel_rfl, fun j t ht => by
        have hm : t ∈ Tryz.f3.params.toList := by simpa using Array.mem_of_getElem? ht
        exact (show Tryz.prog.wantsStandIn t = false by simpa using List.all_eq_true.1 hall t hm)⟩)
    (by kernel_rfl)
end Go.Proofs.YtnaldhcdcpdbnaaGreatDoor

