/-
What is kept is what the index tells of. The given statement fnAddHas, its tied card. Its conditions: none.
-/
import Derived.Test.YtmgpamcpdblckaaGreatDoorM5
import Derived.Test.YtmgpamcpdblckaaGreatDoorRows
import Derived.Test.YtmgpamcpdblckaaGreatDoorCards
import Derived.Test.YtmgpamcpdblckaaGreatDoorTie
import Derived.ProofKit
import Derived.LaidMore
import Derived.OpenShut
import Derived.Stop.Joined
import Derived.SevenTiedAt
import Derived.Lay
set_option linter.all false
/-
What is kept is what the index tells of. The given statement fnAddHas, its tied card. Its conditions: none.
-/
namespace Go.Proofs.YtmgpamcpdblckaaGreatDoor
namespace V
set_option maxRecDepth 100000
open Go.ChangeShapes Go.WideShapes Go.ChangeAt Go.RowKit

theorem fnAddHas_lifted (os : Os) (started : os.Started) (H : Type) (enc : TypeId × Value → H) :
    ReturnsInHanded {} Tryz.checked os n_l_FnAddHas .any (fun w args => (Rows.fnAddHasSpec.pre enc Tryz.prog Tryz.f6 [] false w args ∧ laidMetH Tryz.prog Rows.fnAddHasRow.laid w) ∧ sizedMet enc Tryz.prog Tryz.f6 (OpenSpec.ofChange Rows.fnAddHasSpec) false w args)
      (Rows.fnAddHasSpec.post enc Tryz.prog Tryz.f6 false Rows.fnAddHasRow.fresh Rows.fnAddHasRow.handsOn Rows.fnAddHasRow.again) := by
  refine QU (C := Tryz.checked) (X := fun w _ => laidMetH Tryz.prog Rows.fnAddHasRow.laid w) (fun _ _ _ hh h => h.of_heap hh) (by kernel_rfl) started (by kernel_rfl) Tryz.func6
    (ChangeSpec.witness_shaped (enc := enc) (C := Tryz.checked) (os := os) (X := fun w _ => laidMetH Tryz.prog Rows.fnAddHasRow.laid w) false (World.laidAll Tryz.prog os Rows.fnAddHasRow.laid) #[.slice none 0 0] 8 (World.laidAll_os _ _ _) (World.shaped_of_ZipB (by kernel_rfl) (by kernel_rfl)) (by kernel_rfl) (by kernel_rfl) (by kernel_rfl) (by rw [MakeChecks.laidMetH_plain _ _ _ (by kernel_rfl)]; exact laidMet_laidAll _ (by kernel_rfl) (by kernel_rfl))) ?_
  intro W base args ds gs before hval hW hL hsh
  exact UK (T := vW) (t := 22) (u := 4) (e := 5) (by kernel_rfl) (by kernel_rfl) (by kernel_rfl) (by kernel_rfl) (by kernel_rfl) (by kernel_rfl) rfl (fun d => ⟨rfl, rfl, rfl⟩) (fun bs hb => QX bs hb) hval hW (TZ hL hsh (by kernel_rfl) (by kernel_rfl))

theorem fnAddHas_holds : Rows.FnAddHasSaid :=
  OpenClaim.holds_of_wide n_l_FnAddHas Tryz.f6 rfl rfl rfl rfl rfl rfl rfl ⟨rfl, rfl, rfl, rfl, rfl⟩ rfl rfl rfl rfl rfl (by kernel_rfl) Tryz.func6 (by kernel_rfl)
    (of_decide_eq_true (by kernel_rfl)) (by unfold Func.isWrapper; rw [if_neg (of_decide_eq_false (by kernel_rfl))]; exact ⟨rfl, rfl⟩)
    (fun os started H enc _ => fnAddHas_lifted os started H enc)
end V
theorem fnAddHas_card_proved : Rows.FnAddHasCardSaid :=
  Claim7.holds_tied_plain_at .later [] [.data, .data, .data, .data, .sentinel, .sentinel, .pinned] true (true, "9236cacd1ddfff622a892b01063d70ad6f31264026a482d7ede5e189894a5405") true
    V.fnAddHas_holds (fun _ h => by cases h) (by kernel_rfl) (fun _ h => by cases h) fnAddHas_row_tie rfl ⟨rfl, rfl⟩ (by kernel_rfl) rfl
    (fun f fn hf hfn => by
      obtain rfl : f = V.n_l_FnAddHas := Option.some.inj ((show Tryz.prog.funcNamed "loop.example/purser/laws.FnAddHas" = some V.n_l_FnAddHas by kernel_rfl).symm.trans hf) |>.symm
      obtain rfl : fn = Tryz.f6 := (Option.some.inj (Tryz.func6.symm.trans hfn)).symm
      have hall : (Tryz.f6.params.toList.all fun u => !Tryz.prog.wantsStandIn u) = true := by kernel_rfl
      exact ⟨by kernel_rfl, fun j t ht => by
        have hm : t ∈ Tryz.f6.params.toList := by simpa using Array.mem_of_getElem? ht
        exact (show Tryz.prog.wantsStandIn t = false by simpa using List.all_eq_true.1 hall t hm)⟩)
    (by kernel_rfl)
end Go.Proofs.YtmgpamcpdblckaaGreatDoor

