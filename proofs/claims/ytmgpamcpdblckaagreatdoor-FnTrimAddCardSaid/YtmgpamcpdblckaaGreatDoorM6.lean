/-
What is kept newly is kept behind trimming. The given statement fnTrimAdd, its tied card. Its conditions: none.
-/
import Derived.Test.YtmgpamcpdblckaaGreatDoorM5
import Derived.Test.YtmgpamcpdblckaaGreatDoorRows
import Derived.Test.YtmgpamcpdblckaaGreatDoorCards
import Derived.Test.YtmgpamcpdblckaaGreatDoorTie
import Derived.ProofKit
import Derived.LaidMore
import Derived.OpenShut
import Derived.Stop.Joined
import Derived.SevenTiedAt
import Derived.Lay
set_option linter.all false
/-
What is kept newly is kept behind trimming. The given statement fnTrimAdd, its tied card. Its conditions: none.
-/
namespace Go.Proofs.YtmgpamcpdblckaaGreatDoor
namespace V
set_option maxRecDepth 100000
open Go.ChangeShapes Go.WideShapes Go.ChangeAt Go.RowKit

theorem fnTrimAdd_lifted (os : Os) (started : os.Started) (H : Type) (enc : TypeId × Value → H) :
    ReturnsInHanded {} Tryz.checked os n_l_FnTrimAdd .any (fun w args => (Rows.fnTrimAddSpec.pre enc Tryz.prog Tryz.f7 [] false w args ∧ laidMetH Tryz.prog Rows.fnTrimAddRow.laid w) ∧ sizedMet enc Tryz.prog Tryz.f7 (OpenSpec.ofChange Rows.fnTrimAddSpec) false w args)
      (Rows.fnTrimAddSpec.post enc Tryz.prog Tryz.f7 false Rows.fnTrimAddRow.fresh Rows.fnTrimAddRow.handsOn Rows.fnTrimAddRow.again) := by
  refine QW (C := Tryz.checked) (X := fun w _ => laidMetH Tryz.prog Rows.fnTrimAddRow.laid w) (fun _ _ _ hh h => h.of_heap hh) (by kernel_rfl) started (by kernel_rfl) Tryz.func7
    (ChangeSpec.witness_shaped (enc := enc) (C := Tryz.checked) (os := os) (X := fun w _ => laidMetH Tryz.prog Rows.fnTrimAddRow.laid w) false (World.laidAll Tryz.prog os Rows.fnTrimAddRow.laid) #[.slice none 0 0] 8 (World.laidAll_os _ _ _) (World.shaped_of_ZipB (by kernel_rfl) (by kernel_rfl)) (by kernel_rfl) (by kernel_rfl) (by kernel_rfl) (by rw [MakeChecks.laidMetH_plain _ _ _ (by kernel_rfl)]; exact laidMet_laidAll _ (by kernel_rfl) (by kernel_rfl))) ?_
  intro W base args ds gs before hval hW hL hsh
  exact UI (T := vW) (t := 22) (u := 4) (e := 5) (by kernel_rfl) (by kernel_rfl) (by kernel_rfl) (by kernel_rfl) (by kernel_rfl) (by kernel_rfl) rfl (fun d => ⟨rfl, rfl, rfl⟩) (fun bs hb => QB bs hb) hval hW (TX hL hsh (by kernel_rfl) (by kernel_rfl))

theorem fnTrimAdd_holds : Rows.FnTrimAddSaid :=
  OpenClaim.holds_of_wide n_l_FnTrimAdd Tryz.f7 rfl rfl rfl rfl rfl rfl rfl ⟨rfl, rfl, rfl, rfl, rfl⟩ rfl rfl rfl rfl rfl (by kernel_rfl) Tryz.func7 (by kernel_rfl)
    (of_decide_eq_true (by kernel_rfl)) (by unfold Func.isWrapper; rw [if_neg (of_decide_eq_false (by kernel_rfl))]; exact ⟨rfl, rfl⟩)
    (fun os started H enc _ => fnTrimAdd_lifted os started H enc)
end V
theorem fnTrimAdd_card_proved : Rows.FnTrimAddCardSaid :=
  Claim7.holds_tied_plain_at .later [] [.data, .data, .data, .data, .sentinel, .sentinel, .pinned] true (true, "9236cacd1ddfff622a892b01063d70ad6f31264026a482d7ede5e189894a5405") true
    V.fnTrimAdd_holds (fun _ h => by cases h) (by kernel_rfl) (fun _ h => by cases h) fnTrimAdd_row_tie rfl ⟨rfl, rfl⟩ (by kernel_rfl) rfl
    (fun f fn hf hfn => by
      obtain rfl : f = V.n_l_FnTrimAdd := Option.some.inj ((show Tryz.prog.funcNamed "loop.example/purser/laws.FnTrimAdd" = some V.n_l_FnTrimAdd by kernel_rfl).symm.trans hf) |>.symm
      obtain rfl : fn = Tryz.f7 := (Option.some.inj (Tryz.func7.symm.trans hfn)).symm
      have hall : (Tryz.f7.params.toList.all fun u => !Tryz.prog.wantsStandIn u) = true := by kernel_rfl
      exact ⟨by kernel_rfl, fun j t ht => by
        have hm : t ∈ Tryz.f7.params.toList := by simpa using Array.mem_of_getElem? ht
        exact (show Tryz.prog.wantsStandIn t = false by simpa using List.all_eq_true.1 hall t hm)⟩)
    (by kernel_rfl)
end Go.Proofs.YtmgpamcpdblckaaGreatDoor

