/-
The program's StoreAdd returns what the reference's returns, for all arguments: the given statement fnExactStoreAdd, its tied card. Its conditions: none.
-/
import Derived.Test.YtmgpamcpdblckaaGreatDoorM5
import Derived.Test.YtmgpamcpdblckaaGreatDoorRows
import Derived.Test.YtmgpamcpdblckaaGreatDoorCards
import Derived.Test.YtmgpamcpdblckaaGreatDoorTie
import Derived.ProofKit
import Derived.LaidMore
import Derived.OpenShut
import Derived.Stop.Joined
import Derived.SevenTiedAt
import Derived.Lay
set_option linter.all false
/-
The program's StoreAdd returns what the reference's returns, for all arguments: the given statement fnExactStoreAdd, its tied card. Its conditions: none.
-/
namespace Go.Proofs.YtmgpamcpdblckaaGreatDoor
namespace V
set_option maxRecDepth 100000
open Go.ChangeShapes Go.WideShapes Go.ChangeAt Go.RowKit

def Xh : Ck := .int .i64 (.int .i64 (.int .i64 .nil))
def Wh : Ck := .int .i64 (.sl YO (.int .i64 (.bool (.int .i64 (.int .i64 (.sl Xh .nil))))))
theorem conf_Mt {x : List D} (h : conf Xh x) : ∃ a : Mt, x = eMt a ∧ True := by
  obtain ⟨n, _, rfl, _, m, _, rfl, _, s, _, rfl, _, h⟩ := h
  have h := (show _ = [] from h)
  subst h
  exact ⟨⟨n, m, s⟩, rfl, trivial⟩
theorem conf_Tu {x : List D} (h : conf Wh x) : ∃ t : Tu, x = Nd t ∧ (t.r.keys.length : Int) ≤ mx ∧ (t.x.ms.length : Int) ≤ mx := by
  obtain ⟨n, _, rfl, _, ks, _, rfl, c1, c2, m, _, rfl, _, has, _, rfl, a, _, rfl, _, b, _, rfl, _, ms, _, rfl, d1, d2, h⟩ := h
  have h := (show _ = [] from h)
  subst h
  obtain ⟨ks, rfl, _⟩ := nD (fun x hx => WV (c2 x hx))
  obtain ⟨ms, rfl, _⟩ := nD (fun x hx => conf_Mt (d2 x hx))
  rw [List.length_map] at c1 d1
  exact ⟨⟨⟨n, ks, m⟩, has, ⟨a, b, ms⟩⟩, rfl, KL c1, KL d1⟩

theorem conf_str {x : List D} (h : conf (.str .nil) x) : ∃ l, x = sT l := by
  obtain ⟨b, _, rfl, h⟩ := h
  have h := (show _ = [] from h)
  subst h
  exact ⟨b.data.toList, by rw [← Nj b]; simp [bA]⟩

theorem add_lifted (os : Os) (started : os.Started) (H : Type) (enc : TypeId × Value → H) :
    ReturnsInHanded {} Tryz.checked os n_l_FnExactStoreAdd .any (fun w args => (Rows.fnExactStoreAddSpec.pre enc Tryz.prog Tryz.f8 [] false w args ∧ laidMetH Tryz.prog Rows.fnExactStoreAddRow.laid w) ∧ sizedMet enc Tryz.prog Tryz.f8 (OpenSpec.ofChange Rows.fnExactStoreAddSpec) false w args)
      (Rows.fnExactStoreAddSpec.post enc Tryz.prog Tryz.f8 false Rows.fnExactStoreAddRow.fresh Rows.fnExactStoreAddRow.handsOn Rows.fnExactStoreAddRow.again) := by
  refine JE (C := Tryz.checked) (X := fun w _ => laidMetH Tryz.prog Rows.fnExactStoreAddRow.laid w) (fun _ _ _ hh h => h.of_heap hh) (by kernel_rfl) started (by kernel_rfl) Tryz.func8
    (ChangeSpec.witness_shaped (enc := enc) (C := Tryz.checked) (os := os) (X := fun w _ => laidMetH Tryz.prog Rows.fnExactStoreAddRow.laid w) false (World.laidAll Tryz.prog os Rows.fnExactStoreAddRow.laid) #[.agg #[.int .i64 0, .slice none 0 0, .int .i64 0, .bool false, .int .i64 0, .int .i64 0, .slice none 0 0], .slice none 0 0, .string ⟨#[]⟩] 8 (World.laidAll_os _ _ _) (World.shaped_of_ZipB (by kernel_rfl) (by kernel_rfl)) (by kernel_rfl) (by kernel_rfl) (by kernel_rfl) (by rw [MakeChecks.laidMetH_plain _ _ _ (by kernel_rfl)]; exact laidMet_laidAll _ (by kernel_rfl) (by kernel_rfl))) ?_
  intro W base args ds gs before hval hW hL hsh
  refine YE (T := vW) (u := 4) 9 [(true, Wh), (false, SD), (false, .str .nil)] (by kernel_rfl) (by kernel_rfl) (by kernel_rfl) rfl (fun ds h => ?_) (fun ins hl hc => ?_) hval hW (Wg hL hsh (by kernel_rfl) (by kernel_rfl))
  · match ds, h with
    | [a, b, c], _ => exact ⟨rfl, rfl, rfl⟩
  · match ins, hl with
    | [a, b, c], _ =>
      obtain ⟨x0, rfl, h0, h0'⟩ := conf_Tu (hc 0 (true, Wh) a rfl rfl)
      obtain ⟨x1, rfl, h1⟩ := PQ (hc 1 (false, SD) b rfl rfl)
      obtain ⟨l, rfl⟩ := conf_str (hc 2 (false, .str .nil) c rfl rfl)
      exact Aq x0 x1 l h0 h0' h1

theorem fnExactStoreAdd_holds : Rows.FnExactStoreAddSaid :=
  OpenClaim.holds_of_wide n_l_FnExactStoreAdd Tryz.f8 rfl rfl rfl rfl rfl rfl rfl ⟨rfl, rfl, rfl, rfl, rfl⟩ rfl rfl rfl rfl rfl (by kernel_rfl) Tryz.func8 (by kernel_rfl)
    (of_decide_eq_true (by kernel_rfl)) (by unfold Func.isWrapper; rw [if_neg (of_decide_eq_false (by kernel_rfl))]; exact ⟨rfl, rfl⟩)
    (fun os started H enc _ => add_lifted os started H enc)
end V
theorem fnExactStoreAdd_card_proved : Rows.FnExactStoreAddCardSaid :=
  Claim7.holds_tied_plain_at .later [] [.data, .data, .data, .data, .sentinel, .sentinel, .pinned] true (true, "9236cacd1ddfff622a892b01063d70ad6f31264026a482d7ede5e189894a5405") true
    V.fnExactStoreAdd_holds (fun _ h => by cases h) (by kernel_rfl) (fun _ h => by cases h) fnExactStoreAdd_row_tie rfl ⟨rfl, rfl⟩ (by kernel_rfl) rfl
    (fun f fn hf hfn => by
      obtain rfl : f = V.n_l_FnExactStoreAdd := Option.some.inj ((show Tryz.prog.funcNamed "loop.example/purser/laws.FnExactStoreAdd" = some V.n_l_FnExactStoreAdd by kernel_rfl).symm.trans hf) |>.symm
      obtain rfl : fn = Tryz.f8 := (Option.some.inj (Tryz.func8.symm.trans hfn)).symm
      have hall : (Tryz.f8.params.toList.all fun u => !Tryz.prog.wantsStandIn u) = true := by kernel_rfl
      exact ⟨by kernel_rfl, fun j t ht => by
        have hm : t ∈ Tryz.f8.params.toList := by simpa using Array.mem_of_getElem? ht
        exact (show Tryz.prog.wantsStandIn t = false by simpa using List.all_eq_true.1 hall t hm)⟩)
    (by kernel_rfl)
end Go.Proofs.YtmgpamcpdblckaaGreatDoor

