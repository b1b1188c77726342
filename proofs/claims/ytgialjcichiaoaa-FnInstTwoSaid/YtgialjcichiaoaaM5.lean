/-
Part 5 of the proof of the claimed statement (its last part holds the theorem, and says what is proved). Conditions: none.
-/
import Derived.Test.YtgialjcichiaoaaM4
import Derived.Test.YtgialjcichiaoaaChecked
import Derived.Tactics
import Derived.Tactics2
import Derived.WalkKit
import Derived.Laws.IdiomCopy
import Derived.RowKit3
import Derived.LoopTactic
import Derived.Below
import Derived.RegionTactic
set_option linter.all false
/-
Plain proofs: the program's stores.
-/
namespace Go.Proofs.Ytgialjcichiaoaa
namespace V
open Classical
set_option maxRecDepth 100000
variable {W : Wld}

theorem isNaN_ok (a : Int) : FunOk PP W n_cmp_isNaN_int s_cmp_isNaN_int [i64 a] [bo false] := by
  refine F_cmp_isNaN_int (run_fun ?_)
  (repeat' first
    | (refine run_ite rfl (fun h => ?_) (fun h => ?_) <;> (try simp (disch := omega) only [z0, z1, z2, z3, z4, z5, z6, z7, z8, z9, z10, z11, z12, z13, z14, z15, z16, z17, z18, z19, z20, z21, z22, z23, z24, z25, eqDs, eqD, z28, z29, z30, z31, z32, z33, z34, z35, z36, z37, Nat.reduceAdd, z39, z40, z41, wrap64] at h) <;> (try (exfalso; omega)))
    | (refine run_need rfl (by (try simp (disch := omega) only [z0, z1, z2, z3, z4, z5, z6, z7, z8, z9, z10, z11, z12, z13, z14, z15, z16, z17, z18, z19, z20, z21, z22, z23, z24, z25, eqDs, eqD, z28, z29, z30, z31, z32, z33, z34, z35, z36, z37, Nat.reduceAdd, z39, z40, z41, wrap64]); first | exact elp_m (by omega) (by omega) (fun _ => rfl) | exact eld_m (by omega) (by omega) (fun _ => rfl) | exact els_m (by omega) (by omega) (by omega) rfl | exact lsl_m (by omega) (fun _ => rfl) | exact app_nil_m (by omega) (fun _ => rfl) (fun _ => rfl) | exact app_m_one (by omega) (fun _ => rfl) rfl rfl | exact app_m_m (by omega) (fun _ => rfl) (fun _ => rfl)) ?_)
    | (refine run_need rfl (by first | decide | omega | (simp only [List.length_map]; omega)) ?_)
    | (refine run_need rfl ?_ ?_)
    | (refine run_ret rfl ?_ ; first | refine rb ?_ | refine ri ?_ | refine rs2 ?_ ?_ | refine rs1 ?_)
    | (refine run_retx rfl ?_))
  simp

def cmpM (a b : Int) : Int := if a < b then -1 else if b < a then 1 else 0
theorem cmpI_ok (a b : Int) : FunOk PP W n_cmp_Compare_int s_cmp_Compare_int [i64 a, i64 b] [i64 (cmpM a b)] := by
  refine F_cmp_Compare_int (run_fun ?_)
  (repeat' first
    | (refine run_ite rfl (fun h => ?_) (fun h => ?_) <;> (try simp (disch := omega) only [z0, z1, z2, z3, z4, z5, z6, z7, z8, z9, z10, z11, z12, z13, z14, z15, z16, z17, z18, z19, z20, z21, z22, z23, z24, z25, eqDs, eqD, z28, z29, z30, z31, z32, z33, z34, z35, z36, z37, Nat.reduceAdd, z39, z40, z41, wrap64] at h) <;> (try (exfalso; omega)))
    | (refine run_need rfl (by (try simp (disch := omega) only [z0, z1, z2, z3, z4, z5, z6, z7, z8, z9, z10, z11, z12, z13, z14, z15, z16, z17, z18, z19, z20, z21, z22, z23, z24, z25, eqDs, eqD, z28, z29, z30, z31, z32, z33, z34, z35, z36, z37, Nat.reduceAdd, z39, z40, z41, wrap64]); first | exact elp_m (by omega) (by omega) (fun _ => rfl) | exact eld_m (by omega) (by omega) (fun _ => rfl) | exact els_m (by omega) (by omega) (by omega) rfl | exact lsl_m (by omega) (fun _ => rfl) | exact app_nil_m (by omega) (fun _ => rfl) (fun _ => rfl) | exact app_m_one (by omega) (fun _ => rfl) rfl rfl | exact app_m_m (by omega) (fun _ => rfl) (fun _ => rfl)) ?_)
    | (refine run_need rfl (by first | decide | omega | (simp only [List.length_map]; omega)) ?_)
    | (refine run_call1 rfl (isNaN_ok ..) rfl ?_)
    | (refine run_need rfl ?_ ?_)
    | (refine run_ret rfl ?_ ; first | refine rb ?_ | refine ri ?_ | refine rs2 ?_ ?_ | refine rs1 ?_)
    | (refine run_retx rfl ?_))
  all_goals unfold cmpM
  all_goals (repeat' split) <;> omega

theorem cmpOr_ok (a b : Int) : FunOk PP W n_cmp_Or_int s_cmp_Or_int [eIs [a, b]] [i64 (if a = 0 then b else a)] := by
  refine F_cmp_Or_int (run_fun ?_)
  (repeat' first
    | (refine run_ite rfl (fun h => ?_) (fun h => ?_) <;> (try simp (disch := omega) only [z0, z1, z2, z3, z4, z5, z6, z7, z8, z9, z10, z11, z12, z13, z14, z15, z16, z17, z18, z19, z20, z21, z22, z23, z24, z25, eqDs, eqD, z28, z29, z30, z31, z32, z33, z34, z35, z36, z37, Nat.reduceAdd, z39, z40, z41, wrap64] at h) <;> (try (exfalso; omega)))
    | (refine run_need rfl (by (try simp (disch := omega) only [z0, z1, z2, z3, z4, z5, z6, z7, z8, z9, z10, z11, z12, z13, z14, z15, z16, z17, z18, z19, z20, z21, z22, z23, z24, z25, eqDs, eqD, z28, z29, z30, z31, z32, z33, z34, z35, z36, z37, Nat.reduceAdd, z39, z40, z41, wrap64]); first | exact elp_m (by omega) (by omega) (fun _ => rfl) | exact eld_m (by omega) (by omega) (fun _ => rfl) | exact els_m (by omega) (by omega) (by omega) rfl | exact lsl_m (by omega) (fun _ => rfl) | exact app_nil_m (by omega) (fun _ => rfl) (fun _ => rfl) | exact app_m_one (by omega) (fun _ => rfl) rfl rfl | exact app_m_m (by omega) (fun _ => rfl) (fun _ => rfl)) ?_)
    | (refine run_need rfl (by first | decide | omega | (simp only [List.length_map]; omega)) ?_)
    | (refine run_need rfl ?_ ?_)
    | (refine run_ret rfl ?_ ; first | refine rb ?_ | refine ri ?_ | refine rs2 ?_ ?_ | refine rs1 ?_)
    | (refine run_retx rfl ?_))
  refine run_loop rfl (fun i : Int => 0 ≤ i ∧ i ≤ 2 ∧ (0 < i → a = 0) ∧ (1 < i → b = 0)) (fun i => [(8, .val (i64 i)), (6, .val (eIs [a, b])), (7, .val (i64 2)), (3, .val (i64 0))]) (fun i => (2 - i).toNat) 0 ⟨by omega, by omega, by omega, by omega⟩ ⟨rfl, rfl, rfl, rfl, trivial⟩ rfl ?_
  rintro i e ⟨h0, hN, hP1, hP2⟩
  (repeat' first
    | (refine run_ite rfl (fun h => ?_) (fun h => ?_) <;> (try simp (disch := omega) only [z0, z1, z2, z3, z4, z5, z6, z7, z8, z9, z10, z11, z12, z13, z14, z15, z16, z17, z18, z19, z20, z21, z22, z23, z24, z25, eqDs, eqD, z28, z29, z30, z31, z32, z33, z34, z35, z36, z37, Nat.reduceAdd, z39, z40, z41, wrap64] at h) <;> (try (exfalso; omega)))
    | (refine run_need rfl (by (try simp (disch := omega) only [z0, z1, z2, z3, z4, z5, z6, z7, z8, z9, z10, z11, z12, z13, z14, z15, z16, z17, z18, z19, z20, z21, z22, z23, z24, z25, eqDs, eqD, z28, z29, z30, z31, z32, z33, z34, z35, z36, z37, Nat.reduceAdd, z39, z40, z41, wrap64]); first | exact elp_m (by omega) (by omega) (fun _ => rfl) | exact eld_m (by omega) (by omega) (fun _ => rfl) | exact els_m (by omega) (by omega) (by omega) rfl | exact lsl_m (by omega) (fun _ => rfl) | exact app_nil_m (by omega) (fun _ => rfl) (fun _ => rfl) | exact app_m_one (by omega) (fun _ => rfl) rfl rfl | exact app_m_m (by omega) (fun _ => rfl) (fun _ => rfl)) ?_)
    | (refine run_need rfl (by first | decide | omega | (simp only [List.length_map]; omega)) ?_)
    | (refine run_next rfl (Exists.intro (i + 1) ⟨by omega, ⟨by omega, by omega, ?_, ?_⟩, i64_eq (wrap64 _ (by omega)), rfl, rfl, rfl, trivial⟩))
    | (refine run_need rfl ?_ ?_)
    | (refine run_ret rfl ?_ ; first | refine rb ?_ | refine ri ?_ | refine rs2 ?_ ?_ | refine rs1 ?_)
    | (refine run_retx rfl ?_))
  · rw [cI_I]
    have hi : i = 0 ∨ i = 1 := by omega
    rcases hi with rfl | rfl <;> simp_all [ix]
  · intro _
    have hi : i = 0 ∨ i = 1 := by omega
    rcases hi with rfl | rfl <;> simp_all [ix]
  · intro _
    have hi : i = 1 := by omega
    subst hi
    simp_all [ix]
  · rw [if_pos (hP1 (by omega)), hP2 (by omega)]

theorem compare_ok (p q : Pk) : FunOk PP W n_i_Pkg_compare s_i_Pkg_compare [ePk p, ePk q] [i64 (if cmpM p.name q.name = 0 then cmpM p.ver q.ver else cmpM p.name q.name)] := by
  refine F_i_Pkg_compare (run_fun ?_)
  (repeat' first
    | (refine run_ite rfl (fun h => ?_) (fun h => ?_) <;> (try simp (disch := omega) only [z0, z1, z2, z3, z4, z5, z6, z7, z8, z9, z10, z11, z12, z13, z14, z15, z16, z17, z18, z19, z20, z21, z22, z23, z24, z25, eqDs, eqD, z28, z29, z30, z31, z32, z33, z34, z35, z36, z37, Nat.reduceAdd, z39, z40, z41, wrap64] at h) <;> (try (exfalso; omega)))
    | (refine run_need rfl (by (try simp (disch := omega) only [z0, z1, z2, z3, z4, z5, z6, z7, z8, z9, z10, z11, z12, z13, z14, z15, z16, z17, z18, z19, z20, z21, z22, z23, z24, z25, eqDs, eqD, z28, z29, z30, z31, z32, z33, z34, z35, z36, z37, Nat.reduceAdd, z39, z40, z41, wrap64]); first | exact elp_m (by omega) (by omega) (fun _ => rfl) | exact eld_m (by omega) (by omega) (fun _ => rfl) | exact els_m (by omega) (by omega) (by omega) rfl | exact lsl_m (by omega) (fun _ => rfl) | exact app_nil_m (by omega) (fun _ => rfl) (fun _ => rfl) | exact app_m_one (by omega) (fun _ => rfl) rfl rfl | exact app_m_m (by omega) (fun _ => rfl) (fun _ => rfl)) ?_)
    | (refine run_need rfl (by first | decide | omega | (simp only [List.length_map]; omega)) ?_)
    | (refine run_call1 rfl (cmpI_ok ..) rfl ?_)
    | (refine run_call1 rfl (cmpOr_ok ..) rfl ?_)
    | (refine run_need rfl ?_ ?_)
    | (refine run_ret rfl ?_ ; first | refine rb ?_ | refine ri ?_ | refine rs2 ?_ ?_ | refine rs1 ?_)
    | (refine run_retx rfl ?_))
  rfl
theorem compare_less (p q : Pk) : ¬ 0 ≤ (if cmpM p.name q.name = 0 then cmpM p.ver q.ver else cmpM p.name q.name) ↔ lessM p q := by
  unfold cmpM lessM
  (repeat' split) <;> omega

theorem iStoreOk_ok (ps : List Pk) (hs : SmPs ps) : FunOk PP W n_i_StoreOk s_i_StoreOk [ePks ps] [bo (decide (PksOk ps))] := by
  refine F_i_StoreOk (run_fun ?_)
  have hl := hs.1
  unfold lim at hl
  refine run_loop rfl (fun i : Int => 0 ≤ i ∧ i ≤ ps.length ∧ Blw i (PkAt ps)) (fun i => [(7, .val (i64 i)), (0, .val (ePks ps)), (5, .val (ePks ps)), (6, .val (i64 (ps.map ePk).length))]) (fun i => (ps.length - i).toNat) 0 ⟨by omega, by omega, blw_zero _⟩ ⟨rfl, rfl, rfl, rfl, trivial⟩ rfl ?_
  rintro i e ⟨h0, hN, hP⟩
  (repeat' first
    | (refine run_ite rfl (fun h => ?_) (fun h => ?_) <;> (try simp (disch := omega) only [z0, z1, z2, z3, z4, z5, z6, z7, z8, z9, z10, z11, z12, z13, z14, z15, z16, z17, z18, z19, z20, z21, z22, z23, z24, z25, eqDs, eqD, z28, z29, z30, z31, z32, z33, z34, z35, z36, z37, Nat.reduceAdd, z39, z40, z41, wrap64] at h) <;> (try (exfalso; omega)))
    | (refine run_need rfl (by (try simp (disch := omega) only [z0, z1, z2, z3, z4, z5, z6, z7, z8, z9, z10, z11, z12, z13, z14, z15, z16, z17, z18, z19, z20, z21, z22, z23, z24, z25, eqDs, eqD, z28, z29, z30, z31, z32, z33, z34, z35, z36, z37, Nat.reduceAdd, z39, z40, z41, wrap64]); first | exact elp_m (by omega) (by omega) (fun _ => rfl) | exact eld_m (by omega) (by omega) (fun _ => rfl) | exact els_m (by omega) (by omega) (by omega) rfl | exact lsl_m (by omega) (fun _ => rfl) | exact app_nil_m (by omega) (fun _ => rfl) (fun _ => rfl) | exact app_m_one (by omega) (fun _ => rfl) rfl rfl | exact app_m_m (by omega) (fun _ => rfl) (fun _ => rfl)) ?_)
    | (refine run_need rfl (by first | decide | omega | (simp only [List.length_map]; omega)) ?_)
    | (refine run_calleq rfl (iPkgOk_ok (ix ps i) (smPs_ix hs (by omega) (by omega))) (by simp (disch := omega) only [z0, z1, z2, z3, z4, z5, z6, z7, z8, z9, z10, z11, z12, z13, z14, z15, z16, z17, z18, z19, z20, z21, z22, z23, z24, z25, eqDs, eqD, z28, z29, z30, z31, z32, z33, z34, z35, z36, z37, Nat.reduceAdd, z39, z40, z41, wrap64]) rfl ?_)
    | (refine run_calleq rfl (compare_ok (ix ps (i - 1)) (ix ps i)) (by simp (disch := omega) only [z0, z1, z2, z3, z4, z5, z6, z7, z8, z9, z10, z11, z12, z13, z14, z15, z16, z17, z18, z19, z20, z21, z22, z23, z24, z25, eqDs, eqD, z28, z29, z30, z31, z32, z33, z34, z35, z36, z37, Nat.reduceAdd, z39, z40, z41, wrap64]) rfl ?_)
    | (refine run_next rfl (Exists.intro (i + 1) ⟨by omega, ⟨by omega, by omega, blw_succ hP ?_⟩, i64_eq (wrap64 _ (by omega)), rfl, rfl, rfl, trivial⟩))
    | (refine run_need rfl ?_ ?_)
    | (refine run_ret rfl ?_ ; first | refine rb ?_ | refine ri ?_ | refine rs2 ?_ ?_ | refine rs1 ?_)
    | (refine run_retx rfl ?_))
  · exact fD (fun h' => absurd (h' i (by omega) (by omega)).1 (by assumption))
  · exact fD (fun h' => (compare_less _ _).2 ((h' i (by omega) (by omega)).2 (by assumption)) h)
  · exact ⟨by assumption, fun _ => (compare_less _ _).1 h⟩
  · exact ⟨by assumption, fun h' => absurd h' (by assumption)⟩
  · exact tD (blw_to hP (by omega))
end V
end Go.Proofs.Ytgialjcichiaoaa

/-
Plain proofs: the program's plans.
-/
namespace Go.Proofs.Ytgialjcichiaoaa
namespace V
open Classical
set_option maxRecDepth 100000
variable {W : Wld}

/-- Which one from one on is such. -/
noncomputable def idxF {α : Type} [Inhabited α] (P : α → Prop) (xs : List α) : Nat → Int → Int
  | 0, _ => -1
  | n + 1, i => if P (ix xs i) then i else idxF P xs n (i + 1)

def bearsP (d : P2) (p : Pk) : Prop := p.name = d.a ∧ d.b ≤ p.ver
theorem bears1_ok (p : Pk) (d : P2) : FunOk PP W n_i_bears_1 s_i_bears_1 [ePk p, eP2 d] [bo (decide (bearsP d p))] := by
  refine F_i_bears_1 (run_fun ?_)
  unfold bearsP
  (repeat' first
    | (refine run_ite rfl (fun h => ?_) (fun h => ?_) <;> (try simp (disch := omega) only [z0, z1, z2, z3, z4, z5, z6, z7, z8, z9, z10, z11, z12, z13, z14, z15, z16, z17, z18, z19, z20, z21, z22, z23, z24, z25, eqDs, eqD, z28, z29, z30, z31, z32, z33, z34, z35, z36, z37, Nat.reduceAdd, z39, z40, z41, wrap64] at h) <;> (try (exfalso; omega)))
    | (refine run_need rfl (by (try simp (disch := omega) only [z0, z1, z2, z3, z4, z5, z6, z7, z8, z9, z10, z11, z12, z13, z14, z15, z16, z17, z18, z19, z20, z21, z22, z23, z24, z25, eqDs, eqD, z28, z29, z30, z31, z32, z33, z34, z35, z36, z37, Nat.reduceAdd, z39, z40, z41, wrap64]); first | exact elp_m (by omega) (by omega) (fun _ => rfl) | exact eld_m (by omega) (by omega) (fun _ => rfl) | exact els_m (by omega) (by omega) (by omega) rfl | exact lsl_m (by omega) (fun _ => rfl) | exact app_nil_m (by omega) (fun _ => rfl) (fun _ => rfl) | exact app_m_one (by omega) (fun _ => rfl) rfl rfl | exact app_m_m (by omega) (fun _ => rfl) (fun _ => rfl)) ?_)
    | (refine run_need rfl (by first | decide | omega | (simp only [List.length_map]; omega)) ?_)
    | (refine run_need rfl ?_ ?_)
    | (refine run_ret rfl ?_ ; first | refine rb ?_ | refine ri ?_ | refine rs2 ?_ ?_ | refine rs1 ?_)
    | (refine run_retx rfl ?_))
  all_goals simp_all

theorem idxPkg_ok (ps : List Pk) (hl : ps.length ≤ lim) (d : P2) : FunOk PP W n_sl_IndexFunc_Pkg s_sl_IndexFunc_Pkg [ePks ps, [.fn n_i_bears_1 [] [eP2 d]]] [i64 (idxF (bearsP d) ps ps.length 0)] := by
  refine F_sl_IndexFunc_Pkg (run_fun ?_)
  unfold lim at hl
  refine run_loop rfl (fun i : Int => 0 ≤ i ∧ i ≤ ps.length ∧ idxF (bearsP d) ps ps.length 0 = idxF (bearsP d) ps (ps.length - i).toNat i) (fun i => [(8, .val (i64 i)), (0, .val (ePks ps)), (1, .val [.fn n_i_bears_1 [] [eP2 d]]), (7, .val (i64 (ps.map ePk).length))]) (fun i => (ps.length - i).toNat) 0 ⟨by omega, by omega, by simp⟩ ⟨rfl, rfl, rfl, rfl, trivial⟩ rfl ?_
  rintro i e ⟨h0, hN, hP⟩
  (repeat' first
    | (refine run_ite rfl (fun h => ?_) (fun h => ?_) <;> (try simp (disch := omega) only [z0, z1, z2, z3, z4, z5, z6, z7, z8, z9, z10, z11, z12, z13, z14, z15, z16, z17, z18, z19, z20, z21, z22, z23, z24, z25, eqDs, eqD, z28, z29, z30, z31, z32, z33, z34, z35, z36, z37, Nat.reduceAdd, z39, z40, z41, wrap64] at h) <;> (try (exfalso; omega)))
    | (refine run_need rfl (by (try simp (disch := omega) only [z0, z1, z2, z3, z4, z5, z6, z7, z8, z9, z10, z11, z12, z13, z14, z15, z16, z17, z18, z19, z20, z21, z22, z23, z24, z25, eqDs, eqD, z28, z29, z30, z31, z32, z33, z34, z35, z36, z37, Nat.reduceAdd, z39, z40, z41, wrap64]); first | exact elp_m (by omega) (by omega) (fun _ => rfl) | exact eld_m (by omega) (by omega) (fun _ => rfl) | exact els_m (by omega) (by omega) (by omega) rfl | exact lsl_m (by omega) (fun _ => rfl) | exact app_nil_m (by omega) (fun _ => rfl) (fun _ => rfl) | exact app_m_one (by omega) (fun _ => rfl) rfl rfl | exact app_m_m (by omega) (fun _ => rfl) (fun _ => rfl)) ?_)
    | (refine run_need rfl (by first | decide | omega | (simp only [List.length_map]; omega)) ?_)
    | (refine run_clo1 (ins' := [ePk (ix ps i)]) rfl (bears1_ok (ix ps i) d) (by simp (disch := omega) only [z0, z1, z2, z3, z4, z5, z6, z7, z8, z9, z10, z11, z12, z13, z14, z15, z16, z17, z18, z19, z20, z21, z22, z23, z24, z25, eqDs, eqD, z28, z29, z30, z31, z32, z33, z34, z35, z36, z37, Nat.reduceAdd, z39, z40, z41, wrap64]) rfl ?_)
    | (refine run_next rfl (Exists.intro (i + 1) ⟨by omega, ⟨by omega, by omega, ?_⟩, i64_eq (wrap64 _ (by omega)), rfl, rfl, rfl, trivial⟩))
    | (refine run_need rfl ?_ ?_)
    | (refine run_ret rfl ?_ ; first | refine rb ?_ | refine ri ?_ | refine rs2 ?_ ?_ | refine rs1 ?_)
    | (refine run_retx rfl ?_))
  · rw [hP, show ((ps.length : Int) - i).toNat = ((ps.length : Int) - (i + 1)).toNat + 1 by omega, idxF, if_pos h]
  · rw [hP, show ((ps.length : Int) - i).toNat = ((ps.length : Int) - (i + 1)).toNat + 1 by omega, idxF, if_neg h]
  · rw [hP, show ((ps.length : Int) - i).toNat = 0 by omega, idxF]

theorem idxF_pos {α : Type} [Inhabited α] (P : α → Prop) (xs : List α) : ∀ (n : Nat) (i : Int), 0 ≤ i → (0 ≤ idxF P xs n i ↔ ∃ j, i ≤ j ∧ j < i + n ∧ P (ix xs j))
  | 0, i, h0 => by
    unfold idxF
    constructor
    · intro h; omega
    · rintro ⟨j, h1, h2, _⟩; omega
  | n + 1, i, h0 => by
    unfold idxF
    by_cases hp : P (ix xs i)
    · rw [if_pos hp]
      exact ⟨fun _ => ⟨i, by omega, by omega, hp⟩, fun _ => h0⟩
    · rw [if_neg hp, idxF_pos P xs n (i + 1) (by omega)]
      constructor
      · rintro ⟨j, h1, h2, h3⟩; exact ⟨j, by omega, by omega, h3⟩
      · rintro ⟨j, h1, h2, h3⟩
        by_cases hj : j = i
        · subst hj; exact absurd h3 hp
        · exact ⟨j, by omega, by omega, h3⟩
theorem idxF_mem {α : Type} [Inhabited α] (P : α → Prop) (xs : List α) : 0 ≤ idxF P xs xs.length 0 ↔ ∃ x ∈ xs, P x := by
  rw [idxF_pos P xs xs.length 0 (by omega)]
  constructor
  · rintro ⟨j, h1, h2, h3⟩; exact ⟨_, ix_mem h1 (by omega), h3⟩
  · rintro ⟨x, hx, h⟩
    obtain ⟨j, h1, h2, rfl⟩ := mem_ix hx
    exact ⟨j, h1, by omega, h⟩

theorem conPkg_ok (ps : List Pk) (hl : ps.length ≤ lim) (d : P2) : FunOk PP W n_sl_ContainsFunc_Pkg s_sl_ContainsFunc_Pkg [ePks ps, [.fn n_i_bears_1 [] [eP2 d]]] [bo (decide (∃ p ∈ ps, bearsP d p))] := by
  refine F_sl_ContainsFunc_Pkg (run_fun ?_)
  (repeat' first
    | (refine run_ite rfl (fun h => ?_) (fun h => ?_) <;> (try simp (disch := omega) only [z0, z1, z2, z3, z4, z5, z6, z7, z8, z9, z10, z11, z12, z13, z14, z15, z16, z17, z18, z19, z20, z21, z22, z23, z24, z25, eqDs, eqD, z28, z29, z30, z31, z32, z33, z34, z35, z36, z37, Nat.reduceAdd, z39, z40, z41, wrap64] at h) <;> (try (exfalso; omega)))
    | (refine run_need rfl (by (try simp (disch := omega) only [z0, z1, z2, z3, z4, z5, z6, z7, z8, z9, z10, z11, z12, z13, z14, z15, z16, z17, z18, z19, z20, z21, z22, z23, z24, z25, eqDs, eqD, z28, z29, z30, z31, z32, z33, z34, z35, z36, z37, Nat.reduceAdd, z39, z40, z41, wrap64]); first | exact elp_m (by omega) (by omega) (fun _ => rfl) | exact eld_m (by omega) (by omega) (fun _ => rfl) | exact els_m (by omega) (by omega) (by omega) rfl | exact lsl_m (by omega) (fun _ => rfl) | exact app_nil_m (by omega) (fun _ => rfl) (fun _ => rfl) | exact app_m_one (by omega) (fun _ => rfl) rfl rfl | exact app_m_m (by omega) (fun _ => rfl) (fun _ => rfl)) ?_)
    | (refine run_need rfl (by first | decide | omega | (simp only [List.length_map]; omega)) ?_)
    | (refine run_call1 rfl (idxPkg_ok ps hl d) rfl ?_)
    | (refine run_need rfl ?_ ?_)
    | (refine run_ret rfl ?_ ; first | refine rb ?_ | refine ri ?_ | refine rs2 ?_ ?_ | refine rs1 ?_)
    | (refine run_retx rfl ?_))
  congr 1
  simp only [ge_iff_le, eq_iff_iff]
  exact idxF_mem _ _
theorem bears_ok (ps : List Pk) (hl : ps.length ≤ lim) (d : P2) : FunOk PP W n_i_bears s_i_bears [ePks ps, eP2 d] [bo (decide (∃ p ∈ ps, bearsP d p))] := by
  refine F_i_bears (run_fun ?_)
  (repeat' first
    | (refine run_ite rfl (fun h => ?_) (fun h => ?_) <;> (try simp (disch := omega) only [z0, z1, z2, z3, z4, z5, z6, z7, z8, z9, z10, z11, z12, z13, z14, z15, z16, z17, z18, z19, z20, z21, z22, z23, z24, z25, eqDs, eqD, z28, z29, z30, z31, z32, z33, z34, z35, z36, z37, Nat.reduceAdd, z39, z40, z41, wrap64] at h) <;> (try (exfalso; omega)))
    | (refine run_need rfl (by (try simp (disch := omega) only [z0, z1, z2, z3, z4, z5, z6, z7, z8, z9, z10, z11, z12, z13, z14, z15, z16, z17, z18, z19, z20, z21, z22, z23, z24, z25, eqDs, eqD, z28, z29, z30, z31, z32, z33, z34, z35, z36, z37, Nat.reduceAdd, z39, z40, z41, wrap64]); first | exact elp_m (by omega) (by omega) (fun _ => rfl) | exact eld_m (by omega) (by omega) (fun _ => rfl) | exact els_m (by omega) (by omega) (by omega) rfl | exact lsl_m (by omega) (fun _ => rfl) | exact app_nil_m (by omega) (fun _ => rfl) (fun _ => rfl) | exact app_m_one (by omega) (fun _ => rfl) rfl rfl | exact app_m_m (by omega) (fun _ => rfl) (fun _ => rfl)) ?_)
    | (refine run_need rfl (by first | decide | omega | (simp only [List.length_map]; omega)) ?_)
    | (refine run_call1 rfl (conPkg_ok ps hl d) rfl ?_)
    | (refine run_need rfl ?_ ?_)
    | (refine run_ret rfl ?_ ; first | refine rb ?_ | refine ri ?_ | refine rs2 ?_ ?_ | refine rs1 ?_)
    | (refine run_retx rfl ?_))
  rfl

def lacksP (ps : List Pk) (d : P2) : Prop := ¬ ∃ p ∈ ps, bearsP d p
theorem planOk1_ok (ps : List Pk) (hl : ps.length ≤ lim) (d : P2) : FunOk PP W n_i_PlanOk_1 s_i_PlanOk_1 [eP2 d, ePks ps] [bo (decide (lacksP ps d))] := by
  refine F_i_PlanOk_1 (run_fun ?_)
  (repeat' first
    | (refine run_ite rfl (fun h => ?_) (fun h => ?_) <;> (try simp (disch := omega) only [z0, z1, z2, z3, z4, z5, z6, z7, z8, z9, z10, z11, z12, z13, z14, z15, z16, z17, z18, z19, z20, z21, z22, z23, z24, z25, eqDs, eqD, z28, z29, z30, z31, z32, z33, z34, z35, z36, z37, Nat.reduceAdd, z39, z40, z41, wrap64] at h) <;> (try (exfalso; omega)))
    | (refine run_need rfl (by (try simp (disch := omega) only [z0, z1, z2, z3, z4, z5, z6, z7, z8, z9, z10, z11, z12, z13, z14, z15, z16, z17, z18, z19, z20, z21, z22, z23, z24, z25, eqDs, eqD, z28, z29, z30, z31, z32, z33, z34, z35, z36, z37, Nat.reduceAdd, z39, z40, z41, wrap64]); first | exact elp_m (by omega) (by omega) (fun _ => rfl) | exact eld_m (by omega) (by omega) (fun _ => rfl) | exact els_m (by omega) (by omega) (by omega) rfl | exact lsl_m (by omega) (fun _ => rfl) | exact app_nil_m (by omega) (fun _ => rfl) (fun _ => rfl) | exact app_m_one (by omega) (fun _ => rfl) rfl rfl | exact app_m_m (by omega) (fun _ => rfl) (fun _ => rfl)) ?_)
    | (refine run_need rfl (by first | decide | omega | (simp only [List.length_map]; omega)) ?_)
    | (refine run_call1 rfl (bears_ok ps hl d) rfl ?_)
    | (refine run_need rfl ?_ ?_)
    | (refine run_ret rfl ?_ ; first | refine rb ?_ | refine ri ?_ | refine rs2 ?_ ?_ | refine rs1 ?_)
    | (refine run_retx rfl ?_))
  by_cases hx : ∃ p ∈ ps, bearsP d p
  · rw [decide_eq_true hx]; exact fD (p := lacksP ps d) (fun h => h hx)
  · rw [decide_eq_false hx]; exact tD (p := lacksP ps d) hx
theorem idxDep_ok (ps : List Pk) (hp : ps.length ≤ lim) (ds : List P2) (hl : ds.length ≤ lim) : FunOk PP W n_sl_IndexFunc_Dep s_sl_IndexFunc_Dep [eP2s ds, [.fn n_i_PlanOk_1 [] [ePks ps]]] [i64 (idxF (lacksP ps) ds ds.length 0)] := by
  refine F_sl_IndexFunc_Dep (run_fun ?_)
  unfold lim at hl
  refine run_loop rfl (fun i : Int => 0 ≤ i ∧ i ≤ ds.length ∧ idxF (lacksP ps) ds ds.length 0 = idxF (lacksP ps) ds (ds.length - i).toNat i) (fun i => [(8, .val (i64 i)), (0, .val (eP2s ds)), (1, .val [.fn n_i_PlanOk_1 [] [ePks ps]]), (7, .val (i64 (ds.map eP2).length))]) (fun i => (ds.length - i).toNat) 0 ⟨by omega, by omega, by simp⟩ ⟨rfl, rfl, rfl, rfl, trivial⟩ rfl ?_
  rintro i e ⟨h0, hN, hP⟩
  (repeat' first
    | (refine run_ite rfl (fun h => ?_) (fun h => ?_) <;> (try simp (disch := omega) only [z0, z1, z2, z3, z4, z5, z6, z7, z8, z9, z10, z11, z12, z13, z14, z15, z16, z17, z18, z19, z20, z21, z22, z23, z24, z25, eqDs, eqD, z28, z29, z30, z31, z32, z33, z34, z35, z36, z37, Nat.reduceAdd, z39, z40, z41, wrap64] at h) <;> (try (exfalso; omega)))
    | (refine run_need rfl (by (try simp (disch := omega) only [z0, z1, z2, z3, z4, z5, z6, z7, z8, z9, z10, z11, z12, z13, z14, z15, z16, z17, z18, z19, z20, z21, z22, z23, z24, z25, eqDs, eqD, z28, z29, z30, z31, z32, z33, z34, z35, z36, z37, Nat.reduceAdd, z39, z40, z41, wrap64]); first | exact elp_m (by omega) (by omega) (fun _ => rfl) | exact eld_m (by omega) (by omega) (fun _ => rfl) | exact els_m (by omega) (by omega) (by omega) rfl | exact lsl_m (by omega) (fun _ => rfl) | exact app_nil_m (by omega) (fun _ => rfl) (fun _ => rfl) | exact app_m_one (by omega) (fun _ => rfl) rfl rfl | exact app_m_m (by omega) (fun _ => rfl) (fun _ => rfl)) ?_)
    | (refine run_need rfl (by first | decide | omega | (simp only [List.length_map]; omega)) ?_)
    | (refine run_clo1 (ins' := [eP2 (ix ds i)]) rfl (planOk1_ok ps hp (ix ds i)) (by simp (disch := omega) only [z0, z1, z2, z3, z4, z5, z6, z7, z8, z9, z10, z11, z12, z13, z14, z15, z16, z17, z18, z19, z20, z21, z22, z23, z24, z25, eqDs, eqD, z28, z29, z30, z31, z32, z33, z34, z35, z36, z37, Nat.reduceAdd, z39, z40, z41, wrap64]) rfl ?_)
    | (refine run_next rfl (Exists.intro (i + 1) ⟨by omega, ⟨by omega, by omega, ?_⟩, i64_eq (wrap64 _ (by omega)), rfl, rfl, rfl, trivial⟩))
    | (refine run_need rfl ?_ ?_)
    | (refine run_ret rfl ?_ ; first | refine rb ?_ | refine ri ?_ | refine rs2 ?_ ?_ | refine rs1 ?_)
    | (refine run_retx rfl ?_))
  · rw [hP, show ((ds.length : Int) - i).toNat = ((ds.length : Int) - (i + 1)).toNat + 1 by omega, idxF, if_pos h]
  · rw [hP, show ((ds.length : Int) - i).toNat = ((ds.length : Int) - (i + 1)).toNat + 1 by omega, idxF, if_neg h]
  · rw [hP, show ((ds.length : Int) - i).toNat = 0 by omega, idxF]
theorem conDep_ok (ps : List Pk) (hp : ps.length ≤ lim) (ds : List P2) (hl : ds.length ≤ lim) : FunOk PP W n_sl_ContainsFunc_Dep s_sl_ContainsFunc_Dep [eP2s ds, [.fn n_i_PlanOk_1 [] [ePks ps]]] [bo (decide (∃ d ∈ ds, lacksP ps d))] := by
  refine F_sl_ContainsFunc_Dep (run_fun ?_)
  (repeat' first
    | (refine run_ite rfl (fun h => ?_) (fun h => ?_) <;> (try simp (disch := omega) only [z0, z1, z2, z3, z4, z5, z6, z7, z8, z9, z10, z11, z12, z13, z14, z15, z16, z17, z18, z19, z20, z21, z22, z23, z24, z25, eqDs, eqD, z28, z29, z30, z31, z32, z33, z34, z35, z36, z37, Nat.reduceAdd, z39, z40, z41, wrap64] at h) <;> (try (exfalso; omega)))
    | (refine run_need rfl (by (try simp (disch := omega) only [z0, z1, z2, z3, z4, z5, z6, z7, z8, z9, z10, z11, z12, z13, z14, z15, z16, z17, z18, z19, z20, z21, z22, z23, z24, z25, eqDs, eqD, z28, z29, z30, z31, z32, z33, z34, z35, z36, z37, Nat.reduceAdd, z39, z40, z41, wrap64]); first | exact elp_m (by omega) (by omega) (fun _ => rfl) | exact eld_m (by omega) (by omega) (fun _ => rfl) | exact els_m (by omega) (by omega) (by omega) rfl | exact lsl_m (by omega) (fun _ => rfl) | exact app_nil_m (by omega) (fun _ => rfl) (fun _ => rfl) | exact app_m_one (by omega) (fun _ => rfl) rfl rfl | exact app_m_m (by omega) (fun _ => rfl) (fun _ => rfl)) ?_)
    | (refine run_need rfl (by first | decide | omega | (simp only [List.length_map]; omega)) ?_)
    | (refine run_call1 rfl (idxDep_ok ps hp ds hl) rfl ?_)
    | (refine run_need rfl ?_ ?_)
    | (refine run_ret rfl ?_ ; first | refine rb ?_ | refine ri ?_ | refine rs2 ?_ ?_ | refine rs1 ?_)
    | (refine run_retx rfl ?_))
  congr 1
  simp only [ge_iff_le, eq_iff_iff]
  exact idxF_mem _ _
end V
end Go.Proofs.Ytgialjcichiaoaa

/-
Plain proofs: the program's plan is ok just where the reference's is.
-/
namespace Go.Proofs.Ytgialjcichiaoaa
namespace V
open Classical
set_option maxRecDepth 100000
variable {W : Wld}

theorem ownerF_pos (ps : List Pk) (path : Int) : ∀ (n : Nat) (i : Int), 0 ≤ i → (0 ≤ ownerF ps path n i ↔ ∃ j, i ≤ j ∧ j < i + n ∧ hasP (ix ps j) path)
  | 0, i, h0 => by
    unfold ownerF
    constructor
    · intro h; omega
    · rintro ⟨j, h1, h2, _⟩; omega
  | n + 1, i, h0 => by
    unfold ownerF
    by_cases hp : hasP (ix ps i) path
    · rw [if_pos hp]
      exact ⟨fun _ => ⟨i, by omega, by omega, hp⟩, fun _ => h0⟩
    · rw [if_neg hp, ownerF_pos ps path n (i + 1) (by omega)]
      constructor
      · rintro ⟨j, h1, h2, h3⟩; exact ⟨j, by omega, by omega, h3⟩
      · rintro ⟨j, h1, h2, h3⟩
        by_cases hj : j = i
        · subst hj; exact absurd h3 hp
        · exact ⟨j, by omega, by omega, h3⟩
theorem owner_iff (ps : List Pk) (path i : Int) (hi : 0 ≤ i) : 0 ≤ ownerF ps path i.toNat 0 ↔ ∃ j, 0 ≤ j ∧ j < i ∧ hasP (ix ps j) path := by
  rw [ownerF_pos ps path i.toNat 0 (by omega)]
  constructor
  · rintro ⟨j, h1, h2, h3⟩; exact ⟨j, h1, by omega, h3⟩
  · rintro ⟨j, h1, h2, h3⟩; exact ⟨j, h1, by omega, h3⟩

theorem lastI_some (ps : List Pk) (name : Int) : ∀ n : Nat, 0 ≤ lastI ps name n → lastI ps name n < n ∧ (ix ps (lastI ps name n)).name = name
  | 0, h => by unfold lastI at h; omega
  | n + 1, h => by
    unfold lastI at h ⊢
    by_cases hp : (ix ps n).name = name
    · rw [if_pos hp]; exact ⟨by omega, hp⟩
    · rw [if_neg hp] at h ⊢
      have := lastI_some ps name n h
      exact ⟨by omega, this.2⟩
theorem lastI_ge (ps : List Pk) (name : Int) : ∀ (n : Nat) (j : Int), 0 ≤ j → j < n → (ix ps j).name = name → j ≤ lastI ps name n
  | 0, j, h0, h1, _ => by omega
  | n + 1, j, h0, h1, hj => by
    unfold lastI
    by_cases hp : (ix ps n).name = name
    · rw [if_pos hp]; omega
    · rw [if_neg hp]
      by_cases hn : j = n
      · subst hn; exact absurd hj hp
      · exact lastI_ge ps name n j h0 (by omega) hj

theorem oneM_lt {ps : List Pk} (h : OneM ps) : ∀ (n : Nat) (i j : Int), (j - i).toNat = n → 0 ≤ i → i < j → j < ps.length → (ix ps i).name < (ix ps j).name
  | 0, i, j, hn, h0, h1, h2 => by omega
  | n + 1, i, j, hn, h0, h1, h2 => by
    have hj := h j (by omega) h2
    by_cases hi : i = j - 1
    · subst hi; exact hj
    · have := oneM_lt h n i (j - 1) (by omega) h0 (by omega) (by omega)
      omega
theorem oneM_inj {ps : List Pk} (h : OneM ps) {i j : Int} (i0 : 0 ≤ i) (i1 : i < ps.length) (j0 : 0 ≤ j) (j1 : j < ps.length) (hn : (ix ps i).name = (ix ps j).name) : i = j := by
  rcases Int.lt_trichotomy i j with hl | hl | hl
  · have := oneM_lt h _ i j rfl i0 hl j1; omega
  · exact hl
  · have := oneM_lt h _ j i rfl j0 hl i1; omega

theorem meets_iff {ps : List Pk} (h : OneM ps) (d : P2) : MeetsM ps d ↔ ¬ lacksP ps d := by
  unfold MeetsM lacksP bearsP
  rw [Classical.not_not]
  constructor
  · rintro ⟨h1, h2⟩
    obtain ⟨h3, h4⟩ := lastI_some ps d.a ps.length h1
    unfold newP at h2
    rw [if_pos h1] at h2
    exact ⟨_, ix_mem h1 h3, h4, h2⟩
  · rintro ⟨p, hp, h1, h2⟩
    obtain ⟨j, j0, j1, rfl⟩ := mem_ix hp
    have h3 := lastI_ge ps d.a ps.length j j0 j1 h1
    have h4 : 0 ≤ newI ps d.a := by unfold newI; omega
    obtain ⟨h5, h6⟩ := lastI_some ps d.a ps.length h4
    have h7 : newI ps d.a = j := oneM_inj h h4 h5 j0 j1 (by rw [h1]; exact h6)
    unfold newP
    rw [if_pos h4, h7]
    exact ⟨by omega, h2⟩

theorem bxl_b {e : Env} {d s b : Nat} {k k' : Int} {bs : List Bool} (hs : e s = i64 k) (hb : e b = bs.map .bool) (hk : k = k') (h0 : 0 ≤ k') (h1 : k' < bs.length) : pstep (.bxl d s b 1 0 1) e = some (put e d [.bool (ix bs k')]) := by
  subst hk
  have h2 : k.toNat < bs.length := by omega
  simp only [pstep, hs, hb, List.length_map, Nat.mul_one, Nat.add_zero]
  rw [if_pos (by omega)]
  congr 2
  rw [List.drop_eq_getElem_cons (by simpa using h2)]
  simp [ix, h2]
theorem bxs_b {e : Env} {s b : Nat} {k k' : Int} {bs : List Bool} {t : Bool} (hs : e s = i64 k) (hb : e b = bs.map .bool) (hk : k = k') (h0 : 0 ≤ k') (h1 : k' < bs.length) : pstep (.bxs s b 1 0 (.c (.bool t))) e = some (put e b ((bs.set k'.toNat t).map .bool)) := by
  subst hk
  have h2 : k.toNat < bs.length := by omega
  have h3 : (Opd.c (.bool t)).get e = [.bool t] := rfl
  simp only [pstep, hs, hb, h3, List.length_map, Nat.mul_one, Nat.add_zero, List.length_singleton]
  rw [if_pos (by omega)]
  congr 2
  simp only [splice, List.length_singleton]
  rw [List.set_eq_take_append_cons_drop, if_pos h2]
  simp

/-- Which places are taken by the first packages. -/
def TakenBy (ps : List Pk) (i : Int) (bs : List Bool) : Prop := bs.length = 6 ∧ ∀ path : Int, 0 ≤ path → path < 6 → (ix bs path = true ↔ ∃ j, 0 ≤ j ∧ j < i ∧ hasP (ix ps j) path)
def OwnAt (ps : List Pk) (i : Int) : Prop := (0 < i → (ix ps (i - 1)).name ≠ (ix ps i).name) ∧ ¬ (∃ d ∈ (ix ps i).deps, lacksP ps d) ∧ FilesFree ps i

theorem own_one {ps : List Pk} (hp : PksOk ps) (h : Blw ps.length (fun i => 0 < i → (ix ps (i - 1)).name ≠ (ix ps i).name)) : OneM ps := by
  intro i h0 h1
  have h2 := (hp i (by omega) h1).2 (by omega)
  have h3 := h i (by omega) h1 (by omega)
  unfold lessM at h2
  omega
theorem planM_iff {ps : List Pk} (hp : PksOk ps) : PlanM ps ↔ Blw ps.length (OwnAt ps) := by
  constructor
  · rintro ⟨_, h1, h2⟩ i h0 hi
    refine ⟨fun hi0 => by have := h1 i (by omega) hi; omega, ?_, (h2 i h0 hi).2⟩
    rintro ⟨d, hd, hl⟩
    obtain ⟨k, k0, k1, rfl⟩ := mem_ix hd
    exact (meets_iff h1 _).1 ((h2 i h0 hi).1 k k0 k1) hl
  · intro h
    have h1 : OneM ps := own_one hp (fun i h0 hi => (h i h0 hi).1)
    exact ⟨hp, h1, fun i h0 hi => ⟨fun k k0 k1 => (meets_iff h1 _).2 (fun hl => (h i h0 hi).2.1 ⟨_, ix_mem k0 k1, hl⟩), (h i h0 hi).2.2⟩⟩

theorem files_lt {fs : List P2} (h : FilesOk fs) : ∀ (n : Nat) (i j : Int), (j - i).toNat = n → 0 ≤ i → i < j → j < fs.length → (ix fs i).a < (ix fs j).a
  | 0, i, j, hn, h0, h1, h2 => by omega
  | n + 1, i, j, hn, h0, h1, h2 => by
    have hj := (h.1 j (by omega) h2).2.2 (by omega)
    by_cases hi : i = j - 1
    · subst hi; exact hj
    · have := files_lt h n i (j - 1) (by omega) h0 (by omega) (by omega)
      omega

def TkIn (ps : List Pk) (i : Int) (fs : List P2) (k : Int) (cs : List Bool) : Prop := cs.length = 6 ∧ ∀ path : Int, 0 ≤ path → path < 6 → (ix cs path = true ↔ (∃ j, 0 ≤ j ∧ j < i ∧ hasP (ix ps j) path) ∨ ∃ k', 0 ≤ k' ∧ k' < k ∧ (ix fs k').a = path)
theorem taken_none (ps : List Pk) : TakenBy ps 0 (List.replicate 6 false) := by
  refine ⟨rfl, fun path p0 p1 => ?_⟩
  have : path = 0 ∨ path = 1 ∨ path = 2 ∨ path = 3 ∨ path = 4 ∨ path = 5 := by omega
  have : ix (List.replicate 6 false) path = false := by rcases this with rfl | rfl | rfl | rfl | rfl | rfl <;> rfl
  simp only [this, Bool.false_eq_true, false_iff]
  rintro ⟨j, h1, h2, _⟩
  omega
theorem tk_zero {ps : List Pk} {i : Int} {bs : List Bool} (h : TakenBy ps i bs) (fs : List P2) : TkIn ps i fs 0 bs :=
  ⟨h.1, fun path p0 p1 => by rw [h.2 path p0 p1]; exact ⟨.inl, fun h' => h'.elim id fun ⟨_, h1, h2, _⟩ => by omega⟩⟩
theorem ix_set {bs : List Bool} {a p : Int} {t : Bool} (a0 : 0 ≤ a) (a1 : a < bs.length) (p0 : 0 ≤ p) : ix (bs.set a.toNat t) p = if p = a then t else ix bs p := by
  have h2 : a.toNat < bs.length := by omega
  by_cases h : p = a
  · subst h; simp [ix, h2]
  · have : a.toNat ≠ p.toNat := by omega
    simp [ix, h, List.getElem?_set, this]
theorem tk_succ {ps : List Pk} {i k : Int} {fs : List P2} {cs : List Bool} (h : TkIn ps i fs k cs) (k0 : 0 ≤ k) (ha : 0 ≤ (ix fs k).a ∧ (ix fs k).a < 6) : TkIn ps i fs (k + 1) (cs.set (ix fs k).a.toNat true) := by
  refine ⟨by rw [List.length_set]; exact h.1, fun path p0 p1 => ?_⟩
  rw [ix_set ha.1 (by rw [h.1]; exact ha.2) p0]
  by_cases hp : path = (ix fs k).a
  · rw [if_pos hp]
    exact ⟨fun _ => .inr ⟨k, k0, by omega, hp.symm⟩, fun _ => rfl⟩
  · rw [if_neg hp, h.2 path p0 p1]
    constructor
    · rintro (h1 | ⟨k', h1, h2, h3⟩)
      · exact .inl h1
      · exact .inr ⟨k', h1, by omega, h3⟩
    · rintro (h1 | ⟨k', h1, h2, h3⟩)
      · exact .inl h1
      · by_cases hk : k' = k
        · subst hk; exact absurd h3.symm hp
        · exact .inr ⟨k', h1, by omega, h3⟩
theorem tk_end {ps : List Pk} {i k : Int} {cs : List Bool} (h : TkIn ps i (ix ps i).files k cs) (h0 : 0 ≤ i) (hk : k = (ix ps i).files.length) : TakenBy ps (i + 1) cs := by
  refine ⟨h.1, fun path p0 p1 => ?_⟩
  rw [h.2 path p0 p1]
  constructor
  · rintro (⟨j, h1, h2, h3⟩ | ⟨k', h1, h2, h3⟩)
    · exact ⟨j, h1, by omega, h3⟩
    · exact ⟨i, h0, by omega, k', h1, by omega, h3⟩
  · rintro ⟨j, h1, h2, h3⟩
    by_cases hj : j = i
    · subst hj
      obtain ⟨k', h4, h5, h6⟩ := h3
      exact .inr ⟨k', h4, by omega, h6⟩
    · exact .inl ⟨j, h1, by omega, h3⟩
theorem tk_own {ps : List Pk} {i k : Int} {cs : List Bool} (h : TkIn ps i (ix ps i).files k cs) (h0 : 0 ≤ i) (hF : FilesOk (ix ps i).files) (k0 : 0 ≤ k) (k1 : k < (ix ps i).files.length) :
    ix cs (ix (ix ps i).files k).a = true ↔ 0 ≤ ownerF ps (ix (ix ps i).files k).a i.toNat 0 := by
  have ha := (hF.1 k k0 k1).1
  rw [h.2 _ ha.1 (by omega), owner_iff ps _ i h0]
  constructor
  · rintro (h1 | ⟨k', h1, h2, h3⟩)
    · exact h1
    · have := files_lt hF _ k' k rfl h1 h2 k1
      omega
  · exact .inl

theorem iPlanOk_ok (ps : List Pk) (hs : SmPs ps) : FunOk PP W n_i_PlanOk s_i_PlanOk [ePks ps] [bo (decide (PlanM ps))] := by
  refine F_i_PlanOk (run_fun ?_)
  have hl := hs.1
  unfold lim at hl
  (repeat' first
    | (refine run_ite rfl (fun h => ?_) (fun h => ?_) <;> (try simp (disch := omega) only [z0, z1, z2, z3, z4, z5, z6, z7, z8, z9, z10, z11, z12, z13, z14, z15, z16, z17, z18, z19, z20, z21, z22, z23, z24, z25, eqDs, eqD, z28, z29, z30, z31, z32, z33, z34, z35, z36, z37, Nat.reduceAdd, z39, z40, z41, wrap64] at h) <;> (try (exfalso; omega)))
    | (refine run_need rfl (by (try simp (disch := omega) only [z0, z1, z2, z3, z4, z5, z6, z7, z8, z9, z10, z11, z12, z13, z14, z15, z16, z17, z18, z19, z20, z21, z22, z23, z24, z25, eqDs, eqD, z28, z29, z30, z31, z32, z33, z34, z35, z36, z37, Nat.reduceAdd, z39, z40, z41, wrap64]); first | exact elp_m (by omega) (by omega) (fun _ => rfl) | exact eld_m (by omega) (by omega) (fun _ => rfl) | exact els_m (by omega) (by omega) (by omega) rfl | exact lsl_m (by omega) (fun _ => rfl) | exact app_nil_m (by omega) (fun _ => rfl) (fun _ => rfl) | exact app_m_one (by omega) (fun _ => rfl) rfl rfl | exact app_m_m (by omega) (fun _ => rfl) (fun _ => rfl)) ?_)
    | (refine run_need rfl (by first | decide | omega | (simp only [List.length_map]; omega)) ?_)
    | (refine run_call1 rfl (iStoreOk_ok ps hs) rfl ?_)
    | (refine run_need rfl ?_ ?_)
    | (refine run_ret rfl ?_ ; first | refine rb ?_ | refine ri ?_ | refine rs2 ?_ ?_ | refine rs1 ?_)
    | (refine run_retx rfl ?_))
  · exact fD (fun h' => absurd h'.1 h)
  have hpk : PksOk ps := h
  clear h
  rw [planM_iff hpk]
  refine run_loop rfl (fun x : Int × List Bool => 0 ≤ x.1 ∧ x.1 ≤ ps.length ∧ Blw x.1 (OwnAt ps) ∧ TakenBy ps x.1 x.2) (fun x => [(13, .val (i64 x.1)), (11, .val (ePks ps)), (12, .val (i64 (ps.map ePk).length)), (3, .val (x.2.map .bool)), (1, .val (ePks ps))]) (fun x => (ps.length - x.1).toNat) (0, List.replicate 6 false) ⟨by omega, by omega, blw_zero _, taken_none ps⟩ ⟨rfl, rfl, rfl, rfl, rfl, trivial⟩ rfl ?_
  rintro ⟨i, bs⟩ e ⟨h0, hN, hP, hT⟩
  simp only at h0 hN hP hT
  (repeat' first
    | (refine run_ite rfl (fun h => ?_) (fun h => ?_) <;> (try simp (disch := omega) only [z0, z1, z2, z3, z4, z5, z6, z7, z8, z9, z10, z11, z12, z13, z14, z15, z16, z17, z18, z19, z20, z21, z22, z23, z24, z25, eqDs, eqD, z28, z29, z30, z31, z32, z33, z34, z35, z36, z37, Nat.reduceAdd, z39, z40, z41, wrap64] at h) <;> (try (exfalso; omega)))
    | (refine run_need rfl (by (try simp (disch := omega) only [z0, z1, z2, z3, z4, z5, z6, z7, z8, z9, z10, z11, z12, z13, z14, z15, z16, z17, z18, z19, z20, z21, z22, z23, z24, z25, eqDs, eqD, z28, z29, z30, z31, z32, z33, z34, z35, z36, z37, Nat.reduceAdd, z39, z40, z41, wrap64]); first | exact elp_m (by omega) (by omega) (fun _ => rfl) | exact eld_m (by omega) (by omega) (fun _ => rfl) | exact els_m (by omega) (by omega) (by omega) rfl | exact lsl_m (by omega) (fun _ => rfl) | exact app_nil_m (by omega) (fun _ => rfl) (fun _ => rfl) | exact app_m_one (by omega) (fun _ => rfl) rfl rfl | exact app_m_m (by omega) (fun _ => rfl) (fun _ => rfl)) ?_)
    | (refine run_need rfl (by first | decide | omega | (simp only [List.length_map]; omega)) ?_)
    | (refine run_calleq rfl (conDep_ok ps hs.1 (ix ps i).deps (smPs_ix hs h0 (by omega)).2) (by simp (disch := omega) only [z0, z1, z2, z3, z4, z5, z6, z7, z8, z9, z10, z11, z12, z13, z14, z15, z16, z17, z18, z19, z20, z21, z22, z23, z24, z25, eqDs, eqD, z28, z29, z30, z31, z32, z33, z34, z35, z36, z37, Nat.reduceAdd, z39, z40, z41, wrap64]) rfl ?_)
    | (refine run_need rfl ?_ ?_)
    | (refine run_ret rfl ?_ ; first | refine rb ?_ | refine ri ?_ | refine rs2 ?_ ?_ | refine rs1 ?_)
    | (refine run_retx rfl ?_))
  any_goals first | exact fD (fun h' => (h' i h0 (by assumption)).1 (by assumption) (by assumption)) | exact fD (fun h' => (h' i h0 (by assumption)).2.1 (by assumption)) | exact tD (blw_to hP (by omega))
  all_goals (
    have hi : i < ps.length := by assumption
    have hq : 0 < i → (ix ps (i - 1)).name ≠ (ix ps i).name := by first | exact fun _ => by assumption | exact fun h' => absurd h' (by assumption)
    have hd := h
    clear h
    have hF : FilesOk (ix ps i).files := (hpk i h0 hi).1.2.2.1
    have hfl := (smPs_ix hs h0 hi).1
    unfold lim at hfl
    have hpp : ∀ k : Int, 0 ≤ k → k < (ix ps i).files.length → 0 ≤ (ix (ix ps i).files k).a ∧ (ix (ix ps i).files k).a < 6 := fun k k0 k1 => by have := (hF.1 k k0 k1).1; omega
    refine run_loop rfl (fun x : Int × List Bool => 0 ≤ x.1 ∧ x.1 ≤ (ix ps i).files.length ∧ Blw x.1 (fun k => ¬ 0 ≤ ownerF ps (ix (ix ps i).files k).a i.toNat 0) ∧ TkIn ps i (ix ps i).files x.1 x.2) (fun x => [(40, .val (i64 x.1)), (38, .val (eP2s (ix ps i).files)), (39, .val (i64 ((ix ps i).files.map eP2).length)), (13, .val (i64 i)), (11, .val (ePks ps)), (12, .val (i64 (ps.map ePk).length)), (3, .val (x.2.map .bool)), (1, .val (ePks ps))]) (fun x => ((ix ps i).files.length - x.1).toNat) (0, bs) ⟨by omega, by omega, blw_zero _, tk_zero hT _⟩ ⟨rfl, by rw [cL_Pk_2]; rfl, by rw [cL_Pk_2]; rfl, rfl, rfl, rfl, rfl, rfl, trivial⟩ rfl ?_
    rintro ⟨k, cs⟩ e ⟨k0, kN, kO, kT⟩
    simp only at k0 kN kO kT
    have kl := kT.1
    (repeat' first
    | (refine run_ite rfl (fun h => ?_) (fun h => ?_) <;> (try simp (disch := omega) only [z0, z1, z2, z3, z4, z5, z6, z7, z8, z9, z10, z11, z12, z13, z14, z15, z16, z17, z18, z19, z20, z21, z22, z23, z24, z25, eqDs, eqD, z28, z29, z30, z31, z32, z33, z34, z35, z36, z37, Nat.reduceAdd, z39, z40, z41, wrap64] at h) <;> (try (exfalso; omega)))
    | (refine run_need rfl (by (try simp (disch := omega) only [z0, z1, z2, z3, z4, z5, z6, z7, z8, z9, z10, z11, z12, z13, z14, z15, z16, z17, z18, z19, z20, z21, z22, z23, z24, z25, eqDs, eqD, z28, z29, z30, z31, z32, z33, z34, z35, z36, z37, Nat.reduceAdd, z39, z40, z41, wrap64]); first | exact elp_m (by omega) (by omega) (fun _ => rfl) | exact eld_m (by omega) (by omega) (fun _ => rfl) | exact els_m (by omega) (by omega) (by omega) rfl | exact lsl_m (by omega) (fun _ => rfl) | exact app_nil_m (by omega) (fun _ => rfl) (fun _ => rfl) | exact app_m_one (by omega) (fun _ => rfl) rfl rfl | exact app_m_m (by omega) (fun _ => rfl) (fun _ => rfl)) ?_)
    | (refine run_need rfl (by first | decide | omega | (simp only [List.length_map]; omega)) ?_)
    | (refine run_need rfl (by simp (disch := omega) only [z0, z1, z2, z3, z4, z5, z6, z7, z8, z9, z10, z11, z12, z13, z14, z15, z16, z17, z18, z19, z20, z21, z22, z23, z24, z25, eqDs, eqD, z28, z29, z30, z31, z32, z33, z34, z35, z36, z37, Nat.reduceAdd, z39, z40, z41, wrap64]; have := hpp k k0 (by assumption); omega) ?_)
    | (refine run_fb rfl (bxl_b (bs := cs) (k' := (ix (ix ps i).files k).a) rfl rfl (by simp only [z0, z1, z2, z3, z4, z5, z6, z7, z8, z9, z10, z11, z12, z13, z14, z15, z16, z17, z18, z19, z20, z21, z22, z23, z24, z25, eqDs, eqD, z28, z29, z30, z31, z32, z33, z34, z35, z36, z37, Nat.reduceAdd, z39, z40, z41]) (hpp k k0 (by assumption)).1 (by have := (hpp k k0 (by assumption)).2; omega)) ?_)
    | (refine run_fb rfl (bxs_b (bs := cs) (k' := (ix (ix ps i).files k).a) rfl rfl (by simp only [z0, z1, z2, z3, z4, z5, z6, z7, z8, z9, z10, z11, z12, z13, z14, z15, z16, z17, z18, z19, z20, z21, z22, z23, z24, z25, eqDs, eqD, z28, z29, z30, z31, z32, z33, z34, z35, z36, z37, Nat.reduceAdd, z39, z40, z41]) (hpp k k0 (by assumption)).1 (by have := (hpp k k0 (by assumption)).2; omega)) ?_)
    | (refine run_next rfl (Exists.intro (k + 1, cs.set (ix (ix ps i).files k).a.toNat true) ⟨by first | omega | (dsimp only; omega), ⟨by first | omega | (dsimp only; omega), by first | omega | (dsimp only; omega), blw_succ kO ?_, tk_succ kT k0 (hpp k k0 (by assumption))⟩, i64_eq (wrap64 _ (by first | omega | (dsimp only; omega))), rfl, rfl, rfl, rfl, rfl, rfl, rfl, trivial⟩))
    | (refine run_next rfl (Exists.intro (i + 1, cs) ⟨by first | omega | (dsimp only; omega), ⟨by first | omega | (dsimp only; omega), by first | omega | (dsimp only; omega), blw_succ hP ⟨hq, hd, blw_to kO (by first | omega | (dsimp only; omega))⟩, tk_end kT h0 (by omega)⟩, i64_eq (wrap64 _ (by first | omega | (dsimp only; omega))), rfl, rfl, rfl, rfl, trivial⟩))
    | (refine run_need rfl ?_ ?_)
    | (refine run_ret rfl ?_ ; first | refine rb ?_ | refine ri ?_ | refine rs2 ?_ ?_ | refine rs1 ?_)
    | (refine run_retx rfl ?_))
    · exact fD (fun h' => (h' i h0 hi).2.2 k k0 (by assumption) ((tk_own kT h0 hF k0 (by assumption)).1 h))
    · exact fun h' => by have := (tk_own kT h0 hF k0 (by assumption)).2 h'; rw [h] at this; cases this
  )
end V
end Go.Proofs.Ytgialjcichiaoaa

/-
Plain proofs: what slices.Repeat does with one number, six times.
-/
namespace Go.Proofs.Ytgialjcichiaoaa
open Go.RowKit
set_option maxRecDepth 100000
set_option maxHeartbeats 1600000
theorem walkMul (w : World) : Calls Try.prog 153 #[.int .u64 1, .int .u64 6] w fun e w' => e = .returned (.tuple #[.int .u64 0, .int .u64 6]) ∧ w' = w := by
  go_enter Try.func153, Try.ntmps153
  go_wp2
  refine ⟨rfl, _, results_tmp2 (by kernel_rfl : Try.f153.results = #[.tmp 4, .tmp 5]) _ _ _, ?_⟩
  exact ⟨by kernel_rfl, rfl⟩
def repRow (n : Nat) : Array Value := ((List.replicate n (Value.int .i64 (-1))) ++ List.replicate (6 - n) (Value.int .i64 0)).toArray
def bw (w : World) (n d : Nat) : World := { w with heap := w.heap.push (.cells (repRow n) 3), drawn := d }
theorem rep_make (w : World) : (Instr.makeSlice 24 (.int .i64 6) (.int .i64 6)).run Try.prog w = .ok (.slice (some ⟨w.heap.size, 0, none⟩) 6 6) (bw w 0 w.drawn) := by
  have h1 : (Try.prog.info? 3).map (·.size) = some 1 := by kernel_rfl
  have h2 : (Try.prog.info? 3).map (·.bytes) = some 8 := by kernel_rfl
  have h3 : (Try.prog.info? 3).bind (·.zero) = some (.int .i64 0) := by kernel_rfl
  cases hi : Try.prog.info? 3 with
  | none => rw [hi] at h1; cases h1
  | some i =>
    rw [hi] at h1 h2 h3
    simp only [Option.map_some, Option.some.injEq, Option.bind_some] at h1 h2 h3
    have h := run_make (P := Try.prog) w 24 3 i (.int .i64 0) (by kernel_rfl) hi h3 .i64 .i64 6 6 (by decide) (by decide) (by rw [h2]; decide) (by decide)
    rw [h1] at h
    have hmc : madeCells (Value.int .i64 0).cells ((6 : Int).toNat * 1) = repRow 0 := by kernel_rfl
    rw [hmc] at h
    exact h
theorem bw_cell (w : World) (n d j : Nat) : (bw w n d).cell? ⟨w.heap.size, j, none⟩ = (repRow n)[j]? := by
  simp [bw, World.cell?]
theorem bw_old (w : World) (n d g o : Nat) (h : g < w.heap.size) : (bw w n d).cell? ⟨g, o, none⟩ = w.cell? ⟨g, o, none⟩ := by
  have h2 : (w.heap.push (.cells (repRow n) 3))[g]? = w.heap[g]? := by rw [Array.getElem?_push_lt h, Array.getElem?_eq_getElem h]
  simp only [bw, World.cell?, h2]
theorem bw_frozen (w : World) (n d j : Nat) : (bw w n d).frozen? ⟨w.heap.size, j, none⟩ = false := by
  simp [bw, World.frozen?]
theorem push_modify {α : Type} (a : Array α) (x : α) (f : α → α) : (a.push x).modify a.size f = a.push (f x) := by
  refine Array.ext_getElem? (fun i => ?_)
  rw [Array.getElem?_modify]
  by_cases h : a.size = i
  · subst h; simp
  · rw [if_neg h, Array.getElem?_push, Array.getElem?_push]
    split
    · omega
    · rfl
theorem bw_set (w : World) (n m d j : Nat) (v : Value) (h : (repRow n).setIfInBounds j v = repRow m) : (bw w n d).setCell ⟨w.heap.size, j, none⟩ v = bw w m d := by
  unfold bw World.setCell
  simp only [push_modify]
  rw [← h]
  rfl
theorem rep_copy0 (w : World) (g o cap : Nat) (hcell : w.cell? ⟨g, o, none⟩ = some (.int .i64 (-1))) (d : Nat) : (Builtin.copy_ #[24, 24] 3 #[.slice (some ⟨w.heap.size, 0, none⟩) 6 6, .slice (some ⟨g, o, none⟩) 1 cap]).run Try.prog (bw w 0 d) = .ok (.int .i64 1) (bw w 1 d) := by
  have hg : g < w.heap.size := by
    rcases Nat.lt_or_ge g w.heap.size with h | h
    · exact h
    · simp [World.cell?, Array.getElem?_eq_none h] at hcell
  have h := run_copy_cells (P := Try.prog) (bw w 0 d) 24 24 3 3 w.heap.size 0 6 6 ⟨g, o, none⟩ 1 cap [.int .i64 (-1)] (by kernel_rfl) (by kernel_rfl) rfl
    (fun j v hj => by
      cases j with
      | zero =>
        simp only [List.getElem?_cons_zero, Option.some.injEq] at hj
        subst hj
        show (bw w 0 d).cell? ⟨g, o, none⟩ = _
        rw [bw_old w 0 d g o hg, hcell]
      | succ j => simp at hj)
    (fun j hj => by
      have : j = 0 := by simpa using hj
      subst this
      rw [bw_cell]; rfl)
    (fun j hj => bw_frozen w 0 d _) (fun v hv => by rw [List.mem_singleton.1 hv]; rfl)
  rw [h]
  show Result.ok (goInt 1) ((bw w 0 d).setCell ⟨w.heap.size, 0, none⟩ (.int .i64 (-1))) = _
  rw [bw_set w 0 1 d 0 _ rfl]
  rfl
theorem rep_copy (w : World) (n d c : Nat) (hn : (n = 1 ∧ c = 1) ∨ (n = 2 ∧ c = 2) ∨ (n = 4 ∧ c = 2)) : (Builtin.copy_ #[24, 24] 3 #[.slice (some ⟨w.heap.size, n, none⟩) (6 - n) (6 - n), .slice (some ⟨w.heap.size, 0, none⟩) n 6]).run Try.prog (bw w n d) = .ok (.int .i64 c) (bw w (n + c) d) := by
  have h := run_copy_cells (P := Try.prog) (bw w n d) 24 24 3 3 w.heap.size n (6 - n) (6 - n) ⟨w.heap.size, 0, none⟩ n 6 (List.replicate c (.int .i64 (-1))) (by kernel_rfl) (by kernel_rfl)
    (by rcases hn with ⟨rfl, rfl⟩ | ⟨rfl, rfl⟩ | ⟨rfl, rfl⟩ <;> rfl)
    (fun j v hj => by
      have hjc : j < c := by
        have := (List.getElem?_eq_some_iff.1 hj).1
        simpa using this
      have hv : v = .int .i64 (-1) := by
        have := List.mem_of_getElem? hj
        exact List.eq_of_mem_replicate this
      subst hv
      have ha : (⟨w.heap.size, 0, none⟩ : Addr).add j = ⟨w.heap.size, j, none⟩ := by
        show (⟨w.heap.size, 0, none⟩ : Addr).add j = _
        unfold Addr.add
        by_cases hj0 : j = 0
        · simp [hj0]
        · simp [hj0]
      rw [ha, bw_cell]
      have hj2 : j = 0 ∨ j = 1 := by omega
      rcases hn with ⟨rfl, rfl⟩ | ⟨rfl, rfl⟩ | ⟨rfl, rfl⟩ <;> rcases hj2 with rfl | rfl <;> first | rfl | omega)
    (fun j hj => by
      have hj' : j < c := by simpa using hj
      rw [bw_cell]
      have hj2 : j = 0 ∨ j = 1 := by omega
      rcases hn with ⟨rfl, rfl⟩ | ⟨rfl, rfl⟩ | ⟨rfl, rfl⟩ <;> rcases hj2 with rfl | rfl <;> first | rfl | omega)
    (fun j hj => bw_frozen w n d _) (fun v hv => by rw [List.eq_of_mem_replicate hv]; rfl)
  rw [h]
  rcases hn with ⟨rfl, rfl⟩ | ⟨rfl, rfl⟩ | ⟨rfl, rfl⟩
  · show Result.ok (goInt 1) ((bw w 1 d).setCell ⟨w.heap.size, 1, none⟩ (.int .i64 (-1))) = _
    rw [bw_set w 1 2 d 1 _ rfl]
    rfl
  · show Result.ok (goInt 2) (((bw w 2 d).setCell ⟨w.heap.size, 2, none⟩ (.int .i64 (-1))).setCell ⟨w.heap.size, 3, none⟩ (.int .i64 (-1))) = _
    rw [bw_set w 2 3 d 2 _ rfl, bw_set w 3 4 d 3 _ rfl]
    rfl
  · show Result.ok (goInt 2) (((bw w 4 d).setCell ⟨w.heap.size, 4, none⟩ (.int .i64 (-1))).setCell ⟨w.heap.size, 5, none⟩ (.int .i64 (-1))) = _
    rw [bw_set w 4 5 d 4 _ rfl, bw_set w 5 6 d 5 _ rfl]
    rfl
theorem bw_drew (w : World) (n d : Nat) : (bw w n d).drew = bw w n (d + 1) := rfl
theorem walkRep (w : World) (g o cap : Nat) (hcell : w.cell? ⟨g, o, none⟩ = some (.int .i64 (-1))) :
    Calls Try.prog 98 #[.slice (some ⟨g, o, none⟩) 1 cap, .int .i64 6] w fun e wr => e = .returned (.slice (some ⟨w.heap.size, 0, none⟩) 6 6) ∧ ∃ d, wr = bw w 6 d := by
  have hm := rep_make w
  have hc0 := rep_copy0 w g o cap hcell w.drawn
  go_enter Try.func98, Try.ntmps98
  go_wp2_with (go_at_call 153; refine (walkMul _).mono ?_; rintro e w' ⟨rfl, rfl⟩)
  go_loopw [8] (fun i wr => ∃ d : Nat, (i = .int .i64 1 ∧ wr = bw w' 1 d) ∨ (i = .int .i64 2 ∧ wr = bw w' 2 d) ∨ (i = .int .i64 4 ∧ wr = bw w' 4 d) ∨ (i = .int .i64 6 ∧ wr = bw w' 6 d)) (fun i _ => 6 - (intOf i).toNat)
  · exact ⟨_, .inl ⟨rfl, rfl⟩⟩
  obtain ⟨d, hrel⟩ := hrel
  clear hm hc0
  rcases hrel with ⟨rfl, rfl⟩ | ⟨rfl, rfl⟩ | ⟨rfl, rfl⟩ | ⟨rfl, rfl⟩
  · have hdr := bw_drew w' 1 d
    have hc : (Builtin.copy_ #[24, 24] 3 #[.slice (some ⟨w'.heap.size, 1, none⟩) 5 5, .slice (some ⟨w'.heap.size, 0, none⟩) 1 6]).run Try.prog (bw w' 1 (d + 1)) = .ok (.int .i64 1) (bw w' 2 (d + 1)) := rep_copy w' 1 (d + 1) 1 (.inl ⟨rfl, rfl⟩)
    go_wp2
    go_region
    go_wp2
    go_roundw
    case rel => exact ⟨d + 1, .inr (.inl ⟨rfl, rfl⟩)⟩
    case measure => simp [intOf]
  · have hdr := bw_drew w' 2 d
    have hc : (Builtin.copy_ #[24, 24] 3 #[.slice (some ⟨w'.heap.size, 2, none⟩) 4 4, .slice (some ⟨w'.heap.size, 0, none⟩) 2 6]).run Try.prog (bw w' 2 (d + 1)) = .ok (.int .i64 2) (bw w' 4 (d + 1)) := rep_copy w' 2 (d + 1) 2 (.inr (.inl ⟨rfl, rfl⟩))
    go_wp2
    go_region
    go_wp2
    go_roundw
    case rel => exact ⟨d + 1, .inr (.inr (.inl ⟨rfl, rfl⟩))⟩
    case measure => simp [intOf]
  · have hdr := bw_drew w' 4 d
    have hc : (Builtin.copy_ #[24, 24] 3 #[.slice (some ⟨w'.heap.size, 4, none⟩) 2 2, .slice (some ⟨w'.heap.size, 0, none⟩) 4 6]).run Try.prog (bw w' 4 (d + 1)) = .ok (.int .i64 2) (bw w' 6 (d + 1)) := rep_copy w' 4 (d + 1) 2 (.inr (.inr ⟨rfl, rfl⟩))
    go_wp2
    go_region
    go_wp2
    go_roundw
    case rel => exact ⟨d + 1, .inr (.inr (.inr ⟨rfl, rfl⟩))⟩
    case measure => simp [intOf]
  · go_wp2
    go_ret
    exact ⟨rfl, d, rfl⟩

namespace V
variable {W : Wld}
def repOwn (w : World) : Own := fun g => if g = w.heap.size then some ⟨(0, 1), [], some 0⟩ else none
theorem rep_heap (w : World) (d g : Nat) (h : g < w.heap.size) : (bw w 6 d).heap[g]? = w.heap[g]? := by
  show (w.heap.push _)[g]? = _
  rw [Array.getElem?_push_lt h, Array.getElem?_eq_getElem h]
theorem rep_new (w : World) (d : Nat) : (bw w 6 d).heap[w.heap.size]? = some (Obj.cells (repRow 6) 3 (0, 0)) := by
  show (w.heap.push _)[w.heap.size]? = _
  simp
theorem rep_size (w : World) (d : Nat) : (bw w 6 d).heap.size = w.heap.size + 1 := by
  show (w.heap.push _).size = _
  simp
theorem repeatI_ok : FunOk PP W n_sl_Repeat_int s_sl_Repeat_int [eIs [-1], i64 6] [eIs [-1, -1, -1, -1, -1, -1]] := by
  refine ⟨⟨Try.f98, Try.func98, by kernel_rfl, by kernel_rfl⟩, fun w own cx vals hP hw hlow hvl hil hinv => ?_⟩
  match vals, hvl with
  | [v0, v1], _ =>
    obtain ⟨vs0, e0, l0, a0⟩ := hinv (0, .v false [.b]) (List.mem_cons_self ..)
    obtain ⟨vs1, e1, l1, a1⟩ := hinv (1, .v false [.s]) (List.mem_cons_of_mem _ (List.mem_cons_self ..))
    have hl0 := l0 rfl
    have hl1 := l1 rfl
    match vs0, hl0, vs1, hl1 with
    | [u0], _, [u1], _ =>
      have h0 : v0 = u0 := e0
      have h1 : v1 = u1 := e1
      subst h0; subst h1
      obtain ⟨_, hr⟩ := a0.2.2 0 .b (.sl [[.int .i64 (-1)]]) v0 rfl rfl rfl
      obtain ⟨_, hs⟩ := a1.2.2 0 .s (.int .i64 6) v1 rfl rfl rfl
      have hv1 : v1 = .int .i64 6 := by cases hs; rfl
      subst hv1
      have hr : Rep w (BS cx own) (.sl [[.int .i64 (-1)]]) v0 := hr
      cases hr with
      | scal h => cases h
      | sl xs g off sz cap vs q1 q2 q3 q4 q5 =>
        have hsz : sz = 1 := (q2 _ (List.mem_singleton.2 rfl)).symm
        subst hsz
        have c0 := q3 0 _ 0 _ rfl rfl
        have c1 := q5 0 _ 0 _ rfl rfl
        have hv' : ∀ u, Rep w (BS cx own) (.int .i64 (-1)) u → u = .int .i64 (-1) := fun u h => by
          cases h with
          | scal h => cases h; rfl
        have hv := hv' _ c1
        rw [hv] at c0
        refine (walkRep w g off cap c0).mono ?_
        rintro e wr ⟨rfl, d, rfl⟩
        have hN : cx.N w.heap.size := (hw.n _).2 (.inl (Nat.le_refl _))
        have hro : ∀ g i, repOwn w g = some i → g = w.heap.size ∧ i = ⟨(0, 1), [], some 0⟩ := fun g i h => by
          unfold repOwn at h
          split at h
          · rename_i hg
            simp only [Option.some.injEq] at h
            exact ⟨hg, h.symm⟩
          · cases h
        refine ⟨_, repOwn w, rfl, ⟨⟨rfl, rfl, rfl, by rw [rep_size]; omega, fun g hg _ => rep_heap w d g hg, fun g o hg _ => bw_old w 6 d g o hg, fun g cur T h => ?_⟩, fun g i h => ?_, hw.n, hw.s1, hw.s2, fun g o hg hc => ?_, fun g g' i j h h' _ _ => ?_⟩, ?_⟩
        · have hg : g < w.heap.size := (Array.getElem?_eq_some_iff.1 h).1
          exact ⟨cur, by rw [rep_heap w d g hg]; exact h, rfl⟩
        · obtain ⟨rfl, _⟩ := hro g i h
          exact ⟨by rw [rep_size]; omega, hN⟩
        · obtain ⟨i, b, h1, _⟩ := hc
          obtain ⟨rfl, _⟩ := hro g i h1
          omega
        · rw [(hro g i h).1, (hro g' j h').1]
        · refine ⟨rfl, [.slice (some ⟨w.heap.size, 0, none⟩) 6 6], rfl, rfl, fun k p hp => ?_, fun i b hb => by simp [boxPs] at hb⟩
          cases k with
          | succ k => simp at hp
          | zero =>
            have hp : PSh.v false [.o true ⟨1, false⟩] = p := by simpa using hp
            subst hp
            refine ⟨[.slice (some ⟨w.heap.size, 0, none⟩) 6 6], rfl, fun _ => rfl, rfl, rfl, fun i c dd v hc hd hv => ?_⟩
            cases i with
            | succ i => simp at hc
            | zero =>
              simp only [List.getElem?_cons_zero, Option.some.injEq] at hc hv
              subst hc; subst hv
              have hd : some (D.sl [[.int .i64 (-1)], [.int .i64 (-1)], [.int .i64 (-1)], [.int .i64 (-1)], [.int .i64 (-1)], [.int .i64 (-1)]]) = some dd := hd
              simp only [Option.some.injEq] at hd
              subst hd
              refine ⟨⟨fun c h => (by cases h), fun c h => (by cases h)⟩, ?_⟩
              have key : ∀ (i : Nat) (x : List D) (j : Nat) (d : D), ([[.int .i64 (-1)], [.int .i64 (-1)], [.int .i64 (-1)], [.int .i64 (-1)], [.int .i64 (-1)], [.int .i64 (-1)]] : List (List D))[i]? = some x → x[j]? = some d → i < 6 ∧ j = 0 ∧ d = .int .i64 (-1) := by
                intro i x j d hx hd
                have hi : i < 6 := (List.getElem?_eq_some_iff.1 hx).1
                have hx1 : x = [.int .i64 (-1)] := by
                  have := List.mem_of_getElem? hx
                  simpa using this
                subst hx1
                cases j with
                | zero => simp only [List.getElem?_cons_zero, Option.some.injEq] at hd; exact ⟨hi, rfl, hd.symm⟩
                | succ j => simp at hd
              exact OwnRep.sl (f := ⟨1, false⟩) (m := true) _ w.heap.size 6 (repRow 6) 3 (0, 0) (fun _ _ => .int .i64 (-1)) (rep_new w d) (by unfold repOwn; rw [if_pos rfl]; rfl) (by decide) (by decide) (by decide)
                (fun o _ => by simp) (by decide) (fun x hx => by simp at hx; rw [hx]; rfl)
                (fun i x j d hx hd => by
                  obtain ⟨hi, rfl, rfl⟩ := key i x j d hx hd
                  have : i = 0 ∨ i = 1 ∨ i = 2 ∨ i = 3 ∨ i = 4 ∨ i = 5 := by omega
                  rcases this with rfl | rfl | rfl | rfl | rfl | rfl <;> rfl)
                (fun i x j d hx hd => by
                  obtain ⟨hi, rfl, rfl⟩ := key i x j d hx hd
                  exact .scal (.int .i64 _))
end V
end Go.Proofs.Ytgialjcichiaoaa

/-
Plain proofs: what functions of the library do.
-/
namespace Go.Proofs.Ytgialjcichiaoaa
namespace V
set_option maxRecDepth 100000
variable {W : Wld}

theorem clone_pwp {Φ : Ask} {α : Type} {enc : α → List D} (l : List α) (hl : l.length ≤ lim) (sz : Nat) (hz : ∀ x, (enc x).length = sz) (hs : ∀ x, (enc x).all isScal = true) (z : List D) :
    pwp Φ (.ss [.mv 2 (.c (.sl []))]) (fun x e => x = .normal ∧ ∃ e1 xs, PRel Φ (.mv 3 (.t 0)) e e1 ∧ e1 3 = [.sl xs] ∧ ∀ b, (b = true → xs = []) →
      pwp Φ (.cond (.t 4) (.seq (.ss [.mv 2 (.c (.sl []))]) (.ret [2])) .skip) (PX.then (pwp Φ (.seq (.ss [.lit 5 0 z [], .mv 6 (.t 0), .app 7 sz true (.t 5) (.t 6), .mv 2 (.t 7)]) (.ret [2])) (RetIs [[.sl (l.map enc)]])) (RetIs [[.sl (l.map enc)]])) (put e1 4 [.bool b])) (envL [[.sl (l.map enc)]]) := by
  refine ⟨_, ⟨_, rfl, rfl⟩, rfl, _, l.map enc, rfl, rfl, fun b hb => ?_⟩
  cases b with
  | true =>
    refine .inl ⟨rfl, _, ⟨_, rfl, rfl⟩, ?_⟩
    show ([[D.sl []]] : List (List D)) = [[.sl (l.map enc)]]
    rw [hb rfl]
  | false =>
    have happ : ∀ e : Env, e 5 = [.sl []] → e 6 = [.sl (l.map enc)] → pstep (.app 7 sz true (.t 5) (.t 6)) e = some (put e 7 [.sl (l.map enc)]) := fun e h5 h6 => by
      have h5' : (Opd.t 5).get e = [.sl []] := h5
      have h6' : (Opd.t 6).get e = [.sl (l.map enc)] := h6
      simp only [pstep, h5', h6', List.nil_append]
      refine if_pos ⟨by simpa using hl, fun x hx => ?_, fun _ y hy => ?_⟩
      · obtain ⟨w, _, rfl⟩ := List.mem_map.1 hx
        exact hz w
      · obtain ⟨w, _, rfl⟩ := List.mem_map.1 hy
        exact hs w
    exact .inr ⟨rfl, _, ⟨_, rfl, _, rfl, _, happ _ rfl rfl, _, rfl, rfl⟩, rfl⟩

def k_sl_Clone_int : Cfg := { tt := tt, sigs := sigs, mv := false, bm := [5], eqt := eqL, keep := [true, false, true, false, true, false, false, false], n := 8, pin := [] }
theorem c_sl_Clone_int : cIsNil k_sl_Clone_int Try.f125 s_sl_Clone_int = some (.ss [.mv 2 (.c (.sl []))], .mv 3 (.t 0), 3, 4, .cond (.t 4) (.seq (.ss [.mv 2 (.c (.sl []))]) (.ret [2])) .skip, .seq (.ss [.lit 5 0 [.int .i64 0] [], .mv 6 (.t 0), .app 7 1 true (.t 5) (.t 6), .mv 2 (.t 7)]) (.ret [2])) := by kernel_rfl
theorem cloneI_ok (l : List Int) (hl : l.length ≤ lim) : FunOk PP W n_sl_Clone_int s_sl_Clone_int [eIs l] [eIs l] := by
  refine cIsNil_ok (C := k_sl_Clone_int) (cfg_ok rfl) (eq_ok rfl rfl) mixed Try.func125 (by kernel_rfl) (by kernel_rfl) c_sl_Clone_int ?_
  exact clone_pwp (enc := i64) l hl 1 (fun _ => rfl) (fun _ => rfl) [.int .i64 0]

def k_sl_Clone_File : Cfg := { tt := tt, sigs := sigs, mv := false, bm := [5], eqt := eqL, keep := [true, false, true, false, true, false, false, false], n := 8, pin := [] }
theorem c_sl_Clone_File : cIsNil k_sl_Clone_File Try.f184 s_sl_Clone_File = some (.ss [.mv 2 (.c (.sl []))], .mv 3 (.t 0), 3, 4, .cond (.t 4) (.seq (.ss [.mv 2 (.c (.sl []))]) (.ret [2])) .skip, .seq (.ss [.lit 5 0 [.int .i64 0, .int .i64 0] [], .mv 6 (.t 0), .app 7 2 true (.t 5) (.t 6), .mv 2 (.t 7)]) (.ret [2])) := by kernel_rfl
theorem cloneF_ok (l : List P2) (hl : l.length ≤ lim) : FunOk PP W n_sl_Clone_File s_sl_Clone_File [eP2s l] [eP2s l] := by
  refine cIsNil_ok (C := k_sl_Clone_File) (cfg_ok rfl) (eq_ok rfl rfl) mixed Try.func184 (by kernel_rfl) (by kernel_rfl) c_sl_Clone_File ?_
  exact clone_pwp (enc := eP2) l hl 2 (fun _ => rfl) (fun _ => rfl) [.int .i64 0, .int .i64 0]

def k_sl_Clone_Dep : Cfg := { tt := tt, sigs := sigs, mv := false, bm := [5], eqt := eqL, keep := [true, false, true, false, true, false, false, false], n := 8, pin := [] }
theorem c_sl_Clone_Dep : cIsNil k_sl_Clone_Dep Try.f185 s_sl_Clone_Dep = some (.ss [.mv 2 (.c (.sl []))], .mv 3 (.t 0), 3, 4, .cond (.t 4) (.seq (.ss [.mv 2 (.c (.sl []))]) (.ret [2])) .skip, .seq (.ss [.lit 5 0 [.int .i64 0, .int .i64 0] [], .mv 6 (.t 0), .app 7 2 true (.t 5) (.t 6), .mv 2 (.t 7)]) (.ret [2])) := by kernel_rfl
theorem cloneD_ok (l : List P2) (hl : l.length ≤ lim) : FunOk PP W n_sl_Clone_Dep s_sl_Clone_Dep [eP2s l] [eP2s l] := by
  refine cIsNil_ok (C := k_sl_Clone_Dep) (cfg_ok rfl) (eq_ok rfl rfl) mixed Try.func185 (by kernel_rfl) (by kernel_rfl) c_sl_Clone_Dep ?_
  exact clone_pwp (enc := eP2) l hl 2 (fun _ => rfl) (fun _ => rfl) [.int .i64 0, .int .i64 0]

def k_sl_Clip_Step : Cfg := { tt := tt, sigs := sigs, mv := false, bm := [], eqt := eqL, keep := [true, false, true, false, false, false, false, false, false], n := 9, pin := [] }
theorem c_sl_Clip_Step : cIsClip k_sl_Clip_Step Try.f113 s_sl_Clip_Step = some (.ss [.mv 2 (.c (.sl []))], [.mv 3 (.t 0), .mv 4 (.t 0), .len 5 (.t 4), .mv 6 (.t 0), .len 7 (.t 6)], 3, 5, 7, 8, [.mv 2 (.t 8)], .ret [2]) := by kernel_rfl
theorem clip_pwp {Φ : Ask} (xs : List (List D)) :
    pwp Φ (.ss [.mv 2 (.c (.sl []))]) (fun x e => x = .normal ∧ ∃ e1 ys, PRels Φ [.mv 3 (.t 0), .mv 4 (.t 0), .len 5 (.t 4), .mv 6 (.t 0), .len 7 (.t 6)] e e1 ∧ e1 3 = [.sl ys] ∧ e1 5 = [.int .i64 ys.length] ∧ e1 7 = [.int .i64 ys.length] ∧ ∃ e3, PRels Φ [.mv 2 (.t 8)] (put e1 8 [.sl ys]) e3 ∧ pwp Φ (.ret [2]) (RetIs [[.sl xs]]) e3) (envL [[.sl xs]]) :=
  ⟨_, ⟨_, rfl, rfl⟩, rfl, _, xs, ⟨_, rfl, _, rfl, _, rfl, _, rfl, _, rfl, rfl⟩, rfl, rfl, rfl, _, ⟨_, rfl, rfl⟩, rfl⟩
theorem clipS_ok (l : List Stp) : FunOk PP W n_sl_Clip_Step s_sl_Clip_Step [eSts l] [eSts l] :=
  cIsClip_ok (C := k_sl_Clip_Step) (cfg_ok rfl) (eq_ok rfl rfl) mixed Try.func113 (by kernel_rfl) (by kernel_rfl) c_sl_Clip_Step (clip_pwp _)
end V
end Go.Proofs.Ytgialjcichiaoaa

/-
Plain proofs: the program's disks and steps.
-/
namespace Go.Proofs.Ytgialjcichiaoaa
namespace V
open Classical
set_option maxRecDepth 100000
variable {W : Wld}

theorem dI {p : Prop} [Decidable p] {b : Bool} (h : b = true ↔ p) : b = decide p := by
  by_cases hp : p <;> simp_all
def offP (n : Int) : Prop := ¬ (-2 ≤ n ∧ n ≤ 9)
theorem diskOk1_ok (n : Int) : FunOk PP W n_i_DiskOk_1 s_i_DiskOk_1 [i64 n] [bo (decide (offP n))] := by
  refine F_i_DiskOk_1 (run_fun ?_)
  (repeat' first
    | (refine run_ite rfl (fun h => ?_) (fun h => ?_) <;> (try simp (disch := omega) only [z0, z1, z2, z3, z4, z5, z6, z7, z8, z9, z10, z11, z12, z13, z14, z15, z16, z17, z18, z19, z20, z21, z22, z23, z24, z25, eqDs, eqD, z28, z29, z30, z31, z32, z33, z34, z35, z36, z37, Nat.reduceAdd, z39, z40, z41, wrap64] at h) <;> (try (exfalso; omega)))
    | (refine run_need rfl (by (try simp (disch := omega) only [z0, z1, z2, z3, z4, z5, z6, z7, z8, z9, z10, z11, z12, z13, z14, z15, z16, z17, z18, z19, z20, z21, z22, z23, z24, z25, eqDs, eqD, z28, z29, z30, z31, z32, z33, z34, z35, z36, z37, Nat.reduceAdd, z39, z40, z41, wrap64]); first | exact elp_m (by omega) (by omega) (fun _ => rfl) | exact eld_m (by omega) (by omega) (fun _ => rfl) | exact els_m (by omega) (by omega) (by omega) rfl | exact lsl_m (by omega) (fun _ => rfl) | exact app_nil_m (by omega) (fun _ => rfl) (fun _ => rfl) | exact app_m_one (by omega) (fun _ => rfl) rfl rfl | exact app_m_m (by omega) (fun _ => rfl) (fun _ => rfl)) ?_)
    | (refine run_need rfl (by first | decide | omega | (simp only [List.length_map]; omega)) ?_)
    | (refine run_call1 rfl (in_ok ..) rfl ?_)
    | (refine run_need rfl ?_ ?_)
    | (refine run_ret rfl ?_ ; first | refine rb ?_ | refine ri ?_ | refine rs2 ?_ ?_ | refine rs1 ?_)
    | (refine run_retx rfl ?_))
  by_cases hx : -2 ≤ n ∧ n ≤ 9
  · rw [decide_eq_true hx]; exact fD (p := offP n) (fun h => h hx)
  · rw [decide_eq_false hx]; exact tD (p := offP n) hx
theorem idxInt_ok (ps : List Int) (hl : ps.length ≤ lim) : FunOk PP W n_sl_IndexFunc_int s_sl_IndexFunc_int [eIs ps, [.fn n_i_DiskOk_1 [] []]] [i64 (idxF offP ps ps.length 0)] := by
  refine F_sl_IndexFunc_int (run_fun ?_)
  unfold lim at hl
  refine run_loop rfl (fun i : Int => 0 ≤ i ∧ i ≤ ps.length ∧ idxF offP ps ps.length 0 = idxF offP ps (ps.length - i).toNat i) (fun i => [(8, .val (i64 i)), (0, .val (eIs ps)), (1, .val [.fn n_i_DiskOk_1 [] []]), (7, .val (i64 (ps.map i64).length))]) (fun i => (ps.length - i).toNat) 0 ⟨by omega, by omega, by simp⟩ ⟨rfl, rfl, rfl, rfl, trivial⟩ rfl ?_
  rintro i e ⟨h0, hN, hP⟩
  (repeat' first
    | (refine run_ite rfl (fun h => ?_) (fun h => ?_) <;> (try simp (disch := omega) only [z0, z1, z2, z3, z4, z5, z6, z7, z8, z9, z10, z11, z12, z13, z14, z15, z16, z17, z18, z19, z20, z21, z22, z23, z24, z25, eqDs, eqD, z28, z29, z30, z31, z32, z33, z34, z35, z36, z37, Nat.reduceAdd, z39, z40, z41, wrap64] at h) <;> (try (exfalso; omega)))
    | (refine run_need rfl (by (try simp (disch := omega) only [z0, z1, z2, z3, z4, z5, z6, z7, z8, z9, z10, z11, z12, z13, z14, z15, z16, z17, z18, z19, z20, z21, z22, z23, z24, z25, eqDs, eqD, z28, z29, z30, z31, z32, z33, z34, z35, z36, z37, Nat.reduceAdd, z39, z40, z41, wrap64]); first | exact elp_m (by omega) (by omega) (fun _ => rfl) | exact eld_m (by omega) (by omega) (fun _ => rfl) | exact els_m (by omega) (by omega) (by omega) rfl | exact lsl_m (by omega) (fun _ => rfl) | exact app_nil_m (by omega) (fun _ => rfl) (fun _ => rfl) | exact app_m_one (by omega) (fun _ => rfl) rfl rfl | exact app_m_m (by omega) (fun _ => rfl) (fun _ => rfl)) ?_)
    | (refine run_need rfl (by first | decide | omega | (simp only [List.length_map]; omega)) ?_)
    | (refine run_clo1 (ins' := [i64 (ix ps i)]) rfl (diskOk1_ok (ix ps i)) (by simp (disch := omega) only [z0, z1, z2, z3, z4, z5, z6, z7, z8, z9, z10, z11, z12, z13, z14, z15, z16, z17, z18, z19, z20, z21, z22, z23, z24, z25, eqDs, eqD, z28, z29, z30, z31, z32, z33, z34, z35, z36, z37, Nat.reduceAdd, z39, z40, z41, wrap64]) rfl ?_)
    | (refine run_next rfl (Exists.intro (i + 1) ⟨by omega, ⟨by omega, by omega, ?_⟩, i64_eq (wrap64 _ (by omega)), rfl, rfl, rfl, trivial⟩))
    | (refine run_need rfl ?_ ?_)
    | (refine run_ret rfl ?_ ; first | refine rb ?_ | refine ri ?_ | refine rs2 ?_ ?_ | refine rs1 ?_)
    | (refine run_retx rfl ?_))
  · rw [hP, show ((ps.length : Int) - i).toNat = ((ps.length : Int) - (i + 1)).toNat + 1 by omega, idxF, if_pos h]
  · rw [hP, show ((ps.length : Int) - i).toNat = ((ps.length : Int) - (i + 1)).toNat + 1 by omega, idxF, if_neg h]
  · rw [hP, show ((ps.length : Int) - i).toNat = 0 by omega, idxF]
theorem conInt_ok (ps : List Int) (hl : ps.length ≤ lim) : FunOk PP W n_sl_ContainsFunc_int s_sl_ContainsFunc_int [eIs ps, [.fn n_i_DiskOk_1 [] []]] [bo (decide (∃ p ∈ ps, offP p))] := by
  refine F_sl_ContainsFunc_int (run_fun ?_)
  (repeat' first
    | (refine run_ite rfl (fun h => ?_) (fun h => ?_) <;> (try simp (disch := omega) only [z0, z1, z2, z3, z4, z5, z6, z7, z8, z9, z10, z11, z12, z13, z14, z15, z16, z17, z18, z19, z20, z21, z22, z23, z24, z25, eqDs, eqD, z28, z29, z30, z31, z32, z33, z34, z35, z36, z37, Nat.reduceAdd, z39, z40, z41, wrap64] at h) <;> (try (exfalso; omega)))
    | (refine run_need rfl (by (try simp (disch := omega) only [z0, z1, z2, z3, z4, z5, z6, z7, z8, z9, z10, z11, z12, z13, z14, z15, z16, z17, z18, z19, z20, z21, z22, z23, z24, z25, eqDs, eqD, z28, z29, z30, z31, z32, z33, z34, z35, z36, z37, Nat.reduceAdd, z39, z40, z41, wrap64]); first | exact elp_m (by omega) (by omega) (fun _ => rfl) | exact eld_m (by omega) (by omega) (fun _ => rfl) | exact els_m (by omega) (by omega) (by omega) rfl | exact lsl_m (by omega) (fun _ => rfl) | exact app_nil_m (by omega) (fun _ => rfl) (fun _ => rfl) | exact app_m_one (by omega) (fun _ => rfl) rfl rfl | exact app_m_m (by omega) (fun _ => rfl) (fun _ => rfl)) ?_)
    | (refine run_need rfl (by first | decide | omega | (simp only [List.length_map]; omega)) ?_)
    | (refine run_call1 rfl (idxInt_ok ps hl) rfl ?_)
    | (refine run_need rfl ?_ ?_)
    | (refine run_ret rfl ?_ ; first | refine rb ?_ | refine ri ?_ | refine rs2 ?_ ?_ | refine rs1 ?_)
    | (refine run_retx rfl ?_))
  congr 1
  simp only [ge_iff_le, eq_iff_iff]
  exact idxF_mem _ _

theorem dkFiles_iff (d : Dk) : Blw d.files.length (fun i => -2 ≤ ix d.files i ∧ ix d.files i ≤ 9) ↔ ¬ ∃ n ∈ d.files, offP n := by
  constructor
  · rintro h ⟨n, hn, ho⟩
    obtain ⟨k, k0, k1, rfl⟩ := mem_ix hn
    exact ho (h k k0 k1)
  · intro h i i0 i1
    exact Classical.byContradiction fun ho => h ⟨_, ix_mem i0 i1, ho⟩
theorem iDiskOk_ok (d : Dk) (hs : SmD d) : FunOk PP W n_i_DiskOk s_i_DiskOk [eDk d] [bo (decide (DkOk d))] := by
  refine F_i_DiskOk (run_fun ?_)
  obtain ⟨h1, h2, h3⟩ := hs
  have h2' := h2
  unfold lim at h2'
  (repeat' first
    | (refine run_ite rfl (fun h => ?_) (fun h => ?_) <;> (try simp (disch := omega) only [z0, z1, z2, z3, z4, z5, z6, z7, z8, z9, z10, z11, z12, z13, z14, z15, z16, z17, z18, z19, z20, z21, z22, z23, z24, z25, eqDs, eqD, z28, z29, z30, z31, z32, z33, z34, z35, z36, z37, Nat.reduceAdd, z39, z40, z41, wrap64] at h) <;> (try (exfalso; omega)))
    | (refine run_need rfl (by (try simp (disch := omega) only [z0, z1, z2, z3, z4, z5, z6, z7, z8, z9, z10, z11, z12, z13, z14, z15, z16, z17, z18, z19, z20, z21, z22, z23, z24, z25, eqDs, eqD, z28, z29, z30, z31, z32, z33, z34, z35, z36, z37, Nat.reduceAdd, z39, z40, z41, wrap64]); first | exact elp_m (by omega) (by omega) (fun _ => rfl) | exact eld_m (by omega) (by omega) (fun _ => rfl) | exact els_m (by omega) (by omega) (by omega) rfl | exact lsl_m (by omega) (fun _ => rfl) | exact app_nil_m (by omega) (fun _ => rfl) (fun _ => rfl) | exact app_m_one (by omega) (fun _ => rfl) rfl rfl | exact app_m_m (by omega) (fun _ => rfl) (fun _ => rfl)) ?_)
    | (refine run_need rfl (by first | decide | omega | (simp only [List.length_map]; omega)) ?_)
    | (refine run_call1 rfl (conInt_ok d.files h2) rfl ?_)
    | (refine run_call1 rfl (iPlanOk_ok d.db h1) rfl ?_)
    | (refine run_call1 rfl (iPlanOk_ok d.jour h3) rfl ?_)
    | (refine run_need rfl ?_ ?_)
    | (refine run_ret rfl ?_ ; first | refine rb ?_ | refine ri ?_ | refine rs2 ?_ ?_ | refine rs1 ?_)
    | (refine run_retx rfl ?_))
  all_goals
    refine dI (p := DkOk d) ?_
    unfold DkOk
    rw [dkFiles_iff]
    try simp only [List.length_map, beq_iff_eq, Int.natCast_eq_zero]
    grind

def StOk (s : Stp) : Prop := ((s.kind = 1 ∨ s.kind = 3) ∧ s.path = 0 ∧ s.data = 0 ∧ PlanM s.pkgs) ∨ (s.kind = 2 ∧ (0 ≤ s.path ∧ s.path ≤ 5) ∧ (-1 ≤ s.data ∧ s.data ≤ 9) ∧ s.pkgs.length = 0) ∨ (s.kind = 4 ∧ s.path = 0 ∧ s.data = 0 ∧ s.pkgs.length = 0)
theorem iStepOk_ok (s : Stp) (hs : SmS s) : FunOk PP W n_i_Step_ok s_i_Step_ok [eSt s] [bo (decide (StOk s))] := by
  refine F_i_Step_ok (run_fun ?_)
  (repeat' first
    | (refine run_ite rfl (fun h => ?_) (fun h => ?_) <;> (try simp (disch := omega) only [z0, z1, z2, z3, z4, z5, z6, z7, z8, z9, z10, z11, z12, z13, z14, z15, z16, z17, z18, z19, z20, z21, z22, z23, z24, z25, eqDs, eqD, z28, z29, z30, z31, z32, z33, z34, z35, z36, z37, Nat.reduceAdd, z39, z40, z41, wrap64] at h) <;> (try (exfalso; omega)))
    | (refine run_need rfl (by (try simp (disch := omega) only [z0, z1, z2, z3, z4, z5, z6, z7, z8, z9, z10, z11, z12, z13, z14, z15, z16, z17, z18, z19, z20, z21, z22, z23, z24, z25, eqDs, eqD, z28, z29, z30, z31, z32, z33, z34, z35, z36, z37, Nat.reduceAdd, z39, z40, z41, wrap64]); first | exact elp_m (by omega) (by omega) (fun _ => rfl) | exact eld_m (by omega) (by omega) (fun _ => rfl) | exact els_m (by omega) (by omega) (by omega) rfl | exact lsl_m (by omega) (fun _ => rfl) | exact app_nil_m (by omega) (fun _ => rfl) (fun _ => rfl) | exact app_m_one (by omega) (fun _ => rfl) rfl rfl | exact app_m_m (by omega) (fun _ => rfl) (fun _ => rfl)) ?_)
    | (refine run_need rfl (by first | decide | omega | (simp only [List.length_map]; omega)) ?_)
    | (refine run_call1 rfl (iPlanOk_ok s.pkgs hs) rfl ?_)
    | (refine run_call1 rfl (in_ok ..) rfl ?_)
    | (refine run_need rfl ?_ ?_)
    | (refine run_ret rfl ?_ ; first | refine rb ?_ | refine ri ?_ | refine rs2 ?_ ?_ | refine rs1 ?_)
    | (refine run_retx rfl ?_))
  all_goals
    refine dI ?_
    unfold StOk
    try simp only [List.length_map, beq_iff_eq, Int.natCast_eq_zero, decide_eq_true_eq]
    grind

def badP (s : Stp) : Prop := ¬ StOk s
theorem instTo1_ok (s : Stp) (hs : SmS s) : FunOk PP W n_i_InstTo_1 s_i_InstTo_1 [eSt s] [bo (decide (badP s))] := by
  refine F_i_InstTo_1 (run_fun ?_)
  (repeat' first
    | (refine run_ite rfl (fun h => ?_) (fun h => ?_) <;> (try simp (disch := omega) only [z0, z1, z2, z3, z4, z5, z6, z7, z8, z9, z10, z11, z12, z13, z14, z15, z16, z17, z18, z19, z20, z21, z22, z23, z24, z25, eqDs, eqD, z28, z29, z30, z31, z32, z33, z34, z35, z36, z37, Nat.reduceAdd, z39, z40, z41, wrap64] at h) <;> (try (exfalso; omega)))
    | (refine run_need rfl (by (try simp (disch := omega) only [z0, z1, z2, z3, z4, z5, z6, z7, z8, z9, z10, z11, z12, z13, z14, z15, z16, z17, z18, z19, z20, z21, z22, z23, z24, z25, eqDs, eqD, z28, z29, z30, z31, z32, z33, z34, z35, z36, z37, Nat.reduceAdd, z39, z40, z41, wrap64]); first | exact elp_m (by omega) (by omega) (fun _ => rfl) | exact eld_m (by omega) (by omega) (fun _ => rfl) | exact els_m (by omega) (by omega) (by omega) rfl | exact lsl_m (by omega) (fun _ => rfl) | exact app_nil_m (by omega) (fun _ => rfl) (fun _ => rfl) | exact app_m_one (by omega) (fun _ => rfl) rfl rfl | exact app_m_m (by omega) (fun _ => rfl) (fun _ => rfl)) ?_)
    | (refine run_need rfl (by first | decide | omega | (simp only [List.length_map]; omega)) ?_)
    | (refine run_call1 rfl (iStepOk_ok s hs) rfl ?_)
    | (refine run_need rfl ?_ ?_)
    | (refine run_ret rfl ?_ ; first | refine rb ?_ | refine ri ?_ | refine rs2 ?_ ?_ | refine rs1 ?_)
    | (refine run_retx rfl ?_))
  by_cases hx : StOk s
  · rw [decide_eq_true hx]; exact fD (p := badP s) (fun h => h hx)
  · rw [decide_eq_false hx]; exact tD (p := badP s) hx
def SmSs (l : List Stp) : Prop := l.length ≤ lim ∧ ∀ s ∈ l, SmS s
theorem idxSt_ok (ps : List Stp) (hs : SmSs ps) : FunOk PP W n_sl_IndexFunc_Step s_sl_IndexFunc_Step [eSts ps, [.fn n_i_InstTo_1 [] []]] [i64 (idxF badP ps ps.length 0)] := by
  refine F_sl_IndexFunc_Step (run_fun ?_)
  have hl := hs.1
  unfold lim at hl
  refine run_loop rfl (fun i : Int => 0 ≤ i ∧ i ≤ ps.length ∧ idxF badP ps ps.length 0 = idxF badP ps (ps.length - i).toNat i) (fun i => [(8, .val (i64 i)), (0, .val (eSts ps)), (1, .val [.fn n_i_InstTo_1 [] []]), (7, .val (i64 (ps.map eSt).length))]) (fun i => (ps.length - i).toNat) 0 ⟨by omega, by omega, by simp⟩ ⟨rfl, rfl, rfl, rfl, trivial⟩ rfl ?_
  rintro i e ⟨h0, hN, hP⟩
  (repeat' first
    | (refine run_ite rfl (fun h => ?_) (fun h => ?_) <;> (try simp (disch := omega) only [z0, z1, z2, z3, z4, z5, z6, z7, z8, z9, z10, z11, z12, z13, z14, z15, z16, z17, z18, z19, z20, z21, z22, z23, z24, z25, eqDs, eqD, z28, z29, z30, z31, z32, z33, z34, z35, z36, z37, Nat.reduceAdd, z39, z40, z41, wrap64] at h) <;> (try (exfalso; omega)))
    | (refine run_need rfl (by (try simp (disch := omega) only [z0, z1, z2, z3, z4, z5, z6, z7, z8, z9, z10, z11, z12, z13, z14, z15, z16, z17, z18, z19, z20, z21, z22, z23, z24, z25, eqDs, eqD, z28, z29, z30, z31, z32, z33, z34, z35, z36, z37, Nat.reduceAdd, z39, z40, z41, wrap64]); first | exact elp_m (by omega) (by omega) (fun _ => rfl) | exact eld_m (by omega) (by omega) (fun _ => rfl) | exact els_m (by omega) (by omega) (by omega) rfl | exact lsl_m (by omega) (fun _ => rfl) | exact app_nil_m (by omega) (fun _ => rfl) (fun _ => rfl) | exact app_m_one (by omega) (fun _ => rfl) rfl rfl | exact app_m_m (by omega) (fun _ => rfl) (fun _ => rfl)) ?_)
    | (refine run_need rfl (by first | decide | omega | (simp only [List.length_map]; omega)) ?_)
    | (refine run_clo1 (ins' := [eSt (ix ps i)]) rfl (instTo1_ok (ix ps i) (hs.2 _ (ix_mem h0 (by assumption)))) (by simp (disch := omega) only [z0, z1, z2, z3, z4, z5, z6, z7, z8, z9, z10, z11, z12, z13, z14, z15, z16, z17, z18, z19, z20, z21, z22, z23, z24, z25, eqDs, eqD, z28, z29, z30, z31, z32, z33, z34, z35, z36, z37, Nat.reduceAdd, z39, z40, z41, wrap64]) rfl ?_)
    | (refine run_next rfl (Exists.intro (i + 1) ⟨by omega, ⟨by omega, by omega, ?_⟩, i64_eq (wrap64 _ (by omega)), rfl, rfl, rfl, trivial⟩))
    | (refine run_need rfl ?_ ?_)
    | (refine run_ret rfl ?_ ; first | refine rb ?_ | refine ri ?_ | refine rs2 ?_ ?_ | refine rs1 ?_)
    | (refine run_retx rfl ?_))
  · rw [hP, show ((ps.length : Int) - i).toNat = ((ps.length : Int) - (i + 1)).toNat + 1 by omega, idxF, if_pos h]
  · rw [hP, show ((ps.length : Int) - i).toNat = ((ps.length : Int) - (i + 1)).toNat + 1 by omega, idxF, if_neg h]
  · rw [hP, show ((ps.length : Int) - i).toNat = 0 by omega, idxF]
theorem conSt_ok (ps : List Stp) (hs : SmSs ps) : FunOk PP W n_sl_ContainsFunc_Step s_sl_ContainsFunc_Step [eSts ps, [.fn n_i_InstTo_1 [] []]] [bo (decide (∃ p ∈ ps, badP p))] := by
  refine F_sl_ContainsFunc_Step (run_fun ?_)
  (repeat' first
    | (refine run_ite rfl (fun h => ?_) (fun h => ?_) <;> (try simp (disch := omega) only [z0, z1, z2, z3, z4, z5, z6, z7, z8, z9, z10, z11, z12, z13, z14, z15, z16, z17, z18, z19, z20, z21, z22, z23, z24, z25, eqDs, eqD, z28, z29, z30, z31, z32, z33, z34, z35, z36, z37, Nat.reduceAdd, z39, z40, z41, wrap64] at h) <;> (try (exfalso; omega)))
    | (refine run_need rfl (by (try simp (disch := omega) only [z0, z1, z2, z3, z4, z5, z6, z7, z8, z9, z10, z11, z12, z13, z14, z15, z16, z17, z18, z19, z20, z21, z22, z23, z24, z25, eqDs, eqD, z28, z29, z30, z31, z32, z33, z34, z35, z36, z37, Nat.reduceAdd, z39, z40, z41, wrap64]); first | exact elp_m (by omega) (by omega) (fun _ => rfl) | exact eld_m (by omega) (by omega) (fun _ => rfl) | exact els_m (by omega) (by omega) (by omega) rfl | exact lsl_m (by omega) (fun _ => rfl) | exact app_nil_m (by omega) (fun _ => rfl) (fun _ => rfl) | exact app_m_one (by omega) (fun _ => rfl) rfl rfl | exact app_m_m (by omega) (fun _ => rfl) (fun _ => rfl)) ?_)
    | (refine run_need rfl (by first | decide | omega | (simp only [List.length_map]; omega)) ?_)
    | (refine run_call1 rfl (idxSt_ok ps hs) rfl ?_)
    | (refine run_need rfl ?_ ?_)
    | (refine run_ret rfl ?_ ; first | refine rb ?_ | refine ri ?_ | refine rs2 ?_ ?_ | refine rs1 ?_)
    | (refine run_retx rfl ?_))
  congr 1
  simp only [ge_iff_le, eq_iff_iff]
  exact idxF_mem _ _

theorem pkgCopied_ok (p : Pk) (hs : SmP p) : FunOk PP W n_i_Pkg_copied s_i_Pkg_copied [ePk p] [ePk p] := by
  refine F_i_Pkg_copied (run_fun ?_)
  (repeat' first
    | (refine run_ite rfl (fun h => ?_) (fun h => ?_) <;> (try simp (disch := omega) only [z0, z1, z2, z3, z4, z5, z6, z7, z8, z9, z10, z11, z12, z13, z14, z15, z16, z17, z18, z19, z20, z21, z22, z23, z24, z25, eqDs, eqD, z28, z29, z30, z31, z32, z33, z34, z35, z36, z37, Nat.reduceAdd, z39, z40, z41, wrap64] at h) <;> (try (exfalso; omega)))
    | (refine run_need rfl (by (try simp (disch := omega) only [z0, z1, z2, z3, z4, z5, z6, z7, z8, z9, z10, z11, z12, z13, z14, z15, z16, z17, z18, z19, z20, z21, z22, z23, z24, z25, eqDs, eqD, z28, z29, z30, z31, z32, z33, z34, z35, z36, z37, Nat.reduceAdd, z39, z40, z41, wrap64]); first | exact elp_m (by omega) (by omega) (fun _ => rfl) | exact eld_m (by omega) (by omega) (fun _ => rfl) | exact els_m (by omega) (by omega) (by omega) rfl | exact lsl_m (by omega) (fun _ => rfl) | exact app_nil_m (by omega) (fun _ => rfl) (fun _ => rfl) | exact app_m_one (by omega) (fun _ => rfl) rfl rfl | exact app_m_m (by omega) (fun _ => rfl) (fun _ => rfl)) ?_)
    | (refine run_need rfl (by first | decide | omega | (simp only [List.length_map]; omega)) ?_)
    | (refine run_call1 rfl (cloneF_ok p.files hs.1) rfl ?_)
    | (refine run_call1 rfl (cloneD_ok p.deps hs.2) rfl ?_)
    | (refine run_need rfl ?_ ?_)
    | (refine run_ret rfl ?_ ; first | refine rb ?_ | refine ri ?_ | refine rs2 ?_ ?_ | refine rs1 ?_)
    | (refine run_retx rfl ?_))
  rfl
theorem copies_ok (ps : List Pk) (hs : SmPs ps) : FunOk PP W n_i_copies s_i_copies [ePks ps] [ePks ps] := by
  refine F_i_copies (run_fun ?_)
  have hl := hs.1
  unfold lim at hl
  refine run_loop rfl (fun i : Int => 0 ≤ i ∧ i ≤ ps.length) (fun i => [(8, .val (i64 i)), (6, .val (ePks ps)), (3, .val (ePks (ps.take i.toNat))), (7, .val (i64 (ps.map ePk).length))]) (fun i => (ps.length - i).toNat) 0 ⟨by omega, by omega⟩ ⟨rfl, rfl, rfl, rfl, trivial⟩ rfl ?_
  rintro i e ⟨h0, hN⟩
  have ht : (ps.take i.toNat).length ≤ i := by rw [List.length_take]; omega
  (repeat' first
    | (refine run_ite rfl (fun h => ?_) (fun h => ?_) <;> (try simp (disch := omega) only [z0, z1, z2, z3, z4, z5, z6, z7, z8, z9, z10, z11, z12, z13, z14, z15, z16, z17, z18, z19, z20, z21, z22, z23, z24, z25, eqDs, eqD, z28, z29, z30, z31, z32, z33, z34, z35, z36, z37, Nat.reduceAdd, z39, z40, z41, wrap64] at h) <;> (try (exfalso; omega)))
    | (refine run_need rfl (by (try simp (disch := omega) only [z0, z1, z2, z3, z4, z5, z6, z7, z8, z9, z10, z11, z12, z13, z14, z15, z16, z17, z18, z19, z20, z21, z22, z23, z24, z25, eqDs, eqD, z28, z29, z30, z31, z32, z33, z34, z35, z36, z37, Nat.reduceAdd, z39, z40, z41, wrap64]); first | exact elp_m (by omega) (by omega) (fun _ => rfl) | exact eld_m (by omega) (by omega) (fun _ => rfl) | exact els_m (by omega) (by omega) (by omega) rfl | exact lsl_m (by omega) (fun _ => rfl) | exact app_nil_m (by omega) (fun _ => rfl) (fun _ => rfl) | exact app_m_one (by omega) (fun _ => rfl) rfl rfl | exact app_m_m (by omega) (fun _ => rfl) (fun _ => rfl)) ?_)
    | (refine run_need rfl (by first | decide | omega | (simp only [List.length_map]; omega)) ?_)
    | (refine run_calleq rfl (pkgCopied_ok (ix ps i) (smPs_ix hs (by omega) (by omega))) (by simp (disch := omega) only [z0, z1, z2, z3, z4, z5, z6, z7, z8, z9, z10, z11, z12, z13, z14, z15, z16, z17, z18, z19, z20, z21, z22, z23, z24, z25, eqDs, eqD, z28, z29, z30, z31, z32, z33, z34, z35, z36, z37, Nat.reduceAdd, z39, z40, z41, wrap64]) rfl ?_)
    | (refine run_next rfl (Exists.intro (i + 1) ⟨by omega, ⟨by omega, by omega⟩, i64_eq (wrap64 _ (by omega)), rfl, ?_, rfl, trivial⟩))
    | (refine run_need rfl ?_ ?_)
    | (refine run_ret rfl ?_ ; first | refine rb ?_ | refine ri ?_ | refine rs2 ?_ ?_ | refine rs1 ?_)
    | (refine run_retx rfl ?_))
  · refine sl_eq ?_
    rw [take_ix ps h0 (by omega), List.map_append]
    rfl
  · refine sl_eq ?_
    rw [List.take_of_length_le (by omega)]

theorem diskCopied_ok (d : Dk) (hs : SmD d) : FunOk PP W n_i_Disk_copied s_i_Disk_copied [eDk d] [eDk d] := by
  refine F_i_Disk_copied (run_fun ?_)
  (repeat' first
    | (refine run_ite rfl (fun h => ?_) (fun h => ?_) <;> (try simp (disch := omega) only [z0, z1, z2, z3, z4, z5, z6, z7, z8, z9, z10, z11, z12, z13, z14, z15, z16, z17, z18, z19, z20, z21, z22, z23, z24, z25, eqDs, eqD, z28, z29, z30, z31, z32, z33, z34, z35, z36, z37, Nat.reduceAdd, z39, z40, z41, wrap64] at h) <;> (try (exfalso; omega)))
    | (refine run_need rfl (by (try simp (disch := omega) only [z0, z1, z2, z3, z4, z5, z6, z7, z8, z9, z10, z11, z12, z13, z14, z15, z16, z17, z18, z19, z20, z21, z22, z23, z24, z25, eqDs, eqD, z28, z29, z30, z31, z32, z33, z34, z35, z36, z37, Nat.reduceAdd, z39, z40, z41, wrap64]); first | exact elp_m (by omega) (by omega) (fun _ => rfl) | exact eld_m (by omega) (by omega) (fun _ => rfl) | exact els_m (by omega) (by omega) (by omega) rfl | exact lsl_m (by omega) (fun _ => rfl) | exact app_nil_m (by omega) (fun _ => rfl) (fun _ => rfl) | exact app_m_one (by omega) (fun _ => rfl) rfl rfl | exact app_m_m (by omega) (fun _ => rfl) (fun _ => rfl)) ?_)
    | (refine run_need rfl (by first | decide | omega | (simp only [List.length_map]; omega)) ?_)
    | (refine run_call1 rfl (copies_ok d.db hs.1) rfl ?_)
    | (refine run_call1 rfl (copies_ok d.jour hs.2.2) rfl ?_)
    | (refine run_call1 rfl (cloneI_ok d.files hs.2.1) rfl ?_)
    | (refine run_need rfl ?_ ?_)
    | (refine run_ret rfl ?_ ; first | refine rb ?_ | refine ri ?_ | refine rs2 ?_ ?_ | refine rs1 ?_)
    | (refine run_retx rfl ?_))
  rfl
theorem diskDo_ok (d : Dk) (s : Stp) (hp : StIn d.files.length s) (hs : SmPs s.pkgs) : FunOk PP W n_i_Disk_do s_i_Disk_do [eDk d, eSt s] [eDk (doM d s)] := by
  refine F_i_Disk_do (run_fun ?_)
  unfold StIn at hp
  (repeat' first
    | (refine run_ite rfl (fun h => ?_) (fun h => ?_) <;> (try simp (disch := omega) only [z0, z1, z2, z3, z4, z5, z6, z7, z8, z9, z10, z11, z12, z13, z14, z15, z16, z17, z18, z19, z20, z21, z22, z23, z24, z25, eqDs, eqD, z28, z29, z30, z31, z32, z33, z34, z35, z36, z37, Nat.reduceAdd, z39, z40, z41, wrap64] at h) <;> (try (exfalso; omega)))
    | (refine run_need rfl (by (try simp (disch := omega) only [z0, z1, z2, z3, z4, z5, z6, z7, z8, z9, z10, z11, z12, z13, z14, z15, z16, z17, z18, z19, z20, z21, z22, z23, z24, z25, eqDs, eqD, z28, z29, z30, z31, z32, z33, z34, z35, z36, z37, Nat.reduceAdd, z39, z40, z41, wrap64]); first | exact elp_m (by omega) (by omega) (fun _ => rfl) | exact eld_m (by omega) (by omega) (fun _ => rfl) | exact els_m (by omega) (by omega) (by omega) rfl | exact lsl_m (by omega) (fun _ => rfl) | exact app_nil_m (by omega) (fun _ => rfl) (fun _ => rfl) | exact app_m_one (by omega) (fun _ => rfl) rfl rfl | exact app_m_m (by omega) (fun _ => rfl) (fun _ => rfl)) ?_)
    | (refine run_need rfl (by first | decide | omega | (simp only [List.length_map]; omega)) ?_)
    | (refine run_call1 rfl (copies_ok s.pkgs hs) rfl ?_)
    | (refine run_need rfl ?_ ?_)
    | (refine run_ret rfl ?_ ; first | refine rb ?_ | refine ri ?_ | refine rs2 ?_ ?_ | refine rs1 ?_)
    | (refine run_retx rfl ?_))
  · unfold doM; rw [if_pos (by assumption)] <;> rfl
  · unfold doM
    rw [if_neg (by assumption), if_pos (by assumption), els_v (by omega) (by omega)] <;> rfl
  · unfold doM; rw [if_neg (by assumption), if_neg (by assumption), if_pos (by assumption)] <;> rfl
  · unfold doM; rw [if_neg (by assumption), if_neg (by assumption), if_neg (by assumption), if_pos (by assumption)] <;> rfl
  · unfold doM; rw [if_neg (by assumption), if_neg (by assumption), if_neg (by assumption), if_neg (by assumption)] <;> rfl
theorem diskTear_ok (d : Dk) (s : Stp) (hp : StIn d.files.length s) : FunOk PP W n_i_Disk_tear s_i_Disk_tear [eDk d, eSt s] [eDk (tearM d s)] := by
  refine F_i_Disk_tear (run_fun ?_)
  unfold StIn at hp
  (repeat' first
    | (refine run_ite rfl (fun h => ?_) (fun h => ?_) <;> (try simp (disch := omega) only [z0, z1, z2, z3, z4, z5, z6, z7, z8, z9, z10, z11, z12, z13, z14, z15, z16, z17, z18, z19, z20, z21, z22, z23, z24, z25, eqDs, eqD, z28, z29, z30, z31, z32, z33, z34, z35, z36, z37, Nat.reduceAdd, z39, z40, z41, wrap64] at h) <;> (try (exfalso; omega)))
    | (refine run_need rfl (by (try simp (disch := omega) only [z0, z1, z2, z3, z4, z5, z6, z7, z8, z9, z10, z11, z12, z13, z14, z15, z16, z17, z18, z19, z20, z21, z22, z23, z24, z25, eqDs, eqD, z28, z29, z30, z31, z32, z33, z34, z35, z36, z37, Nat.reduceAdd, z39, z40, z41, wrap64]); first | exact elp_m (by omega) (by omega) (fun _ => rfl) | exact eld_m (by omega) (by omega) (fun _ => rfl) | exact els_m (by omega) (by omega) (by omega) rfl | exact lsl_m (by omega) (fun _ => rfl) | exact app_nil_m (by omega) (fun _ => rfl) (fun _ => rfl) | exact app_m_one (by omega) (fun _ => rfl) rfl rfl | exact app_m_m (by omega) (fun _ => rfl) (fun _ => rfl)) ?_)
    | (refine run_need rfl (by first | decide | omega | (simp only [List.length_map]; omega)) ?_)
    | (refine run_need rfl ?_ ?_)
    | (refine run_ret rfl ?_ ; first | refine rb ?_ | refine ri ?_ | refine rs2 ?_ ?_ | refine rs1 ?_)
    | (refine run_retx rfl ?_))
  · unfold tearM
    rw [if_pos (by assumption), els_v (by omega) (by omega)] <;> rfl
  · unfold tearM; rw [if_neg (by assumption), if_pos (by assumption)] <;> rfl
  · unfold tearM; rw [if_neg (by assumption), if_neg (by assumption)] <;> rfl
end V
end Go.Proofs.Ytgialjcichiaoaa

/-
Plain proofs: the program's putting in and mending.
-/
namespace Go.Proofs.Ytgialjcichiaoaa
namespace V
open Classical
set_option maxRecDepth 100000
variable {W : Wld}

theorem slEqual_ok (a b : List Int) (ha : a.length ≤ lim) (hb : b.length ≤ lim) : FunOk PP W n_sl_Equal_int s_sl_Equal_int [eIs a, eIs b] [bo (decide (a = b))] := by
  refine F_sl_Equal_int (run_fun ?_)
  unfold lim at ha hb
  (repeat' first
    | (refine run_ite rfl (fun h => ?_) (fun h => ?_) <;> (try simp (disch := omega) only [z0, z1, z2, z3, z4, z5, z6, z7, z8, z9, z10, z11, z12, z13, z14, z15, z16, z17, z18, z19, z20, z21, z22, z23, z24, z25, eqDs, eqD, z28, z29, z30, z31, z32, z33, z34, z35, z36, z37, Nat.reduceAdd, z39, z40, z41, wrap64] at h) <;> (try (exfalso; omega)))
    | (refine run_need rfl (by (try simp (disch := omega) only [z0, z1, z2, z3, z4, z5, z6, z7, z8, z9, z10, z11, z12, z13, z14, z15, z16, z17, z18, z19, z20, z21, z22, z23, z24, z25, eqDs, eqD, z28, z29, z30, z31, z32, z33, z34, z35, z36, z37, Nat.reduceAdd, z39, z40, z41, wrap64]); first | exact elp_m (by omega) (by omega) (fun _ => rfl) | exact eld_m (by omega) (by omega) (fun _ => rfl) | exact els_m (by omega) (by omega) (by omega) rfl | exact lsl_m (by omega) (fun _ => rfl) | exact app_nil_m (by omega) (fun _ => rfl) (fun _ => rfl) | exact app_m_one (by omega) (fun _ => rfl) rfl rfl | exact app_m_m (by omega) (fun _ => rfl) (fun _ => rfl)) ?_)
    | (refine run_need rfl (by first | decide | omega | (simp only [List.length_map]; omega)) ?_)
    | (refine run_need rfl ?_ ?_)
    | (refine run_ret rfl ?_ ; first | refine rb ?_ | refine ri ?_ | refine rs2 ?_ ?_ | refine rs1 ?_)
    | (refine run_retx rfl ?_))
  · exact fD (fun h' => h (by rw [h']))
  refine run_loop rfl (fun i : Int => 0 ≤ i ∧ i ≤ a.length ∧ Blw i (fun i => ix a i = ix b i)) (fun i => [(13, .val (i64 i)), (0, .val (eIs a)), (1, .val (eIs b)), (12, .val (i64 (a.map i64).length))]) (fun i => (a.length - i).toNat) 0 ⟨by omega, by omega, blw_zero _⟩ ⟨rfl, rfl, rfl, rfl, trivial⟩ rfl ?_
  rintro i e ⟨h0, hN, hP⟩
  (repeat' first
    | (refine run_ite rfl (fun h => ?_) (fun h => ?_) <;> (try simp (disch := omega) only [z0, z1, z2, z3, z4, z5, z6, z7, z8, z9, z10, z11, z12, z13, z14, z15, z16, z17, z18, z19, z20, z21, z22, z23, z24, z25, eqDs, eqD, z28, z29, z30, z31, z32, z33, z34, z35, z36, z37, Nat.reduceAdd, z39, z40, z41, wrap64] at h) <;> (try (exfalso; omega)))
    | (refine run_need rfl (by (try simp (disch := omega) only [z0, z1, z2, z3, z4, z5, z6, z7, z8, z9, z10, z11, z12, z13, z14, z15, z16, z17, z18, z19, z20, z21, z22, z23, z24, z25, eqDs, eqD, z28, z29, z30, z31, z32, z33, z34, z35, z36, z37, Nat.reduceAdd, z39, z40, z41, wrap64]); first | exact elp_m (by omega) (by omega) (fun _ => rfl) | exact eld_m (by omega) (by omega) (fun _ => rfl) | exact els_m (by omega) (by omega) (by omega) rfl | exact lsl_m (by omega) (fun _ => rfl) | exact app_nil_m (by omega) (fun _ => rfl) (fun _ => rfl) | exact app_m_one (by omega) (fun _ => rfl) rfl rfl | exact app_m_m (by omega) (fun _ => rfl) (fun _ => rfl)) ?_)
    | (refine run_need rfl (by first | decide | omega | (simp only [List.length_map]; omega)) ?_)
    | (refine run_next rfl (Exists.intro (i + 1) ⟨by omega, ⟨by omega, by omega, blw_succ hP (by assumption)⟩, i64_eq (wrap64 _ (by omega)), rfl, rfl, rfl, trivial⟩))
    | (refine run_need rfl ?_ ?_)
    | (refine run_ret rfl ?_ ; first | refine rb ?_ | refine ri ?_ | refine rs2 ?_ ?_ | refine rs1 ?_)
    | (refine run_retx rfl ?_))
  · exact fD (fun h' => absurd (show ix a i = ix b i by rw [h']) (by assumption))
  · exact tD (ix_ext (by omega) (blw_to hP (by omega)))

theorem iPlanFiles_ok (ps : List Pk) (hs : SmPs ps) : FunOk PP W n_i_PlanFiles s_i_PlanFiles [ePks ps] [eIs (if PlanM ps then filesM ps else [])] := by
  refine F_i_PlanFiles (run_fun ?_)
  have hl := hs.1
  unfold lim at hl
  (repeat' first
    | (refine run_ite rfl (fun h => ?_) (fun h => ?_) <;> (try simp (disch := omega) only [z0, z1, z2, z3, z4, z5, z6, z7, z8, z9, z10, z11, z12, z13, z14, z15, z16, z17, z18, z19, z20, z21, z22, z23, z24, z25, eqDs, eqD, z28, z29, z30, z31, z32, z33, z34, z35, z36, z37, Nat.reduceAdd, z39, z40, z41, wrap64] at h) <;> (try (exfalso; omega)))
    | (refine run_need rfl (by (try simp (disch := omega) only [z0, z1, z2, z3, z4, z5, z6, z7, z8, z9, z10, z11, z12, z13, z14, z15, z16, z17, z18, z19, z20, z21, z22, z23, z24, z25, eqDs, eqD, z28, z29, z30, z31, z32, z33, z34, z35, z36, z37, Nat.reduceAdd, z39, z40, z41, wrap64]); first | exact elp_m (by omega) (by omega) (fun _ => rfl) | exact eld_m (by omega) (by omega) (fun _ => rfl) | exact els_m (by omega) (by omega) (by omega) rfl | exact lsl_m (by omega) (fun _ => rfl) | exact app_nil_m (by omega) (fun _ => rfl) (fun _ => rfl) | exact app_m_one (by omega) (fun _ => rfl) rfl rfl | exact app_m_m (by omega) (fun _ => rfl) (fun _ => rfl)) ?_)
    | (refine run_need rfl (by first | decide | omega | (simp only [List.length_map]; omega)) ?_)
    | (refine run_call1 rfl (iPlanOk_ok ps hs) rfl ?_)
    | (refine run_call1 rfl (repeatI_ok) rfl ?_)
    | (refine run_need rfl ?_ ?_)
    | (refine run_ret rfl ?_ ; first | refine rb ?_ | refine ri ?_ | refine rs2 ?_ ?_ | refine rs1 ?_)
    | (refine run_retx rfl ?_))
  · rw [if_neg h]
    rfl
  · have hM : PlanM ps := h
    rw [if_pos hM]
    clear h
    refine run_loop rfl (fun i : Int => 0 ≤ i ∧ i ≤ ps.length) (fun i => [(15, .val (i64 i)), (13, .val (ePks ps)), (14, .val (i64 (ps.map ePk).length)), (3, .val (eIs ((ps.take i.toNat).foldl (fun l p => putF p.files l) (List.replicate 6 (-1)))))]) (fun i => (ps.length - i).toNat) 0 ⟨by omega, by omega⟩ ⟨rfl, rfl, rfl, rfl, trivial⟩ rfl ?_
    rintro i e ⟨h0, hN⟩
    generalize hL : (ps.take i.toNat).foldl (fun l p => putF p.files l) (List.replicate 6 (-1)) = L
    have hLl : L.length = 6 := by rw [← hL, foldF_len]; simp
    (repeat' first
    | (refine run_ite rfl (fun h => ?_) (fun h => ?_) <;> (try simp (disch := omega) only [z0, z1, z2, z3, z4, z5, z6, z7, z8, z9, z10, z11, z12, z13, z14, z15, z16, z17, z18, z19, z20, z21, z22, z23, z24, z25, eqDs, eqD, z28, z29, z30, z31, z32, z33, z34, z35, z36, z37, Nat.reduceAdd, z39, z40, z41, wrap64] at h) <;> (try (exfalso; omega)))
    | (refine run_need rfl (by (try simp (disch := omega) only [z0, z1, z2, z3, z4, z5, z6, z7, z8, z9, z10, z11, z12, z13, z14, z15, z16, z17, z18, z19, z20, z21, z22, z23, z24, z25, eqDs, eqD, z28, z29, z30, z31, z32, z33, z34, z35, z36, z37, Nat.reduceAdd, z39, z40, z41, wrap64]); first | exact elp_m (by omega) (by omega) (fun _ => rfl) | exact eld_m (by omega) (by omega) (fun _ => rfl) | exact els_m (by omega) (by omega) (by omega) rfl | exact lsl_m (by omega) (fun _ => rfl) | exact app_nil_m (by omega) (fun _ => rfl) (fun _ => rfl) | exact app_m_one (by omega) (fun _ => rfl) rfl rfl | exact app_m_m (by omega) (fun _ => rfl) (fun _ => rfl)) ?_)
    | (refine run_need rfl (by first | decide | omega | (simp only [List.length_map]; omega)) ?_)
    | (refine run_need rfl ?_ ?_)
    | (refine run_ret rfl ?_ ; first | refine rb ?_ | refine ri ?_ | refine rs2 ?_ ?_ | refine rs1 ?_)
    | (refine run_retx rfl ?_))
    · have hi := h
      have hm := ix_mem h0 hi
      have hf := (hs.2 _ hm).1
      unfold lim at hf
      refine run_loop rfl (fun k : Int => 0 ≤ k ∧ k ≤ (ix ps i).files.length) (fun k => [(22, .val (i64 k)), (20, .val (eP2s (ix ps i).files)), (21, .val (i64 ((ix ps i).files.map eP2).length)), (15, .val (i64 i)), (13, .val (ePks ps)), (14, .val (i64 (ps.map ePk).length)), (3, .val (eIs (putF ((ix ps i).files.take k.toNat) L)))]) (fun k => ((ix ps i).files.length - k).toNat) 0 ⟨by omega, by omega⟩ ⟨rfl, by rw [cL_Pk_2]; rfl, by rw [cL_Pk_2]; rfl, rfl, rfl, rfl, rfl, trivial⟩ rfl ?_
      rintro k e ⟨k0, kN⟩
      generalize hM' : putF ((ix ps i).files.take k.toNat) L = M
      have hMl : M.length = 6 := by rw [← hM', putF_len, hLl]
      have hpp : k < (ix ps i).files.length → 0 ≤ (ix (ix ps i).files k).a ∧ (ix (ix ps i).files k).a ≤ 5 := fun hk => pathsOk_of hM.1 _ hm _ (ix_mem k0 hk)
      (repeat' first
    | (refine run_ite rfl (fun h => ?_) (fun h => ?_) <;> (try simp (disch := omega) only [z0, z1, z2, z3, z4, z5, z6, z7, z8, z9, z10, z11, z12, z13, z14, z15, z16, z17, z18, z19, z20, z21, z22, z23, z24, z25, eqDs, eqD, z28, z29, z30, z31, z32, z33, z34, z35, z36, z37, Nat.reduceAdd, z39, z40, z41, wrap64] at h) <;> (try (exfalso; omega)))
    | (refine run_need rfl (by (try simp (disch := omega) only [z0, z1, z2, z3, z4, z5, z6, z7, z8, z9, z10, z11, z12, z13, z14, z15, z16, z17, z18, z19, z20, z21, z22, z23, z24, z25, eqDs, eqD, z28, z29, z30, z31, z32, z33, z34, z35, z36, z37, Nat.reduceAdd, z39, z40, z41, wrap64]); first | exact elp_m (by omega) (by omega) (fun _ => rfl) | exact eld_m (by omega) (by omega) (fun _ => rfl) | exact els_m (by omega) (by omega) (by omega) rfl | exact lsl_m (by omega) (fun _ => rfl) | exact app_nil_m (by omega) (fun _ => rfl) (fun _ => rfl) | exact app_m_one (by omega) (fun _ => rfl) rfl rfl | exact app_m_m (by omega) (fun _ => rfl) (fun _ => rfl)) ?_)
    | (refine run_need rfl (by first | decide | omega | (simp only [List.length_map]; omega)) ?_)
    | (refine run_next rfl (Exists.intro (k + 1) ⟨by omega, ⟨by omega, by omega⟩, i64_eq (wrap64 _ (by omega)), rfl, rfl, rfl, rfl, rfl, ?_, trivial⟩))
    | (refine run_next rfl (Exists.intro (i + 1) ⟨by omega, ⟨by omega, by omega⟩, i64_eq (wrap64 _ (by omega)), rfl, rfl, ?_, trivial⟩))
    | (refine run_need rfl ?_ ?_)
    | (refine run_ret rfl ?_ ; first | refine rb ?_ | refine ri ?_ | refine rs2 ?_ ?_ | refine rs1 ?_)
    | (refine run_retx rfl ?_))
      · refine sl_eq ?_
        have hp2 := hpp h
        simp only [z0, z1, z2, z3, z4, z5, z6, z7, z8, z9, z10, z11, z12, z13, z14, z15, z16, z17, z18, z19, z20, z21, z22, z23, z24, z25, eqDs, eqD, z28, z29, z30, z31, z32, z33, z34, z35, z36, z37, Nat.reduceAdd, z39, z40, z41]
        rw [els_v (by omega) (by omega), take_ix _ k0 h, ← hM']
        simp [putF, List.foldl_append]
      · refine sl_eq ?_
        have hk : k.toNat = (ix ps i).files.length := by omega
        rw [hk, List.take_length] at hM'
        rw [take_ix ps h0 hi, List.foldl_append, hL, ← hM']
        rfl
    · refine sl_eq ?_
      have hk : i.toNat = ps.length := by omega
      rw [hk, List.take_length] at hL
      rw [← hL]
      rfl

def TrueM (d : Dk) : Prop := DkOk d ∧ d.has = false ∧ d.files = filesM d.db
theorem iDiskTrue_ok (d : Dk) (hs : SmD d) : FunOk PP W n_i_DiskTrue s_i_DiskTrue [eDk d] [bo (decide (TrueM d))] := by
  refine F_i_DiskTrue (run_fun ?_)
  have hl : (if PlanM d.db then filesM d.db else []).length ≤ lim := by
    have := filesM_len d.db
    unfold lim
    split <;> simp [this]
  (repeat' first
    | (refine run_ite rfl (fun h => ?_) (fun h => ?_) <;> (try simp (disch := omega) only [z0, z1, z2, z3, z4, z5, z6, z7, z8, z9, z10, z11, z12, z13, z14, z15, z16, z17, z18, z19, z20, z21, z22, z23, z24, z25, eqDs, eqD, z28, z29, z30, z31, z32, z33, z34, z35, z36, z37, Nat.reduceAdd, z39, z40, z41, wrap64] at h) <;> (try (exfalso; omega)))
    | (refine run_need rfl (by (try simp (disch := omega) only [z0, z1, z2, z3, z4, z5, z6, z7, z8, z9, z10, z11, z12, z13, z14, z15, z16, z17, z18, z19, z20, z21, z22, z23, z24, z25, eqDs, eqD, z28, z29, z30, z31, z32, z33, z34, z35, z36, z37, Nat.reduceAdd, z39, z40, z41, wrap64]); first | exact elp_m (by omega) (by omega) (fun _ => rfl) | exact eld_m (by omega) (by omega) (fun _ => rfl) | exact els_m (by omega) (by omega) (by omega) rfl | exact lsl_m (by omega) (fun _ => rfl) | exact app_nil_m (by omega) (fun _ => rfl) (fun _ => rfl) | exact app_m_one (by omega) (fun _ => rfl) rfl rfl | exact app_m_m (by omega) (fun _ => rfl) (fun _ => rfl)) ?_)
    | (refine run_need rfl (by first | decide | omega | (simp only [List.length_map]; omega)) ?_)
    | (refine run_call1 rfl (iDiskOk_ok d hs) rfl ?_)
    | (refine run_call1 rfl (iPlanFiles_ok d.db hs.1) rfl ?_)
    | (refine run_call1 rfl (slEqual_ok d.files _ hs.2.1 hl) rfl ?_)
    | (refine run_need rfl ?_ ?_)
    | (refine run_ret rfl ?_ ; first | refine rb ?_ | refine ri ?_ | refine rs2 ?_ ?_ | refine rs1 ?_)
    | (refine run_retx rfl ?_))
  · have hd : DkOk d := by assumption
    refine dI (p := TrueM d) ?_
    rw [if_pos hd.2.2.1, decide_eq_true_eq]
    exact ⟨fun h' => ⟨hd, h, h'⟩, fun h' => h'.2.2⟩
  · exact fD (p := TrueM d) (fun h' => by rw [h'.2.1] at h; cases h)
  · exact fD (p := TrueM d) (fun h' => h h'.1)

theorem stepsFor_ok (d : Dk) (ps : List Pk) (hs : SmPs ps) (hp : PlanM ps) (hd : 6 ≤ d.files.length) : FunOk PP W n_i_stepsFor s_i_stepsFor [eDk d, ePks ps] [eSts (restM d ps)] := by
  refine F_i_stepsFor (run_fun ?_)
  have hl := hs.1
  unfold lim at hl
  have hfl := filesM_len ps
  have hpf := iPlanFiles_ok (W := W) ps hs
  rw [if_pos hp] at hpf
  (repeat' first
    | (refine run_ite rfl (fun h => ?_) (fun h => ?_) <;> (try simp (disch := omega) only [z0, z1, z2, z3, z4, z5, z6, z7, z8, z9, z10, z11, z12, z13, z14, z15, z16, z17, z18, z19, z20, z21, z22, z23, z24, z25, eqDs, eqD, z28, z29, z30, z31, z32, z33, z34, z35, z36, z37, Nat.reduceAdd, z39, z40, z41, wrap64] at h) <;> (try (exfalso; omega)))
    | (refine run_need rfl (by (try simp (disch := omega) only [z0, z1, z2, z3, z4, z5, z6, z7, z8, z9, z10, z11, z12, z13, z14, z15, z16, z17, z18, z19, z20, z21, z22, z23, z24, z25, eqDs, eqD, z28, z29, z30, z31, z32, z33, z34, z35, z36, z37, Nat.reduceAdd, z39, z40, z41, wrap64]); first | exact elp_m (by omega) (by omega) (fun _ => rfl) | exact eld_m (by omega) (by omega) (fun _ => rfl) | exact els_m (by omega) (by omega) (by omega) rfl | exact lsl_m (by omega) (fun _ => rfl) | exact app_nil_m (by omega) (fun _ => rfl) (fun _ => rfl) | exact app_m_one (by omega) (fun _ => rfl) rfl rfl | exact app_m_m (by omega) (fun _ => rfl) (fun _ => rfl)) ?_)
    | (refine run_need rfl (by first | decide | omega | (simp only [List.length_map]; omega)) ?_)
    | (refine run_call1 rfl (hpf) rfl ?_)
    | (refine run_need rfl ?_ ?_)
    | (refine run_ret rfl ?_ ; first | refine rb ?_ | refine ri ?_ | refine rs2 ?_ ?_ | refine rs1 ?_)
    | (refine run_retx rfl ?_))
  refine run_loop rfl (fun i : Int => 0 ≤ i ∧ i ≤ 6) (fun i => [(11, .val (i64 i)), (9, .val (eIs (filesM ps))), (10, .val (i64 ((filesM ps).map i64).length)), (5, .val (eSts (diffM (filesM ps) d.files i.toNat))), (2, .val (eDk d)), (1, .val (ePks ps))]) (fun i => (6 - i).toNat) 0 ⟨by omega, by omega⟩ ⟨rfl, rfl, rfl, rfl, rfl, rfl, trivial⟩ rfl ?_
  rintro i e ⟨h0, hN⟩
  have hdl := diffM_len (filesM ps) d.files i.toNat
  have hds := diffM_succ (filesM ps) d.files h0
  have hfin : i = 6 → restM d ps = diffM (filesM ps) d.files i.toNat ++ [⟨3, 0, 0, ps⟩, ⟨4, 0, 0, []⟩] := fun h => by rw [h]; rfl
  generalize diffM (filesM ps) d.files i.toNat = L at hdl hds hfin
  (repeat' first
    | (refine run_ite rfl (fun h => ?_) (fun h => ?_) <;> (try simp (disch := omega) only [z0, z1, z2, z3, z4, z5, z6, z7, z8, z9, z10, z11, z12, z13, z14, z15, z16, z17, z18, z19, z20, z21, z22, z23, z24, z25, eqDs, eqD, z28, z29, z30, z31, z32, z33, z34, z35, z36, z37, Nat.reduceAdd, z39, z40, z41, wrap64] at h) <;> (try (exfalso; omega)))
    | (refine run_need rfl (by (try simp (disch := omega) only [z0, z1, z2, z3, z4, z5, z6, z7, z8, z9, z10, z11, z12, z13, z14, z15, z16, z17, z18, z19, z20, z21, z22, z23, z24, z25, eqDs, eqD, z28, z29, z30, z31, z32, z33, z34, z35, z36, z37, Nat.reduceAdd, z39, z40, z41, wrap64]); first | exact elp_m (by omega) (by omega) (fun _ => rfl) | exact eld_m (by omega) (by omega) (fun _ => rfl) | exact els_m (by omega) (by omega) (by omega) rfl | exact lsl_m (by omega) (fun _ => rfl) | exact app_nil_m (by omega) (fun _ => rfl) (fun _ => rfl) | exact app_m_one (by omega) (fun _ => rfl) rfl rfl | exact app_m_m (by omega) (fun _ => rfl) (fun _ => rfl)) ?_)
    | (refine run_need rfl (by first | decide | omega | (simp only [List.length_map]; omega)) ?_)
    | (refine run_call1 rfl (copies_ok ps hs) rfl ?_)
    | (refine run_next rfl (Exists.intro (i + 1) ⟨by omega, ⟨by omega, by omega⟩, i64_eq (wrap64 _ (by omega)), rfl, rfl, ?_, rfl, rfl, trivial⟩))
    | (refine run_need rfl ?_ ?_)
    | (refine run_ret rfl ?_ ; first | refine rb ?_ | refine ri ?_ | refine rs2 ?_ ?_ | refine rs1 ?_)
    | (refine run_retx rfl ?_))
  · rw [hds, if_neg (fun h' => h h'.symm)]
    refine sl_eq ?_
    simp only [z0, z1, z2, z3, z4, z5, z6, z7, z8, z9, z10, z11, z12, z13, z14, z15, z16, z17, z18, z19, z20, z21, z22, z23, z24, z25, eqDs, eqD, z28, z29, z30, z31, z32, z33, z34, z35, z36, z37, Nat.reduceAdd, z39, z40, z41, List.map_append]
    rfl
  · rw [hds, if_pos h.symm]
    rfl
  · refine ⟨by simp [lim]; omega, ?_, by simp⟩
    intro x hx
    rcases List.mem_append.1 hx with h | h
    · obtain ⟨y, _, rfl⟩ := List.mem_map.1 h; rfl
    · simp only [List.mem_cons, List.not_mem_nil, or_false] at h
      rcases h with rfl | rfl <;> rfl
  · rw [hfin (by omega)]
    refine sl_eq ?_
    rw [List.map_append]
    rfl

theorem restM_len (d : Dk) (ps : List Pk) : (restM d ps).length ≤ 8 := by
  have := stepsM_len d ps
  simp only [stepsM, List.length_cons] at this; omega
theorem dkOk_plan {d : Dk} (h : DkOk d) : PlanM d.jour := h.2.2.2.1
theorem iInstMends_ok (d : Dk) (hs : SmD d) : FunOk PP W n_i_InstMends s_i_InstMends [eDk d] [eSts (if DkOk d then mendsM d else [])] := by
  refine F_i_InstMends (run_fun ?_)
  have hrl : (restM d d.jour).length ≤ lim := by have := restM_len d d.jour; unfold lim; omega
  (repeat' first
    | (refine run_ite rfl (fun h => ?_) (fun h => ?_) <;> (try simp (disch := omega) only [z0, z1, z2, z3, z4, z5, z6, z7, z8, z9, z10, z11, z12, z13, z14, z15, z16, z17, z18, z19, z20, z21, z22, z23, z24, z25, eqDs, eqD, z28, z29, z30, z31, z32, z33, z34, z35, z36, z37, Nat.reduceAdd, z39, z40, z41, wrap64] at h) <;> (try (exfalso; omega)))
    | (refine run_need rfl (by (try simp (disch := omega) only [z0, z1, z2, z3, z4, z5, z6, z7, z8, z9, z10, z11, z12, z13, z14, z15, z16, z17, z18, z19, z20, z21, z22, z23, z24, z25, eqDs, eqD, z28, z29, z30, z31, z32, z33, z34, z35, z36, z37, Nat.reduceAdd, z39, z40, z41, wrap64]); first | exact elp_m (by omega) (by omega) (fun _ => rfl) | exact eld_m (by omega) (by omega) (fun _ => rfl) | exact els_m (by omega) (by omega) (by omega) rfl | exact lsl_m (by omega) (fun _ => rfl) | exact app_nil_m (by omega) (fun _ => rfl) (fun _ => rfl) | exact app_m_one (by omega) (fun _ => rfl) rfl rfl | exact app_m_m (by omega) (fun _ => rfl) (fun _ => rfl)) ?_)
    | (refine run_need rfl (by first | decide | omega | (simp only [List.length_map]; omega)) ?_)
    | (refine run_call1 rfl (iDiskOk_ok d hs) rfl ?_)
    | (refine run_call1 rfl (stepsFor_ok d d.jour hs.2.2 (dkOk_plan (by assumption)) (dkOk_len (by assumption))) rfl ?_)
    | (refine run_call1 rfl (clipS_ok (restM d d.jour)) rfl ?_)
    | (refine run_need rfl ?_ ?_)
    | (refine run_ret rfl ?_ ; first | refine rb ?_ | refine ri ?_ | refine rs2 ?_ ?_ | refine rs1 ?_)
    | (refine run_retx rfl ?_))
  · rw [if_neg h]; rfl
  · rw [if_pos (by assumption), mendsM, if_neg (by rw [h]; simp)]; rfl
  · rw [if_pos (by assumption), mendsM, if_pos h]

def ToOk (d : Dk) (l : List Stp) (cut : Int) : Prop := DkOk d ∧ 0 ≤ cut ∧ ∀ s ∈ l, StOk s
theorem stOk_in {s : Stp} (h : StOk s) {n : Nat} (hn : 6 ≤ n) : StIn n s := fun hk => by
  unfold StOk at h; omega
theorem toOk_not {d : Dk} {l : List Stp} {cut : Int} (h : ¬ ToOk d l cut) (torn : Bool) : eDk dkZ = eDk (if ToOk d l cut then toM d l cut torn else dkZ) := by rw [if_neg h]
theorem ix_take {α : Type} [Inhabited α] (l : List α) {n i : Int} (h0 : 0 ≤ i) (h1 : i < n) : ix (l.take n.toNat) i = ix l i := by
  simp only [ix, List.getD_eq_getElem?_getD]
  rw [List.getElem?_take_of_lt (by omega)]
theorem iInstTo_ok (d : Dk) (l : List Stp) (cut : Int) (torn : Bool) (hs : SmD d) (hl : SmSs l) : FunOk PP W n_i_InstTo s_i_InstTo [eDk d, eSts l, i64 cut, bo torn] [eDk (if ToOk d l cut then toM d l cut torn else dkZ), bo (decide (ToOk d l cut))] := by
  refine F_i_InstTo (run_fun ?_)
  have hll := hl.1
  unfold lim at hll
  (repeat' first
    | (refine run_ite rfl (fun h => ?_) (fun h => ?_) <;> (try simp (disch := omega) only [z0, z1, z2, z3, z4, z5, z6, z7, z8, z9, z10, z11, z12, z13, z14, z15, z16, z17, z18, z19, z20, z21, z22, z23, z24, z25, eqDs, eqD, z28, z29, z30, z31, z32, z33, z34, z35, z36, z37, Nat.reduceAdd, z39, z40, z41, wrap64] at h) <;> (try (exfalso; omega)))
    | (refine run_need rfl (by (try simp (disch := omega) only [z0, z1, z2, z3, z4, z5, z6, z7, z8, z9, z10, z11, z12, z13, z14, z15, z16, z17, z18, z19, z20, z21, z22, z23, z24, z25, eqDs, eqD, z28, z29, z30, z31, z32, z33, z34, z35, z36, z37, Nat.reduceAdd, z39, z40, z41, wrap64]); first | exact elp_m (by omega) (by omega) (fun _ => rfl) | exact eld_m (by omega) (by omega) (fun _ => rfl) | exact els_m (by omega) (by omega) (by omega) rfl | exact lsl_m (by omega) (fun _ => rfl) | exact app_nil_m (by omega) (fun _ => rfl) (fun _ => rfl) | exact app_m_one (by omega) (fun _ => rfl) rfl rfl | exact app_m_m (by omega) (fun _ => rfl) (fun _ => rfl)) ?_)
    | (refine run_need rfl (by first | decide | omega | (simp only [List.length_map]; omega)) ?_)
    | (refine run_call1 rfl (iDiskOk_ok d hs) rfl ?_)
    | (refine run_call1 rfl (conSt_ok l hl) rfl ?_)
    | (refine run_call1 rfl (diskCopied_ok d hs) rfl ?_)
    | (refine run_need rfl ?_ ?_)
    | (refine run_ret rfl ?_ ; first | refine rb ?_ | refine ri ?_ | refine rs2 ?_ ?_ | refine rs1 ?_)
    | (refine run_retx rfl ?_))
  · exact toOk_not (fun h' => h h'.1) torn
  · exact bo_eq (fD (fun h' => h h'.1))
  · exact toOk_not (fun h' => by have := h'.2.1; omega) torn
  · exact bo_eq (fD (fun h' => by have := h'.2.1; omega))
  · exact toOk_not (fun h' => by obtain ⟨s, h1, h2⟩ := h; exact h2 (h'.2.2 s h1)) torn
  · exact bo_eq (fD (fun h' => by obtain ⟨s, h1, h2⟩ := h; exact h2 (h'.2.2 s h1)))
  have hd : DkOk d := by assumption
  have hst : ∀ s ∈ l, StOk s := fun s hm => Classical.byContradiction fun hb => h ⟨s, hm, hb⟩
  have hc0 : 0 ≤ cut := by omega
  have hT : ToOk d l cut := ⟨hd, hc0, hst⟩
  clear h
  rw [if_pos hT, decide_eq_true hT]
  obtain ⟨c, hc⟩ : ∃ c : Int, c = if (l.length : Int) < cut then (l.length : Int) else cut := ⟨_, rfl⟩
  have hcl : 0 ≤ c ∧ c ≤ l.length ∧ c ≤ cut ∧ (c < l.length → c = cut) := by split at hc <;> omega
  have hlt : ((l.take c.toNat).length : Int) = c := by rw [List.length_take]; omega
  refine run_loop rfl (fun i : Int => 0 ≤ i ∧ i ≤ c) (fun i => [(35, .val (i64 i)), (34, .val (i64 c)), (33, .val (eSts (l.take c.toNat))), (10, .val (eDk (doAll d (l.take i.toNat)))), (1, .val (eSts l)), (2, .val (i64 c)), (3, .val (bo torn)), (8, .val [.sl [], .sl [], .bool false, .sl []])]) (fun i => (c - i).toNat) 0 ⟨by omega, by omega⟩ ⟨rfl, i64_eq ?_, sl_eq ?_, rfl, rfl, i64_eq ?_, rfl, rfl, trivial⟩ rfl ?_
  · simp only [List.length_map, ← hc]
    rw [← List.map_take, show Int.toNat 0 = 0 from rfl, List.drop_zero, List.length_map]
    exact hlt
  · simp only [List.length_map, ← hc]
    rw [← List.map_take]
    rfl
  · simp only [List.length_map, ← hc]
  rintro i e ⟨h0, hN⟩
  have hdl := doAll_len (l.take i.toNat) d
  have hstep : i < c → doAll d (l.take (i + 1).toNat) = doM (doAll d (l.take i.toNat)) (ix l i) := fun h => doAll_take d l h0 (by omega)
  have hfin : ¬ i < c → doAll d (l.take i.toNat) = doAll d (l.take cut.toNat) := fun h => by
    by_cases hx : c < l.length
    · rw [show i = cut by omega]
    · rw [show i.toNat = l.length by omega, List.take_length, List.take_of_length_le (by omega)]
  generalize doAll d (l.take i.toNat) = E at hdl hstep hfin
  have hE : E.files.length = 6 := by rw [hdl]; exact hd.2.1
  have hin : ∀ j : Int, 0 ≤ j → j < l.length → StIn E.files.length (ix l j) := fun j j0 j1 => stOk_in (hst _ (ix_mem j0 j1)) (by omega)
  have hsm : ∀ j : Int, 0 ≤ j → j < l.length → SmPs (ix l j).pkgs := fun j j0 j1 => hl.2 _ (ix_mem j0 j1)
  (repeat' first
    | (refine run_ite rfl (fun h => ?_) (fun h => ?_) <;> (try simp (disch := omega) only [z0, z1, z2, z3, z4, z5, z6, z7, z8, z9, z10, z11, z12, z13, z14, z15, z16, z17, z18, z19, z20, z21, z22, z23, z24, z25, eqDs, eqD, z28, z29, z30, z31, z32, z33, z34, z35, z36, z37, Nat.reduceAdd, z39, z40, z41, wrap64] at h) <;> (try (exfalso; omega)))
    | (refine run_need rfl (by (try simp (disch := omega) only [z0, z1, z2, z3, z4, z5, z6, z7, z8, z9, z10, z11, z12, z13, z14, z15, z16, z17, z18, z19, z20, z21, z22, z23, z24, z25, eqDs, eqD, z28, z29, z30, z31, z32, z33, z34, z35, z36, z37, Nat.reduceAdd, z39, z40, z41, wrap64]); first | exact elp_m (by omega) (by omega) (fun _ => rfl) | exact eld_m (by omega) (by omega) (fun _ => rfl) | exact els_m (by omega) (by omega) (by omega) rfl | exact lsl_m (by omega) (fun _ => rfl) | exact app_nil_m (by omega) (fun _ => rfl) (fun _ => rfl) | exact app_m_one (by omega) (fun _ => rfl) rfl rfl | exact app_m_m (by omega) (fun _ => rfl) (fun _ => rfl)) ?_)
    | (refine run_need rfl (by first | decide | omega | (simp only [List.length_map]; omega)) ?_)
    | (refine run_callb (rs := []) (xs := [eDk (doM E (ix l i))]) rfl (diskDo_ok E (ix l i) (hin i h0 (by omega)) (hsm i h0 (by omega))) (by simp (disch := omega) only [z0, z1, z2, z3, z4, z5, z6, z7, z8, z9, z10, z11, z12, z13, z14, z15, z16, z17, z18, z19, z20, z21, z22, z23, z24, z25, eqDs, eqD, z28, z29, z30, z31, z32, z33, z34, z35, z36, z37, Nat.reduceAdd, z39, z40, z41, wrap64, ix_take l h0 (by omega)]) rfl rfl ?_)
    | (refine run_callb (rs := []) (xs := [eDk (tearM E (ix l c))]) rfl (diskTear_ok E (ix l c) (hin c hcl.1 (by omega))) (by simp (disch := omega) only [z0, z1, z2, z3, z4, z5, z6, z7, z8, z9, z10, z11, z12, z13, z14, z15, z16, z17, z18, z19, z20, z21, z22, z23, z24, z25, eqDs, eqD, z28, z29, z30, z31, z32, z33, z34, z35, z36, z37, Nat.reduceAdd, z39, z40, z41, wrap64]) rfl rfl ?_)
    | (refine run_next rfl (Exists.intro (i + 1) ⟨by omega, ⟨by omega, by omega⟩, i64_eq (wrap64 _ (by omega)), rfl, rfl, ?_, rfl, rfl, rfl, rfl, trivial⟩))
    | (refine run_need rfl ?_ ?_)
    | (refine run_ret rfl ?_ ; first | refine rb ?_ | refine ri ?_ | refine rs2 ?_ ?_ | refine rs1 ?_)
    | (refine run_retx rfl ?_))
  · rw [hstep h]; rfl
  · rw [toM, if_pos ⟨by assumption, hc0, by omega⟩, ← hfin (by assumption), show c = cut by omega]
  · rfl
  · rw [toM, if_neg (fun h' => by omega), ← hfin (by assumption)]
  · rfl
  · rw [toM, if_neg (fun h' => by rw [h'.1] at h; cases h), ← hfin (by assumption)]
  · rfl

theorem putF_bd : ∀ (fs : List P2), (∀ f ∈ fs, 0 ≤ f.b ∧ f.b ≤ 9) → ∀ l : List Int, (∀ x ∈ l, -1 ≤ x ∧ x ≤ 9) → ∀ x ∈ putF fs l, -1 ≤ x ∧ x ≤ 9
  | [], _, l, hl => hl
  | f :: fs, hf, l, hl => putF_bd fs (fun g hg => hf g (List.mem_cons_of_mem _ hg)) (l.set f.a.toNat f.b) (fun x hx => by
    have hf0 := hf f (List.mem_cons_self ..)
    rcases List.mem_or_eq_of_mem_set hx with h | h
    · exact hl x h
    · omega)
theorem foldF_bd : ∀ (ps : List Pk), (∀ p ∈ ps, PkOk p) → ∀ l : List Int, (∀ x ∈ l, -1 ≤ x ∧ x ≤ 9) → ∀ x ∈ ps.foldl (fun l p => putF p.files l) l, -1 ≤ x ∧ x ≤ 9
  | [], _, l, hl => hl
  | p :: ps, hp, l, hl => foldF_bd ps (fun q hq => hp q (List.mem_cons_of_mem _ hq)) (putF p.files l) (putF_bd p.files (fun f hf => (pkOk_files (hp p (List.mem_cons_self ..)) hf).2) l hl)
theorem filesM_bd {ps : List Pk} (h : PksOk ps) : ∀ x ∈ filesM ps, -1 ≤ x ∧ x ≤ 9 := by
  refine foldF_bd ps (fun p hp => pksOk_mem h hp) _ (fun x hx => ?_)
  have := List.eq_of_mem_replicate hx
  omega
theorem diffM_data (a b : List Int) : ∀ (n : Nat) (s : Stp), s ∈ diffM a b n → s.data = ix a s.path
  | 0, s, h => by cases h
  | n + 1, s, h => by
    unfold diffM at h
    split at h
    · exact diffM_data a b n s h
    · rcases List.mem_append.1 h with h | h
      · exact diffM_data a b n s h
      · rw [List.mem_singleton.1 h]
theorem dkOk_mends {d : Dk} (h : DkOk d) : ∀ s ∈ mendsM d, StOk s := by
  unfold mendsM
  split
  · intro s hs
    have hP := h.2.2.2.1
    rcases List.mem_append.1 hs with h1 | h1
    · have h2 := diffM_in _ _ _ _ h1
      have h3 := diffM_data _ _ _ _ h1
      have h4 := filesM_bd hP.1 _ (ix_mem h2.1 (by rw [filesM_len]; exact h2.2.1))
      rw [← h3] at h4
      have h5 : s.pkgs.length = 0 := by rw [h2.2.2.2]; rfl
      exact .inr (.inl ⟨h2.2.2.1, by omega, h4, h5⟩)
    · simp only [List.mem_cons, List.not_mem_nil, or_false] at h1
      rcases h1 with rfl | rfl
      · exact .inl ⟨.inr rfl, rfl, rfl, hP⟩
      · exact .inr (.inr ⟨rfl, rfl, rfl, rfl⟩)
  · intro s hs; cases hs
theorem mends_sm {d : Dk} (hs : SmD d) : SmSs (mendsM d) := by
  have := restM_len d d.jour
  unfold mendsM
  split
  · exact ⟨by unfold lim; omega, fun s hm => (restM_in d hs.2.2 (Nat.le_refl 6) s hm).2⟩
  · exact ⟨by unfold lim; simp, fun s hm => by cases hm⟩
theorem iInstMend_ok (d : Dk) (hs : SmD d) : FunOk PP W n_i_InstMend s_i_InstMend [eDk d] [eDk (if DkOk d then mendM d else dkZ), bo (decide (DkOk d))] := by
  refine F_i_InstMend (run_fun ?_)
  have hsm : SmSs (if DkOk d then mendsM d else []) := by
    split
    · exact mends_sm hs
    · exact ⟨by unfold lim; simp, fun s hm => by cases hm⟩
  have h1 : ToOk d (if DkOk d then mendsM d else []) (((if DkOk d then mendsM d else []).map eSt).length : Int) ↔ DkOk d := by
    by_cases h : DkOk d
    · rw [if_pos h]
      exact ⟨fun _ => h, fun _ => ⟨h, by omega, dkOk_mends h⟩⟩
    · exact ⟨fun h' => h'.1, fun h' => absurd h' h⟩
  (repeat' first
    | (refine run_ite rfl (fun h => ?_) (fun h => ?_) <;> (try simp (disch := omega) only [z0, z1, z2, z3, z4, z5, z6, z7, z8, z9, z10, z11, z12, z13, z14, z15, z16, z17, z18, z19, z20, z21, z22, z23, z24, z25, eqDs, eqD, z28, z29, z30, z31, z32, z33, z34, z35, z36, z37, Nat.reduceAdd, z39, z40, z41, wrap64] at h) <;> (try (exfalso; omega)))
    | (refine run_need rfl (by (try simp (disch := omega) only [z0, z1, z2, z3, z4, z5, z6, z7, z8, z9, z10, z11, z12, z13, z14, z15, z16, z17, z18, z19, z20, z21, z22, z23, z24, z25, eqDs, eqD, z28, z29, z30, z31, z32, z33, z34, z35, z36, z37, Nat.reduceAdd, z39, z40, z41, wrap64]); first | exact elp_m (by omega) (by omega) (fun _ => rfl) | exact eld_m (by omega) (by omega) (fun _ => rfl) | exact els_m (by omega) (by omega) (by omega) rfl | exact lsl_m (by omega) (fun _ => rfl) | exact app_nil_m (by omega) (fun _ => rfl) (fun _ => rfl) | exact app_m_one (by omega) (fun _ => rfl) rfl rfl | exact app_m_m (by omega) (fun _ => rfl) (fun _ => rfl)) ?_)
    | (refine run_need rfl (by first | decide | omega | (simp only [List.length_map]; omega)) ?_)
    | (refine run_call1 rfl (iInstMends_ok d hs) rfl ?_)
    | (refine run_callr rfl (iInstTo_ok d _ _ false hs hsm) rfl rfl ?_)
    | (refine run_need rfl ?_ ?_)
    | (refine run_ret rfl ?_ ; first | refine rb ?_ | refine ri ?_ | refine rs2 ?_ ?_ | refine rs1 ?_)
    | (refine run_retx rfl ?_))
  · show eDk (if ToOk d (if DkOk d then mendsM d else []) (((if DkOk d then mendsM d else []).map eSt).length : Int) then _ else dkZ) = _
    by_cases h : DkOk d
    · rw [if_pos (h1.2 h), if_pos h, if_pos h, List.length_map, toM_all]
      rfl
    · rw [if_neg (fun h' => h (h1.1 h')), if_neg h]
  · show bo (decide (ToOk d _ _)) = _
    refine bo_eq ?_
    rw [decide_eq_decide]
    exact h1
end V
end Go.Proofs.Ytgialjcichiaoaa

/-
Plain proofs: what is drawn.
-/
namespace Go.Proofs.Ytgialjcichiaoaa
namespace V
open Classical
set_option maxRecDepth 100000
variable {W : Wld}

/-- A reader of bytes: the bytes, and how many were read. -/
abbrev eRd (b : List Int) (p : Int) : List D := [.sl (b.map eU), .int .i64 p]
def Byt (b : List Int) : Prop := b.length ≤ 2000 ∧ ∀ x ∈ b, 0 ≤ x ∧ x ≤ 255
theorem byt_ix {b : List Int} (h : Byt b) (i : Int) : 0 ≤ ix b i ∧ ix b i ≤ 255 := by
  by_cases hi : i.toNat < b.length
  · refine h.2 _ ?_
    simp [ix, hi]
  · rw [ix_out hi]
    exact ⟨Int.le_refl _, by decide⟩
theorem byt_cI {b : List Int} (h : Byt b) (i : Int) : 0 ≤ cI (b.map eU) i 0 ∧ cI (b.map eU) i 0 ≤ 255 := by rw [cI_U]; exact byt_ix h i

theorem tdiv_bd {k l : Int} (hk : 0 ≤ k) (hl : 1 ≤ l) : 0 ≤ k.tdiv l ∧ k.tdiv l ≤ k := by
  rw [Int.tdiv_eq_ediv_of_nonneg hk]
  exact ⟨Int.ediv_nonneg hk (by omega), Int.ediv_le_self _ hk⟩
theorem mix_bd {x y k l : Int} (hx : 0 ≤ x ∧ x ≤ 255) (hy : 0 ≤ y ∧ y ≤ 255) (hk : 0 ≤ k ∧ k < 1000000000) (hl : 1 ≤ l) :
    0 ≤ IntKind.i64.wrap (IntKind.i64.wrap (IntKind.i64.wrap (IntKind.i64.wrap (IntKind.i64.wrap x * 131) + IntKind.i64.wrap (IntKind.i64.wrap y * 1117)) + IntKind.i64.wrap (k * 29)) + IntKind.i64.wrap (IntKind.i64.wrap (k.tdiv l) * 53)) ∧
    IntKind.i64.wrap (IntKind.i64.wrap (IntKind.i64.wrap (IntKind.i64.wrap (IntKind.i64.wrap x * 131) + IntKind.i64.wrap (IntKind.i64.wrap y * 1117)) + IntKind.i64.wrap (k * 29)) + IntKind.i64.wrap (IntKind.i64.wrap (k.tdiv l) * 53)) < 4611686018427387904 := by
  have hd := tdiv_bd hk.1 hl
  simp (disch := omega) only [wrap64]
  omega
theorem half_bd {x : Int} (h : 0 ≤ x ∧ x < 4611686018427387904) : 0 ≤ IntKind.i64.wrap (x.tdiv 64) ∧ IntKind.i64.wrap (x.tdiv 64) < 4611686018427387904 := by
  have hd := tdiv_bd (l := 64) h.1 (by decide)
  rw [wrap64 _ (by omega)]
  omega
theorem xor_bd {a b : Int} (ha : 0 ≤ a ∧ a < 4611686018427387904) (hb : 0 ≤ b ∧ b < 4611686018427387904) : 0 ≤ IntKind.i64.wrap ↑(BitVec.ofInt IntKind.i64.bits a ^^^ BitVec.ofInt IntKind.i64.bits b).toNat := by
  have hbits : IntKind.i64.bits = 64 := rfl
  have key : ∀ c d : Nat, c < 2 ^ 62 → d < 2 ^ 62 → c ^^^ d < 2 ^ 62 := fun c d h1 h2 => Nat.xor_lt_two_pow h1 h2
  have e1 : (BitVec.ofInt 64 a).toNat = a.toNat := by rw [BitVec.toNat_ofInt]; omega
  have e2 : (BitVec.ofInt 64 b).toNat = b.toNat := by rw [BitVec.toNat_ofInt]; omega
  have h := key a.toNat b.toNat (by omega) (by omega)
  show 0 ≤ IntKind.i64.wrap ↑(BitVec.ofInt 64 a ^^^ BitVec.ofInt 64 b).toNat
  rw [BitVec.toNat_xor, e1, e2, wrap64 _ (by omega)]
  omega

theorem pick_ex (b : List Int) (hb : Byt b) (p n : Int) (hp : 0 ≤ p ∧ p < 1000000000) (hn : 0 ≤ n ∧ n < 1000000000) : ∃ outs, (∃ v : Int, outs = [i64 v, eRd b (p + 1)] ∧ 0 ≤ v ∧ (v < n ∨ v = 0)) ∧ FunOk PP W n_s_l6Rd_pick s_s_l6Rd_pick [eRd b p, i64 n] outs := by
  have hp1 : IntKind.i64.wrap (p + 1) = p + 1 := wrap64 _ (by omega)
  have hp2 : IntKind.i64.wrap (IntKind.i64.wrap (p + 1) - 1) = p := by rw [hp1, wrap64 _ (by omega)]; omega
  have hr : ∀ x : Int, ([D.sl (b.map eU), D.int .i64 (IntKind.i64.wrap (p + 1))] : List D) = eRd b (p + 1) := fun _ => by rw [hp1]
  obtain ⟨outs, h1, h2⟩ := run_funx (Φ := FunOk PP W) (p := p_s_l6Rd_pick) (ins := [eRd b p, i64 n]) (G := fun outs => ∃ v : Int, outs = [i64 v, eRd b (p + 1)] ∧ 0 ≤ v ∧ (v < n ∨ v = 0)) (by
    have hb1 := hb.1
    (repeat' first
    | (refine run_ite rfl (fun h => ?_) (fun h => ?_) <;> (try simp (disch := omega) only [z0, z1, z2, z3, z4, z5, z6, z7, z8, z9, z10, z11, z12, z13, z14, z15, z16, z17, z18, z19, z20, z21, z22, z23, z24, z25, eqDs, eqD, z28, z29, z30, z31, z32, z33, z34, z35, z36, z37, Nat.reduceAdd, z39, z40, z41, wrap64] at h) <;> (try (exfalso; omega)))
    | (refine run_need rfl (by (try simp (disch := omega) only [z0, z1, z2, z3, z4, z5, z6, z7, z8, z9, z10, z11, z12, z13, z14, z15, z16, z17, z18, z19, z20, z21, z22, z23, z24, z25, eqDs, eqD, z28, z29, z30, z31, z32, z33, z34, z35, z36, z37, Nat.reduceAdd, z39, z40, z41, wrap64]); first | exact elp_m (by omega) (by omega) (fun _ => rfl) | exact eld_m (by omega) (by omega) (fun _ => rfl) | exact els_m (by omega) (by omega) (by omega) rfl | exact lsl_m (by omega) (fun _ => rfl) | exact app_nil_m (by omega) (fun _ => rfl) (fun _ => rfl) | exact app_m_one (by omega) (fun _ => rfl) rfl rfl | exact app_m_m (by omega) (fun _ => rfl) (fun _ => rfl)) ?_)
    | (refine run_need rfl (by first | decide | omega | (simp only [List.length_map]; omega)) ?_)
    | (refine run_need rfl (by simp (disch := omega) only [z0, z1, z2, z3, z4, z5, z6, z7, z8, z9, z10, z11, z12, z13, z14, z15, z16, z17, z18, z19, z20, z21, z22, z23, z24, z25, eqDs, eqD, z28, z29, z30, z31, z32, z33, z34, z35, z36, z37, Nat.reduceAdd, z39, z40, z41, wrap64]; exact elp_m (Int.tmod_nonneg _ (by omega)) (Int.tmod_lt_of_pos _ (by omega)) (fun _ => rfl)) ?_)
    | (refine run_need rfl (by simp (disch := omega) only [z0, z1, z2, z3, z4, z5, z6, z7, z8, z9, z10, z11, z12, z13, z14, z15, z16, z17, z18, z19, z20, z21, z22, z23, z24, z25, eqDs, eqD, z28, z29, z30, z31, z32, z33, z34, z35, z36, z37, Nat.reduceAdd, z39, z40, z41, wrap64]; exact eld_m (Int.tmod_nonneg _ (by omega)) (Int.tmod_lt_of_pos _ (by omega)) (fun _ => rfl)) ?_)
    | (refine run_need rfl ?_ ?_)
    | (refine run_ret rfl ?_ ; first | refine rb ?_ | refine ri ?_ | refine rs2 ?_ ?_ | refine rs1 ?_)
    | (refine run_retx rfl ?_))
    · exact ⟨0, rs2 rfl (hr 0), Int.le_refl _, .inr rfl⟩
    · exact ⟨0, rs2 rfl (hr 0), Int.le_refl _, .inr rfl⟩
    · refine ⟨_, rs2 rfl (hr 0), ?_⟩
      have h3 := byt_cI hb (IntKind.i64.wrap (IntKind.i64.wrap (p + 1) - 1))
      rw [wrap64 _ (by omega)]
      exact ⟨Int.tmod_nonneg _ h3.1, .inl (Int.tmod_lt_of_pos _ (by omega))⟩
    · refine ⟨_, rs2 rfl (hr 0), ?_⟩
      refine ⟨Int.tmod_nonneg _ ?_, .inl (Int.tmod_lt_of_pos _ (by omega))⟩
      have h3 := mix_bd (l := ((b.map eU).length : Int)) (byt_cI hb ((IntKind.i64.wrap (IntKind.i64.wrap (p + 1) - 1)).tmod ((b.map eU).length : Int))) (byt_cI hb ((IntKind.i64.wrap (IntKind.i64.wrap (IntKind.i64.wrap (IntKind.i64.wrap (p + 1) - 1) * 7) + 3)).tmod ((b.map eU).length : Int))) (k := IntKind.i64.wrap (IntKind.i64.wrap (p + 1) - 1)) (by rw [hp2]; exact hp) (by rw [List.length_map]; omega)
      exact xor_bd h3 (half_bd h3))
  exact ⟨outs, h1, F_s_l6Rd_pick h2⟩
end V
end Go.Proofs.Ytgialjcichiaoaa

/-
Plain proofs: drawn packages.
-/
namespace Go.Proofs.Ytgialjcichiaoaa
namespace V
open Classical
set_option maxRecDepth 100000
variable {W : Wld}

theorem open_ok (b : List Int) (hb : b.length ≤ 1048576) : FunOk PP W n_s_l6Open s_s_l6Open [eBs b] [eRd (b.take 2000) 0] := by
  refine F_s_l6Open (run_fun ?_)
  (repeat' first
    | (refine run_ite rfl (fun h => ?_) (fun h => ?_) <;> (try simp (disch := omega) only [z0, z1, z2, z3, z4, z5, z6, z7, z8, z9, z10, z11, z12, z13, z14, z15, z16, z17, z18, z19, z20, z21, z22, z23, z24, z25, eqDs, eqD, z28, z29, z30, z31, z32, z33, z34, z35, z36, z37, Nat.reduceAdd, z39, z40, z41, wrap64] at h) <;> (try (exfalso; omega)))
    | (refine run_need rfl (by (try simp (disch := omega) only [z0, z1, z2, z3, z4, z5, z6, z7, z8, z9, z10, z11, z12, z13, z14, z15, z16, z17, z18, z19, z20, z21, z22, z23, z24, z25, eqDs, eqD, z28, z29, z30, z31, z32, z33, z34, z35, z36, z37, Nat.reduceAdd, z39, z40, z41, wrap64]); first | exact elp_m (by omega) (by omega) (fun _ => rfl) | exact eld_m (by omega) (by omega) (fun _ => rfl) | exact els_m (by omega) (by omega) (by omega) rfl | exact lsl_m (by omega) (fun _ => rfl) | exact app_nil_m (by omega) (fun _ => rfl) (fun _ => rfl) | exact app_m_one (by omega) (fun _ => rfl) rfl rfl | exact app_m_m (by omega) (fun _ => rfl) (fun _ => rfl)) ?_)
    | (refine run_need rfl (by first | decide | omega | (simp only [List.length_map]; omega)) ?_)
    | (refine run_need rfl ?_ ?_)
    | (refine run_ret rfl ?_ ; first | refine rb ?_ | refine ri ?_ | refine rs2 ?_ ?_ | refine rs1 ?_)
    | (refine run_retx rfl ?_))
  · show [D.sl (((b.map eU).take 2000).drop 0), D.int .i64 0] = _
    rw [List.drop_zero, ← List.map_take]
  · rw [List.take_of_length_le (by omega)]

/-- A package that is drawn: short, its names in the range. -/
def DrPk (q : Pk) : Prop := (1 ≤ q.name ∧ q.name ≤ 4) ∧ q.files.length ≤ 3 ∧ q.deps.length ≤ 3 ∧ ∀ d ∈ q.deps, 1 ≤ d.a ∧ d.a ≤ 4
theorem pkg_ex (b : List Int) (hb : Byt b) (p name ver : Int) (hp : 0 ≤ p ∧ p < 900000000) (hn : 1 ≤ name ∧ name ≤ 4) : ∃ outs, (∃ q p', outs = [ePk q, eRd b p'] ∧ DrPk q ∧ p ≤ p' ∧ p' ≤ p + 30) ∧ FunOk PP W n_s_l71Pkg s_s_l71Pkg [eRd b p, i64 name, i64 ver] outs := by
  obtain ⟨outs, h1, h2⟩ := run_funx (Φ := FunOk PP W) (p := p_s_l71Pkg) (ins := [eRd b p, i64 name, i64 ver]) (G := fun outs => ∃ q p', outs = [ePk q, eRd b p'] ∧ DrPk q ∧ p ≤ p' ∧ p' ≤ p + 30) (by
    (repeat' first
    | (refine run_ite rfl (fun h => ?_) (fun h => ?_) <;> (try simp (disch := omega) only [z0, z1, z2, z3, z4, z5, z6, z7, z8, z9, z10, z11, z12, z13, z14, z15, z16, z17, z18, z19, z20, z21, z22, z23, z24, z25, eqDs, eqD, z28, z29, z30, z31, z32, z33, z34, z35, z36, z37, Nat.reduceAdd, z39, z40, z41, wrap64] at h) <;> (try (exfalso; omega)))
    | (refine run_need rfl (by (try simp (disch := omega) only [z0, z1, z2, z3, z4, z5, z6, z7, z8, z9, z10, z11, z12, z13, z14, z15, z16, z17, z18, z19, z20, z21, z22, z23, z24, z25, eqDs, eqD, z28, z29, z30, z31, z32, z33, z34, z35, z36, z37, Nat.reduceAdd, z39, z40, z41, wrap64]); first | exact elp_m (by omega) (by omega) (fun _ => rfl) | exact eld_m (by omega) (by omega) (fun _ => rfl) | exact els_m (by omega) (by omega) (by omega) rfl | exact lsl_m (by omega) (fun _ => rfl) | exact app_nil_m (by omega) (fun _ => rfl) (fun _ => rfl) | exact app_m_one (by omega) (fun _ => rfl) rfl rfl | exact app_m_m (by omega) (fun _ => rfl) (fun _ => rfl)) ?_)
    | (refine run_need rfl (by first | decide | omega | (simp only [List.length_map]; omega)) ?_)
    | (refine run_callx rfl (pick_ex b hb _ _ (by first | omega | (simp only [List.length_map]; omega)) (by first | omega | (simp only [List.length_map]; omega))) rfl (fun outs hG => ?_); obtain ⟨v, rfl, hv0, hv1⟩ := hG; (try simp only [List.length_map] at hv1); refine ⟨[i64 v], [eRd b _], rfl, rfl, rfl, ?_⟩)
    | (refine run_need rfl ?_ ?_)
    | (refine run_ret rfl ?_ ; first | refine rb ?_ | refine ri ?_ | refine rs2 ?_ ?_ | refine rs1 ?_)
    | (refine run_retx rfl ?_))
    rename_i a0 ha0 ha1
    refine run_loop rfl (fun x : Int × Int × Int × List P2 => (0 ≤ x.1 ∧ x.1 ≤ 2) ∧ (0 ≤ x.2.1 ∧ x.2.1 ≤ 30 - 8 * x.1) ∧ (p + 2 ≤ x.2.2.1 ∧ x.2.2.1 ≤ p + 6 - 2 * x.1) ∧ (x.2.2.2.length : Int) ≤ 2 - x.1) (fun x => [(9, .val (i64 x.1)), (8, .val (i64 x.2.1)), (0, .val (eRd b x.2.2.1)), (7, .val (ePk ⟨name, ver, x.2.2.2, []⟩)), (6, .val (ePk default)), (1, .val (i64 name))]) (fun x => x.1.toNat) (v, a0, p + 1 + 1, []) ⟨by dsimp only; omega, by dsimp only; omega, by dsimp only; omega, by simp; omega⟩ ⟨rfl, rfl, rfl, rfl, rfl, rfl, trivial⟩ rfl ?_
    rintro ⟨n, a, q, fs⟩ e ⟨h0, h1, h2, h3⟩
    dsimp only at h0 h1 h2 h3 ⊢
    (repeat' first
    | (refine run_ite rfl (fun h => ?_) (fun h => ?_) <;> (try simp (disch := omega) only [z0, z1, z2, z3, z4, z5, z6, z7, z8, z9, z10, z11, z12, z13, z14, z15, z16, z17, z18, z19, z20, z21, z22, z23, z24, z25, eqDs, eqD, z28, z29, z30, z31, z32, z33, z34, z35, z36, z37, Nat.reduceAdd, z39, z40, z41, wrap64] at h) <;> (try (exfalso; omega)))
    | (refine run_need rfl (by (try simp (disch := omega) only [z0, z1, z2, z3, z4, z5, z6, z7, z8, z9, z10, z11, z12, z13, z14, z15, z16, z17, z18, z19, z20, z21, z22, z23, z24, z25, eqDs, eqD, z28, z29, z30, z31, z32, z33, z34, z35, z36, z37, Nat.reduceAdd, z39, z40, z41, wrap64]); first | exact elp_m (by omega) (by omega) (fun _ => rfl) | exact eld_m (by omega) (by omega) (fun _ => rfl) | exact els_m (by omega) (by omega) (by omega) rfl | exact lsl_m (by omega) (fun _ => rfl) | exact app_nil_m (by omega) (fun _ => rfl) (fun _ => rfl) | exact app_m_one (by omega) (fun _ => rfl) rfl rfl | exact app_m_m (by omega) (fun _ => rfl) (fun _ => rfl)) ?_)
    | (refine run_need rfl (by first | decide | omega | (simp only [List.length_map]; omega)) ?_)
    | (refine run_callx rfl (pick_ex b hb _ _ (by first | omega | (simp only [List.length_map]; omega)) (by first | omega | (simp only [List.length_map]; omega))) rfl (fun outs hG => ?_); obtain ⟨v, rfl, hv0, hv1⟩ := hG; (try simp only [List.length_map] at hv1); refine ⟨[i64 v], [eRd b _], rfl, rfl, rfl, ?_⟩)
    | (refine run_need rfl ?_ ?_)
    | (refine run_ret rfl ?_ ; first | refine rb ?_ | refine ri ?_ | refine rs2 ?_ ?_ | refine rs1 ?_)
    | (refine run_retx rfl ?_))
    · rename_i w0 hw0 hw1
      exact run_next rfl (Exists.intro (n - 1, a + 1 + v, q + 1 + 1, fs ++ [⟨a, w0⟩]) ⟨by dsimp only; omega, ⟨by dsimp only; omega, by dsimp only; omega, by dsimp only; omega, by simp; omega⟩, i64_eq (wrap64 _ (by omega)), i64_eq (by simp (disch := omega) only [wrap64]), rfl, by dsimp only [ePk]; rw [List.map_append]; rfl, rfl, rfl, trivial⟩)
    all_goals (
      refine run_loop rfl (fun x : Int × Int × List P2 => (1 ≤ x.1 ∧ x.1 ≤ 5) ∧ (p ≤ x.2.1 ∧ x.2.1 ≤ p + 6 + 2 * x.1) ∧ x.2.2.length ≤ 2 ∧ ∀ d ∈ x.2.2, 1 ≤ d.a ∧ d.a ≤ 4) (fun x => [(10, .val (i64 x.1)), (0, .val (eRd b x.2.1)), (7, .val (ePk ⟨name, ver, fs, x.2.2⟩)), (6, .val (ePk default)), (1, .val (i64 name))]) (fun x => (6 - x.1).toNat) (1, q, []) ⟨by dsimp only; omega, by dsimp only; omega, by simp, by simp⟩ ⟨rfl, rfl, rfl, rfl, rfl, trivial⟩ rfl ?_
      rintro ⟨d, r, ds⟩ e ⟨g0, g1, g2, g3⟩
      dsimp only at g0 g1 g2 g3 ⊢
      (repeat' first
    | (refine run_ite rfl (fun h => ?_) (fun h => ?_) <;> (try simp (disch := omega) only [z0, z1, z2, z3, z4, z5, z6, z7, z8, z9, z10, z11, z12, z13, z14, z15, z16, z17, z18, z19, z20, z21, z22, z23, z24, z25, eqDs, eqD, z28, z29, z30, z31, z32, z33, z34, z35, z36, z37, Nat.reduceAdd, z39, z40, z41, wrap64] at h) <;> (try (exfalso; omega)))
    | (refine run_need rfl (by (try simp (disch := omega) only [z0, z1, z2, z3, z4, z5, z6, z7, z8, z9, z10, z11, z12, z13, z14, z15, z16, z17, z18, z19, z20, z21, z22, z23, z24, z25, eqDs, eqD, z28, z29, z30, z31, z32, z33, z34, z35, z36, z37, Nat.reduceAdd, z39, z40, z41, wrap64]); first | exact elp_m (by omega) (by omega) (fun _ => rfl) | exact eld_m (by omega) (by omega) (fun _ => rfl) | exact els_m (by omega) (by omega) (by omega) rfl | exact lsl_m (by omega) (fun _ => rfl) | exact app_nil_m (by omega) (fun _ => rfl) (fun _ => rfl) | exact app_m_one (by omega) (fun _ => rfl) rfl rfl | exact app_m_m (by omega) (fun _ => rfl) (fun _ => rfl)) ?_)
    | (refine run_need rfl (by first | decide | omega | (simp only [List.length_map]; omega)) ?_)
    | (refine run_callx rfl (pick_ex b hb _ _ (by first | omega | (simp only [List.length_map]; omega)) (by first | omega | (simp only [List.length_map]; omega))) rfl (fun outs hG => ?_); obtain ⟨v, rfl, hv0, hv1⟩ := hG; (try simp only [List.length_map] at hv1); refine ⟨[i64 v], [eRd b _], rfl, rfl, rfl, ?_⟩)
    | (refine run_next rfl (Exists.intro (d + 1, r, ds) ⟨by dsimp only; omega, ⟨by dsimp only; omega, by dsimp only; omega, g2, g3⟩, i64_eq (wrap64 _ (by omega)), rfl, rfl, rfl, rfl, trivial⟩))
    | (refine run_next rfl (Exists.intro (d + 1, r + 1, ds) ⟨by dsimp only; omega, ⟨by dsimp only; omega, by dsimp only; omega, g2, g3⟩, i64_eq (wrap64 _ (by omega)), rfl, rfl, rfl, rfl, trivial⟩))
    | (refine run_next rfl (Exists.intro (d + 1, r + 1 + 1, ds ++ [⟨d, 1 + v⟩]) ⟨by dsimp only; omega, ⟨by dsimp only; omega, by dsimp only; omega, by simp; omega, ?_⟩, i64_eq (wrap64 _ (by omega)), rfl, ?_, rfl, rfl, trivial⟩))
    | (refine run_need rfl ?_ ?_)
    | (refine run_ret rfl ?_ ; first | refine rb ?_ | refine ri ?_ | refine rs2 ?_ ?_ | refine rs1 ?_)
    | (refine run_retx rfl ?_))
      all_goals first
        | exact ⟨⟨name, ver, fs, ds⟩, r, rfl, ⟨hn, by dsimp only; omega, by dsimp only; omega, g3⟩, by omega, by omega⟩
        | (intro x hx; rcases List.mem_append.1 hx with h' | h'; exact g3 x h'; rw [List.mem_singleton.1 h']; dsimp only; omega)
        | (refine Eq.trans (b := [.int .i64 name, .int .i64 ver, .sl (fs.map eP2), .sl (ds.map eP2 ++ [[.int .i64 d, .int .i64 (IntKind.i64.wrap (1 + v))]])]) rfl ?_; rw [wrap64 _ (by omega)]; dsimp only [ePk]; rw [List.map_append]; rfl)))
  exact ⟨outs, h1, F_s_l71Pkg h2⟩

theorem find_ex (ps : List Pk) (hl : ps.length ≤ lim) (n v : Int) : ∃ outs, (∃ k : Int, outs = [i64 k]) ∧ FunOk PP W n_s_l12Find s_s_l12Find [ePks ps, i64 n, i64 v] outs := by
  obtain ⟨outs, h1, h2⟩ := run_funx (Φ := FunOk PP W) (p := p_s_l12Find) (ins := [ePks ps, i64 n, i64 v]) (G := fun outs => ∃ k : Int, outs = [i64 k]) (by
    unfold lim at hl
    refine run_loop rfl (fun i : Int => 0 ≤ i ∧ i ≤ ps.length) (fun i => [(7, .val (i64 i)), (0, .val (ePks ps)), (1, .val (i64 n)), (2, .val (i64 v))]) (fun i => (ps.length - i).toNat) 0 ⟨by omega, by omega⟩ ⟨rfl, rfl, rfl, rfl, trivial⟩ rfl ?_
    rintro i e ⟨h0, hN⟩
    (repeat' first
    | (refine run_ite rfl (fun h => ?_) (fun h => ?_) <;> (try simp (disch := omega) only [z0, z1, z2, z3, z4, z5, z6, z7, z8, z9, z10, z11, z12, z13, z14, z15, z16, z17, z18, z19, z20, z21, z22, z23, z24, z25, eqDs, eqD, z28, z29, z30, z31, z32, z33, z34, z35, z36, z37, Nat.reduceAdd, z39, z40, z41, wrap64] at h) <;> (try (exfalso; omega)))
    | (refine run_need rfl (by (try simp (disch := omega) only [z0, z1, z2, z3, z4, z5, z6, z7, z8, z9, z10, z11, z12, z13, z14, z15, z16, z17, z18, z19, z20, z21, z22, z23, z24, z25, eqDs, eqD, z28, z29, z30, z31, z32, z33, z34, z35, z36, z37, Nat.reduceAdd, z39, z40, z41, wrap64]); first | exact elp_m (by omega) (by omega) (fun _ => rfl) | exact eld_m (by omega) (by omega) (fun _ => rfl) | exact els_m (by omega) (by omega) (by omega) rfl | exact lsl_m (by omega) (fun _ => rfl) | exact app_nil_m (by omega) (fun _ => rfl) (fun _ => rfl) | exact app_m_one (by omega) (fun _ => rfl) rfl rfl | exact app_m_m (by omega) (fun _ => rfl) (fun _ => rfl)) ?_)
    | (refine run_need rfl (by first | decide | omega | (simp only [List.length_map]; omega)) ?_)
    | (refine run_next rfl (Exists.intro (i + 1) ⟨by omega, ⟨by omega, by omega⟩, i64_eq (wrap64 _ (by omega)), rfl, rfl, rfl, trivial⟩))
    | (refine run_need rfl ?_ ?_)
    | (refine run_ret rfl ?_ ; first | refine rb ?_ | refine ri ?_ | refine rs2 ?_ ?_ | refine rs1 ?_)
    | (refine run_retx rfl ?_))
    all_goals exact ⟨_, rfl⟩)
  exact ⟨outs, h1, F_s_l12Find h2⟩

/-- Packages, with one more. -/
noncomputable def withM (ps : List Pk) (p : Pk) : List Pk := ps.filter (fun q => decide (lessM q p)) ++ [p] ++ ps.filter (fun q => decide (lessM p q))
theorem filter_take {α : Type} [Inhabited α] (f : α → Bool) (ps : List α) {i : Int} (h0 : 0 ≤ i) (h1 : i < ps.length) : (ps.take (i + 1).toNat).filter f = (ps.take i.toNat).filter f ++ if f (ix ps i) = true then [ix ps i] else [] := by
  rw [take_ix ps h0 h1, List.filter_append]
  congr 1
  by_cases h : f (ix ps i) = true <;> simp [h]
theorem l12With_ok (ps : List Pk) (hs : SmPs ps) (h1 : ps.length ≤ 1000000) (p : Pk) (hp : SmP p) : FunOk PP W n_s_l12With s_s_l12With [ePks ps, ePk p] [ePks (withM ps p)] := by
  refine F_s_l12With (run_fun ?_)
  (repeat' first
    | (refine run_ite rfl (fun h => ?_) (fun h => ?_) <;> (try simp (disch := omega) only [z0, z1, z2, z3, z4, z5, z6, z7, z8, z9, z10, z11, z12, z13, z14, z15, z16, z17, z18, z19, z20, z21, z22, z23, z24, z25, eqDs, eqD, z28, z29, z30, z31, z32, z33, z34, z35, z36, z37, Nat.reduceAdd, z39, z40, z41, wrap64] at h) <;> (try (exfalso; omega)))
    | (refine run_need rfl (by (try simp (disch := omega) only [z0, z1, z2, z3, z4, z5, z6, z7, z8, z9, z10, z11, z12, z13, z14, z15, z16, z17, z18, z19, z20, z21, z22, z23, z24, z25, eqDs, eqD, z28, z29, z30, z31, z32, z33, z34, z35, z36, z37, Nat.reduceAdd, z39, z40, z41, wrap64]); first | exact elp_m (by omega) (by omega) (fun _ => rfl) | exact eld_m (by omega) (by omega) (fun _ => rfl) | exact els_m (by omega) (by omega) (by omega) rfl | exact lsl_m (by omega) (fun _ => rfl) | exact app_nil_m (by omega) (fun _ => rfl) (fun _ => rfl) | exact app_m_one (by omega) (fun _ => rfl) rfl rfl | exact app_m_m (by omega) (fun _ => rfl) (fun _ => rfl)) ?_)
    | (refine run_need rfl (by first | decide | omega | (simp only [List.length_map]; omega)) ?_)
    | (refine run_need rfl ?_ ?_)
    | (refine run_ret rfl ?_ ; first | refine rb ?_ | refine ri ?_ | refine rs2 ?_ ?_ | refine rs1 ?_)
    | (refine run_retx rfl ?_))
  refine run_loop rfl (fun i : Int => 0 ≤ i ∧ i ≤ ps.length) (fun i => [(6, .val (i64 i)), (0, .val (ePks ps)), (5, .val (ePks ((ps.take i.toNat).filter (fun q => decide (lessM q p))))), (3, .val (ePk p))]) (fun i => (ps.length - i).toNat) 0 ⟨by omega, by omega⟩ ⟨rfl, rfl, rfl, rfl, trivial⟩ rfl ?_
  rintro i e ⟨h0, hN⟩
  have hft := filter_take (fun q => decide (lessM q p)) ps (i := i) h0
  have hfl : ((ps.take i.toNat).filter (fun q => decide (lessM q p))).length ≤ ps.length := Nat.le_trans (List.length_filter_le _ _) (by rw [List.length_take]; omega)
  have hfin : ¬ i < ps.length → (ps.take i.toNat).filter (fun q => decide (lessM q p)) = ps.filter (fun q => decide (lessM q p)) := fun h => by rw [List.take_of_length_le (by omega)]
  generalize (ps.take i.toNat).filter (fun q => decide (lessM q p)) = A at hft hfl hfin
  (repeat' first
    | (refine run_ite rfl (fun h => ?_) (fun h => ?_) <;> (try simp (disch := omega) only [z0, z1, z2, z3, z4, z5, z6, z7, z8, z9, z10, z11, z12, z13, z14, z15, z16, z17, z18, z19, z20, z21, z22, z23, z24, z25, eqDs, eqD, z28, z29, z30, z31, z32, z33, z34, z35, z36, z37, Nat.reduceAdd, z39, z40, z41, wrap64] at h) <;> (try (exfalso; omega)))
    | (refine run_need rfl (by (try simp (disch := omega) only [z0, z1, z2, z3, z4, z5, z6, z7, z8, z9, z10, z11, z12, z13, z14, z15, z16, z17, z18, z19, z20, z21, z22, z23, z24, z25, eqDs, eqD, z28, z29, z30, z31, z32, z33, z34, z35, z36, z37, Nat.reduceAdd, z39, z40, z41, wrap64]); first | exact elp_m (by omega) (by omega) (fun _ => rfl) | exact eld_m (by omega) (by omega) (fun _ => rfl) | exact els_m (by omega) (by omega) (by omega) rfl | exact lsl_m (by omega) (fun _ => rfl) | exact app_nil_m (by omega) (fun _ => rfl) (fun _ => rfl) | exact app_m_one (by omega) (fun _ => rfl) rfl rfl | exact app_m_m (by omega) (fun _ => rfl) (fun _ => rfl)) ?_)
    | (refine run_need rfl (by first | decide | omega | (simp only [List.length_map]; omega)) ?_)
    | (refine run_calleq rfl (l3Less_ok (ix ps i).name (ix ps i).ver p.name p.ver) (by simp (disch := omega) only [z0, z1, z2, z3, z4, z5, z6, z7, z8, z9, z10, z11, z12, z13, z14, z15, z16, z17, z18, z19, z20, z21, z22, z23, z24, z25, eqDs, eqD, z28, z29, z30, z31, z32, z33, z34, z35, z36, z37, Nat.reduceAdd, z39, z40, z41, wrap64]) rfl ?_)
    | (refine run_next rfl (Exists.intro (i + 1) ⟨by omega, ⟨by omega, by omega⟩, i64_eq (wrap64 _ (by omega)), rfl, ?_, rfl, trivial⟩))
    | (refine run_need rfl ?_ ?_)
    | (refine run_ret rfl ?_ ; first | refine rb ?_ | refine ri ?_ | refine rs2 ?_ ?_ | refine rs1 ?_)
    | (refine run_retx rfl ?_))
  · rw [hft (by assumption), if_pos (decide_eq_true (show lessM (ix ps i) p from h))]
    refine sl_eq ?_
    simp only [z0, z1, z2, z3, z4, z5, z6, z7, z8, z9, z10, z11, z12, z13, z14, z15, z16, z17, z18, z19, z20, z21, z22, z23, z24, z25, eqDs, eqD, z28, z29, z30, z31, z32, z33, z34, z35, z36, z37, Nat.reduceAdd, z39, z40, z41, List.map_append]
    rfl
  · rw [hft (by assumption), if_neg (by rw [decide_eq_true_eq]; exact h), List.append_nil]
    rfl
  have hA := hfin h
  clear hft hfin h h0 hN
  unfold withM
  rw [← hA]
  clear hA
  refine run_loop rfl (fun i : Int => 0 ≤ i ∧ i ≤ ps.length) (fun i => [(7, .val (i64 i)), (0, .val (ePks ps)), (5, .val (ePks (A ++ [p] ++ (ps.take i.toNat).filter (fun q => decide (lessM p q))))), (3, .val (ePk p))]) (fun i => (ps.length - i).toNat) 0 ⟨by omega, by omega⟩ ⟨rfl, rfl, ?_, rfl, trivial⟩ rfl ?_
  · refine sl_eq ?_
    rw [show (ps.take (0 : Int).toNat).filter (fun q => decide (lessM p q)) = [] from rfl, List.append_nil, List.map_append]
    rfl
  rintro i e ⟨h0, hN⟩
  have hft := filter_take (fun q => decide (lessM p q)) ps (i := i) h0
  have hfl2 : ((ps.take i.toNat).filter (fun q => decide (lessM p q))).length ≤ ps.length := Nat.le_trans (List.length_filter_le _ _) (by rw [List.length_take]; omega)
  have hfin : ¬ i < ps.length → (ps.take i.toNat).filter (fun q => decide (lessM p q)) = ps.filter (fun q => decide (lessM p q)) := fun h => by rw [List.take_of_length_le (by omega)]
  generalize (ps.take i.toNat).filter (fun q => decide (lessM p q)) = B at hft hfl2 hfin
  have hBl : (A ++ [p] ++ B).length ≤ 2000001 := by simp; omega
  have hft2 : i < ps.length → A ++ [p] ++ (ps.take (i + 1).toNat).filter (fun q => decide (lessM p q)) = (A ++ [p] ++ B) ++ if decide (lessM p (ix ps i)) = true then [ix ps i] else [] := fun h => by rw [hft h]; simp only [List.append_assoc]
  have hfin2 : ¬ i < ps.length → A ++ [p] ++ B = A ++ [p] ++ ps.filter (fun q => decide (lessM p q)) := fun h => by rw [hfin h]
  generalize A ++ [p] ++ B = E at hBl hft2 hfin2
  (repeat' first
    | (refine run_ite rfl (fun h => ?_) (fun h => ?_) <;> (try simp (disch := omega) only [z0, z1, z2, z3, z4, z5, z6, z7, z8, z9, z10, z11, z12, z13, z14, z15, z16, z17, z18, z19, z20, z21, z22, z23, z24, z25, eqDs, eqD, z28, z29, z30, z31, z32, z33, z34, z35, z36, z37, Nat.reduceAdd, z39, z40, z41, wrap64] at h) <;> (try (exfalso; omega)))
    | (refine run_need rfl (by (try simp (disch := omega) only [z0, z1, z2, z3, z4, z5, z6, z7, z8, z9, z10, z11, z12, z13, z14, z15, z16, z17, z18, z19, z20, z21, z22, z23, z24, z25, eqDs, eqD, z28, z29, z30, z31, z32, z33, z34, z35, z36, z37, Nat.reduceAdd, z39, z40, z41, wrap64]); first | exact elp_m (by omega) (by omega) (fun _ => rfl) | exact eld_m (by omega) (by omega) (fun _ => rfl) | exact els_m (by omega) (by omega) (by omega) rfl | exact lsl_m (by omega) (fun _ => rfl) | exact app_nil_m (by omega) (fun _ => rfl) (fun _ => rfl) | exact app_m_one (by omega) (fun _ => rfl) rfl rfl | exact app_m_m (by omega) (fun _ => rfl) (fun _ => rfl)) ?_)
    | (refine run_need rfl (by first | decide | omega | (simp only [List.length_map]; omega)) ?_)
    | (refine run_calleq rfl (l3Less_ok p.name p.ver (ix ps i).name (ix ps i).ver) (by simp (disch := omega) only [z0, z1, z2, z3, z4, z5, z6, z7, z8, z9, z10, z11, z12, z13, z14, z15, z16, z17, z18, z19, z20, z21, z22, z23, z24, z25, eqDs, eqD, z28, z29, z30, z31, z32, z33, z34, z35, z36, z37, Nat.reduceAdd, z39, z40, z41, wrap64]) rfl ?_)
    | (refine run_next rfl (Exists.intro (i + 1) ⟨by omega, ⟨by omega, by omega⟩, i64_eq (wrap64 _ (by omega)), rfl, ?_, rfl, trivial⟩))
    | (refine run_need rfl ?_ ?_)
    | (refine run_ret rfl ?_ ; first | refine rb ?_ | refine ri ?_ | refine rs2 ?_ ?_ | refine rs1 ?_)
    | (refine run_retx rfl ?_))
  · rw [hft2 (by assumption), if_pos (decide_eq_true (show lessM p (ix ps i) from h))]
    refine sl_eq ?_
    simp only [z0, z1, z2, z3, z4, z5, z6, z7, z8, z9, z10, z11, z12, z13, z14, z15, z16, z17, z18, z19, z20, z21, z22, z23, z24, z25, eqDs, eqD, z28, z29, z30, z31, z32, z33, z34, z35, z36, z37, Nat.reduceAdd, z39, z40, z41, List.map_append]
    rfl
  · rw [hft2 (by assumption), if_neg (by rw [decide_eq_true_eq]; exact h), List.append_nil]
    rfl
  · rw [hfin2 h]

theorem filter2_len {α : Type} (f g : α → Bool) (h : ∀ x, f x = true → g x = true → False) : ∀ l : List α, (l.filter f).length + (l.filter g).length ≤ l.length
  | [] => by simp
  | x :: l => by
    have := filter2_len f g h l
    have hx := h x
    simp only [List.filter_cons, List.length_cons]
    split <;> split <;> simp_all <;> omega
theorem less_not {p q : Pk} (h1 : lessM p q) (h2 : lessM q p) : False := by unfold lessM at h1 h2; omega
theorem withM_len (ps : List Pk) (p : Pk) : (withM ps p).length ≤ ps.length + 1 := by
  have := filter2_len (fun q => decide (lessM q p)) (fun q => decide (lessM p q)) (fun x h1 h2 => less_not (of_decide_eq_true h1) (of_decide_eq_true h2)) ps
  unfold withM
  simp only [List.length_append, List.length_singleton]
  omega
theorem withM_mem {ps : List Pk} {p q : Pk} (h : q ∈ withM ps p) : q ∈ ps ∨ q = p := by
  unfold withM at h
  simp only [List.mem_append, List.mem_filter, List.mem_singleton] at h
  rcases h with (⟨h, _⟩ | h) | ⟨h, _⟩
  · exact .inl h
  · exact .inr h
  · exact .inl h
theorem withM_self (ps : List Pk) (p : Pk) : p ∈ withM ps p := by unfold withM; simp
theorem withM_old {ps : List Pk} {p q : Pk} (h : q ∈ ps) (hn : q.name ≠ p.name) : q ∈ withM ps p := by
  unfold withM
  simp only [List.mem_append, List.mem_filter, List.mem_singleton, decide_eq_true_eq]
  unfold lessM
  rcases Int.lt_or_gt_of_ne hn with h1 | h1
  · exact .inl (.inl ⟨h, .inl h1⟩)
  · exact .inr ⟨h, .inl h1⟩

def DrPks (ps : List Pk) : Prop := ∀ q ∈ ps, DrPk q
theorem drPk_sm {q : Pk} (h : DrPk q) : SmP q := by
  obtain ⟨_, h1, h2, _⟩ := h
  unfold SmP lim
  omega
theorem drPks_sm {ps : List Pk} (h : DrPks ps) (hl : ps.length ≤ 1000) : SmPs ps := ⟨by unfold lim; omega, fun q hq => drPk_sm (h q hq)⟩

end V
end Go.Proofs.Ytgialjcichiaoaa

/-
Plain proofs: drawn lists of packages.
-/
namespace Go.Proofs.Ytgialjcichiaoaa
namespace V
open Classical
set_option maxRecDepth 100000
variable {W : Wld}

theorem pkgs_ex (b : List Int) (hb : Byt b) (p : Int) (hp : 0 ≤ p ∧ p < 800000000) : ∃ outs, (∃ ps p', outs = [ePks ps, eRd b p'] ∧ DrPks ps ∧ ps.length ≤ 7 ∧ p ≤ p' ∧ p' ≤ p + 300) ∧ FunOk PP W n_s_l71Pkgs s_s_l71Pkgs [eRd b p] outs := by
  obtain ⟨outs, h1, h2⟩ := run_funx (Φ := FunOk PP W) (p := p_s_l71Pkgs) (ins := [eRd b p]) (G := fun outs => ∃ ps p', outs = [ePks ps, eRd b p'] ∧ DrPks ps ∧ ps.length ≤ 7 ∧ p ≤ p' ∧ p' ≤ p + 300) (by
    (repeat' first
    | (refine run_ite rfl (fun h => ?_) (fun h => ?_) <;> (try simp (disch := omega) only [z0, z1, z2, z3, z4, z5, z6, z7, z8, z9, z10, z11, z12, z13, z14, z15, z16, z17, z18, z19, z20, z21, z22, z23, z24, z25, eqDs, eqD, z28, z29, z30, z31, z32, z33, z34, z35, z36, z37, Nat.reduceAdd, z39, z40, z41, wrap64] at h) <;> (try (exfalso; omega)))
    | (refine run_need rfl (by (try simp (disch := omega) only [z0, z1, z2, z3, z4, z5, z6, z7, z8, z9, z10, z11, z12, z13, z14, z15, z16, z17, z18, z19, z20, z21, z22, z23, z24, z25, eqDs, eqD, z28, z29, z30, z31, z32, z33, z34, z35, z36, z37, Nat.reduceAdd, z39, z40, z41, wrap64]); first | exact elp_m (by omega) (by omega) (fun _ => rfl) | exact eld_m (by omega) (by omega) (fun _ => rfl) | exact els_m (by omega) (by omega) (by omega) rfl | exact lsl_m (by omega) (fun _ => rfl) | exact app_nil_m (by omega) (fun _ => rfl) (fun _ => rfl) | exact app_m_one (by omega) (fun _ => rfl) rfl rfl | exact app_m_m (by omega) (fun _ => rfl) (fun _ => rfl)) ?_)
    | (refine run_need rfl (by first | decide | omega | (simp only [List.length_map]; omega)) ?_)
    | (refine run_callx rfl (pick_ex b hb _ _ (by first | omega | (simp only [List.length_map]; omega)) (by first | omega | (simp only [List.length_map]; omega))) rfl (fun outs hG => ?_); obtain ⟨v, rfl, hv0, hv1⟩ := hG; (try simp only [List.length_map] at hv1); refine ⟨[i64 v], [eRd b _], rfl, rfl, rfl, ?_⟩)
    | (refine run_need rfl ?_ ?_)
    | (refine run_ret rfl ?_ ; first | refine rb ?_ | refine ri ?_ | refine rs2 ?_ ?_ | refine rs1 ?_)
    | (refine run_retx rfl ?_))
    refine run_loop rfl (fun x : Int × Int × List Pk => (0 ≤ x.1 ∧ x.1 ≤ 7) ∧ (p ≤ x.2.1 ∧ x.2.1 ≤ p + 300 - 35 * x.1) ∧ (x.2.2.length : Int) ≤ 7 - x.1 ∧ DrPks x.2.2) (fun x => [(4, .val (i64 x.1)), (0, .val (eRd b x.2.1)), (3, .val (ePks x.2.2))]) (fun x => x.1.toNat) (v, p + 1, []) ⟨by dsimp only; omega, by dsimp only; omega, by simp; omega, by intro q hq; cases hq⟩ ⟨rfl, rfl, rfl, trivial⟩ rfl ?_
    rintro ⟨n, r, ps⟩ e ⟨g0, g1, g2, g3⟩
    dsimp only at g0 g1 g2 g3 ⊢
    (repeat' first
    | (refine run_ite rfl (fun h => ?_) (fun h => ?_) <;> (try simp (disch := omega) only [z0, z1, z2, z3, z4, z5, z6, z7, z8, z9, z10, z11, z12, z13, z14, z15, z16, z17, z18, z19, z20, z21, z22, z23, z24, z25, eqDs, eqD, z28, z29, z30, z31, z32, z33, z34, z35, z36, z37, Nat.reduceAdd, z39, z40, z41, wrap64] at h) <;> (try (exfalso; omega)))
    | (refine run_need rfl (by (try simp (disch := omega) only [z0, z1, z2, z3, z4, z5, z6, z7, z8, z9, z10, z11, z12, z13, z14, z15, z16, z17, z18, z19, z20, z21, z22, z23, z24, z25, eqDs, eqD, z28, z29, z30, z31, z32, z33, z34, z35, z36, z37, Nat.reduceAdd, z39, z40, z41, wrap64]); first | exact elp_m (by omega) (by omega) (fun _ => rfl) | exact eld_m (by omega) (by omega) (fun _ => rfl) | exact els_m (by omega) (by omega) (by omega) rfl | exact lsl_m (by omega) (fun _ => rfl) | exact app_nil_m (by omega) (fun _ => rfl) (fun _ => rfl) | exact app_m_one (by omega) (fun _ => rfl) rfl rfl | exact app_m_m (by omega) (fun _ => rfl) (fun _ => rfl)) ?_)
    | (refine run_need rfl (by first | decide | omega | (simp only [List.length_map]; omega)) ?_)
    | (refine run_callx rfl (pick_ex b hb _ _ (by first | omega | (simp only [List.length_map]; omega)) (by first | omega | (simp only [List.length_map]; omega))) rfl (fun outs hG => ?_); obtain ⟨v, rfl, hv0, hv1⟩ := hG; (try simp only [List.length_map] at hv1); refine ⟨[i64 v], [eRd b _], rfl, rfl, rfl, ?_⟩)
    | (refine run_need rfl ?_ ?_)
    | (refine run_ret rfl ?_ ; first | refine rb ?_ | refine ri ?_ | refine rs2 ?_ ?_ | refine rs1 ?_)
    | (refine run_retx rfl ?_))
    · rename_i w hw0 hw1
      refine run_callx rfl (pkg_ex b hb (r + 1 + 1) (1 + w) (1 + v) (by omega) (by omega)) (by simp (disch := omega) only [wrap64]) (fun outs hG => ?_)
      obtain ⟨q, p', rfl, hq1, hq2, hq3⟩ := hG
      refine ⟨[ePk q], [eRd b p'], rfl, rfl, rfl, ?_⟩
      have hps : SmPs ps := drPks_sm g3 (by omega)
      (repeat' first
    | (refine run_ite rfl (fun h => ?_) (fun h => ?_) <;> (try simp (disch := omega) only [z0, z1, z2, z3, z4, z5, z6, z7, z8, z9, z10, z11, z12, z13, z14, z15, z16, z17, z18, z19, z20, z21, z22, z23, z24, z25, eqDs, eqD, z28, z29, z30, z31, z32, z33, z34, z35, z36, z37, Nat.reduceAdd, z39, z40, z41, wrap64] at h) <;> (try (exfalso; omega)))
    | (refine run_need rfl (by (try simp (disch := omega) only [z0, z1, z2, z3, z4, z5, z6, z7, z8, z9, z10, z11, z12, z13, z14, z15, z16, z17, z18, z19, z20, z21, z22, z23, z24, z25, eqDs, eqD, z28, z29, z30, z31, z32, z33, z34, z35, z36, z37, Nat.reduceAdd, z39, z40, z41, wrap64]); first | exact elp_m (by omega) (by omega) (fun _ => rfl) | exact eld_m (by omega) (by omega) (fun _ => rfl) | exact els_m (by omega) (by omega) (by omega) rfl | exact lsl_m (by omega) (fun _ => rfl) | exact app_nil_m (by omega) (fun _ => rfl) (fun _ => rfl) | exact app_m_one (by omega) (fun _ => rfl) rfl rfl | exact app_m_m (by omega) (fun _ => rfl) (fun _ => rfl)) ?_)
    | (refine run_need rfl (by first | decide | omega | (simp only [List.length_map]; omega)) ?_)
    | (refine run_callx rfl (find_ex ps hps.1 _ _) rfl (fun outs hG => ?_); obtain ⟨k, rfl⟩ := hG; refine ⟨[i64 k], [], rfl, rfl, rfl, ?_⟩)
    | (refine run_call1 rfl (l12With_ok ps hps (by omega) q (drPk_sm hq1)) rfl ?_)
    | (refine run_next rfl (Exists.intro (n - 1, p', withM ps q) ⟨by dsimp only; omega, ⟨by dsimp only; omega, by dsimp only; omega, ?_, ?_⟩, i64_eq (wrap64 _ (by omega)), rfl, rfl, trivial⟩))
    | (refine run_next rfl (Exists.intro (n - 1, p', ps) ⟨by dsimp only; omega, ⟨by dsimp only; omega, by dsimp only; omega, by dsimp only; omega, g3⟩, i64_eq (wrap64 _ (by omega)), rfl, rfl, trivial⟩))
    | (refine run_need rfl ?_ ?_)
    | (refine run_ret rfl ?_ ; first | refine rb ?_ | refine ri ?_ | refine rs2 ?_ ?_ | refine rs1 ?_)
    | (refine run_retx rfl ?_))
      · have := withM_len ps q
        dsimp only
        omega
      · intro x hx
        rcases withM_mem hx with h' | h'
        · exact g3 x h'
        · rw [h']; exact hq1
    · exact ⟨ps, r, rfl, g3, by omega, by omega, by omega⟩)
  exact ⟨outs, h1, F_s_l71Pkgs h2⟩

theorem any_ex (b : List Int) (hb : Byt b) (p : Int) (hp : 0 ≤ p ∧ p < 800000000) : ∃ outs, (∃ q p', outs = [ePk q, eRd b p'] ∧ SmP q ∧ p ≤ p' ∧ p' ≤ p + 50) ∧ FunOk PP W n_s_l71Any s_s_l71Any [eRd b p] outs := by
  obtain ⟨outs, h1, h2⟩ := run_funx (Φ := FunOk PP W) (p := p_s_l71Any) (ins := [eRd b p]) (G := fun outs => ∃ q p', outs = [ePk q, eRd b p'] ∧ SmP q ∧ p ≤ p' ∧ p' ≤ p + 50) (by
    (repeat' first
    | (refine run_ite rfl (fun h => ?_) (fun h => ?_) <;> (try simp (disch := omega) only [z0, z1, z2, z3, z4, z5, z6, z7, z8, z9, z10, z11, z12, z13, z14, z15, z16, z17, z18, z19, z20, z21, z22, z23, z24, z25, eqDs, eqD, z28, z29, z30, z31, z32, z33, z34, z35, z36, z37, Nat.reduceAdd, z39, z40, z41, wrap64] at h) <;> (try (exfalso; omega)))
    | (refine run_need rfl (by (try simp (disch := omega) only [z0, z1, z2, z3, z4, z5, z6, z7, z8, z9, z10, z11, z12, z13, z14, z15, z16, z17, z18, z19, z20, z21, z22, z23, z24, z25, eqDs, eqD, z28, z29, z30, z31, z32, z33, z34, z35, z36, z37, Nat.reduceAdd, z39, z40, z41, wrap64]); first | exact elp_m (by omega) (by omega) (fun _ => rfl) | exact eld_m (by omega) (by omega) (fun _ => rfl) | exact els_m (by omega) (by omega) (by omega) rfl | exact lsl_m (by omega) (fun _ => rfl) | exact app_nil_m (by omega) (fun _ => rfl) (fun _ => rfl) | exact app_m_one (by omega) (fun _ => rfl) rfl rfl | exact app_m_m (by omega) (fun _ => rfl) (fun _ => rfl)) ?_)
    | (refine run_need rfl (by first | decide | omega | (simp only [List.length_map]; omega)) ?_)
    | (refine run_callx rfl (pick_ex b hb _ _ (by first | omega | (simp only [List.length_map]; omega)) (by first | omega | (simp only [List.length_map]; omega))) rfl (fun outs hG => ?_); obtain ⟨v, rfl, hv0, hv1⟩ := hG; (try simp only [List.length_map] at hv1); refine ⟨[i64 v], [eRd b _], rfl, rfl, rfl, ?_⟩)
    | (refine run_need rfl ?_ ?_)
    | (refine run_ret rfl ?_ ; first | refine rb ?_ | refine ri ?_ | refine rs2 ?_ ?_ | refine rs1 ?_)
    | (refine run_retx rfl ?_))
    rename_i w hw0 hw1
    refine run_callx rfl (pkg_ex b hb (p + 1 + 1) (1 + w) (1 + v) (by omega) (by omega)) (by simp (disch := omega) only [wrap64]) (fun outs hG => ?_)
    obtain ⟨q, p', rfl, hq1, hq2, hq3⟩ := hG
    refine ⟨[ePk q], [eRd b p'], rfl, rfl, rfl, ?_⟩
    obtain ⟨_, hf, hd, _⟩ := hq1
    (repeat' first
    | (refine run_ite rfl (fun h => ?_) (fun h => ?_) <;> (try simp (disch := omega) only [z0, z1, z2, z3, z4, z5, z6, z7, z8, z9, z10, z11, z12, z13, z14, z15, z16, z17, z18, z19, z20, z21, z22, z23, z24, z25, eqDs, eqD, z28, z29, z30, z31, z32, z33, z34, z35, z36, z37, Nat.reduceAdd, z39, z40, z41, wrap64] at h) <;> (try (exfalso; omega)))
    | (refine run_need rfl (by (try simp (disch := omega) only [z0, z1, z2, z3, z4, z5, z6, z7, z8, z9, z10, z11, z12, z13, z14, z15, z16, z17, z18, z19, z20, z21, z22, z23, z24, z25, eqDs, eqD, z28, z29, z30, z31, z32, z33, z34, z35, z36, z37, Nat.reduceAdd, z39, z40, z41, wrap64]); first | exact elp_m (by omega) (by omega) (fun _ => rfl) | exact eld_m (by omega) (by omega) (fun _ => rfl) | exact els_m (by omega) (by omega) (by omega) rfl | exact lsl_m (by omega) (fun _ => rfl) | exact app_nil_m (by omega) (fun _ => rfl) (fun _ => rfl) | exact app_m_one (by omega) (fun _ => rfl) rfl rfl | exact app_m_m (by omega) (fun _ => rfl) (fun _ => rfl)) ?_)
    | (refine run_need rfl (by first | decide | omega | (simp only [List.length_map]; omega)) ?_)
    | (refine run_callx rfl (pick_ex b hb _ _ (by first | omega | (simp only [List.length_map]; omega)) (by first | omega | (simp only [List.length_map]; omega))) rfl (fun outs hG => ?_); obtain ⟨v, rfl, hv0, hv1⟩ := hG; (try simp only [List.length_map] at hv1); refine ⟨[i64 v], [eRd b _], rfl, rfl, rfl, ?_⟩)
    | (refine run_need rfl (elp_m (enc := i64) (xs := [0, 5]) (by omega) (by simp; omega) (fun _ => rfl)) ?_)
    | (refine run_need rfl (eld_m (enc := i64) (xs := [0, 5]) (by omega) (by simp; omega) (fun _ => rfl)) ?_)
    | (refine run_need rfl (elp_m (enc := i64) (xs := [0, 6]) (by omega) (by simp; omega) (fun _ => rfl)) ?_)
    | (refine run_need rfl (eld_m (enc := i64) (xs := [0, 6]) (by omega) (by simp; omega) (fun _ => rfl)) ?_)
    | (refine run_need rfl ?_ ?_)
    | (refine run_ret rfl ?_ ; first | refine rb ?_ | refine ri ?_ | refine rs2 ?_ ?_ | refine rs1 ?_)
    | (refine run_retx rfl ?_))
    · exact ⟨⟨cI [[D.int .i64 0], [D.int .i64 5]] v 0, q.ver, q.files, q.deps⟩, p' + 1 + 1, rfl, ⟨by dsimp only; unfold lim; omega, by dsimp only; unfold lim; omega⟩, by omega, by omega⟩
    · exact ⟨⟨q.name, cI [[D.int .i64 0], [D.int .i64 6]] v 0, q.files, q.deps⟩, p' + 1 + 1, rfl, ⟨by dsimp only; unfold lim; omega, by dsimp only; unfold lim; omega⟩, by omega, by omega⟩
    · rename_i x hx0 hx1
      exact ⟨⟨q.name, q.ver, q.files ++ [⟨x, v⟩], q.deps⟩, p' + 1 + 1 + 1, rs2 (by dsimp only [ePk]; rw [List.map_append]; rfl) rfl, ⟨by simp [lim]; omega, by dsimp only; unfold lim; omega⟩, by omega, by omega⟩
    · rename_i x hx0 hx1
      exact ⟨⟨q.name, q.ver, q.files, q.deps ++ [⟨x, v⟩]⟩, p' + 1 + 1 + 1, rs2 (by dsimp only [ePk]; rw [List.map_append]; rfl) rfl, ⟨by dsimp only; unfold lim; omega, by simp [lim]; omega⟩, by omega, by omega⟩
    · exact ⟨q, p' + 1, rfl, ⟨by unfold lim; omega, by unfold lim; omega⟩, by omega, by omega⟩)
  exact ⟨outs, h1, F_s_l71Any h2⟩

theorem els_g {α : Type} {enc : α → List D} {xs ys : List α} {i : Int} {z : α} {sz : Nat} (h0 : 0 ≤ i) (h1 : i < xs.length) (h2 : i < ys.length) (hz : ∀ x, (enc x).length = sz) : ElsOk (xs.map enc) (ys.map enc) i 0 (enc z) := by
  have a : i.toNat < xs.length := by omega
  have b : i.toNat < ys.length := by omega
  exact ⟨enc xs[i.toNat], enc ys[i.toNat], by simp [a], by simp [b], by rw [hz, hz], by simp [hz]⟩
theorem els_gv {α : Type} {enc : α → List D} {ys : List α} {i : Int} {z : α} {sz : Nat} (h0 : 0 ≤ i) (h2 : i < ys.length) (hz : ∀ x, (enc x).length = sz) : elsV (ys.map enc) i 0 (enc z) = (ys.set i.toNat z).map enc := by
  have b : i.toNat < ys.length := by omega
  simp only [elsV, List.getD_eq_getElem?_getD, List.getElem?_map, List.getElem?_eq_getElem b, Option.map_some, Option.getD_some]
  rw [List.map_set]
  congr 1
  simp [splice, hz]

theorem off_ex (b : List Int) (hb : Byt b) (p : Int) (hp : 0 ≤ p ∧ p < 700000000) : ∃ outs, (∃ ps p', outs = [ePks ps, eRd b p'] ∧ SmPs ps ∧ ps.length ≤ 8 ∧ p ≤ p' ∧ p' ≤ p + 400) ∧ FunOk PP W n_s_l71Off s_s_l71Off [eRd b p] outs := by
  obtain ⟨outs, h1, h2⟩ := run_funx (Φ := FunOk PP W) (p := p_s_l71Off) (ins := [eRd b p]) (G := fun outs => ∃ ps p', outs = [ePks ps, eRd b p'] ∧ SmPs ps ∧ ps.length ≤ 8 ∧ p ≤ p' ∧ p' ≤ p + 400) (by
    (repeat' first
    | (refine run_ite rfl (fun h => ?_) (fun h => ?_) <;> (try simp (disch := omega) only [z0, z1, z2, z3, z4, z5, z6, z7, z8, z9, z10, z11, z12, z13, z14, z15, z16, z17, z18, z19, z20, z21, z22, z23, z24, z25, eqDs, eqD, z28, z29, z30, z31, z32, z33, z34, z35, z36, z37, Nat.reduceAdd, z39, z40, z41, wrap64] at h) <;> (try (exfalso; omega)))
    | (refine run_need rfl (by (try simp (disch := omega) only [z0, z1, z2, z3, z4, z5, z6, z7, z8, z9, z10, z11, z12, z13, z14, z15, z16, z17, z18, z19, z20, z21, z22, z23, z24, z25, eqDs, eqD, z28, z29, z30, z31, z32, z33, z34, z35, z36, z37, Nat.reduceAdd, z39, z40, z41, wrap64]); first | exact elp_m (by omega) (by omega) (fun _ => rfl) | exact eld_m (by omega) (by omega) (fun _ => rfl) | exact els_m (by omega) (by omega) (by omega) rfl | exact lsl_m (by omega) (fun _ => rfl) | exact app_nil_m (by omega) (fun _ => rfl) (fun _ => rfl) | exact app_m_one (by omega) (fun _ => rfl) rfl rfl | exact app_m_m (by omega) (fun _ => rfl) (fun _ => rfl)) ?_)
    | (refine run_need rfl (by first | decide | omega | (simp only [List.length_map]; omega)) ?_)
    | (refine run_callx rfl (pick_ex b hb _ _ (by first | omega | (simp only [List.length_map]; omega)) (by first | omega | (simp only [List.length_map]; omega))) rfl (fun outs hG => ?_); obtain ⟨v, rfl, hv0, hv1⟩ := hG; (try simp only [List.length_map] at hv1); refine ⟨[i64 v], [eRd b _], rfl, rfl, rfl, ?_⟩)
    | (refine run_callx rfl (pkgs_ex b hb p (by omega)) rfl (fun outs hG => ?_); obtain ⟨ps, p', rfl, hq1, hq2, hq3, hq4⟩ := hG; refine ⟨[ePks ps], [eRd b p'], rfl, rfl, rfl, ?_⟩)
    | (refine run_callx rfl (any_ex b hb _ (by omega)) rfl (fun outs hG => ?_); obtain ⟨q, p', rfl, hr1, hr2, hr3⟩ := hG; refine ⟨[ePk q], [eRd b p'], rfl, rfl, rfl, ?_⟩)
    | (refine run_need rfl (els_g (enc := ePk) (sz := 4) (xs := ps) (ys := ps) (z := q) (by omega) (by omega) (by omega) (fun _ => rfl)) ?_)
    | (refine run_need rfl ?_ ?_)
    | (refine run_ret rfl ?_ ; first | refine rb ?_ | refine ri ?_ | refine rs2 ?_ ?_ | refine rs1 ?_)
    | (refine run_retx rfl ?_))
    · refine ⟨ps ++ [q], p', rs2 (sl_eq (by rw [List.map_append]; rfl)) rfl, ⟨by simp [lim]; omega, fun x hx => ?_⟩, by simp; omega, by omega, by omega⟩
      rcases List.mem_append.1 hx with h' | h'
      · exact drPk_sm (hq1 x h')
      · rw [List.mem_singleton.1 h']; exact hr1
    · refine ⟨ps.set v.toNat q, p', rs2 (sl_eq (els_gv (enc := ePk) (sz := 4) (ys := ps) (z := q) (i := v) (by omega) (by omega) (fun _ => rfl))) rfl, ⟨by simp [lim]; omega, fun x hx => ?_⟩, by simp; omega, by omega, by omega⟩
      rcases List.mem_or_eq_of_mem_set hx with h' | h'
      · exact drPk_sm (hq1 x h')
      · rw [h']; exact hr1
    · exact ⟨ps, p' + 1, rfl, drPks_sm hq1 (by omega), by omega, by omega, by omega⟩
    · exact ⟨ps, p' + 1, rfl, drPks_sm hq1 (by omega), by omega, by omega, by omega⟩)
  exact ⟨outs, h1, F_s_l71Off h2⟩
end V
end Go.Proofs.Ytgialjcichiaoaa

/-
Plain proofs: plans that are drawn.
-/
namespace Go.Proofs.Ytgialjcichiaoaa
namespace V
open Classical
set_option maxRecDepth 100000
variable {W : Wld}

theorem l13Is_ok (ps : List Pk) (hs : SmPs ps) (n : Int) : FunOk PP W n_s_l13Is s_s_l13Is [ePks ps, i64 n] [bo (decide (0 ≤ newI ps n))] := by
  refine F_s_l13Is (run_fun ?_)
  (repeat' first
    | (refine run_ite rfl (fun h => ?_) (fun h => ?_) <;> (try simp (disch := omega) only [z0, z1, z2, z3, z4, z5, z6, z7, z8, z9, z10, z11, z12, z13, z14, z15, z16, z17, z18, z19, z20, z21, z22, z23, z24, z25, eqDs, eqD, z28, z29, z30, z31, z32, z33, z34, z35, z36, z37, Nat.reduceAdd, z39, z40, z41, wrap64] at h) <;> (try (exfalso; omega)))
    | (refine run_need rfl (by (try simp (disch := omega) only [z0, z1, z2, z3, z4, z5, z6, z7, z8, z9, z10, z11, z12, z13, z14, z15, z16, z17, z18, z19, z20, z21, z22, z23, z24, z25, eqDs, eqD, z28, z29, z30, z31, z32, z33, z34, z35, z36, z37, Nat.reduceAdd, z39, z40, z41, wrap64]); first | exact elp_m (by omega) (by omega) (fun _ => rfl) | exact eld_m (by omega) (by omega) (fun _ => rfl) | exact els_m (by omega) (by omega) (by omega) rfl | exact lsl_m (by omega) (fun _ => rfl) | exact app_nil_m (by omega) (fun _ => rfl) (fun _ => rfl) | exact app_m_one (by omega) (fun _ => rfl) rfl rfl | exact app_m_m (by omega) (fun _ => rfl) (fun _ => rfl)) ?_)
    | (refine run_need rfl (by first | decide | omega | (simp only [List.length_map]; omega)) ?_)
    | (refine run_callr rfl (l12Newest_ok ps hs n) rfl rfl ?_)
    | (refine run_need rfl ?_ ?_)
    | (refine run_ret rfl ?_ ; first | refine rb ?_ | refine ri ?_ | refine rs2 ?_ ?_ | refine rs1 ?_)
    | (refine run_retx rfl ?_))
  rfl

/-- The package that is chosen of a name. -/
noncomputable def pickM (st hv : List Pk) (n : Int) : Pk := if 0 ≤ newI st n ∧ (¬ 0 ≤ newI hv n ∨ (newP hv n).ver < (newP st n).ver) then newP st n else newP hv n
theorem l13Pick_ok (st hv : List Pk) (h1 : SmPs st) (h2 : SmPs hv) (n : Int) : FunOk PP W n_s_l13Pick s_s_l13Pick [ePks st, ePks hv, i64 n] [ePk (pickM st hv n), bo (decide (0 ≤ newI st n ∨ 0 ≤ newI hv n))] := by
  refine F_s_l13Pick (run_fun ?_)
  (repeat' first
    | (refine run_ite rfl (fun h => ?_) (fun h => ?_) <;> (try simp (disch := omega) only [z0, z1, z2, z3, z4, z5, z6, z7, z8, z9, z10, z11, z12, z13, z14, z15, z16, z17, z18, z19, z20, z21, z22, z23, z24, z25, eqDs, eqD, z28, z29, z30, z31, z32, z33, z34, z35, z36, z37, Nat.reduceAdd, z39, z40, z41, wrap64] at h) <;> (try (exfalso; omega)))
    | (refine run_need rfl (by (try simp (disch := omega) only [z0, z1, z2, z3, z4, z5, z6, z7, z8, z9, z10, z11, z12, z13, z14, z15, z16, z17, z18, z19, z20, z21, z22, z23, z24, z25, eqDs, eqD, z28, z29, z30, z31, z32, z33, z34, z35, z36, z37, Nat.reduceAdd, z39, z40, z41, wrap64]); first | exact elp_m (by omega) (by omega) (fun _ => rfl) | exact eld_m (by omega) (by omega) (fun _ => rfl) | exact els_m (by omega) (by omega) (by omega) rfl | exact lsl_m (by omega) (fun _ => rfl) | exact app_nil_m (by omega) (fun _ => rfl) (fun _ => rfl) | exact app_m_one (by omega) (fun _ => rfl) rfl rfl | exact app_m_m (by omega) (fun _ => rfl) (fun _ => rfl)) ?_)
    | (refine run_need rfl (by first | decide | omega | (simp only [List.length_map]; omega)) ?_)
    | (refine run_callr rfl (l12Newest_ok st h1 n) rfl rfl ?_)
    | (refine run_callr rfl (l12Newest_ok hv h2 n) rfl rfl ?_)
    | (refine run_need rfl ?_ ?_)
    | (refine run_ret rfl ?_ ; first | refine rb ?_ | refine ri ?_ | refine rs2 ?_ ?_ | refine rs1 ?_)
    | (refine run_retx rfl ?_))
  all_goals first
    | (rw [pickM, if_pos (by simp_all)]; done)
    | (rw [pickM, if_neg (by grind)]; done)
    | exact bo_eq (by grind)

/-- A package whose names are in the range. -/
def NmPk (q : Pk) : Prop := (0 ≤ q.name ∧ q.name ≤ 4) ∧ ∀ d ∈ q.deps, 0 ≤ d.a ∧ d.a ≤ 4
def NmPs (ps : List Pk) : Prop := ∀ q ∈ ps, NmPk q
theorem newP_of {ps : List Pk} {n : Int} (h : 0 ≤ newI ps n) : newP ps n ∈ ps ∧ (newP ps n).name = n := by
  obtain ⟨h1, h2⟩ := lastI_some ps n ps.length h
  unfold newP
  rw [if_pos h]
  exact ⟨ix_mem h h1, h2⟩
theorem newI_of {ps : List Pk} {q : Pk} (h : q ∈ ps) : 0 ≤ newI ps q.name := by
  obtain ⟨j, j0, j1, rfl⟩ := mem_ix h
  have := lastI_ge ps (ix ps j).name ps.length j j0 j1 rfl
  unfold newI
  omega
theorem pickM_of {st hv : List Pk} {n : Int} (h : 0 ≤ newI st n ∨ 0 ≤ newI hv n) : (pickM st hv n ∈ st ∨ pickM st hv n ∈ hv) ∧ (pickM st hv n).name = n := by
  unfold pickM
  by_cases hc : 0 ≤ newI st n ∧ (¬ 0 ≤ newI hv n ∨ (newP hv n).ver < (newP st n).ver)
  · rw [if_pos hc]
    exact ⟨.inl (newP_of hc.1).1, (newP_of hc.1).2⟩
  · rw [if_neg hc]
    have h2 : 0 ≤ newI hv n := by
      rcases h with h | h
      · exact Classical.byContradiction fun h' => hc ⟨h, .inl h'⟩
      · exact h
    exact ⟨.inr (newP_of h2).1, (newP_of h2).2⟩

def hasN (ps : List Pk) (n : Int) : Prop := ∃ q ∈ ps, q.name = n
noncomputable def c1 (p : Prop) : Nat := if p then 1 else 0
theorem c1_mono {p q : Prop} (h : p → q) : c1 p ≤ c1 q := by
  unfold c1
  by_cases hp : p
  · rw [if_pos hp, if_pos (h hp)]; exact Nat.le_refl _
  · rw [if_neg hp]; exact Nat.zero_le _
theorem c1_le (p : Prop) : c1 p ≤ 1 := by unfold c1; split <;> omega
noncomputable def cnt (ps : List Pk) : Nat := c1 (hasN ps 1) + c1 (hasN ps 2) + c1 (hasN ps 3) + c1 (hasN ps 4)
theorem cnt_le (ps : List Pk) : cnt ps ≤ 4 := by
  have h1 := c1_le (hasN ps 1); have h2 := c1_le (hasN ps 2); have h3 := c1_le (hasN ps 3); have h4 := c1_le (hasN ps 4)
  unfold cnt; omega
theorem hasN_with {ps : List Pk} {p : Pk} {m : Int} (h : hasN ps m) : hasN (withM ps p) m := by
  obtain ⟨q, h1, h2⟩ := h
  by_cases hn : q.name = p.name
  · exact ⟨p, withM_self ps p, by rw [← hn]; exact h2⟩
  · exact ⟨q, withM_old h1 hn, h2⟩
theorem cnt_with {ps : List Pk} {p : Pk} (hn : 1 ≤ p.name ∧ p.name ≤ 4) (h : ¬ hasN ps p.name) : cnt ps + 1 ≤ cnt (withM ps p) := by
  have m1 := c1_mono (fun h : hasN ps 1 => hasN_with (p := p) h)
  have m2 := c1_mono (fun h : hasN ps 2 => hasN_with (p := p) h)
  have m3 := c1_mono (fun h : hasN ps 3 => hasN_with (p := p) h)
  have m4 := c1_mono (fun h : hasN ps 4 => hasN_with (p := p) h)
  have z : c1 (hasN ps p.name) = 0 := if_neg h
  have o : c1 (hasN (withM ps p) p.name) = 1 := if_pos ⟨p, withM_self ps p, rfl⟩
  unfold cnt
  obtain ⟨n, hnn⟩ : ∃ n, n = p.name := ⟨_, rfl⟩
  rw [← hnn] at z o hn
  have : n = 1 ∨ n = 2 ∨ n = 3 ∨ n = 4 := by omega
  rcases this with rfl | rfl | rfl | rfl <;> omega

theorem nmPs_with {ps : List Pk} {p : Pk} (h : NmPs ps) (hp : NmPk p) : NmPs (withM ps p) := fun q hq => by
  rcases withM_mem hq with h' | h'
  · exact h q h'
  · rw [h']; exact hp
theorem smPs_with {ps : List Pk} {p : Pk} (h : SmPs ps) (hp : SmP p) (hl : ps.length ≤ 1000) : SmPs (withM ps p) := ⟨by have := withM_len ps p; unfold lim; omega, fun q hq => by
  rcases withM_mem hq with h' | h'
  · exact h.2 q h'
  · rw [h']; exact hp⟩
theorem smPs_nil' : SmPs [] := ⟨by unfold lim; simp, fun q hq => by cases hq⟩

theorem for_ex (st hv : List Pk) (n : Int) (h1 : SmPs st) (h2 : SmPs hv) (g1 : NmPs st) (g2 : NmPs hv) (hn : 0 ≤ n ∧ n ≤ 4) : ∃ outs, (∃ ps ok, outs = [ePks ps, bo ok] ∧ SmPs ps ∧ NmPs ps ∧ (ok = true → PlanM ps)) ∧ FunOk PP W n_s_l13For s_s_l13For [ePks st, ePks hv, i64 n] outs := by
  obtain ⟨outs, hh1, hh2⟩ := run_funx (Φ := FunOk PP W) (p := p_s_l13For) (ins := [ePks st, ePks hv, i64 n]) (G := fun outs => ∃ ps ok, outs = [ePks ps, bo ok] ∧ SmPs ps ∧ NmPs ps ∧ (ok = true → PlanM ps)) (by
    have hl := h2.1
    unfold lim at hl
    refine run_need rfl (by decide) ?_
    (repeat' first
    | (refine run_ite rfl (fun h => ?_) (fun h => ?_) <;> (try simp (disch := omega) only [z0, z1, z2, z3, z4, z5, z6, z7, z8, z9, z10, z11, z12, z13, z14, z15, z16, z17, z18, z19, z20, z21, z22, z23, z24, z25, eqDs, eqD, z28, z29, z30, z31, z32, z33, z34, z35, z36, z37, Nat.reduceAdd, z39, z40, z41, wrap64] at h) <;> (try (exfalso; omega)))
    | (refine run_need rfl (by (try simp (disch := omega) only [z0, z1, z2, z3, z4, z5, z6, z7, z8, z9, z10, z11, z12, z13, z14, z15, z16, z17, z18, z19, z20, z21, z22, z23, z24, z25, eqDs, eqD, z28, z29, z30, z31, z32, z33, z34, z35, z36, z37, Nat.reduceAdd, z39, z40, z41, wrap64]); first | exact elp_m (by omega) (by omega) (fun _ => rfl) | exact eld_m (by omega) (by omega) (fun _ => rfl) | exact els_m (by omega) (by omega) (by omega) rfl | exact lsl_m (by omega) (fun _ => rfl) | exact app_nil_m (by omega) (fun _ => rfl) (fun _ => rfl) | exact app_m_one (by omega) (fun _ => rfl) rfl rfl | exact app_m_m (by omega) (fun _ => rfl) (fun _ => rfl)) ?_)
    | (refine run_need rfl (by first | decide | omega | (simp only [List.length_map]; omega)) ?_)
    | (refine run_need rfl (elp_m (enc := bo) (xs := List.replicate 5 false) (by omega) (by simp; omega) (fun _ => rfl)) ?_)
    | (refine run_need rfl (els_g (enc := bo) (sz := 1) (xs := List.replicate 5 false) (ys := List.replicate 5 false) (z := true) (by omega) (by simp; omega) (by simp; omega) (fun _ => rfl)) ?_)
    | (refine run_need rfl ?_ ?_)
    | (refine run_ret rfl ?_ ; first | refine rb ?_ | refine ri ?_ | refine rs2 ?_ ?_ | refine rs1 ?_)
    | (refine run_retx rfl ?_))
    have hnm : ∀ i : Int, 0 ≤ i → i < hv.length → 0 ≤ (ix hv i).name ∧ (ix hv i).name < 5 := fun i i0 i1 => by have := (g2 _ (ix_mem i0 i1)).1; omega
    refine run_loop rfl (fun x : Int × List Bool => 0 ≤ x.1 ∧ x.1 ≤ hv.length ∧ x.2.length = 5) (fun x => [(9, .val (i64 x.1)), (8, .val [.sl (x.2.map bo)]), (0, .val (ePks st)), (1, .val (ePks hv))]) (fun x => (hv.length - x.1).toNat) (0, (List.replicate 5 false).set n.toNat true) ⟨by dsimp only; omega, by dsimp only; omega, by simp⟩ ⟨rfl, sl_eq (els_gv (enc := bo) (sz := 1) (ys := List.replicate 5 false) (z := true) (i := n) (by omega) (by simp; omega) (fun _ => rfl)), rfl, rfl, trivial⟩ rfl ?_
    rintro ⟨i, bs⟩ e ⟨h0, hN, hbl⟩
    dsimp only at h0 hN hbl ⊢
    (repeat' first
    | (refine run_ite rfl (fun h => ?_) (fun h => ?_) <;> (try simp (disch := omega) only [z0, z1, z2, z3, z4, z5, z6, z7, z8, z9, z10, z11, z12, z13, z14, z15, z16, z17, z18, z19, z20, z21, z22, z23, z24, z25, eqDs, eqD, z28, z29, z30, z31, z32, z33, z34, z35, z36, z37, Nat.reduceAdd, z39, z40, z41, wrap64] at h) <;> (try (exfalso; omega)))
    | (refine run_need rfl (by (try simp (disch := omega) only [z0, z1, z2, z3, z4, z5, z6, z7, z8, z9, z10, z11, z12, z13, z14, z15, z16, z17, z18, z19, z20, z21, z22, z23, z24, z25, eqDs, eqD, z28, z29, z30, z31, z32, z33, z34, z35, z36, z37, Nat.reduceAdd, z39, z40, z41, wrap64]); first | exact elp_m (by omega) (by omega) (fun _ => rfl) | exact eld_m (by omega) (by omega) (fun _ => rfl) | exact els_m (by omega) (by omega) (by omega) rfl | exact lsl_m (by omega) (fun _ => rfl) | exact app_nil_m (by omega) (fun _ => rfl) (fun _ => rfl) | exact app_m_one (by omega) (fun _ => rfl) rfl rfl | exact app_m_m (by omega) (fun _ => rfl) (fun _ => rfl)) ?_)
    | (refine run_need rfl (by first | decide | omega | (simp only [List.length_map]; omega)) ?_)
    | (refine run_need rfl (by simp (disch := omega) only [z0, z1, z2, z3, z4, z5, z6, z7, z8, z9, z10, z11, z12, z13, z14, z15, z16, z17, z18, z19, z20, z21, z22, z23, z24, z25, eqDs, eqD, z28, z29, z30, z31, z32, z33, z34, z35, z36, z37, Nat.reduceAdd, z39, z40, z41, wrap64]; have := hnm i h0 (by assumption); exact elp_m (enc := bo) (xs := bs) (by omega) (by omega) (fun _ => rfl)) ?_)
    | (refine run_need rfl (by simp (disch := omega) only [z0, z1, z2, z3, z4, z5, z6, z7, z8, z9, z10, z11, z12, z13, z14, z15, z16, z17, z18, z19, z20, z21, z22, z23, z24, z25, eqDs, eqD, z28, z29, z30, z31, z32, z33, z34, z35, z36, z37, Nat.reduceAdd, z39, z40, z41, wrap64]; have := hnm i h0 (by assumption); exact els_g (enc := bo) (sz := 1) (xs := bs) (ys := bs) (z := true) (by omega) (by omega) (by omega) (fun _ => rfl)) ?_)
    | (refine run_next rfl (Exists.intro (i + 1, bs.set (ix hv i).name.toNat true) ⟨by dsimp only; omega, ⟨by dsimp only; omega, by dsimp only; omega, by simp; omega⟩, i64_eq (wrap64 _ (by omega)), ?_, rfl, rfl, trivial⟩))
    | (refine run_need rfl ?_ ?_)
    | (refine run_ret rfl ?_ ; first | refine rb ?_ | refine ri ?_ | refine rs2 ?_ ?_ | refine rs1 ?_)
    | (refine run_retx rfl ?_))
    · refine sl_eq ?_
      have := hnm i h0 (by assumption)
      rw [cI_Pk_0]
      exact els_gv (enc := bo) (sz := 1) (z := true) (by omega) (by omega) (fun _ => rfl)
    clear h h0 hN
    refine run_loop rfl (fun x : Int × List Bool × List Pk => (1 ≤ x.1 ∧ x.1 ≤ 5) ∧ x.2.1.length = 5 ∧ SmPs x.2.2 ∧ NmPs x.2.2 ∧ x.2.2.length ≤ cnt x.2.2) (fun x => [(11, .val (i64 x.1)), (8, .val [.sl (x.2.1.map bo)]), (10, .val (ePks x.2.2)), (0, .val (ePks st)), (1, .val (ePks hv))]) (fun x => (4 - cnt x.2.2) * 10 + (5 - x.1).toNat) (1, bs, []) ⟨by dsimp only; omega, hbl, smPs_nil', (fun q hq => by cases hq), by simp⟩ ⟨rfl, rfl, rfl, rfl, rfl, trivial⟩ rfl ?_
    rintro ⟨k, bt, out⟩ e ⟨k0, hb5, ho1, ho2, ho3⟩
    dsimp only at k0 hb5 ho1 ho2 ho3 ⊢
    have hc4 := cnt_le out
    (repeat' first
    | (refine run_ite rfl (fun h => ?_) (fun h => ?_) <;> (try simp (disch := omega) only [z0, z1, z2, z3, z4, z5, z6, z7, z8, z9, z10, z11, z12, z13, z14, z15, z16, z17, z18, z19, z20, z21, z22, z23, z24, z25, eqDs, eqD, z28, z29, z30, z31, z32, z33, z34, z35, z36, z37, Nat.reduceAdd, z39, z40, z41, wrap64] at h) <;> (try (exfalso; omega)))
    | (refine run_need rfl (by (try simp (disch := omega) only [z0, z1, z2, z3, z4, z5, z6, z7, z8, z9, z10, z11, z12, z13, z14, z15, z16, z17, z18, z19, z20, z21, z22, z23, z24, z25, eqDs, eqD, z28, z29, z30, z31, z32, z33, z34, z35, z36, z37, Nat.reduceAdd, z39, z40, z41, wrap64]); first | exact elp_m (by omega) (by omega) (fun _ => rfl) | exact eld_m (by omega) (by omega) (fun _ => rfl) | exact els_m (by omega) (by omega) (by omega) rfl | exact lsl_m (by omega) (fun _ => rfl) | exact app_nil_m (by omega) (fun _ => rfl) (fun _ => rfl) | exact app_m_one (by omega) (fun _ => rfl) rfl rfl | exact app_m_m (by omega) (fun _ => rfl) (fun _ => rfl)) ?_)
    | (refine run_need rfl (by first | decide | omega | (simp only [List.length_map]; omega)) ?_)
    | (refine run_call1 rfl (l13Is_ok out ho1 k) rfl ?_)
    | (refine run_call1 rfl (sPlanOk_ok out ho1) rfl ?_)
    | (refine run_callr rfl (l13Pick_ok st hv h1 h2 k) rfl rfl ?_)
    | (refine run_next rfl (Exists.intro (k + 1, bt, out) ⟨by dsimp only; omega, ⟨by dsimp only; omega, hb5, ho1, ho2, ho3⟩, i64_eq (wrap64 _ (by omega)), rfl, rfl, rfl, rfl, trivial⟩))
    | (refine run_need rfl ?_ ?_)
    | (refine run_ret rfl ?_ ; first | refine rb ?_ | refine ri ?_ | refine rs2 ?_ ?_ | refine rs1 ?_)
    | (refine run_retx rfl ?_))
    · exact ⟨[], false, rfl, smPs_nil', (fun q hq => by cases hq), fun h => by cases h⟩
    · obtain ⟨hm, hk⟩ := pickM_of h
      have hno : ¬ 0 ≤ newI out k := by assumption
      have hsm : SmP (pickM st hv k) := hm.elim (fun h' => h1.2 _ h') (fun h' => h2.2 _ h')
      have hnp : NmPk (pickM st hv k) := hm.elim (fun h' => g1 _ h') (fun h' => g2 _ h')
      generalize pickM st hv k = pk at hm hk hsm hnp
      have hnot : ¬ hasN out pk.name := fun ⟨q, hq1, hq2⟩ => hno (by rw [← hk, ← hq2]; exact newI_of hq1)
      have hcw := cnt_with (ps := out) (p := pk) (by omega) hnot
      have hcl := cnt_le (withM out pk)
      have hwl := withM_len out pk
      have hdl := hsm.2
      unfold lim at hdl
      have hdm : ∀ j : Int, 0 ≤ j → j < pk.deps.length → 0 ≤ (ix pk.deps j).a ∧ (ix pk.deps j).a < 5 := fun j j0 j1 => by have := hnp.2 _ (ix_mem j0 j1); omega
      (repeat' first
    | (refine run_ite rfl (fun h => ?_) (fun h => ?_) <;> (try simp (disch := omega) only [z0, z1, z2, z3, z4, z5, z6, z7, z8, z9, z10, z11, z12, z13, z14, z15, z16, z17, z18, z19, z20, z21, z22, z23, z24, z25, eqDs, eqD, z28, z29, z30, z31, z32, z33, z34, z35, z36, z37, Nat.reduceAdd, z39, z40, z41, wrap64] at h) <;> (try (exfalso; omega)))
    | (refine run_need rfl (by (try simp (disch := omega) only [z0, z1, z2, z3, z4, z5, z6, z7, z8, z9, z10, z11, z12, z13, z14, z15, z16, z17, z18, z19, z20, z21, z22, z23, z24, z25, eqDs, eqD, z28, z29, z30, z31, z32, z33, z34, z35, z36, z37, Nat.reduceAdd, z39, z40, z41, wrap64]); first | exact elp_m (by omega) (by omega) (fun _ => rfl) | exact eld_m (by omega) (by omega) (fun _ => rfl) | exact els_m (by omega) (by omega) (by omega) rfl | exact lsl_m (by omega) (fun _ => rfl) | exact app_nil_m (by omega) (fun _ => rfl) (fun _ => rfl) | exact app_m_one (by omega) (fun _ => rfl) rfl rfl | exact app_m_m (by omega) (fun _ => rfl) (fun _ => rfl)) ?_)
    | (refine run_need rfl (by first | decide | omega | (simp only [List.length_map]; omega)) ?_)
    | (refine run_call1 rfl (l12With_ok out ho1 (by omega) pk hsm) rfl ?_)
    | (refine run_need rfl ?_ ?_)
    | (refine run_ret rfl ?_ ; first | refine rb ?_ | refine ri ?_ | refine rs2 ?_ ?_ | refine rs1 ?_)
    | (refine run_retx rfl ?_))
      refine run_loop rfl (fun x : Int × List Bool => 0 ≤ x.1 ∧ x.1 ≤ pk.deps.length ∧ x.2.length = 5) (fun x => [(14, .val (i64 x.1)), (8, .val [.sl (x.2.map bo)]), (12, .val (ePk pk)), (10, .val (ePks (withM out pk))), (11, .val (i64 k)), (0, .val (ePks st)), (1, .val (ePks hv))]) (fun x => (pk.deps.length - x.1).toNat) (0, bt) ⟨by dsimp only; omega, by dsimp only; omega, hb5⟩ ⟨rfl, rfl, rfl, rfl, rfl, rfl, rfl, trivial⟩ rfl ?_
      rintro ⟨j, bu⟩ e ⟨j0, jN, hbu⟩
      dsimp only at j0 jN hbu ⊢
      (repeat' first
    | (refine run_ite rfl (fun h => ?_) (fun h => ?_) <;> (try simp (disch := omega) only [z0, z1, z2, z3, z4, z5, z6, z7, z8, z9, z10, z11, z12, z13, z14, z15, z16, z17, z18, z19, z20, z21, z22, z23, z24, z25, eqDs, eqD, z28, z29, z30, z31, z32, z33, z34, z35, z36, z37, Nat.reduceAdd, z39, z40, z41, wrap64] at h) <;> (try (exfalso; omega)))
    | (refine run_need rfl (by (try simp (disch := omega) only [z0, z1, z2, z3, z4, z5, z6, z7, z8, z9, z10, z11, z12, z13, z14, z15, z16, z17, z18, z19, z20, z21, z22, z23, z24, z25, eqDs, eqD, z28, z29, z30, z31, z32, z33, z34, z35, z36, z37, Nat.reduceAdd, z39, z40, z41, wrap64]); first | exact elp_m (by omega) (by omega) (fun _ => rfl) | exact eld_m (by omega) (by omega) (fun _ => rfl) | exact els_m (by omega) (by omega) (by omega) rfl | exact lsl_m (by omega) (fun _ => rfl) | exact app_nil_m (by omega) (fun _ => rfl) (fun _ => rfl) | exact app_m_one (by omega) (fun _ => rfl) rfl rfl | exact app_m_m (by omega) (fun _ => rfl) (fun _ => rfl)) ?_)
    | (refine run_need rfl (by first | decide | omega | (simp only [List.length_map]; omega)) ?_)
    | (refine run_need rfl (by simp (disch := omega) only [z0, z1, z2, z3, z4, z5, z6, z7, z8, z9, z10, z11, z12, z13, z14, z15, z16, z17, z18, z19, z20, z21, z22, z23, z24, z25, eqDs, eqD, z28, z29, z30, z31, z32, z33, z34, z35, z36, z37, Nat.reduceAdd, z39, z40, z41, wrap64]; have := hdm j j0 (by assumption); exact elp_m (enc := bo) (xs := bu) (by omega) (by omega) (fun _ => rfl)) ?_)
    | (refine run_need rfl (by simp (disch := omega) only [z0, z1, z2, z3, z4, z5, z6, z7, z8, z9, z10, z11, z12, z13, z14, z15, z16, z17, z18, z19, z20, z21, z22, z23, z24, z25, eqDs, eqD, z28, z29, z30, z31, z32, z33, z34, z35, z36, z37, Nat.reduceAdd, z39, z40, z41, wrap64]; have := hdm j j0 (by assumption); exact els_g (enc := bo) (sz := 1) (xs := bu) (ys := bu) (z := true) (by omega) (by omega) (by omega) (fun _ => rfl)) ?_)
    | (refine run_next rfl (Exists.intro (j + 1, bu.set (ix pk.deps j).a.toNat true) ⟨by dsimp only; omega, ⟨by dsimp only; omega, by dsimp only; omega, by simp; omega⟩, i64_eq (wrap64 _ (by omega)), ?_, rfl, rfl, rfl, rfl, rfl, trivial⟩))
    | (refine run_next rfl (Exists.intro (1, bu, withM out pk) ⟨by dsimp only; omega, ⟨by dsimp only; omega, hbu, smPs_with ho1 hsm (by omega), nmPs_with ho2 hnp, by dsimp only; omega⟩, i64_eq (wrap64 _ (by omega)), rfl, rfl, rfl, rfl, trivial⟩))
    | (refine run_need rfl ?_ ?_)
    | (refine run_ret rfl ?_ ; first | refine rb ?_ | refine ri ?_ | refine rs2 ?_ ?_ | refine rs1 ?_)
    | (refine run_retx rfl ?_))
      refine sl_eq ?_
      have := hdm j j0 (by assumption)
      rw [cI_P2_0]
      exact els_gv (enc := bo) (sz := 1) (z := true) (by omega) (by omega) (fun _ => rfl)
    · exact ⟨[], false, rfl, smPs_nil', (fun q hq => by cases hq), fun h => by cases h⟩
    · exact ⟨out, true, rfl, ho1, ho2, fun _ => h⟩)
  exact ⟨outs, hh1, F_s_l13For hh2⟩
end V
end Go.Proofs.Ytgialjcichiaoaa

/-
Plain proofs: disks that are drawn.
-/
namespace Go.Proofs.Ytgialjcichiaoaa
namespace V
open Classical
set_option maxRecDepth 100000
variable {W : Wld}

theorem planM_nil : PlanM [] := ⟨fun i h0 h1 => by simp at h1; omega, fun i h0 h1 => by simp at h1; omega, fun i h0 h1 => by simp at h1; omega⟩
theorem drPk_nm {q : Pk} (h : DrPk q) : NmPk q := by
  obtain ⟨h1, _, _, h2⟩ := h
  exact ⟨by omega, fun d hd => by have := h2 d hd; omega⟩
theorem plan_ex (b : List Int) (hb : Byt b) (p : Int) (hp : 0 ≤ p ∧ p < 700000000) (st : List Pk) (h1 : SmPs st) (g1 : NmPs st) : ∃ outs, (∃ ps p', outs = [ePks ps, eRd b p'] ∧ SmPs ps ∧ PlanM ps ∧ p ≤ p' ∧ p' ≤ p + 10) ∧ FunOk PP W n_s_l71Plan s_s_l71Plan [eRd b p, ePks st] outs := by
  obtain ⟨outs, hh1, hh2⟩ := run_funx (Φ := FunOk PP W) (p := p_s_l71Plan) (ins := [eRd b p, ePks st]) (G := fun outs => ∃ ps p', outs = [ePks ps, eRd b p'] ∧ SmPs ps ∧ PlanM ps ∧ p ≤ p' ∧ p' ≤ p + 10) (by
    (repeat' first
    | (refine run_ite rfl (fun h => ?_) (fun h => ?_) <;> (try simp (disch := omega) only [z0, z1, z2, z3, z4, z5, z6, z7, z8, z9, z10, z11, z12, z13, z14, z15, z16, z17, z18, z19, z20, z21, z22, z23, z24, z25, eqDs, eqD, z28, z29, z30, z31, z32, z33, z34, z35, z36, z37, Nat.reduceAdd, z39, z40, z41, wrap64] at h) <;> (try (exfalso; omega)))
    | (refine run_need rfl (by (try simp (disch := omega) only [z0, z1, z2, z3, z4, z5, z6, z7, z8, z9, z10, z11, z12, z13, z14, z15, z16, z17, z18, z19, z20, z21, z22, z23, z24, z25, eqDs, eqD, z28, z29, z30, z31, z32, z33, z34, z35, z36, z37, Nat.reduceAdd, z39, z40, z41, wrap64]); first | exact elp_m (by omega) (by omega) (fun _ => rfl) | exact eld_m (by omega) (by omega) (fun _ => rfl) | exact els_m (by omega) (by omega) (by omega) rfl | exact lsl_m (by omega) (fun _ => rfl) | exact app_nil_m (by omega) (fun _ => rfl) (fun _ => rfl) | exact app_m_one (by omega) (fun _ => rfl) rfl rfl | exact app_m_m (by omega) (fun _ => rfl) (fun _ => rfl)) ?_)
    | (refine run_need rfl (by first | decide | omega | (simp only [List.length_map]; omega)) ?_)
    | (refine run_callx rfl (pick_ex b hb _ _ (by first | omega | (simp only [List.length_map]; omega)) (by first | omega | (simp only [List.length_map]; omega))) rfl (fun outs hG => ?_); obtain ⟨v, rfl, hv0, hv1⟩ := hG; (try simp only [List.length_map] at hv1); refine ⟨[i64 v], [eRd b _], rfl, rfl, rfl, ?_⟩)
    | (refine run_need rfl ?_ ?_)
    | (refine run_ret rfl ?_ ; first | refine rb ?_ | refine ri ?_ | refine rs2 ?_ ?_ | refine rs1 ?_)
    | (refine run_retx rfl ?_))
    refine run_loop rfl (fun x : Int × Int × List Pk => (0 ≤ x.1 ∧ x.1 ≤ 2) ∧ (p ≤ x.2.1 ∧ x.2.1 ≤ p + 10 - x.1) ∧ SmPs x.2.2 ∧ NmPs x.2.2 ∧ PlanM x.2.2) (fun x => [(6, .val (i64 x.1)), (0, .val (eRd b x.2.1)), (5, .val (ePks x.2.2)), (1, .val (ePks st))]) (fun x => x.1.toNat) (v, p + 1, []) ⟨by dsimp only; omega, by dsimp only; omega, smPs_nil', (fun q hq => by cases hq), planM_nil⟩ ⟨rfl, rfl, rfl, rfl, trivial⟩ rfl ?_
    rintro ⟨n, r, hv⟩ e ⟨k0, k1, k2, k3, k4⟩
    dsimp only at k0 k1 k2 k3 k4 ⊢
    (repeat' first
    | (refine run_ite rfl (fun h => ?_) (fun h => ?_) <;> (try simp (disch := omega) only [z0, z1, z2, z3, z4, z5, z6, z7, z8, z9, z10, z11, z12, z13, z14, z15, z16, z17, z18, z19, z20, z21, z22, z23, z24, z25, eqDs, eqD, z28, z29, z30, z31, z32, z33, z34, z35, z36, z37, Nat.reduceAdd, z39, z40, z41, wrap64] at h) <;> (try (exfalso; omega)))
    | (refine run_need rfl (by (try simp (disch := omega) only [z0, z1, z2, z3, z4, z5, z6, z7, z8, z9, z10, z11, z12, z13, z14, z15, z16, z17, z18, z19, z20, z21, z22, z23, z24, z25, eqDs, eqD, z28, z29, z30, z31, z32, z33, z34, z35, z36, z37, Nat.reduceAdd, z39, z40, z41, wrap64]); first | exact elp_m (by omega) (by omega) (fun _ => rfl) | exact eld_m (by omega) (by omega) (fun _ => rfl) | exact els_m (by omega) (by omega) (by omega) rfl | exact lsl_m (by omega) (fun _ => rfl) | exact app_nil_m (by omega) (fun _ => rfl) (fun _ => rfl) | exact app_m_one (by omega) (fun _ => rfl) rfl rfl | exact app_m_m (by omega) (fun _ => rfl) (fun _ => rfl)) ?_)
    | (refine run_need rfl (by first | decide | omega | (simp only [List.length_map]; omega)) ?_)
    | (refine run_callx rfl (pick_ex b hb _ _ (by first | omega | (simp only [List.length_map]; omega)) (by first | omega | (simp only [List.length_map]; omega))) rfl (fun outs hG => ?_); obtain ⟨v, rfl, hv0, hv1⟩ := hG; (try simp only [List.length_map] at hv1); refine ⟨[i64 v], [eRd b _], rfl, rfl, rfl, ?_⟩)
    | (refine run_need rfl ?_ ?_)
    | (refine run_ret rfl ?_ ; first | refine rb ?_ | refine ri ?_ | refine rs2 ?_ ?_ | refine rs1 ?_)
    | (refine run_retx rfl ?_))
    · refine run_callx rfl (for_ex st hv (1 + v) h1 k2 g1 k3 (by omega)) (by simp (disch := omega) only [wrap64]) (fun outs hG => ?_)
      obtain ⟨ps, ok, rfl, q1, q2, q3⟩ := hG
      refine ⟨[ePks ps, bo ok], [], rfl, rfl, rfl, ?_⟩
      (repeat' first
    | (refine run_ite rfl (fun h => ?_) (fun h => ?_) <;> (try simp (disch := omega) only [z0, z1, z2, z3, z4, z5, z6, z7, z8, z9, z10, z11, z12, z13, z14, z15, z16, z17, z18, z19, z20, z21, z22, z23, z24, z25, eqDs, eqD, z28, z29, z30, z31, z32, z33, z34, z35, z36, z37, Nat.reduceAdd, z39, z40, z41, wrap64] at h) <;> (try (exfalso; omega)))
    | (refine run_need rfl (by (try simp (disch := omega) only [z0, z1, z2, z3, z4, z5, z6, z7, z8, z9, z10, z11, z12, z13, z14, z15, z16, z17, z18, z19, z20, z21, z22, z23, z24, z25, eqDs, eqD, z28, z29, z30, z31, z32, z33, z34, z35, z36, z37, Nat.reduceAdd, z39, z40, z41, wrap64]); first | exact elp_m (by omega) (by omega) (fun _ => rfl) | exact eld_m (by omega) (by omega) (fun _ => rfl) | exact els_m (by omega) (by omega) (by omega) rfl | exact lsl_m (by omega) (fun _ => rfl) | exact app_nil_m (by omega) (fun _ => rfl) (fun _ => rfl) | exact app_m_one (by omega) (fun _ => rfl) rfl rfl | exact app_m_m (by omega) (fun _ => rfl) (fun _ => rfl)) ?_)
    | (refine run_need rfl (by first | decide | omega | (simp only [List.length_map]; omega)) ?_)
    | (refine run_next rfl (Exists.intro (n - 1, r + 1, ps) ⟨by dsimp only; omega, ⟨by dsimp only; omega, by dsimp only; omega, q1, q2, q3 (by assumption)⟩, i64_eq (wrap64 _ (by omega)), rfl, rfl, rfl, trivial⟩))
    | (refine run_next rfl (Exists.intro (n - 1, r + 1, hv) ⟨by dsimp only; omega, ⟨by dsimp only; omega, by dsimp only; omega, k2, k3, k4⟩, i64_eq (wrap64 _ (by omega)), rfl, rfl, rfl, trivial⟩))
    | (refine run_need rfl ?_ ?_)
    | (refine run_ret rfl ?_ ; first | refine rb ?_ | refine ri ?_ | refine rs2 ?_ ?_ | refine rs1 ?_)
    | (refine run_retx rfl ?_))
    · exact ⟨hv, r, rfl, k2, k4, by omega, by omega⟩)
  exact ⟨outs, hh1, F_s_l71Plan hh2⟩

theorem smD_do {d : Dk} {s : Stp} (h : SmD d) (hs : SmPs s.pkgs) : SmD (doM d s) := by
  obtain ⟨h1, h2, h3⟩ := h
  unfold doM
  split
  · exact ⟨h1, h2, hs⟩
  split
  · exact ⟨h1, by rw [List.length_set]; exact h2, h3⟩
  split
  · exact ⟨hs, h2, h3⟩
  split
  · exact ⟨h1, h2, smPs_nil'⟩
  · exact ⟨h1, h2, h3⟩
theorem smD_tear {d : Dk} {s : Stp} (h : SmD d) : SmD (tearM d s) := by
  obtain ⟨h1, h2, h3⟩ := h
  unfold tearM
  split
  · exact ⟨h1, by rw [List.length_set]; exact h2, h3⟩
  split
  · exact ⟨smPs_nil', h2, h3⟩
  · exact ⟨h1, h2, h3⟩
theorem smD_all : ∀ (l : List Stp) {d : Dk}, SmD d → (∀ s ∈ l, SmPs s.pkgs) → SmD (doAll d l)
  | [], d, h, _ => h
  | s :: l, d, h, hl => smD_all l (smD_do h (hl s (List.mem_cons_self ..))) (fun t ht => hl t (List.mem_cons_of_mem _ ht))
theorem smD_to {d : Dk} {l : List Stp} (h : SmD d) (hl : ∀ s ∈ l, SmPs s.pkgs) (cut : Int) (torn : Bool) : SmD (toM d l cut torn) := by
  have h1 := smD_all (l.take cut.toNat) h (fun s hs => hl s (List.mem_of_mem_take hs))
  unfold toM
  split
  · exact smD_tear h1
  · exact h1
theorem toM_len (d : Dk) (l : List Stp) (cut : Int) (torn : Bool) : (toM d l cut torn).files.length = d.files.length := by
  unfold toM
  split
  · unfold tearM
    split
    · simp only [List.length_set]; exact doAll_len _ _
    split
    · exact doAll_len _ _
    · exact doAll_len _ _
  · exact doAll_len _ _
theorem steps_lim (d : Dk) (ps : List Pk) : (stepsM d ps).length ≤ lim := by have := stepsM_len d ps; unfold lim; omega

theorem rs3 {a b c d e f : List D} (h1 : a = d) (h2 : b = e) (h3 : c = f) : ([a, b, c] : List (List D)) = [d, e, f] := by rw [h1, h2, h3]
theorem to_ex (d : Dk) (l : List Stp) (cut : Int) (torn : Bool) (h : SmD d) (h6 : d.files.length = 6) (hl : l.length ≤ lim) (hi : StsIn d.files.length l) : ∃ outs, (∃ d', outs = [eDk d'] ∧ SmD d' ∧ d'.files.length = 6) ∧ FunOk PP W n_s_l22To s_s_l22To [eDk d, eSts l, i64 cut, bo torn] outs :=
  ⟨_, ⟨_, rfl, smD_to h (fun s hs => (hi s hs).2) cut torn, by rw [toM_len]; exact h6⟩, l22To_ok d l cut torn hl hi⟩

set_option maxHeartbeats 4000000 in
theorem disk_ex (b : List Int) (hb : Byt b) (p : Int) (hp : 0 ≤ p ∧ p < 600000000) : ∃ outs, (∃ d ps p', outs = [eDk d, ePks ps, eRd b p'] ∧ SmD d ∧ SmPs ps ∧ PlanM ps ∧ p ≤ p' ∧ p' ≤ p + 2000) ∧ FunOk PP W n_s_l71Disk s_s_l71Disk [eRd b p] outs := by
  obtain ⟨outs, hh1, hh2⟩ := run_funx (Φ := FunOk PP W) (p := p_s_l71Disk) (ins := [eRd b p]) (G := fun outs => ∃ d ps p', outs = [eDk d, ePks ps, eRd b p'] ∧ SmD d ∧ SmPs ps ∧ PlanM ps ∧ p ≤ p' ∧ p' ≤ p + 2000) (by
    (repeat' first
    | (refine run_ite rfl (fun h => ?_) (fun h => ?_) <;> (try simp (disch := omega) only [z0, z1, z2, z3, z4, z5, z6, z7, z8, z9, z10, z11, z12, z13, z14, z15, z16, z17, z18, z19, z20, z21, z22, z23, z24, z25, eqDs, eqD, z28, z29, z30, z31, z32, z33, z34, z35, z36, z37, Nat.reduceAdd, z39, z40, z41, wrap64] at h) <;> (try (exfalso; omega)))
    | (refine run_need rfl (by (try simp (disch := omega) only [z0, z1, z2, z3, z4, z5, z6, z7, z8, z9, z10, z11, z12, z13, z14, z15, z16, z17, z18, z19, z20, z21, z22, z23, z24, z25, eqDs, eqD, z28, z29, z30, z31, z32, z33, z34, z35, z36, z37, Nat.reduceAdd, z39, z40, z41, wrap64]); first | exact elp_m (by omega) (by omega) (fun _ => rfl) | exact eld_m (by omega) (by omega) (fun _ => rfl) | exact els_m (by omega) (by omega) (by omega) rfl | exact lsl_m (by omega) (fun _ => rfl) | exact app_nil_m (by omega) (fun _ => rfl) (fun _ => rfl) | exact app_m_one (by omega) (fun _ => rfl) rfl rfl | exact app_m_m (by omega) (fun _ => rfl) (fun _ => rfl)) ?_)
    | (refine run_need rfl (by first | decide | omega | (simp only [List.length_map]; omega)) ?_)
    | (refine run_callx rfl (pick_ex b hb _ _ (by first | omega | (simp only [List.length_map]; omega)) (by first | omega | (simp only [List.length_map]; omega))) rfl (fun outs hG => ?_); obtain ⟨v, rfl, hv0, hv1⟩ := hG; (try simp only [List.length_map] at hv1); refine ⟨[i64 v], [eRd b _], rfl, rfl, rfl, ?_⟩)
    | (refine run_callx rfl (pkgs_ex b hb _ (by omega)) rfl (fun outs hG => ?_); obtain ⟨ps, p', rfl, hq1, hq2, hq3, hq4⟩ := hG; refine ⟨[ePks ps], [eRd b p'], rfl, rfl, rfl, ?_⟩)
    | (refine run_call1 rfl (sDiskNew_ok) rfl ?_)
    | (refine run_callx rfl (plan_ex b hb _ (by omega) _ (drPks_sm hq1 (by omega)) (fun q hq => drPk_nm (hq1 q hq))) rfl (fun outs hG => ?_); obtain ⟨qs, p', rfl, hr1, hr2, hr3, hr4⟩ := hG; refine ⟨[ePks qs], [eRd b p'], rfl, rfl, rfl, ?_⟩)
    | (refine run_need rfl ?_ ?_)
    | (refine run_ret rfl ?_ ; first | refine rb ?_ | refine ri ?_ | refine rs2 ?_ ?_ | refine rs1 ?_)
    | (refine run_retx rfl ?_))
    have hd0 : SmD dk0 := ⟨smPs_nil', by decide, smPs_nil'⟩
    have hst : ∀ (d : Dk) (ps : List Pk), SmPs ps → ∀ s ∈ stepsM d ps, SmPs s.pkgs := fun d ps h s hs => (stepsM_in d h (Nat.le_refl 6) s hs).2
    have ha := smD_to hd0 (hst dk0 qs hr1) 20 false
    have hal : (toM dk0 (stepsM dk0 qs) 20 false).files.length = 6 := by rw [toM_len]; rfl
    have hto := l22To_ok (W := W) dk0 (stepsM dk0 qs) 20 false (steps_lim dk0 qs) (stepsM_in dk0 hr1 (by decide))
    generalize toM dk0 (stepsM dk0 qs) 20 false = da at ha hal hto
    (repeat' first
    | (refine run_ite rfl (fun h => ?_) (fun h => ?_) <;> (try simp (disch := omega) only [z0, z1, z2, z3, z4, z5, z6, z7, z8, z9, z10, z11, z12, z13, z14, z15, z16, z17, z18, z19, z20, z21, z22, z23, z24, z25, eqDs, eqD, z28, z29, z30, z31, z32, z33, z34, z35, z36, z37, Nat.reduceAdd, z39, z40, z41, wrap64] at h) <;> (try (exfalso; omega)))
    | (refine run_need rfl (by (try simp (disch := omega) only [z0, z1, z2, z3, z4, z5, z6, z7, z8, z9, z10, z11, z12, z13, z14, z15, z16, z17, z18, z19, z20, z21, z22, z23, z24, z25, eqDs, eqD, z28, z29, z30, z31, z32, z33, z34, z35, z36, z37, Nat.reduceAdd, z39, z40, z41, wrap64]); first | exact elp_m (by omega) (by omega) (fun _ => rfl) | exact eld_m (by omega) (by omega) (fun _ => rfl) | exact els_m (by omega) (by omega) (by omega) rfl | exact lsl_m (by omega) (fun _ => rfl) | exact app_nil_m (by omega) (fun _ => rfl) (fun _ => rfl) | exact app_m_one (by omega) (fun _ => rfl) rfl rfl | exact app_m_m (by omega) (fun _ => rfl) (fun _ => rfl)) ?_)
    | (refine run_need rfl (by first | decide | omega | (simp only [List.length_map]; omega)) ?_)
    | (refine run_call1 rfl (l22Steps_ok dk0 qs hr1 (pathsOk_of hr2.1) (by decide)) rfl ?_)
    | (refine run_call1 rfl (hto) rfl ?_)
    | (refine run_need rfl ?_ ?_)
    | (refine run_ret rfl ?_ ; first | refine rb ?_ | refine ri ?_ | refine rs2 ?_ ?_ | refine rs1 ?_)
    | (refine run_retx rfl ?_))
    refine run_callx rfl (pkgs_ex b hb p' (by omega)) rfl (fun outs hG => ?_)
    obtain ⟨ps2, p2, rfl, hs1, hs2, hs3, hs4⟩ := hG
    refine ⟨[ePks ps2], [eRd b p2], rfl, rfl, rfl, ?_⟩
    refine run_callx rfl (plan_ex b hb p2 (by omega) ps2 (drPks_sm hs1 (by omega)) (fun q hq => drPk_nm (hs1 q hq))) rfl (fun outs hG => ?_)
    obtain ⟨pk, p3, rfl, ht1, ht2, ht3, ht4⟩ := hG
    refine ⟨[ePks pk], [eRd b p3], rfl, rfl, rfl, ?_⟩
    have hsp : FunOk PP W n_s_l22Steps s_s_l22Steps [eDk da, ePks pk] [eSts (stepsM da pk)] := l22Steps_ok da pk ht1 (pathsOk_of ht2.1) (by omega)
    have hsi : StsIn da.files.length (stepsM da pk) := stepsM_in da ht1 (by omega)
    (repeat' first
    | (refine run_ite rfl (fun h => ?_) (fun h => ?_) <;> (try simp (disch := omega) only [z0, z1, z2, z3, z4, z5, z6, z7, z8, z9, z10, z11, z12, z13, z14, z15, z16, z17, z18, z19, z20, z21, z22, z23, z24, z25, eqDs, eqD, z28, z29, z30, z31, z32, z33, z34, z35, z36, z37, Nat.reduceAdd, z39, z40, z41, wrap64] at h) <;> (try (exfalso; omega)))
    | (refine run_need rfl (by (try simp (disch := omega) only [z0, z1, z2, z3, z4, z5, z6, z7, z8, z9, z10, z11, z12, z13, z14, z15, z16, z17, z18, z19, z20, z21, z22, z23, z24, z25, eqDs, eqD, z28, z29, z30, z31, z32, z33, z34, z35, z36, z37, Nat.reduceAdd, z39, z40, z41, wrap64]); first | exact elp_m (by omega) (by omega) (fun _ => rfl) | exact eld_m (by omega) (by omega) (fun _ => rfl) | exact els_m (by omega) (by omega) (by omega) rfl | exact lsl_m (by omega) (fun _ => rfl) | exact app_nil_m (by omega) (fun _ => rfl) (fun _ => rfl) | exact app_m_one (by omega) (fun _ => rfl) rfl rfl | exact app_m_m (by omega) (fun _ => rfl) (fun _ => rfl)) ?_)
    | (refine run_need rfl (by first | decide | omega | (simp only [List.length_map]; omega)) ?_)
    | (refine run_callx rfl (pick_ex b hb _ _ (by first | omega | (simp only [List.length_map]; omega)) (by first | omega | (simp only [List.length_map]; omega))) rfl (fun outs hG => ?_); obtain ⟨v, rfl, hv0, hv1⟩ := hG; (try simp only [List.length_map] at hv1); refine ⟨[i64 v], [eRd b _], rfl, rfl, rfl, ?_⟩)
    | (refine run_call1 rfl (hsp) rfl ?_)
    | (refine run_callx rfl (to_ex da (stepsM da pk) _ _ ha hal (steps_lim da pk) hsi) rfl (fun outs hG => ?_); obtain ⟨dd, rfl, hdd1, hdd2⟩ := hG; refine ⟨[eDk dd], [], rfl, rfl, rfl, ?_⟩)
    | (refine run_callx rfl (off_ex b hb _ (by omega)) rfl (fun outs hG => ?_); obtain ⟨po, p4, rfl, hu1, hu2, hu3, hu4⟩ := hG; refine ⟨[ePks po], [eRd b p4], rfl, rfl, rfl, ?_⟩)
    | (refine run_need rfl (elp_m (enc := i64) (xs := [-3, 0, 5, 10]) (by omega) (by simp; omega) (fun _ => rfl)) ?_)
    | (refine run_need rfl (eld_m (enc := i64) (xs := [-3, 0, 5, 10]) (by omega) (by simp; omega) (fun _ => rfl)) ?_)
    | (refine run_need rfl (by simp (disch := omega) only [z0, z1, z2, z3, z4, z5, z6, z7, z8, z9, z10, z11, z12, z13, z14, z15, z16, z17, z18, z19, z20, z21, z22, z23, z24, z25, eqDs, eqD, z28, z29, z30, z31, z32, z33, z34, z35, z36, z37, Nat.reduceAdd, z39, z40, z41, wrap64]; first | exact elp_m (enc := i64) (xs := dd.files) (by omega) (by omega) (fun _ => rfl) | exact elp_m (enc := i64) (xs := da.files) (by omega) (by omega) (fun _ => rfl) | exact els_m (xs := dd.files) (ys := dd.files) (by omega) (by omega) (by omega) rfl | exact els_m (xs := da.files) (ys := da.files) (by omega) (by omega) (by omega) rfl) ?_)
    | (refine run_need rfl ?_ ?_)
    | (refine run_ret rfl ?_ ; first | refine rb ?_ | refine ri ?_ | refine rs2 ?_ ?_ | refine rs1 ?_)
    | (refine run_retx rfl ?_))
    · rename_i i0 hi0 hi1
      exact ⟨⟨dd.db, dd.files.set i0.toNat (cI [[D.int .i64 (-3)], [D.int .i64 0], [D.int .i64 5], [D.int .i64 10]] v 0), dd.has, dd.jour⟩, pk, _, rs3 (by rw [els_v (by omega) (by omega)]) rfl rfl, ⟨hdd1.1, by rw [List.length_set]; exact hdd1.2.1, hdd1.2.2⟩, ht1, ht2, by omega, by omega⟩
    · exact ⟨⟨dd.db, dd.files, !dd.has, dd.jour⟩, pk, _, rs3 rfl rfl rfl, ⟨hdd1.1, hdd1.2.1, hdd1.2.2⟩, ht1, ht2, by omega, by omega⟩
    · refine ⟨⟨dd.db, (dd.files.take (dd.files.map i64).length).drop 1, dd.has, dd.jour⟩, pk, _, rs3 ?_ rfl rfl, ⟨hdd1.1, ?_, hdd1.2.2⟩, ht1, ht2, by omega, by omega⟩
      · dsimp only [eDk]
        rw [← List.map_take, ← List.map_drop]
        rfl
      · have h9 := hdd1.2.1
        unfold lim at h9 ⊢
        simp only [List.length_drop, List.length_take]
        omega
    · exact ⟨⟨po, dd.files, dd.has, dd.jour⟩, pk, _, rs3 rfl rfl rfl, ⟨hu1, hdd1.2.1, hdd1.2.2⟩, ht1, ht2, by omega, by omega⟩
    · exact ⟨dd, pk, _, rs3 rfl rfl rfl, hdd1, ht1, ht2, by omega, by omega⟩
    · rename_i i0 hi0 hi1
      exact ⟨⟨da.db, da.files.set i0.toNat (cI [[D.int .i64 (-3)], [D.int .i64 0], [D.int .i64 5], [D.int .i64 10]] v 0), da.has, da.jour⟩, pk, _, rs3 (by rw [els_v (by omega) (by omega)]) rfl rfl, ⟨ha.1, by rw [List.length_set]; exact ha.2.1, ha.2.2⟩, ht1, ht2, by omega, by omega⟩
    · exact ⟨⟨da.db, da.files, !da.has, da.jour⟩, pk, _, rs3 rfl rfl rfl, ⟨ha.1, ha.2.1, ha.2.2⟩, ht1, ht2, by omega, by omega⟩
    · refine ⟨⟨da.db, (da.files.take (da.files.map i64).length).drop 1, da.has, da.jour⟩, pk, _, rs3 ?_ rfl rfl, ⟨ha.1, ?_, ha.2.2⟩, ht1, ht2, by omega, by omega⟩
      · dsimp only [eDk]
        rw [← List.map_take, ← List.map_drop]
        rfl
      · have h9 := ha.2.1
        unfold lim at h9 ⊢
        simp only [List.length_drop, List.length_take]
        omega
    · exact ⟨⟨po, da.files, da.has, da.jour⟩, pk, _, rs3 rfl rfl rfl, ⟨hu1, ha.2.1, ha.2.2⟩, ht1, ht2, by omega, by omega⟩
    · exact ⟨da, pk, _, rs3 rfl rfl rfl, ha, ht1, ht2, by omega, by omega⟩)
  exact ⟨outs, hh1, F_s_l71Disk hh2⟩

/-- Bytes that a law is given. -/
def Code (b : List Int) : Prop := b.length ≤ 1048576 ∧ ∀ x ∈ b, 0 ≤ x ∧ x ≤ 255
theorem code_byt {b : List Int} (h : Code b) : Byt (b.take 2000) := ⟨by rw [List.length_take]; omega, fun x hx => h.2 x (List.mem_of_mem_take hx)⟩
theorem drawDisk_ex (b : List Int) (hb : Code b) : ∃ outs, (∃ d, outs = [eDk d] ∧ SmD d) ∧ FunOk PP W n_s_DrawDiskOk s_s_DrawDiskOk [eBs b] outs := by
  obtain ⟨outs, hh1, hh2⟩ := run_funx (Φ := FunOk PP W) (p := p_s_DrawDiskOk) (ins := [eBs b]) (G := fun outs => ∃ d, outs = [eDk d] ∧ SmD d) (by
    (repeat' first
    | (refine run_ite rfl (fun h => ?_) (fun h => ?_) <;> (try simp (disch := omega) only [z0, z1, z2, z3, z4, z5, z6, z7, z8, z9, z10, z11, z12, z13, z14, z15, z16, z17, z18, z19, z20, z21, z22, z23, z24, z25, eqDs, eqD, z28, z29, z30, z31, z32, z33, z34, z35, z36, z37, Nat.reduceAdd, z39, z40, z41, wrap64] at h) <;> (try (exfalso; omega)))
    | (refine run_need rfl (by (try simp (disch := omega) only [z0, z1, z2, z3, z4, z5, z6, z7, z8, z9, z10, z11, z12, z13, z14, z15, z16, z17, z18, z19, z20, z21, z22, z23, z24, z25, eqDs, eqD, z28, z29, z30, z31, z32, z33, z34, z35, z36, z37, Nat.reduceAdd, z39, z40, z41, wrap64]); first | exact elp_m (by omega) (by omega) (fun _ => rfl) | exact eld_m (by omega) (by omega) (fun _ => rfl) | exact els_m (by omega) (by omega) (by omega) rfl | exact lsl_m (by omega) (fun _ => rfl) | exact app_nil_m (by omega) (fun _ => rfl) (fun _ => rfl) | exact app_m_one (by omega) (fun _ => rfl) rfl rfl | exact app_m_m (by omega) (fun _ => rfl) (fun _ => rfl)) ?_)
    | (refine run_need rfl (by first | decide | omega | (simp only [List.length_map]; omega)) ?_)
    | (refine run_call1 rfl (open_ok b hb.1) rfl ?_)
    | (refine run_callx rfl (disk_ex _ (code_byt hb) 0 (by omega)) rfl (fun outs hG => ?_); obtain ⟨d, ps, p', rfl, h1, h2, h3, h4, h5⟩ := hG; refine ⟨[eDk d, ePks ps], [eRd (b.take 2000) p'], rfl, rfl, rfl, ?_⟩)
    | (refine run_need rfl ?_ ?_)
    | (refine run_ret rfl ?_ ; first | refine rb ?_ | refine ri ?_ | refine rs2 ?_ ?_ | refine rs1 ?_)
    | (refine run_retx rfl ?_))
    exact ⟨d, rfl, h1⟩)
  exact ⟨outs, hh1, F_s_DrawDiskOk hh2⟩
theorem drawMend_ex (b : List Int) (hb : Code b) : ∃ outs, (∃ d, outs = [eDk d] ∧ SmD d) ∧ FunOk PP W n_s_DrawInstMend s_s_DrawInstMend [eBs b] outs := by
  obtain ⟨outs, hh1, hh2⟩ := run_funx (Φ := FunOk PP W) (p := p_s_DrawInstMend) (ins := [eBs b]) (G := fun outs => ∃ d, outs = [eDk d] ∧ SmD d) (by
    (repeat' first
    | (refine run_ite rfl (fun h => ?_) (fun h => ?_) <;> (try simp (disch := omega) only [z0, z1, z2, z3, z4, z5, z6, z7, z8, z9, z10, z11, z12, z13, z14, z15, z16, z17, z18, z19, z20, z21, z22, z23, z24, z25, eqDs, eqD, z28, z29, z30, z31, z32, z33, z34, z35, z36, z37, Nat.reduceAdd, z39, z40, z41, wrap64] at h) <;> (try (exfalso; omega)))
    | (refine run_need rfl (by (try simp (disch := omega) only [z0, z1, z2, z3, z4, z5, z6, z7, z8, z9, z10, z11, z12, z13, z14, z15, z16, z17, z18, z19, z20, z21, z22, z23, z24, z25, eqDs, eqD, z28, z29, z30, z31, z32, z33, z34, z35, z36, z37, Nat.reduceAdd, z39, z40, z41, wrap64]); first | exact elp_m (by omega) (by omega) (fun _ => rfl) | exact eld_m (by omega) (by omega) (fun _ => rfl) | exact els_m (by omega) (by omega) (by omega) rfl | exact lsl_m (by omega) (fun _ => rfl) | exact app_nil_m (by omega) (fun _ => rfl) (fun _ => rfl) | exact app_m_one (by omega) (fun _ => rfl) rfl rfl | exact app_m_m (by omega) (fun _ => rfl) (fun _ => rfl)) ?_)
    | (refine run_need rfl (by first | decide | omega | (simp only [List.length_map]; omega)) ?_)
    | (refine run_callx rfl (drawDisk_ex b hb) rfl (fun outs hG => ?_); obtain ⟨d, rfl, h1⟩ := hG; refine ⟨[eDk d], [], rfl, rfl, rfl, ?_⟩)
    | (refine run_need rfl ?_ ?_)
    | (refine run_ret rfl ?_ ; first | refine rb ?_ | refine ri ?_ | refine rs2 ?_ ?_ | refine rs1 ?_)
    | (refine run_retx rfl ?_))
    exact ⟨d, rfl, h1⟩)
  exact ⟨outs, hh1, F_s_DrawInstMend hh2⟩
end V
end Go.Proofs.Ytgialjcichiaoaa

/-
Plain proofs: a disk that is mended has what its journal told.
-/
namespace Go.Proofs.Ytgialjcichiaoaa
namespace V
open Classical
set_option maxRecDepth 100000
variable {W : Wld}

theorem ix_set' {bs : List Int} {a p : Int} {t : Int} (a0 : 0 ≤ a) (a1 : a < bs.length) (p0 : 0 ≤ p) : ix (bs.set a.toNat t) p = if p = a then t else ix bs p := by
  have h2 : a.toNat < bs.length := by omega
  by_cases h : p = a
  · subst h; simp [ix, h2]
  · have : a.toNat ≠ p.toNat := by omega
    simp [ix, h, List.getElem?_set, this]
theorem doAll_app (d : Dk) (l m : List Stp) : doAll d (l ++ m) = doAll (doAll d l) m := List.foldl_append
theorem doAll_diff (a : List Int) (d : Dk) (h6 : d.files.length = 6) : ∀ n : Nat, n ≤ 6 → ∃ fs, doAll d (diffM a d.files n) = ⟨d.db, fs, d.has, d.jour⟩ ∧ fs.length = 6 ∧ ∀ j : Int, 0 ≤ j → j < 6 → ix fs j = if j < n then ix a j else ix d.files j
  | 0, _ => ⟨d.files, rfl, h6, fun j h0 h1 => by rw [if_neg (by omega)]⟩
  | n + 1, hn => by
    obtain ⟨fs, h1, h2, h3⟩ := doAll_diff a d h6 n (by omega)
    unfold diffM
    split
    · rename_i he
      refine ⟨fs, h1, h2, fun j j0 j1 => ?_⟩
      rw [h3 j j0 j1]
      by_cases hj : j = n
      · subst hj
        rw [if_neg (by omega), if_pos (by omega), he]
      · by_cases hl : j < n
        · rw [if_pos hl, if_pos (by omega)]
        · rw [if_neg hl, if_neg (by omega)]
    · refine ⟨fs.set n (ix a n), ?_, by rw [List.length_set]; exact h2, fun j j0 j1 => ?_⟩
      · rw [doAll_app, h1]
        rfl
      · have := ix_set' (bs := fs) (a := n) (p := j) (t := ix a n) (by omega) (by omega) j0
        rw [show ((n : Int).toNat) = n by omega] at this
        rw [this]
        by_cases hj : j = n
        · rw [if_pos hj, if_pos (by omega), hj]
        · rw [if_neg hj, h3 j j0 j1]
          by_cases hl : j < n
          · rw [if_pos hl, if_pos (by omega)]
          · rw [if_neg hl, if_neg (by omega)]
theorem doAll_rest (d : Dk) (ps : List Pk) (h6 : d.files.length = 6) : doAll d (restM d ps) = ⟨ps, filesM ps, false, []⟩ := by
  obtain ⟨fs, h1, h2, h3⟩ := doAll_diff (filesM ps) d h6 6 (Nat.le_refl 6)
  have hf : fs = filesM ps := ix_ext (by rw [h2, filesM_len]) (fun i i0 i1 => by have := h3 i i0 (by omega); rw [if_pos (by omega)] at this; exact this)
  unfold restM
  rw [doAll_app, h1, hf]
  rfl
theorem mendM_has {d : Dk} (h : DkOk d) (hh : d.has = true) : mendM d = ⟨d.jour, filesM d.jour, false, []⟩ := by
  unfold mendM mendsM
  rw [if_pos hh]
  exact doAll_rest d d.jour h.2.1
theorem mendM_not {d : Dk} (hh : d.has = false) : mendM d = d := by
  unfold mendM mendsM
  rw [if_neg (by rw [hh]; simp)]
  rfl
theorem trueM_files {ps : List Pk} (h : PlanM ps) : TrueM ⟨ps, filesM ps, false, []⟩ :=
  ⟨⟨fun i i0 i1 => by have := filesM_bd h.1 _ (ix_mem i0 i1); dsimp only; omega, filesM_len ps, h, planM_nil, .inr rfl⟩, rfl, rfl⟩
theorem mendM_ok {d : Dk} (h : DkOk d) : DkOk (mendM d) ∧ (mendM d).has = false := by
  by_cases hh : d.has = true
  · rw [mendM_has h hh]
    exact ⟨(trueM_files h.2.2.2.1).1, rfl⟩
  · have hf : d.has = false := by simpa using hh
    rw [mendM_not hf]
    exact ⟨h, hf⟩
theorem smD_mend {d : Dk} (hs : SmD d) : SmD (mendM d) := smD_all _ hs (fun s h => (mends_sm hs).2 s h)

theorem mendTrue_ok (b : List Int) (hb : ∀ x ∈ b, 0 ≤ x ∧ x ≤ 255) : FunOk PP W n_l_FnMendTrue s_l_FnMendTrue [eBs b] [bo true] := by
  refine F_l_FnMendTrue (run_fun ?_)
  (repeat' first
    | (refine run_ite rfl (fun h => ?_) (fun h => ?_) <;> (try simp (disch := omega) only [z0, z1, z2, z3, z4, z5, z6, z7, z8, z9, z10, z11, z12, z13, z14, z15, z16, z17, z18, z19, z20, z21, z22, z23, z24, z25, eqDs, eqD, z28, z29, z30, z31, z32, z33, z34, z35, z36, z37, Nat.reduceAdd, z39, z40, z41, wrap64] at h) <;> (try (exfalso; omega)))
    | (refine run_need rfl (by (try simp (disch := omega) only [z0, z1, z2, z3, z4, z5, z6, z7, z8, z9, z10, z11, z12, z13, z14, z15, z16, z17, z18, z19, z20, z21, z22, z23, z24, z25, eqDs, eqD, z28, z29, z30, z31, z32, z33, z34, z35, z36, z37, Nat.reduceAdd, z39, z40, z41, wrap64]); first | exact elp_m (by omega) (by omega) (fun _ => rfl) | exact eld_m (by omega) (by omega) (fun _ => rfl) | exact els_m (by omega) (by omega) (by omega) rfl | exact lsl_m (by omega) (fun _ => rfl) | exact app_nil_m (by omega) (fun _ => rfl) (fun _ => rfl) | exact app_m_one (by omega) (fun _ => rfl) rfl rfl | exact app_m_m (by omega) (fun _ => rfl) (fun _ => rfl)) ?_)
    | (refine run_need rfl (by first | decide | omega | (simp only [List.length_map]; omega)) ?_)
    | (refine run_need rfl ?_ ?_)
    | (refine run_ret rfl ?_ ; first | refine rb ?_ | refine ri ?_ | refine rs2 ?_ ?_ | refine rs1 ?_)
    | (refine run_retx rfl ?_))
  · rfl
  have hc : Code b := ⟨by omega, hb⟩
  refine run_callx rfl (drawMend_ex b hc) rfl (fun outs hG => ?_)
  obtain ⟨d, rfl, hs⟩ := hG
  refine ⟨[eDk d], [], rfl, rfl, rfl, ?_⟩
  by_cases hd : DkOk d
  · have e1 := sInstMend_ok (W := W) d hs
    have e2 := iInstMend_ok (W := W) d hs
    rw [if_pos hd, decide_eq_true hd] at e1 e2
    have e3 := iInstMend_ok (W := W) (mendM d) (smD_mend hs)
    rw [if_pos (mendM_ok hd).1, decide_eq_true (mendM_ok hd).1, mendM_not (mendM_ok hd).2] at e3
    have e4 := iDiskTrue_ok (W := W) (mendM d) (smD_mend hs)
    have e5 := luPkgs_ok (W := W) (mendM d).db d.jour (smD_mend hs).1
    (repeat' first
    | (refine run_ite rfl (fun h => ?_) (fun h => ?_) <;> (try simp (disch := omega) only [z0, z1, z2, z3, z4, z5, z6, z7, z8, z9, z10, z11, z12, z13, z14, z15, z16, z17, z18, z19, z20, z21, z22, z23, z24, z25, eqDs, eqD, z28, z29, z30, z31, z32, z33, z34, z35, z36, z37, Nat.reduceAdd, z39, z40, z41, wrap64] at h) <;> (try (exfalso; omega)))
    | (refine run_need rfl (by (try simp (disch := omega) only [z0, z1, z2, z3, z4, z5, z6, z7, z8, z9, z10, z11, z12, z13, z14, z15, z16, z17, z18, z19, z20, z21, z22, z23, z24, z25, eqDs, eqD, z28, z29, z30, z31, z32, z33, z34, z35, z36, z37, Nat.reduceAdd, z39, z40, z41, wrap64]); first | exact elp_m (by omega) (by omega) (fun _ => rfl) | exact eld_m (by omega) (by omega) (fun _ => rfl) | exact els_m (by omega) (by omega) (by omega) rfl | exact lsl_m (by omega) (fun _ => rfl) | exact app_nil_m (by omega) (fun _ => rfl) (fun _ => rfl) | exact app_m_one (by omega) (fun _ => rfl) rfl rfl | exact app_m_m (by omega) (fun _ => rfl) (fun _ => rfl)) ?_)
    | (refine run_need rfl (by first | decide | omega | (simp only [List.length_map]; omega)) ?_)
    | (refine run_callr rfl e1 rfl rfl ?_)
    | (refine run_callr rfl e2 rfl rfl ?_)
    | (refine run_callr rfl e3 rfl rfl ?_)
    | (refine run_call1 rfl (e4) rfl ?_)
    | (refine run_call1 rfl (e5) rfl ?_)
    | (refine run_call1 rfl (luDisk_ok (mendM d) (mendM d) (smD_mend hs)) rfl ?_)
    | (refine run_call1 rfl (luDisk_ok (mendM d) d (smD_mend hs)) rfl ?_)
    | (refine run_need rfl ?_ ?_)
    | (refine run_ret rfl ?_ ; first | refine rb ?_ | refine ri ?_ | refine rs2 ?_ ?_ | refine rs1 ?_)
    | (refine run_retx rfl ?_))
    all_goals first
      | exact absurd trivial (by assumption)
      | exact decide_eq_true rfl
      | exact decide_eq_true (mendM_not (by assumption))
      | exact decide_eq_true (by rw [mendM_has hd (by assumption)])
      | exact absurd (by rw [mendM_has hd (by assumption)]; exact trueM_files hd.2.2.2.1) h
  · have e1 := sInstMend_ok (W := W) d hs
    have e2 := iInstMend_ok (W := W) d hs
    rw [if_neg hd, decide_eq_false hd] at e1 e2
    (repeat' first
    | (refine run_ite rfl (fun h => ?_) (fun h => ?_) <;> (try simp (disch := omega) only [z0, z1, z2, z3, z4, z5, z6, z7, z8, z9, z10, z11, z12, z13, z14, z15, z16, z17, z18, z19, z20, z21, z22, z23, z24, z25, eqDs, eqD, z28, z29, z30, z31, z32, z33, z34, z35, z36, z37, Nat.reduceAdd, z39, z40, z41, wrap64] at h) <;> (try (exfalso; omega)))
    | (refine run_need rfl (by (try simp (disch := omega) only [z0, z1, z2, z3, z4, z5, z6, z7, z8, z9, z10, z11, z12, z13, z14, z15, z16, z17, z18, z19, z20, z21, z22, z23, z24, z25, eqDs, eqD, z28, z29, z30, z31, z32, z33, z34, z35, z36, z37, Nat.reduceAdd, z39, z40, z41, wrap64]); first | exact elp_m (by omega) (by omega) (fun _ => rfl) | exact eld_m (by omega) (by omega) (fun _ => rfl) | exact els_m (by omega) (by omega) (by omega) rfl | exact lsl_m (by omega) (fun _ => rfl) | exact app_nil_m (by omega) (fun _ => rfl) (fun _ => rfl) | exact app_m_one (by omega) (fun _ => rfl) rfl rfl | exact app_m_m (by omega) (fun _ => rfl) (fun _ => rfl)) ?_)
    | (refine run_need rfl (by first | decide | omega | (simp only [List.length_map]; omega)) ?_)
    | (refine run_callr rfl e1 rfl rfl ?_)
    | (refine run_callr rfl e2 rfl rfl ?_)
    | (refine run_call1 rfl (luDisk_ok dkZ dkZ ⟨smPs_nil', by decide, smPs_nil'⟩) rfl ?_)
    | (refine run_need rfl ?_ ?_)
    | (refine run_ret rfl ?_ ; first | refine rb ?_ | refine ri ?_ | refine rs2 ?_ ?_ | refine rs1 ?_)
    | (refine run_retx rfl ?_))
    all_goals first
      | exact absurd trivial (by assumption)
      | exact decide_eq_true rfl
end V
end Go.Proofs.Ytgialjcichiaoaa

/-
Plain proofs: putting in, by the reference and by the program.
-/
namespace Go.Proofs.Ytgialjcichiaoaa
namespace V
open Classical
set_option maxRecDepth 100000
variable {W : Wld}

theorem l21Same_ok (a b : List Int) (ha : a.length ≤ lim) (hb : a.length ≤ b.length) : FunOk PP W n_s_l21Same s_s_l21Same [eIs a, eIs b] [bo (decide (Blw a.length (fun i => ix a i = ix b i)))] := by
  refine F_s_l21Same (run_fun ?_)
  unfold lim at ha
  refine run_loop rfl (fun i : Int => 0 ≤ i ∧ i ≤ a.length ∧ Blw i (fun i => ix a i = ix b i)) (fun i => [(5, .val (i64 i)), (0, .val (eIs a)), (1, .val (eIs b))]) (fun i => (a.length - i).toNat) 0 ⟨by omega, by omega, blw_zero _⟩ ⟨rfl, rfl, rfl, trivial⟩ rfl ?_
  rintro i e ⟨h0, hN, hP⟩
  (repeat' first
    | (refine run_ite rfl (fun h => ?_) (fun h => ?_) <;> (try simp (disch := omega) only [z0, z1, z2, z3, z4, z5, z6, z7, z8, z9, z10, z11, z12, z13, z14, z15, z16, z17, z18, z19, z20, z21, z22, z23, z24, z25, eqDs, eqD, z28, z29, z30, z31, z32, z33, z34, z35, z36, z37, Nat.reduceAdd, z39, z40, z41, wrap64] at h) <;> (try (exfalso; omega)))
    | (refine run_need rfl (by (try simp (disch := omega) only [z0, z1, z2, z3, z4, z5, z6, z7, z8, z9, z10, z11, z12, z13, z14, z15, z16, z17, z18, z19, z20, z21, z22, z23, z24, z25, eqDs, eqD, z28, z29, z30, z31, z32, z33, z34, z35, z36, z37, Nat.reduceAdd, z39, z40, z41, wrap64]); first | exact elp_m (by omega) (by omega) (fun _ => rfl) | exact eld_m (by omega) (by omega) (fun _ => rfl) | exact els_m (by omega) (by omega) (by omega) rfl | exact lsl_m (by omega) (fun _ => rfl) | exact app_nil_m (by omega) (fun _ => rfl) (fun _ => rfl) | exact app_m_one (by omega) (fun _ => rfl) rfl rfl | exact app_m_m (by omega) (fun _ => rfl) (fun _ => rfl)) ?_)
    | (refine run_need rfl (by first | decide | omega | (simp only [List.length_map]; omega)) ?_)
    | (refine run_next rfl (Exists.intro (i + 1) ⟨by omega, ⟨by omega, by omega, blw_succ hP (by assumption)⟩, i64_eq (wrap64 _ (by omega)), rfl, rfl, trivial⟩))
    | (refine run_need rfl ?_ ?_)
    | (refine run_ret rfl ?_ ; first | refine rb ?_ | refine ri ?_ | refine rs2 ?_ ?_ | refine rs1 ?_)
    | (refine run_retx rfl ?_))
  · exact fD (fun h' => absurd (h' i h0 (by assumption)) (by assumption))
  · exact tD (blw_to hP (by omega))
theorem dkOk_db {d : Dk} (h : DkOk d) : PksOk d.db := h.2.2.1.1
theorem dkOk_le {d : Dk} (h : DkOk d) : d.files.length ≤ (filesM d.db).length := by rw [h.2.1, filesM_len]; exact Nat.le_refl 6
theorem plan_paths {ps : List Pk} (h : PlanM ps) : PathsOk ps := pathsOk_of h.1
theorem sDiskTrue_ok (d : Dk) (hs : SmD d) : FunOk PP W n_s_DiskTrue s_s_DiskTrue [eDk d] [bo (decide (TrueM d))] := by
  refine F_s_DiskTrue (run_fun ?_)
  have hfl := filesM_len d.db
  (repeat' first
    | (refine run_ite rfl (fun h => ?_) (fun h => ?_) <;> (try simp (disch := omega) only [z0, z1, z2, z3, z4, z5, z6, z7, z8, z9, z10, z11, z12, z13, z14, z15, z16, z17, z18, z19, z20, z21, z22, z23, z24, z25, eqDs, eqD, z28, z29, z30, z31, z32, z33, z34, z35, z36, z37, Nat.reduceAdd, z39, z40, z41, wrap64] at h) <;> (try (exfalso; omega)))
    | (refine run_need rfl (by (try simp (disch := omega) only [z0, z1, z2, z3, z4, z5, z6, z7, z8, z9, z10, z11, z12, z13, z14, z15, z16, z17, z18, z19, z20, z21, z22, z23, z24, z25, eqDs, eqD, z28, z29, z30, z31, z32, z33, z34, z35, z36, z37, Nat.reduceAdd, z39, z40, z41, wrap64]); first | exact elp_m (by omega) (by omega) (fun _ => rfl) | exact eld_m (by omega) (by omega) (fun _ => rfl) | exact els_m (by omega) (by omega) (by omega) rfl | exact lsl_m (by omega) (fun _ => rfl) | exact app_nil_m (by omega) (fun _ => rfl) (fun _ => rfl) | exact app_m_one (by omega) (fun _ => rfl) rfl rfl | exact app_m_m (by omega) (fun _ => rfl) (fun _ => rfl)) ?_)
    | (refine run_need rfl (by first | decide | omega | (simp only [List.length_map]; omega)) ?_)
    | (refine run_call1 rfl (sDiskOk_ok d hs) rfl ?_)
    | (refine run_call1 rfl (l13Files_ok d.db hs.1 (pathsOk_of (dkOk_db (by assumption)))) rfl ?_)
    | (refine run_call1 rfl (l21Same_ok d.files (filesM d.db) hs.2.1 (dkOk_le (by assumption))) rfl ?_)
    | (refine run_need rfl ?_ ?_)
    | (refine run_ret rfl ?_ ; first | refine rb ?_ | refine ri ?_ | refine rs2 ?_ ?_ | refine rs1 ?_)
    | (refine run_retx rfl ?_))
  · have hd : DkOk d := by assumption
    refine dI (p := TrueM d) ?_
    rw [decide_eq_true_eq]
    exact ⟨fun h' => ⟨hd, h, ix_ext (by rw [hd.2.1, hfl]) h'⟩, fun h' => by rw [h'.2.2]; exact fun i _ _ => rfl⟩
  · exact fD (p := TrueM d) (fun h' => by rw [h'.2.1] at h; cases h)
  · exact fD (p := TrueM d) (fun h' => h h'.1)

noncomputable def instM (d : Dk) (ps : List Pk) : List Stp := if TrueM d ∧ PlanM ps then stepsM d ps else []
theorem true_len {d : Dk} (h : TrueM d) : 6 ≤ d.files.length := dkOk_len h.1
theorem sInstSteps_ok (d : Dk) (ps : List Pk) (hs : SmD d) (hp : SmPs ps) : FunOk PP W n_s_InstSteps s_s_InstSteps [eDk d, ePks ps] [eSts (instM d ps)] := by
  refine F_s_InstSteps (run_fun ?_)
  unfold instM
  (repeat' first
    | (refine run_ite rfl (fun h => ?_) (fun h => ?_) <;> (try simp (disch := omega) only [z0, z1, z2, z3, z4, z5, z6, z7, z8, z9, z10, z11, z12, z13, z14, z15, z16, z17, z18, z19, z20, z21, z22, z23, z24, z25, eqDs, eqD, z28, z29, z30, z31, z32, z33, z34, z35, z36, z37, Nat.reduceAdd, z39, z40, z41, wrap64] at h) <;> (try (exfalso; omega)))
    | (refine run_need rfl (by (try simp (disch := omega) only [z0, z1, z2, z3, z4, z5, z6, z7, z8, z9, z10, z11, z12, z13, z14, z15, z16, z17, z18, z19, z20, z21, z22, z23, z24, z25, eqDs, eqD, z28, z29, z30, z31, z32, z33, z34, z35, z36, z37, Nat.reduceAdd, z39, z40, z41, wrap64]); first | exact elp_m (by omega) (by omega) (fun _ => rfl) | exact eld_m (by omega) (by omega) (fun _ => rfl) | exact els_m (by omega) (by omega) (by omega) rfl | exact lsl_m (by omega) (fun _ => rfl) | exact app_nil_m (by omega) (fun _ => rfl) (fun _ => rfl) | exact app_m_one (by omega) (fun _ => rfl) rfl rfl | exact app_m_m (by omega) (fun _ => rfl) (fun _ => rfl)) ?_)
    | (refine run_need rfl (by first | decide | omega | (simp only [List.length_map]; omega)) ?_)
    | (refine run_call1 rfl (sDiskTrue_ok d hs) rfl ?_)
    | (refine run_call1 rfl (sPlanOk_ok ps hp) rfl ?_)
    | (refine run_call1 rfl (l22Steps_ok d ps hp (plan_paths (by assumption)) (true_len (by assumption))) rfl ?_)
    | (refine run_need rfl ?_ ?_)
    | (refine run_ret rfl ?_ ; first | refine rb ?_ | refine ri ?_ | refine rs2 ?_ ?_ | refine rs1 ?_)
    | (refine run_retx rfl ?_))
  · rw [if_neg (fun h' => h h'.1)]; rfl
  · rw [if_neg (fun h' => h h'.2)]; rfl
  · rw [if_pos ⟨by assumption, by assumption⟩]
theorem iInstSteps_ok (d : Dk) (ps : List Pk) (hs : SmD d) (hp : SmPs ps) : FunOk PP W n_i_InstSteps s_i_InstSteps [eDk d, ePks ps] [eSts (instM d ps)] := by
  refine F_i_InstSteps (run_fun ?_)
  unfold instM
  have hrl := restM_len d ps
  (repeat' first
    | (refine run_ite rfl (fun h => ?_) (fun h => ?_) <;> (try simp (disch := omega) only [z0, z1, z2, z3, z4, z5, z6, z7, z8, z9, z10, z11, z12, z13, z14, z15, z16, z17, z18, z19, z20, z21, z22, z23, z24, z25, eqDs, eqD, z28, z29, z30, z31, z32, z33, z34, z35, z36, z37, Nat.reduceAdd, z39, z40, z41, wrap64] at h) <;> (try (exfalso; omega)))
    | (refine run_need rfl (by (try simp (disch := omega) only [z0, z1, z2, z3, z4, z5, z6, z7, z8, z9, z10, z11, z12, z13, z14, z15, z16, z17, z18, z19, z20, z21, z22, z23, z24, z25, eqDs, eqD, z28, z29, z30, z31, z32, z33, z34, z35, z36, z37, Nat.reduceAdd, z39, z40, z41, wrap64]); first | exact elp_m (by omega) (by omega) (fun _ => rfl) | exact eld_m (by omega) (by omega) (fun _ => rfl) | exact els_m (by omega) (by omega) (by omega) rfl | exact lsl_m (by omega) (fun _ => rfl) | exact app_nil_m (by omega) (fun _ => rfl) (fun _ => rfl) | exact app_m_one (by omega) (fun _ => rfl) rfl rfl | exact app_m_m (by omega) (fun _ => rfl) (fun _ => rfl)) ?_)
    | (refine run_need rfl (by first | decide | omega | (simp only [List.length_map]; omega)) ?_)
    | (refine run_call1 rfl (iDiskTrue_ok d hs) rfl ?_)
    | (refine run_call1 rfl (iPlanOk_ok ps hp) rfl ?_)
    | (refine run_call1 rfl (copies_ok ps hp) rfl ?_)
    | (refine run_call1 rfl (stepsFor_ok d ps hp (by assumption) (true_len (by assumption))) rfl ?_)
    | (refine run_need rfl ?_ ?_)
    | (refine run_ret rfl ?_ ; first | refine rb ?_ | refine ri ?_ | refine rs2 ?_ ?_ | refine rs1 ?_)
    | (refine run_retx rfl ?_))
  · rw [if_neg (fun h' => h h'.1)]; rfl
  · rw [if_neg (fun h' => h h'.2)]; rfl
  · refine ⟨by simp [lim]; omega, ?_, by simp⟩
    intro x hx
    rcases List.mem_append.1 hx with h' | h'
    · rw [List.mem_singleton.1 h']; rfl
    · obtain ⟨y, _, rfl⟩ := List.mem_map.1 h'; rfl
  · rw [if_pos ⟨by assumption, by assumption⟩]; rfl
theorem iDiskNew_ok : FunOk PP W n_i_DiskNew s_i_DiskNew [] [eDk dk0] := by
  refine F_i_DiskNew (run_fun ?_)
  (repeat' first
    | (refine run_ite rfl (fun h => ?_) (fun h => ?_) <;> (try simp (disch := omega) only [z0, z1, z2, z3, z4, z5, z6, z7, z8, z9, z10, z11, z12, z13, z14, z15, z16, z17, z18, z19, z20, z21, z22, z23, z24, z25, eqDs, eqD, z28, z29, z30, z31, z32, z33, z34, z35, z36, z37, Nat.reduceAdd, z39, z40, z41, wrap64] at h) <;> (try (exfalso; omega)))
    | (refine run_need rfl (by (try simp (disch := omega) only [z0, z1, z2, z3, z4, z5, z6, z7, z8, z9, z10, z11, z12, z13, z14, z15, z16, z17, z18, z19, z20, z21, z22, z23, z24, z25, eqDs, eqD, z28, z29, z30, z31, z32, z33, z34, z35, z36, z37, Nat.reduceAdd, z39, z40, z41, wrap64]); first | exact elp_m (by omega) (by omega) (fun _ => rfl) | exact eld_m (by omega) (by omega) (fun _ => rfl) | exact els_m (by omega) (by omega) (by omega) rfl | exact lsl_m (by omega) (fun _ => rfl) | exact app_nil_m (by omega) (fun _ => rfl) (fun _ => rfl) | exact app_m_one (by omega) (fun _ => rfl) rfl rfl | exact app_m_m (by omega) (fun _ => rfl) (fun _ => rfl)) ?_)
    | (refine run_need rfl (by first | decide | omega | (simp only [List.length_map]; omega)) ?_)
    | (refine run_call1 rfl (repeatI_ok) rfl ?_)
    | (refine run_need rfl ?_ ?_)
    | (refine run_ret rfl ?_ ; first | refine rb ?_ | refine ri ?_ | refine rs2 ?_ ?_ | refine rs1 ?_)
    | (refine run_retx rfl ?_))
  rfl

/-- A disk with just these packages. -/
noncomputable def rightM (ps : List Pk) : Dk := ⟨ps, filesM ps, false, []⟩
theorem doAll_steps (d : Dk) (ps : List Pk) (h6 : d.files.length = 6) : doAll d (stepsM d ps) = rightM ps :=
  doAll_rest (doM d ⟨1, 0, 0, ps⟩) ps h6
theorem true_right {d : Dk} (h : TrueM d) : rightM d.db = d := by
  obtain ⟨h1, h2, h3⟩ := h
  have hj : d.jour = [] := by
    rcases h1.2.2.2.2 with h | h
    · rw [h2] at h; cases h
    · exact List.eq_nil_of_length_eq_zero h
  unfold rightM
  rw [← h3]
  cases d
  simp_all
theorem right_true {ps : List Pk} (h : PlanM ps) : TrueM (rightM ps) := trueM_files h
theorem right_sm {ps : List Pk} (h : SmPs ps) : SmD (rightM ps) := ⟨h, by rw [show (rightM ps).files = filesM ps from rfl, filesM_len]; decide, smPs_nil'⟩
theorem rest_stOk (d : Dk) {ps : List Pk} (hP : PlanM ps) : ∀ s ∈ restM d ps, StOk s := by
  intro s hs
  rcases List.mem_append.1 hs with h1 | h1
  · have h2 := diffM_in _ _ _ _ h1
    have h3 := diffM_data _ _ _ _ h1
    have h4 := filesM_bd hP.1 _ (ix_mem h2.1 (by rw [filesM_len]; exact h2.2.1))
    rw [← h3] at h4
    have h5 : s.pkgs.length = 0 := by rw [h2.2.2.2]; rfl
    exact .inr (.inl ⟨h2.2.2.1, by omega, h4, h5⟩)
  · simp only [List.mem_cons, List.not_mem_nil, or_false] at h1
    rcases h1 with rfl | rfl
    · exact .inl ⟨.inr rfl, rfl, rfl, hP⟩
    · exact .inr (.inr ⟨rfl, rfl, rfl, rfl⟩)
theorem steps_stOk (d : Dk) {ps : List Pk} (hP : PlanM ps) : ∀ s ∈ stepsM d ps, StOk s := by
  intro s hs
  rcases List.mem_cons.1 hs with rfl | h
  · exact .inl ⟨.inl rfl, rfl, rfl, hP⟩
  · exact rest_stOk d hP s h
theorem steps_sm (d : Dk) {ps : List Pk} (hp : SmPs ps) : SmSs (stepsM d ps) := ⟨steps_lim d ps, fun s h => (stepsM_in d hp (Nat.le_refl 6) s h).2⟩
theorem instM_yes {d : Dk} {ps : List Pk} (h : TrueM d) (hp : PlanM ps) : instM d ps = stepsM d ps := if_pos ⟨h, hp⟩
theorem toOk_steps {d : Dk} {ps : List Pk} (h : TrueM d) (hP : PlanM ps) {c : Int} (hc : 0 ≤ c) : ToOk d (stepsM d ps) c := ⟨h.1, hc, steps_stOk d hP⟩
/-- All of the steps are done. -/
theorem instAll_ok (d : Dk) (ps : List Pk) (hs : SmD d) (hp : SmPs ps) (h : TrueM d) (hP : PlanM ps) : FunOk PP W n_i_InstTo s_i_InstTo [eDk d, eSts (stepsM d ps), i64 ((stepsM d ps).map eSt).length, bo false] [eDk (rightM ps), bo true] := by
  have := iInstTo_ok (W := W) d (stepsM d ps) ((stepsM d ps).map eSt).length false hs (steps_sm d hp)
  rw [if_pos (toOk_steps h hP (by omega)), decide_eq_true (toOk_steps h hP (by omega))] at this
  rw [show toM d (stepsM d ps) ((stepsM d ps).map eSt).length false = rightM ps by rw [List.length_map, toM_all, doAll_steps d ps h.1.2.1]] at this
  exact this
end V
end Go.Proofs.Ytgialjcichiaoaa

/-
Plain proofs: a drawn disk, and packages that are to be in: two ways of calling, by whether the disk's places may still be written.
-/
namespace Go.Proofs.Ytgialjcichiaoaa
namespace V
open Classical
set_option maxRecDepth 100000
variable {W : Wld}

abbrev s_diskA : Sig := ⟨[.box false [.r, .s]], [.v true [.r, .o true ⟨1, false⟩, .s, .r], .v false [.r]]⟩
def trUpd {α : Type} (k : Nat) (v : α) : Tr α → Tr α
  | .e => .e
  | .n j x l r => if Nat.beq k j then .n j v l r else if Nat.ble k j then .n j x (trUpd k v l) r else .n j x l (trUpd k v r)
def sigsA : Tr (List Sig) := trUpd n_s_l71Disk [s_diskA] sigs
def p_diskA : PC := .seq (.ss [.bld 2 [.sl [], .sl [], .bool false, .sl []] [], .mv 3 (.c (.sl []))]) (.seq (.ss [.nop, .call 8 n_s_l71Pkgs s_s_l71Pkgs [(.t 0)] [0], .mv 4 (.t 8)]) (.seq (.ss [.call 9 n_s_DiskNew s_s_DiskNew [] [], .bld 5 [.sl [], .sl [], .bool false, .sl []] [], .st 5 0 (.t 9)]) (.seq (.ss [.sub 10 5 0 4, .sub 11 5 0 4, .nop, .mv 13 (.t 4), .call 14 n_s_l71Plan s_s_l71Plan [(.t 0), (.t 13)] [0], .call 15 n_s_l22Steps s_s_l22Steps [(.t 11), (.t 14)] [], .call 16 n_s_l22To s_s_l22To [(.t 10), (.t 15), (.c (.int .i64 20)), (.c (.bool false))] [], .st 5 0 (.t 16)]) (.seq (.ss [.nop, .nop, .call 19 n_s_l71Pkgs s_s_l71Pkgs [(.t 0)] [0], .call 20 n_s_l71Plan s_s_l71Plan [(.t 0), (.t 19)] [0], .mv 6 (.t 20)]) (.seq (.seq (.ss [.nop, .call 22 n_s_l6Rd_pick s_s_l6Rd_pick [(.t 0), (.c (.int .i64 3))] [0], .bin 23 .gtr (.t 22) (.c (.int .i64 0))]) (.cond (.t 23) (.ss [.sub 24 5 0 4, .sub 25 5 0 4, .mv 26 (.t 6), .call 27 n_s_l22Steps s_s_l22Steps [(.t 25), (.t 26)] [], .nop, .call 29 n_s_l6Rd_pick s_s_l6Rd_pick [(.t 0), (.c (.int .i64 8))] [0], .nop, .call 31 n_s_l6Rd_pick s_s_l6Rd_pick [(.t 0), (.c (.int .i64 2))] [0], .bin 32 .eql (.t 31) (.c (.int .i64 0)), .call 33 n_s_l22To s_s_l22To [(.t 24), (.t 27), (.t 29), (.t 32)] [], .st 5 0 (.t 33)]) (.skip))) (.seq (.seq (.ss [.nop, .call 35 n_s_l6Rd_pick s_s_l6Rd_pick [(.t 0), (.c (.int .i64 24))] [0]]) (.block 0 (.seq (.ss [.bin 37 .eql (.t 35) (.c (.int .i64 0)), .mv 36 (.t 37)]) (.cond (.t 36) (.ss [.nop, .sub 39 5 1 1, .nop, .nop, .sub 42 5 1 1, .len 43 (.t 42), .call 44 n_s_l6Rd_pick s_s_l6Rd_pick [(.t 0), (.t 43)] [0], .lit 45 4 [.int .i64 0] [(0, (.c (.int .i64 (-3)))), (1, (.c (.int .i64 0))), (2, (.c (.int .i64 5))), (3, (.c (.int .i64 10)))], .nop, .call 47 n_s_l6Rd_pick s_s_l6Rd_pick [(.t 0), (.c (.int .i64 4))] [0], .elp 48 (.t 45) (.t 47) 1, .eld 49 48 0 [.int .i64 0], .elp 50 (.t 39) (.t 44) 1, .els 50 0 5 1 (.t 49)]) (.seq (.ss [.bin 52 .eql (.t 35) (.c (.int .i64 1)), .mv 51 (.t 52)]) (.cond (.t 51) (.ss [.nop, .sub 54 5 2 1, .un 55 .not (.t 54), .nop, .st 5 2 (.t 55)]) (.seq (.ss [.bin 58 .eql (.t 35) (.c (.int .i64 2)), .mv 57 (.t 58)]) (.cond (.t 57) (.fail) (.seq (.ss [.bin 64 .eql (.t 35) (.c (.int .i64 3)), .mv 63 (.t 64)]) (.cond (.t 63) (.ss [.nop, .call 66 n_s_l71Off s_s_l71Off [(.t 0)] [0], .nop, .st 5 0 (.t 66)]) (.skip))))))))))) (.seq (.ss [.sub 68 5 0 4, .mv 69 (.t 6), .st 2 0 (.t 68), .mv 3 (.t 69)]) (.ret [2, 3, 0]))))))))
def k_diskA : Cfg := { tt := tt, sigs := sigs, mv := false, bm := [], eqt := eqL, keep := [true, false, true, true, true, true, true, false, false, false, false, false, false, false, false, false, false, false, false, false, false, false, false, true, false, false, false, false, false, false, false, false, false, false, false, true, true, false, false, false, false, false, false, false, false, false, false, false, false, false, false, true, false, false, false, false, false, true, false, false, false, false, false, true, false, false, false, false, false, false], n := 70, pin := [0], fail := [13], fz := [] }
theorem c_diskA : cFun k_diskA Try.f82 s_diskA = some p_diskA := by kernel_rfl
theorem F_diskA {W : Wld} {ins outs : List (List D)} (h : pwp (FunOk PP W) p_diskA (RetIs outs) (envL ins)) : FunOk PP W n_s_l71Disk s_diskA ins outs := fun_ok (C := k_diskA) (cfg_ok rfl) (eq_ok rfl rfl) mixed Try.func82 (by kernel_rfl) (by kernel_rfl) c_diskA h

def p_stepsA : PC := .seq (.ss [.bld 2 [.sl [], .sl [], .bool false, .sl []] [], .mv 3 (.c (.sl []))]) (.seq (.ss [.mv 7 (.t 0), .call 8 n_s_l6Open s_s_l6Open [(.t 7)] [], .nop]) (.seq (.ss [.nop, .call 11 n_s_l71Disk s_diskA [(.t 8)] [8], .mv 9 (.t 11), .ext 12 9 0 4, .ext 13 9 4 1, .bld 5 [.sl [], .sl [], .bool false, .sl []] [], .st 5 0 (.t 12), .mv 6 (.t 13)]) (.seq (.seq (.ss [.nop, .call 15 n_s_l6Rd_pick s_s_l6Rd_pick [(.t 8), (.c (.int .i64 6))] [8], .bin 16 .gtr (.t 15) (.c (.int .i64 0)), .mv 17 (.t 16), .g 17 true 18 (.sub 18 5 0 4), .g 17 true 19 (.call 19 n_s_DiskOk s_s_DiskOk [(.t 18)] []), .pick 20 (.t 17) (.t 19) (.c (.bool false))]) (.cond (.t 20) (.ss [.sub 21 5 0 4, .sub 22 5 0 4, .call 23 n_s_l22Mends s_s_l22Mends [(.t 22)] [], .call 24 n_s_l22To s_s_l22To [(.t 21), (.t 23), (.c (.int .i64 20)), (.c (.bool false))] [], .st 5 0 (.t 24)]) (.skip))) (.seq (.seq (.ss [.nop, .call 26 n_s_l6Rd_pick s_s_l6Rd_pick [(.t 8), (.c (.int .i64 3))] [8], .bin 27 .eql (.t 26) (.c (.int .i64 0))]) (.cond (.t 27) (.ss [.nop, .nop, .call 30 n_s_l71Pkgs s_s_l71Pkgs [(.t 8)] [8], .call 31 n_s_l71Plan s_s_l71Plan [(.t 8), (.t 30)] [8], .mv 6 (.t 31)]) (.skip))) (.seq (.ss [.sub 32 5 0 4, .mv 33 (.t 6), .st 2 0 (.t 32), .mv 3 (.t 33)]) (.ret [2, 3]))))))
def k_stepsA : Cfg := { tt := tt, sigs := sigsA, mv := false, bm := [], eqt := eqL, keep := [true, false, true, true, true, true, true, false, true, false, false, false, false, false, false, false, false, false, false, false, true, false, false, false, false, false, false, true, false, false, false, false, false, false], n := 34, pin := [], fail := [], fz := [] }
theorem c_stepsA : cFun k_stepsA Try.f31 s_s_DrawInstSteps = some p_stepsA := by kernel_rfl
theorem F_stepsA {W : Wld} {ins outs : List (List D)} (h : pwp (FunOk PP W) p_stepsA (RetIs outs) (envL ins)) : FunOk PP W n_s_DrawInstSteps s_s_DrawInstSteps ins outs := fun_ok (C := k_stepsA) (cfg_ok rfl) (eq_ok rfl rfl) mixed Try.func31 (by kernel_rfl) (by kernel_rfl) c_stepsA h

def p_stepsB : PC := .seq (.ss [.bld 2 [.sl [], .sl [], .bool false, .sl []] [], .mv 3 (.c (.sl []))]) (.seq (.ss [.mv 7 (.t 0), .call 8 n_s_l6Open s_s_l6Open [(.t 7)] [], .nop]) (.seq (.ss [.nop, .call 11 n_s_l71Disk s_s_l71Disk [(.t 8)] [8], .mv 9 (.t 11), .ext 12 9 0 4, .ext 13 9 4 1, .bld 5 [.sl [], .sl [], .bool false, .sl []] [], .st 5 0 (.t 12), .mv 6 (.t 13)]) (.seq (.seq (.ss [.nop, .call 15 n_s_l6Rd_pick s_s_l6Rd_pick [(.t 8), (.c (.int .i64 6))] [8], .bin 16 .gtr (.t 15) (.c (.int .i64 0)), .mv 17 (.t 16), .g 17 true 18 (.sub 18 5 0 4), .g 17 true 19 (.call 19 n_s_DiskOk s_s_DiskOk [(.t 18)] []), .pick 20 (.t 17) (.t 19) (.c (.bool false))]) (.cond (.t 20) (.fail) (.skip))) (.seq (.seq (.ss [.nop, .call 26 n_s_l6Rd_pick s_s_l6Rd_pick [(.t 8), (.c (.int .i64 3))] [8], .bin 27 .eql (.t 26) (.c (.int .i64 0))]) (.cond (.t 27) (.ss [.nop, .nop, .call 30 n_s_l71Pkgs s_s_l71Pkgs [(.t 8)] [8], .call 31 n_s_l71Plan s_s_l71Plan [(.t 8), (.t 30)] [8], .mv 6 (.t 31)]) (.skip))) (.seq (.ss [.sub 32 5 0 4, .mv 33 (.t 6), .st 2 0 (.t 32), .mv 3 (.t 33)]) (.ret [2, 3]))))))
def k_stepsB : Cfg := { tt := tt, sigs := sigs, mv := false, bm := [], eqt := eqL, keep := [true, false, true, true, true, true, true, false, true, false, false, false, false, false, false, false, false, false, false, false, true, false, false, false, false, false, false, true, false, false, false, false, false, false], n := 34, pin := [], fail := [4], fz := [] }
theorem c_stepsB : cFun k_stepsB Try.f31 s_s_DrawInstSteps = some p_stepsB := by kernel_rfl
theorem F_stepsB {W : Wld} {ins outs : List (List D)} (h : pwp (FunOk PP W) p_stepsB (RetIs outs) (envL ins)) : FunOk PP W n_s_DrawInstSteps s_s_DrawInstSteps ins outs := fun_ok (C := k_stepsB) (cfg_ok rfl) (eq_ok rfl rfl) mixed Try.func31 (by kernel_rfl) (by kernel_rfl) c_stepsB h


set_option maxHeartbeats 4000000 in
theorem disk_ab (b : List Int) (hb : Byt b) (p : Int) (hp : 0 ≤ p ∧ p < 600000000) :
    (∃ outs, (∃ d ps p', outs = [eDk d, ePks ps, eRd b p'] ∧ SmD d ∧ SmPs ps ∧ PlanM ps ∧ d.files.length = 6 ∧ p ≤ p' ∧ p' ≤ p + 2000) ∧ FunOk PP W n_s_l71Disk s_diskA [eRd b p] outs) ∨
    (∃ outs, (∃ d ps p', outs = [eDk d, ePks ps, eRd b p'] ∧ SmD d ∧ SmPs ps ∧ PlanM ps ∧ d.files.length = 5 ∧ p ≤ p' ∧ p' ≤ p + 2000) ∧ FunOk PP W n_s_l71Disk s_s_l71Disk [eRd b p] outs) := by
  obtain ⟨_, ⟨ps, p1, rfl, hq1, hq2, hq3, hq4⟩, F1⟩ := pkgs_ex (W := W) b hb p (by omega)
  obtain ⟨_, ⟨qs, p2, rfl, hr1, hr2, hr3, hr4⟩, F2⟩ := plan_ex (W := W) b hb p1 (by omega) ps (drPks_sm hq1 (by omega)) (fun q hq => drPk_nm (hq1 q hq))
  have hd0 : SmD dk0 := ⟨smPs_nil', by decide, smPs_nil'⟩
  have F3 : FunOk PP W n_s_l22Steps s_s_l22Steps [eDk dk0, ePks qs] [eSts (stepsM dk0 qs)] := l22Steps_ok dk0 qs hr1 (pathsOk_of hr2.1) (by decide)
  obtain ⟨_, ⟨da, rfl, ha, hal⟩, F4⟩ := to_ex (W := W) dk0 (stepsM dk0 qs) 20 false hd0 rfl (steps_lim dk0 qs) (stepsM_in dk0 hr1 (by decide))
  obtain ⟨_, ⟨ps2, p3, rfl, hs1, hs2, hs3, hs4⟩, F5⟩ := pkgs_ex (W := W) b hb p2 (by omega)
  obtain ⟨_, ⟨pk, p4, rfl, ht1, ht2, ht3, ht4⟩, F6⟩ := plan_ex (W := W) b hb p3 (by omega) ps2 (drPks_sm hs1 (by omega)) (fun q hq => drPk_nm (hs1 q hq))
  obtain ⟨_, ⟨v0, rfl, a1, a2⟩, F7⟩ := pick_ex (W := W) b hb p4 3 (by omega) (by omega)
  have F0 := sDiskNew_ok (W := W)
  have hsp : FunOk PP W n_s_l22Steps s_s_l22Steps [eDk da, ePks pk] [eSts (stepsM da pk)] := l22Steps_ok da pk ht1 (pathsOk_of ht2.1) (by omega)
  have hsi : StsIn da.files.length (stepsM da pk) := stepsM_in da ht1 (by omega)
  -- the disk, and where one has read to, in front of the last choice
  have key : ∃ (dd : Dk) (p5 : Int), SmD dd ∧ dd.files.length = 6 ∧ p4 ≤ p5 ∧ p5 ≤ p4 + 10 ∧ ∃ v : Int, 0 ≤ v ∧ FunOk PP W n_s_l6Rd_pick s_s_l6Rd_pick [eRd b p5, i64 24] [i64 v, eRd b (p5 + 1)] ∧
      ((0 < v0 ∧ p5 = p4 + 1 + 1 + 1 ∧ ∃ v1 v2 : Int, FunOk PP W n_s_l6Rd_pick s_s_l6Rd_pick [eRd b (p4 + 1), i64 8] [i64 v1, eRd b (p4 + 1 + 1)] ∧ FunOk PP W n_s_l6Rd_pick s_s_l6Rd_pick [eRd b (p4 + 1 + 1), i64 2] [i64 v2, eRd b (p4 + 1 + 1 + 1)] ∧
        FunOk PP W n_s_l22To s_s_l22To [eDk da, eSts (stepsM da pk), i64 v1, bo (v2 == 0)] [eDk dd]) ∨ (¬ 0 < v0 ∧ p5 = p4 + 1 ∧ dd = da)) := by
    by_cases h0 : 0 < v0
    · obtain ⟨_, ⟨v1, rfl, b1, b2⟩, G1⟩ := pick_ex (W := W) b hb (p4 + 1) 8 (by omega) (by omega)
      obtain ⟨_, ⟨v2, rfl, c1, c2⟩, G2⟩ := pick_ex (W := W) b hb (p4 + 1 + 1) 2 (by omega) (by omega)
      obtain ⟨_, ⟨dd, rfl, hdd1, hdd2⟩, G3⟩ := to_ex (W := W) da (stepsM da pk) v1 (v2 == 0) ha hal (steps_lim da pk) hsi
      obtain ⟨_, ⟨v, rfl, e1, e2⟩, G4⟩ := pick_ex (W := W) b hb (p4 + 1 + 1 + 1) 24 (by omega) (by omega)
      exact ⟨dd, p4 + 1 + 1 + 1, hdd1, hdd2, by omega, by omega, v, e1, G4, .inl ⟨h0, rfl, v1, v2, G1, G2, G3⟩⟩
    · obtain ⟨_, ⟨v, rfl, e1, e2⟩, G4⟩ := pick_ex (W := W) b hb (p4 + 1) 24 (by omega) (by omega)
      exact ⟨da, p4 + 1, ha, hal, by omega, by omega, v, e1, G4, .inr ⟨h0, rfl, rfl⟩⟩
  obtain ⟨dd, p5, hdd1, hdd2, h45, h46, v, hv0, G4, hcase⟩ := key
  have hdl : (dd.files.length : Int) = 6 := by omega
  by_cases hv : v = 2
  · right
    obtain ⟨outs, hh1, hh2⟩ := run_funx (Φ := FunOk PP W) (p := p_s_l71Disk) (ins := [eRd b p]) (G := fun outs => ∃ d ps p', outs = [eDk d, ePks ps, eRd b p'] ∧ SmD d ∧ SmPs ps ∧ PlanM ps ∧ d.files.length = 5 ∧ p ≤ p' ∧ p' ≤ p + 2000) (by
      rcases hcase with ⟨h0, rfl, v1, v2, G1, G2, G3⟩ | ⟨h0, rfl, rfl⟩
      all_goals
        (repeat' first
    | (refine run_ite rfl (fun h => ?_) (fun h => ?_) <;> (try simp (disch := omega) only [z0, z1, z2, z3, z4, z5, z6, z7, z8, z9, z10, z11, z12, z13, z14, z15, z16, z17, z18, z19, z20, z21, z22, z23, z24, z25, eqDs, eqD, z28, z29, z30, z31, z32, z33, z34, z35, z36, z37, Nat.reduceAdd, z39, z40, z41, wrap64] at h) <;> (try (exfalso; omega)))
    | (refine run_need rfl (by (try simp (disch := omega) only [z0, z1, z2, z3, z4, z5, z6, z7, z8, z9, z10, z11, z12, z13, z14, z15, z16, z17, z18, z19, z20, z21, z22, z23, z24, z25, eqDs, eqD, z28, z29, z30, z31, z32, z33, z34, z35, z36, z37, Nat.reduceAdd, z39, z40, z41, wrap64]); first | exact elp_m (by omega) (by omega) (fun _ => rfl) | exact eld_m (by omega) (by omega) (fun _ => rfl) | exact els_m (by omega) (by omega) (by omega) rfl | exact lsl_m (by omega) (fun _ => rfl) | exact app_nil_m (by omega) (fun _ => rfl) (fun _ => rfl) | exact app_m_one (by omega) (fun _ => rfl) rfl rfl | exact app_m_m (by omega) (fun _ => rfl) (fun _ => rfl)) ?_)
    | (refine run_need rfl (by first | decide | omega | (simp only [List.length_map]; omega)) ?_)
    | (refine run_call1 rfl (F0) rfl ?_)
    | (refine run_call1 rfl (F3) rfl ?_)
    | (refine run_call1 rfl (F4) rfl ?_)
    | (refine run_call1 rfl (hsp) rfl ?_)
    | (refine run_call1 rfl (G3) rfl ?_)
    | (refine run_callb (rs := [ePks ps]) (xs := [eRd b p1]) rfl F1 rfl rfl rfl ?_)
    | (refine run_callb (rs := [ePks qs]) (xs := [eRd b p2]) rfl F2 rfl rfl rfl ?_)
    | (refine run_callb (rs := [ePks ps2]) (xs := [eRd b p3]) rfl F5 rfl rfl rfl ?_)
    | (refine run_callb (rs := [ePks pk]) (xs := [eRd b p4]) rfl F6 rfl rfl rfl ?_)
    | (refine run_callb (rs := [i64 v0]) (xs := [eRd b (p4 + 1)]) rfl F7 rfl rfl rfl ?_)
    | (refine run_callb (rs := [i64 v1]) (xs := [eRd b (p4 + 1 + 1)]) rfl G1 rfl rfl rfl ?_)
    | (refine run_callb (rs := [i64 v2]) (xs := [eRd b (p4 + 1 + 1 + 1)]) rfl G2 rfl rfl rfl ?_)
    | (refine run_callb (rs := [i64 v]) (xs := [eRd b _]) rfl G4 rfl rfl rfl ?_)
    | (refine run_need rfl ?_ ?_)
    | (refine run_ret rfl ?_ ; first | refine rb ?_ | refine ri ?_ | refine rs2 ?_ ?_ | refine rs1 ?_)
    | (refine run_retx rfl ?_))
        refine ⟨⟨dd.db, (dd.files.take (dd.files.map i64).length).drop 1, dd.has, dd.jour⟩, pk, _, rs3 ?_ rfl rfl, ⟨hdd1.1, ?_, hdd1.2.2⟩, ht1, ht2, ?_, by omega, by omega⟩
        · dsimp only [eDk]
          rw [← List.map_take, ← List.map_drop]
          rfl
        · simp only [List.length_drop, List.length_take, List.length_map]
          unfold lim
          omega
        · simp only [List.length_drop, List.length_take, List.length_map]
          omega)
    exact ⟨outs, hh1, F_s_l71Disk hh2⟩
  · left
    obtain ⟨outs, hh1, hh2⟩ := run_funx (Φ := FunOk PP W) (p := p_diskA) (ins := [eRd b p]) (G := fun outs => ∃ d ps p', outs = [eDk d, ePks ps, eRd b p'] ∧ SmD d ∧ SmPs ps ∧ PlanM ps ∧ d.files.length = 6 ∧ p ≤ p' ∧ p' ≤ p + 2000) (by
      rcases hcase with ⟨h0, rfl, v1, v2, G1, G2, G3⟩ | ⟨h0, rfl, rfl⟩
      all_goals
        (repeat' first
    | (refine run_ite rfl (fun h => ?_) (fun h => ?_) <;> (try simp (disch := omega) only [z0, z1, z2, z3, z4, z5, z6, z7, z8, z9, z10, z11, z12, z13, z14, z15, z16, z17, z18, z19, z20, z21, z22, z23, z24, z25, eqDs, eqD, z28, z29, z30, z31, z32, z33, z34, z35, z36, z37, Nat.reduceAdd, z39, z40, z41, wrap64] at h) <;> (try (exfalso; omega)))
    | (refine run_need rfl (by (try simp (disch := omega) only [z0, z1, z2, z3, z4, z5, z6, z7, z8, z9, z10, z11, z12, z13, z14, z15, z16, z17, z18, z19, z20, z21, z22, z23, z24, z25, eqDs, eqD, z28, z29, z30, z31, z32, z33, z34, z35, z36, z37, Nat.reduceAdd, z39, z40, z41, wrap64]); first | exact elp_m (by omega) (by omega) (fun _ => rfl) | exact eld_m (by omega) (by omega) (fun _ => rfl) | exact els_m (by omega) (by omega) (by omega) rfl | exact lsl_m (by omega) (fun _ => rfl) | exact app_nil_m (by omega) (fun _ => rfl) (fun _ => rfl) | exact app_m_one (by omega) (fun _ => rfl) rfl rfl | exact app_m_m (by omega) (fun _ => rfl) (fun _ => rfl)) ?_)
    | (refine run_need rfl (by first | decide | omega | (simp only [List.length_map]; omega)) ?_)
    | (refine run_call1 rfl (F0) rfl ?_)
    | (refine run_call1 rfl (F3) rfl ?_)
    | (refine run_call1 rfl (F4) rfl ?_)
    | (refine run_call1 rfl (hsp) rfl ?_)
    | (refine run_call1 rfl (G3) rfl ?_)
    | (refine run_callb (rs := [ePks ps]) (xs := [eRd b p1]) rfl F1 rfl rfl rfl ?_)
    | (refine run_callb (rs := [ePks qs]) (xs := [eRd b p2]) rfl F2 rfl rfl rfl ?_)
    | (refine run_callb (rs := [ePks ps2]) (xs := [eRd b p3]) rfl F5 rfl rfl rfl ?_)
    | (refine run_callb (rs := [ePks pk]) (xs := [eRd b p4]) rfl F6 rfl rfl rfl ?_)
    | (refine run_callb (rs := [i64 v0]) (xs := [eRd b (p4 + 1)]) rfl F7 rfl rfl rfl ?_)
    | (refine run_callb (rs := [i64 v1]) (xs := [eRd b (p4 + 1 + 1)]) rfl G1 rfl rfl rfl ?_)
    | (refine run_callb (rs := [i64 v2]) (xs := [eRd b (p4 + 1 + 1 + 1)]) rfl G2 rfl rfl rfl ?_)
    | (refine run_callb (rs := [i64 v]) (xs := [eRd b _]) rfl G4 rfl rfl rfl ?_)
    | (refine run_callx rfl (pick_ex b hb _ _ (by first | omega | (simp only [List.length_map]; omega)) (by first | omega | (simp only [List.length_map]; omega))) rfl (fun outs hG => ?_); obtain ⟨v, rfl, hv0, hv1⟩ := hG; (try simp only [List.length_map] at hv1); refine ⟨[i64 v], [eRd b _], rfl, rfl, rfl, ?_⟩)
    | (refine run_callx rfl (off_ex b hb _ (by omega)) rfl (fun outs hG => ?_); obtain ⟨po, p6, rfl, hu1, hu2, hu3, hu4⟩ := hG; refine ⟨[ePks po], [eRd b p6], rfl, rfl, rfl, ?_⟩)
    | (refine run_need rfl (elp_m (enc := i64) (xs := [-3, 0, 5, 10]) (by omega) (by simp; omega) (fun _ => rfl)) ?_)
    | (refine run_need rfl (eld_m (enc := i64) (xs := [-3, 0, 5, 10]) (by omega) (by simp; omega) (fun _ => rfl)) ?_)
    | (refine run_need rfl (by simp (disch := omega) only [z0, z1, z2, z3, z4, z5, z6, z7, z8, z9, z10, z11, z12, z13, z14, z15, z16, z17, z18, z19, z20, z21, z22, z23, z24, z25, eqDs, eqD, z28, z29, z30, z31, z32, z33, z34, z35, z36, z37, Nat.reduceAdd, z39, z40, z41, wrap64]; first | exact elp_m (enc := i64) (xs := dd.files) (by omega) (by omega) (fun _ => rfl) | exact els_m (xs := dd.files) (ys := dd.files) (by omega) (by omega) (by omega) rfl) ?_)
    | (refine run_need rfl ?_ ?_)
    | (refine run_ret rfl ?_ ; first | refine rb ?_ | refine ri ?_ | refine rs2 ?_ ?_ | refine rs1 ?_)
    | (refine run_retx rfl ?_))
        · rename_i i0 hi0 hi1
          exact ⟨⟨dd.db, dd.files.set i0.toNat (cI [[D.int .i64 (-3)], [D.int .i64 0], [D.int .i64 5], [D.int .i64 10]] v 0), dd.has, dd.jour⟩, pk, _, rs3 (by rw [els_v (by omega) (by omega)]) rfl rfl, ⟨hdd1.1, by rw [List.length_set]; exact hdd1.2.1, hdd1.2.2⟩, ht1, ht2, by rw [List.length_set]; exact hdd2, by omega, by omega⟩
        · exact ⟨⟨dd.db, dd.files, !dd.has, dd.jour⟩, pk, _, rs3 rfl rfl rfl, ⟨hdd1.1, hdd1.2.1, hdd1.2.2⟩, ht1, ht2, hdd2, by omega, by omega⟩
        · exact ⟨⟨po, dd.files, dd.has, dd.jour⟩, pk, _, rs3 rfl rfl rfl, ⟨hu1, hdd1.2.1, hdd1.2.2⟩, ht1, ht2, hdd2, by omega, by omega⟩
        · exact ⟨dd, pk, _, rs3 rfl rfl rfl, hdd1, ht1, ht2, hdd2, by omega, by omega⟩)
    exact ⟨outs, hh1, F_diskA hh2⟩

theorem mendsM_in {d : Dk} (h : SmD d) (h6 : d.files.length = 6) : StsIn d.files.length (mendsM d) := by
  unfold mendsM
  split
  · exact restM_in d h.2.2 (by omega)
  · intro s hs; cases hs
set_option maxHeartbeats 4000000 in
theorem drawSteps_ex (b : List Int) (hb : Code b) : ∃ outs, (∃ d ps, outs = [eDk d, ePks ps] ∧ SmD d ∧ SmPs ps) ∧ FunOk PP W n_s_DrawInstSteps s_s_DrawInstSteps [eBs b] outs := by
  have hopen := open_ok (W := W) b hb.1
  have hB := code_byt hb
  generalize b.take 2000 = bb at hopen hB
  rcases disk_ab (W := W) bb hB 0 (by omega) with ⟨_, ⟨d, ps, p1, rfl, h1, h2, h3, h6, h4, h5⟩, F1⟩ | ⟨_, ⟨d, ps, p1, rfl, h1, h2, h3, h6, h4, h5⟩, F1⟩
  · obtain ⟨outs, hh1, hh2⟩ := run_funx (Φ := FunOk PP W) (p := p_stepsA) (ins := [eBs b]) (G := fun outs => ∃ d ps, outs = [eDk d, ePks ps] ∧ SmD d ∧ SmPs ps) (by
      have hml : (mendsM d).length ≤ lim := (mends_sm h1).1
      obtain ⟨_, ⟨dm, rfl, hm1, hm2⟩, F2⟩ := to_ex (W := W) d (mendsM d) 20 false h1 h6 hml (mendsM_in h1 h6)
      (repeat' first
    | (refine run_ite rfl (fun h => ?_) (fun h => ?_) <;> (try simp (disch := omega) only [z0, z1, z2, z3, z4, z5, z6, z7, z8, z9, z10, z11, z12, z13, z14, z15, z16, z17, z18, z19, z20, z21, z22, z23, z24, z25, eqDs, eqD, z28, z29, z30, z31, z32, z33, z34, z35, z36, z37, Nat.reduceAdd, z39, z40, z41, wrap64] at h) <;> (try (exfalso; omega)))
    | (refine run_need rfl (by (try simp (disch := omega) only [z0, z1, z2, z3, z4, z5, z6, z7, z8, z9, z10, z11, z12, z13, z14, z15, z16, z17, z18, z19, z20, z21, z22, z23, z24, z25, eqDs, eqD, z28, z29, z30, z31, z32, z33, z34, z35, z36, z37, Nat.reduceAdd, z39, z40, z41, wrap64]); first | exact elp_m (by omega) (by omega) (fun _ => rfl) | exact eld_m (by omega) (by omega) (fun _ => rfl) | exact els_m (by omega) (by omega) (by omega) rfl | exact lsl_m (by omega) (fun _ => rfl) | exact app_nil_m (by omega) (fun _ => rfl) (fun _ => rfl) | exact app_m_one (by omega) (fun _ => rfl) rfl rfl | exact app_m_m (by omega) (fun _ => rfl) (fun _ => rfl)) ?_)
    | (refine run_need rfl (by first | decide | omega | (simp only [List.length_map]; omega)) ?_)
    | (refine run_call1 rfl (hopen) rfl ?_)
    | (refine run_call1 rfl (sDiskOk_ok d h1) rfl ?_)
    | (refine run_call1 rfl (l22Mends_ok d h1.2.2 (fun _ => dkOk_paths (by assumption)) (by omega)) rfl ?_)
    | (refine run_call1 rfl (F2) rfl ?_)
    | (refine run_callb (rs := [eDk d, ePks ps]) (xs := [eRd bb p1]) rfl F1 rfl rfl rfl ?_)
    | (refine run_callx rfl (pick_ex bb hB _ _ (by omega) (by omega)) rfl (fun outs hG => ?_); obtain ⟨v, rfl, hv0, hv1⟩ := hG; refine ⟨[i64 v], [eRd bb _], rfl, rfl, rfl, ?_⟩)
    | (refine run_callx rfl (pkgs_ex bb hB _ (by omega)) rfl (fun outs hG => ?_); obtain ⟨p2s, p2, rfl, hq1, hq2, hq3, hq4⟩ := hG; refine ⟨[ePks p2s], [eRd bb p2], rfl, rfl, rfl, ?_⟩)
    | (refine run_callx rfl (plan_ex bb hB _ (by omega) p2s (drPks_sm hq1 (by omega)) (fun q hq => drPk_nm (hq1 q hq))) rfl (fun outs hG => ?_); obtain ⟨p3s, p3, rfl, hr1, hr2, hr3, hr4⟩ := hG; refine ⟨[ePks p3s], [eRd bb p3], rfl, rfl, rfl, ?_⟩)
    | (refine run_need rfl ?_ ?_)
    | (refine run_ret rfl ?_ ; first | refine rb ?_ | refine ri ?_ | refine rs2 ?_ ?_ | refine rs1 ?_)
    | (refine run_retx rfl ?_))
      all_goals first
        | exact ⟨d, ps, rfl, h1, h2⟩
        | exact ⟨d, p3s, rfl, h1, hr1⟩
        | exact ⟨dm, ps, rfl, hm1, h2⟩
        | exact ⟨dm, p3s, rfl, hm1, hr1⟩
        | exact absurd (by assumption) hnd)
    exact ⟨outs, hh1, F_stepsA hh2⟩
  · obtain ⟨outs, hh1, hh2⟩ := run_funx (Φ := FunOk PP W) (p := p_stepsB) (ins := [eBs b]) (G := fun outs => ∃ d ps, outs = [eDk d, ePks ps] ∧ SmD d ∧ SmPs ps) (by
      have hnd : ¬ DkOk d := fun h => by have := h.2.1; omega
      (repeat' first
    | (refine run_ite rfl (fun h => ?_) (fun h => ?_) <;> (try simp (disch := omega) only [z0, z1, z2, z3, z4, z5, z6, z7, z8, z9, z10, z11, z12, z13, z14, z15, z16, z17, z18, z19, z20, z21, z22, z23, z24, z25, eqDs, eqD, z28, z29, z30, z31, z32, z33, z34, z35, z36, z37, Nat.reduceAdd, z39, z40, z41, wrap64] at h) <;> (try (exfalso; omega)))
    | (refine run_need rfl (by (try simp (disch := omega) only [z0, z1, z2, z3, z4, z5, z6, z7, z8, z9, z10, z11, z12, z13, z14, z15, z16, z17, z18, z19, z20, z21, z22, z23, z24, z25, eqDs, eqD, z28, z29, z30, z31, z32, z33, z34, z35, z36, z37, Nat.reduceAdd, z39, z40, z41, wrap64]); first | exact elp_m (by omega) (by omega) (fun _ => rfl) | exact eld_m (by omega) (by omega) (fun _ => rfl) | exact els_m (by omega) (by omega) (by omega) rfl | exact lsl_m (by omega) (fun _ => rfl) | exact app_nil_m (by omega) (fun _ => rfl) (fun _ => rfl) | exact app_m_one (by omega) (fun _ => rfl) rfl rfl | exact app_m_m (by omega) (fun _ => rfl) (fun _ => rfl)) ?_)
    | (refine run_need rfl (by first | decide | omega | (simp only [List.length_map]; omega)) ?_)
    | (refine run_call1 rfl (hopen) rfl ?_)
    | (refine run_call1 rfl (sDiskOk_ok d h1) rfl ?_)
    | (refine run_callb (rs := [eDk d, ePks ps]) (xs := [eRd bb p1]) rfl F1 rfl rfl rfl ?_)
    | (refine run_callx rfl (pick_ex bb hB _ _ (by omega) (by omega)) rfl (fun outs hG => ?_); obtain ⟨v, rfl, hv0, hv1⟩ := hG; refine ⟨[i64 v], [eRd bb _], rfl, rfl, rfl, ?_⟩)
    | (refine run_callx rfl (pkgs_ex bb hB _ (by omega)) rfl (fun outs hG => ?_); obtain ⟨p2s, p2, rfl, hq1, hq2, hq3, hq4⟩ := hG; refine ⟨[ePks p2s], [eRd bb p2], rfl, rfl, rfl, ?_⟩)
    | (refine run_callx rfl (plan_ex bb hB _ (by omega) p2s (drPks_sm hq1 (by omega)) (fun q hq => drPk_nm (hq1 q hq))) rfl (fun outs hG => ?_); obtain ⟨p3s, p3, rfl, hr1, hr2, hr3, hr4⟩ := hG; refine ⟨[ePks p3s], [eRd bb p3], rfl, rfl, rfl, ?_⟩)
    | (refine run_need rfl ?_ ?_)
    | (refine run_ret rfl ?_ ; first | refine rb ?_ | refine ri ?_ | refine rs2 ?_ ?_ | refine rs1 ?_)
    | (refine run_retx rfl ?_))
      all_goals first
        | exact ⟨d, ps, rfl, h1, h2⟩
        | exact ⟨d, p3s, rfl, h1, hr1⟩
        | exact ⟨dm, ps, rfl, hm1, h2⟩
        | exact ⟨dm, p3s, rfl, hm1, hr1⟩
        | exact absurd (by assumption) hnd)
    exact ⟨outs, hh1, F_stepsB hh2⟩
end V
end Go.Proofs.Ytgialjcichiaoaa

