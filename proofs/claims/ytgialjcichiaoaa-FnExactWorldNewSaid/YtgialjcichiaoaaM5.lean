/-
Part 5 of the proof of the claimed statement (its last part holds the theorem, and says what is proved). Conditions: none.
-/
import Derived.Test.YtgialjcichiaoaaM4
set_option linter.all false
/-
Plain proofs: keys and roots; a world in which one root was published.
-/
namespace Go.Proofs.Ytgialjcichiaoaa
namespace V
open Classical
set_option maxRecDepth 100000
variable {W : Wld}

/-! Keys. -/
def KeyAt (l : List Int) (i : Int) : Prop := (1 ≤ ix l i ∧ ix l i ≤ 6) ∧ (0 < i → ix l (i - 1) < ix l i)
def KeysM (l : List Int) : Prop := Blw l.length (KeyAt l)
theorem sKeysOk_ok (l : List Int) (hl : l.length ≤ lim) : FunOk PP W n_s_KeysOk s_s_KeysOk [eIs l] [bo (decide (KeysM l))] := by
 refine F_s_KeysOk (run_fun ?_)
 unfold lim at hl
 (repeat' first
  | (refine run_ite rfl (fun h => ?_) (fun h => ?_) <;> (try simp (disch := omega) only [zA, z13, z19, z20, z21, z22, z23, z24, z25, z31, eqDs, eqD, Nat.reduceAdd, wrap64] at h) <;> (try (exfalso; omega)))
  | (refine run_need rfl (by (try simp (disch := omega) only [zA, z13, z19, z20, z21, z22, z23, z24, z25, z31, eqDs, eqD, Nat.reduceAdd, wrap64]); first | exact elp_m (by omega) (by first | omega | (simp only [List.length_set]; omega)) (fun _ => rfl) | exact eld_m (by omega) (by first | omega | (simp only [List.length_set]; omega)) (fun _ => rfl) | exact els_m (by omega) (by omega) (by omega) rfl | exact lsl_m (by omega) (fun _ => rfl) | exact app_nil_m (by omega) (fun _ => rfl) (fun _ => rfl) | exact app_m_one (by omega) (fun _ => rfl) rfl rfl | exact app_m_m (by omega) (fun _ => rfl) (fun _ => rfl)) ?_)
  | (refine run_need rfl (by first | decide | omega | (simp only [List.length_map]; omega)) ?_)
  | (refine run_need rfl ?_ ?_)
  | (refine run_ret rfl ?_ ; first | refine rb ?_ | refine ri ?_ | refine rs2 ?_ ?_ | refine rs1 ?_)
  | (refine run_retx rfl ?_))
 refine run_loop rfl (fun i : Int => 0 ≤ i ∧ i ≤ l.length ∧ Blw i (KeyAt l)) (fun i => [(3, .val (i64 i)), (0, .val (eIs l))]) (fun i => (l.length - i).toNat) 0 ⟨by omega, by omega, blw_zero _⟩ ⟨rfl, rfl, trivial⟩ rfl ?_
 rintro i e ⟨h0, hN, hP⟩
 (repeat' first
  | (refine run_ite rfl (fun h => ?_) (fun h => ?_) <;> (try simp (disch := omega) only [zA, z13, z19, z20, z21, z22, z23, z24, z25, z31, eqDs, eqD, Nat.reduceAdd, wrap64] at h) <;> (try (exfalso; omega)))
  | (refine run_need rfl (by (try simp (disch := omega) only [zA, z13, z19, z20, z21, z22, z23, z24, z25, z31, eqDs, eqD, Nat.reduceAdd, wrap64]); first | exact elp_m (by omega) (by first | omega | (simp only [List.length_set]; omega)) (fun _ => rfl) | exact eld_m (by omega) (by first | omega | (simp only [List.length_set]; omega)) (fun _ => rfl) | exact els_m (by omega) (by omega) (by omega) rfl | exact lsl_m (by omega) (fun _ => rfl) | exact app_nil_m (by omega) (fun _ => rfl) (fun _ => rfl) | exact app_m_one (by omega) (fun _ => rfl) rfl rfl | exact app_m_m (by omega) (fun _ => rfl) (fun _ => rfl)) ?_)
  | (refine run_need rfl (by first | decide | omega | (simp only [List.length_map]; omega)) ?_)
  | (refine run_call1 rfl (l6In_ok ..) rfl ?_)
  | (refine run_next rfl (Exists.intro (i + 1) ⟨by omega, ⟨by omega, by omega, blw_succ hP (by unfold KeyAt; omega)⟩, i64_eq (wrap64 _ (by omega)), rfl, trivial⟩))
  | (refine run_need rfl ?_ ?_)
  | (refine run_ret rfl ?_ ; first | refine rb ?_ | refine ri ?_ | refine rs2 ?_ ?_ | refine rs1 ?_)
  | (refine run_retx rfl ?_))
 all_goals first
  | exact tD (blw_to hP (by omega))
  | exact fD (fun h' => by have := h' i (by omega) (by omega); unfold KeyAt at this; omega)
theorem iKeysOk_ok (l : List Int) (hl : l.length ≤ lim) : FunOk PP W n_i_KeysOk s_i_KeysOk [eIs l] [bo (decide (KeysM l))] := by
 refine F_i_KeysOk (run_fun ?_)
 unfold lim at hl
 (repeat' first
  | (refine run_ite rfl (fun h => ?_) (fun h => ?_) <;> (try simp (disch := omega) only [zA, z13, z19, z20, z21, z22, z23, z24, z25, z31, eqDs, eqD, Nat.reduceAdd, wrap64] at h) <;> (try (exfalso; omega)))
  | (refine run_need rfl (by (try simp (disch := omega) only [zA, z13, z19, z20, z21, z22, z23, z24, z25, z31, eqDs, eqD, Nat.reduceAdd, wrap64]); first | exact elp_m (by omega) (by first | omega | (simp only [List.length_set]; omega)) (fun _ => rfl) | exact eld_m (by omega) (by first | omega | (simp only [List.length_set]; omega)) (fun _ => rfl) | exact els_m (by omega) (by omega) (by omega) rfl | exact lsl_m (by omega) (fun _ => rfl) | exact app_nil_m (by omega) (fun _ => rfl) (fun _ => rfl) | exact app_m_one (by omega) (fun _ => rfl) rfl rfl | exact app_m_m (by omega) (fun _ => rfl) (fun _ => rfl)) ?_)
  | (refine run_need rfl (by first | decide | omega | (simp only [List.length_map]; omega)) ?_)
  | (refine run_need rfl ?_ ?_)
  | (refine run_ret rfl ?_ ; first | refine rb ?_ | refine ri ?_ | refine rs2 ?_ ?_ | refine rs1 ?_)
  | (refine run_retx rfl ?_))
 refine run_loop rfl (fun i : Int => 0 ≤ i ∧ i ≤ l.length ∧ Blw i (KeyAt l)) (fun i => [(7, .val (i64 i)), (5, .val (eIs l)), (6, .val (i64 (l.map i64).length)), (0, .val (eIs l))]) (fun i => (l.length - i).toNat) 0 ⟨by omega, by omega, blw_zero _⟩ ⟨rfl, rfl, rfl, rfl, trivial⟩ rfl ?_
 rintro i e ⟨h0, hN, hP⟩
 (repeat' first
  | (refine run_ite rfl (fun h => ?_) (fun h => ?_) <;> (try simp (disch := omega) only [zA, z13, z19, z20, z21, z22, z23, z24, z25, z31, eqDs, eqD, Nat.reduceAdd, wrap64] at h) <;> (try (exfalso; omega)))
  | (refine run_need rfl (by (try simp (disch := omega) only [zA, z13, z19, z20, z21, z22, z23, z24, z25, z31, eqDs, eqD, Nat.reduceAdd, wrap64]); first | exact elp_m (by omega) (by first | omega | (simp only [List.length_set]; omega)) (fun _ => rfl) | exact eld_m (by omega) (by first | omega | (simp only [List.length_set]; omega)) (fun _ => rfl) | exact els_m (by omega) (by omega) (by omega) rfl | exact lsl_m (by omega) (fun _ => rfl) | exact app_nil_m (by omega) (fun _ => rfl) (fun _ => rfl) | exact app_m_one (by omega) (fun _ => rfl) rfl rfl | exact app_m_m (by omega) (fun _ => rfl) (fun _ => rfl)) ?_)
  | (refine run_need rfl (by first | decide | omega | (simp only [List.length_map]; omega)) ?_)
  | (refine run_call1 rfl (in_ok ..) rfl ?_)
  | (refine run_next rfl (Exists.intro (i + 1) ⟨by omega, ⟨by omega, by omega, blw_succ hP (by unfold KeyAt; omega)⟩, i64_eq (wrap64 _ (by omega)), rfl, rfl, rfl, trivial⟩))
  | (refine run_need rfl ?_ ?_)
  | (refine run_ret rfl ?_ ; first | refine rb ?_ | refine ri ?_ | refine rs2 ?_ ?_ | refine rs1 ?_)
  | (refine run_retx rfl ?_))
 all_goals first
  | exact tD (blw_to hP (by omega))
  | exact fD (fun h' => by have := h' i (by omega) (by omega); unfold KeyAt at this; omega)

/-! How many keys are among both. -/
noncomputable def isI (x y : Int) : Int := if x = y then 1 else 0
theorem isI_nn (x y : Int) : 0 ≤ isI x y := by unfold isI; split <;> omega
theorem isI_le (x y : Int) : isI x y ≤ 1 := by unfold isI; split <;> omega
noncomputable def cntI (b : List Int) (x : Int) : Int := sumF (isI x) b
noncomputable def bothM (a b : List Int) : Int := sumF (cntI b) a
theorem sumF_bd {α : Type} {f : α → Int} {m : Int} (hm : ∀ x, f x ≤ m) (h0 : 0 ≤ m) : ∀ xs : List α, sumF f xs ≤ xs.length * m
 | [] => by simp [sumF]
 | x :: r => by
  have h := sumF_bd hm h0 r
  have := hm x
  simp only [sumF, List.map_cons, List.sum_cons, List.length_cons] at *
  have e : ((r.length + 1 : Nat) : Int) * m = r.length * m + m := by rw [Int.natCast_add, Int.add_mul]; simp
  omega
theorem cntI_nn (b : List Int) (x : Int) : 0 ≤ cntI b x := sumF_nn (isI_nn x) b
theorem cntI_le (b : List Int) (x : Int) : cntI b x ≤ b.length := by
 have := sumF_bd (isI_le x) (by omega) b
 unfold cntI
 omega
theorem bothM_le {a b : List Int} (ha : a.length ≤ 1048576) (hb : b.length ≤ 1048576) : bothM a b ≤ 1099511627776 := by
 have h1 := sumF_bd (cntI_le b) (by omega) a
 have h2 : (a.length : Int) * b.length ≤ 1048576 * 1048576 := Int.mul_le_mul (by omega) (by omega) (by omega) (by omega)
 unfold bothM
 omega
theorem l2Both_ok (a b : List Int) (ha : a.length ≤ 1048576) (hb : b.length ≤ 1048576) : FunOk PP W n_s_l2Both s_s_l2Both [eIs a, eIs b] [i64 (bothM a b)] := by
 refine F_s_l2Both (run_fun ?_)
 have hB := bothM_le ha hb
 (repeat' first
  | (refine run_ite rfl (fun h => ?_) (fun h => ?_) <;> (try simp (disch := omega) only [zA, z13, z19, z20, z21, z22, z23, z24, z25, z31, eqDs, eqD, Nat.reduceAdd, wrap64] at h) <;> (try (exfalso; omega)))
  | (refine run_need rfl (by (try simp (disch := omega) only [zA, z13, z19, z20, z21, z22, z23, z24, z25, z31, eqDs, eqD, Nat.reduceAdd, wrap64]); first | exact elp_m (by omega) (by first | omega | (simp only [List.length_set]; omega)) (fun _ => rfl) | exact eld_m (by omega) (by first | omega | (simp only [List.length_set]; omega)) (fun _ => rfl) | exact els_m (by omega) (by omega) (by omega) rfl | exact lsl_m (by omega) (fun _ => rfl) | exact app_nil_m (by omega) (fun _ => rfl) (fun _ => rfl) | exact app_m_one (by omega) (fun _ => rfl) rfl rfl | exact app_m_m (by omega) (fun _ => rfl) (fun _ => rfl)) ?_)
  | (refine run_need rfl (by first | decide | omega | (simp only [List.length_map]; omega)) ?_)
  | (refine run_need rfl ?_ ?_)
  | (refine run_ret rfl ?_ ; first | refine rb ?_ | refine ri ?_ | refine rs2 ?_ ?_ | refine rs1 ?_)
  | (refine run_retx rfl ?_))
 refine run_loop rfl (fun i : Int => 0 ≤ i ∧ i ≤ a.length) (fun i => [(6, .val (i64 i)), (5, .val (i64 (sumF (cntI b) (a.take i.toNat)))), (0, .val (eIs a)), (1, .val (eIs b))]) (fun i => (a.length - i).toNat) 0 ⟨by omega, by omega⟩ ⟨rfl, rfl, rfl, rfl, trivial⟩ rfl ?_
 rintro i e ⟨h0, hN⟩
 have hnn := sumF_nn (cntI_nn b) (a.take i.toNat)
 by_cases hi : i < a.length
 ·have hle := sumF_le (cntI_nn b) a (i + 1).toNat
  have ht := sumF_take (cntI b) a h0 hi
  have hbd : sumF (cntI b) a = bothM a b := rfl
  (repeat' first
  | (refine run_ite rfl (fun h => ?_) (fun h => ?_) <;> (try simp (disch := omega) only [zA, z13, z19, z20, z21, z22, z23, z24, z25, z31, eqDs, eqD, Nat.reduceAdd, wrap64] at h) <;> (try (exfalso; omega)))
  | (refine run_need rfl (by (try simp (disch := omega) only [zA, z13, z19, z20, z21, z22, z23, z24, z25, z31, eqDs, eqD, Nat.reduceAdd, wrap64]); first | exact elp_m (by omega) (by first | omega | (simp only [List.length_set]; omega)) (fun _ => rfl) | exact eld_m (by omega) (by first | omega | (simp only [List.length_set]; omega)) (fun _ => rfl) | exact els_m (by omega) (by omega) (by omega) rfl | exact lsl_m (by omega) (fun _ => rfl) | exact app_nil_m (by omega) (fun _ => rfl) (fun _ => rfl) | exact app_m_one (by omega) (fun _ => rfl) rfl rfl | exact app_m_m (by omega) (fun _ => rfl) (fun _ => rfl)) ?_)
  | (refine run_need rfl (by first | decide | omega | (simp only [List.length_map]; omega)) ?_)
  | (refine run_need rfl ?_ ?_)
  | (refine run_ret rfl ?_ ; first | refine rb ?_ | refine ri ?_ | refine rs2 ?_ ?_ | refine rs1 ?_)
  | (refine run_retx rfl ?_))
  refine run_loop rfl (fun k : Int => 0 ≤ k ∧ k ≤ b.length) (fun k => [(7, .val (i64 k)), (5, .val (i64 (sumF (cntI b) (a.take i.toNat) + sumF (isI (ix a i)) (b.take k.toNat)))), (6, .val (i64 i)), (0, .val (eIs a)), (1, .val (eIs b))]) (fun k => (b.length - k).toNat) 0 ⟨by omega, by omega⟩ ⟨rfl, i64_eq (by simp [sumF]), rfl, rfl, rfl, trivial⟩ rfl ?_
  rintro k e ⟨k0, kN⟩
  have hnk := sumF_nn (isI_nn (ix a i)) (b.take k.toNat)
  by_cases hk : k < b.length
  ·have hlk := sumF_le (isI_nn (ix a i)) b (k + 1).toNat
   have htk := sumF_take (isI (ix a i)) b k0 hk
   have hci : cntI b (ix a i) = sumF (isI (ix a i)) b := rfl
   have hik := isI_nn (ix a i) (ix b k)
   have hit : ix a i = ix b k → isI (ix a i) (ix b k) = 1 := fun h => by unfold isI; rw [if_pos h]
   have hif : ix a i ≠ ix b k → isI (ix a i) (ix b k) = 0 := fun h => by unfold isI; rw [if_neg h]
   (repeat' first
  | (refine run_ite rfl (fun h => ?_) (fun h => ?_) <;> (try simp (disch := omega) only [zA, z13, z19, z20, z21, z22, z23, z24, z25, z31, eqDs, eqD, Nat.reduceAdd, wrap64] at h) <;> (try (exfalso; omega)))
  | (refine run_need rfl (by (try simp (disch := omega) only [zA, z13, z19, z20, z21, z22, z23, z24, z25, z31, eqDs, eqD, Nat.reduceAdd, wrap64]); first | exact elp_m (by omega) (by first | omega | (simp only [List.length_set]; omega)) (fun _ => rfl) | exact eld_m (by omega) (by first | omega | (simp only [List.length_set]; omega)) (fun _ => rfl) | exact els_m (by omega) (by omega) (by omega) rfl | exact lsl_m (by omega) (fun _ => rfl) | exact app_nil_m (by omega) (fun _ => rfl) (fun _ => rfl) | exact app_m_one (by omega) (fun _ => rfl) rfl rfl | exact app_m_m (by omega) (fun _ => rfl) (fun _ => rfl)) ?_)
  | (refine run_need rfl (by first | decide | omega | (simp only [List.length_map]; omega)) ?_)
  | (refine run_next rfl (Exists.intro (k + 1) ⟨by omega, ⟨by omega, by omega⟩, i64_eq (wrap64 _ (by omega)), ?_, rfl, rfl, rfl, trivial⟩))
  | (refine run_need rfl ?_ ?_)
  | (refine run_ret rfl ?_ ; first | refine rb ?_ | refine ri ?_ | refine rs2 ?_ ?_ | refine rs1 ?_)
  | (refine run_retx rfl ?_))
   ·have := hit (by assumption)
    exact i64_eq (by rw [wrap64 _ (by omega)]; omega)
   ·have := hif (by assumption)
    exact i64_eq (by omega)
  ·have hci : cntI b (ix a i) = sumF (isI (ix a i)) (b.take k.toNat) := by rw [List.take_of_length_le (by omega)]; rfl
   (repeat' first
  | (refine run_ite rfl (fun h => ?_) (fun h => ?_) <;> (try simp (disch := omega) only [zA, z13, z19, z20, z21, z22, z23, z24, z25, z31, eqDs, eqD, Nat.reduceAdd, wrap64] at h) <;> (try (exfalso; omega)))
  | (refine run_need rfl (by (try simp (disch := omega) only [zA, z13, z19, z20, z21, z22, z23, z24, z25, z31, eqDs, eqD, Nat.reduceAdd, wrap64]); first | exact elp_m (by omega) (by first | omega | (simp only [List.length_set]; omega)) (fun _ => rfl) | exact eld_m (by omega) (by first | omega | (simp only [List.length_set]; omega)) (fun _ => rfl) | exact els_m (by omega) (by omega) (by omega) rfl | exact lsl_m (by omega) (fun _ => rfl) | exact app_nil_m (by omega) (fun _ => rfl) (fun _ => rfl) | exact app_m_one (by omega) (fun _ => rfl) rfl rfl | exact app_m_m (by omega) (fun _ => rfl) (fun _ => rfl)) ?_)
  | (refine run_need rfl (by first | decide | omega | (simp only [List.length_map]; omega)) ?_)
  | (refine run_next rfl (Exists.intro (i + 1) ⟨by omega, ⟨by omega, by omega⟩, i64_eq (wrap64 _ (by omega)), i64_eq (by omega), rfl, rfl, trivial⟩))
  | (refine run_need rfl ?_ ?_)
  | (refine run_ret rfl ?_ ; first | refine rb ?_ | refine ri ?_ | refine rs2 ?_ ?_ | refine rs1 ?_)
  | (refine run_retx rfl ?_))
 ·(repeat' first
  | (refine run_ite rfl (fun h => ?_) (fun h => ?_) <;> (try simp (disch := omega) only [zA, z13, z19, z20, z21, z22, z23, z24, z25, z31, eqDs, eqD, Nat.reduceAdd, wrap64] at h) <;> (try (exfalso; omega)))
  | (refine run_need rfl (by (try simp (disch := omega) only [zA, z13, z19, z20, z21, z22, z23, z24, z25, z31, eqDs, eqD, Nat.reduceAdd, wrap64]); first | exact elp_m (by omega) (by first | omega | (simp only [List.length_set]; omega)) (fun _ => rfl) | exact eld_m (by omega) (by first | omega | (simp only [List.length_set]; omega)) (fun _ => rfl) | exact els_m (by omega) (by omega) (by omega) rfl | exact lsl_m (by omega) (fun _ => rfl) | exact app_nil_m (by omega) (fun _ => rfl) (fun _ => rfl) | exact app_m_one (by omega) (fun _ => rfl) rfl rfl | exact app_m_m (by omega) (fun _ => rfl) (fun _ => rfl)) ?_)
  | (refine run_need rfl (by first | decide | omega | (simp only [List.length_map]; omega)) ?_)
  | (refine run_need rfl ?_ ?_)
  | (refine run_ret rfl ?_ ; first | refine rb ?_ | refine ri ?_ | refine rs2 ?_ ?_ | refine rs1 ?_)
  | (refine run_retx rfl ?_))
  rw [List.take_of_length_le (by omega)]
  rfl

theorem asc_lt {b : List Int} (h : KeysM b) : ∀ (n : Nat) (i j : Int), (j - i).toNat = n → 0 ≤ i → i < j → j < b.length → ix b i < ix b j
 | 0, i, j, hn, _, hij, _ => by omega
 | n + 1, i, j, hn, h0, hij, hj => by
  have hs := (h j (by omega) hj).2 (by omega)
  by_cases e : i = j - 1
  ·rw [e]; exact hs
  ·have := asc_lt h n i (j - 1) (by omega) h0 (by omega) (by omega)
   omega
theorem cnt_take {b : List Int} (hb : KeysM b) (x : Int) : ∀ n : Nat, n ≤ b.length → sumF (isI x) (b.take n) = if ∃ j : Int, 0 ≤ j ∧ j < n ∧ ix b j = x then 1 else 0
 | 0, _ => by
  rw [if_neg (fun ⟨j, h0, h1, _⟩ => by omega)]
  rfl
 | n + 1, hn => by
  have ih := cnt_take hb x n (by omega)
  have ht := sumF_take (isI x) b (i := n) (by omega) (by omega)
  rw [show ((n : Int) + 1).toNat = n + 1 by omega, show ((n : Int)).toNat = n by omega] at ht
  rw [ht, ih]
  by_cases e : x = ix b n
  ·have hno : ¬ ∃ j : Int, 0 ≤ j ∧ j < n ∧ ix b j = x := fun ⟨j, h0, h1, h2⟩ => by
    have := asc_lt hb _ j n rfl h0 h1 (by omega)
    omega
   rw [if_neg hno, if_pos ⟨n, by omega, by omega, e.symm⟩]
   unfold isI
   rw [if_pos e]
   rfl
  ·have : isI x (ix b n) = 0 := by unfold isI; rw [if_neg e]
   rw [this, Int.add_zero]
   by_cases hx : ∃ j : Int, 0 ≤ j ∧ j < n ∧ ix b j = x
   ·rw [if_pos hx]
    obtain ⟨j, h0, h1, h2⟩ := hx
    rw [if_pos ⟨j, h0, by omega, h2⟩]
   ·rw [if_neg hx, if_neg (fun ⟨j, h0, h1, h2⟩ => hx ⟨j, h0, by
     by_cases hj : j = n
     ·subst hj; exact absurd h2.symm e
     ·omega, h2⟩)]
theorem cntI_mem {b : List Int} (hb : KeysM b) (x : Int) : cntI b x = if x ∈ b then 1 else 0 := by
 have h := cnt_take hb x b.length (Nat.le_refl _)
 rw [List.take_length] at h
 unfold cntI
 rw [h]
 have : (∃ j : Int, 0 ≤ j ∧ j < b.length ∧ ix b j = x) ↔ x ∈ b := ⟨fun ⟨j, h0, h1, h2⟩ => h2 ▸ ix_mem h0 h1, fun hx => mem_ix hx⟩
 simp only [this]

theorem idxI_ok (l : List Int) (x : Int) (hl : l.length ≤ lim) : FunOk PP W n_sl_Index_int s_sl_Index_int [eIs l, i64 x] [i64 (idxF (fun y => y = x) l l.length 0)] := by
 refine F_sl_Index_int (run_fun ?_)
 unfold lim at hl
 (repeat' first
  | (refine run_ite rfl (fun h => ?_) (fun h => ?_) <;> (try simp (disch := omega) only [zA, z13, z19, z20, z21, z22, z23, z24, z25, z31, eqDs, eqD, Nat.reduceAdd, wrap64] at h) <;> (try (exfalso; omega)))
  | (refine run_need rfl (by (try simp (disch := omega) only [zA, z13, z19, z20, z21, z22, z23, z24, z25, z31, eqDs, eqD, Nat.reduceAdd, wrap64]); first | exact elp_m (by omega) (by first | omega | (simp only [List.length_set]; omega)) (fun _ => rfl) | exact eld_m (by omega) (by first | omega | (simp only [List.length_set]; omega)) (fun _ => rfl) | exact els_m (by omega) (by omega) (by omega) rfl | exact lsl_m (by omega) (fun _ => rfl) | exact app_nil_m (by omega) (fun _ => rfl) (fun _ => rfl) | exact app_m_one (by omega) (fun _ => rfl) rfl rfl | exact app_m_m (by omega) (fun _ => rfl) (fun _ => rfl)) ?_)
  | (refine run_need rfl (by first | decide | omega | (simp only [List.length_map]; omega)) ?_)
  | (refine run_need rfl ?_ ?_)
  | (refine run_ret rfl ?_ ; first | refine rb ?_ | refine ri ?_ | refine rs2 ?_ ?_ | refine rs1 ?_)
  | (refine run_retx rfl ?_))
 refine run_loop rfl (fun i : Int => 0 ≤ i ∧ i ≤ l.length ∧ idxF (fun y => y = x) l l.length 0 = idxF (fun y => y = x) l (l.length - i).toNat i) (fun i => [(8, .val (i64 i)), (6, .val (eIs l)), (7, .val (i64 (l.map i64).length)), (0, .val (eIs l)), (1, .val (i64 x))]) (fun i => (l.length - i).toNat) 0 ⟨by omega, by omega, by simp⟩ ⟨rfl, rfl, rfl, rfl, rfl, trivial⟩ rfl ?_
 rintro i e ⟨h0, hN, hP⟩
 by_cases hi : i < l.length
 ·have hn : (l.length - i).toNat = (l.length - (i + 1)).toNat + 1 := by omega
  rw [hn, idxF] at hP
  (repeat' first
  | (refine run_ite rfl (fun h => ?_) (fun h => ?_) <;> (try simp (disch := omega) only [zA, z13, z19, z20, z21, z22, z23, z24, z25, z31, eqDs, eqD, Nat.reduceAdd, wrap64] at h) <;> (try (exfalso; omega)))
  | (refine run_need rfl (by (try simp (disch := omega) only [zA, z13, z19, z20, z21, z22, z23, z24, z25, z31, eqDs, eqD, Nat.reduceAdd, wrap64]); first | exact elp_m (by omega) (by first | omega | (simp only [List.length_set]; omega)) (fun _ => rfl) | exact eld_m (by omega) (by first | omega | (simp only [List.length_set]; omega)) (fun _ => rfl) | exact els_m (by omega) (by omega) (by omega) rfl | exact lsl_m (by omega) (fun _ => rfl) | exact app_nil_m (by omega) (fun _ => rfl) (fun _ => rfl) | exact app_m_one (by omega) (fun _ => rfl) rfl rfl | exact app_m_m (by omega) (fun _ => rfl) (fun _ => rfl)) ?_)
  | (refine run_need rfl (by first | decide | omega | (simp only [List.length_map]; omega)) ?_)
  | (refine run_next rfl (Exists.intro (i + 1) ⟨by omega, ⟨by omega, by omega, ?_⟩, i64_eq (wrap64 _ (by omega)), rfl, rfl, rfl, rfl, trivial⟩))
  | (refine run_need rfl ?_ ?_)
  | (refine run_ret rfl ?_ ; first | refine rb ?_ | refine ri ?_ | refine rs2 ?_ ?_ | refine rs1 ?_)
  | (refine run_retx rfl ?_))
  all_goals first
   | (rw [hP, if_pos (by omega)])
   | (rw [hP, if_neg (by omega)])
 ·(repeat' first
  | (refine run_ite rfl (fun h => ?_) (fun h => ?_) <;> (try simp (disch := omega) only [zA, z13, z19, z20, z21, z22, z23, z24, z25, z31, eqDs, eqD, Nat.reduceAdd, wrap64] at h) <;> (try (exfalso; omega)))
  | (refine run_need rfl (by (try simp (disch := omega) only [zA, z13, z19, z20, z21, z22, z23, z24, z25, z31, eqDs, eqD, Nat.reduceAdd, wrap64]); first | exact elp_m (by omega) (by first | omega | (simp only [List.length_set]; omega)) (fun _ => rfl) | exact eld_m (by omega) (by first | omega | (simp only [List.length_set]; omega)) (fun _ => rfl) | exact els_m (by omega) (by omega) (by omega) rfl | exact lsl_m (by omega) (fun _ => rfl) | exact app_nil_m (by omega) (fun _ => rfl) (fun _ => rfl) | exact app_m_one (by omega) (fun _ => rfl) rfl rfl | exact app_m_m (by omega) (fun _ => rfl) (fun _ => rfl)) ?_)
  | (refine run_need rfl (by first | decide | omega | (simp only [List.length_map]; omega)) ?_)
  | (refine run_need rfl ?_ ?_)
  | (refine run_ret rfl ?_ ; first | refine rb ?_ | refine ri ?_ | refine rs2 ?_ ?_ | refine rs1 ?_)
  | (refine run_retx rfl ?_))
  rw [hP, show (l.length - i).toNat = 0 by omega, idxF]
theorem conI_ok (l : List Int) (x : Int) (hl : l.length ≤ lim) : FunOk PP W n_sl_Contains_int s_sl_Contains_int [eIs l, i64 x] [bo (decide (x ∈ l))] := by
 refine F_sl_Contains_int (run_fun ?_)
 (repeat' first
  | (refine run_ite rfl (fun h => ?_) (fun h => ?_) <;> (try simp (disch := omega) only [zA, z13, z19, z20, z21, z22, z23, z24, z25, z31, eqDs, eqD, Nat.reduceAdd, wrap64] at h) <;> (try (exfalso; omega)))
  | (refine run_need rfl (by (try simp (disch := omega) only [zA, z13, z19, z20, z21, z22, z23, z24, z25, z31, eqDs, eqD, Nat.reduceAdd, wrap64]); first | exact elp_m (by omega) (by first | omega | (simp only [List.length_set]; omega)) (fun _ => rfl) | exact eld_m (by omega) (by first | omega | (simp only [List.length_set]; omega)) (fun _ => rfl) | exact els_m (by omega) (by omega) (by omega) rfl | exact lsl_m (by omega) (fun _ => rfl) | exact app_nil_m (by omega) (fun _ => rfl) (fun _ => rfl) | exact app_m_one (by omega) (fun _ => rfl) rfl rfl | exact app_m_m (by omega) (fun _ => rfl) (fun _ => rfl)) ?_)
  | (refine run_need rfl (by first | decide | omega | (simp only [List.length_map]; omega)) ?_)
  | (refine run_call1 rfl (idxI_ok l x hl) rfl ?_)
  | (refine run_need rfl ?_ ?_)
  | (refine run_ret rfl ?_ ; first | refine rb ?_ | refine ri ?_ | refine rs2 ?_ ?_ | refine rs1 ?_)
  | (refine run_retx rfl ?_))
 simp only [z19]
 congr 1
 rw [eq_iff_iff, idxF_mem]
 exact ⟨fun ⟨y, h1, h2⟩ => h2 ▸ h1, fun h => ⟨x, h, rfl⟩⟩

theorem iKeysBoth_ok (a b : List Int) (ha : a.length ≤ 1048576) (hb : b.length ≤ 1048576) : FunOk PP W n_i_KeysBoth s_i_KeysBoth [eIs a, eIs b] [i64 (if KeysM a ∧ KeysM b then bothM a b else -1)] := by
 refine F_i_KeysBoth (run_fun ?_)
 have hB := bothM_le ha hb
 have la : a.length ≤ lim := by unfold lim; omega
 have lb : b.length ≤ lim := by unfold lim; omega
 (repeat' first
  | (refine run_ite rfl (fun h => ?_) (fun h => ?_) <;> (try simp (disch := omega) only [zA, z13, z19, z20, z21, z22, z23, z24, z25, z31, eqDs, eqD, Nat.reduceAdd, wrap64] at h) <;> (try (exfalso; omega)))
  | (refine run_need rfl (by (try simp (disch := omega) only [zA, z13, z19, z20, z21, z22, z23, z24, z25, z31, eqDs, eqD, Nat.reduceAdd, wrap64]); first | exact elp_m (by omega) (by first | omega | (simp only [List.length_set]; omega)) (fun _ => rfl) | exact eld_m (by omega) (by first | omega | (simp only [List.length_set]; omega)) (fun _ => rfl) | exact els_m (by omega) (by omega) (by omega) rfl | exact lsl_m (by omega) (fun _ => rfl) | exact app_nil_m (by omega) (fun _ => rfl) (fun _ => rfl) | exact app_m_one (by omega) (fun _ => rfl) rfl rfl | exact app_m_m (by omega) (fun _ => rfl) (fun _ => rfl)) ?_)
  | (refine run_need rfl (by first | decide | omega | (simp only [List.length_map]; omega)) ?_)
  | (refine run_call1 rfl (iKeysOk_ok a la) rfl ?_)
  | (refine run_call1 rfl (iKeysOk_ok b lb) rfl ?_)
  | (refine run_need rfl ?_ ?_)
  | (refine run_ret rfl ?_ ; first | refine rb ?_ | refine ri ?_ | refine rs2 ?_ ?_ | refine rs1 ?_)
  | (refine run_retx rfl ?_))
 ·rw [if_neg (fun h' => h h'.1)]
 ·rw [if_neg (fun h' => h h'.2)]
 have hA : KeysM a := by assumption
 have hB' : KeysM b := by assumption
 rw [if_pos ⟨hA, hB'⟩]
 refine run_loop rfl (fun i : Int => 0 ≤ i ∧ i ≤ a.length) (fun i => [(18, .val (i64 i)), (16, .val (eIs a)), (17, .val (i64 (a.map i64).length)), (5, .val (i64 (sumF (cntI b) (a.take i.toNat)))), (1, .val (eIs b))]) (fun i => (a.length - i).toNat) 0 ⟨by omega, by omega⟩ ⟨rfl, rfl, rfl, rfl, rfl, trivial⟩ rfl ?_
 rintro i e ⟨h0, hN⟩
 have hnn := sumF_nn (cntI_nn b) (a.take i.toNat)
 by_cases hi : i < a.length
 ·have hle := sumF_le (cntI_nn b) a (i + 1).toNat
  have ht := sumF_take (cntI b) a h0 hi
  have hbd : sumF (cntI b) a = bothM a b := rfl
  have hm := cntI_mem hB' (ix a i)
  have hcn := cntI_nn b (ix a i)
  (repeat' first
  | (refine run_ite rfl (fun h => ?_) (fun h => ?_) <;> (try simp (disch := omega) only [zA, z13, z19, z20, z21, z22, z23, z24, z25, z31, eqDs, eqD, Nat.reduceAdd, wrap64] at h) <;> (try (exfalso; omega)))
  | (refine run_need rfl (by (try simp (disch := omega) only [zA, z13, z19, z20, z21, z22, z23, z24, z25, z31, eqDs, eqD, Nat.reduceAdd, wrap64]); first | exact elp_m (by omega) (by first | omega | (simp only [List.length_set]; omega)) (fun _ => rfl) | exact eld_m (by omega) (by first | omega | (simp only [List.length_set]; omega)) (fun _ => rfl) | exact els_m (by omega) (by omega) (by omega) rfl | exact lsl_m (by omega) (fun _ => rfl) | exact app_nil_m (by omega) (fun _ => rfl) (fun _ => rfl) | exact app_m_one (by omega) (fun _ => rfl) rfl rfl | exact app_m_m (by omega) (fun _ => rfl) (fun _ => rfl)) ?_)
  | (refine run_need rfl (by first | decide | omega | (simp only [List.length_map]; omega)) ?_)
  | (refine run_calleq rfl (conI_ok b (ix a i) lb) (by simp (disch := omega) only [zA, z13, z19, z20, z21, z22, z23, z24, z25, z31, eqDs, eqD, Nat.reduceAdd, wrap64]) rfl ?_)
  | (refine run_next rfl (Exists.intro (i + 1) ⟨by omega, ⟨by omega, by omega⟩, i64_eq (wrap64 _ (by omega)), rfl, rfl, ?_, rfl, trivial⟩))
  | (refine run_need rfl ?_ ?_)
  | (refine run_ret rfl ?_ ; first | refine rb ?_ | refine ri ?_ | refine rs2 ?_ ?_ | refine rs1 ?_)
  | (refine run_retx rfl ?_))
  ·rw [if_pos (by assumption)] at hm
   exact i64_eq (by rw [wrap64 _ (by omega)]; omega)
  ·rw [if_neg (by assumption)] at hm
   exact i64_eq (by omega)
 ·(repeat' first
  | (refine run_ite rfl (fun h => ?_) (fun h => ?_) <;> (try simp (disch := omega) only [zA, z13, z19, z20, z21, z22, z23, z24, z25, z31, eqDs, eqD, Nat.reduceAdd, wrap64] at h) <;> (try (exfalso; omega)))
  | (refine run_need rfl (by (try simp (disch := omega) only [zA, z13, z19, z20, z21, z22, z23, z24, z25, z31, eqDs, eqD, Nat.reduceAdd, wrap64]); first | exact elp_m (by omega) (by first | omega | (simp only [List.length_set]; omega)) (fun _ => rfl) | exact eld_m (by omega) (by first | omega | (simp only [List.length_set]; omega)) (fun _ => rfl) | exact els_m (by omega) (by omega) (by omega) rfl | exact lsl_m (by omega) (fun _ => rfl) | exact app_nil_m (by omega) (fun _ => rfl) (fun _ => rfl) | exact app_m_one (by omega) (fun _ => rfl) rfl rfl | exact app_m_m (by omega) (fun _ => rfl) (fun _ => rfl)) ?_)
  | (refine run_need rfl (by first | decide | omega | (simp only [List.length_map]; omega)) ?_)
  | (refine run_need rfl ?_ ?_)
  | (refine run_ret rfl ?_ ; first | refine rb ?_ | refine ri ?_ | refine rs2 ?_ ?_ | refine rs1 ?_)
  | (refine run_retx rfl ?_))
  rw [List.take_of_length_le (by omega)]
  rfl

/-! Roots. -/
structure Rt where
 num : Int
 keys : List Int
 need : Int
deriving DecidableEq, Inhabited
abbrev eRt (r : Rt) : List D := [.int .i64 r.num, .sl (r.keys.map i64), .int .i64 r.need]
abbrev eTr (r : Rt) : List D := [.int .i64 r.num, .sl (r.keys.map i64), .int .i64 r.need, .bool false, .int .i64 0, .int .i64 0, .sl []]
def rtZ : Rt := ⟨0, [], 0⟩
def RootM (r : Rt) : Prop := (1 ≤ r.num ∧ r.num ≤ 9) ∧ KeysM r.keys ∧ (1 ≤ r.need ∧ r.need ≤ r.keys.length)
theorem sRootOk_ok (r : Rt) (hl : r.keys.length ≤ lim) : FunOk PP W n_s_RootOk s_s_RootOk [eRt r] [bo (decide (RootM r))] := by
 refine F_s_RootOk (run_fun ?_)
 (repeat' first
  | (refine run_ite rfl (fun h => ?_) (fun h => ?_) <;> (try simp (disch := omega) only [zA, z13, z19, z20, z21, z22, z23, z24, z25, z31, eqDs, eqD, Nat.reduceAdd, wrap64] at h) <;> (try (exfalso; omega)))
  | (refine run_need rfl (by (try simp (disch := omega) only [zA, z13, z19, z20, z21, z22, z23, z24, z25, z31, eqDs, eqD, Nat.reduceAdd, wrap64]); first | exact elp_m (by omega) (by first | omega | (simp only [List.length_set]; omega)) (fun _ => rfl) | exact eld_m (by omega) (by first | omega | (simp only [List.length_set]; omega)) (fun _ => rfl) | exact els_m (by omega) (by omega) (by omega) rfl | exact lsl_m (by omega) (fun _ => rfl) | exact app_nil_m (by omega) (fun _ => rfl) (fun _ => rfl) | exact app_m_one (by omega) (fun _ => rfl) rfl rfl | exact app_m_m (by omega) (fun _ => rfl) (fun _ => rfl)) ?_)
  | (refine run_need rfl (by first | decide | omega | (simp only [List.length_map]; omega)) ?_)
  | (refine run_call1 rfl (sKeysOk_ok r.keys hl) rfl ?_)
  | (refine run_call1 rfl (l6In_ok ..) rfl ?_)
  | (refine run_need rfl ?_ ?_)
  | (refine run_ret rfl ?_ ; first | refine rb ?_ | refine ri ?_ | refine rs2 ?_ ?_ | refine rs1 ?_)
  | (refine run_retx rfl ?_))
 all_goals
  refine dI ?_
  unfold RootM
  try simp only [List.length_map, decide_eq_true_eq]
  grind
theorem iRootOk_ok (r : Rt) (hl : r.keys.length ≤ lim) : FunOk PP W n_i_RootOk s_i_RootOk [eRt r] [bo (decide (RootM r))] := by
 refine F_i_RootOk (run_fun ?_)
 (repeat' first
  | (refine run_ite rfl (fun h => ?_) (fun h => ?_) <;> (try simp (disch := omega) only [zA, z13, z19, z20, z21, z22, z23, z24, z25, z31, eqDs, eqD, Nat.reduceAdd, wrap64] at h) <;> (try (exfalso; omega)))
  | (refine run_need rfl (by (try simp (disch := omega) only [zA, z13, z19, z20, z21, z22, z23, z24, z25, z31, eqDs, eqD, Nat.reduceAdd, wrap64]); first | exact elp_m (by omega) (by first | omega | (simp only [List.length_set]; omega)) (fun _ => rfl) | exact eld_m (by omega) (by first | omega | (simp only [List.length_set]; omega)) (fun _ => rfl) | exact els_m (by omega) (by omega) (by omega) rfl | exact lsl_m (by omega) (fun _ => rfl) | exact app_nil_m (by omega) (fun _ => rfl) (fun _ => rfl) | exact app_m_one (by omega) (fun _ => rfl) rfl rfl | exact app_m_m (by omega) (fun _ => rfl) (fun _ => rfl)) ?_)
  | (refine run_need rfl (by first | decide | omega | (simp only [List.length_map]; omega)) ?_)
  | (refine run_call1 rfl (iKeysOk_ok r.keys hl) rfl ?_)
  | (refine run_call1 rfl (in_ok ..) rfl ?_)
  | (refine run_need rfl ?_ ?_)
  | (refine run_ret rfl ?_ ; first | refine rb ?_ | refine ri ?_ | refine rs2 ?_ ?_ | refine rs1 ?_)
  | (refine run_retx rfl ?_))
 all_goals
  refine dI ?_
  unfold RootM
  try simp only [List.length_map, decide_eq_true_eq]
  grind
theorem iSafe_ok (r : Rt) (bad : List Int) (ha : r.keys.length ≤ 1048576) (hb : bad.length ≤ 1048576) : FunOk PP W n_i_Root_safe s_i_Root_safe [eRt r, eIs bad] [bo (decide ((if KeysM r.keys ∧ KeysM bad then bothM r.keys bad else -1) < r.need))] := by
 refine F_i_Root_safe (run_fun ?_)
 (repeat' first
  | (refine run_ite rfl (fun h => ?_) (fun h => ?_) <;> (try simp (disch := omega) only [zA, z13, z19, z20, z21, z22, z23, z24, z25, z31, eqDs, eqD, Nat.reduceAdd, wrap64] at h) <;> (try (exfalso; omega)))
  | (refine run_need rfl (by (try simp (disch := omega) only [zA, z13, z19, z20, z21, z22, z23, z24, z25, z31, eqDs, eqD, Nat.reduceAdd, wrap64]); first | exact elp_m (by omega) (by first | omega | (simp only [List.length_set]; omega)) (fun _ => rfl) | exact eld_m (by omega) (by first | omega | (simp only [List.length_set]; omega)) (fun _ => rfl) | exact els_m (by omega) (by omega) (by omega) rfl | exact lsl_m (by omega) (fun _ => rfl) | exact app_nil_m (by omega) (fun _ => rfl) (fun _ => rfl) | exact app_m_one (by omega) (fun _ => rfl) rfl rfl | exact app_m_m (by omega) (fun _ => rfl) (fun _ => rfl)) ?_)
  | (refine run_need rfl (by first | decide | omega | (simp only [List.length_map]; omega)) ?_)
  | (refine run_call1 rfl (iKeysBoth_ok r.keys bad ha hb) rfl ?_)
  | (refine run_need rfl ?_ ?_)
  | (refine run_ret rfl ?_ ; first | refine rb ?_ | refine ri ?_ | refine rs2 ?_ ?_ | refine rs1 ?_)
  | (refine run_retx rfl ?_))
 rfl
theorem rootCopy_ok (r : Rt) (hl : r.keys.length ≤ lim) : FunOk PP W n_s_l11RootCopy s_s_l11RootCopy [eRt r] [eRt r] := by
 refine F_s_l11RootCopy (run_fun ?_)
 unfold lim at hl
 (repeat' first
  | (refine run_ite rfl (fun h => ?_) (fun h => ?_) <;> (try simp (disch := omega) only [zA, z13, z19, z20, z21, z22, z23, z24, z25, z31, eqDs, eqD, Nat.reduceAdd, wrap64] at h) <;> (try (exfalso; omega)))
  | (refine run_need rfl (by (try simp (disch := omega) only [zA, z13, z19, z20, z21, z22, z23, z24, z25, z31, eqDs, eqD, Nat.reduceAdd, wrap64]); first | exact elp_m (by omega) (by first | omega | (simp only [List.length_set]; omega)) (fun _ => rfl) | exact eld_m (by omega) (by first | omega | (simp only [List.length_set]; omega)) (fun _ => rfl) | exact els_m (by omega) (by omega) (by omega) rfl | exact lsl_m (by omega) (fun _ => rfl) | exact app_nil_m (by omega) (fun _ => rfl) (fun _ => rfl) | exact app_m_one (by omega) (fun _ => rfl) rfl rfl | exact app_m_m (by omega) (fun _ => rfl) (fun _ => rfl)) ?_)
  | (refine run_need rfl (by first | decide | omega | (simp only [List.length_map]; omega)) ?_)
  | (refine run_need rfl ?_ ?_)
  | (refine run_ret rfl ?_ ; first | refine rb ?_ | refine ri ?_ | refine rs2 ?_ ?_ | refine rs1 ?_)
  | (refine run_retx rfl ?_))
 rfl
theorem rootCopied_X (r : Rt) (hl : r.keys.length ≤ lim) : FunOk PP W n_i_Root_copied s_i_Root_copied_X [eRt r] [eRt r] := by
 refine F_i_Root_copied_X (run_fun ?_)
 (repeat' first
  | (refine run_ite rfl (fun h => ?_) (fun h => ?_) <;> (try simp (disch := omega) only [zA, z13, z19, z20, z21, z22, z23, z24, z25, z31, eqDs, eqD, Nat.reduceAdd, wrap64] at h) <;> (try (exfalso; omega)))
  | (refine run_need rfl (by (try simp (disch := omega) only [zA, z13, z19, z20, z21, z22, z23, z24, z25, z31, eqDs, eqD, Nat.reduceAdd, wrap64]); first | exact elp_m (by omega) (by first | omega | (simp only [List.length_set]; omega)) (fun _ => rfl) | exact eld_m (by omega) (by first | omega | (simp only [List.length_set]; omega)) (fun _ => rfl) | exact els_m (by omega) (by omega) (by omega) rfl | exact lsl_m (by omega) (fun _ => rfl) | exact app_nil_m (by omega) (fun _ => rfl) (fun _ => rfl) | exact app_m_one (by omega) (fun _ => rfl) rfl rfl | exact app_m_m (by omega) (fun _ => rfl) (fun _ => rfl)) ?_)
  | (refine run_need rfl (by first | decide | omega | (simp only [List.length_map]; omega)) ?_)
  | (refine run_call1 rfl (cloneI_X r.keys hl) rfl ?_)
  | (refine run_need rfl ?_ ?_)
  | (refine run_ret rfl ?_ ; first | refine rb ?_ | refine ri ?_ | refine rs2 ?_ ?_ | refine rs1 ?_)
  | (refine run_retx rfl ?_))
 rfl
theorem sTrustNew_ok (r : Rt) (hl : r.keys.length ≤ lim) (h : RootM r) : FunOk PP W n_s_TrustNew s_s_TrustNew [eRt r] [eTr r, bo true] := by
 refine F_s_TrustNew (run_fun ?_)
 have f := sRootOk_ok (W := W) r hl
 rw [decide_eq_true h] at f
 (repeat' first
  | (refine run_ite rfl (fun h => ?_) (fun h => ?_) <;> (try simp (disch := omega) only [zA, z13, z19, z20, z21, z22, z23, z24, z25, z31, eqDs, eqD, Nat.reduceAdd, wrap64] at h) <;> (try (exfalso; omega)))
  | (refine run_need rfl (by (try simp (disch := omega) only [zA, z13, z19, z20, z21, z22, z23, z24, z25, z31, eqDs, eqD, Nat.reduceAdd, wrap64]); first | exact elp_m (by omega) (by first | omega | (simp only [List.length_set]; omega)) (fun _ => rfl) | exact eld_m (by omega) (by first | omega | (simp only [List.length_set]; omega)) (fun _ => rfl) | exact els_m (by omega) (by omega) (by omega) rfl | exact lsl_m (by omega) (fun _ => rfl) | exact app_nil_m (by omega) (fun _ => rfl) (fun _ => rfl) | exact app_m_one (by omega) (fun _ => rfl) rfl rfl | exact app_m_m (by omega) (fun _ => rfl) (fun _ => rfl)) ?_)
  | (refine run_need rfl (by first | decide | omega | (simp only [List.length_map]; omega)) ?_)
  | (refine run_call1 rfl (f) rfl ?_)
  | (refine run_call1 rfl (rootCopy_ok r hl) rfl ?_)
  | (refine run_need rfl ?_ ?_)
  | (refine run_ret rfl ?_ ; first | refine rb ?_ | refine ri ?_ | refine rs2 ?_ ?_ | refine rs1 ?_)
  | (refine run_retx rfl ?_))
 all_goals first | rfl | exact absurd trivial (by assumption)
theorem iTrustNew_X (r : Rt) (hl : r.keys.length ≤ lim) (h : RootM r) : FunOk PP W n_i_TrustNew s_i_TrustNew_X [eRt r] [eTr r, bo true] := by
 refine F_i_TrustNew_X (run_fun ?_)
 have f := iRootOk_ok (W := W) r hl
 rw [decide_eq_true h] at f
 (repeat' first
  | (refine run_ite rfl (fun h => ?_) (fun h => ?_) <;> (try simp (disch := omega) only [zA, z13, z19, z20, z21, z22, z23, z24, z25, z31, eqDs, eqD, Nat.reduceAdd, wrap64] at h) <;> (try (exfalso; omega)))
  | (refine run_need rfl (by (try simp (disch := omega) only [zA, z13, z19, z20, z21, z22, z23, z24, z25, z31, eqDs, eqD, Nat.reduceAdd, wrap64]); first | exact elp_m (by omega) (by first | omega | (simp only [List.length_set]; omega)) (fun _ => rfl) | exact eld_m (by omega) (by first | omega | (simp only [List.length_set]; omega)) (fun _ => rfl) | exact els_m (by omega) (by omega) (by omega) rfl | exact lsl_m (by omega) (fun _ => rfl) | exact app_nil_m (by omega) (fun _ => rfl) (fun _ => rfl) | exact app_m_one (by omega) (fun _ => rfl) rfl rfl | exact app_m_m (by omega) (fun _ => rfl) (fun _ => rfl)) ?_)
  | (refine run_need rfl (by first | decide | omega | (simp only [List.length_map]; omega)) ?_)
  | (refine run_call1 rfl (f) rfl ?_)
  | (refine run_call1 rfl (rootCopied_X r hl) rfl ?_)
  | (refine run_need rfl ?_ ?_)
  | (refine run_ret rfl ?_ ; first | refine rb ?_ | refine ri ?_ | refine rs2 ?_ ?_ | refine rs1 ?_)
  | (refine run_retx rfl ?_))
 all_goals first | rfl | exact absurd trivial (by assumption)

/-! A new world. -/
structure Wn where
 roots : List SR
 bad : List Int
 tr : Rt
 dk : Dk
deriving DecidableEq, Inhabited
abbrev eWn (w : Wn) : List D := [.int .i64 0, .sl (w.roots.map eSR), .sl [], .sl [], .sl (w.bad.map i64), .int .i64 w.tr.num, .sl (w.tr.keys.map i64), .int .i64 w.tr.need, .bool false, .int .i64 0, .int .i64 0, .sl [], .sl [], .sl (w.dk.db.map ePk), .sl (w.dk.files.map i64), .bool w.dk.has, .sl (w.dk.jour.map ePk)]
def wnZ : Wn := ⟨[], [], rtZ, dkZ⟩
def NewOk (r : Rt) (bad : List Int) : Prop := RootM r ∧ r.num = 1 ∧ KeysM bad ∧ bothM r.keys bad < r.need
noncomputable def newM (r : Rt) (bad : List Int) : Wn := if NewOk r bad then ⟨[⟨r.num, r.keys, r.need, r.keys⟩], bad, r, dk0⟩ else wnZ
theorem newM_not {r : Rt} {bad : List Int} (h : ¬ NewOk r bad) : eWn wnZ = eWn (newM r bad) := by rw [newM, if_neg h]
theorem newM_yes {r : Rt} {bad : List Int} (h : NewOk r bad) : eWn ⟨[⟨r.num, r.keys, r.need, r.keys⟩], bad, r, dk0⟩ = eWn (newM r bad) := by rw [newM, if_pos h]
theorem newOk_dec {r : Rt} {bad : List Int} (h : NewOk r bad) : ([.bool true] : List D) = bo (decide (NewOk r bad)) := bo_eq (tD h)
theorem newNo_dec {r : Rt} {bad : List Int} (h : ¬ NewOk r bad) : ([.bool false] : List D) = bo (decide (NewOk r bad)) := bo_eq (fD h)
set_option maxHeartbeats 2000000 in
theorem sWorldNew_ok (r : Rt) (bad : List Int) (ha : r.keys.length ≤ 1048576) (hb : bad.length ≤ 1048576) : FunOk PP W n_s_WorldNew s_s_WorldNew [eRt r, eIs bad] [eWn (newM r bad), bo (decide (NewOk r bad))] := by
 refine F_s_WorldNew (run_fun ?_)
 have la : r.keys.length ≤ lim := by unfold lim; omega
 have lb : bad.length ≤ lim := by unfold lim; omega
 have la' := la
 have lb' := lb
 unfold lim at la' lb'
 (repeat' first
  | (refine run_ite rfl (fun h => ?_) (fun h => ?_) <;> (try simp (disch := omega) only [zA, z13, z19, z20, z21, z22, z23, z24, z25, z31, eqDs, eqD, Nat.reduceAdd, wrap64] at h) <;> (try (exfalso; omega)))
  | (refine run_need rfl (by (try simp (disch := omega) only [zA, z13, z19, z20, z21, z22, z23, z24, z25, z31, eqDs, eqD, Nat.reduceAdd, wrap64]); first | exact elp_m (by omega) (by first | omega | (simp only [List.length_set]; omega)) (fun _ => rfl) | exact eld_m (by omega) (by first | omega | (simp only [List.length_set]; omega)) (fun _ => rfl) | exact els_m (by omega) (by omega) (by omega) rfl | exact lsl_m (by omega) (fun _ => rfl) | exact app_nil_m (by omega) (fun _ => rfl) (fun _ => rfl) | exact app_m_one (by omega) (fun _ => rfl) rfl rfl | exact app_m_m (by omega) (fun _ => rfl) (fun _ => rfl)) ?_)
  | (refine run_need rfl (by first | decide | omega | (simp only [List.length_map]; omega)) ?_)
  | (refine run_call1 rfl (sRootOk_ok r la) rfl ?_)
  | (refine run_call1 rfl (sKeysOk_ok bad lb) rfl ?_)
  | (refine run_call1 rfl (l2Both_ok r.keys bad ha hb) rfl ?_)
  | (refine run_need rfl ?_ ?_)
  | (refine run_ret rfl ?_ ; first | refine rb ?_ | refine ri ?_ | refine rs2 ?_ ?_ | refine rs1 ?_)
  | (refine run_retx rfl ?_))
 rotate_left 8
 ·refine run_callr rfl (sTrustNew_ok r la (by assumption)) rfl rfl ?_
  refine run_call1 rfl (rootCopy_ok r la) rfl ?_
  refine run_need rfl (app_nil_m (by omega) (fun _ => rfl) (fun _ => rfl)) ?_
  refine run_need rfl (app_nil_m (by omega) (fun _ => rfl) (fun _ => rfl)) ?_
  refine run_call1 rfl sDiskNew_ok rfl ?_
  refine run_ret rfl ?_
  have hN : NewOk r bad := ⟨by assumption, by assumption, by assumption, by omega⟩
  exact rs2 (newM_yes hN) (newOk_dec hN)
 all_goals
  have hN : ¬ NewOk r bad := fun h' => by
   obtain ⟨q1, q2, q3, q4⟩ := h'
   first | omega | contradiction
  first | exact newM_not hN | exact newNo_dec hN
set_option maxHeartbeats 2000000 in
theorem iWorldNew_X (r : Rt) (bad : List Int) (ha : r.keys.length ≤ 1048576) (hb : bad.length ≤ 1048576) : FunOk PP W n_i_WorldNew s_i_WorldNew_X [eRt r, eIs bad] [eWn (newM r bad), bo (decide (NewOk r bad))] := by
 refine F_i_WorldNew_X (run_fun ?_)
 have la : r.keys.length ≤ lim := by unfold lim; omega
 have lb : bad.length ≤ lim := by unfold lim; omega
 (repeat' first
  | (refine run_ite rfl (fun h => ?_) (fun h => ?_) <;> (try simp (disch := omega) only [zA, z13, z19, z20, z21, z22, z23, z24, z25, z31, eqDs, eqD, Nat.reduceAdd, wrap64] at h) <;> (try (exfalso; omega)))
  | (refine run_need rfl (by (try simp (disch := omega) only [zA, z13, z19, z20, z21, z22, z23, z24, z25, z31, eqDs, eqD, Nat.reduceAdd, wrap64]); first | exact elp_m (by omega) (by first | omega | (simp only [List.length_set]; omega)) (fun _ => rfl) | exact eld_m (by omega) (by first | omega | (simp only [List.length_set]; omega)) (fun _ => rfl) | exact els_m (by omega) (by omega) (by omega) rfl | exact lsl_m (by omega) (fun _ => rfl) | exact app_nil_m (by omega) (fun _ => rfl) (fun _ => rfl) | exact app_m_one (by omega) (fun _ => rfl) rfl rfl | exact app_m_m (by omega) (fun _ => rfl) (fun _ => rfl)) ?_)
  | (refine run_need rfl (by first | decide | omega | (simp only [List.length_map]; omega)) ?_)
  | (refine run_call1 rfl (iRootOk_ok r la) rfl ?_)
  | (refine run_call1 rfl (iKeysOk_ok bad lb) rfl ?_)
  | (refine run_call1 rfl (iSafe_ok r bad ha hb) rfl ?_)
  | (refine run_need rfl ?_ ?_)
  | (refine run_ret rfl ?_ ; first | refine rb ?_ | refine ri ?_ | refine rs2 ?_ ?_ | refine rs1 ?_)
  | (refine run_retx rfl ?_))
 rotate_left 8
 ·refine run_callr rfl (iTrustNew_X r la (by assumption)) rfl rfl ?_
  refine run_call1 rfl (rootCopied_X r la) rfl ?_
  refine run_call1 rfl (cloneI_X r.keys la) rfl ?_
  refine run_call1 rfl (cloneI_X bad lb) rfl ?_
  refine run_call1 rfl iDiskNew_X rfl ?_
  refine run_ret rfl ?_
  have hR : RootM r := by assumption
  have hB : KeysM bad := by assumption
  have hs : (if KeysM r.keys ∧ KeysM bad then bothM r.keys bad else -1) < r.need := by assumption
  rw [if_pos ⟨hR.2.1, hB⟩] at hs
  have hN : NewOk r bad := ⟨hR, by assumption, hB, hs⟩
  exact rs2 (newM_yes hN) (newOk_dec hN)
 all_goals
  have hN : ¬ NewOk r bad := fun h' => by
   obtain ⟨q1, q2, q3, q4⟩ := h'
   first
    | contradiction
    | exact h (by rw [if_pos ⟨q1.2.1, q3⟩]; exact q4)
  first | exact newM_not hN | exact newNo_dec hN
end V
end Go.Proofs.Ytgialjcichiaoaa

/-
Plain proofs: worlds are compared, marked, found marked.
-/
namespace Go.Proofs.Ytgialjcichiaoaa
namespace V
open Classical
set_option maxRecDepth 100000
variable {W : Wld}

def SmR (s : SR) : Prop := s.keys.length ≤ lim ∧ s.sigs.length ≤ lim
def SmRs (l : List SR) : Prop := l.length ≤ lim ∧ ∀ s ∈ l, SmR s
theorem smRs_ix {l : List SR} (h : SmRs l) {i : Int} (h0 : 0 ≤ i) (h1 : i < l.length) : SmR (ix l i) := h.2 _ (ix_mem h0 h1)
theorem rt_ext {p q : Rt} (h1 : p.num = q.num) (h2 : p.keys = q.keys) (h3 : p.need = q.need) : p = q := by cases p; cases q; simp_all
theorem eqRoot_ok (p q : Rt) (hk : p.keys.length ≤ lim) : FunOk PP W n_l_eqRoot s_l_eqRoot [eRt p, eRt q] [bo (decide (p = q))] := by
 refine F_l_eqRoot (run_fun ?_)
 (repeat' first
  | (refine run_ite rfl (fun h => ?_) (fun h => ?_) <;> (try simp (disch := omega) only [zA, z13, z19, z20, z21, z22, z23, z24, z25, z31, eqDs, eqD, Nat.reduceAdd, wrap64] at h) <;> (try (exfalso; omega)))
  | (refine run_need rfl (by (try simp (disch := omega) only [zA, z13, z19, z20, z21, z22, z23, z24, z25, z31, eqDs, eqD, Nat.reduceAdd, wrap64]); first | exact elp_m (by omega) (by first | omega | (simp only [List.length_set]; omega)) (fun _ => rfl) | exact eld_m (by omega) (by first | omega | (simp only [List.length_set]; omega)) (fun _ => rfl) | exact els_m (by omega) (by omega) (by omega) rfl | exact lsl_m (by omega) (fun _ => rfl) | exact app_nil_m (by omega) (fun _ => rfl) (fun _ => rfl) | exact app_m_one (by omega) (fun _ => rfl) rfl rfl | exact app_m_m (by omega) (fun _ => rfl) (fun _ => rfl)) ?_)
  | (refine run_need rfl (by first | decide | omega | (simp only [List.length_map]; omega)) ?_)
  | (refine run_call1 rfl (eqIntS_ok p.keys q.keys hk) rfl ?_)
  | (refine run_need rfl ?_ ?_)
  | (refine run_ret rfl ?_ ; first | refine rb ?_ | refine ri ?_ | refine rs2 ?_ ?_ | refine rs1 ?_)
  | (refine run_retx rfl ?_))
 all_goals first
  | exact tD (rt_ext (by assumption) (by assumption) (by assumption))
  | exact fD (fun h' => by subst h'; exact absurd rfl (by assumption))
theorem eqRoot_self (p : Rt) (h : p.keys.length ≤ lim) : FunOk PP W n_l_eqRoot s_l_eqRoot [eRt p, eRt p] [bo true] := by simpa using eqRoot_ok (W := W) p p h
theorem eqIntS_self (l : List Int) (h : l.length ≤ lim) : FunOk PP W n_l_eqIntS s_l_eqIntS [eIs l, eIs l] [bo true] := by simpa using eqIntS_ok (W := W) l l h
theorem eqSigRoot_self (s : SR) (hs : SmR s) : FunOk PP W n_l_eqSigRoot s_l_eqSigRoot [eSR s, eSR s] [bo true] := by
 refine F_l_eqSigRoot (run_fun ?_)
 have f := eqRoot_self (W := W) ⟨s.num, s.keys, s.need⟩ hs.1
 (repeat' first
  | (refine run_ite rfl (fun h => ?_) (fun h => ?_) <;> (try simp (disch := omega) only [zA, z13, z19, z20, z21, z22, z23, z24, z25, z31, eqDs, eqD, Nat.reduceAdd, wrap64] at h) <;> (try (exfalso; omega)))
  | (refine run_need rfl (by (try simp (disch := omega) only [zA, z13, z19, z20, z21, z22, z23, z24, z25, z31, eqDs, eqD, Nat.reduceAdd, wrap64]); first | exact elp_m (by omega) (by first | omega | (simp only [List.length_set]; omega)) (fun _ => rfl) | exact eld_m (by omega) (by first | omega | (simp only [List.length_set]; omega)) (fun _ => rfl) | exact els_m (by omega) (by omega) (by omega) rfl | exact lsl_m (by omega) (fun _ => rfl) | exact app_nil_m (by omega) (fun _ => rfl) (fun _ => rfl) | exact app_m_one (by omega) (fun _ => rfl) rfl rfl | exact app_m_m (by omega) (fun _ => rfl) (fun _ => rfl)) ?_)
  | (refine run_need rfl (by first | decide | omega | (simp only [List.length_map]; omega)) ?_)
  | (refine run_call1 rfl (f) rfl ?_)
  | (refine run_call1 rfl (eqIntS_self s.sigs hs.2) rfl ?_)
  | (refine run_need rfl ?_ ?_)
  | (refine run_ret rfl ?_ ; first | refine rb ?_ | refine ri ?_ | refine rs2 ?_ ?_ | refine rs1 ?_)
  | (refine run_retx rfl ?_))
 all_goals first | rfl | exact absurd trivial (by assumption)
theorem eqSigRootS_self (l : List SR) (hs : SmRs l) : FunOk PP W n_l_eqSigRootS s_l_eqSigRootS [eSRs l, eSRs l] [bo true] := by
 refine F_l_eqSigRootS (run_fun ?_)
 have hl := hs.1
 unfold lim at hl
 (repeat' first
  | (refine run_ite rfl (fun h => ?_) (fun h => ?_) <;> (try simp (disch := omega) only [zA, z13, z19, z20, z21, z22, z23, z24, z25, z31, eqDs, eqD, Nat.reduceAdd, wrap64] at h) <;> (try (exfalso; omega)))
  | (refine run_need rfl (by (try simp (disch := omega) only [zA, z13, z19, z20, z21, z22, z23, z24, z25, z31, eqDs, eqD, Nat.reduceAdd, wrap64]); first | exact elp_m (by omega) (by first | omega | (simp only [List.length_set]; omega)) (fun _ => rfl) | exact eld_m (by omega) (by first | omega | (simp only [List.length_set]; omega)) (fun _ => rfl) | exact els_m (by omega) (by omega) (by omega) rfl | exact lsl_m (by omega) (fun _ => rfl) | exact app_nil_m (by omega) (fun _ => rfl) (fun _ => rfl) | exact app_m_one (by omega) (fun _ => rfl) rfl rfl | exact app_m_m (by omega) (fun _ => rfl) (fun _ => rfl)) ?_)
  | (refine run_need rfl (by first | decide | omega | (simp only [List.length_map]; omega)) ?_)
  | (refine run_need rfl ?_ ?_)
  | (refine run_ret rfl ?_ ; first | refine rb ?_ | refine ri ?_ | refine rs2 ?_ ?_ | refine rs1 ?_)
  | (refine run_retx rfl ?_))
 ·exact absurd trivial (by assumption)
 refine run_loop rfl (fun i : Int => 0 ≤ i ∧ i ≤ l.length) (fun i => [(5, .val (i64 i)), (0, .val (eSRs l)), (1, .val (eSRs l))]) (fun i => (l.length - i).toNat) 0 ⟨by omega, by omega⟩ ⟨rfl, rfl, rfl, trivial⟩ rfl ?_
 rintro i e ⟨h0, hN⟩
 by_cases hi : i < l.length
 ·(repeat' first
  | (refine run_ite rfl (fun h => ?_) (fun h => ?_) <;> (try simp (disch := omega) only [zA, z13, z19, z20, z21, z22, z23, z24, z25, z31, eqDs, eqD, Nat.reduceAdd, wrap64] at h) <;> (try (exfalso; omega)))
  | (refine run_need rfl (by (try simp (disch := omega) only [zA, z13, z19, z20, z21, z22, z23, z24, z25, z31, eqDs, eqD, Nat.reduceAdd, wrap64]); first | exact elp_m (by omega) (by first | omega | (simp only [List.length_set]; omega)) (fun _ => rfl) | exact eld_m (by omega) (by first | omega | (simp only [List.length_set]; omega)) (fun _ => rfl) | exact els_m (by omega) (by omega) (by omega) rfl | exact lsl_m (by omega) (fun _ => rfl) | exact app_nil_m (by omega) (fun _ => rfl) (fun _ => rfl) | exact app_m_one (by omega) (fun _ => rfl) rfl rfl | exact app_m_m (by omega) (fun _ => rfl) (fun _ => rfl)) ?_)
  | (refine run_need rfl (by first | decide | omega | (simp only [List.length_map]; omega)) ?_)
  | (refine run_calleq rfl (eqSigRoot_self (ix l i) (smRs_ix hs h0 hi)) (by simp (disch := omega) only [zA, z13, z19, z20, z21, z22, z23, z24, z25, z31, eqDs, eqD, Nat.reduceAdd, wrap64]) rfl ?_)
  | (refine run_next rfl (Exists.intro (i + 1) ⟨by omega, ⟨by omega, by omega⟩, i64_eq (wrap64 _ (by omega)), rfl, rfl, trivial⟩))
  | (refine run_need rfl ?_ ?_)
  | (refine run_ret rfl ?_ ; first | refine rb ?_ | refine ri ?_ | refine rs2 ?_ ?_ | refine rs1 ?_)
  | (refine run_retx rfl ?_))
  all_goals first | rfl | exact absurd trivial (by assumption)
 ·(repeat' first
  | (refine run_ite rfl (fun h => ?_) (fun h => ?_) <;> (try simp (disch := omega) only [zA, z13, z19, z20, z21, z22, z23, z24, z25, z31, eqDs, eqD, Nat.reduceAdd, wrap64] at h) <;> (try (exfalso; omega)))
  | (refine run_need rfl (by (try simp (disch := omega) only [zA, z13, z19, z20, z21, z22, z23, z24, z25, z31, eqDs, eqD, Nat.reduceAdd, wrap64]); first | exact elp_m (by omega) (by first | omega | (simp only [List.length_set]; omega)) (fun _ => rfl) | exact eld_m (by omega) (by first | omega | (simp only [List.length_set]; omega)) (fun _ => rfl) | exact els_m (by omega) (by omega) (by omega) rfl | exact lsl_m (by omega) (fun _ => rfl) | exact app_nil_m (by omega) (fun _ => rfl) (fun _ => rfl) | exact app_m_one (by omega) (fun _ => rfl) rfl rfl | exact app_m_m (by omega) (fun _ => rfl) (fun _ => rfl)) ?_)
  | (refine run_need rfl (by first | decide | omega | (simp only [List.length_map]; omega)) ?_)
  | (refine run_need rfl ?_ ?_)
  | (refine run_ret rfl ?_ ; first | refine rb ?_ | refine ri ?_ | refine rs2 ?_ ?_ | refine rs1 ?_)
  | (refine run_retx rfl ?_))
  rfl
theorem eqSigIndexS_nil (xs ys : List (List D)) (h : xs.length = 0) (h' : ys.length = 0) : FunOk PP W n_l_eqSigIndexS s_l_eqSigIndexS [[.sl xs], [.sl ys]] [bo true] := by
 refine F_l_eqSigIndexS (run_fun ?_)
 (repeat' first
  | (refine run_ite rfl (fun h => ?_) (fun h => ?_) <;> (try simp (disch := omega) only [zA, z13, z19, z20, z21, z22, z23, z24, z25, z31, eqDs, eqD, Nat.reduceAdd, wrap64] at h) <;> (try (exfalso; omega)))
  | (refine run_need rfl (by (try simp (disch := omega) only [zA, z13, z19, z20, z21, z22, z23, z24, z25, z31, eqDs, eqD, Nat.reduceAdd, wrap64]); first | exact elp_m (by omega) (by first | omega | (simp only [List.length_set]; omega)) (fun _ => rfl) | exact eld_m (by omega) (by first | omega | (simp only [List.length_set]; omega)) (fun _ => rfl) | exact els_m (by omega) (by omega) (by omega) rfl | exact lsl_m (by omega) (fun _ => rfl) | exact app_nil_m (by omega) (fun _ => rfl) (fun _ => rfl) | exact app_m_one (by omega) (fun _ => rfl) rfl rfl | exact app_m_m (by omega) (fun _ => rfl) (fun _ => rfl)) ?_)
  | (refine run_need rfl (by first | decide | omega | (simp only [List.length_map]; omega)) ?_)
  | (refine run_need rfl ?_ ?_)
  | (refine run_ret rfl ?_ ; first | refine rb ?_ | refine ri ?_ | refine rs2 ?_ ?_ | refine rs1 ?_)
  | (refine run_retx rfl ?_))
 refine run_loop rfl (fun _ : Unit => True) (fun _ => [(5, .val (i64 0)), (0, .val [.sl xs])]) (fun _ => 0) () trivial ⟨rfl, rfl, trivial⟩ rfl ?_
 rintro _ e _
 (repeat' first
  | (refine run_ite rfl (fun h => ?_) (fun h => ?_) <;> (try simp (disch := omega) only [zA, z13, z19, z20, z21, z22, z23, z24, z25, z31, eqDs, eqD, Nat.reduceAdd, wrap64] at h) <;> (try (exfalso; omega)))
  | (refine run_need rfl (by (try simp (disch := omega) only [zA, z13, z19, z20, z21, z22, z23, z24, z25, z31, eqDs, eqD, Nat.reduceAdd, wrap64]); first | exact elp_m (by omega) (by first | omega | (simp only [List.length_set]; omega)) (fun _ => rfl) | exact eld_m (by omega) (by first | omega | (simp only [List.length_set]; omega)) (fun _ => rfl) | exact els_m (by omega) (by omega) (by omega) rfl | exact lsl_m (by omega) (fun _ => rfl) | exact app_nil_m (by omega) (fun _ => rfl) (fun _ => rfl) | exact app_m_one (by omega) (fun _ => rfl) rfl rfl | exact app_m_m (by omega) (fun _ => rfl) (fun _ => rfl)) ?_)
  | (refine run_need rfl (by first | decide | omega | (simp only [List.length_map]; omega)) ?_)
  | (refine run_need rfl ?_ ?_)
  | (refine run_ret rfl ?_ ; first | refine rb ?_ | refine ri ?_ | refine rs2 ?_ ?_ | refine rs1 ?_)
  | (refine run_retx rfl ?_))
 rfl
theorem eqMetaS_nil (xs ys : List (List D)) (h : xs.length = 0) (h' : ys.length = 0) : FunOk PP W n_l_eqMetaS s_l_eqMetaS [[.sl xs], [.sl ys]] [bo true] := by
 refine F_l_eqMetaS (run_fun ?_)
 (repeat' first
  | (refine run_ite rfl (fun h => ?_) (fun h => ?_) <;> (try simp (disch := omega) only [zA, z13, z19, z20, z21, z22, z23, z24, z25, z31, eqDs, eqD, Nat.reduceAdd, wrap64] at h) <;> (try (exfalso; omega)))
  | (refine run_need rfl (by (try simp (disch := omega) only [zA, z13, z19, z20, z21, z22, z23, z24, z25, z31, eqDs, eqD, Nat.reduceAdd, wrap64]); first | exact elp_m (by omega) (by first | omega | (simp only [List.length_set]; omega)) (fun _ => rfl) | exact eld_m (by omega) (by first | omega | (simp only [List.length_set]; omega)) (fun _ => rfl) | exact els_m (by omega) (by omega) (by omega) rfl | exact lsl_m (by omega) (fun _ => rfl) | exact app_nil_m (by omega) (fun _ => rfl) (fun _ => rfl) | exact app_m_one (by omega) (fun _ => rfl) rfl rfl | exact app_m_m (by omega) (fun _ => rfl) (fun _ => rfl)) ?_)
  | (refine run_need rfl (by first | decide | omega | (simp only [List.length_map]; omega)) ?_)
  | (refine run_need rfl ?_ ?_)
  | (refine run_ret rfl ?_ ; first | refine rb ?_ | refine ri ?_ | refine rs2 ?_ ?_ | refine rs1 ?_)
  | (refine run_retx rfl ?_))
 refine run_loop rfl (fun _ : Unit => True) (fun _ => [(5, .val (i64 0)), (0, .val [.sl xs])]) (fun _ => 0) () trivial ⟨rfl, rfl, trivial⟩ rfl ?_
 rintro _ e _
 (repeat' first
  | (refine run_ite rfl (fun h => ?_) (fun h => ?_) <;> (try simp (disch := omega) only [zA, z13, z19, z20, z21, z22, z23, z24, z25, z31, eqDs, eqD, Nat.reduceAdd, wrap64] at h) <;> (try (exfalso; omega)))
  | (refine run_need rfl (by (try simp (disch := omega) only [zA, z13, z19, z20, z21, z22, z23, z24, z25, z31, eqDs, eqD, Nat.reduceAdd, wrap64]); first | exact elp_m (by omega) (by first | omega | (simp only [List.length_set]; omega)) (fun _ => rfl) | exact eld_m (by omega) (by first | omega | (simp only [List.length_set]; omega)) (fun _ => rfl) | exact els_m (by omega) (by omega) (by omega) rfl | exact lsl_m (by omega) (fun _ => rfl) | exact app_nil_m (by omega) (fun _ => rfl) (fun _ => rfl) | exact app_m_one (by omega) (fun _ => rfl) rfl rfl | exact app_m_m (by omega) (fun _ => rfl) (fun _ => rfl)) ?_)
  | (refine run_need rfl (by first | decide | omega | (simp only [List.length_map]; omega)) ?_)
  | (refine run_need rfl ?_ ?_)
  | (refine run_ret rfl ?_ ; first | refine rb ?_ | refine ri ?_ | refine rs2 ?_ ?_ | refine rs1 ?_)
  | (refine run_retx rfl ?_))
 rfl
theorem eqIndex_nil : FunOk PP W n_l_eqIndex s_l_eqIndex [[.int .i64 0, .int .i64 0, .sl []], [.int .i64 0, .int .i64 0, .sl []]] [bo true] := by
 refine F_l_eqIndex (run_fun ?_)
 (repeat' first
  | (refine run_ite rfl (fun h => ?_) (fun h => ?_) <;> (try simp (disch := omega) only [zA, z13, z19, z20, z21, z22, z23, z24, z25, z31, eqDs, eqD, Nat.reduceAdd, wrap64] at h) <;> (try (exfalso; omega)))
  | (refine run_need rfl (by (try simp (disch := omega) only [zA, z13, z19, z20, z21, z22, z23, z24, z25, z31, eqDs, eqD, Nat.reduceAdd, wrap64]); first | exact elp_m (by omega) (by first | omega | (simp only [List.length_set]; omega)) (fun _ => rfl) | exact eld_m (by omega) (by first | omega | (simp only [List.length_set]; omega)) (fun _ => rfl) | exact els_m (by omega) (by omega) (by omega) rfl | exact lsl_m (by omega) (fun _ => rfl) | exact app_nil_m (by omega) (fun _ => rfl) (fun _ => rfl) | exact app_m_one (by omega) (fun _ => rfl) rfl rfl | exact app_m_m (by omega) (fun _ => rfl) (fun _ => rfl)) ?_)
  | (refine run_need rfl (by first | decide | omega | (simp only [List.length_map]; omega)) ?_)
  | (refine run_call1 rfl (eqMetaS_nil [] [] rfl rfl) rfl ?_)
  | (refine run_need rfl ?_ ?_)
  | (refine run_ret rfl ?_ ; first | refine rb ?_ | refine ri ?_ | refine rs2 ?_ ?_ | refine rs1 ?_)
  | (refine run_retx rfl ?_))
 all_goals first | rfl | exact absurd trivial (by assumption)
theorem eqTrust_self (r : Rt) (hk : r.keys.length ≤ lim) : FunOk PP W n_l_eqTrust s_l_eqTrust [eTr r, eTr r] [bo true] := by
 refine F_l_eqTrust (run_fun ?_)
 (repeat' first
  | (refine run_ite rfl (fun h => ?_) (fun h => ?_) <;> (try simp (disch := omega) only [zA, z13, z19, z20, z21, z22, z23, z24, z25, z31, eqDs, eqD, Nat.reduceAdd, wrap64] at h) <;> (try (exfalso; omega)))
  | (refine run_need rfl (by (try simp (disch := omega) only [zA, z13, z19, z20, z21, z22, z23, z24, z25, z31, eqDs, eqD, Nat.reduceAdd, wrap64]); first | exact elp_m (by omega) (by first | omega | (simp only [List.length_set]; omega)) (fun _ => rfl) | exact eld_m (by omega) (by first | omega | (simp only [List.length_set]; omega)) (fun _ => rfl) | exact els_m (by omega) (by omega) (by omega) rfl | exact lsl_m (by omega) (fun _ => rfl) | exact app_nil_m (by omega) (fun _ => rfl) (fun _ => rfl) | exact app_m_one (by omega) (fun _ => rfl) rfl rfl | exact app_m_m (by omega) (fun _ => rfl) (fun _ => rfl)) ?_)
  | (refine run_need rfl (by first | decide | omega | (simp only [List.length_map]; omega)) ?_)
  | (refine run_call1 rfl (eqRoot_self r hk) rfl ?_)
  | (refine run_call1 rfl (eqIndex_nil) rfl ?_)
  | (refine run_need rfl ?_ ?_)
  | (refine run_ret rfl ?_ ; first | refine rb ?_ | refine ri ?_ | refine rs2 ?_ ?_ | refine rs1 ?_)
  | (refine run_retx rfl ?_))
 all_goals first | rfl | exact absurd trivial (by assumption)
def SmW (w : Wn) : Prop := SmRs w.roots ∧ w.bad.length ≤ lim ∧ w.tr.keys.length ≤ lim ∧ SmD w.dk
theorem eqDisk_self' (d : Dk) (h : SmD d) : FunOk PP W n_l_eqDisk s_l_eqDisk [eDk d, eDk d] [bo true] := by simpa using eqDisk_ok (W := W) d d h
theorem eqPks_nil : FunOk PP W n_l_eqPkgS s_l_eqPkgS [[.sl []], [.sl []]] [bo true] := by
 have h : FunOk PP W n_l_eqPkgS s_l_eqPkgS [ePks [], ePks []] [bo true] := by simpa using eqPkgS_ok (W := W) [] [] smPs_nil
 exact h
theorem eqWorld_self (w : Wn) (h : SmW w) : FunOk PP W n_l_eqWorld s_l_eqWorld [eWn w, eWn w] [bo true] := by
 refine F_l_eqWorld (run_fun ?_)
 obtain ⟨h1, h2, h3, h4⟩ := h
 (repeat' first
  | (refine run_ite rfl (fun h => ?_) (fun h => ?_) <;> (try simp (disch := omega) only [zA, z13, z19, z20, z21, z22, z23, z24, z25, z31, eqDs, eqD, Nat.reduceAdd, wrap64] at h) <;> (try (exfalso; omega)))
  | (refine run_need rfl (by (try simp (disch := omega) only [zA, z13, z19, z20, z21, z22, z23, z24, z25, z31, eqDs, eqD, Nat.reduceAdd, wrap64]); first | exact elp_m (by omega) (by first | omega | (simp only [List.length_set]; omega)) (fun _ => rfl) | exact eld_m (by omega) (by first | omega | (simp only [List.length_set]; omega)) (fun _ => rfl) | exact els_m (by omega) (by omega) (by omega) rfl | exact lsl_m (by omega) (fun _ => rfl) | exact app_nil_m (by omega) (fun _ => rfl) (fun _ => rfl) | exact app_m_one (by omega) (fun _ => rfl) rfl rfl | exact app_m_m (by omega) (fun _ => rfl) (fun _ => rfl)) ?_)
  | (refine run_need rfl (by first | decide | omega | (simp only [List.length_map]; omega)) ?_)
  | (refine run_call1 rfl (eqSigRootS_self w.roots h1) rfl ?_)
  | (refine run_call1 rfl (eqSigIndexS_nil [] [] rfl rfl) rfl ?_)
  | (refine run_call1 rfl (eqPks_nil) rfl ?_)
  | (refine run_call1 rfl (eqIntS_self w.bad h2) rfl ?_)
  | (refine run_call1 rfl (eqTrust_self w.tr h3) rfl ?_)
  | (refine run_call1 rfl (eqDisk_self' w.dk h4) rfl ?_)
  | (refine run_need rfl ?_ ?_)
  | (refine run_ret rfl ?_ ; first | refine rb ?_ | refine ri ?_ | refine rs2 ?_ ?_ | refine rs1 ?_)
  | (refine run_retx rfl ?_))
 all_goals first | rfl | exact absurd trivial (by assumption)

/-! Roots that are marked. -/
def cntR (s : SR) : Int := 2 + s.keys.length + s.sigs.length
def markSR (s : SR) (k : Int) : SR := ⟨k, markI s.keys (k + 1), k + 1 + s.keys.length, markI s.sigs (k + 2 + s.keys.length)⟩
theorem elsSR_0 {ys : List SR} {i v : Int} (h0 : 0 ≤ i) (h2 : i < ys.length) : elsV (ys.map eSR) i 0 [.int .i64 v] = (ys.set i.toNat ⟨v, (ix ys i).keys, (ix ys i).need, (ix ys i).sigs⟩).map eSR := elsV_gx h0 h2 rfl
theorem elsSR_2 {ys : List SR} {i v : Int} (h0 : 0 ≤ i) (h2 : i < ys.length) : elsV (ys.map eSR) i 2 [.int .i64 v] = (ys.set i.toNat ⟨(ix ys i).num, (ix ys i).keys, v, (ix ys i).sigs⟩).map eSR := elsV_gx h0 h2 rfl
theorem cntR_mark (s : SR) (k : Int) : cntR (markSR s k) = cntR s := by simp [cntR, markSR, markI_len]
theorem cntR_nn (s : SR) : 0 ≤ cntR s := by unfold cntR; omega
def cntRs (l : List SR) : Int := sumF cntR l
def markRs (l : List SR) (k : Int) : List SR := (List.range l.length).map fun (j : Nat) => markSR (ix l j) (k + cntRs (l.take j))
theorem markRs_len (l : List SR) (k : Int) : (markRs l k).length = l.length := by simp [markRs]
theorem markRs_ix (l : List SR) (k : Int) {i : Int} (h0 : 0 ≤ i) (h1 : i < l.length) : ix (markRs l k) i = markSR (ix l i) (k + cntRs (l.take i.toNat)) := by
 unfold markRs
 rw [ix_range h0 h1]
 simp only [show ((i.toNat : Nat) : Int) = i by omega]
theorem cntRs_mark (l : List SR) (k : Int) (n : Nat) : cntRs ((markRs l k).take n) = cntRs (l.take n) := by
 refine sumF_ext (by simp [markRs_len]) (fun i h0 h1 => ?_)
 simp only [List.length_take, markRs_len] at h1
 show cntR _ = cntR _
 rw [ix_takeN _ h0 (by omega), ix_takeN _ h0 (by omega), markRs_ix l k h0 (by omega), cntR_mark]
theorem cntRs_mark' (l : List SR) (k : Int) : cntRs (markRs l k) = cntRs l := by
 have := cntRs_mark l k l.length
 rwa [List.take_of_length_le (by rw [markRs_len]; exact Nat.le_refl _), List.take_of_length_le (Nat.le_refl _)] at this
theorem cntRs_nn (l : List SR) : 0 ≤ cntRs l := sumF_nn cntR_nn l
theorem len_cntR : ∀ l : List SR, (l.length : Int) ≤ cntRs l
 | [] => by simp [cntRs, sumF]
 | p :: r => by
  have h := len_cntR r
  simp only [cntRs, sumF, List.map_cons, List.sum_cons, List.length_cons] at *
  have : cntR p = 2 + p.keys.length + p.sigs.length := rfl
  omega

theorem markSigRootS_ok (l : List SR) (k : Int) (h0 : 0 ≤ k) (hk : k + cntRs l ≤ 1099511627776) : FunOk PP W n_l_markSigRootS s_l_markSigRootS_X [eSRs l, i64 k] [i64 (k + cntRs l), eSRs (markRs l k)] := by
 refine F_l_markSigRootS_X (run_fun ?_)
 have hlc := len_cntR l
 (repeat' first
  | (refine run_ite rfl (fun h => ?_) (fun h => ?_) <;> (try simp (disch := omega) only [zA, z13, z19, z20, z21, z22, z23, z24, z25, z31, eqDs, eqD, Nat.reduceAdd, wrap64] at h) <;> (try (exfalso; omega)))
  | (refine run_need rfl (by (try simp (disch := omega) only [zA, z13, z19, z20, z21, z22, z23, z24, z25, z31, eqDs, eqD, Nat.reduceAdd, wrap64]); first | exact elp_m (by omega) (by first | omega | (simp only [List.length_set]; omega)) (fun _ => rfl) | exact eld_m (by omega) (by first | omega | (simp only [List.length_set]; omega)) (fun _ => rfl) | exact els_m (by omega) (by omega) (by omega) rfl | exact lsl_m (by omega) (fun _ => rfl) | exact app_nil_m (by omega) (fun _ => rfl) (fun _ => rfl) | exact app_m_one (by omega) (fun _ => rfl) rfl rfl | exact app_m_m (by omega) (fun _ => rfl) (fun _ => rfl)) ?_)
  | (refine run_need rfl (by first | decide | omega | (simp only [List.length_map]; omega)) ?_)
  | (refine run_need rfl ?_ ?_)
  | (refine run_ret rfl ?_ ; first | refine rb ?_ | refine ri ?_ | refine rs2 ?_ ?_ | refine rs1 ?_)
  | (refine run_retx rfl ?_))
 refine run_loop rfl (fun x : Int × List SR => 0 ≤ x.1 ∧ x.1 ≤ l.length ∧ x.2.length = l.length ∧ Blw x.1 (fun j => ix x.2 j = markSR (ix l j) (k + cntRs (l.take j.toNat))) ∧ ∀ j, x.1 ≤ j → ix x.2 j = ix l j)
  (fun x => [(5, .val (i64 x.1)), (1, .val (i64 (k + cntRs (l.take x.1.toNat)))), (0, .val (eSRs x.2))]) (fun x => (l.length - x.1).toNat) (0, l) ⟨by omega, by simp, rfl, blw_zero _, fun _ _ => rfl⟩ ⟨rfl, i64_eq (by simp [cntRs, sumF]), rfl, trivial⟩ rfl ?_
 rintro ⟨i, ys⟩ e ⟨i0, hN, hy, hP, hI⟩
 dsimp only at i0 hN hy hP hI ⊢
 have hnn : 0 ≤ cntRs (l.take i.toNat) := cntRs_nn _
 by_cases hi : i < l.length
 ·have hix : ix ys i = ix l i := hI i (by omega)
  have hle := sumF_le cntR_nn l (i + 1).toNat
  have ht := sumF_take cntR l i0 hi
  have hc : cntR (ix l i) = 2 + (ix l i).keys.length + (ix l i).sigs.length := rfl
  simp only [show sumF cntR = cntRs from rfl] at hle ht
  generalize hK : k + cntRs (l.take i.toNat) = K at *
  have f1 := markIntS_ok (W := W) (ix l i).keys (K + 1) (by omega) (by omega)
  have f2 := markIntS_ok (W := W) (ix l i).sigs (K + 2 + (ix l i).keys.length) (by omega) (by omega)
  (repeat' first
  | (refine run_ite rfl (fun h => ?_) (fun h => ?_) <;> (try simp (disch := omega) only [zA, z13, z19, z20, z21, z22, z23, z24, z25, z31, eqDs, eqD, Nat.reduceAdd, wrap64] at h) <;> (try (exfalso; omega)))
  | (refine run_need rfl (by (try simp (disch := omega) only [zA, z13, z19, z20, z21, z22, z23, z24, z25, z31, eqDs, eqD, Nat.reduceAdd, wrap64]); first | exact elp_m (by omega) (by first | omega | (simp only [List.length_set]; omega)) (fun _ => rfl) | exact eld_m (by omega) (by first | omega | (simp only [List.length_set]; omega)) (fun _ => rfl) | exact els_m (by omega) (by omega) (by omega) rfl | exact lsl_m (by omega) (fun _ => rfl) | exact app_nil_m (by omega) (fun _ => rfl) (fun _ => rfl) | exact app_m_one (by omega) (fun _ => rfl) rfl rfl | exact app_m_m (by omega) (fun _ => rfl) (fun _ => rfl)) ?_)
  | (refine run_need rfl (by first | decide | omega | (simp only [List.length_map]; omega)) ?_)
  | (refine run_elsc rfl (els_gx (sz := 4) i0 (by omega) (by omega) (fun _ => rfl) (Nat.le_of_ble_eq_true rfl)) (sl_eq ((elsSR_0 i0 (by omega)).trans (by rw [hix]))) ?_)
  | (refine run_ioe rfl rfl rfl (get_ss i0 (by omega)) (get_ss i0 (by omega)) rfl rfl f1 (i64_eq (wrap64 _ (by omega))) (set_ss (q' := ⟨K, markI (ix l i).keys (K + 1), (ix l i).need, (ix l i).sigs⟩) rfl) ?_)
  | (refine run_elsc (c := [.sl ((ys.set i.toNat ⟨K, markI (ix l i).keys (K + 1), K + 1 + (ix l i).keys.length, (ix l i).sigs⟩).map eSR)]) rfl (els_gx (sz := 4) i0 (by simp only [List.length_set]; omega) (by simp only [List.length_set]; omega) (fun _ => rfl) (Nat.le_of_ble_eq_true rfl)) (sl_eq ((elsSR_2 i0 (by simp only [List.length_set]; omega)).trans (by rw [ix_ssx i0 (by omega), List.set_set]))) ?_)
  | (refine run_ioe rfl rfl rfl (get_ss i0 (by omega)) (get_ss i0 (by omega)) rfl rfl f2 (i64_eq (by rw [wrap64 _ (by omega)]; omega)) (set_ss (q' := ⟨K, markI (ix l i).keys (K + 1), K + 1 + (ix l i).keys.length, markI (ix l i).sigs (K + 2 + (ix l i).keys.length)⟩) rfl) ?_)
  | (refine run_next rfl (Exists.intro (i + 1, ys.set i.toNat (markSR (ix l i) K)) ⟨?_, ⟨?_, ?_, ?_, ?_, ?_⟩, ?_, ?_, ?_, trivial⟩))
  | (refine run_need rfl ?_ ?_)
  | (refine run_ret rfl ?_ ; first | refine rb ?_ | refine ri ?_ | refine rs2 ?_ ?_ | refine rs1 ?_)
  | (refine run_retx rfl ?_))
  ·dsimp only; omega
  ·dsimp only; omega
  ·dsimp only; omega
  ·simpa using hy
  ·subst hK
   exact blw_put (f := fun j => markSR (ix l j) (k + cntRs (l.take j.toNat))) i0 (by omega) hP
  ·exact blw_from i0 (by omega) hI
  ·exact i64_eq (wrap64 _ (by omega))
  ·exact i64_eq (by dsimp only; omega)
  ·rfl
 ·(repeat' first
  | (refine run_ite rfl (fun h => ?_) (fun h => ?_) <;> (try simp (disch := omega) only [zA, z13, z19, z20, z21, z22, z23, z24, z25, z31, eqDs, eqD, Nat.reduceAdd, wrap64] at h) <;> (try (exfalso; omega)))
  | (refine run_need rfl (by (try simp (disch := omega) only [zA, z13, z19, z20, z21, z22, z23, z24, z25, z31, eqDs, eqD, Nat.reduceAdd, wrap64]); first | exact elp_m (by omega) (by first | omega | (simp only [List.length_set]; omega)) (fun _ => rfl) | exact eld_m (by omega) (by first | omega | (simp only [List.length_set]; omega)) (fun _ => rfl) | exact els_m (by omega) (by omega) (by omega) rfl | exact lsl_m (by omega) (fun _ => rfl) | exact app_nil_m (by omega) (fun _ => rfl) (fun _ => rfl) | exact app_m_one (by omega) (fun _ => rfl) rfl rfl | exact app_m_m (by omega) (fun _ => rfl) (fun _ => rfl)) ?_)
  | (refine run_need rfl (by first | decide | omega | (simp only [List.length_map]; omega)) ?_)
  | (refine run_need rfl ?_ ?_)
  | (refine run_ret rfl ?_ ; first | refine rb ?_ | refine ri ?_ | refine rs2 ?_ ?_ | refine rs1 ?_)
  | (refine run_retx rfl ?_))
  ·rw [List.take_of_length_le (by omega)]
  ·refine sl_eq ?_
   rw [ix_ext (xs := ys) (ys := markRs l k) (by rw [markRs_len, hy]) (fun j j0 j1 => (hP j j0 (by omega)).trans (markRs_ix l k j0 (by omega)).symm)]

def HdI (l : List Int) (k : Int) : Prop := Blw l.length (fun j => ix l j = k + j)
theorem hdI_mark (l : List Int) (k : Int) : HdI (markI l k) k := fun j j0 j1 => by
 rw [markI_len] at j1
 exact markI_ix l k j0 j1
def HdSR (s : SR) (k : Int) : Prop := s.num = k ∧ HdI s.keys (k + 1) ∧ s.need = k + 1 + s.keys.length ∧ HdI s.sigs (k + 2 + s.keys.length)
def HdRs (l : List SR) (k : Int) : Prop := Blw l.length (fun j => HdSR (ix l j) (k + cntRs (l.take j.toNat)))
theorem hdRs_mark (l : List SR) (k : Int) : HdRs (markRs l k) k := fun j j0 j1 => by
 rw [markRs_len] at j1
 show HdSR (ix (markRs l k) j) (k + cntRs ((markRs l k).take j.toNat))
 rw [cntRs_mark, markRs_ix l k j0 j1]
 generalize k + cntRs (l.take j.toNat) = K
 refine ⟨rfl, hdI_mark _ _, ?_, ?_⟩
 ·show K + 1 + (ix l j).keys.length = K + 1 + (markI (ix l j).keys (K + 1)).length
  rw [markI_len]
 ·show HdI (markI (ix l j).sigs (K + 2 + (ix l j).keys.length)) (K + 2 + (markI (ix l j).keys (K + 1)).length)
  rw [markI_len]
  exact hdI_mark _ _
theorem heldSigRootS_ok (l : List SR) (k : Int) (h0 : 0 ≤ k) (hk : k + cntRs l ≤ 1099511627776) (hh : HdRs l k) : FunOk PP W n_l_heldSigRootS s_l_heldSigRootS [eSRs l, i64 k] [i64 (k + cntRs l)] := by
 refine F_l_heldSigRootS (run_fun ?_)
 have hlc := len_cntR l
 (repeat' first
  | (refine run_ite rfl (fun h => ?_) (fun h => ?_) <;> (try simp (disch := omega) only [zA, z13, z19, z20, z21, z22, z23, z24, z25, z31, eqDs, eqD, Nat.reduceAdd, wrap64] at h) <;> (try (exfalso; omega)))
  | (refine run_need rfl (by (try simp (disch := omega) only [zA, z13, z19, z20, z21, z22, z23, z24, z25, z31, eqDs, eqD, Nat.reduceAdd, wrap64]); first | exact elp_m (by omega) (by first | omega | (simp only [List.length_set]; omega)) (fun _ => rfl) | exact eld_m (by omega) (by first | omega | (simp only [List.length_set]; omega)) (fun _ => rfl) | exact els_m (by omega) (by omega) (by omega) rfl | exact lsl_m (by omega) (fun _ => rfl) | exact app_nil_m (by omega) (fun _ => rfl) (fun _ => rfl) | exact app_m_one (by omega) (fun _ => rfl) rfl rfl | exact app_m_m (by omega) (fun _ => rfl) (fun _ => rfl)) ?_)
  | (refine run_need rfl (by first | decide | omega | (simp only [List.length_map]; omega)) ?_)
  | (refine run_need rfl ?_ ?_)
  | (refine run_ret rfl ?_ ; first | refine rb ?_ | refine ri ?_ | refine rs2 ?_ ?_ | refine rs1 ?_)
  | (refine run_retx rfl ?_))
 refine run_loop rfl (fun i : Int => 0 ≤ i ∧ i ≤ l.length) (fun i => [(5, .val (i64 i)), (1, .val (i64 (k + cntRs (l.take i.toNat)))), (0, .val (eSRs l))]) (fun i => (l.length - i).toNat) 0 ⟨by omega, by simp⟩ ⟨rfl, i64_eq (by simp [cntRs, sumF]), rfl, trivial⟩ rfl ?_
 rintro i e ⟨i0, hN⟩
 have hnn : 0 ≤ cntRs (l.take i.toNat) := cntRs_nn _
 by_cases hi : i < l.length
 ·have hle := sumF_le cntR_nn l (i + 1).toNat
  have ht := sumF_take cntR l i0 hi
  have hc : cntR (ix l i) = 2 + (ix l i).keys.length + (ix l i).sigs.length := rfl
  simp only [show sumF cntR = cntRs from rfl] at hle ht
  obtain ⟨g1, g2, g3, g4⟩ := hh i i0 hi
  generalize hK : k + cntRs (l.take i.toNat) = K at *
  have f1 := heldIntS_ok (W := W) (ix l i).keys (K + 1) (by omega) (by omega) g2
  have f2 := heldIntS_ok (W := W) (ix l i).sigs (K + 2 + (ix l i).keys.length) (by omega) (by omega) g4
  have w2 : IntKind.i64.wrap (K + 1 + (ix l i).keys.length + 1) = K + 2 + (ix l i).keys.length := by rw [wrap64 _ (by omega)]; omega
  (repeat' first
  | (refine run_ite rfl (fun h => ?_) (fun h => ?_) <;> (try simp (disch := omega) only [zA, z13, z19, z20, z21, z22, z23, z24, z25, z31, eqDs, eqD, Nat.reduceAdd, wrap64] at h) <;> (try (exfalso; omega)))
  | (refine run_need rfl (by (try simp (disch := omega) only [zA, z13, z19, z20, z21, z22, z23, z24, z25, z31, eqDs, eqD, Nat.reduceAdd, wrap64]); first | exact elp_m (by omega) (by first | omega | (simp only [List.length_set]; omega)) (fun _ => rfl) | exact eld_m (by omega) (by first | omega | (simp only [List.length_set]; omega)) (fun _ => rfl) | exact els_m (by omega) (by omega) (by omega) rfl | exact lsl_m (by omega) (fun _ => rfl) | exact app_nil_m (by omega) (fun _ => rfl) (fun _ => rfl) | exact app_m_one (by omega) (fun _ => rfl) rfl rfl | exact app_m_m (by omega) (fun _ => rfl) (fun _ => rfl)) ?_)
  | (refine run_need rfl (by first | decide | omega | (simp only [List.length_map]; omega)) ?_)
  | (refine run_calleq rfl f1 (rs2 (sl_eq (cL_SR_1 _ _)) (i64_eq (wrap64 _ (by omega)))) rfl ?_)
  | (refine run_calleq rfl f2 (rs2 (sl_eq (cL_SR_3 _ _)) (i64_eq w2)) rfl ?_)
  | (refine run_next rfl (Exists.intro (i + 1) ⟨by omega, ⟨by omega, by omega⟩, i64_eq (wrap64 _ (by omega)), i64_eq (by omega), rfl, trivial⟩))
  | (refine run_need rfl ?_ ?_)
  | (refine run_ret rfl ?_ ; first | refine rb ?_ | refine ri ?_ | refine rs2 ?_ ?_ | refine rs1 ?_)
  | (refine run_retx rfl ?_))
 ·(repeat' first
  | (refine run_ite rfl (fun h => ?_) (fun h => ?_) <;> (try simp (disch := omega) only [zA, z13, z19, z20, z21, z22, z23, z24, z25, z31, eqDs, eqD, Nat.reduceAdd, wrap64] at h) <;> (try (exfalso; omega)))
  | (refine run_need rfl (by (try simp (disch := omega) only [zA, z13, z19, z20, z21, z22, z23, z24, z25, z31, eqDs, eqD, Nat.reduceAdd, wrap64]); first | exact elp_m (by omega) (by first | omega | (simp only [List.length_set]; omega)) (fun _ => rfl) | exact eld_m (by omega) (by first | omega | (simp only [List.length_set]; omega)) (fun _ => rfl) | exact els_m (by omega) (by omega) (by omega) rfl | exact lsl_m (by omega) (fun _ => rfl) | exact app_nil_m (by omega) (fun _ => rfl) (fun _ => rfl) | exact app_m_one (by omega) (fun _ => rfl) rfl rfl | exact app_m_m (by omega) (fun _ => rfl) (fun _ => rfl)) ?_)
  | (refine run_need rfl (by first | decide | omega | (simp only [List.length_map]; omega)) ?_)
  | (refine run_need rfl ?_ ?_)
  | (refine run_ret rfl ?_ ; first | refine rb ?_ | refine ri ?_ | refine rs2 ?_ ?_ | refine rs1 ?_)
  | (refine run_retx rfl ?_))
  rw [List.take_of_length_le (by omega)]

/-! What is empty is marked. -/
theorem markSigIndexS_nil (xs : List (List D)) (k : Int) (h : xs.length = 0) : FunOk PP W n_l_markSigIndexS s_l_markSigIndexS_X [[.sl xs], i64 k] [i64 k, [.sl xs]] := by
 refine F_l_markSigIndexS_X (run_fun ?_)
 (repeat' first
  | (refine run_ite rfl (fun h => ?_) (fun h => ?_) <;> (try simp (disch := omega) only [zA, z13, z19, z20, z21, z22, z23, z24, z25, z31, eqDs, eqD, Nat.reduceAdd, wrap64] at h) <;> (try (exfalso; omega)))
  | (refine run_need rfl (by (try simp (disch := omega) only [zA, z13, z19, z20, z21, z22, z23, z24, z25, z31, eqDs, eqD, Nat.reduceAdd, wrap64]); first | exact elp_m (by omega) (by first | omega | (simp only [List.length_set]; omega)) (fun _ => rfl) | exact eld_m (by omega) (by first | omega | (simp only [List.length_set]; omega)) (fun _ => rfl) | exact els_m (by omega) (by omega) (by omega) rfl | exact lsl_m (by omega) (fun _ => rfl) | exact app_nil_m (by omega) (fun _ => rfl) (fun _ => rfl) | exact app_m_one (by omega) (fun _ => rfl) rfl rfl | exact app_m_m (by omega) (fun _ => rfl) (fun _ => rfl)) ?_)
  | (refine run_need rfl (by first | decide | omega | (simp only [List.length_map]; omega)) ?_)
  | (refine run_need rfl ?_ ?_)
  | (refine run_ret rfl ?_ ; first | refine rb ?_ | refine ri ?_ | refine rs2 ?_ ?_ | refine rs1 ?_)
  | (refine run_retx rfl ?_))
 refine run_loop rfl (fun _ : Unit => True) (fun _ => [(5, .val (i64 0)), (0, .val [.sl xs]), (1, .val (i64 k))]) (fun _ => 0) () trivial ⟨rfl, rfl, rfl, trivial⟩ rfl ?_
 rintro _ e _
 (repeat' first
  | (refine run_ite rfl (fun h => ?_) (fun h => ?_) <;> (try simp (disch := omega) only [zA, z13, z19, z20, z21, z22, z23, z24, z25, z31, eqDs, eqD, Nat.reduceAdd, wrap64] at h) <;> (try (exfalso; omega)))
  | (refine run_need rfl (by (try simp (disch := omega) only [zA, z13, z19, z20, z21, z22, z23, z24, z25, z31, eqDs, eqD, Nat.reduceAdd, wrap64]); first | exact elp_m (by omega) (by first | omega | (simp only [List.length_set]; omega)) (fun _ => rfl) | exact eld_m (by omega) (by first | omega | (simp only [List.length_set]; omega)) (fun _ => rfl) | exact els_m (by omega) (by omega) (by omega) rfl | exact lsl_m (by omega) (fun _ => rfl) | exact app_nil_m (by omega) (fun _ => rfl) (fun _ => rfl) | exact app_m_one (by omega) (fun _ => rfl) rfl rfl | exact app_m_m (by omega) (fun _ => rfl) (fun _ => rfl)) ?_)
  | (refine run_need rfl (by first | decide | omega | (simp only [List.length_map]; omega)) ?_)
  | (refine run_need rfl ?_ ?_)
  | (refine run_ret rfl ?_ ; first | refine rb ?_ | refine ri ?_ | refine rs2 ?_ ?_ | refine rs1 ?_)
  | (refine run_retx rfl ?_))
 all_goals rfl
theorem heldSigIndexS_nil (xs : List (List D)) (k : Int) (h : xs.length = 0) : FunOk PP W n_l_heldSigIndexS s_l_heldSigIndexS [[.sl xs], i64 k] [i64 k] := by
 refine F_l_heldSigIndexS (run_fun ?_)
 (repeat' first
  | (refine run_ite rfl (fun h => ?_) (fun h => ?_) <;> (try simp (disch := omega) only [zA, z13, z19, z20, z21, z22, z23, z24, z25, z31, eqDs, eqD, Nat.reduceAdd, wrap64] at h) <;> (try (exfalso; omega)))
  | (refine run_need rfl (by (try simp (disch := omega) only [zA, z13, z19, z20, z21, z22, z23, z24, z25, z31, eqDs, eqD, Nat.reduceAdd, wrap64]); first | exact elp_m (by omega) (by first | omega | (simp only [List.length_set]; omega)) (fun _ => rfl) | exact eld_m (by omega) (by first | omega | (simp only [List.length_set]; omega)) (fun _ => rfl) | exact els_m (by omega) (by omega) (by omega) rfl | exact lsl_m (by omega) (fun _ => rfl) | exact app_nil_m (by omega) (fun _ => rfl) (fun _ => rfl) | exact app_m_one (by omega) (fun _ => rfl) rfl rfl | exact app_m_m (by omega) (fun _ => rfl) (fun _ => rfl)) ?_)
  | (refine run_need rfl (by first | decide | omega | (simp only [List.length_map]; omega)) ?_)
  | (refine run_need rfl ?_ ?_)
  | (refine run_ret rfl ?_ ; first | refine rb ?_ | refine ri ?_ | refine rs2 ?_ ?_ | refine rs1 ?_)
  | (refine run_retx rfl ?_))
 refine run_loop rfl (fun _ : Unit => True) (fun _ => [(5, .val (i64 0)), (0, .val [.sl xs]), (1, .val (i64 k))]) (fun _ => 0) () trivial ⟨rfl, rfl, rfl, trivial⟩ rfl ?_
 rintro _ e _
 (repeat' first
  | (refine run_ite rfl (fun h => ?_) (fun h => ?_) <;> (try simp (disch := omega) only [zA, z13, z19, z20, z21, z22, z23, z24, z25, z31, eqDs, eqD, Nat.reduceAdd, wrap64] at h) <;> (try (exfalso; omega)))
  | (refine run_need rfl (by (try simp (disch := omega) only [zA, z13, z19, z20, z21, z22, z23, z24, z25, z31, eqDs, eqD, Nat.reduceAdd, wrap64]); first | exact elp_m (by omega) (by first | omega | (simp only [List.length_set]; omega)) (fun _ => rfl) | exact eld_m (by omega) (by first | omega | (simp only [List.length_set]; omega)) (fun _ => rfl) | exact els_m (by omega) (by omega) (by omega) rfl | exact lsl_m (by omega) (fun _ => rfl) | exact app_nil_m (by omega) (fun _ => rfl) (fun _ => rfl) | exact app_m_one (by omega) (fun _ => rfl) rfl rfl | exact app_m_m (by omega) (fun _ => rfl) (fun _ => rfl)) ?_)
  | (refine run_need rfl (by first | decide | omega | (simp only [List.length_map]; omega)) ?_)
  | (refine run_need rfl ?_ ?_)
  | (refine run_ret rfl ?_ ; first | refine rb ?_ | refine ri ?_ | refine rs2 ?_ ?_ | refine rs1 ?_)
  | (refine run_retx rfl ?_))
 all_goals rfl
theorem markMetaS_nil (xs : List (List D)) (k : Int) (h : xs.length = 0) : FunOk PP W n_l_markMetaS s_l_markMetaS_X [[.sl xs], i64 k] [i64 k, [.sl xs]] := by
 refine F_l_markMetaS_X (run_fun ?_)
 (repeat' first
  | (refine run_ite rfl (fun h => ?_) (fun h => ?_) <;> (try simp (disch := omega) only [zA, z13, z19, z20, z21, z22, z23, z24, z25, z31, eqDs, eqD, Nat.reduceAdd, wrap64] at h) <;> (try (exfalso; omega)))
  | (refine run_need rfl (by (try simp (disch := omega) only [zA, z13, z19, z20, z21, z22, z23, z24, z25, z31, eqDs, eqD, Nat.reduceAdd, wrap64]); first | exact elp_m (by omega) (by first | omega | (simp only [List.length_set]; omega)) (fun _ => rfl) | exact eld_m (by omega) (by first | omega | (simp only [List.length_set]; omega)) (fun _ => rfl) | exact els_m (by omega) (by omega) (by omega) rfl | exact lsl_m (by omega) (fun _ => rfl) | exact app_nil_m (by omega) (fun _ => rfl) (fun _ => rfl) | exact app_m_one (by omega) (fun _ => rfl) rfl rfl | exact app_m_m (by omega) (fun _ => rfl) (fun _ => rfl)) ?_)
  | (refine run_need rfl (by first | decide | omega | (simp only [List.length_map]; omega)) ?_)
  | (refine run_need rfl ?_ ?_)
  | (refine run_ret rfl ?_ ; first | refine rb ?_ | refine ri ?_ | refine rs2 ?_ ?_ | refine rs1 ?_)
  | (refine run_retx rfl ?_))
 refine run_loop rfl (fun _ : Unit => True) (fun _ => [(5, .val (i64 0)), (0, .val [.sl xs]), (1, .val (i64 k))]) (fun _ => 0) () trivial ⟨rfl, rfl, rfl, trivial⟩ rfl ?_
 rintro _ e _
 (repeat' first
  | (refine run_ite rfl (fun h => ?_) (fun h => ?_) <;> (try simp (disch := omega) only [zA, z13, z19, z20, z21, z22, z23, z24, z25, z31, eqDs, eqD, Nat.reduceAdd, wrap64] at h) <;> (try (exfalso; omega)))
  | (refine run_need rfl (by (try simp (disch := omega) only [zA, z13, z19, z20, z21, z22, z23, z24, z25, z31, eqDs, eqD, Nat.reduceAdd, wrap64]); first | exact elp_m (by omega) (by first | omega | (simp only [List.length_set]; omega)) (fun _ => rfl) | exact eld_m (by omega) (by first | omega | (simp only [List.length_set]; omega)) (fun _ => rfl) | exact els_m (by omega) (by omega) (by omega) rfl | exact lsl_m (by omega) (fun _ => rfl) | exact app_nil_m (by omega) (fun _ => rfl) (fun _ => rfl) | exact app_m_one (by omega) (fun _ => rfl) rfl rfl | exact app_m_m (by omega) (fun _ => rfl) (fun _ => rfl)) ?_)
  | (refine run_need rfl (by first | decide | omega | (simp only [List.length_map]; omega)) ?_)
  | (refine run_need rfl ?_ ?_)
  | (refine run_ret rfl ?_ ; first | refine rb ?_ | refine ri ?_ | refine rs2 ?_ ?_ | refine rs1 ?_)
  | (refine run_retx rfl ?_))
 all_goals rfl
theorem heldMetaS_nil (xs : List (List D)) (k : Int) (h : xs.length = 0) : FunOk PP W n_l_heldMetaS s_l_heldMetaS [[.sl xs], i64 k] [i64 k] := by
 refine F_l_heldMetaS (run_fun ?_)
 (repeat' first
  | (refine run_ite rfl (fun h => ?_) (fun h => ?_) <;> (try simp (disch := omega) only [zA, z13, z19, z20, z21, z22, z23, z24, z25, z31, eqDs, eqD, Nat.reduceAdd, wrap64] at h) <;> (try (exfalso; omega)))
  | (refine run_need rfl (by (try simp (disch := omega) only [zA, z13, z19, z20, z21, z22, z23, z24, z25, z31, eqDs, eqD, Nat.reduceAdd, wrap64]); first | exact elp_m (by omega) (by first | omega | (simp only [List.length_set]; omega)) (fun _ => rfl) | exact eld_m (by omega) (by first | omega | (simp only [List.length_set]; omega)) (fun _ => rfl) | exact els_m (by omega) (by omega) (by omega) rfl | exact lsl_m (by omega) (fun _ => rfl) | exact app_nil_m (by omega) (fun _ => rfl) (fun _ => rfl) | exact app_m_one (by omega) (fun _ => rfl) rfl rfl | exact app_m_m (by omega) (fun _ => rfl) (fun _ => rfl)) ?_)
  | (refine run_need rfl (by first | decide | omega | (simp only [List.length_map]; omega)) ?_)
  | (refine run_need rfl ?_ ?_)
  | (refine run_ret rfl ?_ ; first | refine rb ?_ | refine ri ?_ | refine rs2 ?_ ?_ | refine rs1 ?_)
  | (refine run_retx rfl ?_))
 refine run_loop rfl (fun _ : Unit => True) (fun _ => [(5, .val (i64 0)), (0, .val [.sl xs]), (1, .val (i64 k))]) (fun _ => 0) () trivial ⟨rfl, rfl, rfl, trivial⟩ rfl ?_
 rintro _ e _
 (repeat' first
  | (refine run_ite rfl (fun h => ?_) (fun h => ?_) <;> (try simp (disch := omega) only [zA, z13, z19, z20, z21, z22, z23, z24, z25, z31, eqDs, eqD, Nat.reduceAdd, wrap64] at h) <;> (try (exfalso; omega)))
  | (refine run_need rfl (by (try simp (disch := omega) only [zA, z13, z19, z20, z21, z22, z23, z24, z25, z31, eqDs, eqD, Nat.reduceAdd, wrap64]); first | exact elp_m (by omega) (by first | omega | (simp only [List.length_set]; omega)) (fun _ => rfl) | exact eld_m (by omega) (by first | omega | (simp only [List.length_set]; omega)) (fun _ => rfl) | exact els_m (by omega) (by omega) (by omega) rfl | exact lsl_m (by omega) (fun _ => rfl) | exact app_nil_m (by omega) (fun _ => rfl) (fun _ => rfl) | exact app_m_one (by omega) (fun _ => rfl) rfl rfl | exact app_m_m (by omega) (fun _ => rfl) (fun _ => rfl)) ?_)
  | (refine run_need rfl (by first | decide | omega | (simp only [List.length_map]; omega)) ?_)
  | (refine run_need rfl ?_ ?_)
  | (refine run_ret rfl ?_ ; first | refine rb ?_ | refine ri ?_ | refine rs2 ?_ ?_ | refine rs1 ?_)
  | (refine run_retx rfl ?_))
 all_goals rfl
theorem markIndex_nil (k : Int) : FunOk PP W n_l_markIndex s_l_markIndex_X [[.int .i64 0, .int .i64 0, .sl []], i64 k] [i64 k, [.int .i64 0, .int .i64 0, .sl []]] := by
 refine F_l_markIndex_X (run_fun ?_)
 (repeat' first
  | (refine run_ite rfl (fun h => ?_) (fun h => ?_) <;> (try simp (disch := omega) only [zA, z13, z19, z20, z21, z22, z23, z24, z25, z31, eqDs, eqD, Nat.reduceAdd, wrap64] at h) <;> (try (exfalso; omega)))
  | (refine run_need rfl (by (try simp (disch := omega) only [zA, z13, z19, z20, z21, z22, z23, z24, z25, z31, eqDs, eqD, Nat.reduceAdd, wrap64]); first | exact elp_m (by omega) (by first | omega | (simp only [List.length_set]; omega)) (fun _ => rfl) | exact eld_m (by omega) (by first | omega | (simp only [List.length_set]; omega)) (fun _ => rfl) | exact els_m (by omega) (by omega) (by omega) rfl | exact lsl_m (by omega) (fun _ => rfl) | exact app_nil_m (by omega) (fun _ => rfl) (fun _ => rfl) | exact app_m_one (by omega) (fun _ => rfl) rfl rfl | exact app_m_m (by omega) (fun _ => rfl) (fun _ => rfl)) ?_)
  | (refine run_need rfl (by first | decide | omega | (simp only [List.length_map]; omega)) ?_)
  | (refine run_io rfl rfl (markMetaS_nil [] k rfl) rfl rfl rfl rfl ?_)
  | (refine run_need rfl ?_ ?_)
  | (refine run_ret rfl ?_ ; first | refine rb ?_ | refine ri ?_ | refine rs2 ?_ ?_ | refine rs1 ?_)
  | (refine run_retx rfl ?_))
 all_goals rfl
theorem heldIndex_nil (k : Int) (h0 : 0 ≤ k) : FunOk PP W n_l_heldIndex s_l_heldIndex [[.int .i64 0, .int .i64 0, .sl []], i64 k] [i64 k] := by
 refine F_l_heldIndex (run_fun ?_)
 (repeat' first
  | (refine run_ite rfl (fun h => ?_) (fun h => ?_) <;> (try simp (disch := omega) only [zA, z13, z19, z20, z21, z22, z23, z24, z25, z31, eqDs, eqD, Nat.reduceAdd, wrap64] at h) <;> (try (exfalso; omega)))
  | (refine run_need rfl (by (try simp (disch := omega) only [zA, z13, z19, z20, z21, z22, z23, z24, z25, z31, eqDs, eqD, Nat.reduceAdd, wrap64]); first | exact elp_m (by omega) (by first | omega | (simp only [List.length_set]; omega)) (fun _ => rfl) | exact eld_m (by omega) (by first | omega | (simp only [List.length_set]; omega)) (fun _ => rfl) | exact els_m (by omega) (by omega) (by omega) rfl | exact lsl_m (by omega) (fun _ => rfl) | exact app_nil_m (by omega) (fun _ => rfl) (fun _ => rfl) | exact app_m_one (by omega) (fun _ => rfl) rfl rfl | exact app_m_m (by omega) (fun _ => rfl) (fun _ => rfl)) ?_)
  | (refine run_need rfl (by first | decide | omega | (simp only [List.length_map]; omega)) ?_)
  | (refine run_call1 rfl (heldMetaS_nil [] k rfl) rfl ?_)
  | (refine run_need rfl ?_ ?_)
  | (refine run_ret rfl ?_ ; first | refine rb ?_ | refine ri ?_ | refine rs2 ?_ ?_ | refine rs1 ?_)
  | (refine run_retx rfl ?_))
 all_goals rfl

/-! A world is marked. -/
def markRt (r : Rt) (k : Int) : Rt := ⟨r.num, markI r.keys k, r.need⟩
theorem markRoot_ok (r : Rt) (k : Int) (h0 : 0 ≤ k) (hk : k + r.keys.length ≤ 1099511627776) : FunOk PP W n_l_markRoot s_l_markRoot_X [eRt r, i64 k] [i64 (k + r.keys.length), eRt (markRt r k)] := by
 refine F_l_markRoot_X (run_fun ?_)
 (repeat' first
  | (refine run_ite rfl (fun h => ?_) (fun h => ?_) <;> (try simp (disch := omega) only [zA, z13, z19, z20, z21, z22, z23, z24, z25, z31, eqDs, eqD, Nat.reduceAdd, wrap64] at h) <;> (try (exfalso; omega)))
  | (refine run_need rfl (by (try simp (disch := omega) only [zA, z13, z19, z20, z21, z22, z23, z24, z25, z31, eqDs, eqD, Nat.reduceAdd, wrap64]); first | exact elp_m (by omega) (by first | omega | (simp only [List.length_set]; omega)) (fun _ => rfl) | exact eld_m (by omega) (by first | omega | (simp only [List.length_set]; omega)) (fun _ => rfl) | exact els_m (by omega) (by omega) (by omega) rfl | exact lsl_m (by omega) (fun _ => rfl) | exact app_nil_m (by omega) (fun _ => rfl) (fun _ => rfl) | exact app_m_one (by omega) (fun _ => rfl) rfl rfl | exact app_m_m (by omega) (fun _ => rfl) (fun _ => rfl)) ?_)
  | (refine run_need rfl (by first | decide | omega | (simp only [List.length_map]; omega)) ?_)
  | (refine run_io rfl rfl (markIntS_ok r.keys k h0 hk) rfl rfl rfl rfl ?_)
  | (refine run_need rfl ?_ ?_)
  | (refine run_ret rfl ?_ ; first | refine rb ?_ | refine ri ?_ | refine rs2 ?_ ?_ | refine rs1 ?_)
  | (refine run_retx rfl ?_))
 all_goals rfl
theorem heldRoot_ok (r : Rt) (k : Int) (h0 : 0 ≤ k) (hk : k + r.keys.length ≤ 1099511627776) (hh : HdI r.keys k) : FunOk PP W n_l_heldRoot s_l_heldRoot [eRt r, i64 k] [i64 (k + r.keys.length)] := by
 refine F_l_heldRoot (run_fun ?_)
 (repeat' first
  | (refine run_ite rfl (fun h => ?_) (fun h => ?_) <;> (try simp (disch := omega) only [zA, z13, z19, z20, z21, z22, z23, z24, z25, z31, eqDs, eqD, Nat.reduceAdd, wrap64] at h) <;> (try (exfalso; omega)))
  | (refine run_need rfl (by (try simp (disch := omega) only [zA, z13, z19, z20, z21, z22, z23, z24, z25, z31, eqDs, eqD, Nat.reduceAdd, wrap64]); first | exact elp_m (by omega) (by first | omega | (simp only [List.length_set]; omega)) (fun _ => rfl) | exact eld_m (by omega) (by first | omega | (simp only [List.length_set]; omega)) (fun _ => rfl) | exact els_m (by omega) (by omega) (by omega) rfl | exact lsl_m (by omega) (fun _ => rfl) | exact app_nil_m (by omega) (fun _ => rfl) (fun _ => rfl) | exact app_m_one (by omega) (fun _ => rfl) rfl rfl | exact app_m_m (by omega) (fun _ => rfl) (fun _ => rfl)) ?_)
  | (refine run_need rfl (by first | decide | omega | (simp only [List.length_map]; omega)) ?_)
  | (refine run_call1 rfl (heldIntS_ok r.keys k h0 hk hh) rfl ?_)
  | (refine run_need rfl ?_ ?_)
  | (refine run_ret rfl ?_ ; first | refine rb ?_ | refine ri ?_ | refine rs2 ?_ ?_ | refine rs1 ?_)
  | (refine run_retx rfl ?_))
 all_goals rfl
theorem markTrust_ok (r : Rt) (k : Int) (h0 : 0 ≤ k) (hk : k + r.keys.length ≤ 1099511627776) : FunOk PP W n_l_markTrust s_l_markTrust_X [eTr r, i64 k] [i64 (k + r.keys.length), eTr (markRt r k)] := by
 refine F_l_markTrust_X (run_fun ?_)
 (repeat' first
  | (refine run_ite rfl (fun h => ?_) (fun h => ?_) <;> (try simp (disch := omega) only [zA, z13, z19, z20, z21, z22, z23, z24, z25, z31, eqDs, eqD, Nat.reduceAdd, wrap64] at h) <;> (try (exfalso; omega)))
  | (refine run_need rfl (by (try simp (disch := omega) only [zA, z13, z19, z20, z21, z22, z23, z24, z25, z31, eqDs, eqD, Nat.reduceAdd, wrap64]); first | exact elp_m (by omega) (by first | omega | (simp only [List.length_set]; omega)) (fun _ => rfl) | exact eld_m (by omega) (by first | omega | (simp only [List.length_set]; omega)) (fun _ => rfl) | exact els_m (by omega) (by omega) (by omega) rfl | exact lsl_m (by omega) (fun _ => rfl) | exact app_nil_m (by omega) (fun _ => rfl) (fun _ => rfl) | exact app_m_one (by omega) (fun _ => rfl) rfl rfl | exact app_m_m (by omega) (fun _ => rfl) (fun _ => rfl)) ?_)
  | (refine run_need rfl (by first | decide | omega | (simp only [List.length_map]; omega)) ?_)
  | (refine run_io rfl rfl (markRoot_ok r k h0 hk) rfl rfl rfl rfl ?_)
  | (refine run_io rfl rfl (markIndex_nil (k + r.keys.length)) rfl rfl rfl rfl ?_)
  | (refine run_need rfl ?_ ?_)
  | (refine run_ret rfl ?_ ; first | refine rb ?_ | refine ri ?_ | refine rs2 ?_ ?_ | refine rs1 ?_)
  | (refine run_retx rfl ?_))
 all_goals rfl
theorem heldTrust_ok (r : Rt) (k : Int) (h0 : 0 ≤ k) (hk : k + r.keys.length ≤ 1099511627776) (hh : HdI r.keys k) : FunOk PP W n_l_heldTrust s_l_heldTrust [eTr r, i64 k] [i64 (k + r.keys.length)] := by
 refine F_l_heldTrust (run_fun ?_)
 (repeat' first
  | (refine run_ite rfl (fun h => ?_) (fun h => ?_) <;> (try simp (disch := omega) only [zA, z13, z19, z20, z21, z22, z23, z24, z25, z31, eqDs, eqD, Nat.reduceAdd, wrap64] at h) <;> (try (exfalso; omega)))
  | (refine run_need rfl (by (try simp (disch := omega) only [zA, z13, z19, z20, z21, z22, z23, z24, z25, z31, eqDs, eqD, Nat.reduceAdd, wrap64]); first | exact elp_m (by omega) (by first | omega | (simp only [List.length_set]; omega)) (fun _ => rfl) | exact eld_m (by omega) (by first | omega | (simp only [List.length_set]; omega)) (fun _ => rfl) | exact els_m (by omega) (by omega) (by omega) rfl | exact lsl_m (by omega) (fun _ => rfl) | exact app_nil_m (by omega) (fun _ => rfl) (fun _ => rfl) | exact app_m_one (by omega) (fun _ => rfl) rfl rfl | exact app_m_m (by omega) (fun _ => rfl) (fun _ => rfl)) ?_)
  | (refine run_need rfl (by first | decide | omega | (simp only [List.length_map]; omega)) ?_)
  | (refine run_call1 rfl (heldRoot_ok r k h0 hk hh) rfl ?_)
  | (refine run_call1 rfl (heldIndex_nil (k + r.keys.length) (by omega)) rfl ?_)
  | (refine run_need rfl ?_ ?_)
  | (refine run_ret rfl ?_ ; first | refine rb ?_ | refine ri ?_ | refine rs2 ?_ ?_ | refine rs1 ?_)
  | (refine run_retx rfl ?_))
 all_goals rfl
def cntW (w : Wn) : Int := cntRs w.roots + w.bad.length + w.tr.keys.length + cntDk w.dk
def markW (w : Wn) (k : Int) : Wn := ⟨markRs w.roots k, markI w.bad (k + cntRs w.roots), markRt w.tr (k + cntRs w.roots + w.bad.length), markD w.dk (k + cntRs w.roots + w.bad.length + w.tr.keys.length)⟩
theorem cntDk_nn' (d : Dk) : 0 ≤ cntDk d := by have := cntPs_nn d.db; have := cntPs_nn d.jour; unfold cntDk; omega
theorem markPks_nil (k : Int) (h0 : 0 ≤ k) (hk : k ≤ 1099511627776) : FunOk PP W n_l_markPkgS s_l_markPkgS_X [[.sl []], i64 k] [i64 k, [.sl []]] := by
 have h : FunOk PP W n_l_markPkgS s_l_markPkgS_X [ePks [], i64 k] [i64 k, ePks []] := by
  have := markPkgS_ok (W := W) [] k h0 (by simp [cntPs, sumF]; omega)
  simpa [cntPs, sumF, markPs] using this
 exact h
theorem heldPks_nil (k : Int) (h0 : 0 ≤ k) (hk : k ≤ 1099511627776) : FunOk PP W n_l_heldPkgS s_l_heldPkgS [[.sl []], i64 k] [i64 k] := by
 have h : FunOk PP W n_l_heldPkgS s_l_heldPkgS [ePks [], i64 k] [i64 k] := by
  have := heldPkgS_ok (W := W) [] k h0 (by simp [cntPs, sumF]; omega) (blw_zero _)
  simpa [cntPs, sumF] using this
 exact h
theorem markWorld_ok (w : Wn) (k : Int) (h0 : 0 ≤ k) (hk : k + cntW w ≤ 1099511627776) : FunOk PP W n_l_markWorld s_l_markWorld_X [eWn w, i64 k] [i64 (k + cntW w), eWn (markW w k)] := by
 refine F_l_markWorld_X (run_fun ?_)
 unfold cntW at hk ⊢
 have n1 := cntRs_nn w.roots
 have n2 := cntDk_nn' w.dk
 (repeat' first
  | (refine run_ite rfl (fun h => ?_) (fun h => ?_) <;> (try simp (disch := omega) only [zA, z13, z19, z20, z21, z22, z23, z24, z25, z31, eqDs, eqD, Nat.reduceAdd, wrap64] at h) <;> (try (exfalso; omega)))
  | (refine run_need rfl (by (try simp (disch := omega) only [zA, z13, z19, z20, z21, z22, z23, z24, z25, z31, eqDs, eqD, Nat.reduceAdd, wrap64]); first | exact elp_m (by omega) (by first | omega | (simp only [List.length_set]; omega)) (fun _ => rfl) | exact eld_m (by omega) (by first | omega | (simp only [List.length_set]; omega)) (fun _ => rfl) | exact els_m (by omega) (by omega) (by omega) rfl | exact lsl_m (by omega) (fun _ => rfl) | exact app_nil_m (by omega) (fun _ => rfl) (fun _ => rfl) | exact app_m_one (by omega) (fun _ => rfl) rfl rfl | exact app_m_m (by omega) (fun _ => rfl) (fun _ => rfl)) ?_)
  | (refine run_need rfl (by first | decide | omega | (simp only [List.length_map]; omega)) ?_)
  | (refine run_io rfl rfl (markSigRootS_ok w.roots k h0 (by omega)) rfl rfl rfl rfl ?_)
  | (refine run_io rfl rfl (markSigIndexS_nil [] _ rfl) rfl rfl rfl rfl ?_)
  | (refine run_io rfl rfl (markPks_nil _ (by omega) (by omega)) rfl rfl rfl rfl ?_)
  | (refine run_io rfl rfl (markIntS_ok w.bad (k + cntRs w.roots) (by omega) (by omega)) rfl rfl rfl rfl ?_)
  | (refine run_io rfl rfl (markTrust_ok w.tr (k + cntRs w.roots + w.bad.length) (by omega) (by omega)) rfl rfl rfl rfl ?_)
  | (refine run_io rfl rfl (markDisk_ok w.dk (k + cntRs w.roots + w.bad.length + w.tr.keys.length) (by omega) (by omega)) rfl rfl rfl rfl ?_)
  | (refine run_need rfl ?_ ?_)
  | (refine run_ret rfl ?_ ; first | refine rb ?_ | refine ri ?_ | refine rs2 ?_ ?_ | refine rs1 ?_)
  | (refine run_retx rfl ?_))
 ·exact i64_eq (by omega)
 ·rfl
theorem heldWorld_mark (w : Wn) (k : Int) (h0 : 0 ≤ k) (hk : k + cntW w ≤ 1099511627776) : FunOk PP W n_l_heldWorld s_l_heldWorld [eWn (markW w k), i64 k] [i64 (k + cntW w)] := by
 refine F_l_heldWorld (run_fun ?_)
 unfold cntW at hk ⊢
 have n1 := cntRs_nn w.roots
 have n2 := cntDk_nn' w.dk
 have f1 := heldSigRootS_ok (W := W) (markRs w.roots k) k h0 (by rw [cntRs_mark']; omega) (hdRs_mark _ _)
 have f2 := heldIntS_ok (W := W) (markI w.bad (k + cntRs w.roots)) (k + cntRs w.roots) (by omega) (by rw [markI_len]; omega) (hdI_mark _ _)
 have f3 := heldTrust_ok (W := W) (markRt w.tr (k + cntRs w.roots + w.bad.length)) (k + cntRs w.roots + w.bad.length) (by omega) (by unfold markRt; rw [markI_len]; omega) (hdI_mark _ _)
 have f4 := heldDisk_ok (W := W) (markD w.dk (k + cntRs w.roots + w.bad.length + w.tr.keys.length)) (k + cntRs w.roots + w.bad.length + w.tr.keys.length) (by omega) (by rw [cntDk_mark]; omega) (hdD_mark _ _)
 rw [cntRs_mark'] at f1
 rw [markI_len] at f2
 rw [cntDk_mark] at f4
 have e3 : (markRt w.tr (k + cntRs w.roots + w.bad.length)).keys.length = w.tr.keys.length := markI_len _ _
 rw [e3] at f3
 (repeat' first
  | (refine run_ite rfl (fun h => ?_) (fun h => ?_) <;> (try simp (disch := omega) only [zA, z13, z19, z20, z21, z22, z23, z24, z25, z31, eqDs, eqD, Nat.reduceAdd, wrap64] at h) <;> (try (exfalso; omega)))
  | (refine run_need rfl (by (try simp (disch := omega) only [zA, z13, z19, z20, z21, z22, z23, z24, z25, z31, eqDs, eqD, Nat.reduceAdd, wrap64]); first | exact elp_m (by omega) (by first | omega | (simp only [List.length_set]; omega)) (fun _ => rfl) | exact eld_m (by omega) (by first | omega | (simp only [List.length_set]; omega)) (fun _ => rfl) | exact els_m (by omega) (by omega) (by omega) rfl | exact lsl_m (by omega) (fun _ => rfl) | exact app_nil_m (by omega) (fun _ => rfl) (fun _ => rfl) | exact app_m_one (by omega) (fun _ => rfl) rfl rfl | exact app_m_m (by omega) (fun _ => rfl) (fun _ => rfl)) ?_)
  | (refine run_need rfl (by first | decide | omega | (simp only [List.length_map]; omega)) ?_)
  | (refine run_call1 rfl (f1) rfl ?_)
  | (refine run_call1 rfl (f2) rfl ?_)
  | (refine run_call1 rfl (f3) rfl ?_)
  | (refine run_call1 rfl (f4) rfl ?_)
  | (refine run_call1 rfl (heldSigIndexS_nil [] _ rfl) rfl ?_)
  | (refine run_call1 rfl (heldPks_nil _ (by omega) (by omega)) rfl ?_)
  | (refine run_need rfl ?_ ?_)
  | (refine run_ret rfl ?_ ; first | refine rb ?_ | refine ri ?_ | refine rs2 ?_ ?_ | refine rs1 ?_)
  | (refine run_retx rfl ?_))
 omega
end V
end Go.Proofs.Ytgialjcichiaoaa

/-
The law FnExactWorldNew, in plain terms: it answers true whatever comes in.
-/
namespace Go.Proofs.Ytgialjcichiaoaa
namespace V
open Classical
set_option maxRecDepth 100000
variable {W : Wld}

theorem szRoot_ok (r : Rt) (left : Int) (h : 0 ≤ left ∧ left ≤ 1048576) (hb : (r.keys.length : Int) ≤ mx) : FunOk PP W n_l_szRoot s_l_szRoot [eRt r, i64 left] [i64 (less left r.keys.length)] := by
 refine F_l_szRoot (run_fun ?_)
 have f1 := szIntS_ok (W := W) r.keys left h hb
 by_cases c1 : left < r.keys.length
 ·rw [less_lt c1] at f1 ⊢
  (repeat' first
  | (refine run_ite rfl (fun h => ?_) (fun h => ?_) <;> (try simp (disch := omega) only [zA, z13, z19, z20, z21, z22, z23, z24, z25, z31, eqDs, eqD, Nat.reduceAdd, wrap64] at h) <;> (try (exfalso; omega)))
  | (refine run_need rfl (by (try simp (disch := omega) only [zA, z13, z19, z20, z21, z22, z23, z24, z25, z31, eqDs, eqD, Nat.reduceAdd, wrap64]); first | exact elp_m (by omega) (by first | omega | (simp only [List.length_set]; omega)) (fun _ => rfl) | exact eld_m (by omega) (by first | omega | (simp only [List.length_set]; omega)) (fun _ => rfl) | exact els_m (by omega) (by omega) (by omega) rfl | exact lsl_m (by omega) (fun _ => rfl) | exact app_nil_m (by omega) (fun _ => rfl) (fun _ => rfl) | exact app_m_one (by omega) (fun _ => rfl) rfl rfl | exact app_m_m (by omega) (fun _ => rfl) (fun _ => rfl)) ?_)
  | (refine run_need rfl (by first | decide | omega | (simp only [List.length_map]; omega)) ?_)
  | (refine run_call1 rfl (f1) rfl ?_)
  | (refine run_need rfl ?_ ?_)
  | (refine run_ret rfl ?_ ; first | refine rb ?_ | refine ri ?_ | refine rs2 ?_ ?_ | refine rs1 ?_)
  | (refine run_retx rfl ?_))
  rfl
 ·rw [less_ge (by omega)] at f1 ⊢
  (repeat' first
  | (refine run_ite rfl (fun h => ?_) (fun h => ?_) <;> (try simp (disch := omega) only [zA, z13, z19, z20, z21, z22, z23, z24, z25, z31, eqDs, eqD, Nat.reduceAdd, wrap64] at h) <;> (try (exfalso; omega)))
  | (refine run_need rfl (by (try simp (disch := omega) only [zA, z13, z19, z20, z21, z22, z23, z24, z25, z31, eqDs, eqD, Nat.reduceAdd, wrap64]); first | exact elp_m (by omega) (by first | omega | (simp only [List.length_set]; omega)) (fun _ => rfl) | exact eld_m (by omega) (by first | omega | (simp only [List.length_set]; omega)) (fun _ => rfl) | exact els_m (by omega) (by omega) (by omega) rfl | exact lsl_m (by omega) (fun _ => rfl) | exact app_nil_m (by omega) (fun _ => rfl) (fun _ => rfl) | exact app_m_one (by omega) (fun _ => rfl) rfl rfl | exact app_m_m (by omega) (fun _ => rfl) (fun _ => rfl)) ?_)
  | (refine run_need rfl (by first | decide | omega | (simp only [List.length_map]; omega)) ?_)
  | (refine run_call1 rfl (f1) rfl ?_)
  | (refine run_need rfl ?_ ?_)
  | (refine run_ret rfl ?_ ; first | refine rb ?_ | refine ri ?_ | refine rs2 ?_ ?_ | refine rs1 ?_)
  | (refine run_retx rfl ?_))
  rfl
theorem toRoot_X (r : Rt) (hl : r.keys.length ≤ lim) : FunOk PP W n_l_toRoot s_l_toRoot_X [eRt r] [eRt r] := by
 refine F_l_toRoot_X (run_fun ?_)
 (repeat' first
  | (refine run_ite rfl (fun h => ?_) (fun h => ?_) <;> (try simp (disch := omega) only [zA, z13, z19, z20, z21, z22, z23, z24, z25, z31, eqDs, eqD, Nat.reduceAdd, wrap64] at h) <;> (try (exfalso; omega)))
  | (refine run_need rfl (by (try simp (disch := omega) only [zA, z13, z19, z20, z21, z22, z23, z24, z25, z31, eqDs, eqD, Nat.reduceAdd, wrap64]); first | exact elp_m (by omega) (by first | omega | (simp only [List.length_set]; omega)) (fun _ => rfl) | exact eld_m (by omega) (by first | omega | (simp only [List.length_set]; omega)) (fun _ => rfl) | exact els_m (by omega) (by omega) (by omega) rfl | exact lsl_m (by omega) (fun _ => rfl) | exact app_nil_m (by omega) (fun _ => rfl) (fun _ => rfl) | exact app_m_one (by omega) (fun _ => rfl) rfl rfl | exact app_m_m (by omega) (fun _ => rfl) (fun _ => rfl)) ?_)
  | (refine run_need rfl (by first | decide | omega | (simp only [List.length_map]; omega)) ?_)
  | (refine run_call1 rfl (toIntS_X r.keys hl) rfl ?_)
  | (refine run_need rfl ?_ ?_)
  | (refine run_ret rfl ?_ ; first | refine rb ?_ | refine ri ?_ | refine rs2 ?_ ?_ | refine rs1 ?_)
  | (refine run_retx rfl ?_))
 rfl
theorem smD_0 : SmD dk0 := ⟨smPs_nil, by unfold lim; simp [dk0], smPs_nil⟩
theorem smD_Z : SmD dkZ := ⟨smPs_nil, by unfold lim; simp [dkZ], smPs_nil⟩
theorem smW_new {r : Rt} {bad : List Int} (ha : r.keys.length ≤ 1048576) (hb : bad.length ≤ 1048576) : SmW (newM r bad) := by
 unfold newM
 split
 ·refine ⟨⟨by unfold lim; simp, fun s hs => ?_⟩, by unfold lim; simp only; omega, by unfold lim; simp only; omega, smD_0⟩
  rw [List.mem_singleton.1 hs]
  exact ⟨by unfold lim; simp only; omega, by unfold lim; simp only; omega⟩
 ·exact ⟨⟨by unfold lim; simp [wnZ], fun s hs => by cases hs⟩, by unfold lim; simp [wnZ], by unfold lim; simp [wnZ, rtZ], smD_Z⟩
theorem cntW_new {r : Rt} {bad : List Int} (ha : r.keys.length ≤ 1048576) (hb : bad.length ≤ 1048576) : 0 ≤ cntW (newM r bad) ∧ cntW (newM r bad) ≤ 10000000 := by
 unfold newM
 split
 ·simp only [cntW, cntRs, sumF, List.map_cons, List.map_nil, List.sum_cons, List.sum_nil, cntR, cntDk, cntPs, dk0, List.length_replicate]
  omega
 ·simp only [cntW, cntRs, sumF, List.map_nil, List.sum_nil, cntDk, cntPs, wnZ, rtZ, dkZ, List.length_nil]
  omega

set_option maxHeartbeats 4000000 in
theorem exactWorldNew_ok (r : Rt) (bad : List Int) (hr : (r.keys.length : Int) ≤ mx) (hb : (bad.length : Int) ≤ mx) : FunOk PP W n_l_FnExactWorldNew s_l_FnExactWorldNew_X [eRt r, eIs bad] [bo true] := by
 refine F_l_FnExactWorldNew_X (run_fun ?_)
 have f1 := szRoot_ok (W := W) r 1048576 (by omega) hr
 by_cases c0 : (bad.length : Int) ≤ 1048576
 rotate_left
 ·(repeat' first
  | (refine run_ite rfl (fun h => ?_) (fun h => ?_) <;> (try simp (disch := omega) only [zA, z13, z19, z20, z21, z22, z23, z24, z25, z31, eqDs, eqD, Nat.reduceAdd, wrap64] at h) <;> (try (exfalso; omega)))
  | (refine run_need rfl (by (try simp (disch := omega) only [zA, z13, z19, z20, z21, z22, z23, z24, z25, z31, eqDs, eqD, Nat.reduceAdd, wrap64]); first | exact elp_m (by omega) (by first | omega | (simp only [List.length_set]; omega)) (fun _ => rfl) | exact eld_m (by omega) (by first | omega | (simp only [List.length_set]; omega)) (fun _ => rfl) | exact els_m (by omega) (by omega) (by omega) rfl | exact lsl_m (by omega) (fun _ => rfl) | exact app_nil_m (by omega) (fun _ => rfl) (fun _ => rfl) | exact app_m_one (by omega) (fun _ => rfl) rfl rfl | exact app_m_m (by omega) (fun _ => rfl) (fun _ => rfl)) ?_)
  | (refine run_need rfl (by first | decide | omega | (simp only [List.length_map]; omega)) ?_)
  | (refine run_need rfl ?_ ?_)
  | (refine run_ret rfl ?_ ; first | refine rb ?_ | refine ri ?_ | refine rs2 ?_ ?_ | refine rs1 ?_)
  | (refine run_retx rfl ?_))
  rfl
 by_cases c1 : 1048576 < (r.keys.length : Int)
 ·rw [less_lt c1] at f1
  (repeat' first
  | (refine run_ite rfl (fun h => ?_) (fun h => ?_) <;> (try simp (disch := omega) only [zA, z13, z19, z20, z21, z22, z23, z24, z25, z31, eqDs, eqD, Nat.reduceAdd, wrap64] at h) <;> (try (exfalso; omega)))
  | (refine run_need rfl (by (try simp (disch := omega) only [zA, z13, z19, z20, z21, z22, z23, z24, z25, z31, eqDs, eqD, Nat.reduceAdd, wrap64]); first | exact elp_m (by omega) (by first | omega | (simp only [List.length_set]; omega)) (fun _ => rfl) | exact eld_m (by omega) (by first | omega | (simp only [List.length_set]; omega)) (fun _ => rfl) | exact els_m (by omega) (by omega) (by omega) rfl | exact lsl_m (by omega) (fun _ => rfl) | exact app_nil_m (by omega) (fun _ => rfl) (fun _ => rfl) | exact app_m_one (by omega) (fun _ => rfl) rfl rfl | exact app_m_m (by omega) (fun _ => rfl) (fun _ => rfl)) ?_)
  | (refine run_need rfl (by first | decide | omega | (simp only [List.length_map]; omega)) ?_)
  | (refine run_call1 rfl (f1) rfl ?_)
  | (refine run_need rfl ?_ ?_)
  | (refine run_ret rfl ?_ ; first | refine rb ?_ | refine ri ?_ | refine rs2 ?_ ?_ | refine rs1 ?_)
  | (refine run_retx rfl ?_))
  rfl
 rw [less_ge (by omega)] at f1
 have ha' : r.keys.length ≤ 1048576 := by omega
 have hb' : bad.length ≤ 1048576 := by omega
 have la : r.keys.length ≤ lim := by unfold lim; omega
 have lb : bad.length ≤ lim := by unfold lim; omega
 have g1 := sWorldNew_ok (W := W) r bad ha' hb'
 have g2 := iWorldNew_X (W := W) r bad ha' hb'
 have hS := smW_new (r := r) (bad := bad) ha' hb'
 have hC := cntW_new (r := r) (bad := bad) ha' hb'
 generalize decide (NewOk r bad) = b at g1 g2
 generalize newM r bad = R at *
 have e1 := eqWorld_self (W := W) R hS
 have e2 := eqRoot_self (W := W) r la
 have e3 := eqIntS_self (W := W) bad lb
 have m1 := markRoot_ok (W := W) r 1 (by omega) (by omega)
 have m2 := markIntS_ok (W := W) bad (1 + r.keys.length) (by omega) (by omega)
 have m3 := markWorld_ok (W := W) R 1 (by omega) (by omega)
 have q1 := heldWorld_mark (W := W) R 1 (by omega) (by omega)
 cases b
 all_goals
  (repeat' first
  | (refine run_ite rfl (fun h => ?_) (fun h => ?_) <;> (try simp (disch := omega) only [zA, z13, z19, z20, z21, z22, z23, z24, z25, z31, eqDs, eqD, Nat.reduceAdd, wrap64] at h) <;> (try (exfalso; omega)))
  | (refine run_need rfl (by (try simp (disch := omega) only [zA, z13, z19, z20, z21, z22, z23, z24, z25, z31, eqDs, eqD, Nat.reduceAdd, wrap64]); first | exact elp_m (by omega) (by first | omega | (simp only [List.length_set]; omega)) (fun _ => rfl) | exact eld_m (by omega) (by first | omega | (simp only [List.length_set]; omega)) (fun _ => rfl) | exact els_m (by omega) (by omega) (by omega) rfl | exact lsl_m (by omega) (fun _ => rfl) | exact app_nil_m (by omega) (fun _ => rfl) (fun _ => rfl) | exact app_m_one (by omega) (fun _ => rfl) rfl rfl | exact app_m_m (by omega) (fun _ => rfl) (fun _ => rfl)) ?_)
  | (refine run_need rfl (by first | decide | omega | (simp only [List.length_map]; omega)) ?_)
  | (refine run_call1 rfl (f1) rfl ?_)
  | (refine run_call1 rfl (toRoot_X r la) rfl ?_)
  | (refine run_call1 rfl (toIntS_X bad lb) rfl ?_)
  | (refine run_call1 rfl (e1) rfl ?_)
  | (refine run_call1 rfl (e2) rfl ?_)
  | (refine run_call1 rfl (e3) rfl ?_)
  | (refine run_call1 rfl (q1) rfl ?_)
  | (refine run_callr rfl g1 rfl rfl ?_)
  | (refine run_callr rfl g2 rfl rfl ?_)
  | (refine run_io rfl rfl m1 rfl rfl rfl rfl ?_)
  | (refine run_io rfl rfl m2 rfl rfl rfl rfl ?_)
  | (refine run_io rfl rfl m3 rfl rfl rfl rfl ?_)
  | (refine run_need rfl ?_ ?_)
  | (refine run_ret rfl ?_ ; first | refine rb ?_ | refine ri ?_ | refine rs2 ?_ ?_ | refine rs1 ?_)
  | (refine run_retx rfl ?_))
  all_goals first | rfl | exact absurd trivial (by assumption)
end V
end Go.Proofs.Ytgialjcichiaoaa

