/-
Part 5 of the proof of the claimed statement (its last part holds the theorem, and says what is proved). Conditions: none.
-/
import Derived.Test.YtgialjcichiaoaaM4
set_option linter.all false
/-
Plain proofs: what the laws measure, compare, mark and find marked: lists of numbers, files, packages.
-/
namespace Go.Proofs.Ytgialjcichiaoaa
namespace V
open Classical
set_option maxRecDepth 100000
variable {W : Wld}

/-! Sums. -/
def sumF {α : Type} (f : α → Int) (xs : List α) : Int := (xs.map f).sum
theorem sumF_take {α : Type} [Inhabited α] (f : α → Int) (xs : List α) {i : Int} (h0 : 0 ≤ i) (h1 : i < xs.length) : sumF f (xs.take (i + 1).toNat) = sumF f (xs.take i.toNat) + f (ix xs i) := by
 rw [take_ix xs h0 h1]
 simp [sumF]
theorem sumF_nn {α : Type} {f : α → Int} (hf : ∀ x, 0 ≤ f x) : ∀ xs : List α, 0 ≤ sumF f xs
 | [] => by simp [sumF]
 | x :: r => by
  have := sumF_nn hf r
  have := hf x
  simp only [sumF, List.map_cons, List.sum_cons] at *
  omega
theorem sumF_le {α : Type} {f : α → Int} (hf : ∀ x, 0 ≤ f x) (xs : List α) (n : Nat) : sumF f (xs.take n) ≤ sumF f xs := by
 have h : sumF f xs = sumF f (xs.take n) + sumF f (xs.drop n) := by
  conv => lhs; rw [← List.take_append_drop n xs]
  simp only [sumF, List.map_append, List.sum_append]
 have := sumF_nn hf (xs.drop n)
 omega
theorem sumF_all {α : Type} (f : α → Int) (xs : List α) {n : Nat} (h : xs.length ≤ n) : sumF f (xs.take n) = sumF f xs := by rw [List.take_of_length_le h]

/-! How much comes in. -/
def mx : Int := 9223372036854775807
def cP (p : Pk) : Int := p.files.length + p.deps.length
def szPs (ps : List Pk) : Int := ps.length + sumF cP ps
theorem cP_nn (p : Pk) : 0 ≤ cP p := by unfold cP; omega
theorem szPs_nn (ps : List Pk) : 0 ≤ szPs ps := by have := sumF_nn cP_nn ps; unfold szPs; omega
def BgP (p : Pk) : Prop := (p.files.length : Int) ≤ mx ∧ (p.deps.length : Int) ≤ mx
def BgPs (ps : List Pk) : Prop := (ps.length : Int) ≤ mx ∧ ∀ p ∈ ps, BgP p
def BgD (d : Dk) : Prop := BgPs d.db ∧ (d.files.length : Int) ≤ mx ∧ BgPs d.jour
def BgSs (l : List Stp) : Prop := (l.length : Int) ≤ mx ∧ ∀ s ∈ l, BgPs s.pkgs
noncomputable def less (left n : Int) : Int := if left < n then -1 else left - n
theorem less_lt {left n : Int} (h : left < n) : less left n = -1 := if_pos h
theorem less_ge {left n : Int} (h : n ≤ left) : less left n = left - n := if_neg (by omega)

theorem szIntS_ok (l : List Int) (left : Int) (h : 0 ≤ left ∧ left ≤ 1048576) (hb : (l.length : Int) ≤ mx) : FunOk PP W n_l_szIntS s_l_szIntS [eIs l, i64 left] [i64 (less left l.length)] := by
 refine F_l_szIntS (run_fun ?_)
 unfold mx at hb
 (repeat' first
  | (refine run_ite rfl (fun h => ?_) (fun h => ?_) <;> (try simp (disch := omega) only [zA, z13, z19, z20, z21, z22, z23, z24, z25, z31, eqDs, eqD, Nat.reduceAdd, wrap64] at h) <;> (try (exfalso; omega)))
  | (refine run_need rfl (by (try simp (disch := omega) only [zA, z13, z19, z20, z21, z22, z23, z24, z25, z31, eqDs, eqD, Nat.reduceAdd, wrap64]); first | exact elp_m (by omega) (by first | omega | (simp only [List.length_set]; omega)) (fun _ => rfl) | exact eld_m (by omega) (by first | omega | (simp only [List.length_set]; omega)) (fun _ => rfl) | exact els_m (by omega) (by omega) (by omega) rfl | exact lsl_m (by omega) (fun _ => rfl) | exact app_nil_m (by omega) (fun _ => rfl) (fun _ => rfl) | exact app_m_one (by omega) (fun _ => rfl) rfl rfl | exact app_m_m (by omega) (fun _ => rfl) (fun _ => rfl)) ?_)
  | (refine run_need rfl (by first | decide | omega | (simp only [List.length_map]; omega)) ?_)
  | (refine run_need rfl ?_ ?_)
  | (refine run_ret rfl ?_ ; first | refine rb ?_ | refine ri ?_ | refine rs2 ?_ ?_ | refine rs1 ?_)
  | (refine run_retx rfl ?_))
 ·rw [less_lt (by omega)]
 ·rw [List.length_map, wrap64 _ (by omega), less_ge (by omega)]

theorem szFileS_ok (l : List P2) (left : Int) (h : 0 ≤ left ∧ left ≤ 1048576) (hb : (l.length : Int) ≤ mx) : FunOk PP W n_l_szFileS s_l_szFileS [eP2s l, i64 left] [i64 (less left l.length)] := by
 refine F_l_szFileS (run_fun ?_)
 unfold mx at hb
 (repeat' first
  | (refine run_ite rfl (fun h => ?_) (fun h => ?_) <;> (try simp (disch := omega) only [zA, z13, z19, z20, z21, z22, z23, z24, z25, z31, eqDs, eqD, Nat.reduceAdd, wrap64] at h) <;> (try (exfalso; omega)))
  | (refine run_need rfl (by (try simp (disch := omega) only [zA, z13, z19, z20, z21, z22, z23, z24, z25, z31, eqDs, eqD, Nat.reduceAdd, wrap64]); first | exact elp_m (by omega) (by first | omega | (simp only [List.length_set]; omega)) (fun _ => rfl) | exact eld_m (by omega) (by first | omega | (simp only [List.length_set]; omega)) (fun _ => rfl) | exact els_m (by omega) (by omega) (by omega) rfl | exact lsl_m (by omega) (fun _ => rfl) | exact app_nil_m (by omega) (fun _ => rfl) (fun _ => rfl) | exact app_m_one (by omega) (fun _ => rfl) rfl rfl | exact app_m_m (by omega) (fun _ => rfl) (fun _ => rfl)) ?_)
  | (refine run_need rfl (by first | decide | omega | (simp only [List.length_map]; omega)) ?_)
  | (refine run_need rfl ?_ ?_)
  | (refine run_ret rfl ?_ ; first | refine rb ?_ | refine ri ?_ | refine rs2 ?_ ?_ | refine rs1 ?_)
  | (refine run_retx rfl ?_))
 ·rw [less_lt (by omega)]
 ·rw [List.length_map, wrap64 _ (by omega), less_ge (by omega)]

theorem szDepS_ok (l : List P2) (left : Int) (h : 0 ≤ left ∧ left ≤ 1048576) (hb : (l.length : Int) ≤ mx) : FunOk PP W n_l_szDepS s_l_szDepS [eP2s l, i64 left] [i64 (less left l.length)] := by
 refine F_l_szDepS (run_fun ?_)
 unfold mx at hb
 (repeat' first
  | (refine run_ite rfl (fun h => ?_) (fun h => ?_) <;> (try simp (disch := omega) only [zA, z13, z19, z20, z21, z22, z23, z24, z25, z31, eqDs, eqD, Nat.reduceAdd, wrap64] at h) <;> (try (exfalso; omega)))
  | (refine run_need rfl (by (try simp (disch := omega) only [zA, z13, z19, z20, z21, z22, z23, z24, z25, z31, eqDs, eqD, Nat.reduceAdd, wrap64]); first | exact elp_m (by omega) (by first | omega | (simp only [List.length_set]; omega)) (fun _ => rfl) | exact eld_m (by omega) (by first | omega | (simp only [List.length_set]; omega)) (fun _ => rfl) | exact els_m (by omega) (by omega) (by omega) rfl | exact lsl_m (by omega) (fun _ => rfl) | exact app_nil_m (by omega) (fun _ => rfl) (fun _ => rfl) | exact app_m_one (by omega) (fun _ => rfl) rfl rfl | exact app_m_m (by omega) (fun _ => rfl) (fun _ => rfl)) ?_)
  | (refine run_need rfl (by first | decide | omega | (simp only [List.length_map]; omega)) ?_)
  | (refine run_need rfl ?_ ?_)
  | (refine run_ret rfl ?_ ; first | refine rb ?_ | refine ri ?_ | refine rs2 ?_ ?_ | refine rs1 ?_)
  | (refine run_retx rfl ?_))
 ·rw [less_lt (by omega)]
 ·rw [List.length_map, wrap64 _ (by omega), less_ge (by omega)]

theorem szPkg_ok (p : Pk) (left : Int) (h : 0 ≤ left ∧ left ≤ 1048576) (hb : BgP p) : FunOk PP W n_l_szPkg s_l_szPkg [ePk p, i64 left] [i64 (less left (cP p))] := by
 refine F_l_szPkg (run_fun ?_)
 obtain ⟨b1, b2⟩ := hb
 unfold cP
 have f1 := szFileS_ok (W := W) p.files left h b1
 by_cases c1 : left < p.files.length
 ·rw [less_lt c1] at f1
  (repeat' first
  | (refine run_ite rfl (fun h => ?_) (fun h => ?_) <;> (try simp (disch := omega) only [zA, z13, z19, z20, z21, z22, z23, z24, z25, z31, eqDs, eqD, Nat.reduceAdd, wrap64] at h) <;> (try (exfalso; omega)))
  | (refine run_need rfl (by (try simp (disch := omega) only [zA, z13, z19, z20, z21, z22, z23, z24, z25, z31, eqDs, eqD, Nat.reduceAdd, wrap64]); first | exact elp_m (by omega) (by first | omega | (simp only [List.length_set]; omega)) (fun _ => rfl) | exact eld_m (by omega) (by first | omega | (simp only [List.length_set]; omega)) (fun _ => rfl) | exact els_m (by omega) (by omega) (by omega) rfl | exact lsl_m (by omega) (fun _ => rfl) | exact app_nil_m (by omega) (fun _ => rfl) (fun _ => rfl) | exact app_m_one (by omega) (fun _ => rfl) rfl rfl | exact app_m_m (by omega) (fun _ => rfl) (fun _ => rfl)) ?_)
  | (refine run_need rfl (by first | decide | omega | (simp only [List.length_map]; omega)) ?_)
  | (refine run_call1 rfl (f1) rfl ?_)
  | (refine run_need rfl ?_ ?_)
  | (refine run_ret rfl ?_ ; first | refine rb ?_ | refine ri ?_ | refine rs2 ?_ ?_ | refine rs1 ?_)
  | (refine run_retx rfl ?_))
  rw [less_lt (by omega)]
 ·rw [less_ge (by omega)] at f1
  have f2 := szDepS_ok (W := W) p.deps (left - p.files.length) (by omega) b2
  by_cases c2 : left - p.files.length < p.deps.length
  ·rw [less_lt c2] at f2
   (repeat' first
  | (refine run_ite rfl (fun h => ?_) (fun h => ?_) <;> (try simp (disch := omega) only [zA, z13, z19, z20, z21, z22, z23, z24, z25, z31, eqDs, eqD, Nat.reduceAdd, wrap64] at h) <;> (try (exfalso; omega)))
  | (refine run_need rfl (by (try simp (disch := omega) only [zA, z13, z19, z20, z21, z22, z23, z24, z25, z31, eqDs, eqD, Nat.reduceAdd, wrap64]); first | exact elp_m (by omega) (by first | omega | (simp only [List.length_set]; omega)) (fun _ => rfl) | exact eld_m (by omega) (by first | omega | (simp only [List.length_set]; omega)) (fun _ => rfl) | exact els_m (by omega) (by omega) (by omega) rfl | exact lsl_m (by omega) (fun _ => rfl) | exact app_nil_m (by omega) (fun _ => rfl) (fun _ => rfl) | exact app_m_one (by omega) (fun _ => rfl) rfl rfl | exact app_m_m (by omega) (fun _ => rfl) (fun _ => rfl)) ?_)
  | (refine run_need rfl (by first | decide | omega | (simp only [List.length_map]; omega)) ?_)
  | (refine run_call1 rfl (f1) rfl ?_)
  | (refine run_call1 rfl (f2) rfl ?_)
  | (refine run_need rfl ?_ ?_)
  | (refine run_ret rfl ?_ ; first | refine rb ?_ | refine ri ?_ | refine rs2 ?_ ?_ | refine rs1 ?_)
  | (refine run_retx rfl ?_))
   rw [less_lt (by omega)]
  ·rw [less_ge (by omega)] at f2
   (repeat' first
  | (refine run_ite rfl (fun h => ?_) (fun h => ?_) <;> (try simp (disch := omega) only [zA, z13, z19, z20, z21, z22, z23, z24, z25, z31, eqDs, eqD, Nat.reduceAdd, wrap64] at h) <;> (try (exfalso; omega)))
  | (refine run_need rfl (by (try simp (disch := omega) only [zA, z13, z19, z20, z21, z22, z23, z24, z25, z31, eqDs, eqD, Nat.reduceAdd, wrap64]); first | exact elp_m (by omega) (by first | omega | (simp only [List.length_set]; omega)) (fun _ => rfl) | exact eld_m (by omega) (by first | omega | (simp only [List.length_set]; omega)) (fun _ => rfl) | exact els_m (by omega) (by omega) (by omega) rfl | exact lsl_m (by omega) (fun _ => rfl) | exact app_nil_m (by omega) (fun _ => rfl) (fun _ => rfl) | exact app_m_one (by omega) (fun _ => rfl) rfl rfl | exact app_m_m (by omega) (fun _ => rfl) (fun _ => rfl)) ?_)
  | (refine run_need rfl (by first | decide | omega | (simp only [List.length_map]; omega)) ?_)
  | (refine run_call1 rfl (f1) rfl ?_)
  | (refine run_call1 rfl (f2) rfl ?_)
  | (refine run_need rfl ?_ ?_)
  | (refine run_ret rfl ?_ ; first | refine rb ?_ | refine ri ?_ | refine rs2 ?_ ?_ | refine rs1 ?_)
  | (refine run_retx rfl ?_))
   rw [less_ge (by omega)]; omega

theorem szPkgS_ok (l : List Pk) (left : Int) (h : 0 ≤ left ∧ left ≤ 1048576) (hb : BgPs l) : FunOk PP W n_l_szPkgS s_l_szPkgS [ePks l, i64 left] [i64 (less left (szPs l))] := by
 refine F_l_szPkgS (run_fun ?_)
 obtain ⟨b1, b2⟩ := hb
 unfold mx at b1
 have hnn := sumF_nn cP_nn l
 (repeat' first
  | (refine run_ite rfl (fun h => ?_) (fun h => ?_) <;> (try simp (disch := omega) only [zA, z13, z19, z20, z21, z22, z23, z24, z25, z31, eqDs, eqD, Nat.reduceAdd, wrap64] at h) <;> (try (exfalso; omega)))
  | (refine run_need rfl (by (try simp (disch := omega) only [zA, z13, z19, z20, z21, z22, z23, z24, z25, z31, eqDs, eqD, Nat.reduceAdd, wrap64]); first | exact elp_m (by omega) (by first | omega | (simp only [List.length_set]; omega)) (fun _ => rfl) | exact eld_m (by omega) (by first | omega | (simp only [List.length_set]; omega)) (fun _ => rfl) | exact els_m (by omega) (by omega) (by omega) rfl | exact lsl_m (by omega) (fun _ => rfl) | exact app_nil_m (by omega) (fun _ => rfl) (fun _ => rfl) | exact app_m_one (by omega) (fun _ => rfl) rfl rfl | exact app_m_m (by omega) (fun _ => rfl) (fun _ => rfl)) ?_)
  | (refine run_need rfl (by first | decide | omega | (simp only [List.length_map]; omega)) ?_)
  | (refine run_need rfl ?_ ?_)
  | (refine run_ret rfl ?_ ; first | refine rb ?_ | refine ri ?_ | refine rs2 ?_ ?_ | refine rs1 ?_)
  | (refine run_retx rfl ?_))
 ·rw [less_lt (by unfold szPs; omega)]
 rename_i h'
 refine run_loop rfl (fun i : Int => 0 ≤ i ∧ i ≤ l.length ∧ 0 ≤ left - l.length - sumF cP (l.take i.toNat)) (fun i => [(5, .val (i64 i)), (1, .val (i64 (left - l.length - sumF cP (l.take i.toNat)))), (0, .val (ePks l))]) (fun i => (l.length - i).toNat) 0 ⟨by omega, by omega, by simp [sumF]; omega⟩ ⟨rfl, i64_eq (by rw [List.length_map, wrap64 _ (by omega)]; simp [sumF]), rfl, trivial⟩ rfl ?_
 rintro i e ⟨h0, hN, hP⟩
 have hs := sumF_nn cP_nn (l.take i.toNat)
 by_cases hi : i < l.length
 ·have f := szPkg_ok (W := W) (ix l i) (left - l.length - sumF cP (l.take i.toNat)) (by omega) (b2 _ (ix_mem h0 hi))
  have ht := sumF_take cP l h0 hi
  have hle := sumF_le cP_nn l (i + 1).toNat
  have hc := cP_nn (ix l i)
  by_cases c : left - l.length - sumF cP (l.take i.toNat) < cP (ix l i)
  ·rw [less_lt c] at f
   (repeat' first
  | (refine run_ite rfl (fun h => ?_) (fun h => ?_) <;> (try simp (disch := omega) only [zA, z13, z19, z20, z21, z22, z23, z24, z25, z31, eqDs, eqD, Nat.reduceAdd, wrap64] at h) <;> (try (exfalso; omega)))
  | (refine run_need rfl (by (try simp (disch := omega) only [zA, z13, z19, z20, z21, z22, z23, z24, z25, z31, eqDs, eqD, Nat.reduceAdd, wrap64]); first | exact elp_m (by omega) (by first | omega | (simp only [List.length_set]; omega)) (fun _ => rfl) | exact eld_m (by omega) (by first | omega | (simp only [List.length_set]; omega)) (fun _ => rfl) | exact els_m (by omega) (by omega) (by omega) rfl | exact lsl_m (by omega) (fun _ => rfl) | exact app_nil_m (by omega) (fun _ => rfl) (fun _ => rfl) | exact app_m_one (by omega) (fun _ => rfl) rfl rfl | exact app_m_m (by omega) (fun _ => rfl) (fun _ => rfl)) ?_)
  | (refine run_need rfl (by first | decide | omega | (simp only [List.length_map]; omega)) ?_)
  | (refine run_calleq rfl (f) (by simp (disch := omega) only [zA, z13, z19, z20, z21, z22, z23, z24, z25, z31, eqDs, eqD, Nat.reduceAdd, wrap64]) rfl ?_)
  | (refine run_need rfl ?_ ?_)
  | (refine run_ret rfl ?_ ; first | refine rb ?_ | refine ri ?_ | refine rs2 ?_ ?_ | refine rs1 ?_)
  | (refine run_retx rfl ?_))
   rw [less_lt (by unfold szPs; omega)]
  ·rw [less_ge (by omega)] at f
   (repeat' first
  | (refine run_ite rfl (fun h => ?_) (fun h => ?_) <;> (try simp (disch := omega) only [zA, z13, z19, z20, z21, z22, z23, z24, z25, z31, eqDs, eqD, Nat.reduceAdd, wrap64] at h) <;> (try (exfalso; omega)))
  | (refine run_need rfl (by (try simp (disch := omega) only [zA, z13, z19, z20, z21, z22, z23, z24, z25, z31, eqDs, eqD, Nat.reduceAdd, wrap64]); first | exact elp_m (by omega) (by first | omega | (simp only [List.length_set]; omega)) (fun _ => rfl) | exact eld_m (by omega) (by first | omega | (simp only [List.length_set]; omega)) (fun _ => rfl) | exact els_m (by omega) (by omega) (by omega) rfl | exact lsl_m (by omega) (fun _ => rfl) | exact app_nil_m (by omega) (fun _ => rfl) (fun _ => rfl) | exact app_m_one (by omega) (fun _ => rfl) rfl rfl | exact app_m_m (by omega) (fun _ => rfl) (fun _ => rfl)) ?_)
  | (refine run_need rfl (by first | decide | omega | (simp only [List.length_map]; omega)) ?_)
  | (refine run_calleq rfl (f) (by simp (disch := omega) only [zA, z13, z19, z20, z21, z22, z23, z24, z25, z31, eqDs, eqD, Nat.reduceAdd, wrap64]) rfl ?_)
  | (refine run_next rfl (Exists.intro (i + 1) ⟨by omega, ⟨by omega, by omega, by omega⟩, i64_eq (wrap64 _ (by omega)), i64_eq (by omega), rfl, trivial⟩))
  | (refine run_need rfl ?_ ?_)
  | (refine run_ret rfl ?_ ; first | refine rb ?_ | refine ri ?_ | refine rs2 ?_ ?_ | refine rs1 ?_)
  | (refine run_retx rfl ?_))
 ·(repeat' first
  | (refine run_ite rfl (fun h => ?_) (fun h => ?_) <;> (try simp (disch := omega) only [zA, z13, z19, z20, z21, z22, z23, z24, z25, z31, eqDs, eqD, Nat.reduceAdd, wrap64] at h) <;> (try (exfalso; omega)))
  | (refine run_need rfl (by (try simp (disch := omega) only [zA, z13, z19, z20, z21, z22, z23, z24, z25, z31, eqDs, eqD, Nat.reduceAdd, wrap64]); first | exact elp_m (by omega) (by first | omega | (simp only [List.length_set]; omega)) (fun _ => rfl) | exact eld_m (by omega) (by first | omega | (simp only [List.length_set]; omega)) (fun _ => rfl) | exact els_m (by omega) (by omega) (by omega) rfl | exact lsl_m (by omega) (fun _ => rfl) | exact app_nil_m (by omega) (fun _ => rfl) (fun _ => rfl) | exact app_m_one (by omega) (fun _ => rfl) rfl rfl | exact app_m_m (by omega) (fun _ => rfl) (fun _ => rfl)) ?_)
  | (refine run_need rfl (by first | decide | omega | (simp only [List.length_map]; omega)) ?_)
  | (refine run_need rfl ?_ ?_)
  | (refine run_ret rfl ?_ ; first | refine rb ?_ | refine ri ?_ | refine rs2 ?_ ?_ | refine rs1 ?_)
  | (refine run_retx rfl ?_))
  rw [sumF_all _ _ (by omega)] at hP
  rw [sumF_all _ _ (by omega), less_ge (by unfold szPs; omega)]
  unfold szPs
  omega
end V
end Go.Proofs.Ytgialjcichiaoaa

/-
What comes in, as plain values.
-/
namespace Go.Proofs.Ytgialjcichiaoaa
namespace V
set_option maxRecDepth 100000
open Go.ChangeShapes Go.WideShapes Go.ChangeAt Go.RowKit

def ckP2 : Ck := .int .i64 (.int .i64 .nil)
def ckPk : Ck := .int .i64 (.int .i64 (.sl ckP2 (.sl ckP2 .nil)))
def ckI : Ck := .int .i64 .nil
def ckDk : Ck := .sl ckPk (.sl ckI (.bool (.sl ckPk .nil)))
def ckSt : Ck := .int .i64 (.int .i64 (.int .i64 (.sl ckPk .nil)))

theorem conf_list {α : Type} {enc : α → List D} {Q : α → Prop} : ∀ {xs : List (List D)}, (∀ x ∈ xs, ∃ a, x = enc a ∧ Q a) → ∃ l : List α, xs = l.map enc ∧ ∀ a ∈ l, Q a
 | [], _ => ⟨[], rfl, fun a h => by cases h⟩
 | x :: xs, h => by
  obtain ⟨a, rfl, h1⟩ := h x (List.mem_cons_self ..)
  obtain ⟨l, rfl, h2⟩ := conf_list (xs := xs) (fun y hy => h y (List.mem_cons_of_mem _ hy))
  exact ⟨a :: l, rfl, fun b hb => by rcases List.mem_cons.1 hb with rfl | hb; exact h1; exact h2 b hb⟩
theorem mx_le {n : Nat} (h : n ≤ maxLen) : (n : Int) ≤ mx := by
 unfold maxLen at h
 unfold mx
 omega
theorem conf_I {x : List D} (h : conf ckI x) : ∃ a : Int, x = i64 a ∧ True := by
 obtain ⟨n, ds, rfl, _, h⟩ := h
 have : ds = [] := h
 subst this
 exact ⟨n, rfl, trivial⟩
theorem conf_P2 {x : List D} (h : conf ckP2 x) : ∃ a : P2, x = eP2 a ∧ True := by
 obtain ⟨n, ds, rfl, _, m, ds', rfl, _, h⟩ := h
 have : ds' = [] := h
 subst this
 exact ⟨⟨n, m⟩, rfl, trivial⟩
theorem conf_Pk {x : List D} (h : conf ckPk x) : ∃ a : Pk, x = ePk a ∧ BgP a := by
 obtain ⟨n, _, rfl, _, m, _, rfl, _, xs, _, rfl, h1, h2, ys, _, rfl, h3, h4, h⟩ := h
 have h := (show _ = [] from h)
 subst h
 obtain ⟨f, rfl, _⟩ := conf_list (fun x hx => conf_P2 (h2 x hx))
 obtain ⟨d, rfl, _⟩ := conf_list (fun x hx => conf_P2 (h4 x hx))
 rw [List.length_map] at h1 h3
 exact ⟨⟨n, m, f, d⟩, rfl, mx_le h1, mx_le h3⟩
theorem conf_Pks {xs : List (List D)} (hl : xs.length ≤ maxLen) (h : ∀ x ∈ xs, conf ckPk x) : ∃ l : List Pk, xs = l.map ePk ∧ BgPs l := by
 obtain ⟨l, rfl, h1⟩ := conf_list (fun x hx => conf_Pk (h x hx))
 rw [List.length_map] at hl
 exact ⟨l, rfl, mx_le hl, h1⟩
theorem conf_Dk {x : List D} (h : conf ckDk x) : ∃ d : Dk, x = eDk d ∧ BgD d := by
 obtain ⟨db, _, rfl, a1, a2, fs, _, rfl, b1, b2, has, _, rfl, jr, _, rfl, c1, c2, h⟩ := h
 have h := (show _ = [] from h)
 subst h
 obtain ⟨db, rfl, d1⟩ := conf_Pks a1 a2
 obtain ⟨jr, rfl, d2⟩ := conf_Pks c1 c2
 obtain ⟨fs, rfl, _⟩ := conf_list (fun x hx => conf_I (b2 x hx))
 rw [List.length_map] at b1
 exact ⟨⟨db, fs, has, jr⟩, rfl, d1, mx_le b1, d2⟩
theorem conf_St {x : List D} (h : conf ckSt x) : ∃ s : Stp, x = eSt s ∧ BgPs s.pkgs := by
 obtain ⟨k, _, rfl, _, p, _, rfl, _, d, _, rfl, _, ps, _, rfl, c1, c2, h⟩ := h
 have h := (show _ = [] from h)
 subst h
 obtain ⟨ps, rfl, d2⟩ := conf_Pks c1 c2
 exact ⟨⟨k, p, d, ps⟩, rfl, d2⟩

end V
end Go.Proofs.Ytgialjcichiaoaa

/-
The given statements of four laws on putting in.
-/
namespace Go.Proofs.Ytgialjcichiaoaa
namespace V
set_option maxRecDepth 100000
open Go.ChangeShapes Go.WideShapes Go.ChangeAt Go.RowKit

theorem conf_Sts {xs : List (List D)} (hl : xs.length ≤ maxLen) (h : ∀ x ∈ xs, conf ckSt x) : ∃ l : List Stp, xs = l.map eSt ∧ BgSs l := by
 obtain ⟨l, rfl, h1⟩ := conf_list (fun x hx => conf_St (h x hx))
 rw [List.length_map] at hl
 exact ⟨l, rfl, mx_le hl, h1⟩
def ckPks : Ck := .sl ckPk .nil
def ckSts : Ck := .sl ckSt .nil
def ckB : Ck := .bool .nil
theorem conf_ePks {x : List D} (h : conf ckPks x) : ∃ l : List Pk, x = ePks l ∧ BgPs l := by
 obtain ⟨xs, _, rfl, h1, h2, h⟩ := h
 have h := (show _ = [] from h)
 subst h
 obtain ⟨l, rfl, h3⟩ := conf_Pks h1 h2
 exact ⟨l, rfl, h3⟩
theorem conf_eSts {x : List D} (h : conf ckSts x) : ∃ l : List Stp, x = eSts l ∧ BgSs l := by
 obtain ⟨xs, _, rfl, h1, h2, h⟩ := h
 have h := (show _ = [] from h)
 subst h
 obtain ⟨l, rfl, h3⟩ := conf_Sts h1 h2
 exact ⟨l, rfl, h3⟩
theorem conf_B {x : List D} (h : conf ckB x) : ∃ b : Bool, x = bo b := by
 obtain ⟨b, _, rfl, h⟩ := h
 have h := (show _ = [] from h)
 subst h
 exact ⟨b, rfl⟩
end V
end Go.Proofs.Ytgialjcichiaoaa

/-
Plain proofs: what the laws compare.
-/
namespace Go.Proofs.Ytgialjcichiaoaa
namespace V
open Classical
set_option maxRecDepth 100000
variable {W : Wld}

theorem p2_ext {p q : P2} (h1 : p.a = q.a) (h2 : p.b = q.b) : p = q := by cases p; cases q; simp_all
theorem pk_ext {p q : Pk} (h1 : p.name = q.name) (h2 : p.ver = q.ver) (h3 : p.files = q.files) (h4 : p.deps = q.deps) : p = q := by cases p; cases q; simp_all

theorem dk_ext {p q : Dk} (h1 : p.db = q.db) (h2 : p.files = q.files) (h3 : p.has = q.has) (h4 : p.jour = q.jour) : p = q := by cases p; cases q; simp_all
end V
end Go.Proofs.Ytgialjcichiaoaa

/-
Plain proofs: what the laws compare, mark and find marked: lists of numbers, files, packages.
-/
namespace Go.Proofs.Ytgialjcichiaoaa
namespace V
open Classical
set_option maxRecDepth 100000
variable {W : Wld}

theorem eqIntS_ok (a b : List Int) (ha : a.length ≤ lim) : FunOk PP W n_l_eqIntS s_l_eqIntS [eIs a, eIs b] [bo (decide (a = b))] := by
 refine F_l_eqIntS (run_fun ?_)
 unfold lim at ha
 (repeat' first
  | (refine run_ite rfl (fun h => ?_) (fun h => ?_) <;> (try simp (disch := omega) only [zA, z13, z19, z20, z21, z22, z23, z24, z25, z31, eqDs, eqD, Nat.reduceAdd, wrap64] at h) <;> (try (exfalso; omega)))
  | (refine run_need rfl (by (try simp (disch := omega) only [zA, z13, z19, z20, z21, z22, z23, z24, z25, z31, eqDs, eqD, Nat.reduceAdd, wrap64]); first | exact elp_m (by omega) (by first | omega | (simp only [List.length_set]; omega)) (fun _ => rfl) | exact eld_m (by omega) (by first | omega | (simp only [List.length_set]; omega)) (fun _ => rfl) | exact els_m (by omega) (by omega) (by omega) rfl | exact lsl_m (by omega) (fun _ => rfl) | exact app_nil_m (by omega) (fun _ => rfl) (fun _ => rfl) | exact app_m_one (by omega) (fun _ => rfl) rfl rfl | exact app_m_m (by omega) (fun _ => rfl) (fun _ => rfl)) ?_)
  | (refine run_need rfl (by first | decide | omega | (simp only [List.length_map]; omega)) ?_)
  | (refine run_need rfl ?_ ?_)
  | (refine run_ret rfl ?_ ; first | refine rb ?_ | refine ri ?_ | refine rs2 ?_ ?_ | refine rs1 ?_)
  | (refine run_retx rfl ?_))
 ·exact fD (fun h' => by simp_all)
 have hn : a.length = b.length := by omega
 clear h
 refine run_loop rfl (fun i : Int => 0 ≤ i ∧ i ≤ a.length ∧ Blw i (fun j => ix a j = ix b j)) (fun i => [(5, .val (i64 i)), (0, .val (eIs a)), (1, .val (eIs b))]) (fun i => (a.length - i).toNat) 0 ⟨by omega, by omega, blw_zero _⟩ ⟨rfl, rfl, rfl, trivial⟩ rfl ?_
 rintro i e ⟨h0, hN, hP⟩
 (repeat' first
  | (refine run_ite rfl (fun h => ?_) (fun h => ?_) <;> (try simp (disch := omega) only [zA, z13, z19, z20, z21, z22, z23, z24, z25, z31, eqDs, eqD, Nat.reduceAdd, wrap64] at h) <;> (try (exfalso; omega)))
  | (refine run_need rfl (by (try simp (disch := omega) only [zA, z13, z19, z20, z21, z22, z23, z24, z25, z31, eqDs, eqD, Nat.reduceAdd, wrap64]); first | exact elp_m (by omega) (by first | omega | (simp only [List.length_set]; omega)) (fun _ => rfl) | exact eld_m (by omega) (by first | omega | (simp only [List.length_set]; omega)) (fun _ => rfl) | exact els_m (by omega) (by omega) (by omega) rfl | exact lsl_m (by omega) (fun _ => rfl) | exact app_nil_m (by omega) (fun _ => rfl) (fun _ => rfl) | exact app_m_one (by omega) (fun _ => rfl) rfl rfl | exact app_m_m (by omega) (fun _ => rfl) (fun _ => rfl)) ?_)
  | (refine run_need rfl (by first | decide | omega | (simp only [List.length_map]; omega)) ?_)
  | (refine run_next rfl (Exists.intro (i + 1) ⟨by omega, ⟨by omega, by omega, blw_succ hP (by assumption)⟩, i64_eq (wrap64 _ (by omega)), rfl, rfl, trivial⟩))
  | (refine run_need rfl ?_ ?_)
  | (refine run_ret rfl ?_ ; first | refine rb ?_ | refine ri ?_ | refine rs2 ?_ ?_ | refine rs1 ?_)
  | (refine run_retx rfl ?_))
 ·exact fD (fun h' => by subst h'; exact absurd rfl (by assumption))
 ·exact tD (ix_ext hn (blw_to hP (by omega)))

theorem eqFile_ok (p q : P2) : FunOk PP W n_l_eqFile s_l_eqFile [eP2 p, eP2 q] [bo (decide (p = q))] := by
 refine F_l_eqFile (run_fun ?_)
 (repeat' first
  | (refine run_ite rfl (fun h => ?_) (fun h => ?_) <;> (try simp (disch := omega) only [zA, z13, z19, z20, z21, z22, z23, z24, z25, z31, eqDs, eqD, Nat.reduceAdd, wrap64] at h) <;> (try (exfalso; omega)))
  | (refine run_need rfl (by (try simp (disch := omega) only [zA, z13, z19, z20, z21, z22, z23, z24, z25, z31, eqDs, eqD, Nat.reduceAdd, wrap64]); first | exact elp_m (by omega) (by first | omega | (simp only [List.length_set]; omega)) (fun _ => rfl) | exact eld_m (by omega) (by first | omega | (simp only [List.length_set]; omega)) (fun _ => rfl) | exact els_m (by omega) (by omega) (by omega) rfl | exact lsl_m (by omega) (fun _ => rfl) | exact app_nil_m (by omega) (fun _ => rfl) (fun _ => rfl) | exact app_m_one (by omega) (fun _ => rfl) rfl rfl | exact app_m_m (by omega) (fun _ => rfl) (fun _ => rfl)) ?_)
  | (refine run_need rfl (by first | decide | omega | (simp only [List.length_map]; omega)) ?_)
  | (refine run_need rfl ?_ ?_)
  | (refine run_ret rfl ?_ ; first | refine rb ?_ | refine ri ?_ | refine rs2 ?_ ?_ | refine rs1 ?_)
  | (refine run_retx rfl ?_))
 ·exact fD (fun h' => by simp_all)
 ·exact fD (fun h' => by simp_all)
 ·exact tD (p2_ext (by assumption) (by assumption))
theorem eqFileS_ok (a b : List P2) (ha : a.length ≤ lim) : FunOk PP W n_l_eqFileS s_l_eqFileS [eP2s a, eP2s b] [bo (decide (a = b))] := by
 refine F_l_eqFileS (run_fun ?_)
 unfold lim at ha
 (repeat' first
  | (refine run_ite rfl (fun h => ?_) (fun h => ?_) <;> (try simp (disch := omega) only [zA, z13, z19, z20, z21, z22, z23, z24, z25, z31, eqDs, eqD, Nat.reduceAdd, wrap64] at h) <;> (try (exfalso; omega)))
  | (refine run_need rfl (by (try simp (disch := omega) only [zA, z13, z19, z20, z21, z22, z23, z24, z25, z31, eqDs, eqD, Nat.reduceAdd, wrap64]); first | exact elp_m (by omega) (by first | omega | (simp only [List.length_set]; omega)) (fun _ => rfl) | exact eld_m (by omega) (by first | omega | (simp only [List.length_set]; omega)) (fun _ => rfl) | exact els_m (by omega) (by omega) (by omega) rfl | exact lsl_m (by omega) (fun _ => rfl) | exact app_nil_m (by omega) (fun _ => rfl) (fun _ => rfl) | exact app_m_one (by omega) (fun _ => rfl) rfl rfl | exact app_m_m (by omega) (fun _ => rfl) (fun _ => rfl)) ?_)
  | (refine run_need rfl (by first | decide | omega | (simp only [List.length_map]; omega)) ?_)
  | (refine run_need rfl ?_ ?_)
  | (refine run_ret rfl ?_ ; first | refine rb ?_ | refine ri ?_ | refine rs2 ?_ ?_ | refine rs1 ?_)
  | (refine run_retx rfl ?_))
 ·exact fD (fun h' => by simp_all)
 have hn : a.length = b.length := by omega
 clear h
 refine run_loop rfl (fun i : Int => 0 ≤ i ∧ i ≤ a.length ∧ Blw i (fun j => ix a j = ix b j)) (fun i => [(5, .val (i64 i)), (0, .val (eP2s a)), (1, .val (eP2s b))]) (fun i => (a.length - i).toNat) 0 ⟨by omega, by omega, blw_zero _⟩ ⟨rfl, rfl, rfl, trivial⟩ rfl ?_
 rintro i e ⟨h0, hN, hP⟩
 (repeat' first
  | (refine run_ite rfl (fun h => ?_) (fun h => ?_) <;> (try simp (disch := omega) only [zA, z13, z19, z20, z21, z22, z23, z24, z25, z31, eqDs, eqD, Nat.reduceAdd, wrap64] at h) <;> (try (exfalso; omega)))
  | (refine run_need rfl (by (try simp (disch := omega) only [zA, z13, z19, z20, z21, z22, z23, z24, z25, z31, eqDs, eqD, Nat.reduceAdd, wrap64]); first | exact elp_m (by omega) (by first | omega | (simp only [List.length_set]; omega)) (fun _ => rfl) | exact eld_m (by omega) (by first | omega | (simp only [List.length_set]; omega)) (fun _ => rfl) | exact els_m (by omega) (by omega) (by omega) rfl | exact lsl_m (by omega) (fun _ => rfl) | exact app_nil_m (by omega) (fun _ => rfl) (fun _ => rfl) | exact app_m_one (by omega) (fun _ => rfl) rfl rfl | exact app_m_m (by omega) (fun _ => rfl) (fun _ => rfl)) ?_)
  | (refine run_need rfl (by first | decide | omega | (simp only [List.length_map]; omega)) ?_)
  | (refine run_calleq rfl (eqFile_ok (ix a i) (ix b i)) (by simp (disch := omega) only [zA, z13, z19, z20, z21, z22, z23, z24, z25, z31, eqDs, eqD, Nat.reduceAdd, wrap64]) rfl ?_)
  | (refine run_next rfl (Exists.intro (i + 1) ⟨by omega, ⟨by omega, by omega, blw_succ hP (by assumption)⟩, i64_eq (wrap64 _ (by omega)), rfl, rfl, trivial⟩))
  | (refine run_need rfl ?_ ?_)
  | (refine run_ret rfl ?_ ; first | refine rb ?_ | refine ri ?_ | refine rs2 ?_ ?_ | refine rs1 ?_)
  | (refine run_retx rfl ?_))
 ·exact fD (fun h' => by subst h'; exact absurd rfl (by assumption))
 ·exact tD (ix_ext hn (blw_to hP (by omega)))

theorem eqDep_ok (p q : P2) : FunOk PP W n_l_eqDep s_l_eqDep [eP2 p, eP2 q] [bo (decide (p = q))] := by
 refine F_l_eqDep (run_fun ?_)
 (repeat' first
  | (refine run_ite rfl (fun h => ?_) (fun h => ?_) <;> (try simp (disch := omega) only [zA, z13, z19, z20, z21, z22, z23, z24, z25, z31, eqDs, eqD, Nat.reduceAdd, wrap64] at h) <;> (try (exfalso; omega)))
  | (refine run_need rfl (by (try simp (disch := omega) only [zA, z13, z19, z20, z21, z22, z23, z24, z25, z31, eqDs, eqD, Nat.reduceAdd, wrap64]); first | exact elp_m (by omega) (by first | omega | (simp only [List.length_set]; omega)) (fun _ => rfl) | exact eld_m (by omega) (by first | omega | (simp only [List.length_set]; omega)) (fun _ => rfl) | exact els_m (by omega) (by omega) (by omega) rfl | exact lsl_m (by omega) (fun _ => rfl) | exact app_nil_m (by omega) (fun _ => rfl) (fun _ => rfl) | exact app_m_one (by omega) (fun _ => rfl) rfl rfl | exact app_m_m (by omega) (fun _ => rfl) (fun _ => rfl)) ?_)
  | (refine run_need rfl (by first | decide | omega | (simp only [List.length_map]; omega)) ?_)
  | (refine run_need rfl ?_ ?_)
  | (refine run_ret rfl ?_ ; first | refine rb ?_ | refine ri ?_ | refine rs2 ?_ ?_ | refine rs1 ?_)
  | (refine run_retx rfl ?_))
 ·exact fD (fun h' => by simp_all)
 ·exact fD (fun h' => by simp_all)
 ·exact tD (p2_ext (by assumption) (by assumption))
theorem eqDepS_ok (a b : List P2) (ha : a.length ≤ lim) : FunOk PP W n_l_eqDepS s_l_eqDepS [eP2s a, eP2s b] [bo (decide (a = b))] := by
 refine F_l_eqDepS (run_fun ?_)
 unfold lim at ha
 (repeat' first
  | (refine run_ite rfl (fun h => ?_) (fun h => ?_) <;> (try simp (disch := omega) only [zA, z13, z19, z20, z21, z22, z23, z24, z25, z31, eqDs, eqD, Nat.reduceAdd, wrap64] at h) <;> (try (exfalso; omega)))
  | (refine run_need rfl (by (try simp (disch := omega) only [zA, z13, z19, z20, z21, z22, z23, z24, z25, z31, eqDs, eqD, Nat.reduceAdd, wrap64]); first | exact elp_m (by omega) (by first | omega | (simp only [List.length_set]; omega)) (fun _ => rfl) | exact eld_m (by omega) (by first | omega | (simp only [List.length_set]; omega)) (fun _ => rfl) | exact els_m (by omega) (by omega) (by omega) rfl | exact lsl_m (by omega) (fun _ => rfl) | exact app_nil_m (by omega) (fun _ => rfl) (fun _ => rfl) | exact app_m_one (by omega) (fun _ => rfl) rfl rfl | exact app_m_m (by omega) (fun _ => rfl) (fun _ => rfl)) ?_)
  | (refine run_need rfl (by first | decide | omega | (simp only [List.length_map]; omega)) ?_)
  | (refine run_need rfl ?_ ?_)
  | (refine run_ret rfl ?_ ; first | refine rb ?_ | refine ri ?_ | refine rs2 ?_ ?_ | refine rs1 ?_)
  | (refine run_retx rfl ?_))
 ·exact fD (fun h' => by simp_all)
 have hn : a.length = b.length := by omega
 clear h
 refine run_loop rfl (fun i : Int => 0 ≤ i ∧ i ≤ a.length ∧ Blw i (fun j => ix a j = ix b j)) (fun i => [(5, .val (i64 i)), (0, .val (eP2s a)), (1, .val (eP2s b))]) (fun i => (a.length - i).toNat) 0 ⟨by omega, by omega, blw_zero _⟩ ⟨rfl, rfl, rfl, trivial⟩ rfl ?_
 rintro i e ⟨h0, hN, hP⟩
 (repeat' first
  | (refine run_ite rfl (fun h => ?_) (fun h => ?_) <;> (try simp (disch := omega) only [zA, z13, z19, z20, z21, z22, z23, z24, z25, z31, eqDs, eqD, Nat.reduceAdd, wrap64] at h) <;> (try (exfalso; omega)))
  | (refine run_need rfl (by (try simp (disch := omega) only [zA, z13, z19, z20, z21, z22, z23, z24, z25, z31, eqDs, eqD, Nat.reduceAdd, wrap64]); first | exact elp_m (by omega) (by first | omega | (simp only [List.length_set]; omega)) (fun _ => rfl) | exact eld_m (by omega) (by first | omega | (simp only [List.length_set]; omega)) (fun _ => rfl) | exact els_m (by omega) (by omega) (by omega) rfl | exact lsl_m (by omega) (fun _ => rfl) | exact app_nil_m (by omega) (fun _ => rfl) (fun _ => rfl) | exact app_m_one (by omega) (fun _ => rfl) rfl rfl | exact app_m_m (by omega) (fun _ => rfl) (fun _ => rfl)) ?_)
  | (refine run_need rfl (by first | decide | omega | (simp only [List.length_map]; omega)) ?_)
  | (refine run_calleq rfl (eqDep_ok (ix a i) (ix b i)) (by simp (disch := omega) only [zA, z13, z19, z20, z21, z22, z23, z24, z25, z31, eqDs, eqD, Nat.reduceAdd, wrap64]) rfl ?_)
  | (refine run_next rfl (Exists.intro (i + 1) ⟨by omega, ⟨by omega, by omega, blw_succ hP (by assumption)⟩, i64_eq (wrap64 _ (by omega)), rfl, rfl, trivial⟩))
  | (refine run_need rfl ?_ ?_)
  | (refine run_ret rfl ?_ ; first | refine rb ?_ | refine ri ?_ | refine rs2 ?_ ?_ | refine rs1 ?_)
  | (refine run_retx rfl ?_))
 ·exact fD (fun h' => by subst h'; exact absurd rfl (by assumption))
 ·exact tD (ix_ext hn (blw_to hP (by omega)))

theorem eqPkg_ok (p q : Pk) (hs : SmP p) : FunOk PP W n_l_eqPkg s_l_eqPkg [ePk p, ePk q] [bo (decide (p = q))] := by
 refine F_l_eqPkg (run_fun ?_)
 obtain ⟨h1, h2⟩ := hs
 (repeat' first
  | (refine run_ite rfl (fun h => ?_) (fun h => ?_) <;> (try simp (disch := omega) only [zA, z13, z19, z20, z21, z22, z23, z24, z25, z31, eqDs, eqD, Nat.reduceAdd, wrap64] at h) <;> (try (exfalso; omega)))
  | (refine run_need rfl (by (try simp (disch := omega) only [zA, z13, z19, z20, z21, z22, z23, z24, z25, z31, eqDs, eqD, Nat.reduceAdd, wrap64]); first | exact elp_m (by omega) (by first | omega | (simp only [List.length_set]; omega)) (fun _ => rfl) | exact eld_m (by omega) (by first | omega | (simp only [List.length_set]; omega)) (fun _ => rfl) | exact els_m (by omega) (by omega) (by omega) rfl | exact lsl_m (by omega) (fun _ => rfl) | exact app_nil_m (by omega) (fun _ => rfl) (fun _ => rfl) | exact app_m_one (by omega) (fun _ => rfl) rfl rfl | exact app_m_m (by omega) (fun _ => rfl) (fun _ => rfl)) ?_)
  | (refine run_need rfl (by first | decide | omega | (simp only [List.length_map]; omega)) ?_)
  | (refine run_call1 rfl (eqFileS_ok p.files q.files h1) rfl ?_)
  | (refine run_call1 rfl (eqDepS_ok p.deps q.deps h2) rfl ?_)
  | (refine run_need rfl ?_ ?_)
  | (refine run_ret rfl ?_ ; first | refine rb ?_ | refine ri ?_ | refine rs2 ?_ ?_ | refine rs1 ?_)
  | (refine run_retx rfl ?_))
 ·exact fD (fun h' => by simp_all)
 ·exact fD (fun h' => by simp_all)
 ·exact fD (fun h' => by subst h'; exact absurd rfl (by assumption))
 ·exact fD (fun h' => by subst h'; exact absurd rfl (by assumption))
 ·exact tD (pk_ext (by assumption) (by assumption) (by assumption) (by assumption))
theorem eqPkgS_ok (a b : List Pk) (ha : SmPs a) : FunOk PP W n_l_eqPkgS s_l_eqPkgS [ePks a, ePks b] [bo (decide (a = b))] := by
 refine F_l_eqPkgS (run_fun ?_)
 have hl := ha.1
 unfold lim at hl
 (repeat' first
  | (refine run_ite rfl (fun h => ?_) (fun h => ?_) <;> (try simp (disch := omega) only [zA, z13, z19, z20, z21, z22, z23, z24, z25, z31, eqDs, eqD, Nat.reduceAdd, wrap64] at h) <;> (try (exfalso; omega)))
  | (refine run_need rfl (by (try simp (disch := omega) only [zA, z13, z19, z20, z21, z22, z23, z24, z25, z31, eqDs, eqD, Nat.reduceAdd, wrap64]); first | exact elp_m (by omega) (by first | omega | (simp only [List.length_set]; omega)) (fun _ => rfl) | exact eld_m (by omega) (by first | omega | (simp only [List.length_set]; omega)) (fun _ => rfl) | exact els_m (by omega) (by omega) (by omega) rfl | exact lsl_m (by omega) (fun _ => rfl) | exact app_nil_m (by omega) (fun _ => rfl) (fun _ => rfl) | exact app_m_one (by omega) (fun _ => rfl) rfl rfl | exact app_m_m (by omega) (fun _ => rfl) (fun _ => rfl)) ?_)
  | (refine run_need rfl (by first | decide | omega | (simp only [List.length_map]; omega)) ?_)
  | (refine run_need rfl ?_ ?_)
  | (refine run_ret rfl ?_ ; first | refine rb ?_ | refine ri ?_ | refine rs2 ?_ ?_ | refine rs1 ?_)
  | (refine run_retx rfl ?_))
 ·exact fD (fun h' => by simp_all)
 have hn : a.length = b.length := by omega
 clear h
 refine run_loop rfl (fun i : Int => 0 ≤ i ∧ i ≤ a.length ∧ Blw i (fun j => ix a j = ix b j)) (fun i => [(5, .val (i64 i)), (0, .val (ePks a)), (1, .val (ePks b))]) (fun i => (a.length - i).toNat) 0 ⟨by omega, by omega, blw_zero _⟩ ⟨rfl, rfl, rfl, trivial⟩ rfl ?_
 rintro i e ⟨h0, hN, hP⟩
 (repeat' first
  | (refine run_ite rfl (fun h => ?_) (fun h => ?_) <;> (try simp (disch := omega) only [zA, z13, z19, z20, z21, z22, z23, z24, z25, z31, eqDs, eqD, Nat.reduceAdd, wrap64] at h) <;> (try (exfalso; omega)))
  | (refine run_need rfl (by (try simp (disch := omega) only [zA, z13, z19, z20, z21, z22, z23, z24, z25, z31, eqDs, eqD, Nat.reduceAdd, wrap64]); first | exact elp_m (by omega) (by first | omega | (simp only [List.length_set]; omega)) (fun _ => rfl) | exact eld_m (by omega) (by first | omega | (simp only [List.length_set]; omega)) (fun _ => rfl) | exact els_m (by omega) (by omega) (by omega) rfl | exact lsl_m (by omega) (fun _ => rfl) | exact app_nil_m (by omega) (fun _ => rfl) (fun _ => rfl) | exact app_m_one (by omega) (fun _ => rfl) rfl rfl | exact app_m_m (by omega) (fun _ => rfl) (fun _ => rfl)) ?_)
  | (refine run_need rfl (by first | decide | omega | (simp only [List.length_map]; omega)) ?_)
  | (refine run_calleq rfl (eqPkg_ok (ix a i) (ix b i) (smPs_ix ha (by omega) (by omega))) (by simp (disch := omega) only [zA, z13, z19, z20, z21, z22, z23, z24, z25, z31, eqDs, eqD, Nat.reduceAdd, wrap64]) rfl ?_)
  | (refine run_next rfl (Exists.intro (i + 1) ⟨by omega, ⟨by omega, by omega, blw_succ hP (by assumption)⟩, i64_eq (wrap64 _ (by omega)), rfl, rfl, trivial⟩))
  | (refine run_need rfl ?_ ?_)
  | (refine run_ret rfl ?_ ; first | refine rb ?_ | refine ri ?_ | refine rs2 ?_ ?_ | refine rs1 ?_)
  | (refine run_retx rfl ?_))
 ·exact fD (fun h' => by subst h'; exact absurd rfl (by assumption))
 ·exact tD (ix_ext hn (blw_to hP (by omega)))

/-! What is marked. -/
def markI (l : List Int) (k : Int) : List Int := (List.range l.length).map fun (j : Nat) => k + (j : Int)
def markP2 (l : List P2) (k : Int) : List P2 := (List.range l.length).map fun (j : Nat) => ⟨k + 2 * (j : Int), k + 2 * (j : Int) + 1⟩
theorem markI_len (l : List Int) (k : Int) : (markI l k).length = l.length := by simp [markI]
theorem markP2_len (l : List P2) (k : Int) : (markP2 l k).length = l.length := by simp [markP2]
theorem ix_range {α : Type} [Inhabited α] {n : Nat} {f : Nat → α} {i : Int} (h0 : 0 ≤ i) (h1 : i < n) : ix ((List.range n).map f) i = f i.toNat := by
 have : i.toNat < n := by omega
 simp [ix, this]
theorem markI_ix (l : List Int) (k : Int) {i : Int} (h0 : 0 ≤ i) (h1 : i < l.length) : ix (markI l k) i = k + i := by
 unfold markI
 rw [ix_range h0 h1]
 omega
theorem markP2_ix (l : List P2) (k : Int) {i : Int} (h0 : 0 ≤ i) (h1 : i < l.length) : ix (markP2 l k) i = ⟨k + 2 * i, k + 2 * i + 1⟩ := by
 unfold markP2
 rw [ix_range h0 h1]
 simp only [show ((i.toNat : Nat) : Int) = i by omega]
theorem blw_put {α : Type} [Inhabited α] {ys : List α} {f : Int → α} {i : Int} (h0 : 0 ≤ i) (h1 : i < ys.length) (h : Blw i (fun j => ix ys j = f j)) : Blw (i + 1) (fun j => ix (ys.set i.toNat (f i)) j = f j) := fun j j0 j1 => by
 show ix (ys.set i.toNat (f i)) j = f j
 rw [ix_sgx h0 h1 j0]
 by_cases e : j = i
 ·rw [if_pos e, e]
 ·rw [if_neg e]
  exact h j j0 (by omega)

theorem markIntS_ok (l : List Int) (k : Int) (h0 : 0 ≤ k) (hk : k + l.length ≤ 1099511627776) : FunOk PP W n_l_markIntS s_l_markIntS_X [eIs l, i64 k] [i64 (k + l.length), eIs (markI l k)] := by
 refine F_l_markIntS_X (run_fun ?_)
 (repeat' first
  | (refine run_ite rfl (fun h => ?_) (fun h => ?_) <;> (try simp (disch := omega) only [zA, z13, z19, z20, z21, z22, z23, z24, z25, z31, eqDs, eqD, Nat.reduceAdd, wrap64] at h) <;> (try (exfalso; omega)))
  | (refine run_need rfl (by (try simp (disch := omega) only [zA, z13, z19, z20, z21, z22, z23, z24, z25, z31, eqDs, eqD, Nat.reduceAdd, wrap64]); first | exact elp_m (by omega) (by first | omega | (simp only [List.length_set]; omega)) (fun _ => rfl) | exact eld_m (by omega) (by first | omega | (simp only [List.length_set]; omega)) (fun _ => rfl) | exact els_m (by omega) (by omega) (by omega) rfl | exact lsl_m (by omega) (fun _ => rfl) | exact app_nil_m (by omega) (fun _ => rfl) (fun _ => rfl) | exact app_m_one (by omega) (fun _ => rfl) rfl rfl | exact app_m_m (by omega) (fun _ => rfl) (fun _ => rfl)) ?_)
  | (refine run_need rfl (by first | decide | omega | (simp only [List.length_map]; omega)) ?_)
  | (refine run_need rfl ?_ ?_)
  | (refine run_ret rfl ?_ ; first | refine rb ?_ | refine ri ?_ | refine rs2 ?_ ?_ | refine rs1 ?_)
  | (refine run_retx rfl ?_))
 refine run_loop rfl (fun x : Int × List Int => 0 ≤ x.1 ∧ x.1 ≤ l.length ∧ x.2.length = l.length ∧ Blw x.1 (fun j => ix x.2 j = k + j)) (fun x => [(5, .val (i64 x.1)), (1, .val (i64 (k + x.1))), (0, .val (eIs x.2))]) (fun x => (l.length - x.1).toNat) (0, l) ⟨by omega, by simp, rfl, blw_zero _⟩ ⟨rfl, i64_eq (by simp), rfl, trivial⟩ rfl ?_
 rintro ⟨i, ys⟩ e ⟨i0, hN, hy, hP⟩
 dsimp only at i0 hN hy hP ⊢
 (repeat' first
  | (refine run_ite rfl (fun h => ?_) (fun h => ?_) <;> (try simp (disch := omega) only [zA, z13, z19, z20, z21, z22, z23, z24, z25, z31, eqDs, eqD, Nat.reduceAdd, wrap64] at h) <;> (try (exfalso; omega)))
  | (refine run_need rfl (by (try simp (disch := omega) only [zA, z13, z19, z20, z21, z22, z23, z24, z25, z31, eqDs, eqD, Nat.reduceAdd, wrap64]); first | exact elp_m (by omega) (by first | omega | (simp only [List.length_set]; omega)) (fun _ => rfl) | exact eld_m (by omega) (by first | omega | (simp only [List.length_set]; omega)) (fun _ => rfl) | exact els_m (by omega) (by omega) (by omega) rfl | exact lsl_m (by omega) (fun _ => rfl) | exact app_nil_m (by omega) (fun _ => rfl) (fun _ => rfl) | exact app_m_one (by omega) (fun _ => rfl) rfl rfl | exact app_m_m (by omega) (fun _ => rfl) (fun _ => rfl)) ?_)
  | (refine run_need rfl (by first | decide | omega | (simp only [List.length_map]; omega)) ?_)
  | (refine run_next rfl (Exists.intro (i + 1, ys.set i.toNat (k + i)) ⟨by dsimp only; omega, ⟨by dsimp only; omega, by dsimp only; omega, by simpa using hy, blw_put (f := fun j => k + j) i0 (by omega) hP⟩, i64_eq (wrap64 _ (by omega)), i64_eq (by rw [wrap64 _ (by omega)]; dsimp only; omega), sl_eq (els_v i0 (by omega)), trivial⟩))
  | (refine run_need rfl ?_ ?_)
  | (refine run_ret rfl ?_ ; first | refine rb ?_ | refine ri ?_ | refine rs2 ?_ ?_ | refine rs1 ?_)
  | (refine run_retx rfl ?_))
 ·exact i64_eq (by omega)
 ·refine sl_eq ?_
  rw [ix_ext (xs := ys) (ys := markI l k) (by rw [markI_len, hy]) (fun j j0 j1 => (hP j j0 (by omega)).trans (markI_ix l k j0 (by omega)).symm)]
theorem heldIntS_ok (l : List Int) (k : Int) (h0 : 0 ≤ k) (hk : k + l.length ≤ 1099511627776) (hh : Blw l.length (fun j => ix l j = k + j)) : FunOk PP W n_l_heldIntS s_l_heldIntS [eIs l, i64 k] [i64 (k + l.length)] := by
 refine F_l_heldIntS (run_fun ?_)
 (repeat' first
  | (refine run_ite rfl (fun h => ?_) (fun h => ?_) <;> (try simp (disch := omega) only [zA, z13, z19, z20, z21, z22, z23, z24, z25, z31, eqDs, eqD, Nat.reduceAdd, wrap64] at h) <;> (try (exfalso; omega)))
  | (refine run_need rfl (by (try simp (disch := omega) only [zA, z13, z19, z20, z21, z22, z23, z24, z25, z31, eqDs, eqD, Nat.reduceAdd, wrap64]); first | exact elp_m (by omega) (by first | omega | (simp only [List.length_set]; omega)) (fun _ => rfl) | exact eld_m (by omega) (by first | omega | (simp only [List.length_set]; omega)) (fun _ => rfl) | exact els_m (by omega) (by omega) (by omega) rfl | exact lsl_m (by omega) (fun _ => rfl) | exact app_nil_m (by omega) (fun _ => rfl) (fun _ => rfl) | exact app_m_one (by omega) (fun _ => rfl) rfl rfl | exact app_m_m (by omega) (fun _ => rfl) (fun _ => rfl)) ?_)
  | (refine run_need rfl (by first | decide | omega | (simp only [List.length_map]; omega)) ?_)
  | (refine run_need rfl ?_ ?_)
  | (refine run_ret rfl ?_ ; first | refine rb ?_ | refine ri ?_ | refine rs2 ?_ ?_ | refine rs1 ?_)
  | (refine run_retx rfl ?_))
 refine run_loop rfl (fun x : Int => 0 ≤ x ∧ x ≤ l.length) (fun x => [(5, .val (i64 x)), (1, .val (i64 (k + x))), (0, .val (eIs l))]) (fun x => (l.length - x).toNat) 0 ⟨by omega, by simp⟩ ⟨rfl, i64_eq (by simp), rfl, trivial⟩ rfl ?_
 rintro i e ⟨i0, hN⟩
 by_cases hi : i < l.length
 ·have hx : ix l i = k + i := hh i i0 hi
  (repeat' first
  | (refine run_ite rfl (fun h => ?_) (fun h => ?_) <;> (try simp (disch := omega) only [zA, z13, z19, z20, z21, z22, z23, z24, z25, z31, eqDs, eqD, Nat.reduceAdd, wrap64] at h) <;> (try (exfalso; omega)))
  | (refine run_need rfl (by (try simp (disch := omega) only [zA, z13, z19, z20, z21, z22, z23, z24, z25, z31, eqDs, eqD, Nat.reduceAdd, wrap64]); first | exact elp_m (by omega) (by first | omega | (simp only [List.length_set]; omega)) (fun _ => rfl) | exact eld_m (by omega) (by first | omega | (simp only [List.length_set]; omega)) (fun _ => rfl) | exact els_m (by omega) (by omega) (by omega) rfl | exact lsl_m (by omega) (fun _ => rfl) | exact app_nil_m (by omega) (fun _ => rfl) (fun _ => rfl) | exact app_m_one (by omega) (fun _ => rfl) rfl rfl | exact app_m_m (by omega) (fun _ => rfl) (fun _ => rfl)) ?_)
  | (refine run_need rfl (by first | decide | omega | (simp only [List.length_map]; omega)) ?_)
  | (refine run_next rfl (Exists.intro (i + 1) ⟨by omega, ⟨by omega, by omega⟩, i64_eq (wrap64 _ (by omega)), i64_eq (by rw [wrap64 _ (by omega)]; omega), rfl, trivial⟩))
  | (refine run_need rfl ?_ ?_)
  | (refine run_ret rfl ?_ ; first | refine rb ?_ | refine ri ?_ | refine rs2 ?_ ?_ | refine rs1 ?_)
  | (refine run_retx rfl ?_))
 ·(repeat' first
  | (refine run_ite rfl (fun h => ?_) (fun h => ?_) <;> (try simp (disch := omega) only [zA, z13, z19, z20, z21, z22, z23, z24, z25, z31, eqDs, eqD, Nat.reduceAdd, wrap64] at h) <;> (try (exfalso; omega)))
  | (refine run_need rfl (by (try simp (disch := omega) only [zA, z13, z19, z20, z21, z22, z23, z24, z25, z31, eqDs, eqD, Nat.reduceAdd, wrap64]); first | exact elp_m (by omega) (by first | omega | (simp only [List.length_set]; omega)) (fun _ => rfl) | exact eld_m (by omega) (by first | omega | (simp only [List.length_set]; omega)) (fun _ => rfl) | exact els_m (by omega) (by omega) (by omega) rfl | exact lsl_m (by omega) (fun _ => rfl) | exact app_nil_m (by omega) (fun _ => rfl) (fun _ => rfl) | exact app_m_one (by omega) (fun _ => rfl) rfl rfl | exact app_m_m (by omega) (fun _ => rfl) (fun _ => rfl)) ?_)
  | (refine run_need rfl (by first | decide | omega | (simp only [List.length_map]; omega)) ?_)
  | (refine run_need rfl ?_ ?_)
  | (refine run_ret rfl ?_ ; first | refine rb ?_ | refine ri ?_ | refine rs2 ?_ ?_ | refine rs1 ?_)
  | (refine run_retx rfl ?_))
  omega

theorem markFileS_ok (l : List P2) (k : Int) (h0 : 0 ≤ k) (hk : k + 2 * l.length ≤ 1099511627776) : FunOk PP W n_l_markFileS s_l_markFileS_X [eP2s l, i64 k] [i64 (k + 2 * l.length), eP2s (markP2 l k)] := by
 refine F_l_markFileS_X (run_fun ?_)
 (repeat' first
  | (refine run_ite rfl (fun h => ?_) (fun h => ?_) <;> (try simp (disch := omega) only [zA, z13, z19, z20, z21, z22, z23, z24, z25, z31, eqDs, eqD, Nat.reduceAdd, wrap64] at h) <;> (try (exfalso; omega)))
  | (refine run_need rfl (by (try simp (disch := omega) only [zA, z13, z19, z20, z21, z22, z23, z24, z25, z31, eqDs, eqD, Nat.reduceAdd, wrap64]); first | exact elp_m (by omega) (by first | omega | (simp only [List.length_set]; omega)) (fun _ => rfl) | exact eld_m (by omega) (by first | omega | (simp only [List.length_set]; omega)) (fun _ => rfl) | exact els_m (by omega) (by omega) (by omega) rfl | exact lsl_m (by omega) (fun _ => rfl) | exact app_nil_m (by omega) (fun _ => rfl) (fun _ => rfl) | exact app_m_one (by omega) (fun _ => rfl) rfl rfl | exact app_m_m (by omega) (fun _ => rfl) (fun _ => rfl)) ?_)
  | (refine run_need rfl (by first | decide | omega | (simp only [List.length_map]; omega)) ?_)
  | (refine run_need rfl ?_ ?_)
  | (refine run_ret rfl ?_ ; first | refine rb ?_ | refine ri ?_ | refine rs2 ?_ ?_ | refine rs1 ?_)
  | (refine run_retx rfl ?_))
 refine run_loop rfl (fun x : Int × List P2 => 0 ≤ x.1 ∧ x.1 ≤ l.length ∧ x.2.length = l.length ∧ Blw x.1 (fun j => ix x.2 j = ⟨k + 2 * j, k + 2 * j + 1⟩)) (fun x => [(5, .val (i64 x.1)), (1, .val (i64 (k + 2 * x.1))), (0, .val (eP2s x.2))]) (fun x => (l.length - x.1).toNat) (0, l) ⟨by omega, by simp, rfl, blw_zero _⟩ ⟨rfl, i64_eq (by simp), rfl, trivial⟩ rfl ?_
 rintro ⟨i, ys⟩ e ⟨i0, hN, hy, hP⟩
 dsimp only at i0 hN hy hP ⊢
 (repeat' first
  | (refine run_ite rfl (fun h => ?_) (fun h => ?_) <;> (try simp (disch := omega) only [zA, z13, z19, z20, z21, z22, z23, z24, z25, z31, eqDs, eqD, Nat.reduceAdd, wrap64] at h) <;> (try (exfalso; omega)))
  | (refine run_need rfl (by (try simp (disch := omega) only [zA, z13, z19, z20, z21, z22, z23, z24, z25, z31, eqDs, eqD, Nat.reduceAdd, wrap64]); first | exact elp_m (by omega) (by first | omega | (simp only [List.length_set]; omega)) (fun _ => rfl) | exact eld_m (by omega) (by first | omega | (simp only [List.length_set]; omega)) (fun _ => rfl) | exact els_m (by omega) (by omega) (by omega) rfl | exact lsl_m (by omega) (fun _ => rfl) | exact app_nil_m (by omega) (fun _ => rfl) (fun _ => rfl) | exact app_m_one (by omega) (fun _ => rfl) rfl rfl | exact app_m_m (by omega) (fun _ => rfl) (fun _ => rfl)) ?_)
  | (refine run_need rfl (by first | decide | omega | (simp only [List.length_map]; omega)) ?_)
  | (refine run_elsc rfl (els_gx (sz := 2) i0 (by first | omega | (simp only [List.length_set]; omega)) (by first | omega | (simp only [List.length_set]; omega)) (fun _ => rfl) (Nat.le_of_ble_eq_true rfl)) (sl_eq (elsP2_0 i0 (by omega))) ?_)
  | (refine run_elsc rfl (els_gx (sz := 2) i0 (by first | omega | (simp only [List.length_set]; omega)) (by first | omega | (simp only [List.length_set]; omega)) (fun _ => rfl) (Nat.le_of_ble_eq_true rfl)) (sl_eq ((elsP2_1 i0 (by first | omega | (simp only [List.length_set]; omega))).trans (by rw [ix_ssx i0 (by omega), List.set_set, wrap64 _ (by omega)]))) ?_)
  | (refine run_next rfl (Exists.intro (i + 1, ys.set i.toNat ⟨k + 2 * i, k + 2 * i + 1⟩) ⟨by dsimp only; omega, ⟨by dsimp only; omega, by dsimp only; omega, by simpa using hy, blw_put (f := fun j => (⟨k + 2 * j, k + 2 * j + 1⟩ : P2)) i0 (by omega) hP⟩, i64_eq (wrap64 _ (by omega)), i64_eq (by rw [wrap64 (k + 2 * i + 1) (by omega), wrap64 _ (by omega)]; dsimp only; omega), rfl, trivial⟩))
  | (refine run_need rfl ?_ ?_)
  | (refine run_ret rfl ?_ ; first | refine rb ?_ | refine ri ?_ | refine rs2 ?_ ?_ | refine rs1 ?_)
  | (refine run_retx rfl ?_))
 ·exact i64_eq (by omega)
 ·refine sl_eq ?_
  rw [ix_ext (xs := ys) (ys := markP2 l k) (by rw [markP2_len, hy]) (fun j j0 j1 => (hP j j0 (by omega)).trans (markP2_ix l k j0 (by omega)).symm)]
theorem heldFileS_ok (l : List P2) (k : Int) (h0 : 0 ≤ k) (hk : k + 2 * l.length ≤ 1099511627776) (hh : Blw l.length (fun j => ix l j = ⟨k + 2 * j, k + 2 * j + 1⟩)) : FunOk PP W n_l_heldFileS s_l_heldFileS [eP2s l, i64 k] [i64 (k + 2 * l.length)] := by
 refine F_l_heldFileS (run_fun ?_)
 (repeat' first
  | (refine run_ite rfl (fun h => ?_) (fun h => ?_) <;> (try simp (disch := omega) only [zA, z13, z19, z20, z21, z22, z23, z24, z25, z31, eqDs, eqD, Nat.reduceAdd, wrap64] at h) <;> (try (exfalso; omega)))
  | (refine run_need rfl (by (try simp (disch := omega) only [zA, z13, z19, z20, z21, z22, z23, z24, z25, z31, eqDs, eqD, Nat.reduceAdd, wrap64]); first | exact elp_m (by omega) (by first | omega | (simp only [List.length_set]; omega)) (fun _ => rfl) | exact eld_m (by omega) (by first | omega | (simp only [List.length_set]; omega)) (fun _ => rfl) | exact els_m (by omega) (by omega) (by omega) rfl | exact lsl_m (by omega) (fun _ => rfl) | exact app_nil_m (by omega) (fun _ => rfl) (fun _ => rfl) | exact app_m_one (by omega) (fun _ => rfl) rfl rfl | exact app_m_m (by omega) (fun _ => rfl) (fun _ => rfl)) ?_)
  | (refine run_need rfl (by first | decide | omega | (simp only [List.length_map]; omega)) ?_)
  | (refine run_need rfl ?_ ?_)
  | (refine run_ret rfl ?_ ; first | refine rb ?_ | refine ri ?_ | refine rs2 ?_ ?_ | refine rs1 ?_)
  | (refine run_retx rfl ?_))
 refine run_loop rfl (fun x : Int => 0 ≤ x ∧ x ≤ l.length) (fun x => [(5, .val (i64 x)), (1, .val (i64 (k + 2 * x))), (0, .val (eP2s l))]) (fun x => (l.length - x).toNat) 0 ⟨by omega, by simp⟩ ⟨rfl, i64_eq (by simp), rfl, trivial⟩ rfl ?_
 rintro i e ⟨i0, hN⟩
 by_cases hi : i < l.length
 ·have hx : ix l i = ⟨k + 2 * i, k + 2 * i + 1⟩ := hh i i0 hi
  have hxa : (ix l i).a = k + 2 * i := by rw [hx]
  have hxb : (ix l i).b = k + 2 * i + 1 := by rw [hx]
  (repeat' first
  | (refine run_ite rfl (fun h => ?_) (fun h => ?_) <;> (try simp (disch := omega) only [zA, z13, z19, z20, z21, z22, z23, z24, z25, z31, eqDs, eqD, Nat.reduceAdd, wrap64] at h) <;> (try (exfalso; omega)))
  | (refine run_need rfl (by (try simp (disch := omega) only [zA, z13, z19, z20, z21, z22, z23, z24, z25, z31, eqDs, eqD, Nat.reduceAdd, wrap64]); first | exact elp_m (by omega) (by first | omega | (simp only [List.length_set]; omega)) (fun _ => rfl) | exact eld_m (by omega) (by first | omega | (simp only [List.length_set]; omega)) (fun _ => rfl) | exact els_m (by omega) (by omega) (by omega) rfl | exact lsl_m (by omega) (fun _ => rfl) | exact app_nil_m (by omega) (fun _ => rfl) (fun _ => rfl) | exact app_m_one (by omega) (fun _ => rfl) rfl rfl | exact app_m_m (by omega) (fun _ => rfl) (fun _ => rfl)) ?_)
  | (refine run_need rfl (by first | decide | omega | (simp only [List.length_map]; omega)) ?_)
  | (refine run_next rfl (Exists.intro (i + 1) ⟨by omega, ⟨by omega, by omega⟩, i64_eq (wrap64 _ (by omega)), i64_eq (by rw [wrap64 (k + 2 * i + 1) (by omega), wrap64 _ (by omega)]; omega), rfl, trivial⟩))
  | (refine run_need rfl ?_ ?_)
  | (refine run_ret rfl ?_ ; first | refine rb ?_ | refine ri ?_ | refine rs2 ?_ ?_ | refine rs1 ?_)
  | (refine run_retx rfl ?_))
 ·(repeat' first
  | (refine run_ite rfl (fun h => ?_) (fun h => ?_) <;> (try simp (disch := omega) only [zA, z13, z19, z20, z21, z22, z23, z24, z25, z31, eqDs, eqD, Nat.reduceAdd, wrap64] at h) <;> (try (exfalso; omega)))
  | (refine run_need rfl (by (try simp (disch := omega) only [zA, z13, z19, z20, z21, z22, z23, z24, z25, z31, eqDs, eqD, Nat.reduceAdd, wrap64]); first | exact elp_m (by omega) (by first | omega | (simp only [List.length_set]; omega)) (fun _ => rfl) | exact eld_m (by omega) (by first | omega | (simp only [List.length_set]; omega)) (fun _ => rfl) | exact els_m (by omega) (by omega) (by omega) rfl | exact lsl_m (by omega) (fun _ => rfl) | exact app_nil_m (by omega) (fun _ => rfl) (fun _ => rfl) | exact app_m_one (by omega) (fun _ => rfl) rfl rfl | exact app_m_m (by omega) (fun _ => rfl) (fun _ => rfl)) ?_)
  | (refine run_need rfl (by first | decide | omega | (simp only [List.length_map]; omega)) ?_)
  | (refine run_need rfl ?_ ?_)
  | (refine run_ret rfl ?_ ; first | refine rb ?_ | refine ri ?_ | refine rs2 ?_ ?_ | refine rs1 ?_)
  | (refine run_retx rfl ?_))
  omega

theorem markDepS_ok (l : List P2) (k : Int) (h0 : 0 ≤ k) (hk : k + 2 * l.length ≤ 1099511627776) : FunOk PP W n_l_markDepS s_l_markDepS_X [eP2s l, i64 k] [i64 (k + 2 * l.length), eP2s (markP2 l k)] := by
 refine F_l_markDepS_X (run_fun ?_)
 (repeat' first
  | (refine run_ite rfl (fun h => ?_) (fun h => ?_) <;> (try simp (disch := omega) only [zA, z13, z19, z20, z21, z22, z23, z24, z25, z31, eqDs, eqD, Nat.reduceAdd, wrap64] at h) <;> (try (exfalso; omega)))
  | (refine run_need rfl (by (try simp (disch := omega) only [zA, z13, z19, z20, z21, z22, z23, z24, z25, z31, eqDs, eqD, Nat.reduceAdd, wrap64]); first | exact elp_m (by omega) (by first | omega | (simp only [List.length_set]; omega)) (fun _ => rfl) | exact eld_m (by omega) (by first | omega | (simp only [List.length_set]; omega)) (fun _ => rfl) | exact els_m (by omega) (by omega) (by omega) rfl | exact lsl_m (by omega) (fun _ => rfl) | exact app_nil_m (by omega) (fun _ => rfl) (fun _ => rfl) | exact app_m_one (by omega) (fun _ => rfl) rfl rfl | exact app_m_m (by omega) (fun _ => rfl) (fun _ => rfl)) ?_)
  | (refine run_need rfl (by first | decide | omega | (simp only [List.length_map]; omega)) ?_)
  | (refine run_need rfl ?_ ?_)
  | (refine run_ret rfl ?_ ; first | refine rb ?_ | refine ri ?_ | refine rs2 ?_ ?_ | refine rs1 ?_)
  | (refine run_retx rfl ?_))
 refine run_loop rfl (fun x : Int × List P2 => 0 ≤ x.1 ∧ x.1 ≤ l.length ∧ x.2.length = l.length ∧ Blw x.1 (fun j => ix x.2 j = ⟨k + 2 * j, k + 2 * j + 1⟩)) (fun x => [(5, .val (i64 x.1)), (1, .val (i64 (k + 2 * x.1))), (0, .val (eP2s x.2))]) (fun x => (l.length - x.1).toNat) (0, l) ⟨by omega, by simp, rfl, blw_zero _⟩ ⟨rfl, i64_eq (by simp), rfl, trivial⟩ rfl ?_
 rintro ⟨i, ys⟩ e ⟨i0, hN, hy, hP⟩
 dsimp only at i0 hN hy hP ⊢
 (repeat' first
  | (refine run_ite rfl (fun h => ?_) (fun h => ?_) <;> (try simp (disch := omega) only [zA, z13, z19, z20, z21, z22, z23, z24, z25, z31, eqDs, eqD, Nat.reduceAdd, wrap64] at h) <;> (try (exfalso; omega)))
  | (refine run_need rfl (by (try simp (disch := omega) only [zA, z13, z19, z20, z21, z22, z23, z24, z25, z31, eqDs, eqD, Nat.reduceAdd, wrap64]); first | exact elp_m (by omega) (by first | omega | (simp only [List.length_set]; omega)) (fun _ => rfl) | exact eld_m (by omega) (by first | omega | (simp only [List.length_set]; omega)) (fun _ => rfl) | exact els_m (by omega) (by omega) (by omega) rfl | exact lsl_m (by omega) (fun _ => rfl) | exact app_nil_m (by omega) (fun _ => rfl) (fun _ => rfl) | exact app_m_one (by omega) (fun _ => rfl) rfl rfl | exact app_m_m (by omega) (fun _ => rfl) (fun _ => rfl)) ?_)
  | (refine run_need rfl (by first | decide | omega | (simp only [List.length_map]; omega)) ?_)
  | (refine run_elsc rfl (els_gx (sz := 2) i0 (by first | omega | (simp only [List.length_set]; omega)) (by first | omega | (simp only [List.length_set]; omega)) (fun _ => rfl) (Nat.le_of_ble_eq_true rfl)) (sl_eq (elsP2_0 i0 (by omega))) ?_)
  | (refine run_elsc rfl (els_gx (sz := 2) i0 (by first | omega | (simp only [List.length_set]; omega)) (by first | omega | (simp only [List.length_set]; omega)) (fun _ => rfl) (Nat.le_of_ble_eq_true rfl)) (sl_eq ((elsP2_1 i0 (by first | omega | (simp only [List.length_set]; omega))).trans (by rw [ix_ssx i0 (by omega), List.set_set, wrap64 _ (by omega)]))) ?_)
  | (refine run_next rfl (Exists.intro (i + 1, ys.set i.toNat ⟨k + 2 * i, k + 2 * i + 1⟩) ⟨by dsimp only; omega, ⟨by dsimp only; omega, by dsimp only; omega, by simpa using hy, blw_put (f := fun j => (⟨k + 2 * j, k + 2 * j + 1⟩ : P2)) i0 (by omega) hP⟩, i64_eq (wrap64 _ (by omega)), i64_eq (by rw [wrap64 (k + 2 * i + 1) (by omega), wrap64 _ (by omega)]; dsimp only; omega), rfl, trivial⟩))
  | (refine run_need rfl ?_ ?_)
  | (refine run_ret rfl ?_ ; first | refine rb ?_ | refine ri ?_ | refine rs2 ?_ ?_ | refine rs1 ?_)
  | (refine run_retx rfl ?_))
 ·exact i64_eq (by omega)
 ·refine sl_eq ?_
  rw [ix_ext (xs := ys) (ys := markP2 l k) (by rw [markP2_len, hy]) (fun j j0 j1 => (hP j j0 (by omega)).trans (markP2_ix l k j0 (by omega)).symm)]
theorem heldDepS_ok (l : List P2) (k : Int) (h0 : 0 ≤ k) (hk : k + 2 * l.length ≤ 1099511627776) (hh : Blw l.length (fun j => ix l j = ⟨k + 2 * j, k + 2 * j + 1⟩)) : FunOk PP W n_l_heldDepS s_l_heldDepS [eP2s l, i64 k] [i64 (k + 2 * l.length)] := by
 refine F_l_heldDepS (run_fun ?_)
 (repeat' first
  | (refine run_ite rfl (fun h => ?_) (fun h => ?_) <;> (try simp (disch := omega) only [zA, z13, z19, z20, z21, z22, z23, z24, z25, z31, eqDs, eqD, Nat.reduceAdd, wrap64] at h) <;> (try (exfalso; omega)))
  | (refine run_need rfl (by (try simp (disch := omega) only [zA, z13, z19, z20, z21, z22, z23, z24, z25, z31, eqDs, eqD, Nat.reduceAdd, wrap64]); first | exact elp_m (by omega) (by first | omega | (simp only [List.length_set]; omega)) (fun _ => rfl) | exact eld_m (by omega) (by first | omega | (simp only [List.length_set]; omega)) (fun _ => rfl) | exact els_m (by omega) (by omega) (by omega) rfl | exact lsl_m (by omega) (fun _ => rfl) | exact app_nil_m (by omega) (fun _ => rfl) (fun _ => rfl) | exact app_m_one (by omega) (fun _ => rfl) rfl rfl | exact app_m_m (by omega) (fun _ => rfl) (fun _ => rfl)) ?_)
  | (refine run_need rfl (by first | decide | omega | (simp only [List.length_map]; omega)) ?_)
  | (refine run_need rfl ?_ ?_)
  | (refine run_ret rfl ?_ ; first | refine rb ?_ | refine ri ?_ | refine rs2 ?_ ?_ | refine rs1 ?_)
  | (refine run_retx rfl ?_))
 refine run_loop rfl (fun x : Int => 0 ≤ x ∧ x ≤ l.length) (fun x => [(5, .val (i64 x)), (1, .val (i64 (k + 2 * x))), (0, .val (eP2s l))]) (fun x => (l.length - x).toNat) 0 ⟨by omega, by simp⟩ ⟨rfl, i64_eq (by simp), rfl, trivial⟩ rfl ?_
 rintro i e ⟨i0, hN⟩
 by_cases hi : i < l.length
 ·have hx : ix l i = ⟨k + 2 * i, k + 2 * i + 1⟩ := hh i i0 hi
  have hxa : (ix l i).a = k + 2 * i := by rw [hx]
  have hxb : (ix l i).b = k + 2 * i + 1 := by rw [hx]
  (repeat' first
  | (refine run_ite rfl (fun h => ?_) (fun h => ?_) <;> (try simp (disch := omega) only [zA, z13, z19, z20, z21, z22, z23, z24, z25, z31, eqDs, eqD, Nat.reduceAdd, wrap64] at h) <;> (try (exfalso; omega)))
  | (refine run_need rfl (by (try simp (disch := omega) only [zA, z13, z19, z20, z21, z22, z23, z24, z25, z31, eqDs, eqD, Nat.reduceAdd, wrap64]); first | exact elp_m (by omega) (by first | omega | (simp only [List.length_set]; omega)) (fun _ => rfl) | exact eld_m (by omega) (by first | omega | (simp only [List.length_set]; omega)) (fun _ => rfl) | exact els_m (by omega) (by omega) (by omega) rfl | exact lsl_m (by omega) (fun _ => rfl) | exact app_nil_m (by omega) (fun _ => rfl) (fun _ => rfl) | exact app_m_one (by omega) (fun _ => rfl) rfl rfl | exact app_m_m (by omega) (fun _ => rfl) (fun _ => rfl)) ?_)
  | (refine run_need rfl (by first | decide | omega | (simp only [List.length_map]; omega)) ?_)
  | (refine run_next rfl (Exists.intro (i + 1) ⟨by omega, ⟨by omega, by omega⟩, i64_eq (wrap64 _ (by omega)), i64_eq (by rw [wrap64 (k + 2 * i + 1) (by omega), wrap64 _ (by omega)]; omega), rfl, trivial⟩))
  | (refine run_need rfl ?_ ?_)
  | (refine run_ret rfl ?_ ; first | refine rb ?_ | refine ri ?_ | refine rs2 ?_ ?_ | refine rs1 ?_)
  | (refine run_retx rfl ?_))
 ·(repeat' first
  | (refine run_ite rfl (fun h => ?_) (fun h => ?_) <;> (try simp (disch := omega) only [zA, z13, z19, z20, z21, z22, z23, z24, z25, z31, eqDs, eqD, Nat.reduceAdd, wrap64] at h) <;> (try (exfalso; omega)))
  | (refine run_need rfl (by (try simp (disch := omega) only [zA, z13, z19, z20, z21, z22, z23, z24, z25, z31, eqDs, eqD, Nat.reduceAdd, wrap64]); first | exact elp_m (by omega) (by first | omega | (simp only [List.length_set]; omega)) (fun _ => rfl) | exact eld_m (by omega) (by first | omega | (simp only [List.length_set]; omega)) (fun _ => rfl) | exact els_m (by omega) (by omega) (by omega) rfl | exact lsl_m (by omega) (fun _ => rfl) | exact app_nil_m (by omega) (fun _ => rfl) (fun _ => rfl) | exact app_m_one (by omega) (fun _ => rfl) rfl rfl | exact app_m_m (by omega) (fun _ => rfl) (fun _ => rfl)) ?_)
  | (refine run_need rfl (by first | decide | omega | (simp only [List.length_map]; omega)) ?_)
  | (refine run_need rfl ?_ ?_)
  | (refine run_ret rfl ?_ ; first | refine rb ?_ | refine ri ?_ | refine rs2 ?_ ?_ | refine rs1 ?_)
  | (refine run_retx rfl ?_))
  omega
end V
end Go.Proofs.Ytgialjcichiaoaa

/-
Plain proofs: packages that are marked, and found marked.
-/
namespace Go.Proofs.Ytgialjcichiaoaa
namespace V
open Classical
set_option maxRecDepth 100000
variable {W : Wld}

def cntP (p : Pk) : Int := 2 + 2 * p.files.length + 2 * p.deps.length
theorem cntP_nn (p : Pk) : 0 ≤ cntP p := by unfold cntP; omega
def cntPs (ps : List Pk) : Int := sumF cntP ps
def markPk (p : Pk) (k : Int) : Pk := ⟨k, k + 1, markP2 p.files (k + 2), markP2 p.deps (k + 2 + 2 * p.files.length)⟩
def markPs (l : List Pk) (k : Int) : List Pk := (List.range l.length).map fun (j : Nat) => markPk (ix l j) (k + cntPs (l.take j))
theorem markPs_len (l : List Pk) (k : Int) : (markPs l k).length = l.length := by simp [markPs]
theorem markPs_ix (l : List Pk) (k : Int) {i : Int} (h0 : 0 ≤ i) (h1 : i < l.length) : ix (markPs l k) i = markPk (ix l i) (k + cntPs (l.take i.toNat)) := by
 unfold markPs
 rw [ix_range h0 h1]
 simp only [show ((i.toNat : Nat) : Int) = i by omega]
theorem cntP_mark (p : Pk) (k : Int) : cntP (markPk p k) = cntP p := by simp [cntP, markPk, markP2_len]
theorem sumF_ext {α : Type} [Inhabited α] {f : α → Int} {xs ys : List α} (hl : xs.length = ys.length) (h : Blw xs.length (fun i => f (ix xs i) = f (ix ys i))) : sumF f xs = sumF f ys := by
 unfold sumF
 congr 1
 refine List.ext_getElem (by simp [hl]) (fun n h1 h2 => ?_)
 have h1' : n < xs.length := by simpa using h1
 have h2' : n < ys.length := by simpa using h2
 have h3 : f (ix xs (n : Int)) = f (ix ys (n : Int)) := h n (by omega) (by omega)
 simpa [ix, h1', h2'] using h3
theorem ix_takeN {α : Type} [Inhabited α] (xs : List α) {n : Nat} {i : Int} (h0 : 0 ≤ i) (h1 : i < n) : ix (xs.take n) i = ix xs i := by
 have : i.toNat < n := by omega
 simp only [ix, List.getD_eq_getElem?_getD]
 rw [List.getElem?_take_of_lt this]
theorem cntPs_mark (l : List Pk) (k : Int) (n : Nat) : cntPs ((markPs l k).take n) = cntPs (l.take n) := by
 refine sumF_ext (by simp [markPs_len]) (fun i h0 h1 => ?_)
 simp only [List.length_take, markPs_len] at h1
 show cntP _ = cntP _
 rw [ix_takeN _ h0 (by omega), ix_takeN _ h0 (by omega), markPs_ix l k h0 (by omega), cntP_mark]
theorem cntPs_mark' (l : List Pk) (k : Int) : cntPs (markPs l k) = cntPs l := by
 have := cntPs_mark l k l.length
 rwa [List.take_of_length_le (by rw [markPs_len]; exact Nat.le_refl _), List.take_of_length_le (Nat.le_refl _)] at this
theorem cntPs_nn (l : List Pk) : 0 ≤ cntPs l := sumF_nn cntP_nn l

theorem len_cnt : ∀ l : List Pk, 2 * (l.length : Int) ≤ cntPs l
 | [] => by simp [cntPs, sumF]
 | p :: r => by
  have h := len_cnt r
  simp only [cntPs, sumF, List.map_cons, List.sum_cons, List.length_cons] at *
  have : cntP p = 2 + 2 * p.files.length + 2 * p.deps.length := rfl
  omega
theorem get_ss {α : Type} [Inhabited α] {enc : α → List D} {ys : List α} {i : Int} {q : α} (h0 : 0 ≤ i) (h1 : i < ys.length) : ((ys.set i.toNat q).map enc)[i.toNat]? = some (enc q) := by
 have : i.toNat < ys.length := by omega
 simp [this]
theorem set_ss {α : Type} {enc : α → List D} {ys : List α} {i : Int} {q q' : α} {j : Nat} {d : D} (h : (enc q).set j d = enc q') : ([.sl ((ys.set i.toNat q).map enc)] : List D).set 0 (.sl (((ys.set i.toNat q).map enc).set i.toNat ((enc q).set j d))) = [.sl ((ys.set i.toNat q').map enc)] := by
 rw [h, ← List.map_set, List.set_set]
 rfl

theorem blw_from {α : Type} [Inhabited α] {l ys : List α} {i : Int} {z : α} (h0 : 0 ≤ i) (h1 : i < ys.length) (h : ∀ j, i ≤ j → ix ys j = ix l j) : ∀ j, i + 1 ≤ j → ix (ys.set i.toNat z) j = ix l j := fun j hj => by
 rw [ix_sgx h0 h1 (by omega), if_neg (by omega)]
 exact h j (by omega)

theorem markPkgS_ok (l : List Pk) (k : Int) (h0 : 0 ≤ k) (hk : k + cntPs l ≤ 1099511627776) : FunOk PP W n_l_markPkgS s_l_markPkgS_X [ePks l, i64 k] [i64 (k + cntPs l), ePks (markPs l k)] := by
 refine F_l_markPkgS_X (run_fun ?_)
 have hlc := len_cnt l
 (repeat' first
  | (refine run_ite rfl (fun h => ?_) (fun h => ?_) <;> (try simp (disch := omega) only [zA, z13, z19, z20, z21, z22, z23, z24, z25, z31, eqDs, eqD, Nat.reduceAdd, wrap64] at h) <;> (try (exfalso; omega)))
  | (refine run_need rfl (by (try simp (disch := omega) only [zA, z13, z19, z20, z21, z22, z23, z24, z25, z31, eqDs, eqD, Nat.reduceAdd, wrap64]); first | exact elp_m (by omega) (by first | omega | (simp only [List.length_set]; omega)) (fun _ => rfl) | exact eld_m (by omega) (by first | omega | (simp only [List.length_set]; omega)) (fun _ => rfl) | exact els_m (by omega) (by omega) (by omega) rfl | exact lsl_m (by omega) (fun _ => rfl) | exact app_nil_m (by omega) (fun _ => rfl) (fun _ => rfl) | exact app_m_one (by omega) (fun _ => rfl) rfl rfl | exact app_m_m (by omega) (fun _ => rfl) (fun _ => rfl)) ?_)
  | (refine run_need rfl (by first | decide | omega | (simp only [List.length_map]; omega)) ?_)
  | (refine run_need rfl ?_ ?_)
  | (refine run_ret rfl ?_ ; first | refine rb ?_ | refine ri ?_ | refine rs2 ?_ ?_ | refine rs1 ?_)
  | (refine run_retx rfl ?_))
 refine run_loop rfl (fun x : Int × List Pk => 0 ≤ x.1 ∧ x.1 ≤ l.length ∧ x.2.length = l.length ∧ Blw x.1 (fun j => ix x.2 j = markPk (ix l j) (k + cntPs (l.take j.toNat))) ∧ ∀ j, x.1 ≤ j → ix x.2 j = ix l j)
  (fun x => [(5, .val (i64 x.1)), (1, .val (i64 (k + cntPs (l.take x.1.toNat)))), (0, .val (ePks x.2))]) (fun x => (l.length - x.1).toNat) (0, l) ⟨by omega, by simp, rfl, blw_zero _, fun _ _ => rfl⟩ ⟨rfl, i64_eq (by simp [cntPs, sumF]), rfl, trivial⟩ rfl ?_
 rintro ⟨i, ys⟩ e ⟨i0, hN, hy, hP, hI⟩
 dsimp only at i0 hN hy hP hI ⊢
 have hnn : 0 ≤ cntPs (l.take i.toNat) := cntPs_nn _
 by_cases hi : i < l.length
 ·have hix : ix ys i = ix l i := hI i (by omega)
  have hle := sumF_le cntP_nn l (i + 1).toNat
  have ht := sumF_take cntP l i0 hi
  have hc : cntP (ix l i) = 2 + 2 * (ix l i).files.length + 2 * (ix l i).deps.length := rfl
  simp only [show sumF cntP = cntPs from rfl] at hle ht
  generalize hK : k + cntPs (l.take i.toNat) = K at *
  have f1 := markFileS_ok (W := W) (ix l i).files (K + 2) (by omega) (by omega)
  have f2 := markDepS_ok (W := W) (ix l i).deps (K + 2 + 2 * (ix l i).files.length) (by omega) (by omega)
  (repeat' first
  | (refine run_ite rfl (fun h => ?_) (fun h => ?_) <;> (try simp (disch := omega) only [zA, z13, z19, z20, z21, z22, z23, z24, z25, z31, eqDs, eqD, Nat.reduceAdd, wrap64] at h) <;> (try (exfalso; omega)))
  | (refine run_need rfl (by (try simp (disch := omega) only [zA, z13, z19, z20, z21, z22, z23, z24, z25, z31, eqDs, eqD, Nat.reduceAdd, wrap64]); first | exact elp_m (by omega) (by first | omega | (simp only [List.length_set]; omega)) (fun _ => rfl) | exact eld_m (by omega) (by first | omega | (simp only [List.length_set]; omega)) (fun _ => rfl) | exact els_m (by omega) (by omega) (by omega) rfl | exact lsl_m (by omega) (fun _ => rfl) | exact app_nil_m (by omega) (fun _ => rfl) (fun _ => rfl) | exact app_m_one (by omega) (fun _ => rfl) rfl rfl | exact app_m_m (by omega) (fun _ => rfl) (fun _ => rfl)) ?_)
  | (refine run_need rfl (by first | decide | omega | (simp only [List.length_map]; omega)) ?_)
  | (refine run_elsc rfl (els_gx (sz := 4) i0 (by omega) (by omega) (fun _ => rfl) (Nat.le_of_ble_eq_true rfl)) (sl_eq ((elsPk_0 i0 (by omega)).trans (by rw [hix]))) ?_)
  | (refine run_elsc (c := [.sl ((ys.set i.toNat ⟨K, K + 1, (ix l i).files, (ix l i).deps⟩).map ePk)]) rfl (els_gx (sz := 4) i0 (by simp only [List.length_set]; omega) (by simp only [List.length_set]; omega) (fun _ => rfl) (Nat.le_of_ble_eq_true rfl)) (sl_eq ((elsPk_1 i0 (by simp only [List.length_set]; omega)).trans (by rw [ix_ssx i0 (by omega), List.set_set, wrap64 _ (by omega)]))) ?_)
  | (refine run_ioe rfl rfl rfl (get_ss i0 (by omega)) (get_ss i0 (by omega)) rfl rfl f1 (i64_eq (by rw [wrap64 (K + 1) (by omega), wrap64 _ (by omega)]; omega)) (set_ss (q' := ⟨K, K + 1, markP2 (ix l i).files (K + 2), (ix l i).deps⟩) rfl) ?_)
  | (refine run_ioe rfl rfl rfl (get_ss i0 (by omega)) (get_ss i0 (by omega)) rfl rfl f2 rfl (set_ss (q' := ⟨K, K + 1, markP2 (ix l i).files (K + 2), markP2 (ix l i).deps (K + 2 + 2 * (ix l i).files.length)⟩) rfl) ?_)
  | (refine run_next rfl (Exists.intro (i + 1, ys.set i.toNat (markPk (ix l i) K)) ⟨?_, ⟨?_, ?_, ?_, ?_, ?_⟩, ?_, ?_, ?_, trivial⟩))
  | (refine run_need rfl ?_ ?_)
  | (refine run_ret rfl ?_ ; first | refine rb ?_ | refine ri ?_ | refine rs2 ?_ ?_ | refine rs1 ?_)
  | (refine run_retx rfl ?_))
  ·dsimp only; omega
  ·dsimp only; omega
  ·dsimp only; omega
  ·simpa using hy
  ·subst hK
   exact blw_put (f := fun j => markPk (ix l j) (k + cntPs (l.take j.toNat))) i0 (by omega) hP
  ·exact blw_from i0 (by omega) hI
  ·exact i64_eq (wrap64 _ (by omega))
  ·exact i64_eq (by dsimp only; omega)
  ·rfl
 ·(repeat' first
  | (refine run_ite rfl (fun h => ?_) (fun h => ?_) <;> (try simp (disch := omega) only [zA, z13, z19, z20, z21, z22, z23, z24, z25, z31, eqDs, eqD, Nat.reduceAdd, wrap64] at h) <;> (try (exfalso; omega)))
  | (refine run_need rfl (by (try simp (disch := omega) only [zA, z13, z19, z20, z21, z22, z23, z24, z25, z31, eqDs, eqD, Nat.reduceAdd, wrap64]); first | exact elp_m (by omega) (by first | omega | (simp only [List.length_set]; omega)) (fun _ => rfl) | exact eld_m (by omega) (by first | omega | (simp only [List.length_set]; omega)) (fun _ => rfl) | exact els_m (by omega) (by omega) (by omega) rfl | exact lsl_m (by omega) (fun _ => rfl) | exact app_nil_m (by omega) (fun _ => rfl) (fun _ => rfl) | exact app_m_one (by omega) (fun _ => rfl) rfl rfl | exact app_m_m (by omega) (fun _ => rfl) (fun _ => rfl)) ?_)
  | (refine run_need rfl (by first | decide | omega | (simp only [List.length_map]; omega)) ?_)
  | (refine run_need rfl ?_ ?_)
  | (refine run_ret rfl ?_ ; first | refine rb ?_ | refine ri ?_ | refine rs2 ?_ ?_ | refine rs1 ?_)
  | (refine run_retx rfl ?_))
  ·rw [List.take_of_length_le (by omega)]
  ·refine sl_eq ?_
   rw [ix_ext (xs := ys) (ys := markPs l k) (by rw [markPs_len, hy]) (fun j j0 j1 => (hP j j0 (by omega)).trans (markPs_ix l k j0 (by omega)).symm)]

def HdP2 (l : List P2) (k : Int) : Prop := Blw l.length (fun j => ix l j = ⟨k + 2 * j, k + 2 * j + 1⟩)
def HdPk (p : Pk) (k : Int) : Prop := p.name = k ∧ p.ver = k + 1 ∧ HdP2 p.files (k + 2) ∧ HdP2 p.deps (k + 2 + 2 * p.files.length)
def HdPs (l : List Pk) (k : Int) : Prop := Blw l.length (fun j => HdPk (ix l j) (k + cntPs (l.take j.toNat)))
theorem hdP2_mark (l : List P2) (k : Int) : HdP2 (markP2 l k) k := fun j j0 j1 => by
 rw [markP2_len] at j1
 exact markP2_ix l k j0 j1
theorem hdPk_mark (p : Pk) (k : Int) : HdPk (markPk p k) k := ⟨rfl, rfl, hdP2_mark _ _, by
 show HdP2 (markP2 p.deps (k + 2 + 2 * p.files.length)) (k + 2 + 2 * (markP2 p.files (k + 2)).length)
 rw [markP2_len]
 exact hdP2_mark _ _⟩
theorem hdPs_mark (l : List Pk) (k : Int) : HdPs (markPs l k) k := fun j j0 j1 => by
 rw [markPs_len] at j1
 show HdPk (ix (markPs l k) j) (k + cntPs ((markPs l k).take j.toNat))
 rw [cntPs_mark, markPs_ix l k j0 j1]
 exact hdPk_mark _ _

theorem heldPkgS_ok (l : List Pk) (k : Int) (h0 : 0 ≤ k) (hk : k + cntPs l ≤ 1099511627776) (hh : HdPs l k) : FunOk PP W n_l_heldPkgS s_l_heldPkgS [ePks l, i64 k] [i64 (k + cntPs l)] := by
 refine F_l_heldPkgS (run_fun ?_)
 have hlc := len_cnt l
 (repeat' first
  | (refine run_ite rfl (fun h => ?_) (fun h => ?_) <;> (try simp (disch := omega) only [zA, z13, z19, z20, z21, z22, z23, z24, z25, z31, eqDs, eqD, Nat.reduceAdd, wrap64] at h) <;> (try (exfalso; omega)))
  | (refine run_need rfl (by (try simp (disch := omega) only [zA, z13, z19, z20, z21, z22, z23, z24, z25, z31, eqDs, eqD, Nat.reduceAdd, wrap64]); first | exact elp_m (by omega) (by first | omega | (simp only [List.length_set]; omega)) (fun _ => rfl) | exact eld_m (by omega) (by first | omega | (simp only [List.length_set]; omega)) (fun _ => rfl) | exact els_m (by omega) (by omega) (by omega) rfl | exact lsl_m (by omega) (fun _ => rfl) | exact app_nil_m (by omega) (fun _ => rfl) (fun _ => rfl) | exact app_m_one (by omega) (fun _ => rfl) rfl rfl | exact app_m_m (by omega) (fun _ => rfl) (fun _ => rfl)) ?_)
  | (refine run_need rfl (by first | decide | omega | (simp only [List.length_map]; omega)) ?_)
  | (refine run_need rfl ?_ ?_)
  | (refine run_ret rfl ?_ ; first | refine rb ?_ | refine ri ?_ | refine rs2 ?_ ?_ | refine rs1 ?_)
  | (refine run_retx rfl ?_))
 refine run_loop rfl (fun i : Int => 0 ≤ i ∧ i ≤ l.length) (fun i => [(5, .val (i64 i)), (1, .val (i64 (k + cntPs (l.take i.toNat)))), (0, .val (ePks l))]) (fun i => (l.length - i).toNat) 0 ⟨by omega, by simp⟩ ⟨rfl, i64_eq (by simp [cntPs, sumF]), rfl, trivial⟩ rfl ?_
 rintro i e ⟨i0, hN⟩
 have hnn : 0 ≤ cntPs (l.take i.toNat) := cntPs_nn _
 by_cases hi : i < l.length
 ·have hle := sumF_le cntP_nn l (i + 1).toNat
  have ht := sumF_take cntP l i0 hi
  have hc : cntP (ix l i) = 2 + 2 * (ix l i).files.length + 2 * (ix l i).deps.length := rfl
  simp only [show sumF cntP = cntPs from rfl] at hle ht
  obtain ⟨g1, g2, g3, g4⟩ := hh i i0 hi
  generalize hK : k + cntPs (l.take i.toNat) = K at *
  have f1 := heldFileS_ok (W := W) (ix l i).files (K + 2) (by omega) (by omega) g3
  have f2 := heldDepS_ok (W := W) (ix l i).deps (K + 2 + 2 * (ix l i).files.length) (by omega) (by omega) g4
  have w1 : IntKind.i64.wrap (IntKind.i64.wrap (K + 1) + 1) = K + 2 := by rw [wrap64 (K + 1) (by omega), wrap64 _ (by omega)]; omega
  (repeat' first
  | (refine run_ite rfl (fun h => ?_) (fun h => ?_) <;> (try simp (disch := omega) only [zA, z13, z19, z20, z21, z22, z23, z24, z25, z31, eqDs, eqD, Nat.reduceAdd, wrap64] at h) <;> (try (exfalso; omega)))
  | (refine run_need rfl (by (try simp (disch := omega) only [zA, z13, z19, z20, z21, z22, z23, z24, z25, z31, eqDs, eqD, Nat.reduceAdd, wrap64]); first | exact elp_m (by omega) (by first | omega | (simp only [List.length_set]; omega)) (fun _ => rfl) | exact eld_m (by omega) (by first | omega | (simp only [List.length_set]; omega)) (fun _ => rfl) | exact els_m (by omega) (by omega) (by omega) rfl | exact lsl_m (by omega) (fun _ => rfl) | exact app_nil_m (by omega) (fun _ => rfl) (fun _ => rfl) | exact app_m_one (by omega) (fun _ => rfl) rfl rfl | exact app_m_m (by omega) (fun _ => rfl) (fun _ => rfl)) ?_)
  | (refine run_need rfl (by first | decide | omega | (simp only [List.length_map]; omega)) ?_)
  | (refine run_calleq rfl f1 (rs2 (sl_eq (z5 _ _)) (i64_eq w1)) rfl ?_)
  | (refine run_calleq rfl f2 (rs2 (sl_eq (z6 _ _)) rfl) rfl ?_)
  | (refine run_next rfl (Exists.intro (i + 1) ⟨by omega, ⟨by omega, by omega⟩, i64_eq (wrap64 _ (by omega)), i64_eq (by omega), rfl, trivial⟩))
  | (refine run_need rfl ?_ ?_)
  | (refine run_ret rfl ?_ ; first | refine rb ?_ | refine ri ?_ | refine rs2 ?_ ?_ | refine rs1 ?_)
  | (refine run_retx rfl ?_))
 ·(repeat' first
  | (refine run_ite rfl (fun h => ?_) (fun h => ?_) <;> (try simp (disch := omega) only [zA, z13, z19, z20, z21, z22, z23, z24, z25, z31, eqDs, eqD, Nat.reduceAdd, wrap64] at h) <;> (try (exfalso; omega)))
  | (refine run_need rfl (by (try simp (disch := omega) only [zA, z13, z19, z20, z21, z22, z23, z24, z25, z31, eqDs, eqD, Nat.reduceAdd, wrap64]); first | exact elp_m (by omega) (by first | omega | (simp only [List.length_set]; omega)) (fun _ => rfl) | exact eld_m (by omega) (by first | omega | (simp only [List.length_set]; omega)) (fun _ => rfl) | exact els_m (by omega) (by omega) (by omega) rfl | exact lsl_m (by omega) (fun _ => rfl) | exact app_nil_m (by omega) (fun _ => rfl) (fun _ => rfl) | exact app_m_one (by omega) (fun _ => rfl) rfl rfl | exact app_m_m (by omega) (fun _ => rfl) (fun _ => rfl)) ?_)
  | (refine run_need rfl (by first | decide | omega | (simp only [List.length_map]; omega)) ?_)
  | (refine run_need rfl ?_ ?_)
  | (refine run_ret rfl ?_ ; first | refine rb ?_ | refine ri ?_ | refine rs2 ?_ ?_ | refine rs1 ?_)
  | (refine run_retx rfl ?_))
  rw [List.take_of_length_le (by omega)]
end V
end Go.Proofs.Ytgialjcichiaoaa

/-
Plain proofs, the program's packages.
-/
namespace Go.Proofs.Ytgialjcichiaoaa
namespace V
open Classical
set_option maxRecDepth 100000
variable {W : Wld}

theorem iPkgOk_ok (p : Pk) (hs : SmP p) : FunOk PP W n_i_PkgOk s_i_PkgOk [ePk p] [bo (decide (PkOk p))] := by
 refine F_i_PkgOk (run_fun ?_)
 obtain ⟨hs1, hs2⟩ := hs
 unfold lim at hs1 hs2
 (repeat' first
  | (refine run_ite rfl (fun h => ?_) (fun h => ?_) <;> (try simp (disch := omega) only [zA, z13, z19, z20, z21, z22, z23, z24, z25, z31, eqDs, eqD, Nat.reduceAdd, wrap64] at h) <;> (try (exfalso; omega)))
  | (refine run_need rfl (by (try simp (disch := omega) only [zA, z13, z19, z20, z21, z22, z23, z24, z25, z31, eqDs, eqD, Nat.reduceAdd, wrap64]); first | exact elp_m (by omega) (by first | omega | (simp only [List.length_set]; omega)) (fun _ => rfl) | exact eld_m (by omega) (by first | omega | (simp only [List.length_set]; omega)) (fun _ => rfl) | exact els_m (by omega) (by omega) (by omega) rfl | exact lsl_m (by omega) (fun _ => rfl) | exact app_nil_m (by omega) (fun _ => rfl) (fun _ => rfl) | exact app_m_one (by omega) (fun _ => rfl) rfl rfl | exact app_m_m (by omega) (fun _ => rfl) (fun _ => rfl)) ?_)
  | (refine run_need rfl (by first | decide | omega | (simp only [List.length_map]; omega)) ?_)
  | (refine run_call1 rfl (isName_ok ..) rfl ?_)
  | (refine run_call1 rfl (isVer_ok ..) rfl ?_)
  | (refine run_need rfl ?_ ?_)
  | (refine run_ret rfl ?_ ; first | refine rb ?_ | refine ri ?_ | refine rs2 ?_ ?_ | refine rs1 ?_)
  | (refine run_retx rfl ?_))
 ·exact fD (fun h => by unfold PkOk at h; omega)
 ·exact fD (fun h => by unfold PkOk at h; omega)
 ·exact fD (fun h => by unfold PkOk FilesOk at h; omega)
 ·exact fD (fun h => by unfold PkOk DepsOk at h; omega)
 rename_i q1 q2 q3
 have q4 := h
 clear h
 refine run_loop rfl (fun i : Int => 0 ≤ i ∧ i ≤ p.files.length ∧ Blw i (FileAt p.files)) (fun i => [(32, .val (i64 i)), (30, .val (eP2s p.files)), (31, .val (i64 (p.files.map eP2).length)), (1, .val (ePk p))]) (fun i => (p.files.length - i).toNat) 0 ⟨by omega, by omega, blw_zero _⟩ ⟨rfl, rfl, rfl, rfl, trivial⟩ rfl ?_
 rintro i e ⟨h0, hN, hP⟩
 (repeat' first
  | (refine run_ite rfl (fun h => ?_) (fun h => ?_) <;> (try simp (disch := omega) only [zA, z13, z19, z20, z21, z22, z23, z24, z25, z31, eqDs, eqD, Nat.reduceAdd, wrap64] at h) <;> (try (exfalso; omega)))
  | (refine run_need rfl (by (try simp (disch := omega) only [zA, z13, z19, z20, z21, z22, z23, z24, z25, z31, eqDs, eqD, Nat.reduceAdd, wrap64]); first | exact elp_m (by omega) (by first | omega | (simp only [List.length_set]; omega)) (fun _ => rfl) | exact eld_m (by omega) (by first | omega | (simp only [List.length_set]; omega)) (fun _ => rfl) | exact els_m (by omega) (by omega) (by omega) rfl | exact lsl_m (by omega) (fun _ => rfl) | exact app_nil_m (by omega) (fun _ => rfl) (fun _ => rfl) | exact app_m_one (by omega) (fun _ => rfl) rfl rfl | exact app_m_m (by omega) (fun _ => rfl) (fun _ => rfl)) ?_)
  | (refine run_need rfl (by first | decide | omega | (simp only [List.length_map]; omega)) ?_)
  | (refine run_call1 rfl (in_ok ..) rfl ?_)
  | (refine run_next rfl (Exists.intro (i + 1) ⟨by omega, ⟨by omega, by omega, blw_succ hP ?_⟩, i64_eq (wrap64 _ (by omega)), rfl, rfl, rfl, trivial⟩))
  | (refine run_need rfl ?_ ?_)
  | (refine run_ret rfl ?_ ; first | refine rb ?_ | refine ri ?_ | refine rs2 ?_ ?_ | refine rs1 ?_)
  | (refine run_retx rfl ?_))
 ·exact fD (fun ⟨_, _, ⟨h, _⟩, _⟩ => by have := h i (by omega) (by omega); unfold FileAt at this; omega)
 ·exact fD (fun ⟨_, _, ⟨h, _⟩, _⟩ => by have := h i (by omega) (by omega); unfold FileAt at this; omega)
 ·exact fD (fun ⟨_, _, ⟨h, _⟩, _⟩ => by have := h i (by omega) (by omega); unfold FileAt at this; omega)
 ·unfold FileAt; omega
 ·unfold FileAt; omega
 have hF : FilesOk p.files := ⟨blw_to hP (by omega), by omega⟩
 clear hP h0 hN
 refine run_loop rfl (fun i : Int => 0 ≤ i ∧ i ≤ p.deps.length ∧ Blw i (DepAt p.name p.deps)) (fun i => [(67, .val (i64 i)), (65, .val (eP2s p.deps)), (66, .val (i64 (p.deps.map eP2).length)), (1, .val (ePk p))]) (fun i => (p.deps.length - i).toNat) 0 ⟨by omega, by omega, blw_zero _⟩ ⟨rfl, rfl, rfl, rfl, trivial⟩ rfl ?_
 rintro i e ⟨h0, hN, hP⟩
 (repeat' first
  | (refine run_ite rfl (fun h => ?_) (fun h => ?_) <;> (try simp (disch := omega) only [zA, z13, z19, z20, z21, z22, z23, z24, z25, z31, eqDs, eqD, Nat.reduceAdd, wrap64] at h) <;> (try (exfalso; omega)))
  | (refine run_need rfl (by (try simp (disch := omega) only [zA, z13, z19, z20, z21, z22, z23, z24, z25, z31, eqDs, eqD, Nat.reduceAdd, wrap64]); first | exact elp_m (by omega) (by first | omega | (simp only [List.length_set]; omega)) (fun _ => rfl) | exact eld_m (by omega) (by first | omega | (simp only [List.length_set]; omega)) (fun _ => rfl) | exact els_m (by omega) (by omega) (by omega) rfl | exact lsl_m (by omega) (fun _ => rfl) | exact app_nil_m (by omega) (fun _ => rfl) (fun _ => rfl) | exact app_m_one (by omega) (fun _ => rfl) rfl rfl | exact app_m_m (by omega) (fun _ => rfl) (fun _ => rfl)) ?_)
  | (refine run_need rfl (by first | decide | omega | (simp only [List.length_map]; omega)) ?_)
  | (refine run_call1 rfl (isName_ok ..) rfl ?_)
  | (refine run_call1 rfl (isVer_ok ..) rfl ?_)
  | (refine run_next rfl (Exists.intro (i + 1) ⟨by omega, ⟨by omega, by omega, blw_succ hP ?_⟩, i64_eq (wrap64 _ (by omega)), rfl, rfl, rfl, trivial⟩))
  | (refine run_need rfl ?_ ?_)
  | (refine run_ret rfl ?_ ; first | refine rb ?_ | refine ri ?_ | refine rs2 ?_ ?_ | refine rs1 ?_)
  | (refine run_retx rfl ?_))
 ·exact fD (fun ⟨_, _, _, h, _⟩ => by have := h i (by omega) (by omega); unfold DepAt at this; omega)
 ·exact fD (fun ⟨_, _, _, h, _⟩ => by have := h i (by omega) (by omega); unfold DepAt at this; omega)
 ·exact fD (fun ⟨_, _, _, h, _⟩ => by have := h i (by omega) (by omega); unfold DepAt at this; omega)
 ·exact fD (fun ⟨_, _, _, h, _⟩ => by have := h i (by omega) (by omega); unfold DepAt at this; omega)
 ·unfold DepAt; omega
 ·unfold DepAt; omega
 ·exact tD ⟨q1, q2, hF, blw_to hP (by omega), by omega⟩

end V
end Go.Proofs.Ytgialjcichiaoaa

/-
Plain proofs: the program's stores.
-/
namespace Go.Proofs.Ytgialjcichiaoaa
namespace V
open Classical
set_option maxRecDepth 100000
variable {W : Wld}

theorem isNaN_ok (a : Int) : FunOk PP W n_cmp_isNaN_int s_cmp_isNaN_int [i64 a] [bo false] := by
 refine F_cmp_isNaN_int (run_fun ?_)
 (repeat' first
  | (refine run_ite rfl (fun h => ?_) (fun h => ?_) <;> (try simp (disch := omega) only [zA, z13, z19, z20, z21, z22, z23, z24, z25, z31, eqDs, eqD, Nat.reduceAdd, wrap64] at h) <;> (try (exfalso; omega)))
  | (refine run_need rfl (by (try simp (disch := omega) only [zA, z13, z19, z20, z21, z22, z23, z24, z25, z31, eqDs, eqD, Nat.reduceAdd, wrap64]); first | exact elp_m (by omega) (by first | omega | (simp only [List.length_set]; omega)) (fun _ => rfl) | exact eld_m (by omega) (by first | omega | (simp only [List.length_set]; omega)) (fun _ => rfl) | exact els_m (by omega) (by omega) (by omega) rfl | exact lsl_m (by omega) (fun _ => rfl) | exact app_nil_m (by omega) (fun _ => rfl) (fun _ => rfl) | exact app_m_one (by omega) (fun _ => rfl) rfl rfl | exact app_m_m (by omega) (fun _ => rfl) (fun _ => rfl)) ?_)
  | (refine run_need rfl (by first | decide | omega | (simp only [List.length_map]; omega)) ?_)
  | (refine run_need rfl ?_ ?_)
  | (refine run_ret rfl ?_ ; first | refine rb ?_ | refine ri ?_ | refine rs2 ?_ ?_ | refine rs1 ?_)
  | (refine run_retx rfl ?_))
 simp

def cmpM (a b : Int) : Int := if a < b then -1 else if b < a then 1 else 0
theorem cmpI_ok (a b : Int) : FunOk PP W n_cmp_Compare_int s_cmp_Compare_int [i64 a, i64 b] [i64 (cmpM a b)] := by
 refine F_cmp_Compare_int (run_fun ?_)
 (repeat' first
  | (refine run_ite rfl (fun h => ?_) (fun h => ?_) <;> (try simp (disch := omega) only [zA, z13, z19, z20, z21, z22, z23, z24, z25, z31, eqDs, eqD, Nat.reduceAdd, wrap64] at h) <;> (try (exfalso; omega)))
  | (refine run_need rfl (by (try simp (disch := omega) only [zA, z13, z19, z20, z21, z22, z23, z24, z25, z31, eqDs, eqD, Nat.reduceAdd, wrap64]); first | exact elp_m (by omega) (by first | omega | (simp only [List.length_set]; omega)) (fun _ => rfl) | exact eld_m (by omega) (by first | omega | (simp only [List.length_set]; omega)) (fun _ => rfl) | exact els_m (by omega) (by omega) (by omega) rfl | exact lsl_m (by omega) (fun _ => rfl) | exact app_nil_m (by omega) (fun _ => rfl) (fun _ => rfl) | exact app_m_one (by omega) (fun _ => rfl) rfl rfl | exact app_m_m (by omega) (fun _ => rfl) (fun _ => rfl)) ?_)
  | (refine run_need rfl (by first | decide | omega | (simp only [List.length_map]; omega)) ?_)
  | (refine run_call1 rfl (isNaN_ok ..) rfl ?_)
  | (refine run_need rfl ?_ ?_)
  | (refine run_ret rfl ?_ ; first | refine rb ?_ | refine ri ?_ | refine rs2 ?_ ?_ | refine rs1 ?_)
  | (refine run_retx rfl ?_))
 all_goals unfold cmpM
 all_goals (repeat' split) <;> omega

theorem cmpOr_ok (a b : Int) : FunOk PP W n_cmp_Or_int s_cmp_Or_int [eIs [a, b]] [i64 (if a = 0 then b else a)] := by
 refine F_cmp_Or_int (run_fun ?_)
 (repeat' first
  | (refine run_ite rfl (fun h => ?_) (fun h => ?_) <;> (try simp (disch := omega) only [zA, z13, z19, z20, z21, z22, z23, z24, z25, z31, eqDs, eqD, Nat.reduceAdd, wrap64] at h) <;> (try (exfalso; omega)))
  | (refine run_need rfl (by (try simp (disch := omega) only [zA, z13, z19, z20, z21, z22, z23, z24, z25, z31, eqDs, eqD, Nat.reduceAdd, wrap64]); first | exact elp_m (by omega) (by first | omega | (simp only [List.length_set]; omega)) (fun _ => rfl) | exact eld_m (by omega) (by first | omega | (simp only [List.length_set]; omega)) (fun _ => rfl) | exact els_m (by omega) (by omega) (by omega) rfl | exact lsl_m (by omega) (fun _ => rfl) | exact app_nil_m (by omega) (fun _ => rfl) (fun _ => rfl) | exact app_m_one (by omega) (fun _ => rfl) rfl rfl | exact app_m_m (by omega) (fun _ => rfl) (fun _ => rfl)) ?_)
  | (refine run_need rfl (by first | decide | omega | (simp only [List.length_map]; omega)) ?_)
  | (refine run_need rfl ?_ ?_)
  | (refine run_ret rfl ?_ ; first | refine rb ?_ | refine ri ?_ | refine rs2 ?_ ?_ | refine rs1 ?_)
  | (refine run_retx rfl ?_))
 refine run_loop rfl (fun i : Int => 0 ≤ i ∧ i ≤ 2 ∧ (0 < i → a = 0) ∧ (1 < i → b = 0)) (fun i => [(8, .val (i64 i)), (6, .val (eIs [a, b])), (7, .val (i64 2)), (3, .val (i64 0))]) (fun i => (2 - i).toNat) 0 ⟨by omega, by omega, by omega, by omega⟩ ⟨rfl, rfl, rfl, rfl, trivial⟩ rfl ?_
 rintro i e ⟨h0, hN, hP1, hP2⟩
 (repeat' first
  | (refine run_ite rfl (fun h => ?_) (fun h => ?_) <;> (try simp (disch := omega) only [zA, z13, z19, z20, z21, z22, z23, z24, z25, z31, eqDs, eqD, Nat.reduceAdd, wrap64] at h) <;> (try (exfalso; omega)))
  | (refine run_need rfl (by (try simp (disch := omega) only [zA, z13, z19, z20, z21, z22, z23, z24, z25, z31, eqDs, eqD, Nat.reduceAdd, wrap64]); first | exact elp_m (by omega) (by first | omega | (simp only [List.length_set]; omega)) (fun _ => rfl) | exact eld_m (by omega) (by first | omega | (simp only [List.length_set]; omega)) (fun _ => rfl) | exact els_m (by omega) (by omega) (by omega) rfl | exact lsl_m (by omega) (fun _ => rfl) | exact app_nil_m (by omega) (fun _ => rfl) (fun _ => rfl) | exact app_m_one (by omega) (fun _ => rfl) rfl rfl | exact app_m_m (by omega) (fun _ => rfl) (fun _ => rfl)) ?_)
  | (refine run_need rfl (by first | decide | omega | (simp only [List.length_map]; omega)) ?_)
  | (refine run_next rfl (Exists.intro (i + 1) ⟨by omega, ⟨by omega, by omega, ?_, ?_⟩, i64_eq (wrap64 _ (by omega)), rfl, rfl, rfl, trivial⟩))
  | (refine run_need rfl ?_ ?_)
  | (refine run_ret rfl ?_ ; first | refine rb ?_ | refine ri ?_ | refine rs2 ?_ ?_ | refine rs1 ?_)
  | (refine run_retx rfl ?_))
 ·rw [cI_I]
  have hi : i = 0 ∨ i = 1 := by omega
  rcases hi with rfl | rfl <;> simp_all [ix]
 ·intro _
  have hi : i = 0 ∨ i = 1 := by omega
  rcases hi with rfl | rfl <;> simp_all [ix]
 ·intro _
  have hi : i = 1 := by omega
  subst hi
  simp_all [ix]
 ·rw [if_pos (hP1 (by omega)), hP2 (by omega)]

theorem compare_ok (p q : Pk) : FunOk PP W n_i_Pkg_compare s_i_Pkg_compare [ePk p, ePk q] [i64 (if cmpM p.name q.name = 0 then cmpM p.ver q.ver else cmpM p.name q.name)] := by
 refine F_i_Pkg_compare (run_fun ?_)
 (repeat' first
  | (refine run_ite rfl (fun h => ?_) (fun h => ?_) <;> (try simp (disch := omega) only [zA, z13, z19, z20, z21, z22, z23, z24, z25, z31, eqDs, eqD, Nat.reduceAdd, wrap64] at h) <;> (try (exfalso; omega)))
  | (refine run_need rfl (by (try simp (disch := omega) only [zA, z13, z19, z20, z21, z22, z23, z24, z25, z31, eqDs, eqD, Nat.reduceAdd, wrap64]); first | exact elp_m (by omega) (by first | omega | (simp only [List.length_set]; omega)) (fun _ => rfl) | exact eld_m (by omega) (by first | omega | (simp only [List.length_set]; omega)) (fun _ => rfl) | exact els_m (by omega) (by omega) (by omega) rfl | exact lsl_m (by omega) (fun _ => rfl) | exact app_nil_m (by omega) (fun _ => rfl) (fun _ => rfl) | exact app_m_one (by omega) (fun _ => rfl) rfl rfl | exact app_m_m (by omega) (fun _ => rfl) (fun _ => rfl)) ?_)
  | (refine run_need rfl (by first | decide | omega | (simp only [List.length_map]; omega)) ?_)
  | (refine run_call1 rfl (cmpI_ok ..) rfl ?_)
  | (refine run_call1 rfl (cmpOr_ok ..) rfl ?_)
  | (refine run_need rfl ?_ ?_)
  | (refine run_ret rfl ?_ ; first | refine rb ?_ | refine ri ?_ | refine rs2 ?_ ?_ | refine rs1 ?_)
  | (refine run_retx rfl ?_))
 rfl
theorem compare_less (p q : Pk) : ¬ 0 ≤ (if cmpM p.name q.name = 0 then cmpM p.ver q.ver else cmpM p.name q.name) ↔ lessM p q := by
 unfold cmpM lessM
 (repeat' split) <;> omega

theorem iStoreOk_ok (ps : List Pk) (hs : SmPs ps) : FunOk PP W n_i_StoreOk s_i_StoreOk [ePks ps] [bo (decide (PksOk ps))] := by
 refine F_i_StoreOk (run_fun ?_)
 have hl := hs.1
 unfold lim at hl
 refine run_loop rfl (fun i : Int => 0 ≤ i ∧ i ≤ ps.length ∧ Blw i (PkAt ps)) (fun i => [(7, .val (i64 i)), (0, .val (ePks ps)), (5, .val (ePks ps)), (6, .val (i64 (ps.map ePk).length))]) (fun i => (ps.length - i).toNat) 0 ⟨by omega, by omega, blw_zero _⟩ ⟨rfl, rfl, rfl, rfl, trivial⟩ rfl ?_
 rintro i e ⟨h0, hN, hP⟩
 (repeat' first
  | (refine run_ite rfl (fun h => ?_) (fun h => ?_) <;> (try simp (disch := omega) only [zA, z13, z19, z20, z21, z22, z23, z24, z25, z31, eqDs, eqD, Nat.reduceAdd, wrap64] at h) <;> (try (exfalso; omega)))
  | (refine run_need rfl (by (try simp (disch := omega) only [zA, z13, z19, z20, z21, z22, z23, z24, z25, z31, eqDs, eqD, Nat.reduceAdd, wrap64]); first | exact elp_m (by omega) (by first | omega | (simp only [List.length_set]; omega)) (fun _ => rfl) | exact eld_m (by omega) (by first | omega | (simp only [List.length_set]; omega)) (fun _ => rfl) | exact els_m (by omega) (by omega) (by omega) rfl | exact lsl_m (by omega) (fun _ => rfl) | exact app_nil_m (by omega) (fun _ => rfl) (fun _ => rfl) | exact app_m_one (by omega) (fun _ => rfl) rfl rfl | exact app_m_m (by omega) (fun _ => rfl) (fun _ => rfl)) ?_)
  | (refine run_need rfl (by first | decide | omega | (simp only [List.length_map]; omega)) ?_)
  | (refine run_calleq rfl (iPkgOk_ok (ix ps i) (smPs_ix hs (by omega) (by omega))) (by simp (disch := omega) only [zA, z13, z19, z20, z21, z22, z23, z24, z25, z31, eqDs, eqD, Nat.reduceAdd, wrap64]) rfl ?_)
  | (refine run_calleq rfl (compare_ok (ix ps (i - 1)) (ix ps i)) (by simp (disch := omega) only [zA, z13, z19, z20, z21, z22, z23, z24, z25, z31, eqDs, eqD, Nat.reduceAdd, wrap64]) rfl ?_)
  | (refine run_next rfl (Exists.intro (i + 1) ⟨by omega, ⟨by omega, by omega, blw_succ hP ?_⟩, i64_eq (wrap64 _ (by omega)), rfl, rfl, rfl, trivial⟩))
  | (refine run_need rfl ?_ ?_)
  | (refine run_ret rfl ?_ ; first | refine rb ?_ | refine ri ?_ | refine rs2 ?_ ?_ | refine rs1 ?_)
  | (refine run_retx rfl ?_))
 ·exact fD (fun h' => absurd (h' i (by omega) (by omega)).1 (by assumption))
 ·exact fD (fun h' => (compare_less _ _).2 ((h' i (by omega) (by omega)).2 (by assumption)) h)
 ·exact ⟨by assumption, fun _ => (compare_less _ _).1 h⟩
 ·exact ⟨by assumption, fun h' => absurd h' (by assumption)⟩
 ·exact tD (blw_to hP (by omega))
end V
end Go.Proofs.Ytgialjcichiaoaa

/-
Plain proofs: the program's plans.
-/
namespace Go.Proofs.Ytgialjcichiaoaa
namespace V
open Classical
set_option maxRecDepth 100000
variable {W : Wld}

noncomputable def idxF {α : Type} [Inhabited α] (P : α → Prop) (xs : List α) : Nat → Int → Int
 | 0, _ => -1
 | n + 1, i => if P (ix xs i) then i else idxF P xs n (i + 1)

def bearsP (d : P2) (p : Pk) : Prop := p.name = d.a ∧ d.b ≤ p.ver
theorem bears1_ok (p : Pk) (d : P2) : FunOk PP W n_i_bears_1 s_i_bears_1 [ePk p, eP2 d] [bo (decide (bearsP d p))] := by
 refine F_i_bears_1 (run_fun ?_)
 unfold bearsP
 (repeat' first
  | (refine run_ite rfl (fun h => ?_) (fun h => ?_) <;> (try simp (disch := omega) only [zA, z13, z19, z20, z21, z22, z23, z24, z25, z31, eqDs, eqD, Nat.reduceAdd, wrap64] at h) <;> (try (exfalso; omega)))
  | (refine run_need rfl (by (try simp (disch := omega) only [zA, z13, z19, z20, z21, z22, z23, z24, z25, z31, eqDs, eqD, Nat.reduceAdd, wrap64]); first | exact elp_m (by omega) (by first | omega | (simp only [List.length_set]; omega)) (fun _ => rfl) | exact eld_m (by omega) (by first | omega | (simp only [List.length_set]; omega)) (fun _ => rfl) | exact els_m (by omega) (by omega) (by omega) rfl | exact lsl_m (by omega) (fun _ => rfl) | exact app_nil_m (by omega) (fun _ => rfl) (fun _ => rfl) | exact app_m_one (by omega) (fun _ => rfl) rfl rfl | exact app_m_m (by omega) (fun _ => rfl) (fun _ => rfl)) ?_)
  | (refine run_need rfl (by first | decide | omega | (simp only [List.length_map]; omega)) ?_)
  | (refine run_need rfl ?_ ?_)
  | (refine run_ret rfl ?_ ; first | refine rb ?_ | refine ri ?_ | refine rs2 ?_ ?_ | refine rs1 ?_)
  | (refine run_retx rfl ?_))
 all_goals simp_all

theorem idxPkg_ok (ps : List Pk) (hl : ps.length ≤ lim) (d : P2) : FunOk PP W n_sl_IndexFunc_Pkg s_sl_IndexFunc_Pkg [ePks ps, [.fn n_i_bears_1 [] [eP2 d]]] [i64 (idxF (bearsP d) ps ps.length 0)] := by
 refine F_sl_IndexFunc_Pkg (run_fun ?_)
 unfold lim at hl
 refine run_loop rfl (fun i : Int => 0 ≤ i ∧ i ≤ ps.length ∧ idxF (bearsP d) ps ps.length 0 = idxF (bearsP d) ps (ps.length - i).toNat i) (fun i => [(8, .val (i64 i)), (0, .val (ePks ps)), (1, .val [.fn n_i_bears_1 [] [eP2 d]]), (7, .val (i64 (ps.map ePk).length))]) (fun i => (ps.length - i).toNat) 0 ⟨by omega, by omega, by simp⟩ ⟨rfl, rfl, rfl, rfl, trivial⟩ rfl ?_
 rintro i e ⟨h0, hN, hP⟩
 (repeat' first
  | (refine run_ite rfl (fun h => ?_) (fun h => ?_) <;> (try simp (disch := omega) only [zA, z13, z19, z20, z21, z22, z23, z24, z25, z31, eqDs, eqD, Nat.reduceAdd, wrap64] at h) <;> (try (exfalso; omega)))
  | (refine run_need rfl (by (try simp (disch := omega) only [zA, z13, z19, z20, z21, z22, z23, z24, z25, z31, eqDs, eqD, Nat.reduceAdd, wrap64]); first | exact elp_m (by omega) (by first | omega | (simp only [List.length_set]; omega)) (fun _ => rfl) | exact eld_m (by omega) (by first | omega | (simp only [List.length_set]; omega)) (fun _ => rfl) | exact els_m (by omega) (by omega) (by omega) rfl | exact lsl_m (by omega) (fun _ => rfl) | exact app_nil_m (by omega) (fun _ => rfl) (fun _ => rfl) | exact app_m_one (by omega) (fun _ => rfl) rfl rfl | exact app_m_m (by omega) (fun _ => rfl) (fun _ => rfl)) ?_)
  | (refine run_need rfl (by first | decide | omega | (simp only [List.length_map]; omega)) ?_)
  | (refine run_clo1 (ins' := [ePk (ix ps i)]) rfl (bears1_ok (ix ps i) d) (by simp (disch := omega) only [zA, z13, z19, z20, z21, z22, z23, z24, z25, z31, eqDs, eqD, Nat.reduceAdd, wrap64]) rfl ?_)
  | (refine run_next rfl (Exists.intro (i + 1) ⟨by omega, ⟨by omega, by omega, ?_⟩, i64_eq (wrap64 _ (by omega)), rfl, rfl, rfl, trivial⟩))
  | (refine run_need rfl ?_ ?_)
  | (refine run_ret rfl ?_ ; first | refine rb ?_ | refine ri ?_ | refine rs2 ?_ ?_ | refine rs1 ?_)
  | (refine run_retx rfl ?_))
 ·rw [hP, show ((ps.length : Int) - i).toNat = ((ps.length : Int) - (i + 1)).toNat + 1 by omega, idxF, if_pos h]
 ·rw [hP, show ((ps.length : Int) - i).toNat = ((ps.length : Int) - (i + 1)).toNat + 1 by omega, idxF, if_neg h]
 ·rw [hP, show ((ps.length : Int) - i).toNat = 0 by omega, idxF]

theorem idxF_pos {α : Type} [Inhabited α] (P : α → Prop) (xs : List α) : ∀ (n : Nat) (i : Int), 0 ≤ i → (0 ≤ idxF P xs n i ↔ ∃ j, i ≤ j ∧ j < i + n ∧ P (ix xs j))
 | 0, i, h0 => by
  unfold idxF
  constructor
  ·intro h; omega
  ·rintro ⟨j, h1, h2, _⟩; omega
 | n + 1, i, h0 => by
  unfold idxF
  by_cases hp : P (ix xs i)
  ·rw [if_pos hp]
   exact ⟨fun _ => ⟨i, by omega, by omega, hp⟩, fun _ => h0⟩
  ·rw [if_neg hp, idxF_pos P xs n (i + 1) (by omega)]
   constructor
   ·rintro ⟨j, h1, h2, h3⟩; exact ⟨j, by omega, by omega, h3⟩
   ·rintro ⟨j, h1, h2, h3⟩
    by_cases hj : j = i
    ·subst hj; exact absurd h3 hp
    ·exact ⟨j, by omega, by omega, h3⟩
theorem idxF_mem {α : Type} [Inhabited α] (P : α → Prop) (xs : List α) : 0 ≤ idxF P xs xs.length 0 ↔ ∃ x ∈ xs, P x := by
 rw [idxF_pos P xs xs.length 0 (by omega)]
 constructor
 ·rintro ⟨j, h1, h2, h3⟩; exact ⟨_, ix_mem h1 (by omega), h3⟩
 ·rintro ⟨x, hx, h⟩
  obtain ⟨j, h1, h2, rfl⟩ := mem_ix hx
  exact ⟨j, h1, by omega, h⟩

theorem conPkg_ok (ps : List Pk) (hl : ps.length ≤ lim) (d : P2) : FunOk PP W n_sl_ContainsFunc_Pkg s_sl_ContainsFunc_Pkg [ePks ps, [.fn n_i_bears_1 [] [eP2 d]]] [bo (decide (∃ p ∈ ps, bearsP d p))] := by
 refine F_sl_ContainsFunc_Pkg (run_fun ?_)
 (repeat' first
  | (refine run_ite rfl (fun h => ?_) (fun h => ?_) <;> (try simp (disch := omega) only [zA, z13, z19, z20, z21, z22, z23, z24, z25, z31, eqDs, eqD, Nat.reduceAdd, wrap64] at h) <;> (try (exfalso; omega)))
  | (refine run_need rfl (by (try simp (disch := omega) only [zA, z13, z19, z20, z21, z22, z23, z24, z25, z31, eqDs, eqD, Nat.reduceAdd, wrap64]); first | exact elp_m (by omega) (by first | omega | (simp only [List.length_set]; omega)) (fun _ => rfl) | exact eld_m (by omega) (by first | omega | (simp only [List.length_set]; omega)) (fun _ => rfl) | exact els_m (by omega) (by omega) (by omega) rfl | exact lsl_m (by omega) (fun _ => rfl) | exact app_nil_m (by omega) (fun _ => rfl) (fun _ => rfl) | exact app_m_one (by omega) (fun _ => rfl) rfl rfl | exact app_m_m (by omega) (fun _ => rfl) (fun _ => rfl)) ?_)
  | (refine run_need rfl (by first | decide | omega | (simp only [List.length_map]; omega)) ?_)
  | (refine run_call1 rfl (idxPkg_ok ps hl d) rfl ?_)
  | (refine run_need rfl ?_ ?_)
  | (refine run_ret rfl ?_ ; first | refine rb ?_ | refine ri ?_ | refine rs2 ?_ ?_ | refine rs1 ?_)
  | (refine run_retx rfl ?_))
 congr 1
 simp only [ge_iff_le, eq_iff_iff]
 exact idxF_mem _ _
theorem bears_ok (ps : List Pk) (hl : ps.length ≤ lim) (d : P2) : FunOk PP W n_i_bears s_i_bears [ePks ps, eP2 d] [bo (decide (∃ p ∈ ps, bearsP d p))] := by
 refine F_i_bears (run_fun ?_)
 (repeat' first
  | (refine run_ite rfl (fun h => ?_) (fun h => ?_) <;> (try simp (disch := omega) only [zA, z13, z19, z20, z21, z22, z23, z24, z25, z31, eqDs, eqD, Nat.reduceAdd, wrap64] at h) <;> (try (exfalso; omega)))
  | (refine run_need rfl (by (try simp (disch := omega) only [zA, z13, z19, z20, z21, z22, z23, z24, z25, z31, eqDs, eqD, Nat.reduceAdd, wrap64]); first | exact elp_m (by omega) (by first | omega | (simp only [List.length_set]; omega)) (fun _ => rfl) | exact eld_m (by omega) (by first | omega | (simp only [List.length_set]; omega)) (fun _ => rfl) | exact els_m (by omega) (by omega) (by omega) rfl | exact lsl_m (by omega) (fun _ => rfl) | exact app_nil_m (by omega) (fun _ => rfl) (fun _ => rfl) | exact app_m_one (by omega) (fun _ => rfl) rfl rfl | exact app_m_m (by omega) (fun _ => rfl) (fun _ => rfl)) ?_)
  | (refine run_need rfl (by first | decide | omega | (simp only [List.length_map]; omega)) ?_)
  | (refine run_call1 rfl (conPkg_ok ps hl d) rfl ?_)
  | (refine run_need rfl ?_ ?_)
  | (refine run_ret rfl ?_ ; first | refine rb ?_ | refine ri ?_ | refine rs2 ?_ ?_ | refine rs1 ?_)
  | (refine run_retx rfl ?_))
 rfl

def lacksP (ps : List Pk) (d : P2) : Prop := ¬ ∃ p ∈ ps, bearsP d p
theorem planOk1_ok (ps : List Pk) (hl : ps.length ≤ lim) (d : P2) : FunOk PP W n_i_PlanOk_1 s_i_PlanOk_1 [eP2 d, ePks ps] [bo (decide (lacksP ps d))] := by
 refine F_i_PlanOk_1 (run_fun ?_)
 (repeat' first
  | (refine run_ite rfl (fun h => ?_) (fun h => ?_) <;> (try simp (disch := omega) only [zA, z13, z19, z20, z21, z22, z23, z24, z25, z31, eqDs, eqD, Nat.reduceAdd, wrap64] at h) <;> (try (exfalso; omega)))
  | (refine run_need rfl (by (try simp (disch := omega) only [zA, z13, z19, z20, z21, z22, z23, z24, z25, z31, eqDs, eqD, Nat.reduceAdd, wrap64]); first | exact elp_m (by omega) (by first | omega | (simp only [List.length_set]; omega)) (fun _ => rfl) | exact eld_m (by omega) (by first | omega | (simp only [List.length_set]; omega)) (fun _ => rfl) | exact els_m (by omega) (by omega) (by omega) rfl | exact lsl_m (by omega) (fun _ => rfl) | exact app_nil_m (by omega) (fun _ => rfl) (fun _ => rfl) | exact app_m_one (by omega) (fun _ => rfl) rfl rfl | exact app_m_m (by omega) (fun _ => rfl) (fun _ => rfl)) ?_)
  | (refine run_need rfl (by first | decide | omega | (simp only [List.length_map]; omega)) ?_)
  | (refine run_call1 rfl (bears_ok ps hl d) rfl ?_)
  | (refine run_need rfl ?_ ?_)
  | (refine run_ret rfl ?_ ; first | refine rb ?_ | refine ri ?_ | refine rs2 ?_ ?_ | refine rs1 ?_)
  | (refine run_retx rfl ?_))
 by_cases hx : ∃ p ∈ ps, bearsP d p
 ·rw [decide_eq_true hx]; exact fD (p := lacksP ps d) (fun h => h hx)
 ·rw [decide_eq_false hx]; exact tD (p := lacksP ps d) hx
theorem idxDep_ok (ps : List Pk) (hp : ps.length ≤ lim) (ds : List P2) (hl : ds.length ≤ lim) : FunOk PP W n_sl_IndexFunc_Dep s_sl_IndexFunc_Dep [eP2s ds, [.fn n_i_PlanOk_1 [] [ePks ps]]] [i64 (idxF (lacksP ps) ds ds.length 0)] := by
 refine F_sl_IndexFunc_Dep (run_fun ?_)
 unfold lim at hl
 refine run_loop rfl (fun i : Int => 0 ≤ i ∧ i ≤ ds.length ∧ idxF (lacksP ps) ds ds.length 0 = idxF (lacksP ps) ds (ds.length - i).toNat i) (fun i => [(8, .val (i64 i)), (0, .val (eP2s ds)), (1, .val [.fn n_i_PlanOk_1 [] [ePks ps]]), (7, .val (i64 (ds.map eP2).length))]) (fun i => (ds.length - i).toNat) 0 ⟨by omega, by omega, by simp⟩ ⟨rfl, rfl, rfl, rfl, trivial⟩ rfl ?_
 rintro i e ⟨h0, hN, hP⟩
 (repeat' first
  | (refine run_ite rfl (fun h => ?_) (fun h => ?_) <;> (try simp (disch := omega) only [zA, z13, z19, z20, z21, z22, z23, z24, z25, z31, eqDs, eqD, Nat.reduceAdd, wrap64] at h) <;> (try (exfalso; omega)))
  | (refine run_need rfl (by (try simp (disch := omega) only [zA, z13, z19, z20, z21, z22, z23, z24, z25, z31, eqDs, eqD, Nat.reduceAdd, wrap64]); first | exact elp_m (by omega) (by first | omega | (simp only [List.length_set]; omega)) (fun _ => rfl) | exact eld_m (by omega) (by first | omega | (simp only [List.length_set]; omega)) (fun _ => rfl) | exact els_m (by omega) (by omega) (by omega) rfl | exact lsl_m (by omega) (fun _ => rfl) | exact app_nil_m (by omega) (fun _ => rfl) (fun _ => rfl) | exact app_m_one (by omega) (fun _ => rfl) rfl rfl | exact app_m_m (by omega) (fun _ => rfl) (fun _ => rfl)) ?_)
  | (refine run_need rfl (by first | decide | omega | (simp only [List.length_map]; omega)) ?_)
  | (refine run_clo1 (ins' := [eP2 (ix ds i)]) rfl (planOk1_ok ps hp (ix ds i)) (by simp (disch := omega) only [zA, z13, z19, z20, z21, z22, z23, z24, z25, z31, eqDs, eqD, Nat.reduceAdd, wrap64]) rfl ?_)
  | (refine run_next rfl (Exists.intro (i + 1) ⟨by omega, ⟨by omega, by omega, ?_⟩, i64_eq (wrap64 _ (by omega)), rfl, rfl, rfl, trivial⟩))
  | (refine run_need rfl ?_ ?_)
  | (refine run_ret rfl ?_ ; first | refine rb ?_ | refine ri ?_ | refine rs2 ?_ ?_ | refine rs1 ?_)
  | (refine run_retx rfl ?_))
 ·rw [hP, show ((ds.length : Int) - i).toNat = ((ds.length : Int) - (i + 1)).toNat + 1 by omega, idxF, if_pos h]
 ·rw [hP, show ((ds.length : Int) - i).toNat = ((ds.length : Int) - (i + 1)).toNat + 1 by omega, idxF, if_neg h]
 ·rw [hP, show ((ds.length : Int) - i).toNat = 0 by omega, idxF]
theorem conDep_ok (ps : List Pk) (hp : ps.length ≤ lim) (ds : List P2) (hl : ds.length ≤ lim) : FunOk PP W n_sl_ContainsFunc_Dep s_sl_ContainsFunc_Dep [eP2s ds, [.fn n_i_PlanOk_1 [] [ePks ps]]] [bo (decide (∃ d ∈ ds, lacksP ps d))] := by
 refine F_sl_ContainsFunc_Dep (run_fun ?_)
 (repeat' first
  | (refine run_ite rfl (fun h => ?_) (fun h => ?_) <;> (try simp (disch := omega) only [zA, z13, z19, z20, z21, z22, z23, z24, z25, z31, eqDs, eqD, Nat.reduceAdd, wrap64] at h) <;> (try (exfalso; omega)))
  | (refine run_need rfl (by (try simp (disch := omega) only [zA, z13, z19, z20, z21, z22, z23, z24, z25, z31, eqDs, eqD, Nat.reduceAdd, wrap64]); first | exact elp_m (by omega) (by first | omega | (simp only [List.length_set]; omega)) (fun _ => rfl) | exact eld_m (by omega) (by first | omega | (simp only [List.length_set]; omega)) (fun _ => rfl) | exact els_m (by omega) (by omega) (by omega) rfl | exact lsl_m (by omega) (fun _ => rfl) | exact app_nil_m (by omega) (fun _ => rfl) (fun _ => rfl) | exact app_m_one (by omega) (fun _ => rfl) rfl rfl | exact app_m_m (by omega) (fun _ => rfl) (fun _ => rfl)) ?_)
  | (refine run_need rfl (by first | decide | omega | (simp only [List.length_map]; omega)) ?_)
  | (refine run_call1 rfl (idxDep_ok ps hp ds hl) rfl ?_)
  | (refine run_need rfl ?_ ?_)
  | (refine run_ret rfl ?_ ; first | refine rb ?_ | refine ri ?_ | refine rs2 ?_ ?_ | refine rs1 ?_)
  | (refine run_retx rfl ?_))
 congr 1
 simp only [ge_iff_le, eq_iff_iff]
 exact idxF_mem _ _
end V
end Go.Proofs.Ytgialjcichiaoaa

/-
Plain proofs: the program's plan is ok just where the reference's is.
-/
namespace Go.Proofs.Ytgialjcichiaoaa
namespace V
open Classical
set_option maxRecDepth 100000
variable {W : Wld}

theorem ownerF_pos (ps : List Pk) (path : Int) : ∀ (n : Nat) (i : Int), 0 ≤ i → (0 ≤ ownerF ps path n i ↔ ∃ j, i ≤ j ∧ j < i + n ∧ hasP (ix ps j) path)
 | 0, i, h0 => by
  unfold ownerF
  constructor
  ·intro h; omega
  ·rintro ⟨j, h1, h2, _⟩; omega
 | n + 1, i, h0 => by
  unfold ownerF
  by_cases hp : hasP (ix ps i) path
  ·rw [if_pos hp]
   exact ⟨fun _ => ⟨i, by omega, by omega, hp⟩, fun _ => h0⟩
  ·rw [if_neg hp, ownerF_pos ps path n (i + 1) (by omega)]
   constructor
   ·rintro ⟨j, h1, h2, h3⟩; exact ⟨j, by omega, by omega, h3⟩
   ·rintro ⟨j, h1, h2, h3⟩
    by_cases hj : j = i
    ·subst hj; exact absurd h3 hp
    ·exact ⟨j, by omega, by omega, h3⟩
theorem owner_iff (ps : List Pk) (path i : Int) (hi : 0 ≤ i) : 0 ≤ ownerF ps path i.toNat 0 ↔ ∃ j, 0 ≤ j ∧ j < i ∧ hasP (ix ps j) path := by
 rw [ownerF_pos ps path i.toNat 0 (by omega)]
 constructor
 ·rintro ⟨j, h1, h2, h3⟩; exact ⟨j, h1, by omega, h3⟩
 ·rintro ⟨j, h1, h2, h3⟩; exact ⟨j, h1, by omega, h3⟩

theorem lastI_some (ps : List Pk) (name : Int) : ∀ n : Nat, 0 ≤ lastI ps name n → lastI ps name n < n ∧ (ix ps (lastI ps name n)).name = name
 | 0, h => by unfold lastI at h; omega
 | n + 1, h => by
  unfold lastI at h ⊢
  by_cases hp : (ix ps n).name = name
  ·rw [if_pos hp]; exact ⟨by omega, hp⟩
  ·rw [if_neg hp] at h ⊢
   have := lastI_some ps name n h
   exact ⟨by omega, this.2⟩
theorem lastI_ge (ps : List Pk) (name : Int) : ∀ (n : Nat) (j : Int), 0 ≤ j → j < n → (ix ps j).name = name → j ≤ lastI ps name n
 | 0, j, h0, h1, _ => by omega
 | n + 1, j, h0, h1, hj => by
  unfold lastI
  by_cases hp : (ix ps n).name = name
  ·rw [if_pos hp]; omega
  ·rw [if_neg hp]
   by_cases hn : j = n
   ·subst hn; exact absurd hj hp
   ·exact lastI_ge ps name n j h0 (by omega) hj

theorem oneM_lt {ps : List Pk} (h : OneM ps) : ∀ (n : Nat) (i j : Int), (j - i).toNat = n → 0 ≤ i → i < j → j < ps.length → (ix ps i).name < (ix ps j).name
 | 0, i, j, hn, h0, h1, h2 => by omega
 | n + 1, i, j, hn, h0, h1, h2 => by
  have hj := h j (by omega) h2
  by_cases hi : i = j - 1
  ·subst hi; exact hj
  ·have := oneM_lt h n i (j - 1) (by omega) h0 (by omega) (by omega)
   omega
theorem oneM_inj {ps : List Pk} (h : OneM ps) {i j : Int} (i0 : 0 ≤ i) (i1 : i < ps.length) (j0 : 0 ≤ j) (j1 : j < ps.length) (hn : (ix ps i).name = (ix ps j).name) : i = j := by
 rcases Int.lt_trichotomy i j with hl | hl | hl
 ·have := oneM_lt h _ i j rfl i0 hl j1; omega
 ·exact hl
 ·have := oneM_lt h _ j i rfl j0 hl i1; omega

theorem meets_iff {ps : List Pk} (h : OneM ps) (d : P2) : MeetsM ps d ↔ ¬ lacksP ps d := by
 unfold MeetsM lacksP bearsP
 rw [Classical.not_not]
 constructor
 ·rintro ⟨h1, h2⟩
  obtain ⟨h3, h4⟩ := lastI_some ps d.a ps.length h1
  unfold newP at h2
  rw [if_pos h1] at h2
  exact ⟨_, ix_mem h1 h3, h4, h2⟩
 ·rintro ⟨p, hp, h1, h2⟩
  obtain ⟨j, j0, j1, rfl⟩ := mem_ix hp
  have h3 := lastI_ge ps d.a ps.length j j0 j1 h1
  have h4 : 0 ≤ newI ps d.a := by unfold newI; omega
  obtain ⟨h5, h6⟩ := lastI_some ps d.a ps.length h4
  have h7 : newI ps d.a = j := oneM_inj h h4 h5 j0 j1 (by rw [h1]; exact h6)
  unfold newP
  rw [if_pos h4, h7]
  exact ⟨by omega, h2⟩

theorem bxl_b {e : Env} {d s b : Nat} {k k' : Int} {bs : List Bool} (hs : e s = i64 k) (hb : e b = bs.map .bool) (hk : k = k') (h0 : 0 ≤ k') (h1 : k' < bs.length) : pstep (.bxl d s b 1 0 1) e = some (put e d [.bool (ix bs k')]) := by
 subst hk
 have h2 : k.toNat < bs.length := by omega
 simp only [pstep, hs, hb, List.length_map, Nat.mul_one, Nat.add_zero]
 rw [if_pos (by omega)]
 congr 2
 rw [List.drop_eq_getElem_cons (by simpa using h2)]
 simp [ix, h2]
theorem bxs_b {e : Env} {s b : Nat} {k k' : Int} {bs : List Bool} {t : Bool} (hs : e s = i64 k) (hb : e b = bs.map .bool) (hk : k = k') (h0 : 0 ≤ k') (h1 : k' < bs.length) : pstep (.bxs s b 1 0 (.c (.bool t))) e = some (put e b ((bs.set k'.toNat t).map .bool)) := by
 subst hk
 have h2 : k.toNat < bs.length := by omega
 have h3 : (Opd.c (.bool t)).get e = [.bool t] := rfl
 simp only [pstep, hs, hb, h3, List.length_map, Nat.mul_one, Nat.add_zero, List.length_singleton]
 rw [if_pos (by omega)]
 congr 2
 simp only [splice, List.length_singleton]
 rw [List.set_eq_take_append_cons_drop, if_pos h2]
 simp

def TakenBy (ps : List Pk) (i : Int) (bs : List Bool) : Prop := bs.length = 6 ∧ ∀ path : Int, 0 ≤ path → path < 6 → (ix bs path = true ↔ ∃ j, 0 ≤ j ∧ j < i ∧ hasP (ix ps j) path)
def OwnAt (ps : List Pk) (i : Int) : Prop := (0 < i → (ix ps (i - 1)).name ≠ (ix ps i).name) ∧ ¬ (∃ d ∈ (ix ps i).deps, lacksP ps d) ∧ FilesFree ps i

theorem own_one {ps : List Pk} (hp : PksOk ps) (h : Blw ps.length (fun i => 0 < i → (ix ps (i - 1)).name ≠ (ix ps i).name)) : OneM ps := by
 intro i h0 h1
 have h2 := (hp i (by omega) h1).2 (by omega)
 have h3 := h i (by omega) h1 (by omega)
 unfold lessM at h2
 omega
theorem planM_iff {ps : List Pk} (hp : PksOk ps) : PlanM ps ↔ Blw ps.length (OwnAt ps) := by
 constructor
 ·rintro ⟨_, h1, h2⟩ i h0 hi
  refine ⟨fun hi0 => by have := h1 i (by omega) hi; omega, ?_, (h2 i h0 hi).2⟩
  rintro ⟨d, hd, hl⟩
  obtain ⟨k, k0, k1, rfl⟩ := mem_ix hd
  exact (meets_iff h1 _).1 ((h2 i h0 hi).1 k k0 k1) hl
 ·intro h
  have h1 : OneM ps := own_one hp (fun i h0 hi => (h i h0 hi).1)
  exact ⟨hp, h1, fun i h0 hi => ⟨fun k k0 k1 => (meets_iff h1 _).2 (fun hl => (h i h0 hi).2.1 ⟨_, ix_mem k0 k1, hl⟩), (h i h0 hi).2.2⟩⟩

theorem files_lt {fs : List P2} (h : FilesOk fs) : ∀ (n : Nat) (i j : Int), (j - i).toNat = n → 0 ≤ i → i < j → j < fs.length → (ix fs i).a < (ix fs j).a
 | 0, i, j, hn, h0, h1, h2 => by omega
 | n + 1, i, j, hn, h0, h1, h2 => by
  have hj := (h.1 j (by omega) h2).2.2 (by omega)
  by_cases hi : i = j - 1
  ·subst hi; exact hj
  ·have := files_lt h n i (j - 1) (by omega) h0 (by omega) (by omega)
   omega

def TkIn (ps : List Pk) (i : Int) (fs : List P2) (k : Int) (cs : List Bool) : Prop := cs.length = 6 ∧ ∀ path : Int, 0 ≤ path → path < 6 → (ix cs path = true ↔ (∃ j, 0 ≤ j ∧ j < i ∧ hasP (ix ps j) path) ∨ ∃ k', 0 ≤ k' ∧ k' < k ∧ (ix fs k').a = path)
theorem taken_none (ps : List Pk) : TakenBy ps 0 (List.replicate 6 false) := by
 refine ⟨rfl, fun path p0 p1 => ?_⟩
 have : path = 0 ∨ path = 1 ∨ path = 2 ∨ path = 3 ∨ path = 4 ∨ path = 5 := by omega
 have : ix (List.replicate 6 false) path = false := by rcases this with rfl | rfl | rfl | rfl | rfl | rfl <;> rfl
 simp only [this, Bool.false_eq_true, false_iff]
 rintro ⟨j, h1, h2, _⟩
 omega
theorem tk_zero {ps : List Pk} {i : Int} {bs : List Bool} (h : TakenBy ps i bs) (fs : List P2) : TkIn ps i fs 0 bs :=
 ⟨h.1, fun path p0 p1 => by rw [h.2 path p0 p1]; exact ⟨.inl, fun h' => h'.elim id fun ⟨_, h1, h2, _⟩ => by omega⟩⟩
theorem ix_set {bs : List Bool} {a p : Int} {t : Bool} (a0 : 0 ≤ a) (a1 : a < bs.length) (p0 : 0 ≤ p) : ix (bs.set a.toNat t) p = if p = a then t else ix bs p := by
 have h2 : a.toNat < bs.length := by omega
 by_cases h : p = a
 ·subst h; simp [ix, h2]
 ·have : a.toNat ≠ p.toNat := by omega
  simp [ix, h, List.getElem?_set, this]
theorem tk_succ {ps : List Pk} {i k : Int} {fs : List P2} {cs : List Bool} (h : TkIn ps i fs k cs) (k0 : 0 ≤ k) (ha : 0 ≤ (ix fs k).a ∧ (ix fs k).a < 6) : TkIn ps i fs (k + 1) (cs.set (ix fs k).a.toNat true) := by
 refine ⟨by rw [List.length_set]; exact h.1, fun path p0 p1 => ?_⟩
 rw [ix_set ha.1 (by rw [h.1]; exact ha.2) p0]
 by_cases hp : path = (ix fs k).a
 ·rw [if_pos hp]
  exact ⟨fun _ => .inr ⟨k, k0, by omega, hp.symm⟩, fun _ => rfl⟩
 ·rw [if_neg hp, h.2 path p0 p1]
  constructor
  ·rintro (h1 | ⟨k', h1, h2, h3⟩)
   ·exact .inl h1
   ·exact .inr ⟨k', h1, by omega, h3⟩
  ·rintro (h1 | ⟨k', h1, h2, h3⟩)
   ·exact .inl h1
   ·by_cases hk : k' = k
    ·subst hk; exact absurd h3.symm hp
    ·exact .inr ⟨k', h1, by omega, h3⟩
theorem tk_end {ps : List Pk} {i k : Int} {cs : List Bool} (h : TkIn ps i (ix ps i).files k cs) (h0 : 0 ≤ i) (hk : k = (ix ps i).files.length) : TakenBy ps (i + 1) cs := by
 refine ⟨h.1, fun path p0 p1 => ?_⟩
 rw [h.2 path p0 p1]
 constructor
 ·rintro (⟨j, h1, h2, h3⟩ | ⟨k', h1, h2, h3⟩)
  ·exact ⟨j, h1, by omega, h3⟩
  ·exact ⟨i, h0, by omega, k', h1, by omega, h3⟩
 ·rintro ⟨j, h1, h2, h3⟩
  by_cases hj : j = i
  ·subst hj
   obtain ⟨k', h4, h5, h6⟩ := h3
   exact .inr ⟨k', h4, by omega, h6⟩
  ·exact .inl ⟨j, h1, by omega, h3⟩
theorem tk_own {ps : List Pk} {i k : Int} {cs : List Bool} (h : TkIn ps i (ix ps i).files k cs) (h0 : 0 ≤ i) (hF : FilesOk (ix ps i).files) (k0 : 0 ≤ k) (k1 : k < (ix ps i).files.length) :
  ix cs (ix (ix ps i).files k).a = true ↔ 0 ≤ ownerF ps (ix (ix ps i).files k).a i.toNat 0 := by
 have ha := (hF.1 k k0 k1).1
 rw [h.2 _ ha.1 (by omega), owner_iff ps _ i h0]
 constructor
 ·rintro (h1 | ⟨k', h1, h2, h3⟩)
  ·exact h1
  ·have := files_lt hF _ k' k rfl h1 h2 k1
   omega
 ·exact .inl

theorem iPlanOk_ok (ps : List Pk) (hs : SmPs ps) : FunOk PP W n_i_PlanOk s_i_PlanOk [ePks ps] [bo (decide (PlanM ps))] := by
 refine F_i_PlanOk (run_fun ?_)
 have hl := hs.1
 unfold lim at hl
 (repeat' first
  | (refine run_ite rfl (fun h => ?_) (fun h => ?_) <;> (try simp (disch := omega) only [zA, z13, z19, z20, z21, z22, z23, z24, z25, z31, eqDs, eqD, Nat.reduceAdd, wrap64] at h) <;> (try (exfalso; omega)))
  | (refine run_need rfl (by (try simp (disch := omega) only [zA, z13, z19, z20, z21, z22, z23, z24, z25, z31, eqDs, eqD, Nat.reduceAdd, wrap64]); first | exact elp_m (by omega) (by first | omega | (simp only [List.length_set]; omega)) (fun _ => rfl) | exact eld_m (by omega) (by first | omega | (simp only [List.length_set]; omega)) (fun _ => rfl) | exact els_m (by omega) (by omega) (by omega) rfl | exact lsl_m (by omega) (fun _ => rfl) | exact app_nil_m (by omega) (fun _ => rfl) (fun _ => rfl) | exact app_m_one (by omega) (fun _ => rfl) rfl rfl | exact app_m_m (by omega) (fun _ => rfl) (fun _ => rfl)) ?_)
  | (refine run_need rfl (by first | decide | omega | (simp only [List.length_map]; omega)) ?_)
  | (refine run_call1 rfl (iStoreOk_ok ps hs) rfl ?_)
  | (refine run_need rfl ?_ ?_)
  | (refine run_ret rfl ?_ ; first | refine rb ?_ | refine ri ?_ | refine rs2 ?_ ?_ | refine rs1 ?_)
  | (refine run_retx rfl ?_))
 ·exact fD (fun h' => absurd h'.1 h)
 have hpk : PksOk ps := h
 clear h
 rw [planM_iff hpk]
 refine run_loop rfl (fun x : Int × List Bool => 0 ≤ x.1 ∧ x.1 ≤ ps.length ∧ Blw x.1 (OwnAt ps) ∧ TakenBy ps x.1 x.2) (fun x => [(13, .val (i64 x.1)), (11, .val (ePks ps)), (12, .val (i64 (ps.map ePk).length)), (3, .val (x.2.map .bool)), (1, .val (ePks ps))]) (fun x => (ps.length - x.1).toNat) (0, List.replicate 6 false) ⟨by omega, by omega, blw_zero _, taken_none ps⟩ ⟨rfl, rfl, rfl, rfl, rfl, trivial⟩ rfl ?_
 rintro ⟨i, bs⟩ e ⟨h0, hN, hP, hT⟩
 simp only at h0 hN hP hT
 (repeat' first
  | (refine run_ite rfl (fun h => ?_) (fun h => ?_) <;> (try simp (disch := omega) only [zA, z13, z19, z20, z21, z22, z23, z24, z25, z31, eqDs, eqD, Nat.reduceAdd, wrap64] at h) <;> (try (exfalso; omega)))
  | (refine run_need rfl (by (try simp (disch := omega) only [zA, z13, z19, z20, z21, z22, z23, z24, z25, z31, eqDs, eqD, Nat.reduceAdd, wrap64]); first | exact elp_m (by omega) (by first | omega | (simp only [List.length_set]; omega)) (fun _ => rfl) | exact eld_m (by omega) (by first | omega | (simp only [List.length_set]; omega)) (fun _ => rfl) | exact els_m (by omega) (by omega) (by omega) rfl | exact lsl_m (by omega) (fun _ => rfl) | exact app_nil_m (by omega) (fun _ => rfl) (fun _ => rfl) | exact app_m_one (by omega) (fun _ => rfl) rfl rfl | exact app_m_m (by omega) (fun _ => rfl) (fun _ => rfl)) ?_)
  | (refine run_need rfl (by first | decide | omega | (simp only [List.length_map]; omega)) ?_)
  | (refine run_calleq rfl (conDep_ok ps hs.1 (ix ps i).deps (smPs_ix hs h0 (by omega)).2) (by simp (disch := omega) only [zA, z13, z19, z20, z21, z22, z23, z24, z25, z31, eqDs, eqD, Nat.reduceAdd, wrap64]) rfl ?_)
  | (refine run_need rfl ?_ ?_)
  | (refine run_ret rfl ?_ ; first | refine rb ?_ | refine ri ?_ | refine rs2 ?_ ?_ | refine rs1 ?_)
  | (refine run_retx rfl ?_))
 any_goals first | exact fD (fun h' => (h' i h0 (by assumption)).1 (by assumption) (by assumption)) | exact fD (fun h' => (h' i h0 (by assumption)).2.1 (by assumption)) | exact tD (blw_to hP (by omega))
 all_goals (
  have hi : i < ps.length := by assumption
  have hq : 0 < i → (ix ps (i - 1)).name ≠ (ix ps i).name := by first | exact fun _ => by assumption | exact fun h' => absurd h' (by assumption)
  have hd := h
  clear h
  have hF : FilesOk (ix ps i).files := (hpk i h0 hi).1.2.2.1
  have hfl := (smPs_ix hs h0 hi).1
  unfold lim at hfl
  have hpp : ∀ k : Int, 0 ≤ k → k < (ix ps i).files.length → 0 ≤ (ix (ix ps i).files k).a ∧ (ix (ix ps i).files k).a < 6 := fun k k0 k1 => by have := (hF.1 k k0 k1).1; omega
  refine run_loop rfl (fun x : Int × List Bool => 0 ≤ x.1 ∧ x.1 ≤ (ix ps i).files.length ∧ Blw x.1 (fun k => ¬ 0 ≤ ownerF ps (ix (ix ps i).files k).a i.toNat 0) ∧ TkIn ps i (ix ps i).files x.1 x.2) (fun x => [(40, .val (i64 x.1)), (38, .val (eP2s (ix ps i).files)), (39, .val (i64 ((ix ps i).files.map eP2).length)), (13, .val (i64 i)), (11, .val (ePks ps)), (12, .val (i64 (ps.map ePk).length)), (3, .val (x.2.map .bool)), (1, .val (ePks ps))]) (fun x => ((ix ps i).files.length - x.1).toNat) (0, bs) ⟨by omega, by omega, blw_zero _, tk_zero hT _⟩ ⟨rfl, by rw [cL_Pk_2]; rfl, by rw [cL_Pk_2]; rfl, rfl, rfl, rfl, rfl, rfl, trivial⟩ rfl ?_
  rintro ⟨k, cs⟩ e ⟨k0, kN, kO, kT⟩
  simp only at k0 kN kO kT
  have kl := kT.1
  (repeat' first
  | (refine run_ite rfl (fun h => ?_) (fun h => ?_) <;> (try simp (disch := omega) only [zA, z13, z19, z20, z21, z22, z23, z24, z25, z31, eqDs, eqD, Nat.reduceAdd, wrap64] at h) <;> (try (exfalso; omega)))
  | (refine run_need rfl (by (try simp (disch := omega) only [zA, z13, z19, z20, z21, z22, z23, z24, z25, z31, eqDs, eqD, Nat.reduceAdd, wrap64]); first | exact elp_m (by omega) (by first | omega | (simp only [List.length_set]; omega)) (fun _ => rfl) | exact eld_m (by omega) (by first | omega | (simp only [List.length_set]; omega)) (fun _ => rfl) | exact els_m (by omega) (by omega) (by omega) rfl | exact lsl_m (by omega) (fun _ => rfl) | exact app_nil_m (by omega) (fun _ => rfl) (fun _ => rfl) | exact app_m_one (by omega) (fun _ => rfl) rfl rfl | exact app_m_m (by omega) (fun _ => rfl) (fun _ => rfl)) ?_)
  | (refine run_need rfl (by first | decide | omega | (simp only [List.length_map]; omega)) ?_)
  | (refine run_need rfl (by simp (disch := omega) only [zA, z13, z19, z20, z21, z22, z23, z24, z25, z31, eqDs, eqD, Nat.reduceAdd, wrap64]; have := hpp k k0 (by assumption); omega) ?_)
  | (refine run_fb rfl (bxl_b (bs := cs) (k' := (ix (ix ps i).files k).a) rfl rfl (by simp only [zA, z13, z19, z20, z21, z22, z23, z24, z25, z31, eqDs, eqD, Nat.reduceAdd]) (hpp k k0 (by assumption)).1 (by have := (hpp k k0 (by assumption)).2; omega)) ?_)
  | (refine run_fb rfl (bxs_b (bs := cs) (k' := (ix (ix ps i).files k).a) rfl rfl (by simp only [zA, z13, z19, z20, z21, z22, z23, z24, z25, z31, eqDs, eqD, Nat.reduceAdd]) (hpp k k0 (by assumption)).1 (by have := (hpp k k0 (by assumption)).2; omega)) ?_)
  | (refine run_next rfl (Exists.intro (k + 1, cs.set (ix (ix ps i).files k).a.toNat true) ⟨by first | omega | (dsimp only; omega), ⟨by first | omega | (dsimp only; omega), by first | omega | (dsimp only; omega), blw_succ kO ?_, tk_succ kT k0 (hpp k k0 (by assumption))⟩, i64_eq (wrap64 _ (by first | omega | (dsimp only; omega))), rfl, rfl, rfl, rfl, rfl, rfl, rfl, trivial⟩))
  | (refine run_next rfl (Exists.intro (i + 1, cs) ⟨by first | omega | (dsimp only; omega), ⟨by first | omega | (dsimp only; omega), by first | omega | (dsimp only; omega), blw_succ hP ⟨hq, hd, blw_to kO (by first | omega | (dsimp only; omega))⟩, tk_end kT h0 (by omega)⟩, i64_eq (wrap64 _ (by first | omega | (dsimp only; omega))), rfl, rfl, rfl, rfl, trivial⟩))
  | (refine run_need rfl ?_ ?_)
  | (refine run_ret rfl ?_ ; first | refine rb ?_ | refine ri ?_ | refine rs2 ?_ ?_ | refine rs1 ?_)
  | (refine run_retx rfl ?_))
  ·exact fD (fun h' => (h' i h0 hi).2.2 k k0 (by assumption) ((tk_own kT h0 hF k0 (by assumption)).1 h))
  ·exact fun h' => by have := (tk_own kT h0 hF k0 (by assumption)).2 h'; rw [h] at this; cases this
 )
end V
end Go.Proofs.Ytgialjcichiaoaa

/-
Plain proofs: the program's disks and steps.
-/
namespace Go.Proofs.Ytgialjcichiaoaa
namespace V
open Classical
set_option maxRecDepth 100000
variable {W : Wld}

theorem dI {p : Prop} [Decidable p] {b : Bool} (h : b = true ↔ p) : b = decide p := by
 by_cases hp : p <;> simp_all
def offP (n : Int) : Prop := ¬ (-2 ≤ n ∧ n ≤ 9)
theorem diskOk1_ok (n : Int) : FunOk PP W n_i_DiskOk_1 s_i_DiskOk_1 [i64 n] [bo (decide (offP n))] := by
 refine F_i_DiskOk_1 (run_fun ?_)
 (repeat' first
  | (refine run_ite rfl (fun h => ?_) (fun h => ?_) <;> (try simp (disch := omega) only [zA, z13, z19, z20, z21, z22, z23, z24, z25, z31, eqDs, eqD, Nat.reduceAdd, wrap64] at h) <;> (try (exfalso; omega)))
  | (refine run_need rfl (by (try simp (disch := omega) only [zA, z13, z19, z20, z21, z22, z23, z24, z25, z31, eqDs, eqD, Nat.reduceAdd, wrap64]); first | exact elp_m (by omega) (by first | omega | (simp only [List.length_set]; omega)) (fun _ => rfl) | exact eld_m (by omega) (by first | omega | (simp only [List.length_set]; omega)) (fun _ => rfl) | exact els_m (by omega) (by omega) (by omega) rfl | exact lsl_m (by omega) (fun _ => rfl) | exact app_nil_m (by omega) (fun _ => rfl) (fun _ => rfl) | exact app_m_one (by omega) (fun _ => rfl) rfl rfl | exact app_m_m (by omega) (fun _ => rfl) (fun _ => rfl)) ?_)
  | (refine run_need rfl (by first | decide | omega | (simp only [List.length_map]; omega)) ?_)
  | (refine run_call1 rfl (in_ok ..) rfl ?_)
  | (refine run_need rfl ?_ ?_)
  | (refine run_ret rfl ?_ ; first | refine rb ?_ | refine ri ?_ | refine rs2 ?_ ?_ | refine rs1 ?_)
  | (refine run_retx rfl ?_))
 by_cases hx : -2 ≤ n ∧ n ≤ 9
 ·rw [decide_eq_true hx]; exact fD (p := offP n) (fun h => h hx)
 ·rw [decide_eq_false hx]; exact tD (p := offP n) hx
theorem idxInt_ok (ps : List Int) (hl : ps.length ≤ lim) : FunOk PP W n_sl_IndexFunc_int s_sl_IndexFunc_int [eIs ps, [.fn n_i_DiskOk_1 [] []]] [i64 (idxF offP ps ps.length 0)] := by
 refine F_sl_IndexFunc_int (run_fun ?_)
 unfold lim at hl
 refine run_loop rfl (fun i : Int => 0 ≤ i ∧ i ≤ ps.length ∧ idxF offP ps ps.length 0 = idxF offP ps (ps.length - i).toNat i) (fun i => [(8, .val (i64 i)), (0, .val (eIs ps)), (1, .val [.fn n_i_DiskOk_1 [] []]), (7, .val (i64 (ps.map i64).length))]) (fun i => (ps.length - i).toNat) 0 ⟨by omega, by omega, by simp⟩ ⟨rfl, rfl, rfl, rfl, trivial⟩ rfl ?_
 rintro i e ⟨h0, hN, hP⟩
 (repeat' first
  | (refine run_ite rfl (fun h => ?_) (fun h => ?_) <;> (try simp (disch := omega) only [zA, z13, z19, z20, z21, z22, z23, z24, z25, z31, eqDs, eqD, Nat.reduceAdd, wrap64] at h) <;> (try (exfalso; omega)))
  | (refine run_need rfl (by (try simp (disch := omega) only [zA, z13, z19, z20, z21, z22, z23, z24, z25, z31, eqDs, eqD, Nat.reduceAdd, wrap64]); first | exact elp_m (by omega) (by first | omega | (simp only [List.length_set]; omega)) (fun _ => rfl) | exact eld_m (by omega) (by first | omega | (simp only [List.length_set]; omega)) (fun _ => rfl) | exact els_m (by omega) (by omega) (by omega) rfl | exact lsl_m (by omega) (fun _ => rfl) | exact app_nil_m (by omega) (fun _ => rfl) (fun _ => rfl) | exact app_m_one (by omega) (fun _ => rfl) rfl rfl | exact app_m_m (by omega) (fun _ => rfl) (fun _ => rfl)) ?_)
  | (refine run_need rfl (by first | decide | omega | (simp only [List.length_map]; omega)) ?_)
  | (refine run_clo1 (ins' := [i64 (ix ps i)]) rfl (diskOk1_ok (ix ps i)) (by simp (disch := omega) only [zA, z13, z19, z20, z21, z22, z23, z24, z25, z31, eqDs, eqD, Nat.reduceAdd, wrap64]) rfl ?_)
  | (refine run_next rfl (Exists.intro (i + 1) ⟨by omega, ⟨by omega, by omega, ?_⟩, i64_eq (wrap64 _ (by omega)), rfl, rfl, rfl, trivial⟩))
  | (refine run_need rfl ?_ ?_)
  | (refine run_ret rfl ?_ ; first | refine rb ?_ | refine ri ?_ | refine rs2 ?_ ?_ | refine rs1 ?_)
  | (refine run_retx rfl ?_))
 ·rw [hP, show ((ps.length : Int) - i).toNat = ((ps.length : Int) - (i + 1)).toNat + 1 by omega, idxF, if_pos h]
 ·rw [hP, show ((ps.length : Int) - i).toNat = ((ps.length : Int) - (i + 1)).toNat + 1 by omega, idxF, if_neg h]
 ·rw [hP, show ((ps.length : Int) - i).toNat = 0 by omega, idxF]
theorem conInt_ok (ps : List Int) (hl : ps.length ≤ lim) : FunOk PP W n_sl_ContainsFunc_int s_sl_ContainsFunc_int [eIs ps, [.fn n_i_DiskOk_1 [] []]] [bo (decide (∃ p ∈ ps, offP p))] := by
 refine F_sl_ContainsFunc_int (run_fun ?_)
 (repeat' first
  | (refine run_ite rfl (fun h => ?_) (fun h => ?_) <;> (try simp (disch := omega) only [zA, z13, z19, z20, z21, z22, z23, z24, z25, z31, eqDs, eqD, Nat.reduceAdd, wrap64] at h) <;> (try (exfalso; omega)))
  | (refine run_need rfl (by (try simp (disch := omega) only [zA, z13, z19, z20, z21, z22, z23, z24, z25, z31, eqDs, eqD, Nat.reduceAdd, wrap64]); first | exact elp_m (by omega) (by first | omega | (simp only [List.length_set]; omega)) (fun _ => rfl) | exact eld_m (by omega) (by first | omega | (simp only [List.length_set]; omega)) (fun _ => rfl) | exact els_m (by omega) (by omega) (by omega) rfl | exact lsl_m (by omega) (fun _ => rfl) | exact app_nil_m (by omega) (fun _ => rfl) (fun _ => rfl) | exact app_m_one (by omega) (fun _ => rfl) rfl rfl | exact app_m_m (by omega) (fun _ => rfl) (fun _ => rfl)) ?_)
  | (refine run_need rfl (by first | decide | omega | (simp only [List.length_map]; omega)) ?_)
  | (refine run_call1 rfl (idxInt_ok ps hl) rfl ?_)
  | (refine run_need rfl ?_ ?_)
  | (refine run_ret rfl ?_ ; first | refine rb ?_ | refine ri ?_ | refine rs2 ?_ ?_ | refine rs1 ?_)
  | (refine run_retx rfl ?_))
 congr 1
 simp only [ge_iff_le, eq_iff_iff]
 exact idxF_mem _ _

theorem dkFiles_iff (d : Dk) : Blw d.files.length (fun i => -2 ≤ ix d.files i ∧ ix d.files i ≤ 9) ↔ ¬ ∃ n ∈ d.files, offP n := by
 constructor
 ·rintro h ⟨n, hn, ho⟩
  obtain ⟨k, k0, k1, rfl⟩ := mem_ix hn
  exact ho (h k k0 k1)
 ·intro h i i0 i1
  exact Classical.byContradiction fun ho => h ⟨_, ix_mem i0 i1, ho⟩
theorem iDiskOk_ok (d : Dk) (hs : SmD d) : FunOk PP W n_i_DiskOk s_i_DiskOk [eDk d] [bo (decide (DkOk d))] := by
 refine F_i_DiskOk (run_fun ?_)
 obtain ⟨h1, h2, h3⟩ := hs
 have h2' := h2
 unfold lim at h2'
 (repeat' first
  | (refine run_ite rfl (fun h => ?_) (fun h => ?_) <;> (try simp (disch := omega) only [zA, z13, z19, z20, z21, z22, z23, z24, z25, z31, eqDs, eqD, Nat.reduceAdd, wrap64] at h) <;> (try (exfalso; omega)))
  | (refine run_need rfl (by (try simp (disch := omega) only [zA, z13, z19, z20, z21, z22, z23, z24, z25, z31, eqDs, eqD, Nat.reduceAdd, wrap64]); first | exact elp_m (by omega) (by first | omega | (simp only [List.length_set]; omega)) (fun _ => rfl) | exact eld_m (by omega) (by first | omega | (simp only [List.length_set]; omega)) (fun _ => rfl) | exact els_m (by omega) (by omega) (by omega) rfl | exact lsl_m (by omega) (fun _ => rfl) | exact app_nil_m (by omega) (fun _ => rfl) (fun _ => rfl) | exact app_m_one (by omega) (fun _ => rfl) rfl rfl | exact app_m_m (by omega) (fun _ => rfl) (fun _ => rfl)) ?_)
  | (refine run_need rfl (by first | decide | omega | (simp only [List.length_map]; omega)) ?_)
  | (refine run_call1 rfl (conInt_ok d.files h2) rfl ?_)
  | (refine run_call1 rfl (iPlanOk_ok d.db h1) rfl ?_)
  | (refine run_call1 rfl (iPlanOk_ok d.jour h3) rfl ?_)
  | (refine run_need rfl ?_ ?_)
  | (refine run_ret rfl ?_ ; first | refine rb ?_ | refine ri ?_ | refine rs2 ?_ ?_ | refine rs1 ?_)
  | (refine run_retx rfl ?_))
 all_goals
  refine dI (p := DkOk d) ?_
  unfold DkOk
  rw [dkFiles_iff]
  try simp only [List.length_map, beq_iff_eq, Int.natCast_eq_zero]
  grind

def StOk (s : Stp) : Prop := ((s.kind = 1 ∨ s.kind = 3) ∧ s.path = 0 ∧ s.data = 0 ∧ PlanM s.pkgs) ∨ (s.kind = 2 ∧ (0 ≤ s.path ∧ s.path ≤ 5) ∧ (-1 ≤ s.data ∧ s.data ≤ 9) ∧ s.pkgs.length = 0) ∨ (s.kind = 4 ∧ s.path = 0 ∧ s.data = 0 ∧ s.pkgs.length = 0)
theorem iStepOk_ok (s : Stp) (hs : SmS s) : FunOk PP W n_i_Step_ok s_i_Step_ok [eSt s] [bo (decide (StOk s))] := by
 refine F_i_Step_ok (run_fun ?_)
 (repeat' first
  | (refine run_ite rfl (fun h => ?_) (fun h => ?_) <;> (try simp (disch := omega) only [zA, z13, z19, z20, z21, z22, z23, z24, z25, z31, eqDs, eqD, Nat.reduceAdd, wrap64] at h) <;> (try (exfalso; omega)))
  | (refine run_need rfl (by (try simp (disch := omega) only [zA, z13, z19, z20, z21, z22, z23, z24, z25, z31, eqDs, eqD, Nat.reduceAdd, wrap64]); first | exact elp_m (by omega) (by first | omega | (simp only [List.length_set]; omega)) (fun _ => rfl) | exact eld_m (by omega) (by first | omega | (simp only [List.length_set]; omega)) (fun _ => rfl) | exact els_m (by omega) (by omega) (by omega) rfl | exact lsl_m (by omega) (fun _ => rfl) | exact app_nil_m (by omega) (fun _ => rfl) (fun _ => rfl) | exact app_m_one (by omega) (fun _ => rfl) rfl rfl | exact app_m_m (by omega) (fun _ => rfl) (fun _ => rfl)) ?_)
  | (refine run_need rfl (by first | decide | omega | (simp only [List.length_map]; omega)) ?_)
  | (refine run_call1 rfl (iPlanOk_ok s.pkgs hs) rfl ?_)
  | (refine run_call1 rfl (in_ok ..) rfl ?_)
  | (refine run_need rfl ?_ ?_)
  | (refine run_ret rfl ?_ ; first | refine rb ?_ | refine ri ?_ | refine rs2 ?_ ?_ | refine rs1 ?_)
  | (refine run_retx rfl ?_))
 all_goals
  refine dI ?_
  unfold StOk
  try simp only [List.length_map, beq_iff_eq, Int.natCast_eq_zero, decide_eq_true_eq]
  grind

def badP (s : Stp) : Prop := ¬ StOk s
theorem instTo1_ok (s : Stp) (hs : SmS s) : FunOk PP W n_i_InstTo_1 s_i_InstTo_1 [eSt s] [bo (decide (badP s))] := by
 refine F_i_InstTo_1 (run_fun ?_)
 (repeat' first
  | (refine run_ite rfl (fun h => ?_) (fun h => ?_) <;> (try simp (disch := omega) only [zA, z13, z19, z20, z21, z22, z23, z24, z25, z31, eqDs, eqD, Nat.reduceAdd, wrap64] at h) <;> (try (exfalso; omega)))
  | (refine run_need rfl (by (try simp (disch := omega) only [zA, z13, z19, z20, z21, z22, z23, z24, z25, z31, eqDs, eqD, Nat.reduceAdd, wrap64]); first | exact elp_m (by omega) (by first | omega | (simp only [List.length_set]; omega)) (fun _ => rfl) | exact eld_m (by omega) (by first | omega | (simp only [List.length_set]; omega)) (fun _ => rfl) | exact els_m (by omega) (by omega) (by omega) rfl | exact lsl_m (by omega) (fun _ => rfl) | exact app_nil_m (by omega) (fun _ => rfl) (fun _ => rfl) | exact app_m_one (by omega) (fun _ => rfl) rfl rfl | exact app_m_m (by omega) (fun _ => rfl) (fun _ => rfl)) ?_)
  | (refine run_need rfl (by first | decide | omega | (simp only [List.length_map]; omega)) ?_)
  | (refine run_call1 rfl (iStepOk_ok s hs) rfl ?_)
  | (refine run_need rfl ?_ ?_)
  | (refine run_ret rfl ?_ ; first | refine rb ?_ | refine ri ?_ | refine rs2 ?_ ?_ | refine rs1 ?_)
  | (refine run_retx rfl ?_))
 by_cases hx : StOk s
 ·rw [decide_eq_true hx]; exact fD (p := badP s) (fun h => h hx)
 ·rw [decide_eq_false hx]; exact tD (p := badP s) hx
def SmSs (l : List Stp) : Prop := l.length ≤ lim ∧ ∀ s ∈ l, SmS s
theorem idxSt_ok (ps : List Stp) (hs : SmSs ps) : FunOk PP W n_sl_IndexFunc_Step s_sl_IndexFunc_Step [eSts ps, [.fn n_i_InstTo_1 [] []]] [i64 (idxF badP ps ps.length 0)] := by
 refine F_sl_IndexFunc_Step (run_fun ?_)
 have hl := hs.1
 unfold lim at hl
 refine run_loop rfl (fun i : Int => 0 ≤ i ∧ i ≤ ps.length ∧ idxF badP ps ps.length 0 = idxF badP ps (ps.length - i).toNat i) (fun i => [(8, .val (i64 i)), (0, .val (eSts ps)), (1, .val [.fn n_i_InstTo_1 [] []]), (7, .val (i64 (ps.map eSt).length))]) (fun i => (ps.length - i).toNat) 0 ⟨by omega, by omega, by simp⟩ ⟨rfl, rfl, rfl, rfl, trivial⟩ rfl ?_
 rintro i e ⟨h0, hN, hP⟩
 (repeat' first
  | (refine run_ite rfl (fun h => ?_) (fun h => ?_) <;> (try simp (disch := omega) only [zA, z13, z19, z20, z21, z22, z23, z24, z25, z31, eqDs, eqD, Nat.reduceAdd, wrap64] at h) <;> (try (exfalso; omega)))
  | (refine run_need rfl (by (try simp (disch := omega) only [zA, z13, z19, z20, z21, z22, z23, z24, z25, z31, eqDs, eqD, Nat.reduceAdd, wrap64]); first | exact elp_m (by omega) (by first | omega | (simp only [List.length_set]; omega)) (fun _ => rfl) | exact eld_m (by omega) (by first | omega | (simp only [List.length_set]; omega)) (fun _ => rfl) | exact els_m (by omega) (by omega) (by omega) rfl | exact lsl_m (by omega) (fun _ => rfl) | exact app_nil_m (by omega) (fun _ => rfl) (fun _ => rfl) | exact app_m_one (by omega) (fun _ => rfl) rfl rfl | exact app_m_m (by omega) (fun _ => rfl) (fun _ => rfl)) ?_)
  | (refine run_need rfl (by first | decide | omega | (simp only [List.length_map]; omega)) ?_)
  | (refine run_clo1 (ins' := [eSt (ix ps i)]) rfl (instTo1_ok (ix ps i) (hs.2 _ (ix_mem h0 (by assumption)))) (by simp (disch := omega) only [zA, z13, z19, z20, z21, z22, z23, z24, z25, z31, eqDs, eqD, Nat.reduceAdd, wrap64]) rfl ?_)
  | (refine run_next rfl (Exists.intro (i + 1) ⟨by omega, ⟨by omega, by omega, ?_⟩, i64_eq (wrap64 _ (by omega)), rfl, rfl, rfl, trivial⟩))
  | (refine run_need rfl ?_ ?_)
  | (refine run_ret rfl ?_ ; first | refine rb ?_ | refine ri ?_ | refine rs2 ?_ ?_ | refine rs1 ?_)
  | (refine run_retx rfl ?_))
 ·rw [hP, show ((ps.length : Int) - i).toNat = ((ps.length : Int) - (i + 1)).toNat + 1 by omega, idxF, if_pos h]
 ·rw [hP, show ((ps.length : Int) - i).toNat = ((ps.length : Int) - (i + 1)).toNat + 1 by omega, idxF, if_neg h]
 ·rw [hP, show ((ps.length : Int) - i).toNat = 0 by omega, idxF]
theorem conSt_ok (ps : List Stp) (hs : SmSs ps) : FunOk PP W n_sl_ContainsFunc_Step s_sl_ContainsFunc_Step [eSts ps, [.fn n_i_InstTo_1 [] []]] [bo (decide (∃ p ∈ ps, badP p))] := by
 refine F_sl_ContainsFunc_Step (run_fun ?_)
 (repeat' first
  | (refine run_ite rfl (fun h => ?_) (fun h => ?_) <;> (try simp (disch := omega) only [zA, z13, z19, z20, z21, z22, z23, z24, z25, z31, eqDs, eqD, Nat.reduceAdd, wrap64] at h) <;> (try (exfalso; omega)))
  | (refine run_need rfl (by (try simp (disch := omega) only [zA, z13, z19, z20, z21, z22, z23, z24, z25, z31, eqDs, eqD, Nat.reduceAdd, wrap64]); first | exact elp_m (by omega) (by first | omega | (simp only [List.length_set]; omega)) (fun _ => rfl) | exact eld_m (by omega) (by first | omega | (simp only [List.length_set]; omega)) (fun _ => rfl) | exact els_m (by omega) (by omega) (by omega) rfl | exact lsl_m (by omega) (fun _ => rfl) | exact app_nil_m (by omega) (fun _ => rfl) (fun _ => rfl) | exact app_m_one (by omega) (fun _ => rfl) rfl rfl | exact app_m_m (by omega) (fun _ => rfl) (fun _ => rfl)) ?_)
  | (refine run_need rfl (by first | decide | omega | (simp only [List.length_map]; omega)) ?_)
  | (refine run_call1 rfl (idxSt_ok ps hs) rfl ?_)
  | (refine run_need rfl ?_ ?_)
  | (refine run_ret rfl ?_ ; first | refine rb ?_ | refine ri ?_ | refine rs2 ?_ ?_ | refine rs1 ?_)
  | (refine run_retx rfl ?_))
 congr 1
 simp only [ge_iff_le, eq_iff_iff]
 exact idxF_mem _ _

end V
end Go.Proofs.Ytgialjcichiaoaa

/-
Plain proofs: the program's putting in and mending.
-/
namespace Go.Proofs.Ytgialjcichiaoaa
namespace V
open Classical
set_option maxRecDepth 100000
variable {W : Wld}

def ToOk (d : Dk) (l : List Stp) (cut : Int) : Prop := DkOk d ∧ 0 ≤ cut ∧ ∀ s ∈ l, StOk s
theorem stOk_in {s : Stp} (h : StOk s) {n : Nat} (hn : 6 ≤ n) : StIn n s := fun hk => by
 unfold StOk at h; omega
theorem toOk_not {d : Dk} {l : List Stp} {cut : Int} (h : ¬ ToOk d l cut) (torn : Bool) : eDk dkZ = eDk (if ToOk d l cut then toM d l cut torn else dkZ) := by rw [if_neg h]
theorem ix_take {α : Type} [Inhabited α] (l : List α) {n i : Int} (h0 : 0 ≤ i) (h1 : i < n) : ix (l.take n.toNat) i = ix l i := by
 simp only [ix, List.getD_eq_getElem?_getD]
 rw [List.getElem?_take_of_lt (by omega)]
end V
end Go.Proofs.Ytgialjcichiaoaa

/-
Plain proofs: plans that are drawn.
-/
namespace Go.Proofs.Ytgialjcichiaoaa
namespace V
open Classical
set_option maxRecDepth 100000
variable {W : Wld}

noncomputable def c1 (p : Prop) : Nat := if p then 1 else 0
end V
end Go.Proofs.Ytgialjcichiaoaa

/-
Plain proofs: disks that are drawn.
-/
namespace Go.Proofs.Ytgialjcichiaoaa
namespace V
open Classical
set_option maxRecDepth 100000
variable {W : Wld}

def Code (b : List Int) : Prop := b.length ≤ 1048576 ∧ ∀ x ∈ b, 0 ≤ x ∧ x ≤ 255
end V
end Go.Proofs.Ytgialjcichiaoaa

/-
Plain proofs: what the program's functions do, where all that comes back is owned.
-/
namespace Go.Proofs.Ytgialjcichiaoaa
namespace V
open Classical
set_option maxRecDepth 100000
variable {W : Wld}

theorem pkgCopied_X (p : Pk) (hs : SmP p) : FunOk PP W n_i_Pkg_copied s_i_Pkg_copied_X [ePk p] [ePk p] := by
 refine F_i_Pkg_copied_X (run_fun ?_)
 (repeat' first
  | (refine run_ite rfl (fun h => ?_) (fun h => ?_) <;> (try simp (disch := omega) only [zA, z13, z19, z20, z21, z22, z23, z24, z25, z31, eqDs, eqD, Nat.reduceAdd, wrap64] at h) <;> (try (exfalso; omega)))
  | (refine run_need rfl (by (try simp (disch := omega) only [zA, z13, z19, z20, z21, z22, z23, z24, z25, z31, eqDs, eqD, Nat.reduceAdd, wrap64]); first | exact elp_m (by omega) (by first | omega | (simp only [List.length_set]; omega)) (fun _ => rfl) | exact eld_m (by omega) (by first | omega | (simp only [List.length_set]; omega)) (fun _ => rfl) | exact els_m (by omega) (by omega) (by omega) rfl | exact lsl_m (by omega) (fun _ => rfl) | exact app_nil_m (by omega) (fun _ => rfl) (fun _ => rfl) | exact app_m_one (by omega) (fun _ => rfl) rfl rfl | exact app_m_m (by omega) (fun _ => rfl) (fun _ => rfl)) ?_)
  | (refine run_need rfl (by first | decide | omega | (simp only [List.length_map]; omega)) ?_)
  | (refine run_call1 rfl (cloneF_X p.files hs.1) rfl ?_)
  | (refine run_call1 rfl (cloneD_X p.deps hs.2) rfl ?_)
  | (refine run_need rfl ?_ ?_)
  | (refine run_ret rfl ?_ ; first | refine rb ?_ | refine ri ?_ | refine rs2 ?_ ?_ | refine rs1 ?_)
  | (refine run_retx rfl ?_))
 rfl
theorem copies_X (ps : List Pk) (hs : SmPs ps) : FunOk PP W n_i_copies s_i_copies_X [ePks ps] [ePks ps] := by
 refine F_i_copies_X (run_fun ?_)
 have hl := hs.1
 unfold lim at hl
 refine run_loop rfl (fun i : Int => 0 ≤ i ∧ i ≤ ps.length) (fun i => [(8, .val (i64 i)), (6, .val (ePks ps)), (3, .val (ePks (ps.take i.toNat))), (7, .val (i64 (ps.map ePk).length))]) (fun i => (ps.length - i).toNat) 0 ⟨by omega, by omega⟩ ⟨rfl, rfl, rfl, rfl, trivial⟩ rfl ?_
 rintro i e ⟨h0, hN⟩
 have ht : (ps.take i.toNat).length ≤ i := by rw [List.length_take]; omega
 (repeat' first
  | (refine run_ite rfl (fun h => ?_) (fun h => ?_) <;> (try simp (disch := omega) only [zA, z13, z19, z20, z21, z22, z23, z24, z25, z31, eqDs, eqD, Nat.reduceAdd, wrap64] at h) <;> (try (exfalso; omega)))
  | (refine run_need rfl (by (try simp (disch := omega) only [zA, z13, z19, z20, z21, z22, z23, z24, z25, z31, eqDs, eqD, Nat.reduceAdd, wrap64]); first | exact elp_m (by omega) (by first | omega | (simp only [List.length_set]; omega)) (fun _ => rfl) | exact eld_m (by omega) (by first | omega | (simp only [List.length_set]; omega)) (fun _ => rfl) | exact els_m (by omega) (by omega) (by omega) rfl | exact lsl_m (by omega) (fun _ => rfl) | exact app_nil_m (by omega) (fun _ => rfl) (fun _ => rfl) | exact app_m_one (by omega) (fun _ => rfl) rfl rfl | exact app_m_m (by omega) (fun _ => rfl) (fun _ => rfl)) ?_)
  | (refine run_need rfl (by first | decide | omega | (simp only [List.length_map]; omega)) ?_)
  | (refine run_calleq rfl (pkgCopied_X (ix ps i) (smPs_ix hs (by omega) (by omega))) (by simp (disch := omega) only [zA, z13, z19, z20, z21, z22, z23, z24, z25, z31, eqDs, eqD, Nat.reduceAdd, wrap64]) rfl ?_)
  | (refine run_next rfl (Exists.intro (i + 1) ⟨by omega, ⟨by omega, by omega⟩, i64_eq (wrap64 _ (by omega)), rfl, ?_, rfl, trivial⟩))
  | (refine run_need rfl ?_ ?_)
  | (refine run_ret rfl ?_ ; first | refine rb ?_ | refine ri ?_ | refine rs2 ?_ ?_ | refine rs1 ?_)
  | (refine run_retx rfl ?_))
 ·refine sl_eq ?_
  rw [take_ix ps h0 (by omega), List.map_append]
  rfl
 ·refine sl_eq ?_
  rw [List.take_of_length_le (by omega)]

theorem diskCopied_X (d : Dk) (hs : SmD d) : FunOk PP W n_i_Disk_copied s_i_Disk_copied_X [eDk d] [eDk d] := by
 refine F_i_Disk_copied_X (run_fun ?_)
 (repeat' first
  | (refine run_ite rfl (fun h => ?_) (fun h => ?_) <;> (try simp (disch := omega) only [zA, z13, z19, z20, z21, z22, z23, z24, z25, z31, eqDs, eqD, Nat.reduceAdd, wrap64] at h) <;> (try (exfalso; omega)))
  | (refine run_need rfl (by (try simp (disch := omega) only [zA, z13, z19, z20, z21, z22, z23, z24, z25, z31, eqDs, eqD, Nat.reduceAdd, wrap64]); first | exact elp_m (by omega) (by first | omega | (simp only [List.length_set]; omega)) (fun _ => rfl) | exact eld_m (by omega) (by first | omega | (simp only [List.length_set]; omega)) (fun _ => rfl) | exact els_m (by omega) (by omega) (by omega) rfl | exact lsl_m (by omega) (fun _ => rfl) | exact app_nil_m (by omega) (fun _ => rfl) (fun _ => rfl) | exact app_m_one (by omega) (fun _ => rfl) rfl rfl | exact app_m_m (by omega) (fun _ => rfl) (fun _ => rfl)) ?_)
  | (refine run_need rfl (by first | decide | omega | (simp only [List.length_map]; omega)) ?_)
  | (refine run_call1 rfl (copies_X d.db hs.1) rfl ?_)
  | (refine run_call1 rfl (copies_X d.jour hs.2.2) rfl ?_)
  | (refine run_call1 rfl (cloneI_X d.files hs.2.1) rfl ?_)
  | (refine run_need rfl ?_ ?_)
  | (refine run_ret rfl ?_ ; first | refine rb ?_ | refine ri ?_ | refine rs2 ?_ ?_ | refine rs1 ?_)
  | (refine run_retx rfl ?_))
 rfl
theorem diskDo_X (d : Dk) (s : Stp) (hp : StIn d.files.length s) (hs : SmPs s.pkgs) : FunOk PP W n_i_Disk_do s_i_Disk_do_X [eDk d, eSt s] [eDk (doM d s)] := by
 refine F_i_Disk_do_X (run_fun ?_)
 unfold StIn at hp
 (repeat' first
  | (refine run_ite rfl (fun h => ?_) (fun h => ?_) <;> (try simp (disch := omega) only [zA, z13, z19, z20, z21, z22, z23, z24, z25, z31, eqDs, eqD, Nat.reduceAdd, wrap64] at h) <;> (try (exfalso; omega)))
  | (refine run_need rfl (by (try simp (disch := omega) only [zA, z13, z19, z20, z21, z22, z23, z24, z25, z31, eqDs, eqD, Nat.reduceAdd, wrap64]); first | exact elp_m (by omega) (by first | omega | (simp only [List.length_set]; omega)) (fun _ => rfl) | exact eld_m (by omega) (by first | omega | (simp only [List.length_set]; omega)) (fun _ => rfl) | exact els_m (by omega) (by omega) (by omega) rfl | exact lsl_m (by omega) (fun _ => rfl) | exact app_nil_m (by omega) (fun _ => rfl) (fun _ => rfl) | exact app_m_one (by omega) (fun _ => rfl) rfl rfl | exact app_m_m (by omega) (fun _ => rfl) (fun _ => rfl)) ?_)
  | (refine run_need rfl (by first | decide | omega | (simp only [List.length_map]; omega)) ?_)
  | (refine run_call1 rfl (copies_X s.pkgs hs) rfl ?_)
  | (refine run_need rfl ?_ ?_)
  | (refine run_ret rfl ?_ ; first | refine rb ?_ | refine ri ?_ | refine rs2 ?_ ?_ | refine rs1 ?_)
  | (refine run_retx rfl ?_))
 ·unfold doM; rw [if_pos (by assumption)] <;> rfl
 ·unfold doM
  rw [if_neg (by assumption), if_pos (by assumption), els_v (by omega) (by omega)] <;> rfl
 ·unfold doM; rw [if_neg (by assumption), if_neg (by assumption), if_pos (by assumption)] <;> rfl
 ·unfold doM; rw [if_neg (by assumption), if_neg (by assumption), if_neg (by assumption), if_pos (by assumption)] <;> rfl
 ·unfold doM; rw [if_neg (by assumption), if_neg (by assumption), if_neg (by assumption), if_neg (by assumption)] <;> rfl
theorem diskTear_X (d : Dk) (s : Stp) (hp : StIn d.files.length s) : FunOk PP W n_i_Disk_tear s_i_Disk_tear_X [eDk d, eSt s] [eDk (tearM d s)] := by
 refine F_i_Disk_tear_X (run_fun ?_)
 unfold StIn at hp
 (repeat' first
  | (refine run_ite rfl (fun h => ?_) (fun h => ?_) <;> (try simp (disch := omega) only [zA, z13, z19, z20, z21, z22, z23, z24, z25, z31, eqDs, eqD, Nat.reduceAdd, wrap64] at h) <;> (try (exfalso; omega)))
  | (refine run_need rfl (by (try simp (disch := omega) only [zA, z13, z19, z20, z21, z22, z23, z24, z25, z31, eqDs, eqD, Nat.reduceAdd, wrap64]); first | exact elp_m (by omega) (by first | omega | (simp only [List.length_set]; omega)) (fun _ => rfl) | exact eld_m (by omega) (by first | omega | (simp only [List.length_set]; omega)) (fun _ => rfl) | exact els_m (by omega) (by omega) (by omega) rfl | exact lsl_m (by omega) (fun _ => rfl) | exact app_nil_m (by omega) (fun _ => rfl) (fun _ => rfl) | exact app_m_one (by omega) (fun _ => rfl) rfl rfl | exact app_m_m (by omega) (fun _ => rfl) (fun _ => rfl)) ?_)
  | (refine run_need rfl (by first | decide | omega | (simp only [List.length_map]; omega)) ?_)
  | (refine run_need rfl ?_ ?_)
  | (refine run_ret rfl ?_ ; first | refine rb ?_ | refine ri ?_ | refine rs2 ?_ ?_ | refine rs1 ?_)
  | (refine run_retx rfl ?_))
 ·unfold tearM
  rw [if_pos (by assumption), els_v (by omega) (by omega)] <;> rfl
 ·unfold tearM; rw [if_neg (by assumption), if_pos (by assumption)] <;> rfl
 ·unfold tearM; rw [if_neg (by assumption), if_neg (by assumption)] <;> rfl
theorem iInstTo_X (d : Dk) (l : List Stp) (cut : Int) (torn : Bool) (hs : SmD d) (hl : SmSs l) : FunOk PP W n_i_InstTo s_i_InstTo_X [eDk d, eSts l, i64 cut, bo torn] [eDk (if ToOk d l cut then toM d l cut torn else dkZ), bo (decide (ToOk d l cut))] := by
 refine F_i_InstTo_X (run_fun ?_)
 have hll := hl.1
 unfold lim at hll
 (repeat' first
  | (refine run_ite rfl (fun h => ?_) (fun h => ?_) <;> (try simp (disch := omega) only [zA, z13, z19, z20, z21, z22, z23, z24, z25, z31, eqDs, eqD, Nat.reduceAdd, wrap64] at h) <;> (try (exfalso; omega)))
  | (refine run_need rfl (by (try simp (disch := omega) only [zA, z13, z19, z20, z21, z22, z23, z24, z25, z31, eqDs, eqD, Nat.reduceAdd, wrap64]); first | exact elp_m (by omega) (by first | omega | (simp only [List.length_set]; omega)) (fun _ => rfl) | exact eld_m (by omega) (by first | omega | (simp only [List.length_set]; omega)) (fun _ => rfl) | exact els_m (by omega) (by omega) (by omega) rfl | exact lsl_m (by omega) (fun _ => rfl) | exact app_nil_m (by omega) (fun _ => rfl) (fun _ => rfl) | exact app_m_one (by omega) (fun _ => rfl) rfl rfl | exact app_m_m (by omega) (fun _ => rfl) (fun _ => rfl)) ?_)
  | (refine run_need rfl (by first | decide | omega | (simp only [List.length_map]; omega)) ?_)
  | (refine run_call1 rfl (iDiskOk_ok d hs) rfl ?_)
  | (refine run_call1 rfl (conSt_ok l hl) rfl ?_)
  | (refine run_call1 rfl (diskCopied_X d hs) rfl ?_)
  | (refine run_need rfl ?_ ?_)
  | (refine run_ret rfl ?_ ; first | refine rb ?_ | refine ri ?_ | refine rs2 ?_ ?_ | refine rs1 ?_)
  | (refine run_retx rfl ?_))
 ·exact toOk_not (fun h' => h h'.1) torn
 ·exact bo_eq (fD (fun h' => h h'.1))
 ·exact toOk_not (fun h' => by have := h'.2.1; omega) torn
 ·exact bo_eq (fD (fun h' => by have := h'.2.1; omega))
 ·exact toOk_not (fun h' => by obtain ⟨s, h1, h2⟩ := h; exact h2 (h'.2.2 s h1)) torn
 ·exact bo_eq (fD (fun h' => by obtain ⟨s, h1, h2⟩ := h; exact h2 (h'.2.2 s h1)))
 have hd : DkOk d := by assumption
 have hst : ∀ s ∈ l, StOk s := fun s hm => Classical.byContradiction fun hb => h ⟨s, hm, hb⟩
 have hc0 : 0 ≤ cut := by omega
 have hT : ToOk d l cut := ⟨hd, hc0, hst⟩
 clear h
 rw [if_pos hT, decide_eq_true hT]
 obtain ⟨c, hc⟩ : ∃ c : Int, c = if (l.length : Int) < cut then (l.length : Int) else cut := ⟨_, rfl⟩
 have hcl : 0 ≤ c ∧ c ≤ l.length ∧ c ≤ cut ∧ (c < l.length → c = cut) := by split at hc <;> omega
 have hlt : ((l.take c.toNat).length : Int) = c := by rw [List.length_take]; omega
 refine run_loop rfl (fun i : Int => 0 ≤ i ∧ i ≤ c) (fun i => [(35, .val (i64 i)), (34, .val (i64 c)), (33, .val (eSts (l.take c.toNat))), (10, .val (eDk (doAll d (l.take i.toNat)))), (1, .val (eSts l)), (2, .val (i64 c)), (3, .val (bo torn)), (8, .val [.sl [], .sl [], .bool false, .sl []])]) (fun i => (c - i).toNat) 0 ⟨by omega, by omega⟩ ⟨rfl, i64_eq ?_, sl_eq ?_, rfl, rfl, i64_eq ?_, rfl, rfl, trivial⟩ rfl ?_
 ·simp only [List.length_map, ← hc]
  rw [← List.map_take, show Int.toNat 0 = 0 from rfl, List.drop_zero, List.length_map]
  exact hlt
 ·simp only [List.length_map, ← hc]
  rw [← List.map_take]
  rfl
 ·simp only [List.length_map, ← hc]
 rintro i e ⟨h0, hN⟩
 have hdl := doAll_len (l.take i.toNat) d
 have hstep : i < c → doAll d (l.take (i + 1).toNat) = doM (doAll d (l.take i.toNat)) (ix l i) := fun h => doAll_take d l h0 (by omega)
 have hfin : ¬ i < c → doAll d (l.take i.toNat) = doAll d (l.take cut.toNat) := fun h => by
  by_cases hx : c < l.length
  ·rw [show i = cut by omega]
  ·rw [show i.toNat = l.length by omega, List.take_length, List.take_of_length_le (by omega)]
 generalize doAll d (l.take i.toNat) = E at hdl hstep hfin
 have hE : E.files.length = 6 := by rw [hdl]; exact hd.2.1
 have hin : ∀ j : Int, 0 ≤ j → j < l.length → StIn E.files.length (ix l j) := fun j j0 j1 => stOk_in (hst _ (ix_mem j0 j1)) (by omega)
 have hsm : ∀ j : Int, 0 ≤ j → j < l.length → SmPs (ix l j).pkgs := fun j j0 j1 => hl.2 _ (ix_mem j0 j1)
 (repeat' first
  | (refine run_ite rfl (fun h => ?_) (fun h => ?_) <;> (try simp (disch := omega) only [zA, z13, z19, z20, z21, z22, z23, z24, z25, z31, eqDs, eqD, Nat.reduceAdd, wrap64] at h) <;> (try (exfalso; omega)))
  | (refine run_need rfl (by (try simp (disch := omega) only [zA, z13, z19, z20, z21, z22, z23, z24, z25, z31, eqDs, eqD, Nat.reduceAdd, wrap64]); first | exact elp_m (by omega) (by first | omega | (simp only [List.length_set]; omega)) (fun _ => rfl) | exact eld_m (by omega) (by first | omega | (simp only [List.length_set]; omega)) (fun _ => rfl) | exact els_m (by omega) (by omega) (by omega) rfl | exact lsl_m (by omega) (fun _ => rfl) | exact app_nil_m (by omega) (fun _ => rfl) (fun _ => rfl) | exact app_m_one (by omega) (fun _ => rfl) rfl rfl | exact app_m_m (by omega) (fun _ => rfl) (fun _ => rfl)) ?_)
  | (refine run_need rfl (by first | decide | omega | (simp only [List.length_map]; omega)) ?_)
  | (refine run_callb (rs := []) (xs := [eDk (doM E (ix l i))]) rfl (diskDo_X E (ix l i) (hin i h0 (by omega)) (hsm i h0 (by omega))) (by simp (disch := omega) only [zA, z13, z19, z20, z21, z22, z23, z24, z25, z31, eqDs, eqD, Nat.reduceAdd, wrap64, ix_take l h0 (by omega)]) rfl rfl ?_)
  | (refine run_callb (rs := []) (xs := [eDk (tearM E (ix l c))]) rfl (diskTear_X E (ix l c) (hin c hcl.1 (by omega))) (by simp (disch := omega) only [zA, z13, z19, z20, z21, z22, z23, z24, z25, z31, eqDs, eqD, Nat.reduceAdd, wrap64]) rfl rfl ?_)
  | (refine run_next rfl (Exists.intro (i + 1) ⟨by omega, ⟨by omega, by omega⟩, i64_eq (wrap64 _ (by omega)), rfl, rfl, ?_, rfl, rfl, rfl, rfl, trivial⟩))
  | (refine run_need rfl ?_ ?_)
  | (refine run_ret rfl ?_ ; first | refine rb ?_ | refine ri ?_ | refine rs2 ?_ ?_ | refine rs1 ?_)
  | (refine run_retx rfl ?_))
 ·rw [hstep h]; rfl
 ·rw [toM, if_pos ⟨by assumption, hc0, by omega⟩, ← hfin (by assumption), show c = cut by omega]
 ·rfl
 ·rw [toM, if_neg (fun h' => by omega), ← hfin (by assumption)]
 ·rfl
 ·rw [toM, if_neg (fun h' => by rw [h'.1] at h; cases h), ← hfin (by assumption)]
 ·rfl

end V
end Go.Proofs.Ytgialjcichiaoaa

/-
Plain proofs: disks and steps: measured, copied, compared, marked; a step that is done.
-/
namespace Go.Proofs.Ytgialjcichiaoaa
namespace V
open Classical
set_option maxRecDepth 100000
variable {W : Wld}

theorem sStepOk_ok (s : Stp) (hs : SmS s) : FunOk PP W n_s_l21Step s_s_l21Step [eSt s] [bo (decide (StOk s))] := by
 refine F_s_l21Step (run_fun ?_)
 (repeat' first
  | (refine run_ite rfl (fun h => ?_) (fun h => ?_) <;> (try simp (disch := omega) only [zA, z13, z19, z20, z21, z22, z23, z24, z25, z31, eqDs, eqD, Nat.reduceAdd, wrap64] at h) <;> (try (exfalso; omega)))
  | (refine run_need rfl (by (try simp (disch := omega) only [zA, z13, z19, z20, z21, z22, z23, z24, z25, z31, eqDs, eqD, Nat.reduceAdd, wrap64]); first | exact elp_m (by omega) (by first | omega | (simp only [List.length_set]; omega)) (fun _ => rfl) | exact eld_m (by omega) (by first | omega | (simp only [List.length_set]; omega)) (fun _ => rfl) | exact els_m (by omega) (by omega) (by omega) rfl | exact lsl_m (by omega) (fun _ => rfl) | exact app_nil_m (by omega) (fun _ => rfl) (fun _ => rfl) | exact app_m_one (by omega) (fun _ => rfl) rfl rfl | exact app_m_m (by omega) (fun _ => rfl) (fun _ => rfl)) ?_)
  | (refine run_need rfl (by first | decide | omega | (simp only [List.length_map]; omega)) ?_)
  | (refine run_call1 rfl (sPlanOk_ok s.pkgs hs) rfl ?_)
  | (refine run_call1 rfl (l6In_ok ..) rfl ?_)
  | (refine run_need rfl ?_ ?_)
  | (refine run_ret rfl ?_ ; first | refine rb ?_ | refine ri ?_ | refine rs2 ?_ ?_ | refine rs1 ?_)
  | (refine run_retx rfl ?_))
 all_goals
  refine dI ?_
  unfold StOk
  try simp only [List.length_map, beq_iff_eq, Int.natCast_eq_zero, decide_eq_true_eq]
  grind

/-! What is done by one step. -/
/-! Disks and steps come in, are copied, compared. -/
def szD (d : Dk) : Int := szPs d.db + d.files.length + szPs d.jour
theorem szDisk_ok (d : Dk) (left : Int) (h : 0 ≤ left ∧ left ≤ 1048576) (hb : BgD d) : FunOk PP W n_l_szDisk s_l_szDisk [eDk d, i64 left] [i64 (less left (szD d))] := by
 refine F_l_szDisk (run_fun ?_)
 obtain ⟨b1, b2, b3⟩ := hb
 have n1 := szPs_nn d.db
 have n2 := szPs_nn d.jour
 have f1 := szPkgS_ok (W := W) d.db left h b1
 unfold szD
 by_cases c1 : left < szPs d.db
 ·rw [less_lt c1] at f1
  (repeat' first
  | (refine run_ite rfl (fun h => ?_) (fun h => ?_) <;> (try simp (disch := omega) only [zA, z13, z19, z20, z21, z22, z23, z24, z25, z31, eqDs, eqD, Nat.reduceAdd, wrap64] at h) <;> (try (exfalso; omega)))
  | (refine run_need rfl (by (try simp (disch := omega) only [zA, z13, z19, z20, z21, z22, z23, z24, z25, z31, eqDs, eqD, Nat.reduceAdd, wrap64]); first | exact elp_m (by omega) (by first | omega | (simp only [List.length_set]; omega)) (fun _ => rfl) | exact eld_m (by omega) (by first | omega | (simp only [List.length_set]; omega)) (fun _ => rfl) | exact els_m (by omega) (by omega) (by omega) rfl | exact lsl_m (by omega) (fun _ => rfl) | exact app_nil_m (by omega) (fun _ => rfl) (fun _ => rfl) | exact app_m_one (by omega) (fun _ => rfl) rfl rfl | exact app_m_m (by omega) (fun _ => rfl) (fun _ => rfl)) ?_)
  | (refine run_need rfl (by first | decide | omega | (simp only [List.length_map]; omega)) ?_)
  | (refine run_call1 rfl (f1) rfl ?_)
  | (refine run_need rfl ?_ ?_)
  | (refine run_ret rfl ?_ ; first | refine rb ?_ | refine ri ?_ | refine rs2 ?_ ?_ | refine rs1 ?_)
  | (refine run_retx rfl ?_))
  rw [less_lt (by omega)]
 ·rw [less_ge (by omega)] at f1
  have f2 := szIntS_ok (W := W) d.files (left - szPs d.db) (by omega) b2
  by_cases c2 : left - szPs d.db < d.files.length
  ·rw [less_lt c2] at f2
   (repeat' first
  | (refine run_ite rfl (fun h => ?_) (fun h => ?_) <;> (try simp (disch := omega) only [zA, z13, z19, z20, z21, z22, z23, z24, z25, z31, eqDs, eqD, Nat.reduceAdd, wrap64] at h) <;> (try (exfalso; omega)))
  | (refine run_need rfl (by (try simp (disch := omega) only [zA, z13, z19, z20, z21, z22, z23, z24, z25, z31, eqDs, eqD, Nat.reduceAdd, wrap64]); first | exact elp_m (by omega) (by first | omega | (simp only [List.length_set]; omega)) (fun _ => rfl) | exact eld_m (by omega) (by first | omega | (simp only [List.length_set]; omega)) (fun _ => rfl) | exact els_m (by omega) (by omega) (by omega) rfl | exact lsl_m (by omega) (fun _ => rfl) | exact app_nil_m (by omega) (fun _ => rfl) (fun _ => rfl) | exact app_m_one (by omega) (fun _ => rfl) rfl rfl | exact app_m_m (by omega) (fun _ => rfl) (fun _ => rfl)) ?_)
  | (refine run_need rfl (by first | decide | omega | (simp only [List.length_map]; omega)) ?_)
  | (refine run_call1 rfl (f1) rfl ?_)
  | (refine run_call1 rfl (f2) rfl ?_)
  | (refine run_need rfl ?_ ?_)
  | (refine run_ret rfl ?_ ; first | refine rb ?_ | refine ri ?_ | refine rs2 ?_ ?_ | refine rs1 ?_)
  | (refine run_retx rfl ?_))
   rw [less_lt (by omega)]
  ·rw [less_ge (by omega)] at f2
   have f3 := szPkgS_ok (W := W) d.jour (left - szPs d.db - d.files.length) (by omega) b3
   by_cases c3 : left - szPs d.db - d.files.length < szPs d.jour
   ·rw [less_lt c3] at f3
    (repeat' first
  | (refine run_ite rfl (fun h => ?_) (fun h => ?_) <;> (try simp (disch := omega) only [zA, z13, z19, z20, z21, z22, z23, z24, z25, z31, eqDs, eqD, Nat.reduceAdd, wrap64] at h) <;> (try (exfalso; omega)))
  | (refine run_need rfl (by (try simp (disch := omega) only [zA, z13, z19, z20, z21, z22, z23, z24, z25, z31, eqDs, eqD, Nat.reduceAdd, wrap64]); first | exact elp_m (by omega) (by first | omega | (simp only [List.length_set]; omega)) (fun _ => rfl) | exact eld_m (by omega) (by first | omega | (simp only [List.length_set]; omega)) (fun _ => rfl) | exact els_m (by omega) (by omega) (by omega) rfl | exact lsl_m (by omega) (fun _ => rfl) | exact app_nil_m (by omega) (fun _ => rfl) (fun _ => rfl) | exact app_m_one (by omega) (fun _ => rfl) rfl rfl | exact app_m_m (by omega) (fun _ => rfl) (fun _ => rfl)) ?_)
  | (refine run_need rfl (by first | decide | omega | (simp only [List.length_map]; omega)) ?_)
  | (refine run_call1 rfl (f1) rfl ?_)
  | (refine run_call1 rfl (f2) rfl ?_)
  | (refine run_call1 rfl (f3) rfl ?_)
  | (refine run_need rfl ?_ ?_)
  | (refine run_ret rfl ?_ ; first | refine rb ?_ | refine ri ?_ | refine rs2 ?_ ?_ | refine rs1 ?_)
  | (refine run_retx rfl ?_))
    rw [less_lt (by omega)]
   ·rw [less_ge (by omega)] at f3
    (repeat' first
  | (refine run_ite rfl (fun h => ?_) (fun h => ?_) <;> (try simp (disch := omega) only [zA, z13, z19, z20, z21, z22, z23, z24, z25, z31, eqDs, eqD, Nat.reduceAdd, wrap64] at h) <;> (try (exfalso; omega)))
  | (refine run_need rfl (by (try simp (disch := omega) only [zA, z13, z19, z20, z21, z22, z23, z24, z25, z31, eqDs, eqD, Nat.reduceAdd, wrap64]); first | exact elp_m (by omega) (by first | omega | (simp only [List.length_set]; omega)) (fun _ => rfl) | exact eld_m (by omega) (by first | omega | (simp only [List.length_set]; omega)) (fun _ => rfl) | exact els_m (by omega) (by omega) (by omega) rfl | exact lsl_m (by omega) (fun _ => rfl) | exact app_nil_m (by omega) (fun _ => rfl) (fun _ => rfl) | exact app_m_one (by omega) (fun _ => rfl) rfl rfl | exact app_m_m (by omega) (fun _ => rfl) (fun _ => rfl)) ?_)
  | (refine run_need rfl (by first | decide | omega | (simp only [List.length_map]; omega)) ?_)
  | (refine run_call1 rfl (f1) rfl ?_)
  | (refine run_call1 rfl (f2) rfl ?_)
  | (refine run_call1 rfl (f3) rfl ?_)
  | (refine run_need rfl ?_ ?_)
  | (refine run_ret rfl ?_ ; first | refine rb ?_ | refine ri ?_ | refine rs2 ?_ ?_ | refine rs1 ?_)
  | (refine run_retx rfl ?_))
    rw [less_ge (by omega)]; omega
theorem szStep_ok (s : Stp) (left : Int) (h : 0 ≤ left ∧ left ≤ 1048576) (hb : BgPs s.pkgs) : FunOk PP W n_l_szStep s_l_szStep [eSt s, i64 left] [i64 (less left (szPs s.pkgs))] := by
 refine F_l_szStep (run_fun ?_)
 have n1 := szPs_nn s.pkgs
 have f1 := szPkgS_ok (W := W) s.pkgs left h hb
 by_cases c1 : left < szPs s.pkgs
 ·rw [less_lt c1] at f1 ⊢
  (repeat' first
  | (refine run_ite rfl (fun h => ?_) (fun h => ?_) <;> (try simp (disch := omega) only [zA, z13, z19, z20, z21, z22, z23, z24, z25, z31, eqDs, eqD, Nat.reduceAdd, wrap64] at h) <;> (try (exfalso; omega)))
  | (refine run_need rfl (by (try simp (disch := omega) only [zA, z13, z19, z20, z21, z22, z23, z24, z25, z31, eqDs, eqD, Nat.reduceAdd, wrap64]); first | exact elp_m (by omega) (by first | omega | (simp only [List.length_set]; omega)) (fun _ => rfl) | exact eld_m (by omega) (by first | omega | (simp only [List.length_set]; omega)) (fun _ => rfl) | exact els_m (by omega) (by omega) (by omega) rfl | exact lsl_m (by omega) (fun _ => rfl) | exact app_nil_m (by omega) (fun _ => rfl) (fun _ => rfl) | exact app_m_one (by omega) (fun _ => rfl) rfl rfl | exact app_m_m (by omega) (fun _ => rfl) (fun _ => rfl)) ?_)
  | (refine run_need rfl (by first | decide | omega | (simp only [List.length_map]; omega)) ?_)
  | (refine run_call1 rfl (f1) rfl ?_)
  | (refine run_need rfl ?_ ?_)
  | (refine run_ret rfl ?_ ; first | refine rb ?_ | refine ri ?_ | refine rs2 ?_ ?_ | refine rs1 ?_)
  | (refine run_retx rfl ?_))
  rfl
 ·rw [less_ge (by omega)] at f1 ⊢
  (repeat' first
  | (refine run_ite rfl (fun h => ?_) (fun h => ?_) <;> (try simp (disch := omega) only [zA, z13, z19, z20, z21, z22, z23, z24, z25, z31, eqDs, eqD, Nat.reduceAdd, wrap64] at h) <;> (try (exfalso; omega)))
  | (refine run_need rfl (by (try simp (disch := omega) only [zA, z13, z19, z20, z21, z22, z23, z24, z25, z31, eqDs, eqD, Nat.reduceAdd, wrap64]); first | exact elp_m (by omega) (by first | omega | (simp only [List.length_set]; omega)) (fun _ => rfl) | exact eld_m (by omega) (by first | omega | (simp only [List.length_set]; omega)) (fun _ => rfl) | exact els_m (by omega) (by omega) (by omega) rfl | exact lsl_m (by omega) (fun _ => rfl) | exact app_nil_m (by omega) (fun _ => rfl) (fun _ => rfl) | exact app_m_one (by omega) (fun _ => rfl) rfl rfl | exact app_m_m (by omega) (fun _ => rfl) (fun _ => rfl)) ?_)
  | (refine run_need rfl (by first | decide | omega | (simp only [List.length_map]; omega)) ?_)
  | (refine run_call1 rfl (f1) rfl ?_)
  | (refine run_need rfl ?_ ?_)
  | (refine run_ret rfl ?_ ; first | refine rb ?_ | refine ri ?_ | refine rs2 ?_ ?_ | refine rs1 ?_)
  | (refine run_retx rfl ?_))
  rfl
theorem toDisk_X (d : Dk) (hs : SmD d) : FunOk PP W n_l_toDisk s_l_toDisk_X [eDk d] [eDk d] := by
 refine F_l_toDisk_X (run_fun ?_)
 (repeat' first
  | (refine run_ite rfl (fun h => ?_) (fun h => ?_) <;> (try simp (disch := omega) only [zA, z13, z19, z20, z21, z22, z23, z24, z25, z31, eqDs, eqD, Nat.reduceAdd, wrap64] at h) <;> (try (exfalso; omega)))
  | (refine run_need rfl (by (try simp (disch := omega) only [zA, z13, z19, z20, z21, z22, z23, z24, z25, z31, eqDs, eqD, Nat.reduceAdd, wrap64]); first | exact elp_m (by omega) (by first | omega | (simp only [List.length_set]; omega)) (fun _ => rfl) | exact eld_m (by omega) (by first | omega | (simp only [List.length_set]; omega)) (fun _ => rfl) | exact els_m (by omega) (by omega) (by omega) rfl | exact lsl_m (by omega) (fun _ => rfl) | exact app_nil_m (by omega) (fun _ => rfl) (fun _ => rfl) | exact app_m_one (by omega) (fun _ => rfl) rfl rfl | exact app_m_m (by omega) (fun _ => rfl) (fun _ => rfl)) ?_)
  | (refine run_need rfl (by first | decide | omega | (simp only [List.length_map]; omega)) ?_)
  | (refine run_call1 rfl (toPkgS_X d.db hs.1) rfl ?_)
  | (refine run_call1 rfl (toIntS_X d.files hs.2.1) rfl ?_)
  | (refine run_call1 rfl (toPkgS_X d.jour hs.2.2) rfl ?_)
  | (refine run_need rfl ?_ ?_)
  | (refine run_ret rfl ?_ ; first | refine rb ?_ | refine ri ?_ | refine rs2 ?_ ?_ | refine rs1 ?_)
  | (refine run_retx rfl ?_))
 rfl
theorem toStep_X (s : Stp) (hs : SmS s) : FunOk PP W n_l_toStep s_l_toStep_X [eSt s] [eSt s] := by
 refine F_l_toStep_X (run_fun ?_)
 (repeat' first
  | (refine run_ite rfl (fun h => ?_) (fun h => ?_) <;> (try simp (disch := omega) only [zA, z13, z19, z20, z21, z22, z23, z24, z25, z31, eqDs, eqD, Nat.reduceAdd, wrap64] at h) <;> (try (exfalso; omega)))
  | (refine run_need rfl (by (try simp (disch := omega) only [zA, z13, z19, z20, z21, z22, z23, z24, z25, z31, eqDs, eqD, Nat.reduceAdd, wrap64]); first | exact elp_m (by omega) (by first | omega | (simp only [List.length_set]; omega)) (fun _ => rfl) | exact eld_m (by omega) (by first | omega | (simp only [List.length_set]; omega)) (fun _ => rfl) | exact els_m (by omega) (by omega) (by omega) rfl | exact lsl_m (by omega) (fun _ => rfl) | exact app_nil_m (by omega) (fun _ => rfl) (fun _ => rfl) | exact app_m_one (by omega) (fun _ => rfl) rfl rfl | exact app_m_m (by omega) (fun _ => rfl) (fun _ => rfl)) ?_)
  | (refine run_need rfl (by first | decide | omega | (simp only [List.length_map]; omega)) ?_)
  | (refine run_call1 rfl (toPkgS_X s.pkgs hs) rfl ?_)
  | (refine run_need rfl ?_ ?_)
  | (refine run_ret rfl ?_ ; first | refine rb ?_ | refine ri ?_ | refine rs2 ?_ ?_ | refine rs1 ?_)
  | (refine run_retx rfl ?_))
 rfl
theorem eqDisk_ok (p q : Dk) (hs : SmD p) : FunOk PP W n_l_eqDisk s_l_eqDisk [eDk p, eDk q] [bo (decide (p = q))] := by
 refine F_l_eqDisk (run_fun ?_)
 obtain ⟨h1, h2, h3⟩ := hs
 (repeat' first
  | (refine run_ite rfl (fun h => ?_) (fun h => ?_) <;> (try simp (disch := omega) only [zA, z13, z19, z20, z21, z22, z23, z24, z25, z31, eqDs, eqD, Nat.reduceAdd, wrap64] at h) <;> (try (exfalso; omega)))
  | (refine run_need rfl (by (try simp (disch := omega) only [zA, z13, z19, z20, z21, z22, z23, z24, z25, z31, eqDs, eqD, Nat.reduceAdd, wrap64]); first | exact elp_m (by omega) (by first | omega | (simp only [List.length_set]; omega)) (fun _ => rfl) | exact eld_m (by omega) (by first | omega | (simp only [List.length_set]; omega)) (fun _ => rfl) | exact els_m (by omega) (by omega) (by omega) rfl | exact lsl_m (by omega) (fun _ => rfl) | exact app_nil_m (by omega) (fun _ => rfl) (fun _ => rfl) | exact app_m_one (by omega) (fun _ => rfl) rfl rfl | exact app_m_m (by omega) (fun _ => rfl) (fun _ => rfl)) ?_)
  | (refine run_need rfl (by first | decide | omega | (simp only [List.length_map]; omega)) ?_)
  | (refine run_call1 rfl (eqPkgS_ok p.db q.db h1) rfl ?_)
  | (refine run_call1 rfl (eqPkgS_ok p.jour q.jour h3) rfl ?_)
  | (refine run_call1 rfl (eqIntS_ok p.files q.files h2) rfl ?_)
  | (refine run_need rfl ?_ ?_)
  | (refine run_ret rfl ?_ ; first | refine rb ?_ | refine ri ?_ | refine rs2 ?_ ?_ | refine rs1 ?_)
  | (refine run_retx rfl ?_))
 all_goals first
  | exact tD (dk_ext (by assumption) (by assumption) (by assumption) (by assumption))
  | exact fD (fun h' => by subst h'; exact absurd rfl (by assumption))
theorem st_ext {p q : Stp} (h1 : p.kind = q.kind) (h2 : p.path = q.path) (h3 : p.data = q.data) (h4 : p.pkgs = q.pkgs) : p = q := by cases p; cases q; simp_all
theorem eqStep_ok (p q : Stp) (hs : SmS p) : FunOk PP W n_l_eqStep s_l_eqStep [eSt p, eSt q] [bo (decide (p = q))] := by
 refine F_l_eqStep (run_fun ?_)
 (repeat' first
  | (refine run_ite rfl (fun h => ?_) (fun h => ?_) <;> (try simp (disch := omega) only [zA, z13, z19, z20, z21, z22, z23, z24, z25, z31, eqDs, eqD, Nat.reduceAdd, wrap64] at h) <;> (try (exfalso; omega)))
  | (refine run_need rfl (by (try simp (disch := omega) only [zA, z13, z19, z20, z21, z22, z23, z24, z25, z31, eqDs, eqD, Nat.reduceAdd, wrap64]); first | exact elp_m (by omega) (by first | omega | (simp only [List.length_set]; omega)) (fun _ => rfl) | exact eld_m (by omega) (by first | omega | (simp only [List.length_set]; omega)) (fun _ => rfl) | exact els_m (by omega) (by omega) (by omega) rfl | exact lsl_m (by omega) (fun _ => rfl) | exact app_nil_m (by omega) (fun _ => rfl) (fun _ => rfl) | exact app_m_one (by omega) (fun _ => rfl) rfl rfl | exact app_m_m (by omega) (fun _ => rfl) (fun _ => rfl)) ?_)
  | (refine run_need rfl (by first | decide | omega | (simp only [List.length_map]; omega)) ?_)
  | (refine run_call1 rfl (eqPkgS_ok p.pkgs q.pkgs hs) rfl ?_)
  | (refine run_need rfl ?_ ?_)
  | (refine run_ret rfl ?_ ; first | refine rb ?_ | refine ri ?_ | refine rs2 ?_ ?_ | refine rs1 ?_)
  | (refine run_retx rfl ?_))
 all_goals first
  | exact tD (st_ext (by assumption) (by assumption) (by assumption) (by assumption))
  | exact fD (fun h' => by subst h'; exact absurd rfl (by assumption))

/-! Disks and steps are marked. -/
def cntDk (d : Dk) : Int := cntPs d.db + d.files.length + cntPs d.jour
def markD (d : Dk) (k : Int) : Dk := ⟨markPs d.db k, markI d.files (k + cntPs d.db), d.has, markPs d.jour (k + cntPs d.db + d.files.length)⟩
theorem markDisk_ok (d : Dk) (k : Int) (h0 : 0 ≤ k) (hk : k + cntDk d ≤ 1099511627776) : FunOk PP W n_l_markDisk s_l_markDisk_X [eDk d, i64 k] [i64 (k + cntDk d), eDk (markD d k)] := by
 refine F_l_markDisk_X (run_fun ?_)
 unfold cntDk at hk ⊢
 have n1 := cntPs_nn d.db
 have n2 := cntPs_nn d.jour
 (repeat' first
  | (refine run_ite rfl (fun h => ?_) (fun h => ?_) <;> (try simp (disch := omega) only [zA, z13, z19, z20, z21, z22, z23, z24, z25, z31, eqDs, eqD, Nat.reduceAdd, wrap64] at h) <;> (try (exfalso; omega)))
  | (refine run_need rfl (by (try simp (disch := omega) only [zA, z13, z19, z20, z21, z22, z23, z24, z25, z31, eqDs, eqD, Nat.reduceAdd, wrap64]); first | exact elp_m (by omega) (by first | omega | (simp only [List.length_set]; omega)) (fun _ => rfl) | exact eld_m (by omega) (by first | omega | (simp only [List.length_set]; omega)) (fun _ => rfl) | exact els_m (by omega) (by omega) (by omega) rfl | exact lsl_m (by omega) (fun _ => rfl) | exact app_nil_m (by omega) (fun _ => rfl) (fun _ => rfl) | exact app_m_one (by omega) (fun _ => rfl) rfl rfl | exact app_m_m (by omega) (fun _ => rfl) (fun _ => rfl)) ?_)
  | (refine run_need rfl (by first | decide | omega | (simp only [List.length_map]; omega)) ?_)
  | (refine run_io rfl rfl (markPkgS_ok d.db k h0 (by omega)) rfl rfl rfl rfl ?_)
  | (refine run_io rfl rfl (markIntS_ok d.files (k + cntPs d.db) (by omega) (by omega)) rfl rfl rfl rfl ?_)
  | (refine run_io rfl rfl (markPkgS_ok d.jour (k + cntPs d.db + d.files.length) (by omega) (by omega)) rfl rfl rfl rfl ?_)
  | (refine run_need rfl ?_ ?_)
  | (refine run_ret rfl ?_ ; first | refine rb ?_ | refine ri ?_ | refine rs2 ?_ ?_ | refine rs1 ?_)
  | (refine run_retx rfl ?_))
 ·exact i64_eq (by omega)
 ·rfl
def HdD (d : Dk) (k : Int) : Prop := HdPs d.db k ∧ Blw d.files.length (fun j => ix d.files j = k + cntPs d.db + j) ∧ HdPs d.jour (k + cntPs d.db + d.files.length)
theorem cntDk_mark (d : Dk) (k : Int) : cntDk (markD d k) = cntDk d := by simp [cntDk, markD, cntPs_mark', markI_len]
theorem hdD_mark (d : Dk) (k : Int) : HdD (markD d k) k := by
 refine ⟨hdPs_mark _ _, fun j j0 j1 => ?_, ?_⟩
 ·have j1' : j < d.files.length := by have : (markD d k).files.length = d.files.length := markI_len _ _; omega
  show ix (markI d.files (k + cntPs d.db)) j = k + cntPs (markPs d.db k) + j
  rw [markI_ix _ _ j0 j1', cntPs_mark']
 ·show HdPs (markPs d.jour _) (k + cntPs (markPs d.db k) + (markI d.files (k + cntPs d.db)).length)
  rw [cntPs_mark', markI_len]
  exact hdPs_mark _ _
theorem heldDisk_ok (d : Dk) (k : Int) (h0 : 0 ≤ k) (hk : k + cntDk d ≤ 1099511627776) (hh : HdD d k) : FunOk PP W n_l_heldDisk s_l_heldDisk [eDk d, i64 k] [i64 (k + cntDk d)] := by
 refine F_l_heldDisk (run_fun ?_)
 unfold cntDk at hk ⊢
 have n1 := cntPs_nn d.db
 have n2 := cntPs_nn d.jour
 obtain ⟨g1, g2, g3⟩ := hh
 (repeat' first
  | (refine run_ite rfl (fun h => ?_) (fun h => ?_) <;> (try simp (disch := omega) only [zA, z13, z19, z20, z21, z22, z23, z24, z25, z31, eqDs, eqD, Nat.reduceAdd, wrap64] at h) <;> (try (exfalso; omega)))
  | (refine run_need rfl (by (try simp (disch := omega) only [zA, z13, z19, z20, z21, z22, z23, z24, z25, z31, eqDs, eqD, Nat.reduceAdd, wrap64]); first | exact elp_m (by omega) (by first | omega | (simp only [List.length_set]; omega)) (fun _ => rfl) | exact eld_m (by omega) (by first | omega | (simp only [List.length_set]; omega)) (fun _ => rfl) | exact els_m (by omega) (by omega) (by omega) rfl | exact lsl_m (by omega) (fun _ => rfl) | exact app_nil_m (by omega) (fun _ => rfl) (fun _ => rfl) | exact app_m_one (by omega) (fun _ => rfl) rfl rfl | exact app_m_m (by omega) (fun _ => rfl) (fun _ => rfl)) ?_)
  | (refine run_need rfl (by first | decide | omega | (simp only [List.length_map]; omega)) ?_)
  | (refine run_call1 rfl (heldPkgS_ok d.db k h0 (by omega) g1) rfl ?_)
  | (refine run_call1 rfl (heldIntS_ok d.files (k + cntPs d.db) (by omega) (by omega) g2) rfl ?_)
  | (refine run_call1 rfl (heldPkgS_ok d.jour (k + cntPs d.db + d.files.length) (by omega) (by omega) g3) rfl ?_)
  | (refine run_need rfl ?_ ?_)
  | (refine run_ret rfl ?_ ; first | refine rb ?_ | refine ri ?_ | refine rs2 ?_ ?_ | refine rs1 ?_)
  | (refine run_retx rfl ?_))
 omega
end V
end Go.Proofs.Ytgialjcichiaoaa

/-
The law FnExactDiskDo, in plain terms: it answers true whatever comes in.
-/
namespace Go.Proofs.Ytgialjcichiaoaa
namespace V
open Classical
set_option maxRecDepth 100000
variable {W : Wld}

theorem cntPs_sz : ∀ ps : List Pk, cntPs ps = 2 * szPs ps
 | [] => by simp [cntPs, szPs, sumF]
 | p :: r => by
  have h := cntPs_sz r
  simp only [cntPs, szPs, sumF, List.map_cons, List.sum_cons, List.length_cons] at *
  have e1 : cntP p = 2 + 2 * p.files.length + 2 * p.deps.length := rfl
  have e2 : cP p = p.files.length + p.deps.length := rfl
  omega
theorem sum_mem {α : Type} {f : α → Int} (hf : ∀ x, 0 ≤ f x) : ∀ {xs : List α} {x : α}, x ∈ xs → f x ≤ sumF f xs
 | y :: r, x, h => by
  have h1 := sumF_nn hf r
  have h2 := hf y
  simp only [sumF, List.map_cons, List.sum_cons] at *
  rcases List.mem_cons.1 h with e | h'
  ·rw [e]; omega
  ·have := sum_mem hf h'
   simp only [sumF] at this
   omega
theorem smPs_sz {ps : List Pk} (h : szPs ps ≤ 1073741824) : SmPs ps := by
 have hn := sumF_nn cP_nn ps
 unfold szPs at h
 refine ⟨by unfold lim; omega, fun p hp => ?_⟩
 have := sum_mem cP_nn hp
 have e : cP p = p.files.length + p.deps.length := rfl
 exact ⟨by unfold lim; omega, by unfold lim; omega⟩
theorem szD_parts {d : Dk} (h : szD d ≤ 1073741824) : szPs d.db ≤ 1073741824 ∧ (d.files.length : Int) ≤ 1073741824 ∧ szPs d.jour ≤ 1073741824 := by
 have := szPs_nn d.db
 have := szPs_nn d.jour
 unfold szD at h
 omega
theorem smD_sz {d : Dk} (h : szD d ≤ 1073741824) : SmD d := by
 obtain ⟨h1, h2, h3⟩ := szD_parts h
 exact ⟨smPs_sz h1, by unfold lim; omega, smPs_sz h3⟩
theorem cntDk_sz (d : Dk) : cntDk d ≤ 2 * szD d := by
 unfold cntDk szD
 rw [cntPs_sz, cntPs_sz]
 omega
theorem szD_nn (d : Dk) : 0 ≤ szD d := by
 have := szPs_nn d.db
 have := szPs_nn d.jour
 unfold szD
 omega
theorem szPs_nil : szPs [] = 0 := by simp [szPs, sumF]
theorem szD_Z : szD dkZ = 0 := by simp [szD, dkZ, szPs_nil]
theorem szD_do (d : Dk) (s : Stp) : szD (doM d s) ≤ szD d + szPs s.pkgs := by
 have h1 := szPs_nn d.db
 have h2 := szPs_nn d.jour
 have h3 := szPs_nn s.pkgs
 have h4 := szPs_nil
 unfold szD doM
 repeat' split
 all_goals try simp only [List.length_set]
 all_goals omega
end V
end Go.Proofs.Ytgialjcichiaoaa

/-
Plain proofs: lists of steps: measured, copied, compared, marked, found marked; what the reference does with them.
-/
namespace Go.Proofs.Ytgialjcichiaoaa
namespace V
open Classical
set_option maxRecDepth 100000
variable {W : Wld}

def cSt (s : Stp) : Int := szPs s.pkgs
def szSs (l : List Stp) : Int := l.length + sumF cSt l
theorem cSt_nn (s : Stp) : 0 ≤ cSt s := szPs_nn _
theorem szSs_nn (l : List Stp) : 0 ≤ szSs l := by have := sumF_nn cSt_nn l; unfold szSs; omega
theorem smSs_ix {l : List Stp} (h : SmSs l) {i : Int} (h0 : 0 ≤ i) (h1 : i < l.length) : SmS (ix l i) := h.2 _ (ix_mem h0 h1)

theorem szStepS_ok (l : List Stp) (left : Int) (h : 0 ≤ left ∧ left ≤ 1048576) (hb : BgSs l) : FunOk PP W n_l_szStepS s_l_szStepS [eSts l, i64 left] [i64 (less left (szSs l))] := by
 refine F_l_szStepS (run_fun ?_)
 obtain ⟨b1, b2⟩ := hb
 unfold mx at b1
 have hnn := sumF_nn cSt_nn l
 (repeat' first
  | (refine run_ite rfl (fun h => ?_) (fun h => ?_) <;> (try simp (disch := omega) only [zA, z13, z19, z20, z21, z22, z23, z24, z25, z31, eqDs, eqD, Nat.reduceAdd, wrap64] at h) <;> (try (exfalso; omega)))
  | (refine run_need rfl (by (try simp (disch := omega) only [zA, z13, z19, z20, z21, z22, z23, z24, z25, z31, eqDs, eqD, Nat.reduceAdd, wrap64]); first | exact elp_m (by omega) (by first | omega | (simp only [List.length_set]; omega)) (fun _ => rfl) | exact eld_m (by omega) (by first | omega | (simp only [List.length_set]; omega)) (fun _ => rfl) | exact els_m (by omega) (by omega) (by omega) rfl | exact lsl_m (by omega) (fun _ => rfl) | exact app_nil_m (by omega) (fun _ => rfl) (fun _ => rfl) | exact app_m_one (by omega) (fun _ => rfl) rfl rfl | exact app_m_m (by omega) (fun _ => rfl) (fun _ => rfl)) ?_)
  | (refine run_need rfl (by first | decide | omega | (simp only [List.length_map]; omega)) ?_)
  | (refine run_need rfl ?_ ?_)
  | (refine run_ret rfl ?_ ; first | refine rb ?_ | refine ri ?_ | refine rs2 ?_ ?_ | refine rs1 ?_)
  | (refine run_retx rfl ?_))
 ·rw [less_lt (by unfold szSs; omega)]
 rename_i h'
 refine run_loop rfl (fun i : Int => 0 ≤ i ∧ i ≤ l.length ∧ 0 ≤ left - l.length - sumF cSt (l.take i.toNat)) (fun i => [(5, .val (i64 i)), (1, .val (i64 (left - l.length - sumF cSt (l.take i.toNat)))), (0, .val (eSts l))]) (fun i => (l.length - i).toNat) 0 ⟨by omega, by omega, by simp [sumF]; omega⟩ ⟨rfl, i64_eq (by rw [List.length_map, wrap64 _ (by omega)]; simp [sumF]), rfl, trivial⟩ rfl ?_
 rintro i e ⟨h0, hN, hP⟩
 have hs := sumF_nn cSt_nn (l.take i.toNat)
 by_cases hi : i < l.length
 ·have f := szStep_ok (W := W) (ix l i) (left - l.length - sumF cSt (l.take i.toNat)) (by omega) (b2 _ (ix_mem h0 hi))
  have ht := sumF_take cSt l h0 hi
  have hle := sumF_le cSt_nn l (i + 1).toNat
  have hc := cSt_nn (ix l i)
  have hcd : szPs (ix l i).pkgs = cSt (ix l i) := rfl
  rw [hcd] at f
  by_cases c : left - l.length - sumF cSt (l.take i.toNat) < cSt (ix l i)
  ·rw [less_lt c] at f
   (repeat' first
  | (refine run_ite rfl (fun h => ?_) (fun h => ?_) <;> (try simp (disch := omega) only [zA, z13, z19, z20, z21, z22, z23, z24, z25, z31, eqDs, eqD, Nat.reduceAdd, wrap64] at h) <;> (try (exfalso; omega)))
  | (refine run_need rfl (by (try simp (disch := omega) only [zA, z13, z19, z20, z21, z22, z23, z24, z25, z31, eqDs, eqD, Nat.reduceAdd, wrap64]); first | exact elp_m (by omega) (by first | omega | (simp only [List.length_set]; omega)) (fun _ => rfl) | exact eld_m (by omega) (by first | omega | (simp only [List.length_set]; omega)) (fun _ => rfl) | exact els_m (by omega) (by omega) (by omega) rfl | exact lsl_m (by omega) (fun _ => rfl) | exact app_nil_m (by omega) (fun _ => rfl) (fun _ => rfl) | exact app_m_one (by omega) (fun _ => rfl) rfl rfl | exact app_m_m (by omega) (fun _ => rfl) (fun _ => rfl)) ?_)
  | (refine run_need rfl (by first | decide | omega | (simp only [List.length_map]; omega)) ?_)
  | (refine run_calleq rfl (f) (by simp (disch := omega) only [zA, z13, z19, z20, z21, z22, z23, z24, z25, z31, eqDs, eqD, Nat.reduceAdd, wrap64]) rfl ?_)
  | (refine run_need rfl ?_ ?_)
  | (refine run_ret rfl ?_ ; first | refine rb ?_ | refine ri ?_ | refine rs2 ?_ ?_ | refine rs1 ?_)
  | (refine run_retx rfl ?_))
   rw [less_lt (by unfold szSs; omega)]
  ·rw [less_ge (by omega)] at f
   (repeat' first
  | (refine run_ite rfl (fun h => ?_) (fun h => ?_) <;> (try simp (disch := omega) only [zA, z13, z19, z20, z21, z22, z23, z24, z25, z31, eqDs, eqD, Nat.reduceAdd, wrap64] at h) <;> (try (exfalso; omega)))
  | (refine run_need rfl (by (try simp (disch := omega) only [zA, z13, z19, z20, z21, z22, z23, z24, z25, z31, eqDs, eqD, Nat.reduceAdd, wrap64]); first | exact elp_m (by omega) (by first | omega | (simp only [List.length_set]; omega)) (fun _ => rfl) | exact eld_m (by omega) (by first | omega | (simp only [List.length_set]; omega)) (fun _ => rfl) | exact els_m (by omega) (by omega) (by omega) rfl | exact lsl_m (by omega) (fun _ => rfl) | exact app_nil_m (by omega) (fun _ => rfl) (fun _ => rfl) | exact app_m_one (by omega) (fun _ => rfl) rfl rfl | exact app_m_m (by omega) (fun _ => rfl) (fun _ => rfl)) ?_)
  | (refine run_need rfl (by first | decide | omega | (simp only [List.length_map]; omega)) ?_)
  | (refine run_calleq rfl (f) (by simp (disch := omega) only [zA, z13, z19, z20, z21, z22, z23, z24, z25, z31, eqDs, eqD, Nat.reduceAdd, wrap64]) rfl ?_)
  | (refine run_next rfl (Exists.intro (i + 1) ⟨by omega, ⟨by omega, by omega, by omega⟩, i64_eq (wrap64 _ (by omega)), i64_eq (by omega), rfl, trivial⟩))
  | (refine run_need rfl ?_ ?_)
  | (refine run_ret rfl ?_ ; first | refine rb ?_ | refine ri ?_ | refine rs2 ?_ ?_ | refine rs1 ?_)
  | (refine run_retx rfl ?_))
 ·(repeat' first
  | (refine run_ite rfl (fun h => ?_) (fun h => ?_) <;> (try simp (disch := omega) only [zA, z13, z19, z20, z21, z22, z23, z24, z25, z31, eqDs, eqD, Nat.reduceAdd, wrap64] at h) <;> (try (exfalso; omega)))
  | (refine run_need rfl (by (try simp (disch := omega) only [zA, z13, z19, z20, z21, z22, z23, z24, z25, z31, eqDs, eqD, Nat.reduceAdd, wrap64]); first | exact elp_m (by omega) (by first | omega | (simp only [List.length_set]; omega)) (fun _ => rfl) | exact eld_m (by omega) (by first | omega | (simp only [List.length_set]; omega)) (fun _ => rfl) | exact els_m (by omega) (by omega) (by omega) rfl | exact lsl_m (by omega) (fun _ => rfl) | exact app_nil_m (by omega) (fun _ => rfl) (fun _ => rfl) | exact app_m_one (by omega) (fun _ => rfl) rfl rfl | exact app_m_m (by omega) (fun _ => rfl) (fun _ => rfl)) ?_)
  | (refine run_need rfl (by first | decide | omega | (simp only [List.length_map]; omega)) ?_)
  | (refine run_need rfl ?_ ?_)
  | (refine run_ret rfl ?_ ; first | refine rb ?_ | refine ri ?_ | refine rs2 ?_ ?_ | refine rs1 ?_)
  | (refine run_retx rfl ?_))
  rw [sumF_all _ _ (by omega)] at hP
  rw [sumF_all _ _ (by omega), less_ge (by unfold szSs; omega)]
  unfold szSs
  omega
theorem toStepS_X (l : List Stp) (hs : SmSs l) : FunOk PP W n_l_toStepS s_l_toStepS_X [eSts l] [eSts l] := by
 refine F_l_toStepS_X (run_fun ?_)
 have hl := hs.1
 unfold lim at hl
 (repeat' first
  | (refine run_ite rfl (fun h => ?_) (fun h => ?_) <;> (try simp (disch := omega) only [zA, z13, z19, z20, z21, z22, z23, z24, z25, z31, eqDs, eqD, Nat.reduceAdd, wrap64] at h) <;> (try (exfalso; omega)))
  | (refine run_need rfl (by (try simp (disch := omega) only [zA, z13, z19, z20, z21, z22, z23, z24, z25, z31, eqDs, eqD, Nat.reduceAdd, wrap64]); first | exact elp_m (by omega) (by first | omega | (simp only [List.length_set]; omega)) (fun _ => rfl) | exact eld_m (by omega) (by first | omega | (simp only [List.length_set]; omega)) (fun _ => rfl) | exact els_m (by omega) (by omega) (by omega) rfl | exact lsl_m (by omega) (fun _ => rfl) | exact app_nil_m (by omega) (fun _ => rfl) (fun _ => rfl) | exact app_m_one (by omega) (fun _ => rfl) rfl rfl | exact app_m_m (by omega) (fun _ => rfl) (fun _ => rfl)) ?_)
  | (refine run_need rfl (by first | decide | omega | (simp only [List.length_map]; omega)) ?_)
  | (refine run_need rfl ?_ ?_)
  | (refine run_ret rfl ?_ ; first | refine rb ?_ | refine ri ?_ | refine rs2 ?_ ?_ | refine rs1 ?_)
  | (refine run_retx rfl ?_))
 ·simp [lim]; omega
 refine run_loop rfl (fun x : Int × List Stp => 0 ≤ x.1 ∧ x.1 ≤ l.length ∧ x.2.length = l.length ∧ Blw x.1 (fun j => ix x.2 j = ix l j)) (fun x => [(4, .val (i64 x.1)), (3, .val (eSts x.2)), (0, .val (eSts l))]) (fun x => (l.length - x.1).toNat) (0, List.replicate l.length ⟨0, 0, 0, []⟩) ⟨by omega, by simp, by simp, blw_zero _⟩ ⟨rfl, sl_eq (by simp), rfl, trivial⟩ rfl ?_
 rintro ⟨i, ys⟩ e ⟨h0, hN, hy, hP⟩
 dsimp only at h0 hN hy hP ⊢
 (repeat' first
  | (refine run_ite rfl (fun h => ?_) (fun h => ?_) <;> (try simp (disch := omega) only [zA, z13, z19, z20, z21, z22, z23, z24, z25, z31, eqDs, eqD, Nat.reduceAdd, wrap64] at h) <;> (try (exfalso; omega)))
  | (refine run_need rfl (by (try simp (disch := omega) only [zA, z13, z19, z20, z21, z22, z23, z24, z25, z31, eqDs, eqD, Nat.reduceAdd, wrap64]); first | exact elp_m (by omega) (by first | omega | (simp only [List.length_set]; omega)) (fun _ => rfl) | exact eld_m (by omega) (by first | omega | (simp only [List.length_set]; omega)) (fun _ => rfl) | exact els_m (by omega) (by omega) (by omega) rfl | exact lsl_m (by omega) (fun _ => rfl) | exact app_nil_m (by omega) (fun _ => rfl) (fun _ => rfl) | exact app_m_one (by omega) (fun _ => rfl) rfl rfl | exact app_m_m (by omega) (fun _ => rfl) (fun _ => rfl)) ?_)
  | (refine run_need rfl (by first | decide | omega | (simp only [List.length_map]; omega)) ?_)
  | (refine run_calleq rfl (toStep_X (ix l i) (smSs_ix hs h0 (by omega))) (by simp (disch := omega) only [zA, z13, z19, z20, z21, z22, z23, z24, z25, z31, eqDs, eqD, Nat.reduceAdd, wrap64]) rfl ?_)
  | (refine run_elsc rfl (els_gx (sz := 4) h0 (by omega) (by omega) (fun _ => rfl) (Nat.le_of_ble_eq_true rfl)) (sl_eq (elsSt_a h0 (by omega))) ?_)
  | (refine run_next rfl (Exists.intro (i + 1, ys.set i.toNat (ix l i)) ⟨by dsimp only; omega, ⟨by dsimp only; omega, by dsimp only; omega, by simpa using hy, blw_set h0 (by omega) hP⟩, i64_eq (wrap64 _ (by omega)), rfl, rfl, trivial⟩))
  | (refine run_need rfl ?_ ?_)
  | (refine run_ret rfl ?_ ; first | refine rb ?_ | refine ri ?_ | refine rs2 ?_ ?_ | refine rs1 ?_)
  | (refine run_retx rfl ?_))
 ·exact sl_eq (by rw [ix_ext hy (blw_to hP (by omega))])
theorem eqStepS_ok (a b : List Stp) (ha : SmSs a) : FunOk PP W n_l_eqStepS s_l_eqStepS [eSts a, eSts b] [bo (decide (a = b))] := by
 refine F_l_eqStepS (run_fun ?_)
 have hl := ha.1
 unfold lim at hl
 (repeat' first
  | (refine run_ite rfl (fun h => ?_) (fun h => ?_) <;> (try simp (disch := omega) only [zA, z13, z19, z20, z21, z22, z23, z24, z25, z31, eqDs, eqD, Nat.reduceAdd, wrap64] at h) <;> (try (exfalso; omega)))
  | (refine run_need rfl (by (try simp (disch := omega) only [zA, z13, z19, z20, z21, z22, z23, z24, z25, z31, eqDs, eqD, Nat.reduceAdd, wrap64]); first | exact elp_m (by omega) (by first | omega | (simp only [List.length_set]; omega)) (fun _ => rfl) | exact eld_m (by omega) (by first | omega | (simp only [List.length_set]; omega)) (fun _ => rfl) | exact els_m (by omega) (by omega) (by omega) rfl | exact lsl_m (by omega) (fun _ => rfl) | exact app_nil_m (by omega) (fun _ => rfl) (fun _ => rfl) | exact app_m_one (by omega) (fun _ => rfl) rfl rfl | exact app_m_m (by omega) (fun _ => rfl) (fun _ => rfl)) ?_)
  | (refine run_need rfl (by first | decide | omega | (simp only [List.length_map]; omega)) ?_)
  | (refine run_need rfl ?_ ?_)
  | (refine run_ret rfl ?_ ; first | refine rb ?_ | refine ri ?_ | refine rs2 ?_ ?_ | refine rs1 ?_)
  | (refine run_retx rfl ?_))
 ·exact fD (fun h' => by simp_all)
 have hn : a.length = b.length := by omega
 clear h
 refine run_loop rfl (fun i : Int => 0 ≤ i ∧ i ≤ a.length ∧ Blw i (fun j => ix a j = ix b j)) (fun i => [(5, .val (i64 i)), (0, .val (eSts a)), (1, .val (eSts b))]) (fun i => (a.length - i).toNat) 0 ⟨by omega, by omega, blw_zero _⟩ ⟨rfl, rfl, rfl, trivial⟩ rfl ?_
 rintro i e ⟨h0, hN, hP⟩
 (repeat' first
  | (refine run_ite rfl (fun h => ?_) (fun h => ?_) <;> (try simp (disch := omega) only [zA, z13, z19, z20, z21, z22, z23, z24, z25, z31, eqDs, eqD, Nat.reduceAdd, wrap64] at h) <;> (try (exfalso; omega)))
  | (refine run_need rfl (by (try simp (disch := omega) only [zA, z13, z19, z20, z21, z22, z23, z24, z25, z31, eqDs, eqD, Nat.reduceAdd, wrap64]); first | exact elp_m (by omega) (by first | omega | (simp only [List.length_set]; omega)) (fun _ => rfl) | exact eld_m (by omega) (by first | omega | (simp only [List.length_set]; omega)) (fun _ => rfl) | exact els_m (by omega) (by omega) (by omega) rfl | exact lsl_m (by omega) (fun _ => rfl) | exact app_nil_m (by omega) (fun _ => rfl) (fun _ => rfl) | exact app_m_one (by omega) (fun _ => rfl) rfl rfl | exact app_m_m (by omega) (fun _ => rfl) (fun _ => rfl)) ?_)
  | (refine run_need rfl (by first | decide | omega | (simp only [List.length_map]; omega)) ?_)
  | (refine run_calleq rfl (eqStep_ok (ix a i) (ix b i) (smSs_ix ha (by omega) (by omega))) (by simp (disch := omega) only [zA, z13, z19, z20, z21, z22, z23, z24, z25, z31, eqDs, eqD, Nat.reduceAdd, wrap64]) rfl ?_)
  | (refine run_next rfl (Exists.intro (i + 1) ⟨by omega, ⟨by omega, by omega, blw_succ hP (by assumption)⟩, i64_eq (wrap64 _ (by omega)), rfl, rfl, trivial⟩))
  | (refine run_need rfl ?_ ?_)
  | (refine run_ret rfl ?_ ; first | refine rb ?_ | refine ri ?_ | refine rs2 ?_ ?_ | refine rs1 ?_)
  | (refine run_retx rfl ?_))
 ·exact fD (fun h' => by subst h'; exact absurd rfl (by assumption))
 ·exact tD (ix_ext hn (blw_to hP (by omega)))

/-! Steps are marked. -/
def cntSt (s : Stp) : Int := 3 + cntPs s.pkgs
theorem cntSt_nn (s : Stp) : 0 ≤ cntSt s := by have := cntPs_nn s.pkgs; unfold cntSt; omega
def cntSs (l : List Stp) : Int := sumF cntSt l
def markSe (s : Stp) (k : Int) : Stp := ⟨k, k + 1, k + 2, markPs s.pkgs (k + 3)⟩
def markSs (l : List Stp) (k : Int) : List Stp := (List.range l.length).map fun (j : Nat) => markSe (ix l j) (k + cntSs (l.take j))
theorem markSs_len (l : List Stp) (k : Int) : (markSs l k).length = l.length := by simp [markSs]
theorem markSs_ix (l : List Stp) (k : Int) {i : Int} (h0 : 0 ≤ i) (h1 : i < l.length) : ix (markSs l k) i = markSe (ix l i) (k + cntSs (l.take i.toNat)) := by
 unfold markSs
 rw [ix_range h0 h1]
 simp only [show ((i.toNat : Nat) : Int) = i by omega]
theorem cntSs_nn (l : List Stp) : 0 ≤ cntSs l := sumF_nn cntSt_nn l
theorem len_cntS : ∀ l : List Stp, (l.length : Int) ≤ cntSs l
 | [] => by simp [cntSs, sumF]
 | p :: r => by
  have h := len_cntS r
  have hp := cntPs_nn p.pkgs
  simp only [cntSs, sumF, List.map_cons, List.sum_cons, List.length_cons] at *
  have : cntSt p = 3 + cntPs p.pkgs := rfl
  omega

theorem markStepS_ok (l : List Stp) (k : Int) (h0 : 0 ≤ k) (hk : k + cntSs l ≤ 1099511627776) : FunOk PP W n_l_markStepS s_l_markStepS_X [eSts l, i64 k] [i64 (k + cntSs l), eSts (markSs l k)] := by
 refine F_l_markStepS_X (run_fun ?_)
 have hlc := len_cntS l
 (repeat' first
  | (refine run_ite rfl (fun h => ?_) (fun h => ?_) <;> (try simp (disch := omega) only [zA, z13, z19, z20, z21, z22, z23, z24, z25, z31, eqDs, eqD, Nat.reduceAdd, wrap64] at h) <;> (try (exfalso; omega)))
  | (refine run_need rfl (by (try simp (disch := omega) only [zA, z13, z19, z20, z21, z22, z23, z24, z25, z31, eqDs, eqD, Nat.reduceAdd, wrap64]); first | exact elp_m (by omega) (by first | omega | (simp only [List.length_set]; omega)) (fun _ => rfl) | exact eld_m (by omega) (by first | omega | (simp only [List.length_set]; omega)) (fun _ => rfl) | exact els_m (by omega) (by omega) (by omega) rfl | exact lsl_m (by omega) (fun _ => rfl) | exact app_nil_m (by omega) (fun _ => rfl) (fun _ => rfl) | exact app_m_one (by omega) (fun _ => rfl) rfl rfl | exact app_m_m (by omega) (fun _ => rfl) (fun _ => rfl)) ?_)
  | (refine run_need rfl (by first | decide | omega | (simp only [List.length_map]; omega)) ?_)
  | (refine run_need rfl ?_ ?_)
  | (refine run_ret rfl ?_ ; first | refine rb ?_ | refine ri ?_ | refine rs2 ?_ ?_ | refine rs1 ?_)
  | (refine run_retx rfl ?_))
 refine run_loop rfl (fun x : Int × List Stp => 0 ≤ x.1 ∧ x.1 ≤ l.length ∧ x.2.length = l.length ∧ Blw x.1 (fun j => ix x.2 j = markSe (ix l j) (k + cntSs (l.take j.toNat))) ∧ ∀ j, x.1 ≤ j → ix x.2 j = ix l j)
  (fun x => [(5, .val (i64 x.1)), (1, .val (i64 (k + cntSs (l.take x.1.toNat)))), (0, .val (eSts x.2))]) (fun x => (l.length - x.1).toNat) (0, l) ⟨by omega, by simp, rfl, blw_zero _, fun _ _ => rfl⟩ ⟨rfl, i64_eq (by simp [cntSs, sumF]), rfl, trivial⟩ rfl ?_
 rintro ⟨i, ys⟩ e ⟨i0, hN, hy, hP, hI⟩
 dsimp only at i0 hN hy hP hI ⊢
 have hnn : 0 ≤ cntSs (l.take i.toNat) := cntSs_nn _
 by_cases hi : i < l.length
 ·have hix : ix ys i = ix l i := hI i (by omega)
  have hle := sumF_le cntSt_nn l (i + 1).toNat
  have ht := sumF_take cntSt l i0 hi
  have hc : cntSt (ix l i) = 3 + cntPs (ix l i).pkgs := rfl
  have hcn := cntPs_nn (ix l i).pkgs
  simp only [show sumF cntSt = cntSs from rfl] at hle ht
  generalize hK : k + cntSs (l.take i.toNat) = K at *
  have f1 := markPkgS_ok (W := W) (ix l i).pkgs (K + 3) (by omega) (by omega)
  (repeat' first
  | (refine run_ite rfl (fun h => ?_) (fun h => ?_) <;> (try simp (disch := omega) only [zA, z13, z19, z20, z21, z22, z23, z24, z25, z31, eqDs, eqD, Nat.reduceAdd, wrap64] at h) <;> (try (exfalso; omega)))
  | (refine run_need rfl (by (try simp (disch := omega) only [zA, z13, z19, z20, z21, z22, z23, z24, z25, z31, eqDs, eqD, Nat.reduceAdd, wrap64]); first | exact elp_m (by omega) (by first | omega | (simp only [List.length_set]; omega)) (fun _ => rfl) | exact eld_m (by omega) (by first | omega | (simp only [List.length_set]; omega)) (fun _ => rfl) | exact els_m (by omega) (by omega) (by omega) rfl | exact lsl_m (by omega) (fun _ => rfl) | exact app_nil_m (by omega) (fun _ => rfl) (fun _ => rfl) | exact app_m_one (by omega) (fun _ => rfl) rfl rfl | exact app_m_m (by omega) (fun _ => rfl) (fun _ => rfl)) ?_)
  | (refine run_need rfl (by first | decide | omega | (simp only [List.length_map]; omega)) ?_)
  | (refine run_elsc rfl (els_gx (sz := 4) i0 (by omega) (by omega) (fun _ => rfl) (Nat.le_of_ble_eq_true rfl)) (sl_eq ((elsSt_0 i0 (by omega)).trans (by rw [hix]))) ?_)
  | (refine run_elsc (c := [.sl ((ys.set i.toNat ⟨K, K + 1, (ix l i).data, (ix l i).pkgs⟩).map eSt)]) rfl (els_gx (sz := 4) i0 (by simp only [List.length_set]; omega) (by simp only [List.length_set]; omega) (fun _ => rfl) (Nat.le_of_ble_eq_true rfl)) (sl_eq ((elsSt_1 i0 (by simp only [List.length_set]; omega)).trans (by rw [ix_ssx i0 (by omega), List.set_set, wrap64 _ (by omega)]))) ?_)
  | (refine run_elsc (c := [.sl ((ys.set i.toNat ⟨K, K + 1, K + 2, (ix l i).pkgs⟩).map eSt)]) rfl (els_gx (sz := 4) i0 (by simp only [List.length_set]; omega) (by simp only [List.length_set]; omega) (fun _ => rfl) (Nat.le_of_ble_eq_true rfl)) (sl_eq ((elsSt_2 i0 (by simp only [List.length_set]; omega)).trans (by rw [ix_ssx i0 (by omega), List.set_set, wrap64 (K + 1) (by omega), wrap64 _ (by omega), show K + 1 + 1 = K + 2 by omega]))) ?_)
  | (refine run_ioe rfl rfl rfl (get_ss i0 (by omega)) (get_ss i0 (by omega)) rfl rfl f1 (i64_eq (by rw [wrap64 (K + 1) (by omega), wrap64 (K + 1 + 1) (by omega), wrap64 _ (by omega)]; omega)) (set_ss (q' := ⟨K, K + 1, K + 2, markPs (ix l i).pkgs (K + 3)⟩) rfl) ?_)
  | (refine run_next rfl (Exists.intro (i + 1, ys.set i.toNat (markSe (ix l i) K)) ⟨?_, ⟨?_, ?_, ?_, ?_, ?_⟩, ?_, ?_, ?_, trivial⟩))
  | (refine run_need rfl ?_ ?_)
  | (refine run_ret rfl ?_ ; first | refine rb ?_ | refine ri ?_ | refine rs2 ?_ ?_ | refine rs1 ?_)
  | (refine run_retx rfl ?_))
  ·dsimp only; omega
  ·dsimp only; omega
  ·dsimp only; omega
  ·simpa using hy
  ·subst hK
   exact blw_put (f := fun j => markSe (ix l j) (k + cntSs (l.take j.toNat))) i0 (by omega) hP
  ·exact blw_from i0 (by omega) hI
  ·exact i64_eq (wrap64 _ (by omega))
  ·exact i64_eq (by dsimp only; omega)
  ·rfl
 ·(repeat' first
  | (refine run_ite rfl (fun h => ?_) (fun h => ?_) <;> (try simp (disch := omega) only [zA, z13, z19, z20, z21, z22, z23, z24, z25, z31, eqDs, eqD, Nat.reduceAdd, wrap64] at h) <;> (try (exfalso; omega)))
  | (refine run_need rfl (by (try simp (disch := omega) only [zA, z13, z19, z20, z21, z22, z23, z24, z25, z31, eqDs, eqD, Nat.reduceAdd, wrap64]); first | exact elp_m (by omega) (by first | omega | (simp only [List.length_set]; omega)) (fun _ => rfl) | exact eld_m (by omega) (by first | omega | (simp only [List.length_set]; omega)) (fun _ => rfl) | exact els_m (by omega) (by omega) (by omega) rfl | exact lsl_m (by omega) (fun _ => rfl) | exact app_nil_m (by omega) (fun _ => rfl) (fun _ => rfl) | exact app_m_one (by omega) (fun _ => rfl) rfl rfl | exact app_m_m (by omega) (fun _ => rfl) (fun _ => rfl)) ?_)
  | (refine run_need rfl (by first | decide | omega | (simp only [List.length_map]; omega)) ?_)
  | (refine run_need rfl ?_ ?_)
  | (refine run_ret rfl ?_ ; first | refine rb ?_ | refine ri ?_ | refine rs2 ?_ ?_ | refine rs1 ?_)
  | (refine run_retx rfl ?_))
  ·rw [List.take_of_length_le (by omega)]
  ·refine sl_eq ?_
   rw [ix_ext (xs := ys) (ys := markSs l k) (by rw [markSs_len, hy]) (fun j j0 j1 => (hP j j0 (by omega)).trans (markSs_ix l k j0 (by omega)).symm)]

end V
end Go.Proofs.Ytgialjcichiaoaa

/-
Plain proofs: what the reference puts in and mends; the laws FnExactInstMends, FnExactInstSteps, FnExactInstTo, FnExactInstMend in plain terms.
-/
namespace Go.Proofs.Ytgialjcichiaoaa
namespace V
open Classical
set_option maxRecDepth 100000
variable {W : Wld}

theorem sInstTo_ok (d : Dk) (l : List Stp) (cut : Int) (torn : Bool) (hs : SmD d) (hl : SmSs l) : FunOk PP W n_s_InstTo s_s_InstTo [eDk d, eSts l, i64 cut, bo torn] [eDk (if ToOk d l cut then toM d l cut torn else dkZ), bo (decide (ToOk d l cut))] := by
 refine F_s_InstTo (run_fun ?_)
 have hll := hl.1
 unfold lim at hll
 (repeat' first
  | (refine run_ite rfl (fun h => ?_) (fun h => ?_) <;> (try simp (disch := omega) only [zA, z13, z19, z20, z21, z22, z23, z24, z25, z31, eqDs, eqD, Nat.reduceAdd, wrap64] at h) <;> (try (exfalso; omega)))
  | (refine run_need rfl (by (try simp (disch := omega) only [zA, z13, z19, z20, z21, z22, z23, z24, z25, z31, eqDs, eqD, Nat.reduceAdd, wrap64]); first | exact elp_m (by omega) (by first | omega | (simp only [List.length_set]; omega)) (fun _ => rfl) | exact eld_m (by omega) (by first | omega | (simp only [List.length_set]; omega)) (fun _ => rfl) | exact els_m (by omega) (by omega) (by omega) rfl | exact lsl_m (by omega) (fun _ => rfl) | exact app_nil_m (by omega) (fun _ => rfl) (fun _ => rfl) | exact app_m_one (by omega) (fun _ => rfl) rfl rfl | exact app_m_m (by omega) (fun _ => rfl) (fun _ => rfl)) ?_)
  | (refine run_need rfl (by first | decide | omega | (simp only [List.length_map]; omega)) ?_)
  | (refine run_need rfl ?_ ?_)
  | (refine run_ret rfl ?_ ; first | refine rb ?_ | refine ri ?_ | refine rs2 ?_ ?_ | refine rs1 ?_)
  | (refine run_retx rfl ?_))
 refine run_loop rfl (fun i : Int => 0 ≤ i ∧ i ≤ l.length ∧ Blw i (fun j => StOk (ix l j))) (fun i => [(10, .val (i64 i)), (1, .val (eSts l)), (2, .val (i64 cut)), (3, .val (bo torn)), (4, .val (eDk d)), (8, .val [.sl [], .sl [], .bool false, .sl []])]) (fun i => (l.length - i).toNat) 0 ⟨by omega, by omega, blw_zero _⟩ ⟨rfl, rfl, rfl, rfl, rfl, rfl, trivial⟩ rfl ?_
 rintro i e ⟨h0, hN, hP⟩
 by_cases hi : i < l.length
 ·(repeat' first
  | (refine run_ite rfl (fun h => ?_) (fun h => ?_) <;> (try simp (disch := omega) only [zA, z13, z19, z20, z21, z22, z23, z24, z25, z31, eqDs, eqD, Nat.reduceAdd, wrap64] at h) <;> (try (exfalso; omega)))
  | (refine run_need rfl (by (try simp (disch := omega) only [zA, z13, z19, z20, z21, z22, z23, z24, z25, z31, eqDs, eqD, Nat.reduceAdd, wrap64]); first | exact elp_m (by omega) (by first | omega | (simp only [List.length_set]; omega)) (fun _ => rfl) | exact eld_m (by omega) (by first | omega | (simp only [List.length_set]; omega)) (fun _ => rfl) | exact els_m (by omega) (by omega) (by omega) rfl | exact lsl_m (by omega) (fun _ => rfl) | exact app_nil_m (by omega) (fun _ => rfl) (fun _ => rfl) | exact app_m_one (by omega) (fun _ => rfl) rfl rfl | exact app_m_m (by omega) (fun _ => rfl) (fun _ => rfl)) ?_)
  | (refine run_need rfl (by first | decide | omega | (simp only [List.length_map]; omega)) ?_)
  | (refine run_calleq rfl (sStepOk_ok (ix l i) (smSs_ix hl h0 hi)) (by simp (disch := omega) only [zA, z13, z19, z20, z21, z22, z23, z24, z25, z31, eqDs, eqD, Nat.reduceAdd, wrap64]) rfl ?_)
  | (refine run_next rfl (Exists.intro (i + 1) ⟨by omega, ⟨by omega, by omega, blw_succ hP (by assumption)⟩, i64_eq (wrap64 _ (by omega)), rfl, rfl, rfl, rfl, rfl, trivial⟩))
  | (refine run_need rfl ?_ ?_)
  | (refine run_ret rfl ?_ ; first | refine rb ?_ | refine ri ?_ | refine rs2 ?_ ?_ | refine rs1 ?_)
  | (refine run_retx rfl ?_))
  ·exact toOk_not (fun h' => h (h'.2.2 _ (ix_mem h0 hi))) torn
  ·exact bo_eq (fD (fun h' => h (h'.2.2 _ (ix_mem h0 hi))))
 ·have hst : ∀ s ∈ l, StOk s := fun s hs => by
   obtain ⟨j, j0, j1, rfl⟩ := mem_ix hs
   exact hP j j0 (by omega)
  have hin : DkOk d → StsIn d.files.length l := fun hd s hs => ⟨stOk_in (hst s hs) (dkOk_len hd), hl.2 s hs⟩
  (repeat' first
  | (refine run_ite rfl (fun h => ?_) (fun h => ?_) <;> (try simp (disch := omega) only [zA, z13, z19, z20, z21, z22, z23, z24, z25, z31, eqDs, eqD, Nat.reduceAdd, wrap64] at h) <;> (try (exfalso; omega)))
  | (refine run_need rfl (by (try simp (disch := omega) only [zA, z13, z19, z20, z21, z22, z23, z24, z25, z31, eqDs, eqD, Nat.reduceAdd, wrap64]); first | exact elp_m (by omega) (by first | omega | (simp only [List.length_set]; omega)) (fun _ => rfl) | exact eld_m (by omega) (by first | omega | (simp only [List.length_set]; omega)) (fun _ => rfl) | exact els_m (by omega) (by omega) (by omega) rfl | exact lsl_m (by omega) (fun _ => rfl) | exact app_nil_m (by omega) (fun _ => rfl) (fun _ => rfl) | exact app_m_one (by omega) (fun _ => rfl) rfl rfl | exact app_m_m (by omega) (fun _ => rfl) (fun _ => rfl)) ?_)
  | (refine run_need rfl (by first | decide | omega | (simp only [List.length_map]; omega)) ?_)
  | (refine run_call1 rfl (sDiskOk_ok d hs) rfl ?_)
  | (refine run_call1 rfl (l21Copy_ok d hs) rfl ?_)
  | (refine run_call1 rfl (l22To_ok d l cut torn hl.1 (hin (by assumption))) rfl ?_)
  | (refine run_need rfl ?_ ?_)
  | (refine run_ret rfl ?_ ; first | refine rb ?_ | refine ri ?_ | refine rs2 ?_ ?_ | refine rs1 ?_)
  | (refine run_retx rfl ?_))
  ·exact toOk_not (fun h' => by first | exact h h'.1 | (have := h'.2.1; omega)) torn
  ·exact bo_eq (fD (fun h' => by first | exact h h'.1 | (have := h'.2.1; omega)))
  ·exact toOk_not (fun h' => by first | exact h h'.1 | (have := h'.2.1; omega)) torn
  ·exact bo_eq (fD (fun h' => by first | exact h h'.1 | (have := h'.2.1; omega)))
  ·rw [if_pos ⟨by assumption, by omega, hst⟩]
  ·exact bo_eq (tD ⟨by assumption, by omega, hst⟩)

/-! How much comes back. -/
theorem sumF_one {α : Type} (f : α → Int) (a : α) (r : List α) : sumF f (a :: r) = f a + sumF f r := by simp [sumF]
theorem sumF_none {α : Type} (f : α → Int) : sumF f [] = 0 := rfl
theorem cntSs_sz : ∀ l : List Stp, cntSs l = 3 * l.length + 2 * sumF cSt l
 | [] => rfl
 | s :: r => by
  have h := cntSs_sz r
  unfold cntSs at h ⊢
  rw [sumF_one, sumF_one, List.length_cons]
  have e1 : cntSt s = 3 + cntPs s.pkgs := rfl
  have e2 : cSt s = szPs s.pkgs := rfl
  have := cntPs_sz s.pkgs
  omega
theorem szD_all : ∀ (l : List Stp) (d : Dk), szD (doAll d l) ≤ szD d + sumF cSt l
 | [], d => by
  have : doAll d [] = d := rfl
  rw [this, sumF_none]
  omega
 | s :: r, d => by
  have h := szD_all r (doM d s)
  have h2 := szD_do d s
  have : doAll d (s :: r) = doAll (doM d s) r := rfl
  rw [this, sumF_one]
  have e : cSt s = szPs s.pkgs := rfl
  omega
theorem szD_tear (d : Dk) (s : Stp) : szD (tearM d s) ≤ szD d := by
 have h1 := szPs_nn d.db
 have h2 := szPs_nn d.jour
 have h4 := szPs_nil
 unfold szD tearM
 repeat' split
 all_goals try simp only [List.length_set]
 all_goals omega
theorem szD_to (d : Dk) (l : List Stp) (cut : Int) (torn : Bool) : szD (toM d l cut torn) ≤ szD d + sumF cSt l := by
 have h := szD_all (l.take cut.toNat) d
 have hl := sumF_le cSt_nn l cut.toNat
 unfold toM
 split
 ·have := szD_tear (doAll d (l.take cut.toNat)) (ix l cut)
  omega
 ·omega
noncomputable def toneM (d : Dk) (l : List Stp) (cut : Int) (torn : Bool) : Dk := if ToOk d l cut then toM d l cut torn else dkZ
theorem szD_tone (d : Dk) (l : List Stp) (cut : Int) (torn : Bool) : szD (toneM d l cut torn) ≤ szD d + sumF cSt l := by
 unfold toneM
 split
 ·exact szD_to d l cut torn
 ·rw [szD_Z]
  have := szD_nn d
  have := sumF_nn cSt_nn l
  omega
theorem smSs_sz {l : List Stp} (h : szSs l ≤ 1073741824) : SmSs l := by
 have hn := sumF_nn cSt_nn l
 unfold szSs at h
 refine ⟨by unfold lim; omega, fun s hs => ?_⟩
 have h1 := sum_mem cSt_nn hs
 have e : cSt s = szPs s.pkgs := rfl
 exact smPs_sz (by omega)
theorem cntDk_nn (d : Dk) : 0 ≤ cntDk d := by have := cntPs_nn d.db; have := cntPs_nn d.jour; unfold cntDk; omega
theorem eqDisk_self (d : Dk) (h : SmD d) : FunOk PP W n_l_eqDisk s_l_eqDisk [eDk d, eDk d] [bo true] := by simpa using eqDisk_ok (W := W) d d h
theorem eqStepS_self (l : List Stp) (h : SmSs l) : FunOk PP W n_l_eqStepS s_l_eqStepS [eSts l, eSts l] [bo true] := by simpa using eqStepS_ok (W := W) l l h
theorem heldDisk_self (d : Dk) (h : cntDk d ≤ 1000000000) : FunOk PP W n_l_heldDisk s_l_heldDisk [eDk (markD d 1), i64 1] [i64 (1 + cntDk d)] := by
 have q := heldDisk_ok (W := W) (markD d 1) 1 (by omega) (by rw [cntDk_mark]; omega) (hdD_mark d 1)
 rwa [cntDk_mark] at q
set_option maxHeartbeats 2000000 in
theorem exactInstTo_ok (d : Dk) (l : List Stp) (cut : Int) (torn : Bool) (hd : BgD d) (hl : BgSs l) : FunOk PP W n_l_FnExactInstTo s_l_FnExactInstTo_X [eDk d, eSts l, i64 cut, bo torn] [bo true] := by
 refine F_l_FnExactInstTo_X (run_fun ?_)
 have n1 := szD_nn d
 have n2 := szSs_nn l
 have f1 := szDisk_ok (W := W) d 1048576 (by omega) hd
 by_cases c1 : 1048576 < szD d
 ·rw [less_lt c1] at f1
  (repeat' first
  | (refine run_ite rfl (fun h => ?_) (fun h => ?_) <;> (try simp (disch := omega) only [zA, z13, z19, z20, z21, z22, z23, z24, z25, z31, eqDs, eqD, Nat.reduceAdd, wrap64] at h) <;> (try (exfalso; omega)))
  | (refine run_need rfl (by (try simp (disch := omega) only [zA, z13, z19, z20, z21, z22, z23, z24, z25, z31, eqDs, eqD, Nat.reduceAdd, wrap64]); first | exact elp_m (by omega) (by first | omega | (simp only [List.length_set]; omega)) (fun _ => rfl) | exact eld_m (by omega) (by first | omega | (simp only [List.length_set]; omega)) (fun _ => rfl) | exact els_m (by omega) (by omega) (by omega) rfl | exact lsl_m (by omega) (fun _ => rfl) | exact app_nil_m (by omega) (fun _ => rfl) (fun _ => rfl) | exact app_m_one (by omega) (fun _ => rfl) rfl rfl | exact app_m_m (by omega) (fun _ => rfl) (fun _ => rfl)) ?_)
  | (refine run_need rfl (by first | decide | omega | (simp only [List.length_map]; omega)) ?_)
  | (refine run_call1 rfl (f1) rfl ?_)
  | (refine run_need rfl ?_ ?_)
  | (refine run_ret rfl ?_ ; first | refine rb ?_ | refine ri ?_ | refine rs2 ?_ ?_ | refine rs1 ?_)
  | (refine run_retx rfl ?_))
  rfl
 rw [less_ge (by omega)] at f1
 have f2 := szStepS_ok (W := W) l (1048576 - szD d) (by omega) hl
 by_cases c2 : 1048576 - szD d < szSs l
 ·rw [less_lt c2] at f2
  (repeat' first
  | (refine run_ite rfl (fun h => ?_) (fun h => ?_) <;> (try simp (disch := omega) only [zA, z13, z19, z20, z21, z22, z23, z24, z25, z31, eqDs, eqD, Nat.reduceAdd, wrap64] at h) <;> (try (exfalso; omega)))
  | (refine run_need rfl (by (try simp (disch := omega) only [zA, z13, z19, z20, z21, z22, z23, z24, z25, z31, eqDs, eqD, Nat.reduceAdd, wrap64]); first | exact elp_m (by omega) (by first | omega | (simp only [List.length_set]; omega)) (fun _ => rfl) | exact eld_m (by omega) (by first | omega | (simp only [List.length_set]; omega)) (fun _ => rfl) | exact els_m (by omega) (by omega) (by omega) rfl | exact lsl_m (by omega) (fun _ => rfl) | exact app_nil_m (by omega) (fun _ => rfl) (fun _ => rfl) | exact app_m_one (by omega) (fun _ => rfl) rfl rfl | exact app_m_m (by omega) (fun _ => rfl) (fun _ => rfl)) ?_)
  | (refine run_need rfl (by first | decide | omega | (simp only [List.length_map]; omega)) ?_)
  | (refine run_call1 rfl (f1) rfl ?_)
  | (refine run_call1 rfl (f2) rfl ?_)
  | (refine run_need rfl ?_ ?_)
  | (refine run_ret rfl ?_ ; first | refine rb ?_ | refine ri ?_ | refine rs2 ?_ ?_ | refine rs1 ?_)
  | (refine run_retx rfl ?_))
  rfl
 rw [less_ge (by omega)] at f2
 have hD : SmD d := smD_sz (by omega)
 have hL : SmSs l := smSs_sz (by omega)
 have hz := szD_tone d l cut torn
 have hu : szSs l = l.length + sumF cSt l := rfl
 have hR : SmD (toneM d l cut torn) := smD_sz (by omega)
 have k1 := cntDk_sz d
 have k2 := cntSs_sz l
 have k3 := cntDk_sz (toneM d l cut torn)
 have g1 : FunOk PP W n_s_InstTo s_s_InstTo [eDk d, eSts l, i64 cut, bo torn] [eDk (toneM d l cut torn), bo (decide (ToOk d l cut))] := sInstTo_ok (W := W) d l cut torn hD hL
 have g2 : FunOk PP W n_i_InstTo s_i_InstTo_X [eDk d, eSts l, i64 cut, bo torn] [eDk (toneM d l cut torn), bo (decide (ToOk d l cut))] := iInstTo_X (W := W) d l cut torn hD hL
 generalize decide (ToOk d l cut) = b at g1 g2
 generalize toneM d l cut torn = R at *
 have e1 := eqDisk_self (W := W) R hR
 have e2 := eqDisk_self (W := W) d hD
 have e3 := eqStepS_self (W := W) l hL
 have n3 := cntDk_nn d
 have n4 := cntSs_nn l
 have n5 := cntDk_nn R
 have m1 := markDisk_ok (W := W) d 1 (by omega) (by omega)
 have m2 := markStepS_ok (W := W) l (1 + cntDk d) (by omega) (by omega)
 have m3 := markDisk_ok (W := W) R 1 (by omega) (by omega)
 have q1 := heldDisk_self (W := W) R (by omega)
 cases b
 all_goals
  (repeat' first
  | (refine run_ite rfl (fun h => ?_) (fun h => ?_) <;> (try simp (disch := omega) only [zA, z13, z19, z20, z21, z22, z23, z24, z25, z31, eqDs, eqD, Nat.reduceAdd, wrap64] at h) <;> (try (exfalso; omega)))
  | (refine run_need rfl (by (try simp (disch := omega) only [zA, z13, z19, z20, z21, z22, z23, z24, z25, z31, eqDs, eqD, Nat.reduceAdd, wrap64]); first | exact elp_m (by omega) (by first | omega | (simp only [List.length_set]; omega)) (fun _ => rfl) | exact eld_m (by omega) (by first | omega | (simp only [List.length_set]; omega)) (fun _ => rfl) | exact els_m (by omega) (by omega) (by omega) rfl | exact lsl_m (by omega) (fun _ => rfl) | exact app_nil_m (by omega) (fun _ => rfl) (fun _ => rfl) | exact app_m_one (by omega) (fun _ => rfl) rfl rfl | exact app_m_m (by omega) (fun _ => rfl) (fun _ => rfl)) ?_)
  | (refine run_need rfl (by first | decide | omega | (simp only [List.length_map]; omega)) ?_)
  | (refine run_call1 rfl (f1) rfl ?_)
  | (refine run_call1 rfl (f2) rfl ?_)
  | (refine run_call1 rfl (toDisk_X d hD) rfl ?_)
  | (refine run_call1 rfl (toStepS_X l hL) rfl ?_)
  | (refine run_call1 rfl (e1) rfl ?_)
  | (refine run_call1 rfl (e2) rfl ?_)
  | (refine run_call1 rfl (e3) rfl ?_)
  | (refine run_call1 rfl (q1) rfl ?_)
  | (refine run_callr rfl g1 rfl rfl ?_)
  | (refine run_callr rfl g2 rfl rfl ?_)
  | (refine run_io rfl rfl m1 rfl rfl rfl rfl ?_)
  | (refine run_io rfl rfl m2 rfl rfl rfl rfl ?_)
  | (refine run_io rfl rfl m3 rfl rfl rfl rfl ?_)
  | (refine run_need rfl ?_ ?_)
  | (refine run_ret rfl ?_ ; first | refine rb ?_ | refine ri ?_ | refine rs2 ?_ ?_ | refine rs1 ?_)
  | (refine run_retx rfl ?_))
  all_goals first | rfl | exact absurd trivial (by assumption)

end V
end Go.Proofs.Ytgialjcichiaoaa

