/-
Part 5 of the proof of the claimed statement (its last part holds the theorem, and says what is proved). Conditions: none.
-/
import Derived.Test.YtnaldhcdcpdbnaaDoorM4
set_option linter.all false
/-
Plain proofs: texts of packages and their sums.
-/
namespace Go.Proofs.YtnaldhcdcpdbnaaDoor
namespace V
open Classical
set_option maxRecDepth 100000
variable {W : Wld}

theorem sT_eq {a b : ByteArray} (h : a = b) : ([.str a] : List D) = [.str b] := by rw [h]
theorem wrapU8 (n : Int) (h : 0 ≤ n ∧ n ≤ 255) : IntKind.u8.wrap n = n := by
 show (if (false && decide (n % (2 ^ 8 : Int) ≥ (2 ^ 7 : Int))) = true then n % (2 ^ 8 : Int) - (2 ^ 8 : Int) else n % (2 ^ 8 : Int)) = n
 simp only [Bool.false_and]
 rw [if_neg (by simp)]
 omega
theorem l6Dec_ok (n : Int) (h : 0 ≤ n ∧ n ≤ 9) : FunOk PP W n_s_l6Dec s_s_l6Dec [i64 n] [sT [u8 (48 + n)]] := by
 refine F_s_l6Dec (run_fun ?_)
 (repeat' first
  | (refine run_ite rfl (fun h => ?_) (fun h => ?_) <;> (try simp (disch := omega) only [zA, z13, z19, z20, z21, z22, z23, z24, z25, z31, eqDs, eqD, Nat.reduceAdd, wrap64] at h) <;> (try (exfalso; omega)))
  | (refine run_need rfl (by (try simp (disch := omega) only [zA, z13, z19, z20, z21, z22, z23, z24, z25, z31, eqDs, eqD, Nat.reduceAdd, wrap64]); first | exact elp_m (by omega) (by first | omega | (simp only [List.length_set]; omega)) (fun _ => rfl) | exact eld_m (by omega) (by first | omega | (simp only [List.length_set]; omega)) (fun _ => rfl) | exact els_m (by omega) (by omega) (by omega) rfl | exact lsl_m (by omega) (fun _ => rfl) | exact app_nil_m (by omega) (fun _ => rfl) (fun _ => rfl) | exact app_m_one (by omega) (fun _ => rfl) rfl rfl | exact app_m_m (by omega) (fun _ => rfl) (fun _ => rfl)) ?_)
  | (refine run_need rfl (by first | decide | omega | (simp only [List.length_map]; omega)) ?_)
  | (refine run_need rfl ?_ ?_)
  | (refine run_ret rfl ?_ ; first | refine rb ?_ | refine ri ?_ | refine rs2 ?_ ?_ | refine rs1 ?_)
  | (refine run_retx rfl ?_))
 rw [wrap64 _ (by omega), wrapU8 _ (by omega)]
 rfl
theorem l1Name_ok (n v : Int) (hn : 1 ≤ n ∧ n ≤ 4) (hv : 1 ≤ v ∧ v ≤ 5) : FunOk PP W n_s_l1Name s_s_l1Name [i64 n, i64 v] [sT (nmT n v)] := by
 refine F_s_l1Name (run_fun ?_)
 (repeat' first
  | (refine run_ite rfl (fun h => ?_) (fun h => ?_) <;> (try simp (disch := omega) only [zA, z13, z19, z20, z21, z22, z23, z24, z25, z31, eqDs, eqD, Nat.reduceAdd, wrap64] at h) <;> (try (exfalso; omega)))
  | (refine run_need rfl (by (try simp (disch := omega) only [zA, z13, z19, z20, z21, z22, z23, z24, z25, z31, eqDs, eqD, Nat.reduceAdd, wrap64]); first | exact elp_m (by omega) (by first | omega | (simp only [List.length_set]; omega)) (fun _ => rfl) | exact eld_m (by omega) (by first | omega | (simp only [List.length_set]; omega)) (fun _ => rfl) | exact els_m (by omega) (by omega) (by omega) rfl | exact lsl_m (by omega) (fun _ => rfl) | exact app_nil_m (by omega) (fun _ => rfl) (fun _ => rfl) | exact app_m_one (by omega) (fun _ => rfl) rfl rfl | exact app_m_m (by omega) (fun _ => rfl) (fun _ => rfl)) ?_)
  | (refine run_need rfl (by first | decide | omega | (simp only [List.length_map]; omega)) ?_)
  | (refine run_call1 rfl (l6Dec_ok v (by omega)) rfl ?_)
  | (refine run_need rfl ?_ ?_)
  | (refine run_ret rfl ?_ ; first | refine rb ?_ | refine ri ?_ | refine rs2 ?_ ?_ | refine rs1 ?_)
  | (refine run_retx rfl ?_))
 ·rw [bA_size]
  show 1 + 1 ≤ lim
  decide
 ·rw [wrap64 (97 + n) (by omega), wrap64 _ (by omega), wrapU8 _ (by omega)]
  show [D.str (bA [u8 (97 + n - 1)] ++ bA [u8 (48 + v)])] = _
  rw [bA_app]
  rfl
theorem bAt_bA (l : List UInt8) (i : Int) (hi : i.toNat < l.length) : bAt (bA l) i = ((ix l i).toNat : Int) := by
 unfold bAt
 have h : i.toNat < (bA l).size := by rw [bA_size]; exact hi
 rw [getElem?_pos (bA l) i.toNat h]
 have e1 : ix l i = l[i.toNat] := by
  simp [ix, hi]
  rfl
 rw [e1]
 rfl
abbrev eB8 (b : UInt8) : List D := [.int .u8 b.toNat]
theorem bytesD_bA (l : List UInt8) : bytesD (bA l) = l.map eB8 := rfl
theorem cI_B8 (l : List UInt8) (i : Int) (hi : i.toNat < l.length) : cI (l.map eB8) i 0 = ((ix l i).toNat : Int) := by
 simp [cI, cel_m, hi, intD]
theorem sum_step (l : List UInt8) (i : Int) (h0 : 0 ≤ i) (hi : i < l.length) (x : Int) (hx : x = ((ix l i).toNat : Int)) :
  (IntKind.i64.wrap (IntKind.i64.wrap (IntKind.i64.wrap (31 * sumM (l.take i.toNat)) + IntKind.i64.wrap x) + 1)).tmod 9973 = sumM (l.take (i + 1).toNat) := by
 have hr := sumM_range (l.take i.toNat)
 have hb : (ix l i).toNat < 256 := (ix l i).toNat_lt
 rw [wrap64 x (by omega), wrap64 (31 * _) (by omega), wrap64 (_ + x) (by omega), wrap64 _ (by omega), take_ix l h0 hi]
 unfold sumM at hr ⊢
 rw [List.foldl_append]
 simp only [List.foldl_cons, List.foldl_nil]
 rw [hx]
 rfl
theorem sSumOf_ok (l : List UInt8) (hl : l.length ≤ 1000000) : FunOk PP W n_s_SumOf s_s_SumOf [sT l] [i64 (sumM l)] := by
 refine F_s_SumOf (run_fun ?_)
 refine run_loop rfl (fun i : Int => 0 ≤ i ∧ i ≤ l.length) (fun i => [(4, .val (i64 i)), (3, .val (i64 (sumM (l.take i.toNat)))), (0, .val (sT l))]) (fun i => (l.length - i).toNat) 0 ⟨by omega, by omega⟩ ⟨rfl, rfl, rfl, trivial⟩ rfl ?_
 rintro i e ⟨h0, hN⟩
 have hsz := bA_size l
 (repeat' first
  | (refine run_ite rfl (fun h => ?_) (fun h => ?_) <;> (try simp (disch := omega) only [zA, z13, z19, z20, z21, z22, z23, z24, z25, z31, eqDs, eqD, Nat.reduceAdd, wrap64] at h) <;> (try (exfalso; omega)))
  | (refine run_need rfl (by (try simp (disch := omega) only [zA, z13, z19, z20, z21, z22, z23, z24, z25, z31, eqDs, eqD, Nat.reduceAdd, wrap64]); first | exact elp_m (by omega) (by first | omega | (simp only [List.length_set]; omega)) (fun _ => rfl) | exact eld_m (by omega) (by first | omega | (simp only [List.length_set]; omega)) (fun _ => rfl) | exact els_m (by omega) (by omega) (by omega) rfl | exact lsl_m (by omega) (fun _ => rfl) | exact app_nil_m (by omega) (fun _ => rfl) (fun _ => rfl) | exact app_m_one (by omega) (fun _ => rfl) rfl rfl | exact app_m_m (by omega) (fun _ => rfl) (fun _ => rfl)) ?_)
  | (refine run_need rfl (by first | decide | omega | (simp only [List.length_map]; omega)) ?_)
  | (refine run_next rfl (Exists.intro (i + 1) ⟨by omega, ⟨by omega, by omega⟩, i64_eq (wrap64 _ (by omega)), i64_eq (sum_step l i h0 (by omega) _ (bAt_bA l i (by omega))), rfl, trivial⟩))
  | (refine run_need rfl ?_ ?_)
  | (refine run_ret rfl ?_ ; first | refine rb ?_ | refine ri ?_ | refine rs2 ?_ ?_ | refine rs1 ?_)
  | (refine run_retx rfl ?_))
 rw [List.take_of_length_le (by omega)]
theorem iSumOf_ok (l : List UInt8) (hl : l.length ≤ 1000000) : FunOk PP W n_i_SumOf s_i_SumOf [sT l] [i64 (sumM l)] := by
 refine F_i_SumOf (run_fun ?_)
 refine run_need rfl (by rw [bA_size]; unfold lim; omega) ?_
 rw [bytesD_bA]
 refine run_loop rfl (fun i : Int => 0 ≤ i ∧ i ≤ l.length) (fun i => [(9, .val (i64 i)), (3, .val (i64 (sumM (l.take i.toNat)))), (7, .val [.sl (l.map eB8)]), (8, .val (i64 (l.map eB8).length))]) (fun i => (l.length - i).toNat) 0 ⟨by omega, by omega⟩ ⟨rfl, rfl, rfl, rfl, trivial⟩ rfl ?_
 rintro i e ⟨h0, hN⟩
 (repeat' first
  | (refine run_ite rfl (fun h => ?_) (fun h => ?_) <;> (try simp (disch := omega) only [zA, z13, z19, z20, z21, z22, z23, z24, z25, z31, eqDs, eqD, Nat.reduceAdd, wrap64] at h) <;> (try (exfalso; omega)))
  | (refine run_need rfl (by (try simp (disch := omega) only [zA, z13, z19, z20, z21, z22, z23, z24, z25, z31, eqDs, eqD, Nat.reduceAdd, wrap64]); first | exact elp_m (by omega) (by first | omega | (simp only [List.length_set]; omega)) (fun _ => rfl) | exact eld_m (by omega) (by first | omega | (simp only [List.length_set]; omega)) (fun _ => rfl) | exact els_m (by omega) (by omega) (by omega) rfl | exact lsl_m (by omega) (fun _ => rfl) | exact app_nil_m (by omega) (fun _ => rfl) (fun _ => rfl) | exact app_m_one (by omega) (fun _ => rfl) rfl rfl | exact app_m_m (by omega) (fun _ => rfl) (fun _ => rfl)) ?_)
  | (refine run_need rfl (by first | decide | omega | (simp only [List.length_map]; omega)) ?_)
  | (refine run_next rfl (Exists.intro (i + 1) ⟨by omega, ⟨by omega, by omega⟩, i64_eq (wrap64 _ (by omega)), i64_eq (sum_step l i h0 (by omega) _ (cI_B8 l i (by omega))), rfl, rfl, trivial⟩))
  | (refine run_need rfl ?_ ?_)
  | (refine run_ret rfl ?_ ; first | refine rb ?_ | refine ri ?_ | refine rs2 ?_ ?_ | refine rs1 ?_)
  | (refine run_retx rfl ?_))
 rw [List.take_of_length_le (by omega)]
theorem metaOf_ok (p : Pk) (hs : SmP p) : FunOk PP W n_i_metaOf s_i_metaOf [ePk p] [eMt (mtOf p)] := by
 refine F_i_metaOf (run_fun ?_)
 have hl := textM_len p
 (repeat' first
  | (refine run_ite rfl (fun h => ?_) (fun h => ?_) <;> (try simp (disch := omega) only [zA, z13, z19, z20, z21, z22, z23, z24, z25, z31, eqDs, eqD, Nat.reduceAdd, wrap64] at h) <;> (try (exfalso; omega)))
  | (refine run_need rfl (by (try simp (disch := omega) only [zA, z13, z19, z20, z21, z22, z23, z24, z25, z31, eqDs, eqD, Nat.reduceAdd, wrap64]); first | exact elp_m (by omega) (by first | omega | (simp only [List.length_set]; omega)) (fun _ => rfl) | exact eld_m (by omega) (by first | omega | (simp only [List.length_set]; omega)) (fun _ => rfl) | exact els_m (by omega) (by omega) (by omega) rfl | exact lsl_m (by omega) (fun _ => rfl) | exact app_nil_m (by omega) (fun _ => rfl) (fun _ => rfl) | exact app_m_one (by omega) (fun _ => rfl) rfl rfl | exact app_m_m (by omega) (fun _ => rfl) (fun _ => rfl)) ?_)
  | (refine run_need rfl (by first | decide | omega | (simp only [List.length_map]; omega)) ?_)
  | (refine run_call1 rfl (iPkgText_ok p hs) rfl ?_)
  | (refine run_call1 rfl (iSumOf_ok (textM p) (by omega)) rfl ?_)
  | (refine run_need rfl ?_ ?_)
  | (refine run_ret rfl ?_ ; first | refine rb ?_ | refine ri ?_ | refine rs2 ?_ ?_ | refine rs1 ?_)
  | (refine run_retx rfl ?_))
 rfl

/-! The specification's text of a package. -/
theorem nmT_len (n v : Int) : (nmT n v).length = 2 := rfl
theorem sz1 (b : UInt8) : (⟨#[b]⟩ : ByteArray).size = 1 := rfl
theorem flatT_len {α : Type} (f : α → List UInt8) (n : Nat) (hf : ∀ x, (f x).length = n) : ∀ xs : List α, (xs.flatMap f).length = n * xs.length
 | [] => by simp
 | x :: r => by
  have := flatT_len f n hf r
  simp [hf, this, Nat.mul_add, Nat.add_comm]
theorem takeT {α : Type} [Inhabited α] (f : α → List UInt8) (xs : List α) {i : Int} (h0 : 0 ≤ i) (h1 : i < xs.length) : (xs.take (i + 1).toNat).flatMap f = (xs.take i.toNat).flatMap f ++ f (ix xs i) := by
 rw [take_ix xs h0 h1]
 simp
theorem fT_step (acc : List UInt8) (f : P2) : bA acc ++ ⟨#[32]⟩ ++ bA [u8 (48 + f.a)] ++ ⟨#[58]⟩ ++ bA [u8 (48 + f.b)] = bA (acc ++ fT f) := by
 show bA acc ++ bA [32] ++ bA [u8 (48 + f.a)] ++ bA [58] ++ bA [u8 (48 + f.b)] = _
 simp only [bA_app, List.append_assoc]
 rfl
theorem dT_step (acc : List UInt8) (f : P2) : bA acc ++ ⟨#[32]⟩ ++ bA (nmT f.a f.b) = bA (acc ++ dT f) := by
 show bA acc ++ bA [32] ++ bA (nmT f.a f.b) = _
 simp only [bA_app, List.append_assoc]
 rfl
theorem sPkgText_ok (p : Pk) (hs : SmP p) : FunOk PP W n_s_PkgText s_s_PkgText [ePk p] [sT (textM p)] := by
 refine F_s_PkgText (run_fun ?_)
 (repeat' first
  | (refine run_ite rfl (fun h => ?_) (fun h => ?_) <;> (try simp (disch := omega) only [zA, z13, z19, z20, z21, z22, z23, z24, z25, z31, eqDs, eqD, Nat.reduceAdd, wrap64] at h) <;> (try (exfalso; omega)))
  | (refine run_need rfl (by (try simp (disch := omega) only [zA, z13, z19, z20, z21, z22, z23, z24, z25, z31, eqDs, eqD, Nat.reduceAdd, wrap64]); first | exact elp_m (by omega) (by first | omega | (simp only [List.length_set]; omega)) (fun _ => rfl) | exact eld_m (by omega) (by first | omega | (simp only [List.length_set]; omega)) (fun _ => rfl) | exact els_m (by omega) (by omega) (by omega) rfl | exact lsl_m (by omega) (fun _ => rfl) | exact app_nil_m (by omega) (fun _ => rfl) (fun _ => rfl) | exact app_m_one (by omega) (fun _ => rfl) rfl rfl | exact app_m_m (by omega) (fun _ => rfl) (fun _ => rfl)) ?_)
  | (refine run_need rfl (by first | decide | omega | (simp only [List.length_map]; omega)) ?_)
  | (refine run_call1 rfl (sPkgOk_ok p hs) rfl ?_)
  | (refine run_need rfl ?_ ?_)
  | (refine run_ret rfl ?_ ; first | refine rb ?_ | refine ri ?_ | refine rs2 ?_ ?_ | refine rs1 ?_)
  | (refine run_retx rfl ?_))
 ·rw [textM, if_neg h]
  rfl
 have h1 : (p.files.length : Int) ≤ 2 := h.2.2.1.2
 have h2 : (p.deps.length : Int) ≤ 2 := h.2.2.2.2
 have hT : textM p = nmT p.name p.ver ++ p.files.flatMap fT ++ p.deps.flatMap dT := by rw [textM, if_pos h]
 rw [hT]
 have hF := h.2.2.1.1
 have hD := h.2.2.2.1
 have hn : (nmT p.name p.ver).length = 2 := rfl
 have hfl := flatT_len fT 4 (fun _ => rfl) p.files
 (repeat' first
  | (refine run_ite rfl (fun h => ?_) (fun h => ?_) <;> (try simp (disch := omega) only [zA, z13, z19, z20, z21, z22, z23, z24, z25, z31, eqDs, eqD, Nat.reduceAdd, wrap64] at h) <;> (try (exfalso; omega)))
  | (refine run_need rfl (by (try simp (disch := omega) only [zA, z13, z19, z20, z21, z22, z23, z24, z25, z31, eqDs, eqD, Nat.reduceAdd, wrap64]); first | exact elp_m (by omega) (by first | omega | (simp only [List.length_set]; omega)) (fun _ => rfl) | exact eld_m (by omega) (by first | omega | (simp only [List.length_set]; omega)) (fun _ => rfl) | exact els_m (by omega) (by omega) (by omega) rfl | exact lsl_m (by omega) (fun _ => rfl) | exact app_nil_m (by omega) (fun _ => rfl) (fun _ => rfl) | exact app_m_one (by omega) (fun _ => rfl) rfl rfl | exact app_m_m (by omega) (fun _ => rfl) (fun _ => rfl)) ?_)
  | (refine run_need rfl (by first | decide | omega | (simp only [List.length_map]; omega)) ?_)
  | (refine run_call1 rfl (l1Name_ok p.name p.ver h.1 h.2.1) rfl ?_)
  | (refine run_need rfl ?_ ?_)
  | (refine run_ret rfl ?_ ; first | refine rb ?_ | refine ri ?_ | refine rs2 ?_ ?_ | refine rs1 ?_)
  | (refine run_retx rfl ?_))
 refine run_loop rfl (fun i : Int => 0 ≤ i ∧ i ≤ p.files.length) (fun i => [(4, .val (i64 i)), (3, .val (sT (nmT p.name p.ver ++ (p.files.take i.toNat).flatMap fT))), (1, .val (ePk p))]) (fun i => (p.files.length - i).toNat) 0 ⟨by omega, by omega⟩ ⟨rfl, rfl, rfl, trivial⟩ rfl ?_
 rintro i e ⟨h0, hN⟩
 by_cases hi : i < p.files.length
 ·obtain ⟨fa, fb, _⟩ := hF i h0 hi
  have hl : (nmT p.name p.ver ++ (p.files.take i.toNat).flatMap fT).length ≤ 10 := by
   rw [List.length_append, flatT_len fT 4 (fun _ => rfl), List.length_take]
   omega
  (repeat' first
  | (refine run_ite rfl (fun h => ?_) (fun h => ?_) <;> (try simp (disch := omega) only [zA, z13, z19, z20, z21, z22, z23, z24, z25, z31, eqDs, eqD, Nat.reduceAdd, wrap64] at h) <;> (try (exfalso; omega)))
  | (refine run_need rfl (by (try simp (disch := omega) only [zA, z13, z19, z20, z21, z22, z23, z24, z25, z31, eqDs, eqD, Nat.reduceAdd, wrap64]); first | exact elp_m (by omega) (by first | omega | (simp only [List.length_set]; omega)) (fun _ => rfl) | exact eld_m (by omega) (by first | omega | (simp only [List.length_set]; omega)) (fun _ => rfl) | exact els_m (by omega) (by omega) (by omega) rfl | exact lsl_m (by omega) (fun _ => rfl) | exact app_nil_m (by omega) (fun _ => rfl) (fun _ => rfl) | exact app_m_one (by omega) (fun _ => rfl) rfl rfl | exact app_m_m (by omega) (fun _ => rfl) (fun _ => rfl)) ?_)
  | (refine run_need rfl (by first | decide | omega | (simp only [List.length_map]; omega)) ?_)
  | (refine run_call1 rfl (l6Dec_ok _ (by simp only [zA, z13, z19, z20, z21, z22, z23, z24, z25, z31, eqDs, eqD, Nat.reduceAdd]; omega)) rfl ?_)
  | (refine run_need rfl (by simp only [ByteArray.size_append, bA_size, sz1, List.length_cons, List.length_nil]; unfold lim; omega) ?_)
  | (refine run_next rfl (Exists.intro (i + 1) ⟨by omega, ⟨by omega, by omega⟩, i64_eq (wrap64 _ (by omega)), ?_, rfl, trivial⟩))
  | (refine run_need rfl ?_ ?_)
  | (refine run_ret rfl ?_ ; first | refine rb ?_ | refine ri ?_ | refine rs2 ?_ ?_ | refine rs1 ?_)
  | (refine run_retx rfl ?_))
  have hx : (⟨cI (p.files.map eP2) i 0, cI (p.files.map eP2) i 1⟩ : P2) = ix p.files i := by rw [cI_P2_0, cI_P2_1]
  exact sT_eq ((fT_step (nmT p.name p.ver ++ (p.files.take i.toNat).flatMap fT) ⟨cI (p.files.map eP2) i 0, cI (p.files.map eP2) i 1⟩).trans (by rw [hx, takeT fT p.files h0 hi, List.append_assoc]))
 ·have ht : p.files.take i.toNat = p.files := List.take_of_length_le (by omega)
  rw [ht]
  (repeat' first
  | (refine run_ite rfl (fun h => ?_) (fun h => ?_) <;> (try simp (disch := omega) only [zA, z13, z19, z20, z21, z22, z23, z24, z25, z31, eqDs, eqD, Nat.reduceAdd, wrap64] at h) <;> (try (exfalso; omega)))
  | (refine run_need rfl (by (try simp (disch := omega) only [zA, z13, z19, z20, z21, z22, z23, z24, z25, z31, eqDs, eqD, Nat.reduceAdd, wrap64]); first | exact elp_m (by omega) (by first | omega | (simp only [List.length_set]; omega)) (fun _ => rfl) | exact eld_m (by omega) (by first | omega | (simp only [List.length_set]; omega)) (fun _ => rfl) | exact els_m (by omega) (by omega) (by omega) rfl | exact lsl_m (by omega) (fun _ => rfl) | exact app_nil_m (by omega) (fun _ => rfl) (fun _ => rfl) | exact app_m_one (by omega) (fun _ => rfl) rfl rfl | exact app_m_m (by omega) (fun _ => rfl) (fun _ => rfl)) ?_)
  | (refine run_need rfl (by first | decide | omega | (simp only [List.length_map]; omega)) ?_)
  | (refine run_need rfl ?_ ?_)
  | (refine run_ret rfl ?_ ; first | refine rb ?_ | refine ri ?_ | refine rs2 ?_ ?_ | refine rs1 ?_)
  | (refine run_retx rfl ?_))
  refine run_loop rfl (fun i : Int => 0 ≤ i ∧ i ≤ p.deps.length) (fun i => [(5, .val (i64 i)), (3, .val (sT (nmT p.name p.ver ++ p.files.flatMap fT ++ (p.deps.take i.toNat).flatMap dT))), (1, .val (ePk p))]) (fun i => (p.deps.length - i).toNat) 0 ⟨by omega, by omega⟩ ⟨rfl, sT_eq (by simp), rfl, trivial⟩ rfl ?_
  rintro k e ⟨k0, kN⟩
  by_cases hk : k < p.deps.length
  ·obtain ⟨fa, _, fb, _⟩ := hD k k0 hk
   have hl : (nmT p.name p.ver ++ p.files.flatMap fT ++ (p.deps.take k.toNat).flatMap dT).length ≤ 16 := by
    rw [List.length_append, List.length_append, flatT_len dT 3 (fun _ => rfl), List.length_take, hfl]
    omega
   have hn2 : (nmT (ix p.deps k).a (ix p.deps k).b).length = 2 := rfl
   (repeat' first
  | (refine run_ite rfl (fun h => ?_) (fun h => ?_) <;> (try simp (disch := omega) only [zA, z13, z19, z20, z21, z22, z23, z24, z25, z31, eqDs, eqD, Nat.reduceAdd, wrap64] at h) <;> (try (exfalso; omega)))
  | (refine run_need rfl (by (try simp (disch := omega) only [zA, z13, z19, z20, z21, z22, z23, z24, z25, z31, eqDs, eqD, Nat.reduceAdd, wrap64]); first | exact elp_m (by omega) (by first | omega | (simp only [List.length_set]; omega)) (fun _ => rfl) | exact eld_m (by omega) (by first | omega | (simp only [List.length_set]; omega)) (fun _ => rfl) | exact els_m (by omega) (by omega) (by omega) rfl | exact lsl_m (by omega) (fun _ => rfl) | exact app_nil_m (by omega) (fun _ => rfl) (fun _ => rfl) | exact app_m_one (by omega) (fun _ => rfl) rfl rfl | exact app_m_m (by omega) (fun _ => rfl) (fun _ => rfl)) ?_)
  | (refine run_need rfl (by first | decide | omega | (simp only [List.length_map]; omega)) ?_)
  | (refine run_call1 rfl (l1Name_ok _ _ (by simp only [zA, z13, z19, z20, z21, z22, z23, z24, z25, z31, eqDs, eqD, Nat.reduceAdd]; exact fa) (by simp only [zA, z13, z19, z20, z21, z22, z23, z24, z25, z31, eqDs, eqD, Nat.reduceAdd]; exact fb)) rfl ?_)
  | (refine run_need rfl (by simp only [ByteArray.size_append, bA_size, sz1, nmT_len]; unfold lim; omega) ?_)
  | (refine run_next rfl (Exists.intro (k + 1) ⟨by omega, ⟨by omega, by omega⟩, i64_eq (wrap64 _ (by omega)), ?_, rfl, trivial⟩))
  | (refine run_need rfl ?_ ?_)
  | (refine run_ret rfl ?_ ; first | refine rb ?_ | refine ri ?_ | refine rs2 ?_ ?_ | refine rs1 ?_)
  | (refine run_retx rfl ?_))
   have hx : (⟨cI (p.deps.map eP2) k 0, cI (p.deps.map eP2) k 1⟩ : P2) = ix p.deps k := by rw [cI_P2_0, cI_P2_1]
   exact sT_eq ((dT_step (nmT p.name p.ver ++ p.files.flatMap fT ++ (p.deps.take k.toNat).flatMap dT) ⟨cI (p.deps.map eP2) k 0, cI (p.deps.map eP2) k 1⟩).trans (by rw [hx, takeT dT p.deps k0 hk]; simp only [List.append_assoc]))
  ·have ht : p.deps.take k.toNat = p.deps := List.take_of_length_le (by omega)
   rw [ht]
   (repeat' first
  | (refine run_ite rfl (fun h => ?_) (fun h => ?_) <;> (try simp (disch := omega) only [zA, z13, z19, z20, z21, z22, z23, z24, z25, z31, eqDs, eqD, Nat.reduceAdd, wrap64] at h) <;> (try (exfalso; omega)))
  | (refine run_need rfl (by (try simp (disch := omega) only [zA, z13, z19, z20, z21, z22, z23, z24, z25, z31, eqDs, eqD, Nat.reduceAdd, wrap64]); first | exact elp_m (by omega) (by first | omega | (simp only [List.length_set]; omega)) (fun _ => rfl) | exact eld_m (by omega) (by first | omega | (simp only [List.length_set]; omega)) (fun _ => rfl) | exact els_m (by omega) (by omega) (by omega) rfl | exact lsl_m (by omega) (fun _ => rfl) | exact app_nil_m (by omega) (fun _ => rfl) (fun _ => rfl) | exact app_m_one (by omega) (fun _ => rfl) rfl rfl | exact app_m_m (by omega) (fun _ => rfl) (fun _ => rfl)) ?_)
  | (refine run_need rfl (by first | decide | omega | (simp only [List.length_map]; omega)) ?_)
  | (refine run_need rfl ?_ ?_)
  | (refine run_ret rfl ?_ ; first | refine rb ?_ | refine ri ?_ | refine rs2 ?_ ?_ | refine rs1 ?_)
  | (refine run_retx rfl ?_))
   rfl
end V
end Go.Proofs.YtnaldhcdcpdbnaaDoor

/-
Plain proofs: what an index tells; trust.
-/
namespace Go.Proofs.YtnaldhcdcpdbnaaDoor
namespace V
open Classical
set_option maxRecDepth 100000
variable {W : Wld}

theorem mt_ext {p q : Mt} (h1 : p.name = q.name) (h2 : p.ver = q.ver) (h3 : p.sum = q.sum) : p = q := by cases p; cases q; simp_all
theorem luMetas_ok (a b : List Mt) (ha : a.length ≤ lim) : FunOk PP W n_l_luMetas s_l_luMetas [eMts a, eMts b] [bo (decide (a = b))] := by
 refine F_l_luMetas (run_fun ?_)
 unfold lim at ha
 (repeat' first
  | (refine run_ite rfl (fun h => ?_) (fun h => ?_) <;> (try simp (disch := omega) only [zA, z13, z19, z20, z21, z22, z23, z24, z25, z31, eqDs, eqD, Nat.reduceAdd, wrap64] at h) <;> (try (exfalso; omega)))
  | (refine run_need rfl (by (try simp (disch := omega) only [zA, z13, z19, z20, z21, z22, z23, z24, z25, z31, eqDs, eqD, Nat.reduceAdd, wrap64]); first | exact elp_m (by omega) (by first | omega | (simp only [List.length_set]; omega)) (fun _ => rfl) | exact eld_m (by omega) (by first | omega | (simp only [List.length_set]; omega)) (fun _ => rfl) | exact els_m (by omega) (by omega) (by omega) rfl | exact lsl_m (by omega) (fun _ => rfl) | exact app_nil_m (by omega) (fun _ => rfl) (fun _ => rfl) | exact app_m_one (by omega) (fun _ => rfl) rfl rfl | exact app_m_m (by omega) (fun _ => rfl) (fun _ => rfl)) ?_)
  | (refine run_need rfl (by first | decide | omega | (simp only [List.length_map]; omega)) ?_)
  | (refine run_need rfl ?_ ?_)
  | (refine run_ret rfl ?_ ; first | refine rb ?_ | refine ri ?_ | refine rs2 ?_ ?_ | refine rs1 ?_)
  | (refine run_retx rfl ?_))
 ·exact fD (fun h' => by simp_all)
 have hn : a.length = b.length := by omega
 clear h
 refine run_loop rfl (fun i : Int => 0 ≤ i ∧ i ≤ a.length ∧ Blw i (fun j => ix a j = ix b j)) (fun i => [(5, .val (i64 i)), (0, .val (eMts a)), (1, .val (eMts b))]) (fun i => (a.length - i).toNat) 0 ⟨by omega, by omega, blw_zero _⟩ ⟨rfl, rfl, rfl, trivial⟩ rfl ?_
 rintro i e ⟨h0, hN, hP⟩
 (repeat' first
  | (refine run_ite rfl (fun h => ?_) (fun h => ?_) <;> (try simp (disch := omega) only [zA, z13, z19, z20, z21, z22, z23, z24, z25, z31, eqDs, eqD, Nat.reduceAdd, wrap64] at h) <;> (try (exfalso; omega)))
  | (refine run_need rfl (by (try simp (disch := omega) only [zA, z13, z19, z20, z21, z22, z23, z24, z25, z31, eqDs, eqD, Nat.reduceAdd, wrap64]); first | exact elp_m (by omega) (by first | omega | (simp only [List.length_set]; omega)) (fun _ => rfl) | exact eld_m (by omega) (by first | omega | (simp only [List.length_set]; omega)) (fun _ => rfl) | exact els_m (by omega) (by omega) (by omega) rfl | exact lsl_m (by omega) (fun _ => rfl) | exact app_nil_m (by omega) (fun _ => rfl) (fun _ => rfl) | exact app_m_one (by omega) (fun _ => rfl) rfl rfl | exact app_m_m (by omega) (fun _ => rfl) (fun _ => rfl)) ?_)
  | (refine run_need rfl (by first | decide | omega | (simp only [List.length_map]; omega)) ?_)
  | (refine run_next rfl (Exists.intro (i + 1) ⟨by omega, ⟨by omega, by omega, blw_succ hP ?_⟩, i64_eq (wrap64 _ (by omega)), rfl, rfl, trivial⟩))
  | (refine run_need rfl ?_ ?_)
  | (refine run_ret rfl ?_ ; first | refine rb ?_ | refine ri ?_ | refine rs2 ?_ ?_ | refine rs1 ?_)
  | (refine run_retx rfl ?_))
 ·exact fD (fun h' => by subst h'; exact h rfl rfl rfl)
 ·exact mt_ext h.1 h.2.1 h.2.2
 ·exact tD (ix_ext hn (blw_to hP (by omega)))
theorem eqMt_ok (a b : List Mt) (ha : a.length ≤ lim) : FunOk PP W n_sl_Equal_Meta s_sl_Equal_Meta [eMts a, eMts b] [bo (decide (a = b))] := by
 refine F_sl_Equal_Meta (run_fun ?_)
 unfold lim at ha
 (repeat' first
  | (refine run_ite rfl (fun h => ?_) (fun h => ?_) <;> (try simp (disch := omega) only [zA, z13, z19, z20, z21, z22, z23, z24, z25, z31, eqDs, eqD, Nat.reduceAdd, wrap64] at h) <;> (try (exfalso; omega)))
  | (refine run_need rfl (by (try simp (disch := omega) only [zA, z13, z19, z20, z21, z22, z23, z24, z25, z31, eqDs, eqD, Nat.reduceAdd, wrap64]); first | exact elp_m (by omega) (by first | omega | (simp only [List.length_set]; omega)) (fun _ => rfl) | exact eld_m (by omega) (by first | omega | (simp only [List.length_set]; omega)) (fun _ => rfl) | exact els_m (by omega) (by omega) (by omega) rfl | exact lsl_m (by omega) (fun _ => rfl) | exact app_nil_m (by omega) (fun _ => rfl) (fun _ => rfl) | exact app_m_one (by omega) (fun _ => rfl) rfl rfl | exact app_m_m (by omega) (fun _ => rfl) (fun _ => rfl)) ?_)
  | (refine run_need rfl (by first | decide | omega | (simp only [List.length_map]; omega)) ?_)
  | (refine run_need rfl ?_ ?_)
  | (refine run_ret rfl ?_ ; first | refine rb ?_ | refine ri ?_ | refine rs2 ?_ ?_ | refine rs1 ?_)
  | (refine run_retx rfl ?_))
 ·exact fD (fun h' => by simp_all)
 have hn : a.length = b.length := by omega
 clear h
 refine run_loop rfl (fun i : Int => 0 ≤ i ∧ i ≤ a.length ∧ Blw i (fun j => ix a j = ix b j)) (fun i => [(13, .val (i64 i)), (0, .val (eMts a)), (1, .val (eMts b)), (12, .val (i64 (a.map eMt).length))]) (fun i => (a.length - i).toNat) 0 ⟨by omega, by omega, blw_zero _⟩ ⟨rfl, rfl, rfl, rfl, trivial⟩ rfl ?_
 rintro i e ⟨h0, hN, hP⟩
 (repeat' first
  | (refine run_ite rfl (fun h => ?_) (fun h => ?_) <;> (try simp (disch := omega) only [zA, z13, z19, z20, z21, z22, z23, z24, z25, z31, eqDs, eqD, Nat.reduceAdd, wrap64] at h) <;> (try (exfalso; omega)))
  | (refine run_need rfl (by (try simp (disch := omega) only [zA, z13, z19, z20, z21, z22, z23, z24, z25, z31, eqDs, eqD, Nat.reduceAdd, wrap64]); first | exact elp_m (by omega) (by first | omega | (simp only [List.length_set]; omega)) (fun _ => rfl) | exact eld_m (by omega) (by first | omega | (simp only [List.length_set]; omega)) (fun _ => rfl) | exact els_m (by omega) (by omega) (by omega) rfl | exact lsl_m (by omega) (fun _ => rfl) | exact app_nil_m (by omega) (fun _ => rfl) (fun _ => rfl) | exact app_m_one (by omega) (fun _ => rfl) rfl rfl | exact app_m_m (by omega) (fun _ => rfl) (fun _ => rfl)) ?_)
  | (refine run_need rfl (by first | decide | omega | (simp only [List.length_map]; omega)) ?_)
  | (refine run_next rfl (Exists.intro (i + 1) ⟨by omega, ⟨by omega, by omega, blw_succ hP ?_⟩, i64_eq (wrap64 _ (by omega)), rfl, rfl, rfl, trivial⟩))
  | (refine run_need rfl ?_ ?_)
  | (refine run_ret rfl ?_ ; first | refine rb ?_ | refine ri ?_ | refine rs2 ?_ ?_ | refine rs1 ?_)
  | (refine run_retx rfl ?_))
 ·exact fD (fun h' => by subst h'; exact h rfl rfl rfl)
 ·exact mt_ext h.1 h.2.1 h.2.2
 ·exact tD (ix_ext hn (blw_to hP (by omega)))
theorem idxMt_ok (l : List Mt) (m : Mt) (hl : l.length ≤ lim) : FunOk PP W n_sl_Index_Meta s_sl_Index_Meta [eMts l, eMt m] [i64 (idxF (fun y => y = m) l l.length 0)] := by
 refine F_sl_Index_Meta (run_fun ?_)
 unfold lim at hl
 refine run_loop rfl (fun i : Int => 0 ≤ i ∧ i ≤ l.length ∧ idxF (fun y => y = m) l l.length 0 = idxF (fun y => y = m) l (l.length - i).toNat i) (fun i => [(8, .val (i64 i)), (0, .val (eMts l)), (3, .val (eMt m)), (7, .val (i64 (l.map eMt).length))]) (fun i => (l.length - i).toNat) 0 ⟨by omega, by omega, by simp⟩ ⟨rfl, rfl, rfl, rfl, trivial⟩ rfl ?_
 rintro i e ⟨h0, hN, hP⟩
 (repeat' first
  | (refine run_ite rfl (fun h => ?_) (fun h => ?_) <;> (try simp (disch := omega) only [zA, z13, z19, z20, z21, z22, z23, z24, z25, z31, eqDs, eqD, Nat.reduceAdd, wrap64] at h) <;> (try (exfalso; omega)))
  | (refine run_need rfl (by (try simp (disch := omega) only [zA, z13, z19, z20, z21, z22, z23, z24, z25, z31, eqDs, eqD, Nat.reduceAdd, wrap64]); first | exact elp_m (by omega) (by first | omega | (simp only [List.length_set]; omega)) (fun _ => rfl) | exact eld_m (by omega) (by first | omega | (simp only [List.length_set]; omega)) (fun _ => rfl) | exact els_m (by omega) (by omega) (by omega) rfl | exact lsl_m (by omega) (fun _ => rfl) | exact app_nil_m (by omega) (fun _ => rfl) (fun _ => rfl) | exact app_m_one (by omega) (fun _ => rfl) rfl rfl | exact app_m_m (by omega) (fun _ => rfl) (fun _ => rfl)) ?_)
  | (refine run_need rfl (by first | decide | omega | (simp only [List.length_map]; omega)) ?_)
  | (refine run_next rfl (Exists.intro (i + 1) ⟨by omega, ⟨by omega, by omega, ?_⟩, i64_eq (wrap64 _ (by omega)), rfl, rfl, rfl, trivial⟩))
  | (refine run_need rfl ?_ ?_)
  | (refine run_ret rfl ?_ ; first | refine rb ?_ | refine ri ?_ | refine rs2 ?_ ?_ | refine rs1 ?_)
  | (refine run_retx rfl ?_))
 ·rw [hP, show ((l.length : Int) - i).toNat = ((l.length : Int) - (i + 1)).toNat + 1 by omega, idxF, if_pos (mt_ext h.1.symm h.2.1.symm h.2.2.symm)]
 ·rw [hP, show ((l.length : Int) - i).toNat = ((l.length : Int) - (i + 1)).toNat + 1 by omega, idxF, if_neg (fun h' => by subst h'; exact h rfl rfl rfl)]
 ·rw [hP, show ((l.length : Int) - i).toNat = 0 by omega, idxF]
theorem conMt_ok (l : List Mt) (m : Mt) (hl : l.length ≤ lim) : FunOk PP W n_sl_Contains_Meta s_sl_Contains_Meta [eMts l, eMt m] [bo (decide (m ∈ l))] := by
 refine F_sl_Contains_Meta (run_fun ?_)
 (repeat' first
  | (refine run_ite rfl (fun h => ?_) (fun h => ?_) <;> (try simp (disch := omega) only [zA, z13, z19, z20, z21, z22, z23, z24, z25, z31, eqDs, eqD, Nat.reduceAdd, wrap64] at h) <;> (try (exfalso; omega)))
  | (refine run_need rfl (by (try simp (disch := omega) only [zA, z13, z19, z20, z21, z22, z23, z24, z25, z31, eqDs, eqD, Nat.reduceAdd, wrap64]); first | exact elp_m (by omega) (by first | omega | (simp only [List.length_set]; omega)) (fun _ => rfl) | exact eld_m (by omega) (by first | omega | (simp only [List.length_set]; omega)) (fun _ => rfl) | exact els_m (by omega) (by omega) (by omega) rfl | exact lsl_m (by omega) (fun _ => rfl) | exact app_nil_m (by omega) (fun _ => rfl) (fun _ => rfl) | exact app_m_one (by omega) (fun _ => rfl) rfl rfl | exact app_m_m (by omega) (fun _ => rfl) (fun _ => rfl)) ?_)
  | (refine run_need rfl (by first | decide | omega | (simp only [List.length_map]; omega)) ?_)
  | (refine run_call1 rfl (idxMt_ok l m hl) rfl ?_)
  | (refine run_need rfl ?_ ?_)
  | (refine run_ret rfl ?_ ; first | refine rb ?_ | refine ri ?_ | refine rs2 ?_ ?_ | refine rs1 ?_)
  | (refine run_retx rfl ?_))
 simp only [z19]
 congr 1
 rw [eq_iff_iff, idxF_mem]
 exact ⟨fun ⟨y, h1, h2⟩ => h2 ▸ h1, fun h => ⟨m, h, rfl⟩⟩

theorem sIndexOk_ok (x : Ix) (hl : x.ms.length ≤ lim) : FunOk PP W n_s_IndexOk s_s_IndexOk [eIx x] [bo (decide (IxM x))] := by
 refine F_s_IndexOk (run_fun ?_)
 unfold lim at hl
 (repeat' first
  | (refine run_ite rfl (fun h => ?_) (fun h => ?_) <;> (try simp (disch := omega) only [zA, z13, z19, z20, z21, z22, z23, z24, z25, z31, eqDs, eqD, Nat.reduceAdd, wrap64] at h) <;> (try (exfalso; omega)))
  | (refine run_need rfl (by (try simp (disch := omega) only [zA, z13, z19, z20, z21, z22, z23, z24, z25, z31, eqDs, eqD, Nat.reduceAdd, wrap64]); first | exact elp_m (by omega) (by first | omega | (simp only [List.length_set]; omega)) (fun _ => rfl) | exact eld_m (by omega) (by first | omega | (simp only [List.length_set]; omega)) (fun _ => rfl) | exact els_m (by omega) (by omega) (by omega) rfl | exact lsl_m (by omega) (fun _ => rfl) | exact app_nil_m (by omega) (fun _ => rfl) (fun _ => rfl) | exact app_m_one (by omega) (fun _ => rfl) rfl rfl | exact app_m_m (by omega) (fun _ => rfl) (fun _ => rfl)) ?_)
  | (refine run_need rfl (by first | decide | omega | (simp only [List.length_map]; omega)) ?_)
  | (refine run_call1 rfl (l6In_ok ..) rfl ?_)
  | (refine run_need rfl ?_ ?_)
  | (refine run_ret rfl ?_ ; first | refine rb ?_ | refine ri ?_ | refine rs2 ?_ ?_ | refine rs1 ?_)
  | (refine run_retx rfl ?_))
 ·exact fD (p := IxM x) (fun h' => h h'.1)
 ·exact fD (p := IxM x) (fun h' => h h'.2.1)
 ·exact fD (p := IxM x) (fun h' => by have := h'.2.2.1; omega)
 rename_i q1 q2
 refine run_loop rfl (fun i : Int => 0 ≤ i ∧ i ≤ x.ms.length ∧ Blw i (MtAt x.ms)) (fun i => [(3, .val (i64 i)), (1, .val (eIx x))]) (fun i => (x.ms.length - i).toNat) 0 ⟨by omega, by omega, blw_zero _⟩ ⟨rfl, rfl, trivial⟩ rfl ?_
 rintro i e ⟨h0, hN, hP⟩
 (repeat' first
  | (refine run_ite rfl (fun h => ?_) (fun h => ?_) <;> (try simp (disch := omega) only [zA, z13, z19, z20, z21, z22, z23, z24, z25, z31, eqDs, eqD, Nat.reduceAdd, wrap64] at h) <;> (try (exfalso; omega)))
  | (refine run_need rfl (by (try simp (disch := omega) only [zA, z13, z19, z20, z21, z22, z23, z24, z25, z31, eqDs, eqD, Nat.reduceAdd, wrap64]); first | exact elp_m (by omega) (by first | omega | (simp only [List.length_set]; omega)) (fun _ => rfl) | exact eld_m (by omega) (by first | omega | (simp only [List.length_set]; omega)) (fun _ => rfl) | exact els_m (by omega) (by omega) (by omega) rfl | exact lsl_m (by omega) (fun _ => rfl) | exact app_nil_m (by omega) (fun _ => rfl) (fun _ => rfl) | exact app_m_one (by omega) (fun _ => rfl) rfl rfl | exact app_m_m (by omega) (fun _ => rfl) (fun _ => rfl)) ?_)
  | (refine run_need rfl (by first | decide | omega | (simp only [List.length_map]; omega)) ?_)
  | (refine run_call1 rfl (l6In_ok ..) rfl ?_)
  | (refine run_call1 rfl (l3Less_ok ..) rfl ?_)
  | (refine run_next rfl (Exists.intro (i + 1) ⟨by omega, ⟨by omega, by omega, blw_succ hP (by unfold MtAt; omega)⟩, i64_eq (wrap64 _ (by omega)), rfl, trivial⟩))
  | (refine run_need rfl ?_ ?_)
  | (refine run_ret rfl ?_ ; first | refine rb ?_ | refine ri ?_ | refine rs2 ?_ ?_ | refine rs1 ?_)
  | (refine run_retx rfl ?_))
 all_goals first
  | exact tD (p := IxM x) ⟨q1, q2, by omega, blw_to hP (by omega)⟩
  | exact fD (p := IxM x) (fun h' => by have := h'.2.2.2 i (by omega) (by omega); unfold MtAt at this; omega)
theorem iIndexOk_ok (x : Ix) (hl : x.ms.length ≤ lim) : FunOk PP W n_i_IndexOk s_i_IndexOk [eIx x] [bo (decide (IxM x))] := by
 refine F_i_IndexOk (run_fun ?_)
 unfold lim at hl
 refine run_loop rfl (fun i : Int => 0 ≤ i ∧ i ≤ x.ms.length ∧ Blw i (MtAt x.ms)) (fun i => [(8, .val (i64 i)), (1, .val (eIx x)), (6, .val (eMts x.ms)), (7, .val (i64 (x.ms.map eMt).length))]) (fun i => (x.ms.length - i).toNat) 0 ⟨by omega, by omega, blw_zero _⟩ ⟨rfl, rfl, rfl, rfl, trivial⟩ rfl ?_
 rintro i e ⟨h0, hN, hP⟩
 (repeat' first
  | (refine run_ite rfl (fun h => ?_) (fun h => ?_) <;> (try simp (disch := omega) only [zA, z13, z19, z20, z21, z22, z23, z24, z25, z31, eqDs, eqD, Nat.reduceAdd, wrap64] at h) <;> (try (exfalso; omega)))
  | (refine run_need rfl (by (try simp (disch := omega) only [zA, z13, z19, z20, z21, z22, z23, z24, z25, z31, eqDs, eqD, Nat.reduceAdd, wrap64]); first | exact elp_m (by omega) (by first | omega | (simp only [List.length_set]; omega)) (fun _ => rfl) | exact eld_m (by omega) (by first | omega | (simp only [List.length_set]; omega)) (fun _ => rfl) | exact els_m (by omega) (by omega) (by omega) rfl | exact lsl_m (by omega) (fun _ => rfl) | exact app_nil_m (by omega) (fun _ => rfl) (fun _ => rfl) | exact app_m_one (by omega) (fun _ => rfl) rfl rfl | exact app_m_m (by omega) (fun _ => rfl) (fun _ => rfl)) ?_)
  | (refine run_need rfl (by first | decide | omega | (simp only [List.length_map]; omega)) ?_)
  | (refine run_call1 rfl (in_ok ..) rfl ?_)
  | (refine run_call1 rfl (isName_ok ..) rfl ?_)
  | (refine run_call1 rfl (isVer_ok ..) rfl ?_)
  | (refine run_next rfl (Exists.intro (i + 1) ⟨by omega, ⟨by omega, by omega, blw_succ hP (by unfold MtAt; omega)⟩, i64_eq (wrap64 _ (by omega)), rfl, rfl, rfl, trivial⟩))
  | (refine run_need rfl ?_ ?_)
  | (refine run_ret rfl ?_ ; first | refine rb ?_ | refine ri ?_ | refine rs2 ?_ ?_ | refine rs1 ?_)
  | (refine run_retx rfl ?_))
 all_goals first
  | exact fD (p := IxM x) (fun h' => by have := h'.2.2.2 i (by omega) (by omega); unfold MtAt at this; omega)
  | (refine dI (p := IxM x) ?_; simp only [List.length_map, decide_eq_true_eq]; exact ⟨fun h' => ⟨by assumption, by assumption, h', blw_to hP (by omega)⟩, fun h' => h'.2.2.1⟩)
  | exact fD (p := IxM x) (fun h' => absurd h'.2.1 (by assumption))
  | exact fD (p := IxM x) (fun h' => absurd h'.1 (by assumption))
theorem ixSame_ok (x : Ix) (hl : x.ms.length ≤ lim) : FunOk PP W n_i_Index_same s_i_Index_same [eIx x, eIx ixZ] [bo (decide (x.num = 0 ∧ x.till = 0 ∧ x.ms = []))] := by
 refine F_i_Index_same (run_fun ?_)
 (repeat' first
  | (refine run_ite rfl (fun h => ?_) (fun h => ?_) <;> (try simp (disch := omega) only [zA, z13, z19, z20, z21, z22, z23, z24, z25, z31, eqDs, eqD, Nat.reduceAdd, wrap64] at h) <;> (try (exfalso; omega)))
  | (refine run_need rfl (by (try simp (disch := omega) only [zA, z13, z19, z20, z21, z22, z23, z24, z25, z31, eqDs, eqD, Nat.reduceAdd, wrap64]); first | exact elp_m (by omega) (by first | omega | (simp only [List.length_set]; omega)) (fun _ => rfl) | exact eld_m (by omega) (by first | omega | (simp only [List.length_set]; omega)) (fun _ => rfl) | exact els_m (by omega) (by omega) (by omega) rfl | exact lsl_m (by omega) (fun _ => rfl) | exact app_nil_m (by omega) (fun _ => rfl) (fun _ => rfl) | exact app_m_one (by omega) (fun _ => rfl) rfl rfl | exact app_m_m (by omega) (fun _ => rfl) (fun _ => rfl)) ?_)
  | (refine run_need rfl (by first | decide | omega | (simp only [List.length_map]; omega)) ?_)
  | (refine run_call1 rfl (eqMt_ok x.ms [] hl) rfl ?_)
  | (refine run_need rfl ?_ ?_)
  | (refine run_ret rfl ?_ ; first | refine rb ?_ | refine ri ?_ | refine rs2 ?_ ?_ | refine rs1 ?_)
  | (refine run_retx rfl ?_))
 all_goals simp_all [ixZ]
theorem sTrustOk_ok (t : Tu) (hk : t.r.keys.length ≤ lim) (hl : t.x.ms.length ≤ lim) : FunOk PP W n_s_TrustOk s_s_TrustOk [eTu t] [bo (decide (TuM t))] := by
 refine F_s_TrustOk (run_fun ?_)
 (repeat' first
  | (refine run_ite rfl (fun h => ?_) (fun h => ?_) <;> (try simp (disch := omega) only [zA, z13, z19, z20, z21, z22, z23, z24, z25, z31, eqDs, eqD, Nat.reduceAdd, wrap64] at h) <;> (try (exfalso; omega)))
  | (refine run_need rfl (by (try simp (disch := omega) only [zA, z13, z19, z20, z21, z22, z23, z24, z25, z31, eqDs, eqD, Nat.reduceAdd, wrap64]); first | exact elp_m (by omega) (by first | omega | (simp only [List.length_set]; omega)) (fun _ => rfl) | exact eld_m (by omega) (by first | omega | (simp only [List.length_set]; omega)) (fun _ => rfl) | exact els_m (by omega) (by omega) (by omega) rfl | exact lsl_m (by omega) (fun _ => rfl) | exact app_nil_m (by omega) (fun _ => rfl) (fun _ => rfl) | exact app_m_one (by omega) (fun _ => rfl) rfl rfl | exact app_m_m (by omega) (fun _ => rfl) (fun _ => rfl)) ?_)
  | (refine run_need rfl (by first | decide | omega | (simp only [List.length_map]; omega)) ?_)
  | (refine run_call1 rfl (sRootOk_ok t.r hk) rfl ?_)
  | (refine run_call1 rfl (sIndexOk_ok t.x hl) rfl ?_)
  | (refine run_need rfl ?_ ?_)
  | (refine run_ret rfl ?_ ; first | refine rb ?_ | refine ri ?_ | refine rs2 ?_ ?_ | refine rs1 ?_)
  | (refine run_retx rfl ?_))
 ·exact fD (p := TuM t) (fun h' => h h'.1)
 ·refine dI (p := TuM t) ?_
  unfold TuM
  rw [if_pos h, decide_eq_true_eq]
  exact ⟨fun h' => ⟨by assumption, h'⟩, fun h' => h'.2⟩
 ·rename_i q1 q2 q3
  refine dI (p := TuM t) ?_
  unfold TuM
  rw [if_neg (by rw [q2]; simp)]
  simp only [List.length_map, beq_iff_eq]
  exact ⟨fun h' => ⟨q1, q3, h, List.length_eq_zero_iff.1 (by omega)⟩, fun h' => by rw [h'.2.2.2]; rfl⟩
 ·rename_i q1 q2 q3
  exact fD (p := TuM t) (fun h' => by unfold TuM at h'; rw [if_neg (by rw [q2]; simp)] at h'; exact h h'.2.2.1)
 ·rename_i q1 q2
  exact fD (p := TuM t) (fun h' => by unfold TuM at h'; rw [if_neg (by rw [q2]; simp)] at h'; exact h h'.2.1)
theorem iTrustOk_ok (t : Tu) (hk : t.r.keys.length ≤ lim) (hl : t.x.ms.length ≤ lim) : FunOk PP W n_i_TrustOk s_i_TrustOk [eTu t] [bo (decide (TuM t))] := by
 refine F_i_TrustOk (run_fun ?_)
 (repeat' first
  | (refine run_ite rfl (fun h => ?_) (fun h => ?_) <;> (try simp (disch := omega) only [zA, z13, z19, z20, z21, z22, z23, z24, z25, z31, eqDs, eqD, Nat.reduceAdd, wrap64] at h) <;> (try (exfalso; omega)))
  | (refine run_need rfl (by (try simp (disch := omega) only [zA, z13, z19, z20, z21, z22, z23, z24, z25, z31, eqDs, eqD, Nat.reduceAdd, wrap64]); first | exact elp_m (by omega) (by first | omega | (simp only [List.length_set]; omega)) (fun _ => rfl) | exact eld_m (by omega) (by first | omega | (simp only [List.length_set]; omega)) (fun _ => rfl) | exact els_m (by omega) (by omega) (by omega) rfl | exact lsl_m (by omega) (fun _ => rfl) | exact app_nil_m (by omega) (fun _ => rfl) (fun _ => rfl) | exact app_m_one (by omega) (fun _ => rfl) rfl rfl | exact app_m_m (by omega) (fun _ => rfl) (fun _ => rfl)) ?_)
  | (refine run_need rfl (by first | decide | omega | (simp only [List.length_map]; omega)) ?_)
  | (refine run_call1 rfl (iRootOk_ok t.r hk) rfl ?_)
  | (refine run_call1 rfl (iIndexOk_ok t.x hl) rfl ?_)
  | (refine run_call1 rfl (ixSame_ok t.x hl) rfl ?_)
  | (refine run_need rfl ?_ ?_)
  | (refine run_ret rfl ?_ ; first | refine rb ?_ | refine ri ?_ | refine rs2 ?_ ?_ | refine rs1 ?_)
  | (refine run_retx rfl ?_))
 ·exact fD (p := TuM t) (fun h' => h h'.1)
 ·refine dI (p := TuM t) ?_
  unfold TuM
  rw [if_pos h, decide_eq_true_eq]
  exact ⟨fun h' => ⟨by assumption, h'⟩, fun h' => h'.2⟩
 ·refine dI (p := TuM t) ?_
  unfold TuM
  rw [if_neg (by rw [h]; simp), decide_eq_true_eq]
  exact ⟨fun h' => ⟨by assumption, h'⟩, fun h' => h'.2⟩

/-! What lacks, and what is kept. -/
def hasM (s : List Pk) (m : Mt) : Prop := ∃ p ∈ s, mtOf p = m
noncomputable def lackL (ms : List Mt) (s : List Pk) : List Mt := ms.filter (fun m => decide (¬ hasM s m))
noncomputable def lacksM (t : Tu) (s : List Pk) : List Mt := if TuM t ∧ PksOk s then lackL t.x.ms s else []
noncomputable def keptL (t : Tu) (s : List Pk) : List Pk := if t.has = true then s.filter (fun p => decide (mtOf p ∈ t.x.ms)) else []
noncomputable def trimM (t : Tu) (s : List Pk) : List Pk := if TuM t ∧ PksOk s then keptL t s else []
theorem filt_take {α : Type} [Inhabited α] (P : α → Bool) (l : List α) {i : Int} (h0 : 0 ≤ i) (h1 : i < l.length) : (l.take (i + 1).toNat).filter P = (l.take i.toNat).filter P ++ if P (ix l i) = true then [ix l i] else [] := by
 rw [take_ix l h0 h1, List.filter_append]
 congr 1
 by_cases h : P (ix l i) = true <;> simp [h]
theorem lacks1_ok (p : Pk) (hs : SmP p) (m : Mt) : FunOk PP W n_i_StoreLacks_1 s_i_StoreLacks_1 [ePk p, eMt m] [bo (decide (mtOf p = m))] := by
 refine F_i_StoreLacks_1 (run_fun ?_)
 (repeat' first
  | (refine run_ite rfl (fun h => ?_) (fun h => ?_) <;> (try simp (disch := omega) only [zA, z13, z19, z20, z21, z22, z23, z24, z25, z31, eqDs, eqD, Nat.reduceAdd, wrap64] at h) <;> (try (exfalso; omega)))
  | (refine run_need rfl (by (try simp (disch := omega) only [zA, z13, z19, z20, z21, z22, z23, z24, z25, z31, eqDs, eqD, Nat.reduceAdd, wrap64]); first | exact elp_m (by omega) (by first | omega | (simp only [List.length_set]; omega)) (fun _ => rfl) | exact eld_m (by omega) (by first | omega | (simp only [List.length_set]; omega)) (fun _ => rfl) | exact els_m (by omega) (by omega) (by omega) rfl | exact lsl_m (by omega) (fun _ => rfl) | exact app_nil_m (by omega) (fun _ => rfl) (fun _ => rfl) | exact app_m_one (by omega) (fun _ => rfl) rfl rfl | exact app_m_m (by omega) (fun _ => rfl) (fun _ => rfl)) ?_)
  | (refine run_need rfl (by first | decide | omega | (simp only [List.length_map]; omega)) ?_)
  | (refine run_call1 rfl (metaOf_ok p hs) rfl ?_)
  | (refine run_need rfl ?_ ?_)
  | (refine run_ret rfl ?_ ; first | refine rb ?_ | refine ri ?_ | refine rs2 ?_ ?_ | refine rs1 ?_)
  | (refine run_retx rfl ?_))
 refine dI (p := mtOf p = m) ?_
 generalize mtOf p = q
 simp only [eqDs, eqD, zA, z13, z19, z20, z21, z22, z23, z24, z25, z31, eqDs, eqD, Nat.reduceAdd]
 exact ⟨fun h => mt_ext h.1 h.2.1 h.2.2, fun h => by subst h; exact ⟨rfl, rfl, rfl⟩⟩
theorem idxPkM_ok (ps : List Pk) (hs : SmPs ps) (m : Mt) : FunOk PP W n_sl_IndexFunc_Pkg s_sl_IndexFunc_Pkg [ePks ps, [.fn n_i_StoreLacks_1 [] [eMt m]]] [i64 (idxF (fun p => mtOf p = m) ps ps.length 0)] := by
 refine F_sl_IndexFunc_Pkg (run_fun ?_)
 have hl := hs.1
 unfold lim at hl
 refine run_loop rfl (fun i : Int => 0 ≤ i ∧ i ≤ ps.length ∧ idxF (fun p => mtOf p = m) ps ps.length 0 = idxF (fun p => mtOf p = m) ps (ps.length - i).toNat i) (fun i => [(8, .val (i64 i)), (0, .val (ePks ps)), (1, .val [.fn n_i_StoreLacks_1 [] [eMt m]]), (7, .val (i64 (ps.map ePk).length))]) (fun i => (ps.length - i).toNat) 0 ⟨by omega, by omega, by simp⟩ ⟨rfl, rfl, rfl, rfl, trivial⟩ rfl ?_
 rintro i e ⟨h0, hN, hP⟩
 (repeat' first
  | (refine run_ite rfl (fun h => ?_) (fun h => ?_) <;> (try simp (disch := omega) only [zA, z13, z19, z20, z21, z22, z23, z24, z25, z31, eqDs, eqD, Nat.reduceAdd, wrap64] at h) <;> (try (exfalso; omega)))
  | (refine run_need rfl (by (try simp (disch := omega) only [zA, z13, z19, z20, z21, z22, z23, z24, z25, z31, eqDs, eqD, Nat.reduceAdd, wrap64]); first | exact elp_m (by omega) (by first | omega | (simp only [List.length_set]; omega)) (fun _ => rfl) | exact eld_m (by omega) (by first | omega | (simp only [List.length_set]; omega)) (fun _ => rfl) | exact els_m (by omega) (by omega) (by omega) rfl | exact lsl_m (by omega) (fun _ => rfl) | exact app_nil_m (by omega) (fun _ => rfl) (fun _ => rfl) | exact app_m_one (by omega) (fun _ => rfl) rfl rfl | exact app_m_m (by omega) (fun _ => rfl) (fun _ => rfl)) ?_)
  | (refine run_need rfl (by first | decide | omega | (simp only [List.length_map]; omega)) ?_)
  | (refine run_clo1 (ins' := [ePk (ix ps i)]) rfl (lacks1_ok (ix ps i) (smPs_ix hs (by omega) (by omega)) m) (by simp (disch := omega) only [zA, z13, z19, z20, z21, z22, z23, z24, z25, z31, eqDs, eqD, Nat.reduceAdd, wrap64]) rfl ?_)
  | (refine run_next rfl (Exists.intro (i + 1) ⟨by omega, ⟨by omega, by omega, ?_⟩, i64_eq (wrap64 _ (by omega)), rfl, rfl, rfl, trivial⟩))
  | (refine run_need rfl ?_ ?_)
  | (refine run_ret rfl ?_ ; first | refine rb ?_ | refine ri ?_ | refine rs2 ?_ ?_ | refine rs1 ?_)
  | (refine run_retx rfl ?_))
 ·rw [hP, show ((ps.length : Int) - i).toNat = ((ps.length : Int) - (i + 1)).toNat + 1 by omega, idxF, if_pos h]
 ·rw [hP, show ((ps.length : Int) - i).toNat = ((ps.length : Int) - (i + 1)).toNat + 1 by omega, idxF, if_neg h]
 ·rw [hP, show ((ps.length : Int) - i).toNat = 0 by omega, idxF]
theorem conPkM_ok (ps : List Pk) (hs : SmPs ps) (m : Mt) : FunOk PP W n_sl_ContainsFunc_Pkg s_sl_ContainsFunc_Pkg [ePks ps, [.fn n_i_StoreLacks_1 [] [eMt m]]] [bo (decide (hasM ps m))] := by
 refine F_sl_ContainsFunc_Pkg (run_fun ?_)
 (repeat' first
  | (refine run_ite rfl (fun h => ?_) (fun h => ?_) <;> (try simp (disch := omega) only [zA, z13, z19, z20, z21, z22, z23, z24, z25, z31, eqDs, eqD, Nat.reduceAdd, wrap64] at h) <;> (try (exfalso; omega)))
  | (refine run_need rfl (by (try simp (disch := omega) only [zA, z13, z19, z20, z21, z22, z23, z24, z25, z31, eqDs, eqD, Nat.reduceAdd, wrap64]); first | exact elp_m (by omega) (by first | omega | (simp only [List.length_set]; omega)) (fun _ => rfl) | exact eld_m (by omega) (by first | omega | (simp only [List.length_set]; omega)) (fun _ => rfl) | exact els_m (by omega) (by omega) (by omega) rfl | exact lsl_m (by omega) (fun _ => rfl) | exact app_nil_m (by omega) (fun _ => rfl) (fun _ => rfl) | exact app_m_one (by omega) (fun _ => rfl) rfl rfl | exact app_m_m (by omega) (fun _ => rfl) (fun _ => rfl)) ?_)
  | (refine run_need rfl (by first | decide | omega | (simp only [List.length_map]; omega)) ?_)
  | (refine run_call1 rfl (idxPkM_ok ps hs m) rfl ?_)
  | (refine run_need rfl ?_ ?_)
  | (refine run_ret rfl ?_ ; first | refine rb ?_ | refine ri ?_ | refine rs2 ?_ ?_ | refine rs1 ?_)
  | (refine run_retx rfl ?_))
 congr 1
 simp only [ge_iff_le, eq_iff_iff]
 exact idxF_mem _ _
theorem ms_one (l : List Mt) (i : Int) : ([[.int .i64 (cI (l.map eMt) i 0), .int .i64 (cI (l.map eMt) i 1), .int .i64 (cI (l.map eMt) i 2)]] : List (List D)) = [ix l i].map eMt := by
 rw [cI_Mt_0, cI_Mt_1, cI_Mt_2]
 rfl
theorem iStoreLacks_ok (t : Tu) (s : List Pk) (hk : t.r.keys.length ≤ lim) (hl : t.x.ms.length ≤ lim) (hs : SmPs s) : FunOk PP W n_i_StoreLacks s_i_StoreLacks [eTu t, ePks s] [eMts (lacksM t s)] := by
 refine F_i_StoreLacks (run_fun ?_)
 (repeat' first
  | (refine run_ite rfl (fun h => ?_) (fun h => ?_) <;> (try simp (disch := omega) only [zA, z13, z19, z20, z21, z22, z23, z24, z25, z31, eqDs, eqD, Nat.reduceAdd, wrap64] at h) <;> (try (exfalso; omega)))
  | (refine run_need rfl (by (try simp (disch := omega) only [zA, z13, z19, z20, z21, z22, z23, z24, z25, z31, eqDs, eqD, Nat.reduceAdd, wrap64]); first | exact elp_m (by omega) (by first | omega | (simp only [List.length_set]; omega)) (fun _ => rfl) | exact eld_m (by omega) (by first | omega | (simp only [List.length_set]; omega)) (fun _ => rfl) | exact els_m (by omega) (by omega) (by omega) rfl | exact lsl_m (by omega) (fun _ => rfl) | exact app_nil_m (by omega) (fun _ => rfl) (fun _ => rfl) | exact app_m_one (by omega) (fun _ => rfl) rfl rfl | exact app_m_m (by omega) (fun _ => rfl) (fun _ => rfl)) ?_)
  | (refine run_need rfl (by first | decide | omega | (simp only [List.length_map]; omega)) ?_)
  | (refine run_call1 rfl (iTrustOk_ok t hk hl) rfl ?_)
  | (refine run_call1 rfl (iStoreOk_ok s hs) rfl ?_)
  | (refine run_need rfl ?_ ?_)
  | (refine run_ret rfl ?_ ; first | refine rb ?_ | refine ri ?_ | refine rs2 ?_ ?_ | refine rs1 ?_)
  | (refine run_retx rfl ?_))
 ·rw [lacksM, if_neg (fun h' => h h'.1)]
  rfl
 ·rw [lacksM, if_neg (fun h' => h h'.2)]
  rfl
 have hc : TuM t ∧ PksOk s := ⟨by assumption, h⟩
 rw [lacksM, if_pos hc]
 clear h hc
 unfold lim at hl
 refine run_loop rfl (fun i : Int => 0 ≤ i ∧ i ≤ t.x.ms.length) (fun i => [(20, .val (i64 i)), (18, .val (eMts t.x.ms)), (19, .val (i64 (t.x.ms.map eMt).length)), (5, .val (eMts (lackL (t.x.ms.take i.toNat) s))), (1, .val (ePks s))]) (fun i => (t.x.ms.length - i).toNat) 0 ⟨by omega, by omega⟩ ⟨rfl, rfl, rfl, rfl, rfl, trivial⟩ rfl ?_
 rintro i e ⟨h0, hN⟩
 have hle : (lackL (t.x.ms.take i.toNat) s).length ≤ i.toNat := Nat.le_trans (List.length_filter_le _ _) (by rw [List.length_take]; omega)
 by_cases hi : i < t.x.ms.length
 ·have hst := filt_take (fun m => decide (¬ hasM s m)) t.x.ms h0 hi
  (repeat' first
  | (refine run_ite rfl (fun h => ?_) (fun h => ?_) <;> (try simp (disch := omega) only [zA, z13, z19, z20, z21, z22, z23, z24, z25, z31, eqDs, eqD, Nat.reduceAdd, wrap64] at h) <;> (try (exfalso; omega)))
  | (refine run_need rfl (by (try simp (disch := omega) only [zA, z13, z19, z20, z21, z22, z23, z24, z25, z31, eqDs, eqD, Nat.reduceAdd, wrap64]); first | exact elp_m (by omega) (by first | omega | (simp only [List.length_set]; omega)) (fun _ => rfl) | exact eld_m (by omega) (by first | omega | (simp only [List.length_set]; omega)) (fun _ => rfl) | exact els_m (by omega) (by omega) (by omega) rfl | exact lsl_m (by omega) (fun _ => rfl) | exact app_nil_m (by omega) (fun _ => rfl) (fun _ => rfl) | exact app_m_one (by omega) (fun _ => rfl) rfl rfl | exact app_m_m (by omega) (fun _ => rfl) (fun _ => rfl)) ?_)
  | (refine run_need rfl (by first | decide | omega | (simp only [List.length_map]; omega)) ?_)
  | (refine run_calleq rfl (conPkM_ok s hs (ix t.x.ms i)) (by simp (disch := omega) only [zA, z13, z19, z20, z21, z22, z23, z24, z25, z31, eqDs, eqD, Nat.reduceAdd, wrap64]) rfl ?_)
  | (refine run_next rfl (Exists.intro (i + 1) ⟨by omega, ⟨by omega, by omega⟩, i64_eq (wrap64 _ (by omega)), rfl, rfl, ?_, rfl, trivial⟩))
  | (refine run_need rfl ?_ ?_)
  | (refine run_ret rfl ?_ ; first | refine rb ?_ | refine ri ?_ | refine rs2 ?_ ?_ | refine rs1 ?_)
  | (refine run_retx rfl ?_))
  ·have hn : ¬ hasM s (ix t.x.ms i) := by assumption
   refine sl_eq ?_
   unfold lackL
   rw [hst, if_pos (decide_eq_true hn), List.map_append, ← ms_one]
  ·have hn : hasM s (ix t.x.ms i) := by assumption
   refine sl_eq ?_
   unfold lackL
   rw [hst, if_neg (by simp [hn]), List.append_nil]
 ·have ht : t.x.ms.take i.toNat = t.x.ms := List.take_of_length_le (by omega)
  rw [ht] at hle ⊢
  (repeat' first
  | (refine run_ite rfl (fun h => ?_) (fun h => ?_) <;> (try simp (disch := omega) only [zA, z13, z19, z20, z21, z22, z23, z24, z25, z31, eqDs, eqD, Nat.reduceAdd, wrap64] at h) <;> (try (exfalso; omega)))
  | (refine run_need rfl (by (try simp (disch := omega) only [zA, z13, z19, z20, z21, z22, z23, z24, z25, z31, eqDs, eqD, Nat.reduceAdd, wrap64]); first | exact elp_m (by omega) (by first | omega | (simp only [List.length_set]; omega)) (fun _ => rfl) | exact eld_m (by omega) (by first | omega | (simp only [List.length_set]; omega)) (fun _ => rfl) | exact els_m (by omega) (by omega) (by omega) rfl | exact lsl_m (by omega) (fun _ => rfl) | exact app_nil_m (by omega) (fun _ => rfl) (fun _ => rfl) | exact app_m_one (by omega) (fun _ => rfl) rfl rfl | exact app_m_m (by omega) (fun _ => rfl) (fun _ => rfl)) ?_)
  | (refine run_need rfl (by first | decide | omega | (simp only [List.length_map]; omega)) ?_)
  | (refine run_need rfl ?_ ?_)
  | (refine run_ret rfl ?_ ; first | refine rb ?_ | refine ri ?_ | refine rs2 ?_ ?_ | refine rs1 ?_)
  | (refine run_retx rfl ?_))
  rfl
theorem iStoreTrim_ok (t : Tu) (s : List Pk) (hk : t.r.keys.length ≤ lim) (hl : t.x.ms.length ≤ lim) (hs : SmPs s) : FunOk PP W n_i_StoreTrim s_i_StoreTrim [eTu t, ePks s] [ePks (trimM t s)] := by
 refine F_i_StoreTrim (run_fun ?_)
 (repeat' first
  | (refine run_ite rfl (fun h => ?_) (fun h => ?_) <;> (try simp (disch := omega) only [zA, z13, z19, z20, z21, z22, z23, z24, z25, z31, eqDs, eqD, Nat.reduceAdd, wrap64] at h) <;> (try (exfalso; omega)))
  | (refine run_need rfl (by (try simp (disch := omega) only [zA, z13, z19, z20, z21, z22, z23, z24, z25, z31, eqDs, eqD, Nat.reduceAdd, wrap64]); first | exact elp_m (by omega) (by first | omega | (simp only [List.length_set]; omega)) (fun _ => rfl) | exact eld_m (by omega) (by first | omega | (simp only [List.length_set]; omega)) (fun _ => rfl) | exact els_m (by omega) (by omega) (by omega) rfl | exact lsl_m (by omega) (fun _ => rfl) | exact app_nil_m (by omega) (fun _ => rfl) (fun _ => rfl) | exact app_m_one (by omega) (fun _ => rfl) rfl rfl | exact app_m_m (by omega) (fun _ => rfl) (fun _ => rfl)) ?_)
  | (refine run_need rfl (by first | decide | omega | (simp only [List.length_map]; omega)) ?_)
  | (refine run_call1 rfl (iTrustOk_ok t hk hl) rfl ?_)
  | (refine run_call1 rfl (iStoreOk_ok s hs) rfl ?_)
  | (refine run_need rfl ?_ ?_)
  | (refine run_ret rfl ?_ ; first | refine rb ?_ | refine ri ?_ | refine rs2 ?_ ?_ | refine rs1 ?_)
  | (refine run_retx rfl ?_))
 ·rw [trimM, if_neg (fun h' => h h'.1)]
  rfl
 ·rw [trimM, if_neg (fun h' => h h'.2)]
  rfl
 have hc : TuM t ∧ PksOk s := ⟨by assumption, h⟩
 rw [trimM, if_pos hc]
 clear h hc
 have hsl := hs.1
 unfold lim at hsl
 refine run_loop rfl (fun i : Int => 0 ≤ i ∧ i ≤ s.length) (fun i => [(18, .val (i64 i)), (16, .val (ePks s)), (17, .val (i64 (s.map ePk).length)), (5, .val (ePks (keptL t (s.take i.toNat)))), (2, .val (eTu t))]) (fun i => (s.length - i).toNat) 0 ⟨by omega, by omega⟩ ⟨rfl, rfl, rfl, sl_eq (by unfold keptL; split <;> rfl), rfl, trivial⟩ rfl ?_
 rintro i e ⟨h0, hN⟩
 have hle : (keptL t (s.take i.toNat)).length ≤ i.toNat := by
  unfold keptL
  split
  ·exact Nat.le_trans (List.length_filter_le _ _) (by rw [List.length_take]; omega)
  ·simp
 by_cases hi : i < s.length
 ·have hst := filt_take (fun p => decide (mtOf p ∈ t.x.ms)) s h0 hi
  have hsm := smPs_ix hs h0 hi
  (repeat' first
  | (refine run_ite rfl (fun h => ?_) (fun h => ?_) <;> (try simp (disch := omega) only [zA, z13, z19, z20, z21, z22, z23, z24, z25, z31, eqDs, eqD, Nat.reduceAdd, wrap64] at h) <;> (try (exfalso; omega)))
  | (refine run_need rfl (by (try simp (disch := omega) only [zA, z13, z19, z20, z21, z22, z23, z24, z25, z31, eqDs, eqD, Nat.reduceAdd, wrap64]); first | exact elp_m (by omega) (by first | omega | (simp only [List.length_set]; omega)) (fun _ => rfl) | exact eld_m (by omega) (by first | omega | (simp only [List.length_set]; omega)) (fun _ => rfl) | exact els_m (by omega) (by omega) (by omega) rfl | exact lsl_m (by omega) (fun _ => rfl) | exact app_nil_m (by omega) (fun _ => rfl) (fun _ => rfl) | exact app_m_one (by omega) (fun _ => rfl) rfl rfl | exact app_m_m (by omega) (fun _ => rfl) (fun _ => rfl)) ?_)
  | (refine run_need rfl (by first | decide | omega | (simp only [List.length_map]; omega)) ?_)
  | (refine run_calleq rfl (metaOf_ok (ix s i) hsm) (by simp (disch := omega) only [zA, z13, z19, z20, z21, z22, z23, z24, z25, z31, eqDs, eqD, Nat.reduceAdd, wrap64]) rfl ?_)
  | (refine run_calleq rfl (conMt_ok t.x.ms (mtOf (ix s i)) hl) (by simp (disch := omega) only [zA, z13, z19, z20, z21, z22, z23, z24, z25, z31, eqDs, eqD, Nat.reduceAdd, wrap64]) rfl ?_)
  | (refine run_calleq rfl (pkgCopied_ok (ix s i) hsm) (by simp (disch := omega) only [zA, z13, z19, z20, z21, z22, z23, z24, z25, z31, eqDs, eqD, Nat.reduceAdd, wrap64]) rfl ?_)
  | (refine run_next rfl (Exists.intro (i + 1) ⟨by omega, ⟨by omega, by omega⟩, i64_eq (wrap64 _ (by omega)), rfl, rfl, ?_, rfl, trivial⟩))
  | (refine run_need rfl ?_ ?_)
  | (refine run_ret rfl ?_ ; first | refine rb ?_ | refine ri ?_ | refine rs2 ?_ ?_ | refine rs1 ?_)
  | (refine run_retx rfl ?_))
  ·have h1 : t.has = true := by assumption
   refine sl_eq ?_
   unfold keptL
   rw [if_pos h1, if_pos h1, hst, if_pos (decide_eq_true h), List.map_append]
   rfl
  ·have h1 : t.has = true := by assumption
   refine sl_eq ?_
   unfold keptL
   rw [if_pos h1, if_pos h1, hst, if_neg (by simp [h]), List.append_nil]
  ·refine sl_eq ?_
   unfold keptL
   rw [if_neg (by rw [h]; simp), if_neg (by rw [h]; simp)]
 ·have ht : s.take i.toNat = s := List.take_of_length_le (by omega)
  rw [ht] at hle ⊢
  (repeat' first
  | (refine run_ite rfl (fun h => ?_) (fun h => ?_) <;> (try simp (disch := omega) only [zA, z13, z19, z20, z21, z22, z23, z24, z25, z31, eqDs, eqD, Nat.reduceAdd, wrap64] at h) <;> (try (exfalso; omega)))
  | (refine run_need rfl (by (try simp (disch := omega) only [zA, z13, z19, z20, z21, z22, z23, z24, z25, z31, eqDs, eqD, Nat.reduceAdd, wrap64]); first | exact elp_m (by omega) (by first | omega | (simp only [List.length_set]; omega)) (fun _ => rfl) | exact eld_m (by omega) (by first | omega | (simp only [List.length_set]; omega)) (fun _ => rfl) | exact els_m (by omega) (by omega) (by omega) rfl | exact lsl_m (by omega) (fun _ => rfl) | exact app_nil_m (by omega) (fun _ => rfl) (fun _ => rfl) | exact app_m_one (by omega) (fun _ => rfl) rfl rfl | exact app_m_m (by omega) (fun _ => rfl) (fun _ => rfl)) ?_)
  | (refine run_need rfl (by first | decide | omega | (simp only [List.length_map]; omega)) ?_)
  | (refine run_need rfl ?_ ?_)
  | (refine run_ret rfl ?_ ; first | refine rb ?_ | refine ri ?_ | refine rs2 ?_ ?_ | refine rs1 ?_)
  | (refine run_retx rfl ?_))
  rfl
end V
end Go.Proofs.YtnaldhcdcpdbnaaDoor

/-
Plain proofs: what lacks, as the specification has it; nothing that lacks is kept.
-/
namespace Go.Proofs.YtnaldhcdcpdbnaaDoor
namespace V
open Classical
set_option maxRecDepth 100000
variable {W : Wld}

def nvP (n v : Int) (p : Pk) : Prop := p.name = n ∧ p.ver = v
theorem find_ok (ps : List Pk) (hl : ps.length ≤ lim) (n v : Int) : FunOk PP W n_s_l12Find s_s_l12Find [ePks ps, i64 n, i64 v] [i64 (idxF (nvP n v) ps ps.length 0)] := by
 refine F_s_l12Find (run_fun ?_)
 unfold lim at hl
 refine run_loop rfl (fun i : Int => 0 ≤ i ∧ i ≤ ps.length ∧ idxF (nvP n v) ps ps.length 0 = idxF (nvP n v) ps (ps.length - i).toNat i) (fun i => [(7, .val (i64 i)), (0, .val (ePks ps)), (1, .val (i64 n)), (2, .val (i64 v))]) (fun i => (ps.length - i).toNat) 0 ⟨by omega, by omega, by simp⟩ ⟨rfl, rfl, rfl, rfl, trivial⟩ rfl ?_
 rintro i e ⟨h0, hN, hP⟩
 have hs : i < ps.length → idxF (nvP n v) ps ps.length 0 = if nvP n v (ix ps i) then i else idxF (nvP n v) ps (ps.length - (i + 1)).toNat (i + 1) := fun h => by
  rw [hP, show ((ps.length : Int) - i).toNat = ((ps.length : Int) - (i + 1)).toNat + 1 by omega, idxF]
 have hz : ¬ i < ps.length → idxF (nvP n v) ps ps.length 0 = -1 := fun h => by
  rw [hP, show ((ps.length : Int) - i).toNat = 0 by omega, idxF]
 (repeat' first
  | (refine run_ite rfl (fun h => ?_) (fun h => ?_) <;> (try simp (disch := omega) only [zA, z13, z19, z20, z21, z22, z23, z24, z25, z31, eqDs, eqD, Nat.reduceAdd, wrap64] at h) <;> (try (exfalso; omega)))
  | (refine run_need rfl (by (try simp (disch := omega) only [zA, z13, z19, z20, z21, z22, z23, z24, z25, z31, eqDs, eqD, Nat.reduceAdd, wrap64]); first | exact elp_m (by omega) (by first | omega | (simp only [List.length_set]; omega)) (fun _ => rfl) | exact eld_m (by omega) (by first | omega | (simp only [List.length_set]; omega)) (fun _ => rfl) | exact els_m (by omega) (by omega) (by omega) rfl | exact lsl_m (by omega) (fun _ => rfl) | exact app_nil_m (by omega) (fun _ => rfl) (fun _ => rfl) | exact app_m_one (by omega) (fun _ => rfl) rfl rfl | exact app_m_m (by omega) (fun _ => rfl) (fun _ => rfl)) ?_)
  | (refine run_need rfl (by first | decide | omega | (simp only [List.length_map]; omega)) ?_)
  | (refine run_next rfl (Exists.intro (i + 1) ⟨by omega, ⟨by omega, by omega, ?_⟩, i64_eq (wrap64 _ (by omega)), rfl, rfl, rfl, trivial⟩))
  | (refine run_need rfl ?_ ?_)
  | (refine run_ret rfl ?_ ; first | refine rb ?_ | refine ri ?_ | refine rs2 ?_ ?_ | refine rs1 ?_)
  | (refine run_retx rfl ?_))
 ·rw [hs (by omega), if_pos ⟨by assumption, h⟩]
 ·rw [hs (by omega), if_neg (fun h' => h h'.2)]
 ·rw [hs (by omega), if_neg (fun h' => h h'.1)]
 ·rw [hz (by omega)]
theorem idxF_at {α : Type} [Inhabited α] (P : α → Prop) (xs : List α) : ∀ (n : Nat) (i : Int), 0 ≤ i → 0 ≤ idxF P xs n i → i ≤ idxF P xs n i ∧ idxF P xs n i < i + n ∧ P (ix xs (idxF P xs n i))
 | 0, i, _, h => by unfold idxF at h; omega
 | n + 1, i, h0, h => by
  unfold idxF at h ⊢
  by_cases hp : P (ix xs i)
  ·rw [if_pos hp]
   exact ⟨by omega, by omega, hp⟩
  ·rw [if_neg hp] at h ⊢
   have := idxF_at P xs n (i + 1) (by omega) h
   exact ⟨by omega, by omega, this.2.2⟩
theorem pks_lt {ps : List Pk} (h : PksOk ps) : ∀ (n : Nat) (i j : Int), (j - i).toNat = n → 0 ≤ i → i < j → j < ps.length → lessM (ix ps i) (ix ps j)
 | 0, i, j, hn, _, hij, _ => by omega
 | n + 1, i, j, hn, h0, hij, hj => by
  have hs := (h j (by omega) hj).2 (by omega)
  by_cases e : i = j - 1
  ·rw [e]; exact hs
  ·have := pks_lt h n i (j - 1) (by omega) h0 (by omega) (by omega)
   unfold lessM at *
   omega
theorem pks_one {ps : List Pk} (h : PksOk ps) {p q : Pk} (hp : p ∈ ps) (hq : q ∈ ps) (h1 : p.name = q.name) (h2 : p.ver = q.ver) : p = q := by
 obtain ⟨i, i0, i1, rfl⟩ := mem_ix hp
 obtain ⟨j, j0, j1, rfl⟩ := mem_ix hq
 by_cases e : i = j
 ·rw [e]
 ·exfalso
  rcases Int.lt_or_lt_of_ne e with h' | h'
  ·have := pks_lt h _ i j rfl i0 h' j1
   unfold lessM at this
   omega
  ·have := pks_lt h _ j i rfl j0 h' i1
   unfold lessM at this
   omega
theorem find_has {s : List Pk} (h : PksOk s) (m : Mt) : hasM s m ↔ 0 ≤ idxF (nvP m.name m.ver) s s.length 0 ∧ sumM (textM (ix s (idxF (nvP m.name m.ver) s s.length 0))) = m.sum := by
 constructor
 ·rintro ⟨p, hp, rfl⟩
  have h0 : 0 ≤ idxF (nvP p.name p.ver) s s.length 0 := (idxF_mem _ _).2 ⟨p, hp, rfl, rfl⟩
  obtain ⟨_, h2, h3⟩ := idxF_at _ _ _ 0 (by omega) h0
  have : ix s (idxF (nvP p.name p.ver) s s.length 0) = p := pks_one h (ix_mem h0 (by omega)) hp h3.1 h3.2
  refine ⟨h0, ?_⟩
  show sumM (textM (ix s (idxF (nvP p.name p.ver) s s.length 0))) = sumM (textM p)
  rw [this]
 ·rintro ⟨h0, h1⟩
  obtain ⟨_, h2, h3⟩ := idxF_at _ _ _ 0 (by omega) h0
  exact ⟨_, ix_mem h0 (by omega), mt_ext h3.1 h3.2 h1⟩
theorem sStoreLacks_ok (t : Tu) (s : List Pk) (hk : t.r.keys.length ≤ lim) (hl : t.x.ms.length ≤ lim) (hs : SmPs s) : FunOk PP W n_s_StoreLacks s_s_StoreLacks [eTu t, ePks s] [eMts (lacksM t s)] := by
 refine F_s_StoreLacks (run_fun ?_)
 (repeat' first
  | (refine run_ite rfl (fun h => ?_) (fun h => ?_) <;> (try simp (disch := omega) only [zA, z13, z19, z20, z21, z22, z23, z24, z25, z31, eqDs, eqD, Nat.reduceAdd, wrap64] at h) <;> (try (exfalso; omega)))
  | (refine run_need rfl (by (try simp (disch := omega) only [zA, z13, z19, z20, z21, z22, z23, z24, z25, z31, eqDs, eqD, Nat.reduceAdd, wrap64]); first | exact elp_m (by omega) (by first | omega | (simp only [List.length_set]; omega)) (fun _ => rfl) | exact eld_m (by omega) (by first | omega | (simp only [List.length_set]; omega)) (fun _ => rfl) | exact els_m (by omega) (by omega) (by omega) rfl | exact lsl_m (by omega) (fun _ => rfl) | exact app_nil_m (by omega) (fun _ => rfl) (fun _ => rfl) | exact app_m_one (by omega) (fun _ => rfl) rfl rfl | exact app_m_m (by omega) (fun _ => rfl) (fun _ => rfl)) ?_)
  | (refine run_need rfl (by first | decide | omega | (simp only [List.length_map]; omega)) ?_)
  | (refine run_call1 rfl (sTrustOk_ok t hk hl) rfl ?_)
  | (refine run_call1 rfl (sStoreOk_ok s hs) rfl ?_)
  | (refine run_need rfl ?_ ?_)
  | (refine run_ret rfl ?_ ; first | refine rb ?_ | refine ri ?_ | refine rs2 ?_ ?_ | refine rs1 ?_)
  | (refine run_retx rfl ?_))
 ·rw [lacksM, if_neg (fun h' => h h'.1)]
  rfl
 ·rw [lacksM, if_neg (fun h' => h h'.2)]
  rfl
 have hc : TuM t ∧ PksOk s := ⟨by assumption, h⟩
 have hP := h
 rw [lacksM, if_pos hc]
 clear h hc
 unfold lim at hl
 refine run_loop rfl (fun i : Int => 0 ≤ i ∧ i ≤ t.x.ms.length) (fun i => [(6, .val (i64 i)), (2, .val (eTu t)), (5, .val (eMts (lackL (t.x.ms.take i.toNat) s))), (1, .val (ePks s))]) (fun i => (t.x.ms.length - i).toNat) 0 ⟨by omega, by omega⟩ ⟨rfl, rfl, rfl, rfl, trivial⟩ rfl ?_
 rintro i e ⟨h0, hN⟩
 have hle : (lackL (t.x.ms.take i.toNat) s).length ≤ i.toNat := Nat.le_trans (List.length_filter_le _ _) (by rw [List.length_take]; omega)
 by_cases hi : i < t.x.ms.length
 ·have hst := filt_take (fun m => decide (¬ hasM s m)) t.x.ms h0 hi
  have hfh := find_has hP (ix t.x.ms i)
  have hkl : 0 ≤ idxF (nvP (ix t.x.ms i).name (ix t.x.ms i).ver) s s.length 0 → idxF (nvP (ix t.x.ms i).name (ix t.x.ms i).ver) s s.length 0 < s.length := fun h => by
   have := (idxF_at _ _ _ 0 (by omega) h).2.1
   omega
  have hff := find_ok (W := W) s hs.1 (ix t.x.ms i).name (ix t.x.ms i).ver
  generalize idxF (nvP (ix t.x.ms i).name (ix t.x.ms i).ver) s s.length 0 = k at hfh hkl hff
  (repeat' first
  | (refine run_ite rfl (fun h => ?_) (fun h => ?_) <;> (try simp (disch := omega) only [zA, z13, z19, z20, z21, z22, z23, z24, z25, z31, eqDs, eqD, Nat.reduceAdd, wrap64] at h) <;> (try (exfalso; omega)))
  | (refine run_need rfl (by (try simp (disch := omega) only [zA, z13, z19, z20, z21, z22, z23, z24, z25, z31, eqDs, eqD, Nat.reduceAdd, wrap64]); first | exact elp_m (by omega) (by first | omega | (simp only [List.length_set]; omega)) (fun _ => rfl) | exact eld_m (by omega) (by first | omega | (simp only [List.length_set]; omega)) (fun _ => rfl) | exact els_m (by omega) (by omega) (by omega) rfl | exact lsl_m (by omega) (fun _ => rfl) | exact app_nil_m (by omega) (fun _ => rfl) (fun _ => rfl) | exact app_m_one (by omega) (fun _ => rfl) rfl rfl | exact app_m_m (by omega) (fun _ => rfl) (fun _ => rfl)) ?_)
  | (refine run_need rfl (by first | decide | omega | (simp only [List.length_map]; omega)) ?_)
  | (refine run_calleq rfl (hff) (by simp (disch := omega) only [zA, z13, z19, z20, z21, z22, z23, z24, z25, z31, eqDs, eqD, Nat.reduceAdd, wrap64]) rfl ?_)
  | (refine run_calleq rfl (sPkgText_ok (ix s k) (smPs_ix hs (by omega) (hkl (by omega)))) (by simp (disch := omega) only [zA, z13, z19, z20, z21, z22, z23, z24, z25, z31, eqDs, eqD, Nat.reduceAdd, wrap64]) rfl ?_)
  | (refine run_calleq rfl (sSumOf_ok (textM (ix s k)) (Nat.le_trans (textM_len _) (by omega))) (by simp (disch := omega) only [zA, z13, z19, z20, z21, z22, z23, z24, z25, z31, eqDs, eqD, Nat.reduceAdd, wrap64]) rfl ?_)
  | (refine run_next rfl (Exists.intro (i + 1) ⟨by omega, ⟨by omega, by omega⟩, i64_eq (wrap64 _ (by omega)), rfl, ?_, rfl, trivial⟩))
  | (refine run_need rfl ?_ ?_)
  | (refine run_ret rfl ?_ ; first | refine rb ?_ | refine ri ?_ | refine rs2 ?_ ?_ | refine rs1 ?_)
  | (refine run_retx rfl ?_))
  ·have hn : ¬ hasM s (ix t.x.ms i) := fun h' => by have := (hfh.1 h').1; omega
   refine sl_eq ?_
   unfold lackL
   rw [hst, if_pos (decide_eq_true hn), List.map_append, ← ms_one]
  ·have hn : ¬ hasM s (ix t.x.ms i) := fun h' => h (hfh.1 h').2
   refine sl_eq ?_
   unfold lackL
   rw [hst, if_pos (decide_eq_true hn), List.map_append, ← ms_one]
  ·have hn : hasM s (ix t.x.ms i) := hfh.2 ⟨by omega, h⟩
   refine sl_eq ?_
   unfold lackL
   rw [hst, if_neg (by simp [hn]), List.append_nil]
 ·have ht : t.x.ms.take i.toNat = t.x.ms := List.take_of_length_le (by omega)
  rw [ht] at hle ⊢
  (repeat' first
  | (refine run_ite rfl (fun h => ?_) (fun h => ?_) <;> (try simp (disch := omega) only [zA, z13, z19, z20, z21, z22, z23, z24, z25, z31, eqDs, eqD, Nat.reduceAdd, wrap64] at h) <;> (try (exfalso; omega)))
  | (refine run_need rfl (by (try simp (disch := omega) only [zA, z13, z19, z20, z21, z22, z23, z24, z25, z31, eqDs, eqD, Nat.reduceAdd, wrap64]); first | exact elp_m (by omega) (by first | omega | (simp only [List.length_set]; omega)) (fun _ => rfl) | exact eld_m (by omega) (by first | omega | (simp only [List.length_set]; omega)) (fun _ => rfl) | exact els_m (by omega) (by omega) (by omega) rfl | exact lsl_m (by omega) (fun _ => rfl) | exact app_nil_m (by omega) (fun _ => rfl) (fun _ => rfl) | exact app_m_one (by omega) (fun _ => rfl) rfl rfl | exact app_m_m (by omega) (fun _ => rfl) (fun _ => rfl)) ?_)
  | (refine run_need rfl (by first | decide | omega | (simp only [List.length_map]; omega)) ?_)
  | (refine run_need rfl ?_ ?_)
  | (refine run_ret rfl ?_ ; first | refine rb ?_ | refine ri ?_ | refine rs2 ?_ ?_ | refine rs1 ?_)
  | (refine run_retx rfl ?_))
  rfl

/-! Nothing that lacks is kept; what lacks and what is kept are all that is told of. -/
theorem ms_lt {l : List Mt} (h : Blw l.length (MtAt l)) : ∀ (n : Nat) (i j : Int), (j - i).toNat = n → 0 ≤ i → i < j → j < l.length → (ix l i).name < (ix l j).name ∨ ((ix l i).name = (ix l j).name ∧ (ix l i).ver < (ix l j).ver)
 | 0, i, j, hn, _, hij, _ => by omega
 | n + 1, i, j, hn, h0, hij, hj => by
  have hs := (h j (by omega) hj).2.2.2 (by omega)
  by_cases e : i = j - 1
  ·rw [e]; exact hs
  ·have := ms_lt h n i (j - 1) (by omega) h0 (by omega) (by omega)
   omega
theorem ms_one' {l : List Mt} (h : Blw l.length (MtAt l)) {p q : Mt} (hp : p ∈ l) (hq : q ∈ l) (h1 : p.name = q.name) (h2 : p.ver = q.ver) : p = q := by
 obtain ⟨i, i0, i1, rfl⟩ := mem_ix hp
 obtain ⟨j, j0, j1, rfl⟩ := mem_ix hq
 by_cases e : i = j
 ·rw [e]
 ·exfalso
  rcases Int.lt_or_lt_of_ne e with h' | h'
  ·have := ms_lt h _ i j rfl i0 h' j1
   omega
  ·have := ms_lt h _ j i rfl j0 h' i1
   omega
theorem pair_ix {α : Type} [Inhabited α] {R : α → α → Prop} {l : List α} (h : ∀ i j : Int, 0 ≤ i → i < j → j < l.length → R (ix l i) (ix l j)) : l.Pairwise R := by
 rw [List.pairwise_iff_getElem]
 intro i j hi hj hij
 have := h i j (by omega) (by omega) (by omega)
 simpa [ix, hi, hj] using this
theorem nodup_le : ∀ (a b : List Mt), a.Nodup → (∀ x ∈ a, x ∈ b) → a.length ≤ b.length
 | [], b, _, _ => by simp
 | x :: r, b, hn, h => by
  have hx := h x (List.mem_cons_self ..)
  have hn' := List.nodup_cons.1 hn
  have := nodup_le r (b.erase x) hn'.2 (fun y hy => (List.mem_erase_of_ne (fun e => hn'.1 (by rw [← e]; exact hy))).2 (h y (List.mem_cons_of_mem _ hy)))
  rw [List.length_erase_of_mem hx] at this
  have hb : 0 < b.length := List.length_pos_of_mem hx
  simp only [List.length_cons]
  omega
theorem filt_two {α : Type} (P : α → Prop) : ∀ l : List α, (l.filter (fun x => decide (¬ P x))).length + (l.filter (fun x => decide (P x))).length = l.length
 | [] => rfl
 | x :: r => by
  have := filt_two P r
  by_cases h : P x <;> simp [h] <;> simp at this <;> omega
theorem ix_of_Tu {t : Tu} (h : TuM t) : Blw t.x.ms.length (MtAt t.x.ms) := by
 unfold TuM at h
 by_cases hh : t.has = true
 ·rw [if_pos hh] at h
  exact h.2.2.2.2
 ·rw [if_neg hh] at h
  rw [h.2.2.2]
  intro j h0 h1
  simp at h1
  omega
theorem lacks_apart {t : Tu} {s : List Pk} (hT : TuM t) (hP : PksOk s) {p : Pk} {m : Mt} (hp : p ∈ trimM t s) (hm : m ∈ lacksM t s) : ¬ (m.name = p.name ∧ m.ver = p.ver) := by
 rintro ⟨h1, h2⟩
 rw [trimM, if_pos ⟨hT, hP⟩, keptL] at hp
 rw [lacksM, if_pos ⟨hT, hP⟩, lackL, List.mem_filter, decide_eq_true_eq] at hm
 by_cases hh : t.has = true
 ·rw [if_pos hh, List.mem_filter, decide_eq_true_eq] at hp
  have : m = mtOf p := ms_one' (ix_of_Tu hT) hm.1 hp.2 h1 h2
  exact hm.2 ⟨p, hp.1, this.symm⟩
 ·rw [if_neg hh] at hp
  cases hp
theorem lacks_len {t : Tu} {s : List Pk} (hT : TuM t) (hP : PksOk s) : (lacksM t s).length + (trimM t s).length = t.x.ms.length := by
 rw [trimM, if_pos ⟨hT, hP⟩, lacksM, if_pos ⟨hT, hP⟩, keptL]
 by_cases hh : t.has = true
 ·rw [if_pos hh]
  have h1 := filt_two (hasM s) t.x.ms
  have hn : t.x.ms.Nodup := pair_ix (fun i j h0 hij hj e => by
   have := ms_lt (ix_of_Tu hT) _ i j rfl h0 hij hj
   rw [e] at this
   omega)
  have hn2 : ((s.filter (fun p => decide (mtOf p ∈ t.x.ms))).map mtOf).Nodup := by
   rw [List.Nodup, List.pairwise_map]
   refine List.Pairwise.filter _ (pair_ix (fun i j h0 hij hj e => ?_))
   have := pks_lt hP _ i j rfl h0 hij hj
   have e1 : (ix s i).name = (ix s j).name := congrArg Mt.name e
   have e2 : (ix s i).ver = (ix s j).ver := congrArg Mt.ver e
   unfold lessM at this
   omega
  have l1 := nodup_le _ (t.x.ms.filter (fun m => decide (hasM s m))) hn2 (fun x hx => by
   obtain ⟨p, hp, rfl⟩ := List.mem_map.1 hx
   rw [List.mem_filter, decide_eq_true_eq] at hp
   rw [List.mem_filter, decide_eq_true_eq]
   exact ⟨hp.2, p, hp.1, rfl⟩)
  have l2 := nodup_le _ ((s.filter (fun p => decide (mtOf p ∈ t.x.ms))).map mtOf) (List.Pairwise.filter (fun m => decide (hasM s m)) hn) (fun x hx => by
   rw [List.mem_filter, decide_eq_true_eq] at hx
   obtain ⟨hx1, p, hp, rfl⟩ := hx
   exact List.mem_map.2 ⟨p, by rw [List.mem_filter, decide_eq_true_eq]; exact ⟨hp, hx1⟩, rfl⟩)
  rw [List.length_map] at l1 l2
  unfold lackL
  omega
 ·rw [if_neg hh]
  unfold TuM at hT
  rw [if_neg hh] at hT
  rw [hT.2.2.2]
  rfl
end V
end Go.Proofs.YtnaldhcdcpdbnaaDoor

/-
Plain proofs: drawn trust, and packages that are kept.
-/
namespace Go.Proofs.YtnaldhcdcpdbnaaDoor
namespace V
open Classical
set_option maxRecDepth 100000
variable {W : Wld}

theorem keys_ex (b : List Int) (hb : Byt b) (p : Int) (hp : 0 ≤ p ∧ p < 800000000) : ∃ outs, (∃ ks p', outs = [eIs ks, eRd b p'] ∧ ks.length ≤ 7 ∧ p ≤ p' ∧ p' ≤ p + 10) ∧ FunOk PP W n_s_l71Keys s_s_l71Keys [eRd b p] outs := by
 obtain ⟨outs, h1, h2⟩ := run_funx (Φ := FunOk PP W) (p := p_s_l71Keys) (ins := [eRd b p]) (G := fun outs => ∃ ks p', outs = [eIs ks, eRd b p'] ∧ ks.length ≤ 7 ∧ p ≤ p' ∧ p' ≤ p + 10) (by
  refine run_loop rfl (fun x : Int × Int × List Int => (1 ≤ x.1 ∧ x.1 ≤ 7) ∧ (p ≤ x.2.1 ∧ x.2.1 ≤ p + x.1) ∧ (x.2.2.length : Int) ≤ x.1 - 1) (fun x => [(4, .val (i64 x.1)), (0, .val (eRd b x.2.1)), (3, .val (eIs x.2.2))]) (fun x => (7 - x.1).toNat) (1, p, []) ⟨by dsimp only; omega, by dsimp only; omega, by simp⟩ ⟨rfl, rfl, rfl, trivial⟩ rfl ?_
  rintro ⟨n, r, ks⟩ e ⟨g0, g1, g2⟩
  dsimp only at g0 g1 g2 ⊢
  (repeat' first
  | (refine run_ite rfl (fun h => ?_) (fun h => ?_) <;> (try simp (disch := omega) only [zA, z13, z19, z20, z21, z22, z23, z24, z25, z31, eqDs, eqD, Nat.reduceAdd, wrap64] at h) <;> (try (exfalso; omega)))
  | (refine run_need rfl (by (try simp (disch := omega) only [zA, z13, z19, z20, z21, z22, z23, z24, z25, z31, eqDs, eqD, Nat.reduceAdd, wrap64]); first | exact elp_m (by omega) (by first | omega | (simp only [List.length_set]; omega)) (fun _ => rfl) | exact eld_m (by omega) (by first | omega | (simp only [List.length_set]; omega)) (fun _ => rfl) | exact els_m (by omega) (by omega) (by omega) rfl | exact lsl_m (by omega) (fun _ => rfl) | exact app_nil_m (by omega) (fun _ => rfl) (fun _ => rfl) | exact app_m_one (by omega) (fun _ => rfl) rfl rfl | exact app_m_m (by omega) (fun _ => rfl) (fun _ => rfl)) ?_)
  | (refine run_need rfl (by first | decide | omega | (simp only [List.length_map]; omega)) ?_)
  | (refine run_callx rfl (pick_ex b hb _ _ (by first | omega | (simp only [List.length_map]; omega)) (by first | omega | (simp only [List.length_map]; omega) | (simp; done))) rfl (fun outs hG => ?_); obtain ⟨v, rfl, hv0, hv1⟩ := hG; (try simp only [List.length_map] at hv1); refine ⟨[i64 v], [eRd b _], rfl, rfl, rfl, ?_⟩)
  | (refine run_need rfl (elp_m (enc := i64) (xs := [0, 7, 1]) (by omega) (by simp; omega) (fun _ => rfl)) ?_)
  | (refine run_need rfl (eld_m (enc := i64) (xs := [0, 7, 1]) (by omega) (by simp; omega) (fun _ => rfl)) ?_)
  | (refine run_next rfl (Exists.intro (n + 1, r + 1, ks ++ [n]) ⟨by dsimp only; omega, ⟨by dsimp only; omega, by dsimp only; omega, by simp; omega⟩, i64_eq (wrap64 _ (by omega)), rfl, sl_eq (by rw [List.map_append]; rfl), trivial⟩))
  | (refine run_next rfl (Exists.intro (n + 1, r + 1, ks) ⟨by dsimp only; omega, ⟨by dsimp only; omega, by dsimp only; omega, by dsimp only; omega⟩, i64_eq (wrap64 _ (by omega)), rfl, rfl, trivial⟩))
  | (refine run_need rfl ?_ ?_)
  | (refine run_ret rfl ?_ ; first | refine rb ?_ | refine ri ?_ | refine rs2 ?_ ?_ | refine rs1 ?_)
  | (refine run_retx rfl ?_))
  ·exact ⟨ks ++ [cI [[D.int .i64 0], [D.int .i64 7], [D.int .i64 1]] v 0], _, rs2 (sl_eq (by rw [List.map_append]; rfl)) rfl, by simp; omega, by omega, by omega⟩
  ·exact ⟨ks, _, rfl, by omega, by omega, by omega⟩)
 exact ⟨outs, h1, F_s_l71Keys h2⟩

set_option maxHeartbeats 2000000 in
theorem root_ex (b : List Int) (hb : Byt b) (p : Int) (hp : 0 ≤ p ∧ p < 700000000) : ∃ outs, (∃ r p', outs = [eRt r, eRd b p'] ∧ r.keys.length ≤ 7 ∧ p ≤ p' ∧ p' ≤ p + 20) ∧ FunOk PP W n_s_l71Root s_s_l71Root [eRd b p] outs := by
 obtain ⟨outs, h1, h2⟩ := run_funx (Φ := FunOk PP W) (p := p_s_l71Root) (ins := [eRd b p]) (G := fun outs => ∃ r p', outs = [eRt r, eRd b p'] ∧ r.keys.length ≤ 7 ∧ p ≤ p' ∧ p' ≤ p + 20) (by
  refine run_callx rfl (keys_ex b hb p (by omega)) rfl (fun outs hG => ?_)
  obtain ⟨ks, q, rfl, hk, q0, q1⟩ := hG
  refine ⟨[eIs ks], [eRd b q], rfl, rfl, rfl, ?_⟩
  (repeat' first
  | (refine run_ite rfl (fun h => ?_) (fun h => ?_) <;> (try simp (disch := omega) only [zA, z13, z19, z20, z21, z22, z23, z24, z25, z31, eqDs, eqD, Nat.reduceAdd, wrap64] at h) <;> (try (exfalso; omega)))
  | (refine run_need rfl (by (try simp (disch := omega) only [zA, z13, z19, z20, z21, z22, z23, z24, z25, z31, eqDs, eqD, Nat.reduceAdd, wrap64]); first | exact elp_m (by omega) (by first | omega | (simp only [List.length_set]; omega)) (fun _ => rfl) | exact eld_m (by omega) (by first | omega | (simp only [List.length_set]; omega)) (fun _ => rfl) | exact els_m (by omega) (by omega) (by omega) rfl | exact lsl_m (by omega) (fun _ => rfl) | exact app_nil_m (by omega) (fun _ => rfl) (fun _ => rfl) | exact app_m_one (by omega) (fun _ => rfl) rfl rfl | exact app_m_m (by omega) (fun _ => rfl) (fun _ => rfl)) ?_)
  | (refine run_need rfl (by first | decide | omega | (simp only [List.length_map]; omega)) ?_)
  | (refine run_callx rfl (pick_ex b hb _ _ (by first | omega | (simp only [List.length_map]; omega)) (by first | omega | (simp only [List.length_map]; omega) | (simp; done))) rfl (fun outs hG => ?_); obtain ⟨v, rfl, hv0, hv1⟩ := hG; (try simp only [List.length_map] at hv1); refine ⟨[i64 v], [eRd b _], rfl, rfl, rfl, ?_⟩)
  | (refine run_need rfl (elp_m (enc := i64) (xs := [0, 9, 10]) (by omega) (by simp; omega) (fun _ => rfl)) ?_)
  | (refine run_need rfl (eld_m (enc := i64) (xs := [0, 9, 10]) (by omega) (by simp; omega) (fun _ => rfl)) ?_)
  | (refine run_need rfl (elp_m (enc := i64) (xs := [0, _]) (by omega) (by simp; omega) (fun _ => rfl)) ?_)
  | (refine run_need rfl (eld_m (enc := i64) (xs := [0, _]) (by omega) (by simp; omega) (fun _ => rfl)) ?_)
  | (refine run_need rfl ?_ ?_)
  | (refine run_ret rfl ?_ ; first | refine rb ?_ | refine ri ?_ | refine rs2 ?_ ?_ | refine rs1 ?_)
  | (refine run_retx rfl ?_))
  all_goals first
   | exact ⟨⟨_, ks, _⟩, _, rfl, hk, by omega, by omega⟩
   | exact ⟨⟨_, [_], _⟩, _, rfl, by simp, by omega, by omega⟩)
 exact ⟨outs, h1, F_s_l71Root h2⟩

theorem indexOf_ex (n u : Int) (ps : List Pk) (hs : SmPs ps) (hl : ps.length ≤ 900) : ∃ outs, (∃ x ok, outs = [eIx x, bo ok] ∧ x.ms.length ≤ 900) ∧ FunOk PP W n_s_IndexOf s_s_IndexOf [i64 n, i64 u, ePks ps] outs := by
 obtain ⟨outs, h1, h2⟩ := run_funx (Φ := FunOk PP W) (p := p_s_IndexOf) (ins := [i64 n, i64 u, ePks ps]) (G := fun outs => ∃ x ok, outs = [eIx x, bo ok] ∧ x.ms.length ≤ 900) (by
  (repeat' first
  | (refine run_ite rfl (fun h => ?_) (fun h => ?_) <;> (try simp (disch := omega) only [zA, z13, z19, z20, z21, z22, z23, z24, z25, z31, eqDs, eqD, Nat.reduceAdd, wrap64] at h) <;> (try (exfalso; omega)))
  | (refine run_need rfl (by (try simp (disch := omega) only [zA, z13, z19, z20, z21, z22, z23, z24, z25, z31, eqDs, eqD, Nat.reduceAdd, wrap64]); first | exact elp_m (by omega) (by first | omega | (simp only [List.length_set]; omega)) (fun _ => rfl) | exact eld_m (by omega) (by first | omega | (simp only [List.length_set]; omega)) (fun _ => rfl) | exact els_m (by omega) (by omega) (by omega) rfl | exact lsl_m (by omega) (fun _ => rfl) | exact app_nil_m (by omega) (fun _ => rfl) (fun _ => rfl) | exact app_m_one (by omega) (fun _ => rfl) rfl rfl | exact app_m_m (by omega) (fun _ => rfl) (fun _ => rfl)) ?_)
  | (refine run_need rfl (by first | decide | omega | (simp only [List.length_map]; omega)) ?_)
  | (refine run_call1 rfl (l3Pkgs_ok ps hs) rfl ?_)
  | (refine run_need rfl ?_ ?_)
  | (refine run_ret rfl ?_ ; first | refine rb ?_ | refine ri ?_ | refine rs2 ?_ ?_ | refine rs1 ?_)
  | (refine run_retx rfl ?_))
  ·exact ⟨ixZ, false, rfl, by simp [ixZ]⟩
  refine run_loop rfl (fun i : Int => 0 ≤ i ∧ i ≤ ps.length) (fun i => [(9, .val (i64 i)), (8, .val (eIx ⟨n, u, (ps.take i.toNat).map mtOf⟩)), (2, .val (ePks ps)), (6, .val (eIx ixZ))]) (fun i => (ps.length - i).toNat) 0 ⟨by omega, by omega⟩ ⟨rfl, rfl, rfl, rfl, trivial⟩ rfl ?_
  rintro i e ⟨h0, hN⟩
  have hle : ((ps.take i.toNat).map mtOf).length ≤ i.toNat := by rw [List.length_map, List.length_take]; omega
  by_cases hi : i < ps.length
  ·have hsm := smPs_ix hs h0 hi
   (repeat' first
  | (refine run_ite rfl (fun h => ?_) (fun h => ?_) <;> (try simp (disch := omega) only [zA, z13, z19, z20, z21, z22, z23, z24, z25, z31, eqDs, eqD, Nat.reduceAdd, wrap64] at h) <;> (try (exfalso; omega)))
  | (refine run_need rfl (by (try simp (disch := omega) only [zA, z13, z19, z20, z21, z22, z23, z24, z25, z31, eqDs, eqD, Nat.reduceAdd, wrap64]); first | exact elp_m (by omega) (by first | omega | (simp only [List.length_set]; omega)) (fun _ => rfl) | exact eld_m (by omega) (by first | omega | (simp only [List.length_set]; omega)) (fun _ => rfl) | exact els_m (by omega) (by omega) (by omega) rfl | exact lsl_m (by omega) (fun _ => rfl) | exact app_nil_m (by omega) (fun _ => rfl) (fun _ => rfl) | exact app_m_one (by omega) (fun _ => rfl) rfl rfl | exact app_m_m (by omega) (fun _ => rfl) (fun _ => rfl)) ?_)
  | (refine run_need rfl (by first | decide | omega | (simp only [List.length_map]; omega)) ?_)
  | (refine run_calleq rfl (sPkgText_ok (ix ps i) hsm) (by simp (disch := omega) only [zA, z13, z19, z20, z21, z22, z23, z24, z25, z31, eqDs, eqD, Nat.reduceAdd, wrap64]) rfl ?_)
  | (refine run_calleq rfl (sSumOf_ok (textM (ix ps i)) (Nat.le_trans (textM_len _) (by omega))) (by simp (disch := omega) only [zA, z13, z19, z20, z21, z22, z23, z24, z25, z31, eqDs, eqD, Nat.reduceAdd, wrap64]) rfl ?_)
  | (refine run_next rfl (Exists.intro (i + 1) ⟨by omega, ⟨by omega, by omega⟩, i64_eq (wrap64 _ (by omega)), ?_, rfl, rfl, trivial⟩))
  | (refine run_need rfl ?_ ?_)
  | (refine run_ret rfl ?_ ; first | refine rb ?_ | refine ri ?_ | refine rs2 ?_ ?_ | refine rs1 ?_)
  | (refine run_retx rfl ?_))
   refine Eq.trans (b := [.int .i64 n, .int .i64 u, .sl (((ps.take i.toNat).map mtOf).map eMt ++ [[.int .i64 (cI (ps.map ePk) i 0), .int .i64 (cI (ps.map ePk) i 1), .int .i64 (sumM (textM (ix ps i)))]])]) rfl ?_
   show _ = ([.int .i64 n, .int .i64 u, .sl (((ps.take (i + 1).toNat).map mtOf).map eMt)] : List D)
   rw [cI_Pk_0, cI_Pk_1, take_ix ps h0 hi, List.map_append, List.map_append]
   rfl
  ·have ht : ps.take i.toNat = ps := List.take_of_length_le (by omega)
   rw [ht] at hle ⊢
   (repeat' first
  | (refine run_ite rfl (fun h => ?_) (fun h => ?_) <;> (try simp (disch := omega) only [zA, z13, z19, z20, z21, z22, z23, z24, z25, z31, eqDs, eqD, Nat.reduceAdd, wrap64] at h) <;> (try (exfalso; omega)))
  | (refine run_need rfl (by (try simp (disch := omega) only [zA, z13, z19, z20, z21, z22, z23, z24, z25, z31, eqDs, eqD, Nat.reduceAdd, wrap64]); first | exact elp_m (by omega) (by first | omega | (simp only [List.length_set]; omega)) (fun _ => rfl) | exact eld_m (by omega) (by first | omega | (simp only [List.length_set]; omega)) (fun _ => rfl) | exact els_m (by omega) (by omega) (by omega) rfl | exact lsl_m (by omega) (fun _ => rfl) | exact app_nil_m (by omega) (fun _ => rfl) (fun _ => rfl) | exact app_m_one (by omega) (fun _ => rfl) rfl rfl | exact app_m_m (by omega) (fun _ => rfl) (fun _ => rfl)) ?_)
  | (refine run_need rfl (by first | decide | omega | (simp only [List.length_map]; omega)) ?_)
  | (refine run_call1 rfl (sIndexOk_ok ⟨n, u, ps.map mtOf⟩ (by rw [List.length_map]; unfold lim; omega)) rfl ?_)
  | (refine run_need rfl ?_ ?_)
  | (refine run_ret rfl ?_ ; first | refine rb ?_ | refine ri ?_ | refine rs2 ?_ ?_ | refine rs1 ?_)
  | (refine run_retx rfl ?_))
   ·exact ⟨ixZ, false, rfl, by simp [ixZ]⟩
   ·exact ⟨⟨n, u, ps.map mtOf⟩, true, rfl, by simp; omega⟩)
 exact ⟨outs, h1, F_s_IndexOf h2⟩
theorem index_ex (b : List Int) (hb : Byt b) (p : Int) (hp : 0 ≤ p ∧ p < 700000000) : ∃ outs, (∃ x p', outs = [eIx x, eRd b p'] ∧ x.ms.length ≤ 901 ∧ p ≤ p' ∧ p' ≤ p + 400) ∧ FunOk PP W n_s_l71Index s_s_l71Index [eRd b p] outs := by
 obtain ⟨outs, h1, h2⟩ := run_funx (Φ := FunOk PP W) (p := p_s_l71Index) (ins := [eRd b p]) (G := fun outs => ∃ x p', outs = [eIx x, eRd b p'] ∧ x.ms.length ≤ 901 ∧ p ≤ p' ∧ p' ≤ p + 400) (by
  (repeat' first
  | (refine run_ite rfl (fun h => ?_) (fun h => ?_) <;> (try simp (disch := omega) only [zA, z13, z19, z20, z21, z22, z23, z24, z25, z31, eqDs, eqD, Nat.reduceAdd, wrap64] at h) <;> (try (exfalso; omega)))
  | (refine run_need rfl (by (try simp (disch := omega) only [zA, z13, z19, z20, z21, z22, z23, z24, z25, z31, eqDs, eqD, Nat.reduceAdd, wrap64]); first | exact elp_m (by omega) (by first | omega | (simp only [List.length_set]; omega)) (fun _ => rfl) | exact eld_m (by omega) (by first | omega | (simp only [List.length_set]; omega)) (fun _ => rfl) | exact els_m (by omega) (by omega) (by omega) rfl | exact lsl_m (by omega) (fun _ => rfl) | exact app_nil_m (by omega) (fun _ => rfl) (fun _ => rfl) | exact app_m_one (by omega) (fun _ => rfl) rfl rfl | exact app_m_m (by omega) (fun _ => rfl) (fun _ => rfl)) ?_)
  | (refine run_need rfl (by first | decide | omega | (simp only [List.length_map]; omega)) ?_)
  | (refine run_callx rfl (pick_ex b hb _ _ (by first | omega | (simp only [List.length_map]; omega)) (by first | omega | (simp only [List.length_map]; omega) | (simp; done))) rfl (fun outs hG => ?_); obtain ⟨v, rfl, hv0, hv1⟩ := hG; (try simp only [List.length_map] at hv1); refine ⟨[i64 v], [eRd b _], rfl, rfl, rfl, ?_⟩)
  | (refine run_need rfl (elp_m (enc := i64) (xs := [0, 30, 31]) (by omega) (by simp; omega) (fun _ => rfl)) ?_)
  | (refine run_need rfl (eld_m (enc := i64) (xs := [0, 30, 31]) (by omega) (by simp; omega) (fun _ => rfl)) ?_)
  | (refine run_need rfl (elp_m (enc := i64) (xs := [-1, 60, 61]) (by omega) (by simp; omega) (fun _ => rfl)) ?_)
  | (refine run_need rfl (eld_m (enc := i64) (xs := [-1, 60, 61]) (by omega) (by simp; omega) (fun _ => rfl)) ?_)
  | (refine run_callx rfl (pkgs_ex b hb _ (by omega)) rfl (fun outs hG => ?_); obtain ⟨ps, q, rfl, hq1, hq2, hq3, hq4⟩ := hG; refine ⟨[ePks ps], [eRd b q], rfl, rfl, rfl, ?_⟩)
  | (refine run_callx rfl (indexOf_ex _ _ ps (drPks_sm hq1 (by omega)) (by omega)) rfl (fun outs hG => ?_); obtain ⟨x, ok, rfl, hx⟩ := hG; refine ⟨[eIx x, bo ok], [], rfl, rfl, rfl, ?_⟩)
  | (refine run_need rfl ?_ ?_)
  | (refine run_ret rfl ?_ ; first | refine rb ?_ | refine ri ?_ | refine rs2 ?_ ?_ | refine rs1 ?_)
  | (refine run_retx rfl ?_))
  ·exact ⟨⟨_, x.till, x.ms⟩, q + 1 + 1, rfl, by dsimp only; omega, by omega, by omega⟩
  ·exact ⟨⟨x.num, cI [[D.int .i64 (-1)], [D.int .i64 60], [D.int .i64 61]] v 0, x.ms⟩, q + 1 + 1, rfl, by dsimp only; omega, by omega, by omega⟩
  ·exact ⟨⟨x.num, x.till, x.ms ++ [⟨_, _, _⟩]⟩, _, rs2 (by dsimp only [eIx]; rw [List.map_append]; rfl) rfl, by rw [List.length_append]; simp only [List.length_cons, List.length_nil]; omega, by omega, by omega⟩
  ·exact ⟨x, _, rfl, by omega, by omega, by omega⟩)
 exact ⟨outs, h1, F_s_l71Index h2⟩

theorem trust_ex (b : List Int) (hb : Byt b) (p : Int) (hp : 0 ≤ p ∧ p < 600000000) : ∃ outs, (∃ t ps p', outs = [eTu t, ePks ps, eRd b p'] ∧ SmTu t ∧ DrPks ps ∧ ps.length ≤ 7 ∧ p ≤ p' ∧ p' ≤ p + 1000) ∧ FunOk PP W n_s_l71Trust s_s_l71Trust [eRd b p] outs := by
 obtain ⟨outs, h1, h2⟩ := run_funx (Φ := FunOk PP W) (p := p_s_l71Trust) (ins := [eRd b p]) (G := fun outs => ∃ t ps p', outs = [eTu t, ePks ps, eRd b p'] ∧ SmTu t ∧ DrPks ps ∧ ps.length ≤ 7 ∧ p ≤ p' ∧ p' ≤ p + 1000) (by
  (repeat' first
  | (refine run_ite rfl (fun h => ?_) (fun h => ?_) <;> (try simp (disch := omega) only [zA, z13, z19, z20, z21, z22, z23, z24, z25, z31, eqDs, eqD, Nat.reduceAdd, wrap64] at h) <;> (try (exfalso; omega)))
  | (refine run_need rfl (by (try simp (disch := omega) only [zA, z13, z19, z20, z21, z22, z23, z24, z25, z31, eqDs, eqD, Nat.reduceAdd, wrap64]); first | exact elp_m (by omega) (by first | omega | (simp only [List.length_set]; omega)) (fun _ => rfl) | exact eld_m (by omega) (by first | omega | (simp only [List.length_set]; omega)) (fun _ => rfl) | exact els_m (by omega) (by omega) (by omega) rfl | exact lsl_m (by omega) (fun _ => rfl) | exact app_nil_m (by omega) (fun _ => rfl) (fun _ => rfl) | exact app_m_one (by omega) (fun _ => rfl) rfl rfl | exact app_m_m (by omega) (fun _ => rfl) (fun _ => rfl)) ?_)
  | (refine run_need rfl (by first | decide | omega | (simp only [List.length_map]; omega)) ?_)
  | (refine run_callx rfl (pick_ex b hb _ _ (by first | omega | (simp only [List.length_map]; omega)) (by first | omega | (simp only [List.length_map]; omega) | (simp; done))) rfl (fun outs hG => ?_); obtain ⟨v, rfl, hv0, hv1⟩ := hG; (try simp only [List.length_map] at hv1); refine ⟨[i64 v], [eRd b _], rfl, rfl, rfl, ?_⟩)
  | (refine run_callx rfl (root_ex b hb _ (by omega)) rfl (fun outs hG => ?_); obtain ⟨r, q, rfl, hr, hq3, hq4⟩ := hG; refine ⟨[eRt r], [eRd b q], rfl, rfl, rfl, ?_⟩)
  | (refine run_callx rfl (pkgs_ex b hb _ (by omega)) rfl (fun outs hG => ?_); obtain ⟨ps, q, rfl, hq1, hq2, hq3, hq4⟩ := hG; refine ⟨[ePks ps], [eRd b q], rfl, rfl, rfl, ?_⟩)
  | (refine run_callx rfl (index_ex b hb _ (by omega)) rfl (fun outs hG => ?_); obtain ⟨x, q, rfl, hx, hq3, hq4⟩ := hG; refine ⟨[eIx x], [eRd b q], rfl, rfl, rfl, ?_⟩)
  | (refine run_callx rfl (indexOf_ex _ _ ps (drPks_sm hq1 (by omega)) (by omega)) rfl (fun outs hG => ?_); obtain ⟨x, ok, rfl, hx⟩ := hG; refine ⟨[eIx x, bo ok], [], rfl, rfl, rfl, ?_⟩)
  | (refine run_need rfl ?_ ?_)
  | (refine run_ret rfl ?_ ; first | refine rb ?_ | refine ri ?_ | refine rs2 ?_ ?_ | refine rs1 ?_)
  | (refine run_retx rfl ?_))
  ·exact ⟨⟨r, _, x⟩, ps, _, rfl, ⟨by dsimp only; omega, by dsimp only; omega⟩, hq1, hq2, by omega, by omega⟩
  ·exact ⟨⟨r, _, x⟩, ps, _, rfl, ⟨by dsimp only; omega, by dsimp only; omega⟩, hq1, hq2, by omega, by omega⟩
  ·exact ⟨⟨r, _, x⟩, ps, _, rfl, ⟨by dsimp only; omega, by dsimp only; omega⟩, hq1, hq2, by omega, by omega⟩
  ·exact ⟨⟨r, _, ixZ⟩, ps, _, rfl, ⟨by dsimp only; omega, by simp [ixZ]⟩, hq1, hq2, by omega, by omega⟩
  ·exact ⟨⟨r, _, x⟩, ps, _, rfl, ⟨by dsimp only; omega, by dsimp only; omega⟩, hq1, hq2, by omega, by omega⟩
  ·exact ⟨⟨r, _, ixZ⟩, ps, _, rfl, ⟨by dsimp only; omega, by simp [ixZ]⟩, hq1, hq2, by omega, by omega⟩)
 exact ⟨outs, h1, F_s_l71Trust h2⟩

theorem some_ex (b : List Int) (hb : Byt b) (p : Int) (hp : 0 ≤ p ∧ p < 600000000) (ps : List Pk) (hs : SmPs ps) (hl : ps.length ≤ 7) : ∃ outs, (∃ s p', outs = [ePks s, eRd b p'] ∧ SmPs s ∧ s.length ≤ 8 ∧ p ≤ p' ∧ p' ≤ p + 500) ∧ FunOk PP W n_s_l71Some s_s_l71Some [eRd b p, ePks ps] outs := by
 obtain ⟨outs, h1, h2⟩ := run_funx (Φ := FunOk PP W) (p := p_s_l71Some) (ins := [eRd b p, ePks ps]) (G := fun outs => ∃ s p', outs = [ePks s, eRd b p'] ∧ SmPs s ∧ s.length ≤ 8 ∧ p ≤ p' ∧ p' ≤ p + 500) (by
  refine run_loop rfl (fun x : Int × Int × List Pk => (0 ≤ x.1 ∧ x.1 ≤ ps.length) ∧ (p ≤ x.2.1 ∧ x.2.1 ≤ p + x.1) ∧ (x.2.2.length : Int) ≤ x.1 ∧ ∀ q ∈ x.2.2, q ∈ ps) (fun x => [(6, .val (i64 x.1)), (0, .val (eRd b x.2.1)), (5, .val (ePks x.2.2)), (1, .val (ePks ps))]) (fun x => (ps.length - x.1).toNat) (0, p, []) ⟨by dsimp only; omega, by dsimp only; omega, by simp, by intro q hq; cases hq⟩ ⟨rfl, rfl, rfl, rfl, trivial⟩ rfl ?_
  rintro ⟨n, r, l⟩ e ⟨g0, g1, g2, g3⟩
  dsimp only at g0 g1 g2 g3 ⊢
  by_cases hi : n < ps.length
  ·(repeat' first
  | (refine run_ite rfl (fun h => ?_) (fun h => ?_) <;> (try simp (disch := omega) only [zA, z13, z19, z20, z21, z22, z23, z24, z25, z31, eqDs, eqD, Nat.reduceAdd, wrap64] at h) <;> (try (exfalso; omega)))
  | (refine run_need rfl (by (try simp (disch := omega) only [zA, z13, z19, z20, z21, z22, z23, z24, z25, z31, eqDs, eqD, Nat.reduceAdd, wrap64]); first | exact elp_m (by omega) (by first | omega | (simp only [List.length_set]; omega)) (fun _ => rfl) | exact eld_m (by omega) (by first | omega | (simp only [List.length_set]; omega)) (fun _ => rfl) | exact els_m (by omega) (by omega) (by omega) rfl | exact lsl_m (by omega) (fun _ => rfl) | exact app_nil_m (by omega) (fun _ => rfl) (fun _ => rfl) | exact app_m_one (by omega) (fun _ => rfl) rfl rfl | exact app_m_m (by omega) (fun _ => rfl) (fun _ => rfl)) ?_)
  | (refine run_need rfl (by first | decide | omega | (simp only [List.length_map]; omega)) ?_)
  | (refine run_callx rfl (pick_ex b hb _ _ (by first | omega | (simp only [List.length_map]; omega)) (by first | omega | (simp only [List.length_map]; omega) | (simp; done))) rfl (fun outs hG => ?_); obtain ⟨v, rfl, hv0, hv1⟩ := hG; (try simp only [List.length_map] at hv1); refine ⟨[i64 v], [eRd b _], rfl, rfl, rfl, ?_⟩)
  | (refine run_next rfl (Exists.intro (n + 1, r + 1, l ++ [ix ps n]) ⟨by dsimp only; omega, ⟨by dsimp only; omega, by dsimp only; omega, by simp; omega, fun q hq => (List.mem_append.1 hq).elim (g3 q) (fun h' => by rw [List.mem_singleton.1 h']; exact ix_mem g0.1 hi)⟩, i64_eq (wrap64 _ (by omega)), rfl, sl_eq (by rw [List.map_append]; simp only [zA, z13, z19, z20, z21, z22, z23, z24, z25, z31, eqDs, eqD, Nat.reduceAdd]; rfl), rfl, trivial⟩))
  | (refine run_next rfl (Exists.intro (n + 1, r + 1, l) ⟨by dsimp only; omega, ⟨by dsimp only; omega, by dsimp only; omega, by dsimp only; omega, g3⟩, i64_eq (wrap64 _ (by omega)), rfl, rfl, rfl, trivial⟩))
  | (refine run_need rfl ?_ ?_)
  | (refine run_ret rfl ?_ ; first | refine rb ?_ | refine ri ?_ | refine rs2 ?_ ?_ | refine rs1 ?_)
  | (refine run_retx rfl ?_))
  ·(repeat' first
  | (refine run_ite rfl (fun h => ?_) (fun h => ?_) <;> (try simp (disch := omega) only [zA, z13, z19, z20, z21, z22, z23, z24, z25, z31, eqDs, eqD, Nat.reduceAdd, wrap64] at h) <;> (try (exfalso; omega)))
  | (refine run_need rfl (by (try simp (disch := omega) only [zA, z13, z19, z20, z21, z22, z23, z24, z25, z31, eqDs, eqD, Nat.reduceAdd, wrap64]); first | exact elp_m (by omega) (by first | omega | (simp only [List.length_set]; omega)) (fun _ => rfl) | exact eld_m (by omega) (by first | omega | (simp only [List.length_set]; omega)) (fun _ => rfl) | exact els_m (by omega) (by omega) (by omega) rfl | exact lsl_m (by omega) (fun _ => rfl) | exact app_nil_m (by omega) (fun _ => rfl) (fun _ => rfl) | exact app_m_one (by omega) (fun _ => rfl) rfl rfl | exact app_m_m (by omega) (fun _ => rfl) (fun _ => rfl)) ?_)
  | (refine run_need rfl (by first | decide | omega | (simp only [List.length_map]; omega)) ?_)
  | (refine run_callx rfl (pick_ex b hb _ _ (by first | omega | (simp only [List.length_map]; omega)) (by first | omega | (simp only [List.length_map]; omega) | (simp; done))) rfl (fun outs hG => ?_); obtain ⟨v, rfl, hv0, hv1⟩ := hG; (try simp only [List.length_map] at hv1); refine ⟨[i64 v], [eRd b _], rfl, rfl, rfl, ?_⟩)
  | (refine run_callx rfl (off_ex b hb _ (by omega)) rfl (fun outs hG => ?_); obtain ⟨s, q, rfl, hs1, hs2, hq3, hq4⟩ := hG; refine ⟨[ePks s], [eRd b q], rfl, rfl, rfl, ?_⟩)
  | (refine run_need rfl ?_ ?_)
  | (refine run_ret rfl ?_ ; first | refine rb ?_ | refine ri ?_ | refine rs2 ?_ ?_ | refine rs1 ?_)
  | (refine run_retx rfl ?_))
   ·exact ⟨s, _, rfl, hs1, hs2, by omega, by omega⟩
   ·exact ⟨l, _, rfl, ⟨by unfold lim; omega, fun q hq => hs.2 q (g3 q hq)⟩, by omega, by omega, by omega⟩)
 exact ⟨outs, h1, F_s_l71Some h2⟩
def CodeB (b : List Int) : Prop := b.length ≤ 1048576 ∧ ∀ x ∈ b, 0 ≤ x ∧ x ≤ 255
theorem codeB_byt {b : List Int} (h : CodeB b) : Byt (b.take 2000) := ⟨by rw [List.length_take]; omega, fun x hx => h.2 x (List.mem_of_mem_take hx)⟩
theorem drawTrim_ex (c : List Int) (hc : CodeB c) : ∃ outs, (∃ t s, outs = [eTu t, ePks s] ∧ SmTu t ∧ SmPs s) ∧ FunOk PP W n_s_DrawStoreTrim s_s_DrawStoreTrim [eBs c] outs := by
 obtain ⟨outs, h1, h2⟩ := run_funx (Φ := FunOk PP W) (p := p_s_DrawStoreTrim) (ins := [eBs c]) (G := fun outs => ∃ t s, outs = [eTu t, ePks s] ∧ SmTu t ∧ SmPs s) (by
  have hb := codeB_byt hc
  have ho := open_ok (W := W) c hc.1
  generalize c.take 2000 = b at hb ho
  (repeat' first
  | (refine run_ite rfl (fun h => ?_) (fun h => ?_) <;> (try simp (disch := omega) only [zA, z13, z19, z20, z21, z22, z23, z24, z25, z31, eqDs, eqD, Nat.reduceAdd, wrap64] at h) <;> (try (exfalso; omega)))
  | (refine run_need rfl (by (try simp (disch := omega) only [zA, z13, z19, z20, z21, z22, z23, z24, z25, z31, eqDs, eqD, Nat.reduceAdd, wrap64]); first | exact elp_m (by omega) (by first | omega | (simp only [List.length_set]; omega)) (fun _ => rfl) | exact eld_m (by omega) (by first | omega | (simp only [List.length_set]; omega)) (fun _ => rfl) | exact els_m (by omega) (by omega) (by omega) rfl | exact lsl_m (by omega) (fun _ => rfl) | exact app_nil_m (by omega) (fun _ => rfl) (fun _ => rfl) | exact app_m_one (by omega) (fun _ => rfl) rfl rfl | exact app_m_m (by omega) (fun _ => rfl) (fun _ => rfl)) ?_)
  | (refine run_need rfl (by first | decide | omega | (simp only [List.length_map]; omega)) ?_)
  | (refine run_call1 rfl (ho) rfl ?_)
  | (refine run_callx rfl (pick_ex b hb _ _ (by first | omega | (simp only [List.length_map]; omega)) (by first | omega | (simp only [List.length_map]; omega) | (simp; done))) rfl (fun outs hG => ?_); obtain ⟨v, rfl, hv0, hv1⟩ := hG; (try simp only [List.length_map] at hv1); refine ⟨[i64 v], [eRd b _], rfl, rfl, rfl, ?_⟩)
  | (refine run_callx rfl (trust_ex b hb 0 (by omega)) rfl (fun outs hG => ?_); obtain ⟨t, ps, q, rfl, ht, hq1, hq2, hq3, hq4⟩ := hG; refine ⟨[eTu t, ePks ps], [eRd b q], rfl, rfl, rfl, ?_⟩)
  | (refine run_callx rfl (some_ex b hb _ (by omega) ps (drPks_sm hq1 (by omega)) (by omega)) rfl (fun outs hG => ?_); obtain ⟨s, q, rfl, hs1, hs2, hq3, hq4⟩ := hG; refine ⟨[ePks s], [eRd b q], rfl, rfl, rfl, ?_⟩)
  | (refine run_need rfl ?_ ?_)
  | (refine run_ret rfl ?_ ; first | refine rb ?_ | refine ri ?_ | refine rs2 ?_ ?_ | refine rs1 ?_)
  | (refine run_retx rfl ?_))
  ·rename_i w hw0 hw1
   refine run_callx rfl (pkg_ex b hb (q + 1 + 1 + 1) (1 + w) (1 + v) (by omega) (by omega)) (by simp (disch := omega) only [wrap64]) (fun outs hG => ?_)
   obtain ⟨k, q, rfl, hk1, hk2, hk3⟩ := hG
   refine ⟨[ePk k], [eRd b q], rfl, rfl, rfl, ?_⟩
   (repeat' first
  | (refine run_ite rfl (fun h => ?_) (fun h => ?_) <;> (try simp (disch := omega) only [zA, z13, z19, z20, z21, z22, z23, z24, z25, z31, eqDs, eqD, Nat.reduceAdd, wrap64] at h) <;> (try (exfalso; omega)))
  | (refine run_need rfl (by (try simp (disch := omega) only [zA, z13, z19, z20, z21, z22, z23, z24, z25, z31, eqDs, eqD, Nat.reduceAdd, wrap64]); first | exact elp_m (by omega) (by first | omega | (simp only [List.length_set]; omega)) (fun _ => rfl) | exact eld_m (by omega) (by first | omega | (simp only [List.length_set]; omega)) (fun _ => rfl) | exact els_m (by omega) (by omega) (by omega) rfl | exact lsl_m (by omega) (fun _ => rfl) | exact app_nil_m (by omega) (fun _ => rfl) (fun _ => rfl) | exact app_m_one (by omega) (fun _ => rfl) rfl rfl | exact app_m_m (by omega) (fun _ => rfl) (fun _ => rfl)) ?_)
  | (refine run_need rfl (by first | decide | omega | (simp only [List.length_map]; omega)) ?_)
  | (refine run_call1 rfl (find_ok s hs1.1 _ _) rfl ?_)
  | (refine run_call1 rfl (l3Pkgs_ok s hs1) rfl ?_)
  | (refine run_call1 rfl (l12With_ok s hs1 (by omega) k (drPk_sm hk1)) rfl ?_)
  | (refine run_need rfl ?_ ?_)
  | (refine run_ret rfl ?_ ; first | refine rb ?_ | refine ri ?_ | refine rs2 ?_ ?_ | refine rs1 ?_)
  | (refine run_retx rfl ?_))
   ·refine ⟨t, withM s k, rfl, ht, ?_, fun x hx => ?_⟩
    ·have := withM_len s k
     unfold lim
     omega
    ·rcases withM_mem hx with h' | h'
     ·exact hs1.2 x h'
     ·rw [h']; exact drPk_sm hk1
   ·exact ⟨t, s, rfl, ht, hs1⟩
   ·exact ⟨t, s, rfl, ht, hs1⟩
  ·exact ⟨t, s, rfl, ht, hs1⟩)
 exact ⟨outs, h1, F_s_DrawStoreTrim h2⟩
theorem drawLacks_ex (c : List Int) (hc : CodeB c) : ∃ outs, (∃ t s, outs = [eTu t, ePks s] ∧ SmTu t ∧ SmPs s) ∧ FunOk PP W n_s_DrawStoreLacks s_s_DrawStoreLacks [eBs c] outs := by
 obtain ⟨outs, h1, h2⟩ := run_funx (Φ := FunOk PP W) (p := p_s_DrawStoreLacks) (ins := [eBs c]) (G := fun outs => ∃ t s, outs = [eTu t, ePks s] ∧ SmTu t ∧ SmPs s) (by
  (repeat' first
  | (refine run_ite rfl (fun h => ?_) (fun h => ?_) <;> (try simp (disch := omega) only [zA, z13, z19, z20, z21, z22, z23, z24, z25, z31, eqDs, eqD, Nat.reduceAdd, wrap64] at h) <;> (try (exfalso; omega)))
  | (refine run_need rfl (by (try simp (disch := omega) only [zA, z13, z19, z20, z21, z22, z23, z24, z25, z31, eqDs, eqD, Nat.reduceAdd, wrap64]); first | exact elp_m (by omega) (by first | omega | (simp only [List.length_set]; omega)) (fun _ => rfl) | exact eld_m (by omega) (by first | omega | (simp only [List.length_set]; omega)) (fun _ => rfl) | exact els_m (by omega) (by omega) (by omega) rfl | exact lsl_m (by omega) (fun _ => rfl) | exact app_nil_m (by omega) (fun _ => rfl) (fun _ => rfl) | exact app_m_one (by omega) (fun _ => rfl) rfl rfl | exact app_m_m (by omega) (fun _ => rfl) (fun _ => rfl)) ?_)
  | (refine run_need rfl (by first | decide | omega | (simp only [List.length_map]; omega)) ?_)
  | (refine run_callx rfl (drawTrim_ex c hc) rfl (fun outs hG => ?_); obtain ⟨t, s, rfl, ht, hs⟩ := hG; refine ⟨[eTu t, ePks s], [], rfl, rfl, rfl, ?_⟩)
  | (refine run_need rfl ?_ ?_)
  | (refine run_ret rfl ?_ ; first | refine rb ?_ | refine ri ?_ | refine rs2 ?_ ?_ | refine rs1 ?_)
  | (refine run_retx rfl ?_))
  exact ⟨t, s, rfl, ht, hs⟩)
 exact ⟨outs, h1, F_s_DrawStoreLacks h2⟩
end V
end Go.Proofs.YtnaldhcdcpdbnaaDoor

/-
Plain proofs: what lacks is told of, and not kept.
-/
namespace Go.Proofs.YtnaldhcdcpdbnaaDoor
namespace V
open Classical
set_option maxRecDepth 100000
variable {W : Wld}

theorem fnLacks_ok (b : List Int) (hb : ∀ x ∈ b, 0 ≤ x ∧ x ≤ 255) : FunOk PP W n_l_FnLacks s_l_FnLacks [eBs b] [bo true] := by
 refine F_l_FnLacks (run_fun ?_)
 (repeat' first
  | (refine run_ite rfl (fun h => ?_) (fun h => ?_) <;> (try simp (disch := omega) only [zA, z13, z19, z20, z21, z22, z23, z24, z25, z31, eqDs, eqD, Nat.reduceAdd, wrap64] at h) <;> (try (exfalso; omega)))
  | (refine run_need rfl (by (try simp (disch := omega) only [zA, z13, z19, z20, z21, z22, z23, z24, z25, z31, eqDs, eqD, Nat.reduceAdd, wrap64]); first | exact elp_m (by omega) (by first | omega | (simp only [List.length_set]; omega)) (fun _ => rfl) | exact eld_m (by omega) (by first | omega | (simp only [List.length_set]; omega)) (fun _ => rfl) | exact els_m (by omega) (by omega) (by omega) rfl | exact lsl_m (by omega) (fun _ => rfl) | exact app_nil_m (by omega) (fun _ => rfl) (fun _ => rfl) | exact app_m_one (by omega) (fun _ => rfl) rfl rfl | exact app_m_m (by omega) (fun _ => rfl) (fun _ => rfl)) ?_)
  | (refine run_need rfl (by first | decide | omega | (simp only [List.length_map]; omega)) ?_)
  | (refine run_need rfl ?_ ?_)
  | (refine run_ret rfl ?_ ; first | refine rb ?_ | refine ri ?_ | refine rs2 ?_ ?_ | refine rs1 ?_)
  | (refine run_retx rfl ?_))
 ·rfl
 have hc : CodeB b := ⟨by omega, hb⟩
 refine run_callx rfl (drawLacks_ex b hc) rfl (fun outs hG => ?_)
 obtain ⟨t, s, rfl, ht, hs⟩ := hG
 refine ⟨[eTu t, ePks s], [], rfl, rfl, rfl, ?_⟩
 have hk : t.r.keys.length ≤ lim := by have := ht.1; unfold lim; omega
 have hl : t.x.ms.length ≤ lim := by have := ht.2; unfold lim; omega
 have hll : (lacksM t s).length ≤ lim := by
  unfold lacksM
  split
  ·exact Nat.le_trans (List.length_filter_le _ _) hl
  ·simp
 (repeat' first
  | (refine run_ite rfl (fun h => ?_) (fun h => ?_) <;> (try simp (disch := omega) only [zA, z13, z19, z20, z21, z22, z23, z24, z25, z31, eqDs, eqD, Nat.reduceAdd, wrap64] at h) <;> (try (exfalso; omega)))
  | (refine run_need rfl (by (try simp (disch := omega) only [zA, z13, z19, z20, z21, z22, z23, z24, z25, z31, eqDs, eqD, Nat.reduceAdd, wrap64]); first | exact elp_m (by omega) (by first | omega | (simp only [List.length_set]; omega)) (fun _ => rfl) | exact eld_m (by omega) (by first | omega | (simp only [List.length_set]; omega)) (fun _ => rfl) | exact els_m (by omega) (by omega) (by omega) rfl | exact lsl_m (by omega) (fun _ => rfl) | exact app_nil_m (by omega) (fun _ => rfl) (fun _ => rfl) | exact app_m_one (by omega) (fun _ => rfl) rfl rfl | exact app_m_m (by omega) (fun _ => rfl) (fun _ => rfl)) ?_)
  | (refine run_need rfl (by first | decide | omega | (simp only [List.length_map]; omega)) ?_)
  | (refine run_call1 rfl (iStoreLacks_ok t s hk hl hs) rfl ?_)
  | (refine run_call1 rfl (sStoreLacks_ok t s hk hl hs) rfl ?_)
  | (refine run_call1 rfl (luMetas_ok (lacksM t s) (lacksM t s) hll) rfl ?_)
  | (refine run_call1 rfl (sTrustOk_ok t hk hl) rfl ?_)
  | (refine run_call1 rfl (sStoreOk_ok s hs) rfl ?_)
  | (refine run_call1 rfl (iStoreTrim_ok t s hk hl hs) rfl ?_)
  | (refine run_need rfl ?_ ?_)
  | (refine run_ret rfl ?_ ; first | refine rb ?_ | refine ri ?_ | refine rs2 ?_ ?_ | refine rs1 ?_)
  | (refine run_retx rfl ?_))
 ·exact decide_eq_true rfl
 ·exact decide_eq_true rfl
 ·exact decide_eq_true rfl
 have hT : TuM t := by assumption
 have hP := h
 have hap := fun (i k : Int) (h0 : 0 ≤ i) (h1 : i < (trimM t s).length) (k0 : 0 ≤ k) (k1 : k < (lacksM t s).length) => lacks_apart hT hP (ix_mem h0 h1) (ix_mem k0 k1)
 have hln := lacks_len hT hP
 have hlt : (trimM t s).length ≤ lim := by omega
 unfold lim at hll hlt
 clear h
 generalize hK : trimM t s = K at hap hln hlt
 generalize hL : lacksM t s = L at hap hln hll
 refine run_loop rfl (fun i : Int => 0 ≤ i ∧ i ≤ K.length) (fun i => [(7, .val (i64 i)), (6, .val (ePks K)), (5, .val (eMts L)), (3, .val (eTu t))]) (fun i => (K.length - i).toNat) 0 ⟨by omega, by omega⟩ ⟨rfl, rfl, rfl, rfl, trivial⟩ rfl ?_
 rintro i e ⟨h0, hN⟩
 by_cases hi : i < K.length
 ·(repeat' first
  | (refine run_ite rfl (fun h => ?_) (fun h => ?_) <;> (try simp (disch := omega) only [zA, z13, z19, z20, z21, z22, z23, z24, z25, z31, eqDs, eqD, Nat.reduceAdd, wrap64] at h) <;> (try (exfalso; omega)))
  | (refine run_need rfl (by (try simp (disch := omega) only [zA, z13, z19, z20, z21, z22, z23, z24, z25, z31, eqDs, eqD, Nat.reduceAdd, wrap64]); first | exact elp_m (by omega) (by first | omega | (simp only [List.length_set]; omega)) (fun _ => rfl) | exact eld_m (by omega) (by first | omega | (simp only [List.length_set]; omega)) (fun _ => rfl) | exact els_m (by omega) (by omega) (by omega) rfl | exact lsl_m (by omega) (fun _ => rfl) | exact app_nil_m (by omega) (fun _ => rfl) (fun _ => rfl) | exact app_m_one (by omega) (fun _ => rfl) rfl rfl | exact app_m_m (by omega) (fun _ => rfl) (fun _ => rfl)) ?_)
  | (refine run_need rfl (by first | decide | omega | (simp only [List.length_map]; omega)) ?_)
  | (refine run_need rfl ?_ ?_)
  | (refine run_ret rfl ?_ ; first | refine rb ?_ | refine ri ?_ | refine rs2 ?_ ?_ | refine rs1 ?_)
  | (refine run_retx rfl ?_))
  refine run_loop rfl (fun k : Int => 0 ≤ k ∧ k ≤ L.length) (fun k => [(8, .val (i64 k)), (7, .val (i64 i)), (6, .val (ePks K)), (5, .val (eMts L)), (3, .val (eTu t))]) (fun k => (L.length - k).toNat) 0 ⟨by omega, by omega⟩ ⟨rfl, rfl, rfl, rfl, rfl, trivial⟩ rfl ?_
  rintro k e ⟨k0, kN⟩
  (repeat' first
  | (refine run_ite rfl (fun h => ?_) (fun h => ?_) <;> (try simp (disch := omega) only [zA, z13, z19, z20, z21, z22, z23, z24, z25, z31, eqDs, eqD, Nat.reduceAdd, wrap64] at h) <;> (try (exfalso; omega)))
  | (refine run_need rfl (by (try simp (disch := omega) only [zA, z13, z19, z20, z21, z22, z23, z24, z25, z31, eqDs, eqD, Nat.reduceAdd, wrap64]); first | exact elp_m (by omega) (by first | omega | (simp only [List.length_set]; omega)) (fun _ => rfl) | exact eld_m (by omega) (by first | omega | (simp only [List.length_set]; omega)) (fun _ => rfl) | exact els_m (by omega) (by omega) (by omega) rfl | exact lsl_m (by omega) (fun _ => rfl) | exact app_nil_m (by omega) (fun _ => rfl) (fun _ => rfl) | exact app_m_one (by omega) (fun _ => rfl) rfl rfl | exact app_m_m (by omega) (fun _ => rfl) (fun _ => rfl)) ?_)
  | (refine run_need rfl (by first | decide | omega | (simp only [List.length_map]; omega)) ?_)
  | (refine run_next rfl (Exists.intro (k + 1) ⟨by omega, ⟨by omega, by omega⟩, i64_eq (wrap64 _ (by omega)), rfl, rfl, rfl, rfl, trivial⟩); done)
  | (refine run_next rfl (Exists.intro (i + 1) ⟨by omega, ⟨by omega, by omega⟩, i64_eq (wrap64 _ (by omega)), rfl, rfl, rfl, trivial⟩); done)
  | (refine run_need rfl ?_ ?_)
  | (refine run_ret rfl ?_ ; first | refine rb ?_ | refine ri ?_ | refine rs2 ?_ ?_ | refine rs1 ?_)
  | (refine run_retx rfl ?_))
  exact absurd ⟨by assumption, h⟩ (hap i k h0 hi k0 (by omega))
 ·(repeat' first
  | (refine run_ite rfl (fun h => ?_) (fun h => ?_) <;> (try simp (disch := omega) only [zA, z13, z19, z20, z21, z22, z23, z24, z25, z31, eqDs, eqD, Nat.reduceAdd, wrap64] at h) <;> (try (exfalso; omega)))
  | (refine run_need rfl (by (try simp (disch := omega) only [zA, z13, z19, z20, z21, z22, z23, z24, z25, z31, eqDs, eqD, Nat.reduceAdd, wrap64]); first | exact elp_m (by omega) (by first | omega | (simp only [List.length_set]; omega)) (fun _ => rfl) | exact eld_m (by omega) (by first | omega | (simp only [List.length_set]; omega)) (fun _ => rfl) | exact els_m (by omega) (by omega) (by omega) rfl | exact lsl_m (by omega) (fun _ => rfl) | exact app_nil_m (by omega) (fun _ => rfl) (fun _ => rfl) | exact app_m_one (by omega) (fun _ => rfl) rfl rfl | exact app_m_m (by omega) (fun _ => rfl) (fun _ => rfl)) ?_)
  | (refine run_need rfl (by first | decide | omega | (simp only [List.length_map]; omega)) ?_)
  | (refine run_need rfl ?_ ?_)
  | (refine run_ret rfl ?_ ; first | refine rb ?_ | refine ri ?_ | refine rs2 ?_ ?_ | refine rs1 ?_)
  | (refine run_retx rfl ?_))
  rw [List.length_map, List.length_map, List.length_map, wrap64 _ (by omega), beq_iff_eq]
  omega
end V
end Go.Proofs.YtnaldhcdcpdbnaaDoor

