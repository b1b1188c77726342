/-
Proved: for every input each of the laws FnStepsNone, FnInstTwo and FnCutMend (what is in already is put in by nothing but the journal; what is put in last is in; wherever it falls, all or nothing is in) returns true, and the arguments read afterwards as before. Conditions: none.
-/
import Derived.Test.YtgialjcichiaoaaM5
import Derived.Test.YtgialjcichiaoaaRows
set_option linter.all false
/-
Plain proofs: three laws on putting in.
-/
namespace Go.Proofs.Ytgialjcichiaoaa
namespace V
open Classical
set_option maxRecDepth 100000
variable {W : Wld}

theorem steps_len0 {d : Dk} {ps : List Pk} (h : (instM d ps).length ≠ 0) : TrueM d ∧ PlanM ps := by
  unfold instM at h
  by_cases hc : TrueM d ∧ PlanM ps
  · exact hc
  · rw [if_neg hc] at h; exact absurd rfl h
theorem diffM_same (a : List Int) : ∀ n, diffM a a n = []
  | 0 => rfl
  | n + 1 => by unfold diffM; rw [if_pos rfl, diffM_same a n]
theorem steps_three {d : Dk} (h : TrueM d) : (instM d d.db).length = 3 := by
  rw [instM_yes h h.1.2.2.1]
  unfold stepsM restM
  rw [← h.2.2, diffM_same]
  rfl
theorem filesM_nil : filesM [] = List.replicate 6 (-1) := rfl

theorem stepsNone_ok (b : List Int) (hb : ∀ x ∈ b, 0 ≤ x ∧ x ≤ 255) : FunOk PP W n_l_FnStepsNone s_l_FnStepsNone [eBs b] [bo true] := by
  refine F_l_FnStepsNone (run_fun ?_)
  (repeat' first
    | (refine run_ite rfl (fun h => ?_) (fun h => ?_) <;> (try simp (disch := omega) only [z0, z1, z2, z3, z4, z5, z6, z7, z8, z9, z10, z11, z12, z13, z14, z15, z16, z17, z18, z19, z20, z21, z22, z23, z24, z25, eqDs, eqD, z28, z29, z30, z31, z32, z33, z34, z35, z36, z37, Nat.reduceAdd, z39, z40, z41, wrap64] at h) <;> (try (exfalso; omega)))
    | (refine run_need rfl (by (try simp (disch := omega) only [z0, z1, z2, z3, z4, z5, z6, z7, z8, z9, z10, z11, z12, z13, z14, z15, z16, z17, z18, z19, z20, z21, z22, z23, z24, z25, eqDs, eqD, z28, z29, z30, z31, z32, z33, z34, z35, z36, z37, Nat.reduceAdd, z39, z40, z41, wrap64]); first | exact elp_m (by omega) (by omega) (fun _ => rfl) | exact eld_m (by omega) (by omega) (fun _ => rfl) | exact els_m (by omega) (by omega) (by omega) rfl | exact lsl_m (by omega) (fun _ => rfl) | exact app_nil_m (by omega) (fun _ => rfl) (fun _ => rfl) | exact app_m_one (by omega) (fun _ => rfl) rfl rfl | exact app_m_m (by omega) (fun _ => rfl) (fun _ => rfl)) ?_)
    | (refine run_need rfl (by first | decide | omega | (simp only [List.length_map]; omega)) ?_)
    | (refine run_need rfl ?_ ?_)
    | (refine run_ret rfl ?_ ; first | refine rb ?_ | refine ri ?_ | refine rs2 ?_ ?_ | refine rs1 ?_)
    | (refine run_retx rfl ?_))
  · rfl
  have hc : Code b := ⟨by omega, hb⟩
  refine run_callx rfl (drawSteps_ex b hc) rfl (fun outs hG => ?_)
  obtain ⟨d, ps, rfl, hs, hp⟩ := hG
  refine ⟨[eDk d, ePks ps], [], rfl, rfl, rfl, ?_⟩
  (repeat' first
    | (refine run_ite rfl (fun h => ?_) (fun h => ?_) <;> (try simp (disch := omega) only [z0, z1, z2, z3, z4, z5, z6, z7, z8, z9, z10, z11, z12, z13, z14, z15, z16, z17, z18, z19, z20, z21, z22, z23, z24, z25, eqDs, eqD, z28, z29, z30, z31, z32, z33, z34, z35, z36, z37, Nat.reduceAdd, z39, z40, z41, wrap64] at h) <;> (try (exfalso; omega)))
    | (refine run_need rfl (by (try simp (disch := omega) only [z0, z1, z2, z3, z4, z5, z6, z7, z8, z9, z10, z11, z12, z13, z14, z15, z16, z17, z18, z19, z20, z21, z22, z23, z24, z25, eqDs, eqD, z28, z29, z30, z31, z32, z33, z34, z35, z36, z37, Nat.reduceAdd, z39, z40, z41, wrap64]); first | exact elp_m (by omega) (by omega) (fun _ => rfl) | exact eld_m (by omega) (by omega) (fun _ => rfl) | exact els_m (by omega) (by omega) (by omega) rfl | exact lsl_m (by omega) (fun _ => rfl) | exact app_nil_m (by omega) (fun _ => rfl) (fun _ => rfl) | exact app_m_one (by omega) (fun _ => rfl) rfl rfl | exact app_m_m (by omega) (fun _ => rfl) (fun _ => rfl)) ?_)
    | (refine run_need rfl (by first | decide | omega | (simp only [List.length_map]; omega)) ?_)
    | (refine run_call1 rfl (iInstSteps_ok d ps hs hp) rfl ?_)
    | (refine run_call1 rfl (sInstSteps_ok d ps hs hp) rfl ?_)
    | (refine run_need rfl ?_ ?_)
    | (refine run_ret rfl ?_ ; first | refine rb ?_ | refine ri ?_ | refine rs2 ?_ ?_ | refine rs1 ?_)
    | (refine run_retx rfl ?_))
  · simp
  · simp
  obtain ⟨hT, hP⟩ := steps_len0 (d := d) (ps := ps) (by omega)
  have h3 := steps_three hT
  have hs0 : SmPs ([] : List Pk) := smPs_nil'
  have ha := iInstSteps_ok (W := W) d d.db hs hs.1
  have hb0 := iInstSteps_ok (W := W) d [] hs hs0
  rw [instM_yes hT planM_nil] at hb0
  have hto := instAll_ok (W := W) d [] hs hs0 hT planM_nil
  have hdk : rightM [] = dk0 := rfl
  rw [hdk] at hto
  have hd0 : SmD dk0 := ⟨smPs_nil', by decide, smPs_nil'⟩
  (repeat' first
    | (refine run_ite rfl (fun h => ?_) (fun h => ?_) <;> (try simp (disch := omega) only [z0, z1, z2, z3, z4, z5, z6, z7, z8, z9, z10, z11, z12, z13, z14, z15, z16, z17, z18, z19, z20, z21, z22, z23, z24, z25, eqDs, eqD, z28, z29, z30, z31, z32, z33, z34, z35, z36, z37, Nat.reduceAdd, z39, z40, z41, wrap64] at h) <;> (try (exfalso; omega)))
    | (refine run_need rfl (by (try simp (disch := omega) only [z0, z1, z2, z3, z4, z5, z6, z7, z8, z9, z10, z11, z12, z13, z14, z15, z16, z17, z18, z19, z20, z21, z22, z23, z24, z25, eqDs, eqD, z28, z29, z30, z31, z32, z33, z34, z35, z36, z37, Nat.reduceAdd, z39, z40, z41, wrap64]); first | exact elp_m (by omega) (by omega) (fun _ => rfl) | exact eld_m (by omega) (by omega) (fun _ => rfl) | exact els_m (by omega) (by omega) (by omega) rfl | exact lsl_m (by omega) (fun _ => rfl) | exact app_nil_m (by omega) (fun _ => rfl) (fun _ => rfl) | exact app_m_one (by omega) (fun _ => rfl) rfl rfl | exact app_m_m (by omega) (fun _ => rfl) (fun _ => rfl)) ?_)
    | (refine run_need rfl (by first | decide | omega | (simp only [List.length_map]; omega)) ?_)
    | (refine run_call1 rfl (ha) rfl ?_)
    | (refine run_call1 rfl (hb0) rfl ?_)
    | (refine run_callr rfl hto rfl rfl ?_)
    | (refine run_call1 rfl (iDiskNew_ok) rfl ?_)
    | (refine run_call1 rfl (luDisk_ok dk0 dk0 hd0) rfl ?_)
    | (refine run_need rfl ?_ ?_)
    | (refine run_ret rfl ?_ ; first | refine rb ?_ | refine ri ?_ | refine rs2 ?_ ?_ | refine rs1 ?_)
    | (refine run_retx rfl ?_))
  all_goals first
    | exact absurd trivial (by assumption)
    | exact decide_eq_true rfl
    | (exfalso; simp_all; done)

theorem instAll' (d : Dk) (ps : List Pk) (hs : SmD d) (hp : SmPs ps) (h : TrueM d) (hP : PlanM ps) : FunOk PP W n_i_InstTo s_i_InstTo [eDk d, eSts (instM d ps), i64 ((instM d ps).map eSt).length, bo false] [eDk (rightM ps), bo true] := by
  rw [instM_yes h hP]
  exact instAll_ok d ps hs hp h hP
theorem instTwo_ok (b c : List Int) (hb : ∀ x ∈ b, 0 ≤ x ∧ x ≤ 255) (hc : ∀ x ∈ c, 0 ≤ x ∧ x ≤ 255) : FunOk PP W n_l_FnInstTwo s_l_FnInstTwo [eBs b, eBs c] [bo true] := by
  refine F_l_FnInstTwo (run_fun ?_)
  (repeat' first
    | (refine run_ite rfl (fun h => ?_) (fun h => ?_) <;> (try simp (disch := omega) only [z0, z1, z2, z3, z4, z5, z6, z7, z8, z9, z10, z11, z12, z13, z14, z15, z16, z17, z18, z19, z20, z21, z22, z23, z24, z25, eqDs, eqD, z28, z29, z30, z31, z32, z33, z34, z35, z36, z37, Nat.reduceAdd, z39, z40, z41, wrap64] at h) <;> (try (exfalso; omega)))
    | (refine run_need rfl (by (try simp (disch := omega) only [z0, z1, z2, z3, z4, z5, z6, z7, z8, z9, z10, z11, z12, z13, z14, z15, z16, z17, z18, z19, z20, z21, z22, z23, z24, z25, eqDs, eqD, z28, z29, z30, z31, z32, z33, z34, z35, z36, z37, Nat.reduceAdd, z39, z40, z41, wrap64]); first | exact elp_m (by omega) (by omega) (fun _ => rfl) | exact eld_m (by omega) (by omega) (fun _ => rfl) | exact els_m (by omega) (by omega) (by omega) rfl | exact lsl_m (by omega) (fun _ => rfl) | exact app_nil_m (by omega) (fun _ => rfl) (fun _ => rfl) | exact app_m_one (by omega) (fun _ => rfl) rfl rfl | exact app_m_m (by omega) (fun _ => rfl) (fun _ => rfl)) ?_)
    | (refine run_need rfl (by first | decide | omega | (simp only [List.length_map]; omega)) ?_)
    | (refine run_need rfl ?_ ?_)
    | (refine run_ret rfl ?_ ; first | refine rb ?_ | refine ri ?_ | refine rs2 ?_ ?_ | refine rs1 ?_)
    | (refine run_retx rfl ?_))
  · rfl
  · rfl
  have hcb : Code b := ⟨by omega, hb⟩
  have hcc : Code c := ⟨by omega, hc⟩
  refine run_callx rfl (drawSteps_ex b hcb) rfl (fun outs hG => ?_)
  obtain ⟨d, ps, rfl, hs, hp⟩ := hG
  refine ⟨[eDk d, ePks ps], [], rfl, rfl, rfl, ?_⟩
  (repeat' first
    | (refine run_ite rfl (fun h => ?_) (fun h => ?_) <;> (try simp (disch := omega) only [z0, z1, z2, z3, z4, z5, z6, z7, z8, z9, z10, z11, z12, z13, z14, z15, z16, z17, z18, z19, z20, z21, z22, z23, z24, z25, eqDs, eqD, z28, z29, z30, z31, z32, z33, z34, z35, z36, z37, Nat.reduceAdd, z39, z40, z41, wrap64] at h) <;> (try (exfalso; omega)))
    | (refine run_need rfl (by (try simp (disch := omega) only [z0, z1, z2, z3, z4, z5, z6, z7, z8, z9, z10, z11, z12, z13, z14, z15, z16, z17, z18, z19, z20, z21, z22, z23, z24, z25, eqDs, eqD, z28, z29, z30, z31, z32, z33, z34, z35, z36, z37, Nat.reduceAdd, z39, z40, z41, wrap64]); first | exact elp_m (by omega) (by omega) (fun _ => rfl) | exact eld_m (by omega) (by omega) (fun _ => rfl) | exact els_m (by omega) (by omega) (by omega) rfl | exact lsl_m (by omega) (fun _ => rfl) | exact app_nil_m (by omega) (fun _ => rfl) (fun _ => rfl) | exact app_m_one (by omega) (fun _ => rfl) rfl rfl | exact app_m_m (by omega) (fun _ => rfl) (fun _ => rfl)) ?_)
    | (refine run_need rfl (by first | decide | omega | (simp only [List.length_map]; omega)) ?_)
    | (refine run_need rfl ?_ ?_)
    | (refine run_ret rfl ?_ ; first | refine rb ?_ | refine ri ?_ | refine rs2 ?_ ?_ | refine rs1 ?_)
    | (refine run_retx rfl ?_))
  refine run_callx rfl (drawSteps_ex c hcc) rfl (fun outs hG => ?_)
  obtain ⟨d2, qs, rfl, hs2, hp2⟩ := hG
  refine ⟨[eDk d2, ePks qs], [], rfl, rfl, rfl, ?_⟩
  (repeat' first
    | (refine run_ite rfl (fun h => ?_) (fun h => ?_) <;> (try simp (disch := omega) only [z0, z1, z2, z3, z4, z5, z6, z7, z8, z9, z10, z11, z12, z13, z14, z15, z16, z17, z18, z19, z20, z21, z22, z23, z24, z25, eqDs, eqD, z28, z29, z30, z31, z32, z33, z34, z35, z36, z37, Nat.reduceAdd, z39, z40, z41, wrap64] at h) <;> (try (exfalso; omega)))
    | (refine run_need rfl (by (try simp (disch := omega) only [z0, z1, z2, z3, z4, z5, z6, z7, z8, z9, z10, z11, z12, z13, z14, z15, z16, z17, z18, z19, z20, z21, z22, z23, z24, z25, eqDs, eqD, z28, z29, z30, z31, z32, z33, z34, z35, z36, z37, Nat.reduceAdd, z39, z40, z41, wrap64]); first | exact elp_m (by omega) (by omega) (fun _ => rfl) | exact eld_m (by omega) (by omega) (fun _ => rfl) | exact els_m (by omega) (by omega) (by omega) rfl | exact lsl_m (by omega) (fun _ => rfl) | exact app_nil_m (by omega) (fun _ => rfl) (fun _ => rfl) | exact app_m_one (by omega) (fun _ => rfl) rfl rfl | exact app_m_m (by omega) (fun _ => rfl) (fun _ => rfl)) ?_)
    | (refine run_need rfl (by first | decide | omega | (simp only [List.length_map]; omega)) ?_)
    | (refine run_call1 rfl (iInstSteps_ok d ps hs hp) rfl ?_)
    | (refine run_call1 rfl (sInstSteps_ok d ps hs hp) rfl ?_)
    | (refine run_call1 rfl (sPlanOk_ok qs hp2) rfl ?_)
    | (refine run_need rfl ?_ ?_)
    | (refine run_ret rfl ?_ ; first | refine rb ?_ | refine ri ?_ | refine rs2 ?_ ?_ | refine rs1 ?_)
    | (refine run_retx rfl ?_))
  any_goals (simp; done)
  obtain ⟨hT, hP⟩ := steps_len0 (d := d) (ps := ps) (by omega)
  have hQ : PlanM qs := h
  have hx := right_true hP
  have hxs := right_sm hp
  have hqs := right_sm hp2
  have f1 := instAll' (W := W) d ps hs hp hT hP
  have f2 := iInstSteps_ok (W := W) (rightM ps) qs hxs hp2
  have f3 := instAll' (W := W) (rightM ps) qs hxs hp2 hx hQ
  have f4 := iInstSteps_ok (W := W) d qs hs hp2
  have f5 := instAll' (W := W) d qs hs hp2 hT hQ
  have f6 := iInstSteps_ok (W := W) (rightM ps) d.db hxs hs.1
  have f7 := instAll' (W := W) (rightM ps) d.db hxs hs.1 hx hT.1.2.2.1
  rw [true_right hT] at f7
  (repeat' first
    | (refine run_ite rfl (fun h => ?_) (fun h => ?_) <;> (try simp (disch := omega) only [z0, z1, z2, z3, z4, z5, z6, z7, z8, z9, z10, z11, z12, z13, z14, z15, z16, z17, z18, z19, z20, z21, z22, z23, z24, z25, eqDs, eqD, z28, z29, z30, z31, z32, z33, z34, z35, z36, z37, Nat.reduceAdd, z39, z40, z41, wrap64] at h) <;> (try (exfalso; omega)))
    | (refine run_need rfl (by (try simp (disch := omega) only [z0, z1, z2, z3, z4, z5, z6, z7, z8, z9, z10, z11, z12, z13, z14, z15, z16, z17, z18, z19, z20, z21, z22, z23, z24, z25, eqDs, eqD, z28, z29, z30, z31, z32, z33, z34, z35, z36, z37, Nat.reduceAdd, z39, z40, z41, wrap64]); first | exact elp_m (by omega) (by omega) (fun _ => rfl) | exact eld_m (by omega) (by omega) (fun _ => rfl) | exact els_m (by omega) (by omega) (by omega) rfl | exact lsl_m (by omega) (fun _ => rfl) | exact app_nil_m (by omega) (fun _ => rfl) (fun _ => rfl) | exact app_m_one (by omega) (fun _ => rfl) rfl rfl | exact app_m_m (by omega) (fun _ => rfl) (fun _ => rfl)) ?_)
    | (refine run_need rfl (by first | decide | omega | (simp only [List.length_map]; omega)) ?_)
    | (refine run_callr rfl f1 rfl rfl ?_)
    | (refine run_call1 rfl (f2) rfl ?_)
    | (refine run_callr rfl f3 rfl rfl ?_)
    | (refine run_call1 rfl (f4) rfl ?_)
    | (refine run_callr rfl f5 rfl rfl ?_)
    | (refine run_call1 rfl (f6) rfl ?_)
    | (refine run_callr rfl f7 rfl rfl ?_)
    | (refine run_call1 rfl (luDisk_ok (rightM qs) (rightM qs) hqs) rfl ?_)
    | (refine run_call1 rfl (luDisk_ok d d hs) rfl ?_)
    | (refine run_need rfl ?_ ?_)
    | (refine run_ret rfl ?_ ; first | refine rb ?_ | refine ri ?_ | refine rs2 ?_ ?_ | refine rs1 ?_)
    | (refine run_retx rfl ?_))
  all_goals first
    | exact absurd trivial (by assumption)
    | exact decide_eq_true rfl
    | (exfalso; simp_all; done)

/-- A disk whose journal tells of packages. -/
def Mid (ps : List Pk) (x : Dk) : Prop := x.has = true ∧ x.jour = ps ∧ PlanM x.db ∧ x.files.length = 6 ∧ ∀ v ∈ x.files, -2 ≤ v ∧ v ≤ 9
theorem mid_dk {ps : List Pk} {x : Dk} (hP : PlanM ps) (h : Mid ps x) : DkOk x := by
  obtain ⟨h1, h2, h3, h4, h5⟩ := h
  exact ⟨fun i i0 i1 => h5 _ (ix_mem i0 i1), h4, h3, by rw [h2]; exact hP, .inl h1⟩
theorem mid_mend {ps : List Pk} {x : Dk} (hP : PlanM ps) (h : Mid ps x) : mendM x = rightM ps := by
  rw [mendM_has (mid_dk hP h) h.1, h.2.1]
  rfl
theorem mid_set {l : List Int} {k : Nat} {v : Int} (h : ∀ v ∈ l, -2 ≤ v ∧ v ≤ 9) (hv : -2 ≤ v ∧ v ≤ 9) : ∀ u ∈ l.set k v, -2 ≤ u ∧ u ≤ 9 := fun u hu => by
  rcases List.mem_or_eq_of_mem_set hu with h' | h'
  · exact h u h'
  · rw [h']; exact hv
theorem mid_do {ps : List Pk} {x : Dk} {s : Stp} (hP : PlanM ps) (h : Mid ps x) (hs : (s.kind = 2 ∧ -1 ≤ s.data ∧ s.data ≤ 9) ∨ (s.kind = 3 ∧ s.pkgs = ps)) : Mid ps (doM x s) := by
  obtain ⟨h1, h2, h3, h4, h5⟩ := h
  unfold doM
  rcases hs with ⟨hk, hd0, hd1⟩ | ⟨hk, hp⟩
  · rw [if_neg (by omega), if_pos hk]
    exact ⟨h1, h2, h3, by rw [List.length_set]; exact h4, mid_set h5 (by omega)⟩
  · rw [if_neg (by omega), if_neg (by omega), if_pos hk]
    exact ⟨h1, h2, by rw [hp]; exact hP, h4, h5⟩
theorem mid_tear {ps : List Pk} {x : Dk} {s : Stp} (h : Mid ps x) : Mid ps (tearM x s) := by
  obtain ⟨h1, h2, h3, h4, h5⟩ := h
  unfold tearM
  split
  · exact ⟨h1, h2, h3, by rw [List.length_set]; exact h4, mid_set h5 (by decide)⟩
  split
  · exact ⟨h1, h2, planM_nil, h4, h5⟩
  · exact ⟨h1, h2, h3, h4, h5⟩
theorem mid_all {ps : List Pk} (hP : PlanM ps) : ∀ (l : List Stp) {x : Dk}, Mid ps x → (∀ s ∈ l, (s.kind = 2 ∧ -1 ≤ s.data ∧ s.data ≤ 9) ∨ (s.kind = 3 ∧ s.pkgs = ps)) → Mid ps (doAll x l)
  | [], x, h, _ => h
  | s :: l, x, h, hl => mid_all hP l (mid_do hP h (hl s (List.mem_cons_self ..))) (fun t ht => hl t (List.mem_cons_of_mem _ ht))
theorem cut_ok {d : Dk} {ps : List Pk} (hT : TrueM d) (hP : PlanM ps) (c : Int) (torn : Bool) (h0 : 0 ≤ c) (h1 : c ≤ (stepsM d ps).length) :
    DkOk (toM d (stepsM d ps) c torn) ∧ mendM (toM d (stepsM d ps) c torn) = if c = 0 then d else rightM ps := by
  by_cases hz : c = 0
  · subst hz
    rw [if_pos rfl]
    have : toM d (stepsM d ps) 0 torn = d := by
      unfold toM
      split <;> rfl
    rw [this]
    exact ⟨hT.1, mendM_not hT.2.1⟩
  · rw [if_neg hz]
    by_cases hl : c = (stepsM d ps).length
    · have : toM d (stepsM d ps) c torn = rightM ps := by
        unfold toM
        rw [if_neg (fun h' => by omega), hl, Int.toNat_natCast, List.take_length]
        exact doAll_steps d ps hT.1.2.1
      rw [this]
      exact ⟨(right_true hP).1, mendM_not rfl⟩
    · have hd : ∀ s ∈ diffM (filesM ps) d.files 6 ++ [⟨3, 0, 0, ps⟩], (s.kind = 2 ∧ -1 ≤ s.data ∧ s.data ≤ 9) ∨ (s.kind = 3 ∧ s.pkgs = ps) := by
        intro s hs
        rcases List.mem_append.1 hs with h' | h'
        · have h2 := diffM_in _ _ _ _ h'
          have h3 := diffM_data _ _ _ _ h'
          have h4 := filesM_bd hP.1 _ (ix_mem h2.1 (by rw [filesM_len]; exact h2.2.1))
          rw [← h3] at h4
          exact .inl ⟨h2.2.2.1, h4⟩
        · rw [List.mem_singleton.1 h']
          exact .inr ⟨rfl, rfl⟩
      have hst : stepsM d ps = ⟨1, 0, 0, ps⟩ :: ((diffM (filesM ps) d.files 6 ++ [⟨3, 0, 0, ps⟩]) ++ [⟨4, 0, 0, []⟩]) := by
        unfold stepsM restM
        simp
      have hlen : (stepsM d ps).length = (diffM (filesM ps) d.files 6 ++ [(⟨3, 0, 0, ps⟩ : Stp)]).length + 2 := by rw [hst]; simp
      have htk : (stepsM d ps).take c.toNat = (⟨1, 0, 0, ps⟩ : Stp) :: (diffM (filesM ps) d.files 6 ++ [(⟨3, 0, 0, ps⟩ : Stp)]).take (c.toNat - 1) := by
        have hc1 : c.toNat = (c.toNat - 1) + 1 := by omega
        rw [hst]
        conv => lhs; rw [hc1]
        rw [List.take_succ_cons, List.take_append_of_le_length (by omega)]
      have hm0 : Mid ps (doM d ⟨1, 0, 0, ps⟩) := ⟨rfl, rfl, hT.1.2.2.1, hT.1.2.1, fun v hv => by
        obtain ⟨k, k0, k1, rfl⟩ := mem_ix hv
        exact hT.1.1 k k0 k1⟩
      have hm : Mid ps (doAll d ((stepsM d ps).take c.toNat)) := by
        rw [htk]
        exact mid_all (x := doM d ⟨1, 0, 0, ps⟩) hP ((diffM (filesM ps) d.files 6 ++ [(⟨3, 0, 0, ps⟩ : Stp)]).take (c.toNat - 1)) hm0 (fun s hs => hd s (List.mem_of_mem_take hs))
      have hx : Mid ps (toM d (stepsM d ps) c torn) := by
        unfold toM
        split
        · exact mid_tear hm
        · exact hm
      exact ⟨mid_dk hP hx, mid_mend hP hx⟩

theorem steps_bd (d : Dk) (ps : List Pk) : (instM d ps).length ≤ 9 := by
  unfold instM
  split
  · exact stepsM_len d ps
  · simp
theorem cutMend_ok (b c : List Int) (hb : ∀ x ∈ b, 0 ≤ x ∧ x ≤ 255) (hc : ∀ x ∈ c, 0 ≤ x ∧ x ≤ 255) : FunOk PP W n_l_FnCutMend s_l_FnCutMend [eBs b, eBs c] [bo true] := by
  refine F_l_FnCutMend (run_fun ?_)
  (repeat' first
    | (refine run_ite rfl (fun h => ?_) (fun h => ?_) <;> (try simp (disch := omega) only [z0, z1, z2, z3, z4, z5, z6, z7, z8, z9, z10, z11, z12, z13, z14, z15, z16, z17, z18, z19, z20, z21, z22, z23, z24, z25, eqDs, eqD, z28, z29, z30, z31, z32, z33, z34, z35, z36, z37, Nat.reduceAdd, z39, z40, z41, wrap64] at h) <;> (try (exfalso; omega)))
    | (refine run_need rfl (by (try simp (disch := omega) only [z0, z1, z2, z3, z4, z5, z6, z7, z8, z9, z10, z11, z12, z13, z14, z15, z16, z17, z18, z19, z20, z21, z22, z23, z24, z25, eqDs, eqD, z28, z29, z30, z31, z32, z33, z34, z35, z36, z37, Nat.reduceAdd, z39, z40, z41, wrap64]); first | exact elp_m (by omega) (by omega) (fun _ => rfl) | exact eld_m (by omega) (by omega) (fun _ => rfl) | exact els_m (by omega) (by omega) (by omega) rfl | exact lsl_m (by omega) (fun _ => rfl) | exact app_nil_m (by omega) (fun _ => rfl) (fun _ => rfl) | exact app_m_one (by omega) (fun _ => rfl) rfl rfl | exact app_m_m (by omega) (fun _ => rfl) (fun _ => rfl)) ?_)
    | (refine run_need rfl (by first | decide | omega | (simp only [List.length_map]; omega)) ?_)
    | (refine run_need rfl ?_ ?_)
    | (refine run_ret rfl ?_ ; first | refine rb ?_ | refine ri ?_ | refine rs2 ?_ ?_ | refine rs1 ?_)
    | (refine run_retx rfl ?_))
  · rfl
  · rfl
  have hcb : Code b := ⟨by omega, hb⟩
  have hcl : (c.length : Int) ≤ 1048576 := by omega
  refine run_callx rfl (drawSteps_ex b hcb) rfl (fun outs hG => ?_)
  obtain ⟨d, ps, rfl, hs, hp⟩ := hG
  refine ⟨[eDk d, ePks ps], [], rfl, rfl, rfl, ?_⟩
  (repeat' first
    | (refine run_ite rfl (fun h => ?_) (fun h => ?_) <;> (try simp (disch := omega) only [z0, z1, z2, z3, z4, z5, z6, z7, z8, z9, z10, z11, z12, z13, z14, z15, z16, z17, z18, z19, z20, z21, z22, z23, z24, z25, eqDs, eqD, z28, z29, z30, z31, z32, z33, z34, z35, z36, z37, Nat.reduceAdd, z39, z40, z41, wrap64] at h) <;> (try (exfalso; omega)))
    | (refine run_need rfl (by (try simp (disch := omega) only [z0, z1, z2, z3, z4, z5, z6, z7, z8, z9, z10, z11, z12, z13, z14, z15, z16, z17, z18, z19, z20, z21, z22, z23, z24, z25, eqDs, eqD, z28, z29, z30, z31, z32, z33, z34, z35, z36, z37, Nat.reduceAdd, z39, z40, z41, wrap64]); first | exact elp_m (by omega) (by omega) (fun _ => rfl) | exact eld_m (by omega) (by omega) (fun _ => rfl) | exact els_m (by omega) (by omega) (by omega) rfl | exact lsl_m (by omega) (fun _ => rfl) | exact app_nil_m (by omega) (fun _ => rfl) (fun _ => rfl) | exact app_m_one (by omega) (fun _ => rfl) rfl rfl | exact app_m_m (by omega) (fun _ => rfl) (fun _ => rfl)) ?_)
    | (refine run_need rfl (by first | decide | omega | (simp only [List.length_map]; omega)) ?_)
    | (refine run_call1 rfl (iInstSteps_ok d ps hs hp) rfl ?_)
    | (refine run_call1 rfl (sInstSteps_ok d ps hs hp) rfl ?_)
    | (refine run_need rfl ?_ ?_)
    | (refine run_ret rfl ?_ ; first | refine rb ?_ | refine ri ?_ | refine rs2 ?_ ?_ | refine rs1 ?_)
    | (refine run_retx rfl ?_))
  · simp
  · simp
  · rw [wrap64 _ (by simp only [List.length_map]; have := steps_bd d ps; omega)]
    omega
  obtain ⟨hT, hP⟩ := steps_len0 (d := d) (ps := ps) (by omega)
  have hbd := steps_bd d ps
  have hK : (((c.map eU).length : Int).tmod (IntKind.i64.wrap (((instM d ps).map eSt).length + 1))) = (c.length : Int).tmod ((instM d ps).length + 1) := by
    simp only [List.length_map]
    rw [wrap64 _ (by omega)]
  have hK0 : 0 ≤ (c.length : Int).tmod ((instM d ps).length + 1) := Int.tmod_nonneg _ (by omega)
  have hK1 : (c.length : Int).tmod ((instM d ps).length + 1) < (instM d ps).length + 1 := Int.tmod_lt_of_pos _ (by omega)
  have hcut := fun torn => cut_ok (d := d) (ps := ps) hT hP ((c.length : Int).tmod ((instM d ps).length + 1)) torn hK0 (by rw [← instM_yes hT hP]; omega)
  have f0 : ∀ (K : Int) (torn : Bool), 0 ≤ K → FunOk PP W n_i_InstTo s_i_InstTo [eDk d, eSts (instM d ps), i64 K, bo torn] [eDk (toM d (stepsM d ps) K torn), bo true] := fun K torn hK0 => by
    have hok := toOk_steps hT hP hK0
    have := iInstTo_ok (W := W) d (stepsM d ps) K torn hs (steps_sm d hp)
    rw [if_pos hok, decide_eq_true hok] at this
    rw [instM_yes hT hP]
    exact this
  have f1 : ∀ torn, FunOk PP W n_i_InstTo s_i_InstTo [eDk d, eSts (instM d ps), i64 (((c.map eU).length : Int).tmod (IntKind.i64.wrap (((instM d ps).map eSt).length + 1))), bo torn] [eDk (toM d (stepsM d ps) ((c.length : Int).tmod ((instM d ps).length + 1)) torn), bo true] := fun torn => by
    rw [hK]
    exact f0 _ torn hK0
  clear f0
  have hxs : ∀ torn, SmD (toM d (stepsM d ps) ((c.length : Int).tmod ((instM d ps).length + 1)) torn) := fun torn => smD_to hs (fun s h => (steps_sm d hp).2 s h) _ _
  generalize hKe : (c.length : Int).tmod ((instM d ps).length + 1) = K at *
  have f2 : ∀ torn, FunOk PP W n_i_InstMend s_i_InstMend [eDk (toM d (stepsM d ps) K torn)] [eDk (if K = 0 then d else rightM ps), bo true] := fun torn => by
    have := iInstMend_ok (W := W) (toM d (stepsM d ps) K torn) (hxs torn)
    rw [if_pos (hcut torn).1, decide_eq_true (hcut torn).1, (hcut torn).2] at this
    exact this
  have hyT : TrueM (if K = 0 then d else rightM ps) := by
    split
    · exact hT
    · exact right_true hP
  have hyS : SmD (if K = 0 then d else rightM ps) := by
    split
    · exact hs
    · exact right_sm hp
  have hy0 : K = 0 → (if K = 0 then d else rightM ps) = d := fun h => if_pos h
  have hy1 : ¬ K = 0 → (if K = 0 then d else rightM ps).db = ps := fun h => by rw [if_neg h]; rfl
  generalize (if K = 0 then d else rightM ps) = y at *
  (repeat' first
    | (refine run_ite rfl (fun h => ?_) (fun h => ?_) <;> (try simp (disch := omega) only [z0, z1, z2, z3, z4, z5, z6, z7, z8, z9, z10, z11, z12, z13, z14, z15, z16, z17, z18, z19, z20, z21, z22, z23, z24, z25, eqDs, eqD, z28, z29, z30, z31, z32, z33, z34, z35, z36, z37, Nat.reduceAdd, z39, z40, z41, wrap64] at h) <;> (try (exfalso; omega)))
    | (refine run_need rfl (by (try simp (disch := omega) only [z0, z1, z2, z3, z4, z5, z6, z7, z8, z9, z10, z11, z12, z13, z14, z15, z16, z17, z18, z19, z20, z21, z22, z23, z24, z25, eqDs, eqD, z28, z29, z30, z31, z32, z33, z34, z35, z36, z37, Nat.reduceAdd, z39, z40, z41, wrap64]); first | exact elp_m (by omega) (by omega) (fun _ => rfl) | exact eld_m (by omega) (by omega) (fun _ => rfl) | exact els_m (by omega) (by omega) (by omega) rfl | exact lsl_m (by omega) (fun _ => rfl) | exact app_nil_m (by omega) (fun _ => rfl) (fun _ => rfl) | exact app_m_one (by omega) (fun _ => rfl) rfl rfl | exact app_m_m (by omega) (fun _ => rfl) (fun _ => rfl)) ?_)
    | (refine run_need rfl (by first | decide | omega | (simp only [List.length_map]; omega)) ?_)
    | (refine run_callr rfl (f1 _) rfl rfl ?_)
    | (refine run_callr rfl (f2 _) rfl rfl ?_)
    | (refine run_call1 rfl (iDiskTrue_ok y hyS) rfl ?_)
    | (refine run_call1 rfl (luDisk_ok y d hyS) rfl ?_)
    | (refine run_call1 rfl (luPkgs_ok y.db ps hyS.1) rfl ?_)
    | (refine run_need rfl ?_ ?_)
    | (refine run_ret rfl ?_ ; first | refine rb ?_ | refine ri ?_ | refine rs2 ?_ ?_ | refine rs1 ?_)
    | (refine run_retx rfl ?_))
  all_goals first
    | exact absurd trivial (by assumption)
    | exact absurd hyT h
    | exact decide_eq_true (hy0 (by rw [← hKe]; exact h))
    | exact decide_eq_true (hy1 (by rw [← hKe]; exact h))
end V
end Go.Proofs.Ytgialjcichiaoaa

/-
The given statements of three laws on putting in.
-/
namespace Go.Proofs.Ytgialjcichiaoaa
namespace V
set_option maxRecDepth 100000
open Go.ChangeShapes Go.WideShapes Go.ChangeAt Go.RowKit

theorem fnStepsNone_lifted (os : Os) (started : os.Started) (H : Type) (enc : TypeId × Value → H) :
    ReturnsInHanded {} Try.checked os 6 .any (Rows.fnStepsNoneSpec.pre6 enc Try.prog Try.f6 Rows.fnStepsNoneRow.domain false) (Rows.fnStepsNoneSpec.post enc Try.prog Try.f6 false Rows.fnStepsNoneRow.fresh Rows.fnStepsNoneRow.handsOn Rows.fnStepsNoneRow.again) := by
  refine returnsInHanded_of_change (C := Try.checked) (by kernel_rfl) started (by kernel_rfl) Try.func6
    (ChangeSpec.witness6 (enc := enc) (C := Try.checked) false ⟨#[], #[.slice none 0 0], []⟩ 8 (by kernel_rfl) (by kernel_rfl) (by kernel_rfl) (by kernel_rfl)) ?_
  intro W base args ds gs before hval hW _ _
  exact law1 (t := 22) (u := 4) (e := 5) (by kernel_rfl) (by kernel_rfl) (by kernel_rfl) (by kernel_rfl) (by kernel_rfl) (by kernel_rfl) rfl (fun d => ⟨rfl, rfl, rfl⟩) (fun bs hb => stepsNone_ok bs hb) hval hW

theorem fnStepsNone_holds : Rows.FnStepsNoneSaid :=
  OpenClaim.holds_of_wide 6 Try.f6 rfl rfl rfl rfl rfl rfl rfl ⟨rfl, rfl, rfl, rfl, rfl⟩ rfl rfl rfl rfl rfl (by kernel_rfl) Try.func6 (by kernel_rfl)
    (of_decide_eq_true (by kernel_rfl)) (by unfold Func.isWrapper; rw [if_neg (of_decide_eq_false (by kernel_rfl))]; exact ⟨rfl, rfl⟩)
    (fun os started H enc _ => fnStepsNone_lifted os started H enc)

theorem fnInstTwo_lifted (os : Os) (started : os.Started) (H : Type) (enc : TypeId × Value → H) :
    ReturnsInHanded {} Try.checked os 5 .any (Rows.fnInstTwoSpec.pre6 enc Try.prog Try.f5 Rows.fnInstTwoRow.domain false) (Rows.fnInstTwoSpec.post enc Try.prog Try.f5 false Rows.fnInstTwoRow.fresh Rows.fnInstTwoRow.handsOn Rows.fnInstTwoRow.again) := by
  refine returnsInHanded_of_change (C := Try.checked) (by kernel_rfl) started (by kernel_rfl) Try.func5
    (ChangeSpec.witness6 (enc := enc) (C := Try.checked) false ⟨#[], #[.slice none 0 0, .slice none 0 0], []⟩ 8 (by kernel_rfl) (by kernel_rfl) (by kernel_rfl) (by kernel_rfl)) ?_
  intro W base args ds gs before hval hW _ _
  exact law2 (t := 22) (u := 4) (e := 5) (by kernel_rfl) (by kernel_rfl) (by kernel_rfl) (by kernel_rfl) (by kernel_rfl) (by kernel_rfl) rfl (fun d d' => ⟨rfl, rfl, rfl⟩) (fun bs cs hb hc => instTwo_ok bs cs hb hc) hval hW

theorem fnInstTwo_holds : Rows.FnInstTwoSaid :=
  OpenClaim.holds_of_wide 5 Try.f5 rfl rfl rfl rfl rfl rfl rfl ⟨rfl, rfl, rfl, rfl, rfl⟩ rfl rfl rfl rfl rfl (by kernel_rfl) Try.func5 (by kernel_rfl)
    (of_decide_eq_true (by kernel_rfl)) (by unfold Func.isWrapper; rw [if_neg (of_decide_eq_false (by kernel_rfl))]; exact ⟨rfl, rfl⟩)
    (fun os started H enc _ => fnInstTwo_lifted os started H enc)

theorem fnCutMend_lifted (os : Os) (started : os.Started) (H : Type) (enc : TypeId × Value → H) :
    ReturnsInHanded {} Try.checked os 8 .any (Rows.fnCutMendSpec.pre6 enc Try.prog Try.f8 Rows.fnCutMendRow.domain false) (Rows.fnCutMendSpec.post enc Try.prog Try.f8 false Rows.fnCutMendRow.fresh Rows.fnCutMendRow.handsOn Rows.fnCutMendRow.again) := by
  refine returnsInHanded_of_change (C := Try.checked) (by kernel_rfl) started (by kernel_rfl) Try.func8
    (ChangeSpec.witness6 (enc := enc) (C := Try.checked) false ⟨#[], #[.slice none 0 0, .slice none 0 0], []⟩ 8 (by kernel_rfl) (by kernel_rfl) (by kernel_rfl) (by kernel_rfl)) ?_
  intro W base args ds gs before hval hW _ _
  exact law2 (t := 22) (u := 4) (e := 5) (by kernel_rfl) (by kernel_rfl) (by kernel_rfl) (by kernel_rfl) (by kernel_rfl) (by kernel_rfl) rfl (fun d d' => ⟨rfl, rfl, rfl⟩) (fun bs cs hb hc => cutMend_ok bs cs hb hc) hval hW

theorem fnCutMend_holds : Rows.FnCutMendSaid :=
  OpenClaim.holds_of_wide 8 Try.f8 rfl rfl rfl rfl rfl rfl rfl ⟨rfl, rfl, rfl, rfl, rfl⟩ rfl rfl rfl rfl rfl (by kernel_rfl) Try.func8 (by kernel_rfl)
    (of_decide_eq_true (by kernel_rfl)) (by unfold Func.isWrapper; rw [if_neg (of_decide_eq_false (by kernel_rfl))]; exact ⟨rfl, rfl⟩)
    (fun os started H enc _ => fnCutMend_lifted os started H enc)

end V
theorem fnStepsNone_proved : Rows.FnStepsNoneSaid := V.fnStepsNone_holds
theorem fnInstTwo_proved : Rows.FnInstTwoSaid := V.fnInstTwo_holds
theorem fnCutMend_proved : Rows.FnCutMendSaid := V.fnCutMend_holds
end Go.Proofs.Ytgialjcichiaoaa

