/-
Part 5 of the proof of the claimed statement (its last part holds the theorem, and says what is proved). Conditions: none.
-/
import Derived.Test.YtgialjcichiaoaaM4
import Derived.Test.YtgialjcichiaoaaChecked
import Derived.Tactics
import Derived.Tactics2
import Derived.WalkKit
import Derived.RowKit3
import Derived.RegionTactic
import Derived.Lib.AppendZerosOnto
import Derived.Laws.NewBlocks
import Derived.Shelf.Spec.SlicesInsert
set_option linter.all false
/-
Plain proofs: the program's plan is ok just where the reference's is.
-/
namespace Go.Proofs.Ytgialjcichiaoaa
namespace V
open Classical
set_option maxRecDepth 100000
variable {W : Wld}

theorem ownerF_pos (ps : List Pk) (path : Int) : ∀ (n : Nat) (i : Int), 0 ≤ i → (0 ≤ ownerF ps path n i ↔ ∃ j, i ≤ j ∧ j < i + n ∧ hasP (ix ps j) path)
 | 0, i, h0 => by
  unfold ownerF
  constructor
  ·intro h; omega
  ·rintro ⟨j, h1, h2, _⟩; omega
 | n + 1, i, h0 => by
  unfold ownerF
  by_cases hp : hasP (ix ps i) path
  ·rw [if_pos hp]
   exact ⟨fun _ => ⟨i, by omega, by omega, hp⟩, fun _ => h0⟩
  ·rw [if_neg hp, ownerF_pos ps path n (i + 1) (by omega)]
   constructor
   ·rintro ⟨j, h1, h2, h3⟩; exact ⟨j, by omega, by omega, h3⟩
   ·rintro ⟨j, h1, h2, h3⟩
    by_cases hj : j = i
    ·subst hj; exact absurd h3 hp
    ·exact ⟨j, by omega, by omega, h3⟩
theorem owner_iff (ps : List Pk) (path i : Int) (hi : 0 ≤ i) : 0 ≤ ownerF ps path i.toNat 0 ↔ ∃ j, 0 ≤ j ∧ j < i ∧ hasP (ix ps j) path := by
 rw [ownerF_pos ps path i.toNat 0 (by omega)]
 constructor
 ·rintro ⟨j, h1, h2, h3⟩; exact ⟨j, h1, by omega, h3⟩
 ·rintro ⟨j, h1, h2, h3⟩; exact ⟨j, h1, by omega, h3⟩

theorem lastI_some (ps : List Pk) (name : Int) : ∀ n : Nat, 0 ≤ lastI ps name n → lastI ps name n < n ∧ (ix ps (lastI ps name n)).name = name
 | 0, h => by unfold lastI at h; omega
 | n + 1, h => by
  unfold lastI at h ⊢
  by_cases hp : (ix ps n).name = name
  ·rw [if_pos hp]; exact ⟨by omega, hp⟩
  ·rw [if_neg hp] at h ⊢
   have := lastI_some ps name n h
   exact ⟨by omega, this.2⟩
theorem lastI_ge (ps : List Pk) (name : Int) : ∀ (n : Nat) (j : Int), 0 ≤ j → j < n → (ix ps j).name = name → j ≤ lastI ps name n
 | 0, j, h0, h1, _ => by omega
 | n + 1, j, h0, h1, hj => by
  unfold lastI
  by_cases hp : (ix ps n).name = name
  ·rw [if_pos hp]; omega
  ·rw [if_neg hp]
   by_cases hn : j = n
   ·subst hn; exact absurd hj hp
   ·exact lastI_ge ps name n j h0 (by omega) hj

theorem oneM_lt {ps : List Pk} (h : OneM ps) : ∀ (n : Nat) (i j : Int), (j - i).toNat = n → 0 ≤ i → i < j → j < ps.length → (ix ps i).name < (ix ps j).name
 | 0, i, j, hn, h0, h1, h2 => by omega
 | n + 1, i, j, hn, h0, h1, h2 => by
  have hj := h j (by omega) h2
  by_cases hi : i = j - 1
  ·subst hi; exact hj
  ·have := oneM_lt h n i (j - 1) (by omega) h0 (by omega) (by omega)
   omega
theorem oneM_inj {ps : List Pk} (h : OneM ps) {i j : Int} (i0 : 0 ≤ i) (i1 : i < ps.length) (j0 : 0 ≤ j) (j1 : j < ps.length) (hn : (ix ps i).name = (ix ps j).name) : i = j := by
 rcases Int.lt_trichotomy i j with hl | hl | hl
 ·have := oneM_lt h _ i j rfl i0 hl j1; omega
 ·exact hl
 ·have := oneM_lt h _ j i rfl j0 hl i1; omega

theorem meets_iff {ps : List Pk} (h : OneM ps) (d : P2) : MeetsM ps d ↔ ¬ lacksP ps d := by
 unfold MeetsM lacksP bearsP
 rw [Classical.not_not]
 constructor
 ·rintro ⟨h1, h2⟩
  obtain ⟨h3, h4⟩ := lastI_some ps d.a ps.length h1
  unfold newP at h2
  rw [if_pos h1] at h2
  exact ⟨_, ix_mem h1 h3, h4, h2⟩
 ·rintro ⟨p, hp, h1, h2⟩
  obtain ⟨j, j0, j1, rfl⟩ := mem_ix hp
  have h3 := lastI_ge ps d.a ps.length j j0 j1 h1
  have h4 : 0 ≤ newI ps d.a := by unfold newI; omega
  obtain ⟨h5, h6⟩ := lastI_some ps d.a ps.length h4
  have h7 : newI ps d.a = j := oneM_inj h h4 h5 j0 j1 (by rw [h1]; exact h6)
  unfold newP
  rw [if_pos h4, h7]
  exact ⟨by omega, h2⟩

theorem bxl_b {e : Env} {d s b : Nat} {k k' : Int} {bs : List Bool} (hs : e s = i64 k) (hb : e b = bs.map .bool) (hk : k = k') (h0 : 0 ≤ k') (h1 : k' < bs.length) : pstep (.bxl d s b 1 0 1) e = some (put e d [.bool (ix bs k')]) := by
 subst hk
 have h2 : k.toNat < bs.length := by omega
 simp only [pstep, hs, hb, List.length_map, Nat.mul_one, Nat.add_zero]
 rw [if_pos (by omega)]
 congr 2
 rw [List.drop_eq_getElem_cons (by simpa using h2)]
 simp [ix, h2]
theorem bxs_b {e : Env} {s b : Nat} {k k' : Int} {bs : List Bool} {t : Bool} (hs : e s = i64 k) (hb : e b = bs.map .bool) (hk : k = k') (h0 : 0 ≤ k') (h1 : k' < bs.length) : pstep (.bxs s b 1 0 (.c (.bool t))) e = some (put e b ((bs.set k'.toNat t).map .bool)) := by
 subst hk
 have h2 : k.toNat < bs.length := by omega
 have h3 : (Opd.c (.bool t)).get e = [.bool t] := rfl
 simp only [pstep, hs, hb, h3, List.length_map, Nat.mul_one, Nat.add_zero, List.length_singleton]
 rw [if_pos (by omega)]
 congr 2
 simp only [splice, List.length_singleton]
 rw [List.set_eq_take_append_cons_drop, if_pos h2]
 simp

def TakenBy (ps : List Pk) (i : Int) (bs : List Bool) : Prop := bs.length = 6 ∧ ∀ path : Int, 0 ≤ path → path < 6 → (ix bs path = true ↔ ∃ j, 0 ≤ j ∧ j < i ∧ hasP (ix ps j) path)
def OwnAt (ps : List Pk) (i : Int) : Prop := (0 < i → (ix ps (i - 1)).name ≠ (ix ps i).name) ∧ ¬ (∃ d ∈ (ix ps i).deps, lacksP ps d) ∧ FilesFree ps i

theorem own_one {ps : List Pk} (hp : PksOk ps) (h : Blw ps.length (fun i => 0 < i → (ix ps (i - 1)).name ≠ (ix ps i).name)) : OneM ps := by
 intro i h0 h1
 have h2 := (hp i (by omega) h1).2 (by omega)
 have h3 := h i (by omega) h1 (by omega)
 unfold lessM at h2
 omega
theorem planM_iff {ps : List Pk} (hp : PksOk ps) : PlanM ps ↔ Blw ps.length (OwnAt ps) := by
 constructor
 ·rintro ⟨_, h1, h2⟩ i h0 hi
  refine ⟨fun hi0 => by have := h1 i (by omega) hi; omega, ?_, (h2 i h0 hi).2⟩
  rintro ⟨d, hd, hl⟩
  obtain ⟨k, k0, k1, rfl⟩ := mem_ix hd
  exact (meets_iff h1 _).1 ((h2 i h0 hi).1 k k0 k1) hl
 ·intro h
  have h1 : OneM ps := own_one hp (fun i h0 hi => (h i h0 hi).1)
  exact ⟨hp, h1, fun i h0 hi => ⟨fun k k0 k1 => (meets_iff h1 _).2 (fun hl => (h i h0 hi).2.1 ⟨_, ix_mem k0 k1, hl⟩), (h i h0 hi).2.2⟩⟩

theorem files_lt {fs : List P2} (h : FilesOk fs) : ∀ (n : Nat) (i j : Int), (j - i).toNat = n → 0 ≤ i → i < j → j < fs.length → (ix fs i).a < (ix fs j).a
 | 0, i, j, hn, h0, h1, h2 => by omega
 | n + 1, i, j, hn, h0, h1, h2 => by
  have hj := (h.1 j (by omega) h2).2.2 (by omega)
  by_cases hi : i = j - 1
  ·subst hi; exact hj
  ·have := files_lt h n i (j - 1) (by omega) h0 (by omega) (by omega)
   omega

def TkIn (ps : List Pk) (i : Int) (fs : List P2) (k : Int) (cs : List Bool) : Prop := cs.length = 6 ∧ ∀ path : Int, 0 ≤ path → path < 6 → (ix cs path = true ↔ (∃ j, 0 ≤ j ∧ j < i ∧ hasP (ix ps j) path) ∨ ∃ k', 0 ≤ k' ∧ k' < k ∧ (ix fs k').a = path)
theorem taken_none (ps : List Pk) : TakenBy ps 0 (List.replicate 6 false) := by
 refine ⟨rfl, fun path p0 p1 => ?_⟩
 have : path = 0 ∨ path = 1 ∨ path = 2 ∨ path = 3 ∨ path = 4 ∨ path = 5 := by omega
 have : ix (List.replicate 6 false) path = false := by rcases this with rfl | rfl | rfl | rfl | rfl | rfl <;> rfl
 simp only [this, Bool.false_eq_true, false_iff]
 rintro ⟨j, h1, h2, _⟩
 omega
theorem tk_zero {ps : List Pk} {i : Int} {bs : List Bool} (h : TakenBy ps i bs) (fs : List P2) : TkIn ps i fs 0 bs :=
 ⟨h.1, fun path p0 p1 => by rw [h.2 path p0 p1]; exact ⟨.inl, fun h' => h'.elim id fun ⟨_, h1, h2, _⟩ => by omega⟩⟩
theorem ix_set {bs : List Bool} {a p : Int} {t : Bool} (a0 : 0 ≤ a) (a1 : a < bs.length) (p0 : 0 ≤ p) : ix (bs.set a.toNat t) p = if p = a then t else ix bs p := by
 have h2 : a.toNat < bs.length := by omega
 by_cases h : p = a
 ·subst h; simp [ix, h2]
 ·have : a.toNat ≠ p.toNat := by omega
  simp [ix, h, List.getElem?_set, this]
theorem tk_succ {ps : List Pk} {i k : Int} {fs : List P2} {cs : List Bool} (h : TkIn ps i fs k cs) (k0 : 0 ≤ k) (ha : 0 ≤ (ix fs k).a ∧ (ix fs k).a < 6) : TkIn ps i fs (k + 1) (cs.set (ix fs k).a.toNat true) := by
 refine ⟨by rw [List.length_set]; exact h.1, fun path p0 p1 => ?_⟩
 rw [ix_set ha.1 (by rw [h.1]; exact ha.2) p0]
 by_cases hp : path = (ix fs k).a
 ·rw [if_pos hp]
  exact ⟨fun _ => .inr ⟨k, k0, by omega, hp.symm⟩, fun _ => rfl⟩
 ·rw [if_neg hp, h.2 path p0 p1]
  constructor
  ·rintro (h1 | ⟨k', h1, h2, h3⟩)
   ·exact .inl h1
   ·exact .inr ⟨k', h1, by omega, h3⟩
  ·rintro (h1 | ⟨k', h1, h2, h3⟩)
   ·exact .inl h1
   ·by_cases hk : k' = k
    ·subst hk; exact absurd h3.symm hp
    ·exact .inr ⟨k', h1, by omega, h3⟩
theorem tk_end {ps : List Pk} {i k : Int} {cs : List Bool} (h : TkIn ps i (ix ps i).files k cs) (h0 : 0 ≤ i) (hk : k = (ix ps i).files.length) : TakenBy ps (i + 1) cs := by
 refine ⟨h.1, fun path p0 p1 => ?_⟩
 rw [h.2 path p0 p1]
 constructor
 ·rintro (⟨j, h1, h2, h3⟩ | ⟨k', h1, h2, h3⟩)
  ·exact ⟨j, h1, by omega, h3⟩
  ·exact ⟨i, h0, by omega, k', h1, by omega, h3⟩
 ·rintro ⟨j, h1, h2, h3⟩
  by_cases hj : j = i
  ·subst hj
   obtain ⟨k', h4, h5, h6⟩ := h3
   exact .inr ⟨k', h4, by omega, h6⟩
  ·exact .inl ⟨j, h1, by omega, h3⟩
theorem tk_own {ps : List Pk} {i k : Int} {cs : List Bool} (h : TkIn ps i (ix ps i).files k cs) (h0 : 0 ≤ i) (hF : FilesOk (ix ps i).files) (k0 : 0 ≤ k) (k1 : k < (ix ps i).files.length) :
  ix cs (ix (ix ps i).files k).a = true ↔ 0 ≤ ownerF ps (ix (ix ps i).files k).a i.toNat 0 := by
 have ha := (hF.1 k k0 k1).1
 rw [h.2 _ ha.1 (by omega), owner_iff ps _ i h0]
 constructor
 ·rintro (h1 | ⟨k', h1, h2, h3⟩)
  ·exact h1
  ·have := files_lt hF _ k' k rfl h1 h2 k1
   omega
 ·exact .inl

theorem iPlanOk_ok (ps : List Pk) (hs : SmPs ps) : FunOk PP W n_i_PlanOk s_i_PlanOk [ePks ps] [bo (decide (PlanM ps))] := by
 refine F_i_PlanOk (run_fun ?_)
 have hl := hs.1
 unfold lim at hl
 (repeat' first
  | (refine run_ite rfl (fun h => ?_) (fun h => ?_) <;> (try simp (disch := omega) only [zA, z13, z19, z20, z21, z22, z23, z24, z25, z31, eqDs, eqD, Nat.reduceAdd, wrap64] at h) <;> (try (exfalso; omega)))
  | (refine run_need rfl (by (try simp (disch := omega) only [zA, z13, z19, z20, z21, z22, z23, z24, z25, z31, eqDs, eqD, Nat.reduceAdd, wrap64]); first | exact elp_m (by omega) (by first | omega | (simp only [List.length_set]; omega)) (fun _ => rfl) | exact eld_m (by omega) (by first | omega | (simp only [List.length_set]; omega)) (fun _ => rfl) | exact els_m (by omega) (by omega) (by omega) rfl | exact lsl_m (by omega) (fun _ => rfl) | exact app_nil_m (by omega) (fun _ => rfl) (fun _ => rfl) | exact app_m_one (by omega) (fun _ => rfl) rfl rfl | exact app_m_m (by omega) (fun _ => rfl) (fun _ => rfl)) ?_)
  | (refine run_need rfl (by first | decide | omega | (simp only [List.length_map]; omega)) ?_)
  | (refine run_call1 rfl (iStoreOk_ok ps hs) rfl ?_)
  | (refine run_need rfl ?_ ?_)
  | (refine run_ret rfl ?_ ; first | refine rb ?_ | refine ri ?_ | refine rs2 ?_ ?_ | refine rs1 ?_)
  | (refine run_retx rfl ?_))
 ·exact fD (fun h' => absurd h'.1 h)
 have hpk : PksOk ps := h
 clear h
 rw [planM_iff hpk]
 refine run_loop rfl (fun x : Int × List Bool => 0 ≤ x.1 ∧ x.1 ≤ ps.length ∧ Blw x.1 (OwnAt ps) ∧ TakenBy ps x.1 x.2) (fun x => [(13, .val (i64 x.1)), (11, .val (ePks ps)), (12, .val (i64 (ps.map ePk).length)), (3, .val (x.2.map .bool)), (1, .val (ePks ps))]) (fun x => (ps.length - x.1).toNat) (0, List.replicate 6 false) ⟨by omega, by omega, blw_zero _, taken_none ps⟩ ⟨rfl, rfl, rfl, rfl, rfl, trivial⟩ rfl ?_
 rintro ⟨i, bs⟩ e ⟨h0, hN, hP, hT⟩
 simp only at h0 hN hP hT
 (repeat' first
  | (refine run_ite rfl (fun h => ?_) (fun h => ?_) <;> (try simp (disch := omega) only [zA, z13, z19, z20, z21, z22, z23, z24, z25, z31, eqDs, eqD, Nat.reduceAdd, wrap64] at h) <;> (try (exfalso; omega)))
  | (refine run_need rfl (by (try simp (disch := omega) only [zA, z13, z19, z20, z21, z22, z23, z24, z25, z31, eqDs, eqD, Nat.reduceAdd, wrap64]); first | exact elp_m (by omega) (by first | omega | (simp only [List.length_set]; omega)) (fun _ => rfl) | exact eld_m (by omega) (by first | omega | (simp only [List.length_set]; omega)) (fun _ => rfl) | exact els_m (by omega) (by omega) (by omega) rfl | exact lsl_m (by omega) (fun _ => rfl) | exact app_nil_m (by omega) (fun _ => rfl) (fun _ => rfl) | exact app_m_one (by omega) (fun _ => rfl) rfl rfl | exact app_m_m (by omega) (fun _ => rfl) (fun _ => rfl)) ?_)
  | (refine run_need rfl (by first | decide | omega | (simp only [List.length_map]; omega)) ?_)
  | (refine run_calleq rfl (conDep_ok ps hs.1 (ix ps i).deps (smPs_ix hs h0 (by omega)).2) (by simp (disch := omega) only [zA, z13, z19, z20, z21, z22, z23, z24, z25, z31, eqDs, eqD, Nat.reduceAdd, wrap64]) rfl ?_)
  | (refine run_need rfl ?_ ?_)
  | (refine run_ret rfl ?_ ; first | refine rb ?_ | refine ri ?_ | refine rs2 ?_ ?_ | refine rs1 ?_)
  | (refine run_retx rfl ?_))
 any_goals first | exact fD (fun h' => (h' i h0 (by assumption)).1 (by assumption) (by assumption)) | exact fD (fun h' => (h' i h0 (by assumption)).2.1 (by assumption)) | exact tD (blw_to hP (by omega))
 all_goals (
  have hi : i < ps.length := by assumption
  have hq : 0 < i → (ix ps (i - 1)).name ≠ (ix ps i).name := by first | exact fun _ => by assumption | exact fun h' => absurd h' (by assumption)
  have hd := h
  clear h
  have hF : FilesOk (ix ps i).files := (hpk i h0 hi).1.2.2.1
  have hfl := (smPs_ix hs h0 hi).1
  unfold lim at hfl
  have hpp : ∀ k : Int, 0 ≤ k → k < (ix ps i).files.length → 0 ≤ (ix (ix ps i).files k).a ∧ (ix (ix ps i).files k).a < 6 := fun k k0 k1 => by have := (hF.1 k k0 k1).1; omega
  refine run_loop rfl (fun x : Int × List Bool => 0 ≤ x.1 ∧ x.1 ≤ (ix ps i).files.length ∧ Blw x.1 (fun k => ¬ 0 ≤ ownerF ps (ix (ix ps i).files k).a i.toNat 0) ∧ TkIn ps i (ix ps i).files x.1 x.2) (fun x => [(40, .val (i64 x.1)), (38, .val (eP2s (ix ps i).files)), (39, .val (i64 ((ix ps i).files.map eP2).length)), (13, .val (i64 i)), (11, .val (ePks ps)), (12, .val (i64 (ps.map ePk).length)), (3, .val (x.2.map .bool)), (1, .val (ePks ps))]) (fun x => ((ix ps i).files.length - x.1).toNat) (0, bs) ⟨by omega, by omega, blw_zero _, tk_zero hT _⟩ ⟨rfl, by rw [cL_Pk_2]; rfl, by rw [cL_Pk_2]; rfl, rfl, rfl, rfl, rfl, rfl, trivial⟩ rfl ?_
  rintro ⟨k, cs⟩ e ⟨k0, kN, kO, kT⟩
  simp only at k0 kN kO kT
  have kl := kT.1
  (repeat' first
  | (refine run_ite rfl (fun h => ?_) (fun h => ?_) <;> (try simp (disch := omega) only [zA, z13, z19, z20, z21, z22, z23, z24, z25, z31, eqDs, eqD, Nat.reduceAdd, wrap64] at h) <;> (try (exfalso; omega)))
  | (refine run_need rfl (by (try simp (disch := omega) only [zA, z13, z19, z20, z21, z22, z23, z24, z25, z31, eqDs, eqD, Nat.reduceAdd, wrap64]); first | exact elp_m (by omega) (by first | omega | (simp only [List.length_set]; omega)) (fun _ => rfl) | exact eld_m (by omega) (by first | omega | (simp only [List.length_set]; omega)) (fun _ => rfl) | exact els_m (by omega) (by omega) (by omega) rfl | exact lsl_m (by omega) (fun _ => rfl) | exact app_nil_m (by omega) (fun _ => rfl) (fun _ => rfl) | exact app_m_one (by omega) (fun _ => rfl) rfl rfl | exact app_m_m (by omega) (fun _ => rfl) (fun _ => rfl)) ?_)
  | (refine run_need rfl (by first | decide | omega | (simp only [List.length_map]; omega)) ?_)
  | (refine run_need rfl (by simp (disch := omega) only [zA, z13, z19, z20, z21, z22, z23, z24, z25, z31, eqDs, eqD, Nat.reduceAdd, wrap64]; have := hpp k k0 (by assumption); omega) ?_)
  | (refine run_fb rfl (bxl_b (bs := cs) (k' := (ix (ix ps i).files k).a) rfl rfl (by simp only [zA, z13, z19, z20, z21, z22, z23, z24, z25, z31, eqDs, eqD, Nat.reduceAdd]) (hpp k k0 (by assumption)).1 (by have := (hpp k k0 (by assumption)).2; omega)) ?_)
  | (refine run_fb rfl (bxs_b (bs := cs) (k' := (ix (ix ps i).files k).a) rfl rfl (by simp only [zA, z13, z19, z20, z21, z22, z23, z24, z25, z31, eqDs, eqD, Nat.reduceAdd]) (hpp k k0 (by assumption)).1 (by have := (hpp k k0 (by assumption)).2; omega)) ?_)
  | (refine run_next rfl (Exists.intro (k + 1, cs.set (ix (ix ps i).files k).a.toNat true) ⟨by first | omega | (dsimp only; omega), ⟨by first | omega | (dsimp only; omega), by first | omega | (dsimp only; omega), blw_succ kO ?_, tk_succ kT k0 (hpp k k0 (by assumption))⟩, i64_eq (wrap64 _ (by first | omega | (dsimp only; omega))), rfl, rfl, rfl, rfl, rfl, rfl, rfl, trivial⟩))
  | (refine run_next rfl (Exists.intro (i + 1, cs) ⟨by first | omega | (dsimp only; omega), ⟨by first | omega | (dsimp only; omega), by first | omega | (dsimp only; omega), blw_succ hP ⟨hq, hd, blw_to kO (by first | omega | (dsimp only; omega))⟩, tk_end kT h0 (by omega)⟩, i64_eq (wrap64 _ (by first | omega | (dsimp only; omega))), rfl, rfl, rfl, rfl, trivial⟩))
  | (refine run_need rfl ?_ ?_)
  | (refine run_ret rfl ?_ ; first | refine rb ?_ | refine ri ?_ | refine rs2 ?_ ?_ | refine rs1 ?_)
  | (refine run_retx rfl ?_))
  ·exact fD (fun h' => (h' i h0 hi).2.2 k k0 (by assumption) ((tk_own kT h0 hF k0 (by assumption)).1 h))
  ·exact fun h' => by have := (tk_own kT h0 hF k0 (by assumption)).2 h'; rw [h] at this; cases this
 )
end V
end Go.Proofs.Ytgialjcichiaoaa

/-
Plain proofs: plans that are drawn.
-/
namespace Go.Proofs.Ytgialjcichiaoaa
namespace V
open Classical
set_option maxRecDepth 100000
variable {W : Wld}

theorem l13Is_ok (ps : List Pk) (hs : SmPs ps) (n : Int) : FunOk PP W n_s_l13Is s_s_l13Is [ePks ps, i64 n] [bo (decide (0 ≤ newI ps n))] := by
 refine F_s_l13Is (run_fun ?_)
 (repeat' first
  | (refine run_ite rfl (fun h => ?_) (fun h => ?_) <;> (try simp (disch := omega) only [zA, z13, z19, z20, z21, z22, z23, z24, z25, z31, eqDs, eqD, Nat.reduceAdd, wrap64] at h) <;> (try (exfalso; omega)))
  | (refine run_need rfl (by (try simp (disch := omega) only [zA, z13, z19, z20, z21, z22, z23, z24, z25, z31, eqDs, eqD, Nat.reduceAdd, wrap64]); first | exact elp_m (by omega) (by first | omega | (simp only [List.length_set]; omega)) (fun _ => rfl) | exact eld_m (by omega) (by first | omega | (simp only [List.length_set]; omega)) (fun _ => rfl) | exact els_m (by omega) (by omega) (by omega) rfl | exact lsl_m (by omega) (fun _ => rfl) | exact app_nil_m (by omega) (fun _ => rfl) (fun _ => rfl) | exact app_m_one (by omega) (fun _ => rfl) rfl rfl | exact app_m_m (by omega) (fun _ => rfl) (fun _ => rfl)) ?_)
  | (refine run_need rfl (by first | decide | omega | (simp only [List.length_map]; omega)) ?_)
  | (refine run_callr rfl (l12Newest_ok ps hs n) rfl rfl ?_)
  | (refine run_need rfl ?_ ?_)
  | (refine run_ret rfl ?_ ; first | refine rb ?_ | refine ri ?_ | refine rs2 ?_ ?_ | refine rs1 ?_)
  | (refine run_retx rfl ?_))
 rfl

noncomputable def pickM (st hv : List Pk) (n : Int) : Pk := if 0 ≤ newI st n ∧ (¬ 0 ≤ newI hv n ∨ (newP hv n).ver < (newP st n).ver) then newP st n else newP hv n
theorem l13Pick_ok (st hv : List Pk) (h1 : SmPs st) (h2 : SmPs hv) (n : Int) : FunOk PP W n_s_l13Pick s_s_l13Pick [ePks st, ePks hv, i64 n] [ePk (pickM st hv n), bo (decide (0 ≤ newI st n ∨ 0 ≤ newI hv n))] := by
 refine F_s_l13Pick (run_fun ?_)
 (repeat' first
  | (refine run_ite rfl (fun h => ?_) (fun h => ?_) <;> (try simp (disch := omega) only [zA, z13, z19, z20, z21, z22, z23, z24, z25, z31, eqDs, eqD, Nat.reduceAdd, wrap64] at h) <;> (try (exfalso; omega)))
  | (refine run_need rfl (by (try simp (disch := omega) only [zA, z13, z19, z20, z21, z22, z23, z24, z25, z31, eqDs, eqD, Nat.reduceAdd, wrap64]); first | exact elp_m (by omega) (by first | omega | (simp only [List.length_set]; omega)) (fun _ => rfl) | exact eld_m (by omega) (by first | omega | (simp only [List.length_set]; omega)) (fun _ => rfl) | exact els_m (by omega) (by omega) (by omega) rfl | exact lsl_m (by omega) (fun _ => rfl) | exact app_nil_m (by omega) (fun _ => rfl) (fun _ => rfl) | exact app_m_one (by omega) (fun _ => rfl) rfl rfl | exact app_m_m (by omega) (fun _ => rfl) (fun _ => rfl)) ?_)
  | (refine run_need rfl (by first | decide | omega | (simp only [List.length_map]; omega)) ?_)
  | (refine run_callr rfl (l12Newest_ok st h1 n) rfl rfl ?_)
  | (refine run_callr rfl (l12Newest_ok hv h2 n) rfl rfl ?_)
  | (refine run_need rfl ?_ ?_)
  | (refine run_ret rfl ?_ ; first | refine rb ?_ | refine ri ?_ | refine rs2 ?_ ?_ | refine rs1 ?_)
  | (refine run_retx rfl ?_))
 all_goals first
  | (rw [pickM, if_pos (by simp_all)]; done)
  | (rw [pickM, if_neg (by grind)]; done)
  | exact bo_eq (by grind)

def NmPk (q : Pk) : Prop := (0 ≤ q.name ∧ q.name ≤ 4) ∧ ∀ d ∈ q.deps, 0 ≤ d.a ∧ d.a ≤ 4
def NmPs (ps : List Pk) : Prop := ∀ q ∈ ps, NmPk q
theorem newP_of {ps : List Pk} {n : Int} (h : 0 ≤ newI ps n) : newP ps n ∈ ps ∧ (newP ps n).name = n := by
 obtain ⟨h1, h2⟩ := lastI_some ps n ps.length h
 unfold newP
 rw [if_pos h]
 exact ⟨ix_mem h h1, h2⟩
theorem newI_of {ps : List Pk} {q : Pk} (h : q ∈ ps) : 0 ≤ newI ps q.name := by
 obtain ⟨j, j0, j1, rfl⟩ := mem_ix h
 have := lastI_ge ps (ix ps j).name ps.length j j0 j1 rfl
 unfold newI
 omega
theorem pickM_of {st hv : List Pk} {n : Int} (h : 0 ≤ newI st n ∨ 0 ≤ newI hv n) : (pickM st hv n ∈ st ∨ pickM st hv n ∈ hv) ∧ (pickM st hv n).name = n := by
 unfold pickM
 by_cases hc : 0 ≤ newI st n ∧ (¬ 0 ≤ newI hv n ∨ (newP hv n).ver < (newP st n).ver)
 ·rw [if_pos hc]
  exact ⟨.inl (newP_of hc.1).1, (newP_of hc.1).2⟩
 ·rw [if_neg hc]
  have h2 : 0 ≤ newI hv n := by
   rcases h with h | h
   ·exact Classical.byContradiction fun h' => hc ⟨h, .inl h'⟩
   ·exact h
  exact ⟨.inr (newP_of h2).1, (newP_of h2).2⟩

def hasN (ps : List Pk) (n : Int) : Prop := ∃ q ∈ ps, q.name = n
noncomputable def c1 (p : Prop) : Nat := if p then 1 else 0
theorem c1_mono {p q : Prop} (h : p → q) : c1 p ≤ c1 q := by
 unfold c1
 by_cases hp : p
 ·rw [if_pos hp, if_pos (h hp)]; exact Nat.le_refl _
 ·rw [if_neg hp]; exact Nat.zero_le _
theorem c1_le (p : Prop) : c1 p ≤ 1 := by unfold c1; split <;> omega
noncomputable def cnt (ps : List Pk) : Nat := c1 (hasN ps 1) + c1 (hasN ps 2) + c1 (hasN ps 3) + c1 (hasN ps 4)
theorem cnt_le (ps : List Pk) : cnt ps ≤ 4 := by
 have h1 := c1_le (hasN ps 1); have h2 := c1_le (hasN ps 2); have h3 := c1_le (hasN ps 3); have h4 := c1_le (hasN ps 4)
 unfold cnt; omega
theorem hasN_with {ps : List Pk} {p : Pk} {m : Int} (h : hasN ps m) : hasN (withM ps p) m := by
 obtain ⟨q, h1, h2⟩ := h
 by_cases hn : q.name = p.name
 ·exact ⟨p, withM_self ps p, by rw [← hn]; exact h2⟩
 ·exact ⟨q, withM_old h1 hn, h2⟩
theorem cnt_with {ps : List Pk} {p : Pk} (hn : 1 ≤ p.name ∧ p.name ≤ 4) (h : ¬ hasN ps p.name) : cnt ps + 1 ≤ cnt (withM ps p) := by
 have m1 := c1_mono (fun h : hasN ps 1 => hasN_with (p := p) h)
 have m2 := c1_mono (fun h : hasN ps 2 => hasN_with (p := p) h)
 have m3 := c1_mono (fun h : hasN ps 3 => hasN_with (p := p) h)
 have m4 := c1_mono (fun h : hasN ps 4 => hasN_with (p := p) h)
 have z : c1 (hasN ps p.name) = 0 := if_neg h
 have o : c1 (hasN (withM ps p) p.name) = 1 := if_pos ⟨p, withM_self ps p, rfl⟩
 unfold cnt
 obtain ⟨n, hnn⟩ : ∃ n, n = p.name := ⟨_, rfl⟩
 rw [← hnn] at z o hn
 have : n = 1 ∨ n = 2 ∨ n = 3 ∨ n = 4 := by omega
 rcases this with rfl | rfl | rfl | rfl <;> omega

theorem nmPs_with {ps : List Pk} {p : Pk} (h : NmPs ps) (hp : NmPk p) : NmPs (withM ps p) := fun q hq => by
 rcases withM_mem hq with h' | h'
 ·exact h q h'
 ·rw [h']; exact hp
theorem smPs_with {ps : List Pk} {p : Pk} (h : SmPs ps) (hp : SmP p) (hl : ps.length ≤ 1000) : SmPs (withM ps p) := ⟨by have := withM_len ps p; unfold lim; omega, fun q hq => by
 rcases withM_mem hq with h' | h'
 ·exact h.2 q h'
 ·rw [h']; exact hp⟩
theorem smPs_nil' : SmPs [] := ⟨by unfold lim; simp, fun q hq => by cases hq⟩

end V
end Go.Proofs.Ytgialjcichiaoaa

/-
What a plan for a name is, in plain terms: the newest of all names that are reached.
-/
namespace Go.Proofs.Ytgialjcichiaoaa
namespace V
open Classical
set_option maxRecDepth 100000

def Srt (ps : List Pk) : Prop := ps.Pairwise (fun a b => a.name < b.name)

theorem srt_ext : ∀ {a b : List Pk}, Srt a → Srt b → (∀ q, q ∈ a ↔ q ∈ b) → a = b
 | [], [], _, _, _ => rfl
 | [], y :: b, _, _, h => absurd ((h y).2 (List.mem_cons_self ..)) (by simp)
 | x :: a, [], _, _, h => absurd ((h x).1 (List.mem_cons_self ..)) (by simp)
 | x :: a, y :: b, ha, hb, h => by
  obtain ⟨h1, h2⟩ := List.pairwise_cons.1 ha
  obtain ⟨h3, h4⟩ := List.pairwise_cons.1 hb
  have hxy : x = y := by
   rcases List.mem_cons.1 ((h x).1 (List.mem_cons_self ..)) with e | e
   ·exact e
   ·rcases List.mem_cons.1 ((h y).2 (List.mem_cons_self ..)) with e' | e'
    ·exact e'.symm
    ·have := h3 x e; have := h1 y e'; omega
  subst hxy
  have : a = b := srt_ext h2 h4 (fun q => ⟨fun hq => by
   rcases List.mem_cons.1 ((h q).1 (List.mem_cons_of_mem _ hq)) with e | e
   ·have := h1 q hq; rw [e] at this; omega
   ·exact e, fun hq => by
   rcases List.mem_cons.1 ((h q).2 (List.mem_cons_of_mem _ hq)) with e | e
   ·have := h3 q hq; rw [e] at this; omega
   ·exact e⟩)
  rw [this]

noncomputable def cutI : List Pk → Pk → Nat
 | [], _ => 0
 | a :: r, p => if a.name < p.name then cutI r p + 1 else 0
theorem cutI_le : ∀ (ps : List Pk) (p : Pk), cutI ps p ≤ ps.length
 | [], _ => Nat.le_refl _
 | a :: r, p => by
  have := cutI_le r p
  unfold cutI
  split
  ·simp; omega
  ·simp
theorem cut_parts : ∀ {ps : List Pk} {p : Pk}, Srt ps → (∀ q ∈ ps, q.name ≠ p.name) → (∀ q ∈ ps.take (cutI ps p), q.name < p.name) ∧ (∀ q ∈ ps.drop (cutI ps p), p.name < q.name)
 | [], p, _, _ => by simp [cutI]
 | a :: r, p, hs, hn => by
  obtain ⟨h1, h2⟩ := List.pairwise_cons.1 hs
  obtain ⟨h3, h4⟩ := cut_parts h2 (fun q hq => hn q (List.mem_cons_of_mem _ hq))
  unfold cutI
  split
  ·rename_i h
   refine ⟨fun q hq => ?_, fun q hq => ?_⟩
   ·rw [List.take_succ_cons] at hq
    rcases List.mem_cons.1 hq with e | e
    ·rw [e]; exact h
    ·exact h3 q e
   ·rw [List.drop_succ_cons] at hq
    exact h4 q hq
  ·rename_i h
   have ha := hn a (List.mem_cons_self ..)
   refine ⟨fun q hq => by simp at hq, fun q hq => ?_⟩
   rw [List.drop_zero] at hq
   rcases List.mem_cons.1 hq with e | e
   ·rw [e]; omega
   ·have := h1 q e; omega
theorem cut_lt {ps : List Pk} {p : Pk} (hs : Srt ps) (hn : ∀ q ∈ ps, q.name ≠ p.name) {m : Int} (h0 : 0 ≤ m) (h1 : m < ps.length) : (ix ps m).name < p.name ↔ m < cutI ps p := by
 obtain ⟨h2, h3⟩ := cut_parts hs hn
 have hx : ps[m.toNat]? = some (ix ps m) := by
  have : m.toNat < ps.length := by omega
  rw [List.getElem?_eq_getElem this]
  simp [ix, this]
 by_cases hm : m < cutI ps p
 ·refine ⟨fun _ => hm, fun _ => h2 _ ?_⟩
  refine List.mem_of_getElem? (i := m.toNat) ?_
  rw [List.getElem?_take, if_pos (by omega)]
  exact hx
 ·refine ⟨fun h => ?_, fun h => absurd h hm⟩
  have := h3 (ix ps m) (List.mem_of_getElem? (i := m.toNat - cutI ps p) (by rw [List.getElem?_drop, show cutI ps p + (m.toNat - cutI ps p) = m.toNat by omega]; exact hx))
  omega
noncomputable def putM (ps : List Pk) (p : Pk) : List Pk := ps.take (cutI ps p) ++ p :: ps.drop (cutI ps p)
theorem putM_mem {ps : List Pk} {p q : Pk} : q ∈ putM ps p ↔ q ∈ ps ∨ q = p := by
 unfold putM
 constructor
 ·intro h
  rcases List.mem_append.1 h with h | h
  ·exact .inl (List.mem_of_mem_take h)
  ·rcases List.mem_cons.1 h with h | h
   ·exact .inr h
   ·exact .inl (List.mem_of_mem_drop h)
 ·rintro (h | rfl)
  ·rw [← List.take_append_drop (cutI ps p) ps] at h
   rcases List.mem_append.1 h with h | h
   ·exact List.mem_append_left _ h
   ·exact List.mem_append_right _ (List.mem_cons_of_mem _ h)
  ·exact List.mem_append_right _ (List.mem_cons_self ..)
theorem putM_len (ps : List Pk) (p : Pk) : (putM ps p).length = ps.length + 1 := by
 have := cutI_le ps p
 unfold putM
 simp
 omega
theorem putM_srt {ps : List Pk} {p : Pk} (hs : Srt ps) (hn : ∀ q ∈ ps, q.name ≠ p.name) : Srt (putM ps p) := by
 obtain ⟨h1, h2⟩ := cut_parts hs hn
 have h3 : Srt (ps.take (cutI ps p) ++ ps.drop (cutI ps p)) := by rw [List.take_append_drop]; exact hs
 obtain ⟨h4, h5, h6⟩ := List.pairwise_append.1 h3
 refine List.pairwise_append.2 ⟨h4, List.pairwise_cons.2 ⟨h2, h5⟩, fun a ha b hb => ?_⟩
 rcases List.mem_cons.1 hb with e | e
 ·rw [e]; exact h1 a ha
 ·exact h6 a ha b e
theorem withM_srt {ps : List Pk} {p : Pk} (hs : Srt ps) (hn : ∀ q ∈ ps, q.name ≠ p.name) : Srt (withM ps p) := by
 unfold withM
 have l1 : ∀ q ∈ ps.filter (fun q => decide (lessM q p)), q.name < p.name := fun q hq => by
  obtain ⟨h1, h2⟩ := List.mem_filter.1 hq
  have := hn q h1
  have h2 := of_decide_eq_true h2
  unfold lessM at h2
  omega
 have l2 : ∀ q ∈ ps.filter (fun q => decide (lessM p q)), p.name < q.name := fun q hq => by
  obtain ⟨h1, h2⟩ := List.mem_filter.1 hq
  have := hn q h1
  have h2 := of_decide_eq_true h2
  unfold lessM at h2
  omega
 refine List.pairwise_append.2 ⟨List.pairwise_append.2 ⟨hs.filter _, List.pairwise_singleton _ _, fun a ha b hb => ?_⟩, hs.filter _, fun a ha b hb => ?_⟩
 ·rw [List.mem_singleton.1 hb]; exact l1 a ha
 ·have := l2 b hb
  rcases List.mem_append.1 ha with h | h
  ·have := l1 a h; omega
  ·rw [List.mem_singleton.1 h]; exact this
theorem withM_iff {ps : List Pk} {p q : Pk} (hn : ∀ q ∈ ps, q.name ≠ p.name) : q ∈ withM ps p ↔ q ∈ ps ∨ q = p :=
 ⟨withM_mem, fun h => h.elim (fun h => withM_old h (hn q h)) (fun h => by rw [h]; exact withM_self ps p)⟩

def hasPk (st hv : List Pk) (m : Int) : Prop := 0 ≤ newI st m ∨ 0 ≤ newI hv m
inductive Rch (st hv : List Pk) (n : Int) : Int → Prop
 | base : Rch st hv n n
 | got {q : Pk} : q ∈ hv → Rch st hv n q.name
 | dep {m : Int} {d : P2} : Rch st hv n m → hasPk st hv m → d ∈ (pickM st hv m).deps → Rch st hv n d.a
noncomputable def outM (st hv : List Pk) (n : Int) : List Pk := (([1, 2, 3, 4] : List Int).filter (fun m => decide (Rch st hv n m))).map (pickM st hv)
def AllHas (st hv : List Pk) (n : Int) : Prop := ∀ m, Rch st hv n m → hasPk st hv m
def ForOk (st hv : List Pk) (n : Int) : Prop := AllHas st hv n ∧ PlanM (outM st hv n)
noncomputable def forM' (st hv : List Pk) (n : Int) : List Pk := if ForOk st hv n then outM st hv n else []

structure OutOk (st hv : List Pk) (n : Int) (out : List Pk) (N : Int → Prop) : Prop where
 srt : Srt out
 pk : ∀ q ∈ out, q = pickM st hv q.name ∧ hasPk st hv q.name ∧ Rch st hv n q.name ∧ ∀ d ∈ q.deps, N d.a

def ForAll (st hv : List Pk) (n : Int) : Prop := (PksOk st ∧ PlanM hv ∧ (1 ≤ n ∧ n ≤ 4)) ∧ ForOk st hv n
noncomputable def planR (st hv : List Pk) (n : Int) : List Pk := if ForAll st hv n then outM st hv n else []
theorem planR_no {st hv : List Pk} {n : Int} (h : ¬ ForAll st hv n) : ([D.sl []] : List D) = ePks (planR st hv n) := by rw [planR, if_neg h]; rfl
theorem planB_no {st hv : List Pk} {n : Int} (h : ¬ ForAll st hv n) : ([D.bool false] : List D) = bo (decide (ForAll st hv n)) := bo_eq (fD h)

theorem pks_mem {ps : List Pk} (h : PksOk ps) : ∀ q ∈ ps, PkOk q := fun q hq => by
 obtain ⟨j, j0, j1, rfl⟩ := mem_ix hq
 exact (h j j0 j1).1

section
variable {st hv : List Pk} {n : Int} {out : List Pk} {N : Int → Prop}

theorem rch_range (hn : 1 ≤ n ∧ n ≤ 4) (h1 : ∀ q ∈ st, PkOk q) (h2 : ∀ q ∈ hv, PkOk q) {m : Int} (h : Rch st hv n m) : 1 ≤ m ∧ m ≤ 4 := by
 induction h with
 | base => exact hn
 | got hq => exact (h2 _ hq).1
 | dep _ hp hd _ =>
  obtain ⟨hm, _⟩ := pickM_of hp
  have hk : PkOk (pickM st hv _) := hm.elim (fun h => h1 _ h) (fun h => h2 _ h)
  obtain ⟨j, j0, j1, rfl⟩ := mem_ix hd
  exact (hk.2.2.2.1 j j0 j1).1

theorem rch_N (hN0 : N n) (hN1 : ∀ q ∈ hv, N q.name) (hp : ∀ q ∈ out, q = pickM st hv q.name ∧ ∀ d ∈ q.deps, N d.a) (hc : ∀ m, Rch st hv n m → N m → ∃ q ∈ out, q.name = m) {m : Int} (h : Rch st hv n m) : N m := by
 induction h with
 | base => exact hN0
 | got hq => exact hN1 _ hq
 | dep hr hk hd ih =>
  obtain ⟨q, hq, rfl⟩ := hc _ hr ih
  obtain ⟨e, h⟩ := hp q hq
  rw [← e] at hd
  exact h _ hd

theorem outOk_fin (ho : OutOk st hv n out N) (hr : ∀ m, Rch st hv n m → 1 ≤ m ∧ m ≤ 4) (hN0 : N n) (hN1 : ∀ q ∈ hv, N q.name) (hc : ∀ m, Rch st hv n m → N m → ∃ q ∈ out, q.name = m) : AllHas st hv n ∧ out = outM st hv n := by
 have hN : ∀ {m}, Rch st hv n m → N m := fun h => rch_N hN0 hN1 (fun q hq => ⟨(ho.pk q hq).1, (ho.pk q hq).2.2.2⟩) hc h
 have ha : AllHas st hv n := fun m hm => by
  obtain ⟨q, hq, rfl⟩ := hc m hm (hN hm)
  exact (ho.pk q hq).2.1
 refine ⟨ha, srt_ext ho.srt ?_ (fun q => ?_)⟩
 ·refine List.Pairwise.map (S := fun a b : Pk => a.name < b.name) (R := fun a b : Int => (Rch st hv n a ∧ Rch st hv n b) ∧ a < b) _ (fun a b h => ?_) ?_
  ·rw [(pickM_of (ha a h.1.1)).2, (pickM_of (ha b h.1.2)).2]; exact h.2
  ·have h1 : (([1, 2, 3, 4] : List Int).filter (fun m => decide (Rch st hv n m))).Pairwise (· < ·) := List.Pairwise.filter _ (by decide)
   refine List.Pairwise.imp_of_mem (fun {a b} hx hy h => ⟨⟨?_, ?_⟩, h⟩) h1
   ·exact of_decide_eq_true (List.mem_filter.1 hx).2
   ·exact of_decide_eq_true (List.mem_filter.1 hy).2
 ·constructor
  ·intro hq
   obtain ⟨e, _, h2, _⟩ := ho.pk q hq
   refine List.mem_map.2 ⟨q.name, List.mem_filter.2 ⟨?_, decide_eq_true h2⟩, e.symm⟩
   have := hr _ h2
   have : q.name = 1 ∨ q.name = 2 ∨ q.name = 3 ∨ q.name = 4 := by omega
   rcases this with h | h | h | h <;> rw [h] <;> simp
  ·intro hq
   obtain ⟨m, hm, rfl⟩ := List.mem_map.1 hq
   have hm := of_decide_eq_true (List.mem_filter.1 hm).2
   obtain ⟨q', hq', rfl⟩ := hc m hm (hN hm)
   rw [← (ho.pk q' hq').1]
   exact hq'

theorem outOk_nil : OutOk st hv n [] N := ⟨List.Pairwise.nil, fun q hq => by cases hq⟩
theorem outOk_mono {N' : Int → Prop} (h : OutOk st hv n out N) (hN : ∀ m, N m → N' m) : OutOk st hv n out N' := ⟨h.srt, fun q hq => ⟨(h.pk q hq).1, (h.pk q hq).2.1, (h.pk q hq).2.2.1, fun d hd => hN _ ((h.pk q hq).2.2.2 d hd)⟩⟩
theorem outOk_add {out' : List Pk} {N' : Int → Prop} {m : Int} (h : OutOk st hv n out N) (hN : ∀ m, N m → N' m) (hr : Rch st hv n m) (hk : hasPk st hv m) (hs : Srt out') (hm : ∀ q, q ∈ out' ↔ q ∈ out ∨ q = pickM st hv m) (hd : ∀ d ∈ (pickM st hv m).deps, N' d.a) : OutOk st hv n out' N' := by
 refine ⟨hs, fun q hq => ?_⟩
 rcases (hm q).1 hq with h1 | h1
 ·exact (outOk_mono h hN).pk q h1
 ·subst h1
  have e := (pickM_of hk).2
  rw [e]
  exact ⟨rfl, hk, hr, hd⟩
end
end V
end Go.Proofs.Ytgialjcichiaoaa

/-
Plain proofs: what slices.Insert does with one element that is put into a list.
-/
namespace Go.Proofs.Ytgialjcichiaoaa
open Go.RowKit
set_option maxRecDepth 100000
set_option maxHeartbeats 4000000

def rput (cur : Array Value) (o : Nat) (cs : List Value) : Array Value := (cur.toList.take o ++ cs ++ cur.toList.drop (o + cs.length)).toArray
theorem rput_get {cur : Array Value} {o : Nat} {cs : List Value} (h : o + cs.length ≤ cur.size) (k : Nat) : (rput cur o cs)[k]? = if k < o then cur[k]? else if k < o + cs.length then cs[k - o]? else cur[k]? := by
 unfold rput
 rw [List.getElem?_toArray, V.splice_get (by simpa using h)]
 simp
theorem rput_size {cur : Array Value} {o : Nat} {cs : List Value} (h : o + cs.length ≤ cur.size) : (rput cur o cs).size = cur.size := by
 have := V.splice_len (c := cur.toList) (xs := cs) (off := o) (by simpa using h)
 simpa [rput] using this

theorem run_copy_wide {P : Program} (w : World) (dT sT ty elem : TypeId) {i : TypeInfo} (g o dLen dCap : Nat) (a : Addr) (sLen sCap : Nat) (cur : Array Value) (t : TypeId) (fr : Nat × Nat) (cs : List Value)
  (hu : P.underlying dT = some (.slice elem)) (hi : P.info? elem = some i)
  (hg : w.heap[g]? = some (.cells cur t fr)) (hn : cs.length = Nat.min sLen dLen * i.size)
  (hsrc : ∀ (j : Nat) (v : Value), cs[j]? = some v → w.cell? (a.add j) = some v) (hfit : o + cs.length ≤ cur.size) (hfr : ∀ k, o ≤ k → k < o + cs.length → (fr.1 ≤ k && k < fr.2) = false) (h1 : ∀ v ∈ cs, v.oneCell' = true) :
  (Builtin.copy_ #[dT, sT] ty #[.slice (some ⟨g, o, none⟩) dLen dCap, .slice (some a) sLen sCap]).run P w =
   .ok (goInt (Nat.min sLen dLen)) (w.setRow g (rput cur o cs)) := by
 have hl := run_loadCells_list (P := P) w a cs hsrc
 have hst := V.run_storeCells_fr P g o t fr cs 0 cur w hg (fun k h2 h3 => hfr k (by omega) (by omega)) (by simpa using hfit) h1
 simp only [Nat.add_zero] at hst
 simp [Builtin.copy_, run_underlying hu, Builtin.lenOf, Builtin.firstCells, sizeOf, typeInfo, hi, ← hn, hl, hst, rput]

theorem pk_under : Try.prog.underlying 23 = some (.slice 104) := by kernel_rfl
theorem pk_info : ∃ i z, Try.prog.info? 104 = some i ∧ i.zero = some z ∧ i.size = 4 ∧ i.bytes = 64 ∧ z.cells.size = 4 := by
 have h : (Try.prog.info? 104).bind (fun i => i.zero.map fun z => (i.size, i.bytes, z.cells.size)) = some (4, 64, 4) := by kernel_rfl
 cases hi : Try.prog.info? 104 with
 | none => rw [hi] at h; cases h
 | some i =>
  rw [hi] at h
  simp only [Option.bind_some] at h
  obtain ⟨z, hz, h⟩ := Option.map_eq_some_iff.1 h
  simp only [Prod.mk.injEq] at h
  exact ⟨i, z, rfl, hz, h.1, h.2.1, h.2.2⟩
theorem pk_size (w : World) : (Go.sizeOf 104).run Try.prog w = .ok 4 w := by
 obtain ⟨i, z, h1, _, h2, _⟩ := pk_info
 simp [sizeOf, typeInfo, h1, h2]

theorem ins_shift (w : World) (g n c i gv vc : Nat) (cur curv : Array Value) (T Tv : TypeId) (fr frv : Nat × Nat) (mid vs : List Value) (hi : i < n) (hroom : n + 1 ≤ c) (hc63 : c ≤ 9223372036854775807) (hne : gv ≠ g)
  (hg : w.heap[g]? = some (.cells cur T fr)) (hgv : w.heap[gv]? = some (.cells curv Tv frv)) (hcs : c * 4 ≤ cur.size) (hfr : ∀ o, (fr.1 ≤ o && o < fr.2) = false) (hfv : ∀ o, (frv.1 ≤ o && o < frv.2) = false)
  (hvs : vs.length = 4) (hvc : ∀ (j : Nat) (v : Value), vs[j]? = some v → curv[j]? = some v) (h1v : ∀ v ∈ vs, v.oneCell' = true)
  (hml : mid.length = (n - i) * 4) (hmc : ∀ (j : Nat) (v : Value), mid[j]? = some v → cur[i * 4 + j]? = some v) (h1m : ∀ v ∈ mid, v.oneCell' = true) :
  Calls Try.prog 165 #[.slice (some ⟨g, 0, none⟩) n c, .int .i64 i, .slice (some ⟨gv, 0, none⟩) 1 vc] w fun e w' =>
   e = .returned (.slice (some ⟨g, 0, none⟩) (n + 1) c) ∧ w' = w.drew.setRow g (rput (rput cur ((i + 1) * 4) mid) (i * 4) vs) := by
 obtain ⟨ti, tz, ti1, ti2, ti3, ti4, ti5⟩ := pk_info
 have hz2 : ¬ ((i : Int) = (n : Int)) := by omega
 have hov : ∀ lb cb, (callFunc 194 #[.slice (some ⟨gv, 0, none⟩) 1 vc, .slice (some ⟨g, (i + 1) * 4, none⟩) lb cb]).run Try.prog w = .ok (.value (.bool false)) w := fun lb cb => by
  rw [run_callFunc_extern Try.func194 (by kernel_rfl) (by kernel_rfl) (by kernel_rfl) (e := Extern.SlicesOverlaps.overlaps #[23, 23] #[4]) (by kernel_rfl),
   Lib.run_overlaps_apart w 23 4 104 pk_under 4 pk_size ⟨gv, 0, none⟩ ⟨g, (i + 1) * 4, none⟩ 1 vc lb cb hne Tv T curv.size cur.size (by simp [World.shape?, hgv]) (by simp [World.shape?, hg]) (by omega) (by simp only [World.frozen?, hgv]; exact hfv _) (by simp only [World.frozen?, hgv]; exact hfv _)]
  rfl
 have hmn : (i + 1) * 4 + mid.length ≤ cur.size := by omega
 have hg0 : w.drew.heap[g]? = some (.cells cur T fr) := hg
 have hcp1 : ∀ ty dc sc, (Builtin.copy_ #[23, 23] ty #[.slice (some ⟨g, (i + 1) * 4, none⟩) (n + 1 - (i + 1)) dc, .slice (some ⟨g, i * 4, none⟩) (n + 1 - i) sc]).run Try.prog w.drew = .ok (goInt ((n - i : Nat) : Int)) (w.drew.setRow g (rput cur ((i + 1) * 4) mid)) := fun ty dc sc => by
  have hm : Nat.min (n + 1 - i) (n + 1 - (i + 1)) = n - i := by simp only [Nat.min_def]; split <;> omega
  have := run_copy_wide (P := Try.prog) w.drew 23 23 ty 104 g ((i + 1) * 4) (n + 1 - (i + 1)) dc ⟨g, i * 4, none⟩ (n + 1 - i) sc cur T fr mid pk_under ti1 hg0 (by rw [hm, ti3]; exact hml)
   (fun j v hj => by rw [Addr.add_lit]; simp only [World.cell?, hg0]; exact hmc j v hj) hmn (fun k _ _ => hfr k) h1m
  rw [hm] at this
  exact this
 have hg1 := setRow_heap w.drew g cur (rput cur ((i + 1) * 4) mid) T fr hg0
 have hgv1 : (w.drew.setRow g (rput cur ((i + 1) * 4) mid)).heap[gv]? = some (.cells curv Tv frv) := (setRow_other w.drew g gv _ hne).trans hgv
 have hcp2 : ∀ ty dc sc, (Builtin.copy_ #[23, 23] ty #[.slice (some ⟨g, i * 4, none⟩) (n + 1 - i) dc, .slice (some ⟨gv, 0, none⟩) 1 sc]).run Try.prog (w.drew.setRow g (rput cur ((i + 1) * 4) mid)) = .ok (goInt 1) (w.drew.setRow g (rput (rput cur ((i + 1) * 4) mid) (i * 4) vs)) := fun ty dc sc => by
  have hm : Nat.min 1 (n + 1 - i) = 1 := by simp only [Nat.min_def]; split <;> omega
  have := run_copy_wide (P := Try.prog) _ 23 23 ty 104 g (i * 4) (n + 1 - i) dc ⟨gv, 0, none⟩ 1 sc _ T fr vs pk_under ti1 hg1 (by rw [hm, ti3]; exact hvs)
   (fun j v hj => by rw [Addr.add_lit]; simp only [World.cell?, hgv1, Nat.zero_add]; exact hvc j v hj) (by rw [rput_size hmn]; omega) (fun k _ _ => hfr k) h1v
  rw [hm, setRow_setRow] at this
  exact this
 clear ti1 ti2 ti3 ti4 ti5
 have hin : i ≤ n := by omega
 have hw1 : IntKind.i64.wrap ((i : Int) + 1) = (i : Int) + 1 := by rw [IntKind.wrap_i64]; omega
 have hb1 : (0 : Int) ≤ (i : Int) + 1 := by omega
 have htn : ((i : Int) + 1).toNat = i + 1 := by omega
 have hb2 : ¬ (c = i + 1) := by omega
 have hb3 : (i : Int) ≤ (n : Int) + 1 := by omega
 have hb4 : ¬ (c = i) := by omega
 have mixed : Try.prog.follows .mixedOrders = true := V.mixed
 go_enter Try.func165, Try.ntmps165
 go_wp2_with (simp only [hov])
 go_region_law_o (refine step_copy_runI rfl _ _ 23 23 rfl (.slice (some ⟨g, (i + 1) * 4, none⟩) (n + 1 - (i + 1)) (c - (i + 1))) (.slice (some ⟨g, i * 4, none⟩) (n + 1 - i) (c - i)) (by simp [Act.eval, Act.put]) (by simp [Act.eval, Act.put]) (hcp1 _ _ _) ?_)
 go_wp2_with (at_builtin; refine wpList_copy_runI _ rfl _ _ 23 23 rfl (.slice (some ⟨g, i * 4, none⟩) (n + 1 - i) (c - i)) (.slice (some ⟨gv, 0, none⟩) 1 vc) rfl rfl (hcp2 _ _ _) ?_)
 go_ret
 exact ⟨rfl, rfl⟩

structure NewRow (w w' : World) (row : Array Value) : Prop where
 os : w'.os = w.os
 tape : w'.tape = w.tape
 output : w'.output = w.output
 size : w'.heap.size = w.heap.size + 1
 same : ∀ k, k < w.heap.size → w'.heap[k]? = w.heap[k]?
 new : w'.heap[w.heap.size]? = some (.cells row 104 (0, 0))

theorem newRow_alloc (w : World) (row : Array Value) : NewRow w (w.drew.alloc (.cells row 104)) row :=
 ⟨rfl, rfl, rfl, by show (w.heap.push _).size = _; simp, fun k hk => heap_alloc_old w.drew _ hk, heap_alloc_new w.drew _⟩
theorem NewRow.drew {w w' : World} {row : Array Value} (h : NewRow w w' row) : NewRow w w'.drew row := ⟨h.os, h.tape, h.output, h.size, h.same, h.new⟩
theorem NewRow.set {w w' : World} {row : Array Value} (h : NewRow w w' row) (row' : Array Value) : NewRow w (w'.setRow w.heap.size row') row' :=
 ⟨h.os, h.tape, h.output, by simp [World.setRow, h.size], fun k hk => (setRow_other w' _ k _ (by omega)).trans (h.same k hk), setRow_heap w' _ _ _ _ _ h.new⟩

theorem ins_grow (w : World) (g n c i gv vc : Nat) (cur curv : Array Value) (T Tv : TypeId) (fr frv : Nat × Nat) (pre mid vs : List Value) (hi : i < n) (hnc : n ≤ c) (hroom : c < n + 1) (hbig : (n + 1) * 64 ≤ 140737488355328)
  (hg : w.heap[g]? = some (.cells cur T fr)) (hgv : w.heap[gv]? = some (.cells curv Tv frv))
  (hvs : vs.length = 4) (hvc : ∀ (j : Nat) (v : Value), vs[j]? = some v → curv[j]? = some v) (h1v : ∀ v ∈ vs, v.oneCell' = true)
  (hml : mid.length = (n - i) * 4) (hmc : ∀ (j : Nat) (v : Value), mid[j]? = some v → cur[i * 4 + j]? = some v) (h1m : ∀ v ∈ mid, v.oneCell' = true)
  (hpl : pre.length = i * 4) (hpc : ∀ (j : Nat) (v : Value), pre[j]? = some v → cur[j]? = some v) :
  Calls Try.prog 165 #[.slice (some ⟨g, 0, none⟩) n c, .int .i64 i, .slice (some ⟨gv, 0, none⟩) 1 vc] w fun e w' =>
   ∃ G ROW, e = .returned (.slice (some ⟨w.heap.size, 0, none⟩) (n + 1) G) ∧ n + 1 ≤ G ∧ G ≤ maxLen ∧ ROW.size = G * 4 ∧ (∀ (j : Nat) (v : Value), pre[j]? = some v → ROW[j]? = some v) ∧ NewRow w w' (rput (rput ROW (i * 4) vs) ((i + 1) * 4) mid) := by
 obtain ⟨ti, tz, ti1, ti2, ti3, ti4, ti5⟩ := pk_info
 have hgl : g < w.heap.size := (Array.getElem?_eq_some_iff.1 hg).1
 have hgvl : gv < w.heap.size := (Array.getElem?_eq_some_iff.1 hgv).1
 have hz2 : ¬ ((i : Int) = (n : Int)) := by omega
 have hz3 : (c : Int) < (n : Int) + 1 := by omega
 have hkk : (n : Int) + 1 - (i : Int) = ((n + 1 - i : Nat) : Int) := by omega
 have hik : i + (n + 1 - i) = n + 1 := by omega
 have hold : (Builtin.firstCells ti.size i (.slice (some ⟨g, 0, none⟩) i c)).run Try.prog w.drew = .ok pre.toArray w.drew := by
  rw [ti3]
  exact run_firstCells_some w.drew 4 i ⟨g, 0, none⟩ i c pre hpl (fun j v hj => by
   rw [Addr.add_lit, Nat.zero_add]
   have hg0 : w.drew.heap[g]? = some (.cells cur T fr) := hg
   simp only [World.cell?, hg0]
   exact hpc j v hj)
 have hrz : ∀ ty, (Builtin.append_ #[23, 3] ty #[.slice (some ⟨g, 0, none⟩) i c, .int .i64 ((n : Int) + 1 - (i : Int))]).run Try.prog w =
   .ok (.slice (some ⟨w.heap.size, 0, none⟩) (n + 1) (grownCap w (n + 1) c 104)) (w.drew.alloc (.cells (pre.toArray ++ Builtin.zeroCells tz.cells (n + 1 - i) ++ Builtin.zeroCells tz.cells (grownCap w (n + 1) c 104 - (n + 1))) 104)) := fun ty => by
  have h := Lib.run_append_grow_zeros (P := Try.prog) w 23 3 ty 104 ti tz .i64 .i64 pk_under (by kernel_rfl) ti1 ti2 (some ⟨g, 0, none⟩) i c pre hold (n + 1 - i) (by omega) (by omega) (by omega) (by omega) (by rw [ti4]; omega) (by rw [ti4, hik]; exact growslice_fits hroom hbig)
  rw [hik] at h
  rw [hkk]
  exact h
 have hGn : n + 1 ≤ grownCap w (n + 1) c 104 := grownCap_ge w _ _ _
 have hGm : grownCap w (n + 1) c 104 ≤ maxLen := grownCap_le_maxLen w (n + 1) c 104 (by unfold maxLen; omega)
 obtain ⟨G, hG⟩ : ∃ G, G = grownCap w (n + 1) c 104 := ⟨_, rfl⟩
 obtain ⟨ROW, hROW⟩ : ∃ ROW : Array Value, ROW = pre.toArray ++ Builtin.zeroCells tz.cells (n + 1 - i) ++ Builtin.zeroCells tz.cells (G - (n + 1)) := ⟨_, rfl⟩
 rw [← hG] at hrz hGn hGm
 rw [← hROW] at hrz
 have hRl : ROW.size = G * 4 := by
  rw [hROW]
  simp only [Array.size_append, size_zeroCells, ti5, List.size_toArray, hpl]
  omega
 have hRp : ∀ (j : Nat) (v : Value), pre[j]? = some v → ROW[j]? = some v := fun j v hj => by
  have hjl := (List.getElem?_eq_some_iff.1 hj).1
  rw [hROW, Array.append_assoc, Array.getElem?_append_left (by simpa using hjl)]
  simpa using hj
 have n1 := newRow_alloc w ROW
 obtain ⟨W1, hW1⟩ : ∃ W1, W1 = w.drew.alloc (.cells ROW 104) := ⟨_, rfl⟩
 rw [← hW1] at hrz n1
 have hcpA : ∀ ty dc sc, (Builtin.copy_ #[23, 23] ty #[.slice (some ⟨w.heap.size, i * 4, none⟩) (n + 1 - i) dc, .slice (some ⟨gv, 0, none⟩) 1 sc]).run Try.prog W1 = .ok (goInt 1) (W1.setRow w.heap.size (rput ROW (i * 4) vs)) := fun ty dc sc => by
  have hm : Nat.min 1 (n + 1 - i) = 1 := by simp only [Nat.min_def]; split <;> omega
  have hgv1 := (n1.same gv hgvl).trans hgv
  have := run_copy_wide (P := Try.prog) W1 23 23 ty 104 w.heap.size (i * 4) (n + 1 - i) dc ⟨gv, 0, none⟩ 1 sc ROW 104 (0, 0) vs pk_under ti1 n1.new (by rw [hm, ti3]; exact hvs)
   (fun j v hj => by rw [Addr.add_lit]; simp only [World.cell?, hgv1, Nat.zero_add]; exact hvc j v hj) (by omega) (fun k _ _ => by simp) h1v
  rw [hm] at this
  exact this
 have n2 := (n1.set (rput ROW (i * 4) vs)).drew
 have hrs : (rput ROW (i * 4) vs).size = ROW.size := rput_size (by omega)
 obtain ⟨W2, hW2⟩ : ∃ W2, W2 = (W1.setRow w.heap.size (rput ROW (i * 4) vs)).drew := ⟨_, rfl⟩
 rw [← hW2] at n2
 have hcpB : ∀ ty dc sc, (Builtin.copy_ #[23, 23] ty #[.slice (some ⟨w.heap.size, (i + 1) * 4, none⟩) (n + 1 - (i + 1)) dc, .slice (some ⟨g, i * 4, none⟩) (n - i) sc]).run Try.prog W2 = .ok (goInt ((n - i : Nat) : Int)) (W2.setRow w.heap.size (rput (rput ROW (i * 4) vs) ((i + 1) * 4) mid)) := fun ty dc sc => by
  have hm : Nat.min (n - i) (n + 1 - (i + 1)) = n - i := by simp only [Nat.min_def]; split <;> omega
  have hg2 := (n2.same g hgl).trans hg
  have := run_copy_wide (P := Try.prog) W2 23 23 ty 104 w.heap.size ((i + 1) * 4) (n + 1 - (i + 1)) dc ⟨g, i * 4, none⟩ (n - i) sc _ 104 (0, 0) mid pk_under ti1 n2.new (by rw [hm, ti3]; exact hml)
   (fun j v hj => by rw [Addr.add_lit]; simp only [World.cell?, hg2]; exact hmc j v hj) (by omega) (fun k _ _ => by simp) h1m
  rw [hm] at this
  exact this
 have n3 := n2.set (rput (rput ROW (i * 4) vs) ((i + 1) * 4) mid)
 have hG63 : G ≤ 9223372036854775807 := by unfold maxLen at hGm; omega
 have hGi : ¬ (G = i) := by omega
 have hGim : ¬ (G = i + 1) := by omega
 have hci : ¬ (c = i) := by omega
 have hw1 : IntKind.i64.wrap ((i : Int) + 1) = (i : Int) + 1 := by rw [IntKind.wrap_i64]; omega
 have hb1 : (0 : Int) ≤ (i : Int) + 1 := by omega
 have hin : i ≤ n := by omega
 have htn : ((i : Int) + 1).toNat = i + 1 := by omega
 have hb3 : (i : Int) ≤ (n : Int) := by omega
 have mixed : Try.prog.follows .mixedOrders = true := V.mixed
 have hE : W1 = (w.alloc (.cells ROW 104)).drew := hW1
 rw [hE] at hcpA hW2 hrz
 clear hE hW1
 subst hW2
 clear hkk hik hold hROW hG ti1 ti2 ti3 ti4 ti5 n1 n2 hg hgv
 go_enter Try.func165, Try.ntmps165
 go_wp2_with (first
  | (at_builtin; refine Lib.wpList_append_run _ rfl _ _ _ _ rfl _ _ rfl rfl _ _ (hrz _) ?_)
  | (at_builtin; refine wpList_copy_runI _ rfl _ _ 23 23 rfl _ _ rfl rfl (hcpA _ _ _) ?_))
 go_region_law_o (refine step_copy_runI rfl _ _ 23 23 rfl (.slice (some ⟨w.heap.size, (i + 1) * 4, none⟩) (n + 1 - (i + 1)) (G - (i + 1))) (.slice (some ⟨g, i * 4, none⟩) (n - i) (c - i)) (by simp [Act.eval, Act.put]) (by simp [Act.eval, Act.put]) (hcpB _ _ _) ?_)
 go_wp2
 go_ret
 exact ⟨G, ROW, rfl, hGn, hGm, hRl, hRp, n3⟩

theorem ins_end_room (w : World) (g n c gv vc : Nat) (cur curv : Array Value) (T Tv : TypeId) (fr frv : Nat × Nat) (vs : List Value) (hroom : n + 1 ≤ c) (hc63 : c ≤ 9223372036854775807)
  (hg : w.heap[g]? = some (.cells cur T fr)) (hgv : w.heap[gv]? = some (.cells curv Tv frv)) (hcs : c * 4 ≤ cur.size) (hfr : ∀ o, (fr.1 ≤ o && o < fr.2) = false)
  (hvs : vs.length = 4) (hvc : ∀ (j : Nat) (v : Value), vs[j]? = some v → curv[j]? = some v) (h1v : ∀ v ∈ vs, V.Cell1 v) :
  Calls Try.prog 165 #[.slice (some ⟨g, 0, none⟩) n c, .int .i64 n, .slice (some ⟨gv, 0, none⟩) 1 vc] w fun e w' =>
   e = .returned (.slice (some ⟨g, 0, none⟩) (n + 1) c) ∧ w' = w.setRow g (rput cur (n * 4) vs) := by
 obtain ⟨ti, tz, ti1, ti2, ti3, ti4, ti5⟩ := pk_info
 have hf : (Builtin.firstCells ti.size 1 (.slice (some ⟨gv, 0, none⟩) 1 vc)).run Try.prog w = .ok vs.toArray w := by
  rw [ti3]
  exact V.run_firstCells_row Try.prog w (by omega) (fun j v hj => by simp only [World.cell?, hgv, Nat.zero_add]; exact hvc j v hj)
 have hrun : ∀ ty, (Builtin.append_ #[23, 23] ty #[.slice (some ⟨g, 0, none⟩) n c, .slice (some ⟨gv, 0, none⟩) 1 vc]).run Try.prog w = .ok (.slice (some ⟨g, 0, none⟩) (n + 1) c) (w.setRow g (rput cur (n * 4) vs)) := fun ty => by
  have h := V.run_app_room (P := Try.prog) (w := w) (ty := ty) pk_under pk_under ti1 (gg := g) (sLen := n) (sCap := c) hg (A := some ⟨gv, 0, none⟩) (n := 1) (cap := vc) (by rw [ti3]; exact hvs) hf h1v hroom (fun o _ => hfr o) (by rw [ti3]; exact hcs)
  rw [ti3] at h
  exact h
 clear hf ti1 ti2 ti3 ti4 ti5
 have mixed : Try.prog.follows .mixedOrders = true := V.mixed
 go_enter Try.func165, Try.ntmps165
 go_wp2_with (at_builtin; refine Lib.wpList_append_run _ rfl _ _ _ _ rfl _ _ rfl rfl _ _ (hrun _) ?_)
 go_ret
 exact ⟨rfl, rfl⟩

theorem ins_end_grow (w : World) (base : Option Nat) (n c gv vc : Nat) (curv : Array Value) (Tv : TypeId) (frv : Nat × Nat) (cs vs : List Value) (hnc : n ≤ c) (hroom : c < n + 1) (hbig : (n + 1) * 64 ≤ 140737488355328)
  (hb : base = none → n = 0) (hg : ∀ g, base = some g → ∀ (j : Nat) (v : Value), cs[j]? = some v → w.cell? ⟨g, j, none⟩ = some v) (hcl : cs.length = n * 4) (hgv : w.heap[gv]? = some (.cells curv Tv frv))
  (hvs : vs.length = 4) (hvc : ∀ (j : Nat) (v : Value), vs[j]? = some v → curv[j]? = some v) :
  Calls Try.prog 165 #[.slice (base.map fun g => ⟨g, 0, none⟩) n c, .int .i64 n, .slice (some ⟨gv, 0, none⟩) 1 vc] w fun e w' =>
   ∃ G ROW, e = .returned (.slice (some ⟨w.heap.size, 0, none⟩) (n + 1) G) ∧ n + 1 ≤ G ∧ G ≤ maxLen ∧ ROW.size = G * 4 ∧ (∀ (j : Nat) (v : Value), (cs ++ vs)[j]? = some v → ROW[j]? = some v) ∧ NewRow w w' ROW := by
 obtain ⟨ti, tz, ti1, ti2, ti3, ti4, ti5⟩ := pk_info
 have hf : (Builtin.firstCells ti.size 1 (.slice (some ⟨gv, 0, none⟩) 1 vc)).run Try.prog w.drew = .ok vs.toArray w.drew := by
  rw [ti3]
  have hgv0 : w.drew.heap[gv]? = some (.cells curv Tv frv) := hgv
  exact V.run_firstCells_row Try.prog w.drew (by omega) (fun j v hj => by simp only [World.cell?, hgv0, Nat.zero_add]; exact hvc j v hj)
 have hfo : (Builtin.firstCells ti.size n (.slice (base.map fun g => ⟨g, 0, none⟩) n c)).run Try.prog w.drew = .ok cs.toArray w.drew := by
  rw [ti3]
  cases base with
  | none =>
   have h0 := hb rfl
   subst h0
   have hc0 : cs = [] := List.length_eq_zero_iff.1 (by simpa using hcl)
   rw [hc0]
   exact run_firstCells_none w.drew 4 0 0 c
  | some g => exact V.run_firstCells_row Try.prog w.drew hcl (fun j v hj => by rw [Nat.zero_add]; exact hg g rfl j v hj)
 have hrun : ∀ ty, (Builtin.append_ #[23, 23] ty #[.slice (base.map fun g => ⟨g, 0, none⟩) n c, .slice (some ⟨gv, 0, none⟩) 1 vc]).run Try.prog w = .ok (.slice (some ⟨w.heap.size, 0, none⟩) (n + 1) (grownCap w (n + 1) c 104))
   (w.drew.alloc (.cells (cs.toArray ++ vs.toArray ++ Builtin.zeroCells tz.cells (grownCap w (n + 1) c 104 - (n + 1))) 104)) := fun ty =>
  V.run_app_grow (P := Try.prog) (w := w) (ty := ty) pk_under pk_under ti1 ti2 hfo hf hroom (by omega) (by rw [ti4]; exact growslice_fits hroom hbig)
 have hGn : n + 1 ≤ grownCap w (n + 1) c 104 := grownCap_ge w _ _ _
 have hGm : grownCap w (n + 1) c 104 ≤ maxLen := grownCap_le_maxLen w (n + 1) c 104 (by unfold maxLen; omega)
 obtain ⟨G, hG⟩ : ∃ G, G = grownCap w (n + 1) c 104 := ⟨_, rfl⟩
 obtain ⟨ROW, hROW⟩ : ∃ ROW : Array Value, ROW = cs.toArray ++ vs.toArray ++ Builtin.zeroCells tz.cells (G - (n + 1)) := ⟨_, rfl⟩
 rw [← hG] at hrun hGn hGm
 rw [← hROW] at hrun
 have hRl : ROW.size = G * 4 := by
  rw [hROW]
  simp only [Array.size_append, size_zeroCells, ti5, List.size_toArray, hcl, hvs]
  omega
 have hRp : ∀ (j : Nat) (v : Value), (cs ++ vs)[j]? = some v → ROW[j]? = some v := fun j v hj => by
  have hjl := (List.getElem?_eq_some_iff.1 hj).1
  rw [hROW, Array.getElem?_append_left (by simpa using hjl)]
  simpa using hj
 have n1 := newRow_alloc w ROW
 clear hf hfo hG hROW ti1 ti2 ti3 ti4 ti5 hg hgv
 have mixed : Try.prog.follows .mixedOrders = true := V.mixed
 go_enter Try.func165, Try.ntmps165
 cases base with
 | none =>
  have h0 := hb rfl
  subst h0
  simp only [Option.map_none] at hrun ⊢
  go_wp2_with (at_builtin; refine Lib.wpList_append_run _ rfl _ _ _ _ rfl _ _ rfl rfl _ _ (hrun _) ?_)
  go_ret
  exact ⟨G, rfl, hGn, hGm, ROW, hRl, hRp, n1⟩
 | some g =>
  simp only [Option.map_some] at hrun ⊢
  go_wp2_with (at_builtin; refine Lib.wpList_append_run _ rfl _ _ _ _ rfl _ _ rfl rfl _ _ (hrun _) ?_)
  all_goals (go_ret; exact ⟨G, ROW, rfl, hGn, hGm, hRl, hRp, n1⟩)
end Go.Proofs.Ytgialjcichiaoaa

/-
Plain proofs: one package is put into a list.
-/
namespace Go.Proofs.Ytgialjcichiaoaa
namespace V
set_option maxRecDepth 100000
variable {W : Wld} {w w' : World} {own : Own} {cx : Cx}

theorem row_one {sz : Nat} (hsz : 0 < sz) {lf : Leaf} {xs : List (List D)} {cur : Array Value} {vs1 : Nat → Nat → Value} (a8 : ∀ x ∈ xs, x.length = sz) (a9 : ∀ (k : Nat) (x : List D) (j : Nat) (d : D), xs[k]? = some x → x[j]? = some d → cur[k * sz + j]? = some (vs1 k j))
  (a10 : ∀ (k : Nat) (x : List D) (j : Nat) (d : D), xs[k]? = some x → x[j]? = some d → InRep w own lf true [(k, j)] d (vs1 k j)) (o : Nat) (ho : o < xs.length * sz) (u : Value) (hu : cur[o]? = some u) : Cell1 u := by
 have hk : o / sz < xs.length := Nat.div_lt_of_lt_mul (by rw [Nat.mul_comm]; exact ho)
 have hx : xs[o / sz]? = some xs[o / sz] := List.getElem?_eq_getElem hk
 have hj : o % sz < xs[o / sz].length := by rw [a8 _ (List.mem_of_getElem? hx)]; exact Nat.mod_lt _ hsz
 have hd := List.getElem?_eq_getElem hj
 have h9 := a9 _ _ _ _ hx hd
 rw [Nat.div_add_mod', hu] at h9
 simp only [Option.some.injEq] at h9
 rw [h9]
 exact (a10 _ _ _ _ hx hd).cell1

theorem seg_get {cur : Array Value} {o n : Nat} (j : Nat) : ((cur.toList.drop o).take n)[j]? = if j < n then cur[o + j]? else none := by
 rw [List.getElem?_take]
 split
 ·rw [List.getElem?_drop, Array.getElem?_toList]
 ·rfl
theorem seg_len {cur : Array Value} {o n : Nat} (h : o + n ≤ cur.size) : ((cur.toList.drop o).take n).length = n := by
 rw [List.length_take, List.length_drop, Array.length_toList]
 omega

theorem ins_res {g' cap' : Nat} {l : List Pk} {p : Pk} {i : Nat} (hi : i ≤ l.length) {vals : List Value}
  (h : ∃ own', WOk w own cx own' w' ∧ OwnRep w' cx own' (0, 1) true ⟨4, true⟩ (.sl ((l.map ePk).take i ++ ePk p :: (l.map ePk).drop i)) (.slice (some ⟨g', 0, none⟩) ((l.map ePk).length + 1) cap')) :
  ∃ v own', Ending.returned (.slice (some ⟨g', 0, none⟩) ((l.map ePk).length + 1) cap') = Ending.returned v ∧ WOk w own cx own' w' ∧ ResOk w' cx own' s_sl_Insert_Pkg_X [ePks (l.take i ++ p :: l.drop i)] vals v := by
 obtain ⟨own', h1, h2⟩ := h
 refine ⟨_, own', rfl, h1, ?_⟩
 refine ⟨rfl, [.slice (some ⟨g', 0, none⟩) ((l.map ePk).length + 1) cap'], rfl, rfl, fun k q hq => ?_, fun i b hb => by simp [boxPs] at hb⟩
 cases k with
 | succ k => simp at hq
 | zero =>
  have hq : PSh.v false [.o true ⟨4, true⟩] = q := by simpa using hq
  subst hq
  refine ⟨[.slice (some ⟨g', 0, none⟩) ((l.map ePk).length + 1) cap'], rfl, fun _ => rfl, rfl, rfl, fun j c dd v hc hd hv => ?_⟩
  cases j with
  | succ j => simp at hc
  | zero =>
   simp only [List.getElem?_cons_zero, Option.some.injEq] at hc hv
   subst hc; subst hv
   have hd : some (D.sl ((l.take i ++ p :: l.drop i).map ePk)) = some dd := hd
   simp only [Option.some.injEq] at hd
   subst hd
   refine ⟨⟨fun c h => (by cases h), fun c h => (by cases h)⟩, ?_⟩
   simp only [List.map_append, List.map_cons, List.map_take, List.map_drop]
   exact h2

theorem insert_X (l : List Pk) (p : Pk) (i : Nat) (hi : i ≤ l.length) (hl : l.length ≤ lim) : FunOk PP W n_sl_Insert_Pkg s_sl_Insert_Pkg_X [ePks l, i64 (i : Int), ePks [p]] [ePks (l.take i ++ p :: l.drop i)] := by
 refine ⟨⟨Try.f165, Try.func165, by kernel_rfl, by kernel_rfl⟩, fun w own cx vals hP hw hlow hvl hil hinv => ?_⟩
 match vals, hvl with
 | [v0, v1, v2], _ =>
  obtain ⟨vs0, e0, l0, a0⟩ := hinv (0, .v false [.o true ⟨4, true⟩]) (List.mem_cons_self ..)
  obtain ⟨vs1, e1, l1, a1⟩ := hinv (1, .v false [.s]) (List.mem_cons_of_mem _ (List.mem_cons_self ..))
  obtain ⟨vs2, e2, l2, a2⟩ := hinv (2, .v false [.o true ⟨4, true⟩]) (List.mem_cons_of_mem _ (List.mem_cons_of_mem _ (List.mem_cons_self ..)))
  have hl0 := l0 rfl
  have hl1 := l1 rfl
  have hl2 := l2 rfl
  match vs0, hl0, vs1, hl1, vs2, hl2 with
  | [u0], _, [u1], _, [u2], _ =>
   have h0 : v0 = u0 := e0
   have h1 : v1 = u1 := e1
   have h2 : v2 = u2 := e2
   subst h0; subst h1; subst h2
   obtain ⟨_, hr⟩ := a0.2.2 0 _ (.sl (l.map ePk)) v0 rfl rfl rfl
   obtain ⟨_, hs⟩ := a1.2.2 0 .s (.int .i64 (i : Int)) v1 rfl rfl rfl
   obtain ⟨_, hv⟩ := a2.2.2 0 _ (.sl ([p].map ePk)) v2 rfl rfl rfl
   have hv1 : v1 = .int .i64 (i : Int) := by cases hs; rfl
   subst hv1
   have hr : OwnRep w cx own (0, 1) true ⟨4, true⟩ (.sl (l.map ePk)) v0 := hr
   have hv : OwnRep w cx own (2, 1) true ⟨4, true⟩ (.sl ([p].map ePk)) v2 := hv
   have hlen : (l.map ePk).length = l.length := List.length_map ..
   have hlim : lim = 1073741824 := rfl
   generalize hxs : l.map ePk = xs at hr hlen
   cases hv with
   | ip _ _ hf => cases hf
   | sl ys gv capv curv Tv frv wv q1 q2 q3 q4 q5 q6 q7 q8 q9 q10 =>
    simp only [] at q3 q4 q5 q6 q8 q9 q10
    have q3 : 1 ≤ capv := q3
    have b9 : ∀ (j : Nat) (d : D), (ePk p)[j]? = some d → curv[j]? = some (wv 0 j) := fun j d hd => by
     have := q9 0 (ePk p) j d rfl hd
     rwa [Nat.zero_mul, Nat.zero_add] at this
    have b10 : ∀ (j : Nat) (d : D), (ePk p)[j]? = some d → InRep w own (2, 1) true [(0, j)] d (wv 0 j) := fun j d hd => q10 0 (ePk p) j d rfl hd
    have hfv : ∀ o, (frv.1 ≤ o && o < frv.2) = false := fun o => q6 o (.inr (by decide))
    have hcv : 4 ≤ curv.size := by omega
    have v1 : ((curv.toList.drop 0).take 4).length = 4 := seg_len (by omega)
    have v2 : ∀ (j : Nat) (v : Value), ((curv.toList.drop 0).take 4)[j]? = some v → curv[j]? = some v := fun j v hj => by
     rw [seg_get] at hj
     split at hj
     ·rwa [Nat.zero_add] at hj
     ·cases hj
    have v4 : ∀ j, j < 4 → ((curv.toList.drop 0).take 4)[j]? = curv[j]? := fun j hj => by rw [seg_get, if_pos hj, Nat.zero_add]
    have v3 : ∀ v ∈ (curv.toList.drop 0).take 4, Cell1 v := fun v hm => by
     obtain ⟨j, hj⟩ := List.getElem?_of_mem hm
     have hj4 := (List.getElem?_eq_some_iff.1 hj).1
     rw [v1] at hj4
     exact row_one (sz := 4) (by decide) (xs := [ePk p]) (cur := curv) (vs1 := wv) q8 q9 q10 j (by simpa using hj4) v (v2 j v hj)
    generalize (curv.toList.drop 0).take 4 = vs at v1 v2 v3 v4
    have hgl := heap_lt q1
    cases hr with
    | ip _ _ hf => cases hf
    | nil =>
     have hl0 : l = [] := by cases l with | nil => rfl | cons a b => simp at hxs
     subst hl0
     have hi0 : i = 0 := by simpa using hi
     subst hi0
     refine (ins_end_grow w none 0 0 gv capv curv Tv frv [] vs (by omega) (by omega) (by omega) (fun _ => rfl) (fun g h => by cases h) rfl q1 v1 v2).mono ?_
     rintro e w' ⟨G, ROW, rfl, k1, k2, k3, k4, k5⟩
     refine ins_res (l := []) (p := p) (i := 0) (Nat.le_refl _) (ins_core hw (sz := 4) (cur := #[]) (curv := curv) (cur' := ROW) (T' := 104) (fr' := (0, 0)) (vs1 := fun _ _ => undef) (vs2 := wv 0) (fun x hx => by simp at hx) (fun k x j d hk => by simp at hk) (fun k x j d hk => by simp at hk)
      (by rfl) b9 b10 (Nat.le_refl _) (by decide) k5.os k5.tape k5.output (by rw [k5.size]; omega) (fun k hk _ => k5.same k hk) k5.new (.inl (Nat.le_refl _)) (fun k j hk hj => ?_) k1 k2 (by omega) (fun o _ => by simp))
     have hk0 : k = 0 := by simpa using hk
     subst hk0
     rw [if_neg (Nat.lt_irrefl _), if_pos rfl, ← v4 j hj, Nat.zero_mul, Nat.zero_add]
     have hjl : j < vs.length := by omega
     rw [List.getElem?_eq_getElem hjl]
     exact k4 j _ (by simpa using List.getElem?_eq_getElem hjl)
    | sl _ g cap cur T fr wx p1 p2 p3 p4 p5 p6 p7 p8 p9 p10 =>
     simp only [] at p2 p5 p6 p8 p9 p10
     have hfr : ∀ o, (fr.1 ≤ o && o < fr.2) = false := fun o => p6 o (.inr (by decide))
     have hne : gv ≠ g := fun e => by
      rw [e, p2] at q2
      simp at q2
     have hm63 : maxLen = 9223372036854775807 := rfl
     have hcap : l.length ≤ cap := by omega
     have hrow := row_one (sz := 4) (by decide) p8 p9 p10
     have hold : own g = some ⟨(0, 1), [], some 0⟩ ∧ ∃ c0 : Array Value, w.heap[g]? = some (.cells c0 T fr) ∧ cur.size = c0.size := ⟨p2, cur, p1, rfl⟩
     by_cases hin : i = l.length
     ·subst hin
      by_cases hroom : l.length + 1 ≤ cap
      ·rw [hlen]
       refine (ins_end_room w g l.length cap gv capv cur curv T Tv fr frv vs hroom (by omega) p1 q1 p5 hfr v1 v2 v3).mono ?_
       rintro e w' ⟨rfl, rfl⟩
       have hs : l.length * 4 + vs.length ≤ cur.size := by omega
       have := ins_core hw (w' := w.setRow g (rput cur (l.length * 4) vs)) (sz := 4) (xs := xs) (y := ePk p) (i := l.length) (g' := g) (cap' := cap) (cur := cur) (curv := curv) (cur' := rput cur (l.length * 4) vs) (T' := T) (fr' := fr) (vs1 := wx) (vs2 := wv 0) p8 p9 p10
        (by rfl) b9 b10 (by omega) (by decide) rfl rfl rfl (by simp [World.setRow]) (fun k _ hk => setRow_other w g k _ hk) (setRow_heap w g cur _ T fr p1) (.inr ⟨p2, cur, p1, rput_size hs⟩) (fun k j hk hj => ?_) (by omega) p4 (by rw [rput_size hs]; exact p5) p6
       ·rw [← hxs] at this
        have h := ins_res (l := l) (p := p) (i := l.length) (vals := [.slice (some ⟨g, 0, none⟩) l.length cap, .int .i64 (l.length : Int), .slice (some ⟨gv, 0, none⟩) 1 capv]) (Nat.le_refl _) this
        rw [hxs, hlen] at h
        exact h
       ·rw [rput_get hs]
        by_cases c1 : k < l.length
        ·rw [if_pos (by omega), if_pos c1]
        ·have hk' : k = l.length := by omega
         subst hk'
         rw [if_neg (by omega), if_pos (by omega), if_neg (Nat.lt_irrefl _), if_pos rfl, show l.length * 4 + j - l.length * 4 = j by omega, v4 j hj]
      ·have c1 : ((cur.toList.drop 0).take (l.length * 4)).length = l.length * 4 := seg_len (by omega)
       rw [hlen]
       refine (ins_end_grow w (some g) l.length cap gv capv curv Tv frv ((cur.toList.drop 0).take (l.length * 4)) vs hcap (by omega) (by omega) (fun h => by cases h) (fun g0 hg0 j v hj => by
        simp only [Option.some.injEq] at hg0
        subst hg0
        simp only [World.cell?, p1]
        rw [seg_get] at hj
        split at hj
        ·rwa [Nat.zero_add] at hj
        ·cases hj) c1 q1 v1 v2).mono ?_
       rintro e w' ⟨G, ROW, rfl, k1, k2, k3, k4, k5⟩
       have := ins_core hw (w' := w') (sz := 4) (xs := xs) (y := ePk p) (i := l.length) (g' := w.heap.size) (cap' := G) (cur := cur) (curv := curv) (cur' := ROW) (T' := 104) (fr' := (0, 0)) (vs1 := wx) (vs2 := wv 0) p8 p9 p10
        (by rfl) b9 b10 (by omega) (by decide) k5.os k5.tape k5.output (by rw [k5.size]; omega) (fun k hk _ => k5.same k hk) k5.new (.inl (Nat.le_refl _)) (fun k j hk hj => ?_) (by omega) k2 (by omega) (fun o _ => by simp)
       ·rw [← hxs] at this
        have h := ins_res (l := l) (p := p) (i := l.length) (vals := [.slice (some ⟨g, 0, none⟩) l.length cap, .int .i64 (l.length : Int), .slice (some ⟨gv, 0, none⟩) 1 capv]) (Nat.le_refl _) this
        rw [hxs, hlen] at h
        exact h
       ·by_cases c2 : k < l.length
        ·rw [if_pos c2]
         have hlt : k * 4 + j < cur.size := by omega
         rw [Array.getElem?_eq_getElem hlt]
         refine k4 _ _ ?_
         rw [List.getElem?_append_left (by omega), seg_get, if_pos (by omega), Nat.zero_add, Array.getElem?_eq_getElem hlt]
        ·have hk' : k = l.length := by omega
         subst hk'
         rw [if_neg (Nat.lt_irrefl _), if_pos rfl, ← v4 j hj]
         have hjl : j < vs.length := by omega
         rw [List.getElem?_eq_getElem hjl]
         refine k4 _ _ ?_
         rw [List.getElem?_append_right (by omega), c1, show l.length * 4 + j - l.length * 4 = j by omega, List.getElem?_eq_getElem hjl]
     ·have hin' : i < l.length := by omega
      have m1 : ((cur.toList.drop (i * 4)).take ((l.length - i) * 4)).length = (l.length - i) * 4 := seg_len (by omega)
      have m2 : ∀ (j : Nat) (v : Value), ((cur.toList.drop (i * 4)).take ((l.length - i) * 4))[j]? = some v → cur[i * 4 + j]? = some v := fun j v hj => by
       rw [seg_get] at hj
       split at hj
       ·exact hj
       ·cases hj
      have m4 : ∀ j, j < (l.length - i) * 4 → ((cur.toList.drop (i * 4)).take ((l.length - i) * 4))[j]? = cur[i * 4 + j]? := fun j hj => by rw [seg_get, if_pos hj]
      have m3 : ∀ v ∈ (cur.toList.drop (i * 4)).take ((l.length - i) * 4), v.oneCell' = true := fun v hm => by
       obtain ⟨j, hj⟩ := List.getElem?_of_mem hm
       have hjl := (List.getElem?_eq_some_iff.1 hj).1
       exact (hrow (i * 4 + j) (by omega) v (m2 j v hj)).one
      generalize (cur.toList.drop (i * 4)).take ((l.length - i) * 4) = mid at m1 m2 m3 m4
      by_cases hroom : l.length + 1 ≤ cap
      ·rw [hlen]
       refine (ins_shift w g l.length cap i gv capv cur curv T Tv fr frv mid vs hin' hroom (by omega) hne p1 q1 p5 hfr hfv v1 v2 (fun v h => (v3 v h).one) m1 m2 m3).mono ?_
       rintro e w' ⟨rfl, rfl⟩
       have hs : (i + 1) * 4 + mid.length ≤ cur.size := by omega
       have hs1 : i * 4 + vs.length ≤ (rput cur ((i + 1) * 4) mid).size := by rw [rput_size hs]; omega
       have := ins_core hw (w' := w.drew.setRow g (rput (rput cur ((i + 1) * 4) mid) (i * 4) vs)) (sz := 4) (xs := xs) (y := ePk p) (i := i) (g' := g) (cap' := cap) (cur := cur) (curv := curv) (cur' := rput (rput cur ((i + 1) * 4) mid) (i * 4) vs) (T' := T) (fr' := fr) (vs1 := wx) (vs2 := wv 0) p8 p9 p10
        (by rfl) b9 b10 (by omega) (by decide) rfl rfl rfl (by show _ ≤ (w.heap.modify _ _).size; simp) (fun k _ hk => setRow_other w.drew g k _ hk) (setRow_heap w.drew g cur _ T fr p1) (.inr ⟨p2, cur, p1, by rw [rput_size hs1, rput_size hs]⟩) (fun k j hk hj => ?_) (by omega) p4 (by rw [rput_size hs1, rput_size hs]; exact p5) p6
       ·rw [← hxs] at this
        have h := ins_res (l := l) (p := p) (i := i) (vals := [.slice (some ⟨g, 0, none⟩) l.length cap, .int .i64 (i : Int), .slice (some ⟨gv, 0, none⟩) 1 capv]) hi this
        rw [hxs, hlen] at h
        exact h
       ·rw [rput_get hs1, rput_get hs]
        by_cases c1 : k < i
        ·rw [if_pos (by omega), if_pos (by omega), if_pos c1]
        ·by_cases c2 : k = i
         ·subst c2
          rw [if_neg (by omega), if_pos (by omega), if_neg (Nat.lt_irrefl _), if_pos rfl, show k * 4 + j - k * 4 = j by omega, v4 j hj]
         ·rw [if_neg (by omega), if_neg (by omega), if_neg (by omega), if_pos (by omega), if_neg c1, if_neg c2, m4 _ (by omega)]
          congr 1
          omega
      ·have c1 : ((cur.toList.drop 0).take (i * 4)).length = i * 4 := seg_len (by omega)
       rw [hlen]
       refine (ins_grow w g l.length cap i gv capv cur curv T Tv fr frv ((cur.toList.drop 0).take (i * 4)) mid vs hin' hcap (by omega) (by omega) p1 q1 v1 v2 (fun v h => (v3 v h).one) m1 m2 m3 c1 (fun j v hj => by
        rw [seg_get] at hj
        split at hj
        ·rwa [Nat.zero_add] at hj
        ·cases hj)).mono ?_
       rintro e w' ⟨G, ROW, rfl, k1, k2, k3, k4, k5⟩
       have hs1 : i * 4 + vs.length ≤ ROW.size := by omega
       have hs : (i + 1) * 4 + mid.length ≤ (rput ROW (i * 4) vs).size := by rw [rput_size hs1]; omega
       have := ins_core hw (w' := w') (sz := 4) (xs := xs) (y := ePk p) (i := i) (g' := w.heap.size) (cap' := G) (cur := cur) (curv := curv) (cur' := rput (rput ROW (i * 4) vs) ((i + 1) * 4) mid) (T' := 104) (fr' := (0, 0)) (vs1 := wx) (vs2 := wv 0) p8 p9 p10
        (by rfl) b9 b10 (by omega) (by decide) k5.os k5.tape k5.output (by rw [k5.size]; omega) (fun k hk _ => k5.same k hk) k5.new (.inl (Nat.le_refl _)) (fun k j hk hj => ?_) (by omega) k2 (by rw [rput_size hs, rput_size hs1]; omega) (fun o _ => by simp)
       ·rw [← hxs] at this
        have h := ins_res (l := l) (p := p) (i := i) (vals := [.slice (some ⟨g, 0, none⟩) l.length cap, .int .i64 (i : Int), .slice (some ⟨gv, 0, none⟩) 1 capv]) hi this
        rw [hxs, hlen] at h
        exact h
       ·rw [rput_get hs, rput_get hs1]
        by_cases c3 : k < i
        ·rw [if_pos (by omega), if_pos (by omega), if_pos c3]
         have hlt : k * 4 + j < cur.size := by omega
         rw [Array.getElem?_eq_getElem hlt]
         refine k4 _ _ ?_
         rw [seg_get, if_pos (by omega), Nat.zero_add, Array.getElem?_eq_getElem hlt]
        ·by_cases c2 : k = i
         ·subst c2
          rw [if_pos (by omega), if_neg (by omega), if_pos (by omega), if_neg (Nat.lt_irrefl _), if_pos rfl, show k * 4 + j - k * 4 = j by omega, v4 j hj]
         ·rw [if_neg (by omega), if_pos (by omega), if_neg c3, if_neg c2, m4 _ (by omega)]
          congr 1
          omega
end V
end Go.Proofs.Ytgialjcichiaoaa

/-
Plain proofs: what the laws compare, mark and find marked: lists of numbers, files, packages.
-/
namespace Go.Proofs.Ytgialjcichiaoaa
namespace V
open Classical
set_option maxRecDepth 100000
variable {W : Wld}

theorem eqFile_ok (p q : P2) : FunOk PP W n_l_eqFile s_l_eqFile [eP2 p, eP2 q] [bo (decide (p = q))] := by
 refine F_l_eqFile (run_fun ?_)
 (repeat' first
  | (refine run_ite rfl (fun h => ?_) (fun h => ?_) <;> (try simp (disch := omega) only [zA, z13, z19, z20, z21, z22, z23, z24, z25, z31, eqDs, eqD, Nat.reduceAdd, wrap64] at h) <;> (try (exfalso; omega)))
  | (refine run_need rfl (by (try simp (disch := omega) only [zA, z13, z19, z20, z21, z22, z23, z24, z25, z31, eqDs, eqD, Nat.reduceAdd, wrap64]); first | exact elp_m (by omega) (by first | omega | (simp only [List.length_set]; omega)) (fun _ => rfl) | exact eld_m (by omega) (by first | omega | (simp only [List.length_set]; omega)) (fun _ => rfl) | exact els_m (by omega) (by omega) (by omega) rfl | exact lsl_m (by omega) (fun _ => rfl) | exact app_nil_m (by omega) (fun _ => rfl) (fun _ => rfl) | exact app_m_one (by omega) (fun _ => rfl) rfl rfl | exact app_m_m (by omega) (fun _ => rfl) (fun _ => rfl)) ?_)
  | (refine run_need rfl (by first | decide | omega | (simp only [List.length_map]; omega)) ?_)
  | (refine run_need rfl ?_ ?_)
  | (refine run_ret rfl ?_ ; first | refine rb ?_ | refine ri ?_ | refine rs2 ?_ ?_ | refine rs1 ?_)
  | (refine run_retx rfl ?_))
 ·exact fD (fun h' => by simp_all)
 ·exact fD (fun h' => by simp_all)
 ·exact tD (p2_ext (by assumption) (by assumption))
theorem eqFileS_ok (a b : List P2) (ha : a.length ≤ lim) : FunOk PP W n_l_eqFileS s_l_eqFileS [eP2s a, eP2s b] [bo (decide (a = b))] := by
 refine F_l_eqFileS (run_fun ?_)
 unfold lim at ha
 (repeat' first
  | (refine run_ite rfl (fun h => ?_) (fun h => ?_) <;> (try simp (disch := omega) only [zA, z13, z19, z20, z21, z22, z23, z24, z25, z31, eqDs, eqD, Nat.reduceAdd, wrap64] at h) <;> (try (exfalso; omega)))
  | (refine run_need rfl (by (try simp (disch := omega) only [zA, z13, z19, z20, z21, z22, z23, z24, z25, z31, eqDs, eqD, Nat.reduceAdd, wrap64]); first | exact elp_m (by omega) (by first | omega | (simp only [List.length_set]; omega)) (fun _ => rfl) | exact eld_m (by omega) (by first | omega | (simp only [List.length_set]; omega)) (fun _ => rfl) | exact els_m (by omega) (by omega) (by omega) rfl | exact lsl_m (by omega) (fun _ => rfl) | exact app_nil_m (by omega) (fun _ => rfl) (fun _ => rfl) | exact app_m_one (by omega) (fun _ => rfl) rfl rfl | exact app_m_m (by omega) (fun _ => rfl) (fun _ => rfl)) ?_)
  | (refine run_need rfl (by first | decide | omega | (simp only [List.length_map]; omega)) ?_)
  | (refine run_need rfl ?_ ?_)
  | (refine run_ret rfl ?_ ; first | refine rb ?_ | refine ri ?_ | refine rs2 ?_ ?_ | refine rs1 ?_)
  | (refine run_retx rfl ?_))
 ·exact fD (fun h' => by simp_all)
 have hn : a.length = b.length := by omega
 clear h
 refine run_loop rfl (fun i : Int => 0 ≤ i ∧ i ≤ a.length ∧ Blw i (fun j => ix a j = ix b j)) (fun i => [(5, .val (i64 i)), (0, .val (eP2s a)), (1, .val (eP2s b))]) (fun i => (a.length - i).toNat) 0 ⟨by omega, by omega, blw_zero _⟩ ⟨rfl, rfl, rfl, trivial⟩ rfl ?_
 rintro i e ⟨h0, hN, hP⟩
 (repeat' first
  | (refine run_ite rfl (fun h => ?_) (fun h => ?_) <;> (try simp (disch := omega) only [zA, z13, z19, z20, z21, z22, z23, z24, z25, z31, eqDs, eqD, Nat.reduceAdd, wrap64] at h) <;> (try (exfalso; omega)))
  | (refine run_need rfl (by (try simp (disch := omega) only [zA, z13, z19, z20, z21, z22, z23, z24, z25, z31, eqDs, eqD, Nat.reduceAdd, wrap64]); first | exact elp_m (by omega) (by first | omega | (simp only [List.length_set]; omega)) (fun _ => rfl) | exact eld_m (by omega) (by first | omega | (simp only [List.length_set]; omega)) (fun _ => rfl) | exact els_m (by omega) (by omega) (by omega) rfl | exact lsl_m (by omega) (fun _ => rfl) | exact app_nil_m (by omega) (fun _ => rfl) (fun _ => rfl) | exact app_m_one (by omega) (fun _ => rfl) rfl rfl | exact app_m_m (by omega) (fun _ => rfl) (fun _ => rfl)) ?_)
  | (refine run_need rfl (by first | decide | omega | (simp only [List.length_map]; omega)) ?_)
  | (refine run_calleq rfl (eqFile_ok (ix a i) (ix b i)) (by simp (disch := omega) only [zA, z13, z19, z20, z21, z22, z23, z24, z25, z31, eqDs, eqD, Nat.reduceAdd, wrap64]) rfl ?_)
  | (refine run_next rfl (Exists.intro (i + 1) ⟨by omega, ⟨by omega, by omega, blw_succ hP (by assumption)⟩, i64_eq (wrap64 _ (by omega)), rfl, rfl, trivial⟩))
  | (refine run_need rfl ?_ ?_)
  | (refine run_ret rfl ?_ ; first | refine rb ?_ | refine ri ?_ | refine rs2 ?_ ?_ | refine rs1 ?_)
  | (refine run_retx rfl ?_))
 ·exact fD (fun h' => by subst h'; exact absurd rfl (by assumption))
 ·exact tD (ix_ext hn (blw_to hP (by omega)))

theorem eqDep_ok (p q : P2) : FunOk PP W n_l_eqDep s_l_eqDep [eP2 p, eP2 q] [bo (decide (p = q))] := by
 refine F_l_eqDep (run_fun ?_)
 (repeat' first
  | (refine run_ite rfl (fun h => ?_) (fun h => ?_) <;> (try simp (disch := omega) only [zA, z13, z19, z20, z21, z22, z23, z24, z25, z31, eqDs, eqD, Nat.reduceAdd, wrap64] at h) <;> (try (exfalso; omega)))
  | (refine run_need rfl (by (try simp (disch := omega) only [zA, z13, z19, z20, z21, z22, z23, z24, z25, z31, eqDs, eqD, Nat.reduceAdd, wrap64]); first | exact elp_m (by omega) (by first | omega | (simp only [List.length_set]; omega)) (fun _ => rfl) | exact eld_m (by omega) (by first | omega | (simp only [List.length_set]; omega)) (fun _ => rfl) | exact els_m (by omega) (by omega) (by omega) rfl | exact lsl_m (by omega) (fun _ => rfl) | exact app_nil_m (by omega) (fun _ => rfl) (fun _ => rfl) | exact app_m_one (by omega) (fun _ => rfl) rfl rfl | exact app_m_m (by omega) (fun _ => rfl) (fun _ => rfl)) ?_)
  | (refine run_need rfl (by first | decide | omega | (simp only [List.length_map]; omega)) ?_)
  | (refine run_need rfl ?_ ?_)
  | (refine run_ret rfl ?_ ; first | refine rb ?_ | refine ri ?_ | refine rs2 ?_ ?_ | refine rs1 ?_)
  | (refine run_retx rfl ?_))
 ·exact fD (fun h' => by simp_all)
 ·exact fD (fun h' => by simp_all)
 ·exact tD (p2_ext (by assumption) (by assumption))
theorem eqDepS_ok (a b : List P2) (ha : a.length ≤ lim) : FunOk PP W n_l_eqDepS s_l_eqDepS [eP2s a, eP2s b] [bo (decide (a = b))] := by
 refine F_l_eqDepS (run_fun ?_)
 unfold lim at ha
 (repeat' first
  | (refine run_ite rfl (fun h => ?_) (fun h => ?_) <;> (try simp (disch := omega) only [zA, z13, z19, z20, z21, z22, z23, z24, z25, z31, eqDs, eqD, Nat.reduceAdd, wrap64] at h) <;> (try (exfalso; omega)))
  | (refine run_need rfl (by (try simp (disch := omega) only [zA, z13, z19, z20, z21, z22, z23, z24, z25, z31, eqDs, eqD, Nat.reduceAdd, wrap64]); first | exact elp_m (by omega) (by first | omega | (simp only [List.length_set]; omega)) (fun _ => rfl) | exact eld_m (by omega) (by first | omega | (simp only [List.length_set]; omega)) (fun _ => rfl) | exact els_m (by omega) (by omega) (by omega) rfl | exact lsl_m (by omega) (fun _ => rfl) | exact app_nil_m (by omega) (fun _ => rfl) (fun _ => rfl) | exact app_m_one (by omega) (fun _ => rfl) rfl rfl | exact app_m_m (by omega) (fun _ => rfl) (fun _ => rfl)) ?_)
  | (refine run_need rfl (by first | decide | omega | (simp only [List.length_map]; omega)) ?_)
  | (refine run_need rfl ?_ ?_)
  | (refine run_ret rfl ?_ ; first | refine rb ?_ | refine ri ?_ | refine rs2 ?_ ?_ | refine rs1 ?_)
  | (refine run_retx rfl ?_))
 ·exact fD (fun h' => by simp_all)
 have hn : a.length = b.length := by omega
 clear h
 refine run_loop rfl (fun i : Int => 0 ≤ i ∧ i ≤ a.length ∧ Blw i (fun j => ix a j = ix b j)) (fun i => [(5, .val (i64 i)), (0, .val (eP2s a)), (1, .val (eP2s b))]) (fun i => (a.length - i).toNat) 0 ⟨by omega, by omega, blw_zero _⟩ ⟨rfl, rfl, rfl, trivial⟩ rfl ?_
 rintro i e ⟨h0, hN, hP⟩
 (repeat' first
  | (refine run_ite rfl (fun h => ?_) (fun h => ?_) <;> (try simp (disch := omega) only [zA, z13, z19, z20, z21, z22, z23, z24, z25, z31, eqDs, eqD, Nat.reduceAdd, wrap64] at h) <;> (try (exfalso; omega)))
  | (refine run_need rfl (by (try simp (disch := omega) only [zA, z13, z19, z20, z21, z22, z23, z24, z25, z31, eqDs, eqD, Nat.reduceAdd, wrap64]); first | exact elp_m (by omega) (by first | omega | (simp only [List.length_set]; omega)) (fun _ => rfl) | exact eld_m (by omega) (by first | omega | (simp only [List.length_set]; omega)) (fun _ => rfl) | exact els_m (by omega) (by omega) (by omega) rfl | exact lsl_m (by omega) (fun _ => rfl) | exact app_nil_m (by omega) (fun _ => rfl) (fun _ => rfl) | exact app_m_one (by omega) (fun _ => rfl) rfl rfl | exact app_m_m (by omega) (fun _ => rfl) (fun _ => rfl)) ?_)
  | (refine run_need rfl (by first | decide | omega | (simp only [List.length_map]; omega)) ?_)
  | (refine run_calleq rfl (eqDep_ok (ix a i) (ix b i)) (by simp (disch := omega) only [zA, z13, z19, z20, z21, z22, z23, z24, z25, z31, eqDs, eqD, Nat.reduceAdd, wrap64]) rfl ?_)
  | (refine run_next rfl (Exists.intro (i + 1) ⟨by omega, ⟨by omega, by omega, blw_succ hP (by assumption)⟩, i64_eq (wrap64 _ (by omega)), rfl, rfl, trivial⟩))
  | (refine run_need rfl ?_ ?_)
  | (refine run_ret rfl ?_ ; first | refine rb ?_ | refine ri ?_ | refine rs2 ?_ ?_ | refine rs1 ?_)
  | (refine run_retx rfl ?_))
 ·exact fD (fun h' => by subst h'; exact absurd rfl (by assumption))
 ·exact tD (ix_ext hn (blw_to hP (by omega)))

theorem eqPkg_ok (p q : Pk) (hs : SmP p) : FunOk PP W n_l_eqPkg s_l_eqPkg [ePk p, ePk q] [bo (decide (p = q))] := by
 refine F_l_eqPkg (run_fun ?_)
 obtain ⟨h1, h2⟩ := hs
 (repeat' first
  | (refine run_ite rfl (fun h => ?_) (fun h => ?_) <;> (try simp (disch := omega) only [zA, z13, z19, z20, z21, z22, z23, z24, z25, z31, eqDs, eqD, Nat.reduceAdd, wrap64] at h) <;> (try (exfalso; omega)))
  | (refine run_need rfl (by (try simp (disch := omega) only [zA, z13, z19, z20, z21, z22, z23, z24, z25, z31, eqDs, eqD, Nat.reduceAdd, wrap64]); first | exact elp_m (by omega) (by first | omega | (simp only [List.length_set]; omega)) (fun _ => rfl) | exact eld_m (by omega) (by first | omega | (simp only [List.length_set]; omega)) (fun _ => rfl) | exact els_m (by omega) (by omega) (by omega) rfl | exact lsl_m (by omega) (fun _ => rfl) | exact app_nil_m (by omega) (fun _ => rfl) (fun _ => rfl) | exact app_m_one (by omega) (fun _ => rfl) rfl rfl | exact app_m_m (by omega) (fun _ => rfl) (fun _ => rfl)) ?_)
  | (refine run_need rfl (by first | decide | omega | (simp only [List.length_map]; omega)) ?_)
  | (refine run_call1 rfl (eqFileS_ok p.files q.files h1) rfl ?_)
  | (refine run_call1 rfl (eqDepS_ok p.deps q.deps h2) rfl ?_)
  | (refine run_need rfl ?_ ?_)
  | (refine run_ret rfl ?_ ; first | refine rb ?_ | refine ri ?_ | refine rs2 ?_ ?_ | refine rs1 ?_)
  | (refine run_retx rfl ?_))
 ·exact fD (fun h' => by simp_all)
 ·exact fD (fun h' => by simp_all)
 ·exact fD (fun h' => by subst h'; exact absurd rfl (by assumption))
 ·exact fD (fun h' => by subst h'; exact absurd rfl (by assumption))
 ·exact tD (pk_ext (by assumption) (by assumption) (by assumption) (by assumption))
theorem eqPkgS_ok (a b : List Pk) (ha : SmPs a) : FunOk PP W n_l_eqPkgS s_l_eqPkgS [ePks a, ePks b] [bo (decide (a = b))] := by
 refine F_l_eqPkgS (run_fun ?_)
 have hl := ha.1
 unfold lim at hl
 (repeat' first
  | (refine run_ite rfl (fun h => ?_) (fun h => ?_) <;> (try simp (disch := omega) only [zA, z13, z19, z20, z21, z22, z23, z24, z25, z31, eqDs, eqD, Nat.reduceAdd, wrap64] at h) <;> (try (exfalso; omega)))
  | (refine run_need rfl (by (try simp (disch := omega) only [zA, z13, z19, z20, z21, z22, z23, z24, z25, z31, eqDs, eqD, Nat.reduceAdd, wrap64]); first | exact elp_m (by omega) (by first | omega | (simp only [List.length_set]; omega)) (fun _ => rfl) | exact eld_m (by omega) (by first | omega | (simp only [List.length_set]; omega)) (fun _ => rfl) | exact els_m (by omega) (by omega) (by omega) rfl | exact lsl_m (by omega) (fun _ => rfl) | exact app_nil_m (by omega) (fun _ => rfl) (fun _ => rfl) | exact app_m_one (by omega) (fun _ => rfl) rfl rfl | exact app_m_m (by omega) (fun _ => rfl) (fun _ => rfl)) ?_)
  | (refine run_need rfl (by first | decide | omega | (simp only [List.length_map]; omega)) ?_)
  | (refine run_need rfl ?_ ?_)
  | (refine run_ret rfl ?_ ; first | refine rb ?_ | refine ri ?_ | refine rs2 ?_ ?_ | refine rs1 ?_)
  | (refine run_retx rfl ?_))
 ·exact fD (fun h' => by simp_all)
 have hn : a.length = b.length := by omega
 clear h
 refine run_loop rfl (fun i : Int => 0 ≤ i ∧ i ≤ a.length ∧ Blw i (fun j => ix a j = ix b j)) (fun i => [(5, .val (i64 i)), (0, .val (ePks a)), (1, .val (ePks b))]) (fun i => (a.length - i).toNat) 0 ⟨by omega, by omega, blw_zero _⟩ ⟨rfl, rfl, rfl, trivial⟩ rfl ?_
 rintro i e ⟨h0, hN, hP⟩
 (repeat' first
  | (refine run_ite rfl (fun h => ?_) (fun h => ?_) <;> (try simp (disch := omega) only [zA, z13, z19, z20, z21, z22, z23, z24, z25, z31, eqDs, eqD, Nat.reduceAdd, wrap64] at h) <;> (try (exfalso; omega)))
  | (refine run_need rfl (by (try simp (disch := omega) only [zA, z13, z19, z20, z21, z22, z23, z24, z25, z31, eqDs, eqD, Nat.reduceAdd, wrap64]); first | exact elp_m (by omega) (by first | omega | (simp only [List.length_set]; omega)) (fun _ => rfl) | exact eld_m (by omega) (by first | omega | (simp only [List.length_set]; omega)) (fun _ => rfl) | exact els_m (by omega) (by omega) (by omega) rfl | exact lsl_m (by omega) (fun _ => rfl) | exact app_nil_m (by omega) (fun _ => rfl) (fun _ => rfl) | exact app_m_one (by omega) (fun _ => rfl) rfl rfl | exact app_m_m (by omega) (fun _ => rfl) (fun _ => rfl)) ?_)
  | (refine run_need rfl (by first | decide | omega | (simp only [List.length_map]; omega)) ?_)
  | (refine run_calleq rfl (eqPkg_ok (ix a i) (ix b i) (smPs_ix ha (by omega) (by omega))) (by simp (disch := omega) only [zA, z13, z19, z20, z21, z22, z23, z24, z25, z31, eqDs, eqD, Nat.reduceAdd, wrap64]) rfl ?_)
  | (refine run_next rfl (Exists.intro (i + 1) ⟨by omega, ⟨by omega, by omega, blw_succ hP (by assumption)⟩, i64_eq (wrap64 _ (by omega)), rfl, rfl, trivial⟩))
  | (refine run_need rfl ?_ ?_)
  | (refine run_ret rfl ?_ ; first | refine rb ?_ | refine ri ?_ | refine rs2 ?_ ?_ | refine rs1 ?_)
  | (refine run_retx rfl ?_))
 ·exact fD (fun h' => by subst h'; exact absurd rfl (by assumption))
 ·exact tD (ix_ext hn (blw_to hP (by omega)))

/-! What is marked. -/
def markP2 (l : List P2) (k : Int) : List P2 := (List.range l.length).map fun (j : Nat) => ⟨k + 2 * (j : Int), k + 2 * (j : Int) + 1⟩
theorem markP2_len (l : List P2) (k : Int) : (markP2 l k).length = l.length := by simp [markP2]
theorem ix_range {α : Type} [Inhabited α] {n : Nat} {f : Nat → α} {i : Int} (h0 : 0 ≤ i) (h1 : i < n) : ix ((List.range n).map f) i = f i.toNat := by
 have : i.toNat < n := by omega
 simp [ix, this]
theorem markP2_ix (l : List P2) (k : Int) {i : Int} (h0 : 0 ≤ i) (h1 : i < l.length) : ix (markP2 l k) i = ⟨k + 2 * i, k + 2 * i + 1⟩ := by
 unfold markP2
 rw [ix_range h0 h1]
 simp only [show ((i.toNat : Nat) : Int) = i by omega]
theorem blw_put {α : Type} [Inhabited α] {ys : List α} {f : Int → α} {i : Int} (h0 : 0 ≤ i) (h1 : i < ys.length) (h : Blw i (fun j => ix ys j = f j)) : Blw (i + 1) (fun j => ix (ys.set i.toNat (f i)) j = f j) := fun j j0 j1 => by
 show ix (ys.set i.toNat (f i)) j = f j
 rw [ix_sgx h0 h1 j0]
 by_cases e : j = i
 ·rw [if_pos e, e]
 ·rw [if_neg e]
  exact h j j0 (by omega)

theorem markFileS_ok (l : List P2) (k : Int) (h0 : 0 ≤ k) (hk : k + 2 * l.length ≤ 1099511627776) : FunOk PP W n_l_markFileS s_l_markFileS_X [eP2s l, i64 k] [i64 (k + 2 * l.length), eP2s (markP2 l k)] := by
 refine F_l_markFileS_X (run_fun ?_)
 (repeat' first
  | (refine run_ite rfl (fun h => ?_) (fun h => ?_) <;> (try simp (disch := omega) only [zA, z13, z19, z20, z21, z22, z23, z24, z25, z31, eqDs, eqD, Nat.reduceAdd, wrap64] at h) <;> (try (exfalso; omega)))
  | (refine run_need rfl (by (try simp (disch := omega) only [zA, z13, z19, z20, z21, z22, z23, z24, z25, z31, eqDs, eqD, Nat.reduceAdd, wrap64]); first | exact elp_m (by omega) (by first | omega | (simp only [List.length_set]; omega)) (fun _ => rfl) | exact eld_m (by omega) (by first | omega | (simp only [List.length_set]; omega)) (fun _ => rfl) | exact els_m (by omega) (by omega) (by omega) rfl | exact lsl_m (by omega) (fun _ => rfl) | exact app_nil_m (by omega) (fun _ => rfl) (fun _ => rfl) | exact app_m_one (by omega) (fun _ => rfl) rfl rfl | exact app_m_m (by omega) (fun _ => rfl) (fun _ => rfl)) ?_)
  | (refine run_need rfl (by first | decide | omega | (simp only [List.length_map]; omega)) ?_)
  | (refine run_need rfl ?_ ?_)
  | (refine run_ret rfl ?_ ; first | refine rb ?_ | refine ri ?_ | refine rs2 ?_ ?_ | refine rs1 ?_)
  | (refine run_retx rfl ?_))
 refine run_loop rfl (fun x : Int × List P2 => 0 ≤ x.1 ∧ x.1 ≤ l.length ∧ x.2.length = l.length ∧ Blw x.1 (fun j => ix x.2 j = ⟨k + 2 * j, k + 2 * j + 1⟩)) (fun x => [(5, .val (i64 x.1)), (1, .val (i64 (k + 2 * x.1))), (0, .val (eP2s x.2))]) (fun x => (l.length - x.1).toNat) (0, l) ⟨by omega, by simp, rfl, blw_zero _⟩ ⟨rfl, i64_eq (by simp), rfl, trivial⟩ rfl ?_
 rintro ⟨i, ys⟩ e ⟨i0, hN, hy, hP⟩
 dsimp only at i0 hN hy hP ⊢
 (repeat' first
  | (refine run_ite rfl (fun h => ?_) (fun h => ?_) <;> (try simp (disch := omega) only [zA, z13, z19, z20, z21, z22, z23, z24, z25, z31, eqDs, eqD, Nat.reduceAdd, wrap64] at h) <;> (try (exfalso; omega)))
  | (refine run_need rfl (by (try simp (disch := omega) only [zA, z13, z19, z20, z21, z22, z23, z24, z25, z31, eqDs, eqD, Nat.reduceAdd, wrap64]); first | exact elp_m (by omega) (by first | omega | (simp only [List.length_set]; omega)) (fun _ => rfl) | exact eld_m (by omega) (by first | omega | (simp only [List.length_set]; omega)) (fun _ => rfl) | exact els_m (by omega) (by omega) (by omega) rfl | exact lsl_m (by omega) (fun _ => rfl) | exact app_nil_m (by omega) (fun _ => rfl) (fun _ => rfl) | exact app_m_one (by omega) (fun _ => rfl) rfl rfl | exact app_m_m (by omega) (fun _ => rfl) (fun _ => rfl)) ?_)
  | (refine run_need rfl (by first | decide | omega | (simp only [List.length_map]; omega)) ?_)
  | (refine run_elsc rfl (els_gx (sz := 2) i0 (by first | omega | (simp only [List.length_set]; omega)) (by first | omega | (simp only [List.length_set]; omega)) (fun _ => rfl) (Nat.le_of_ble_eq_true rfl)) (sl_eq (elsP2_0 i0 (by omega))) ?_)
  | (refine run_elsc rfl (els_gx (sz := 2) i0 (by first | omega | (simp only [List.length_set]; omega)) (by first | omega | (simp only [List.length_set]; omega)) (fun _ => rfl) (Nat.le_of_ble_eq_true rfl)) (sl_eq ((elsP2_1 i0 (by first | omega | (simp only [List.length_set]; omega))).trans (by rw [ix_ssx i0 (by omega), List.set_set, wrap64 _ (by omega)]))) ?_)
  | (refine run_next rfl (Exists.intro (i + 1, ys.set i.toNat ⟨k + 2 * i, k + 2 * i + 1⟩) ⟨by dsimp only; omega, ⟨by dsimp only; omega, by dsimp only; omega, by simpa using hy, blw_put (f := fun j => (⟨k + 2 * j, k + 2 * j + 1⟩ : P2)) i0 (by omega) hP⟩, i64_eq (wrap64 _ (by omega)), i64_eq (by rw [wrap64 (k + 2 * i + 1) (by omega), wrap64 _ (by omega)]; dsimp only; omega), rfl, trivial⟩))
  | (refine run_need rfl ?_ ?_)
  | (refine run_ret rfl ?_ ; first | refine rb ?_ | refine ri ?_ | refine rs2 ?_ ?_ | refine rs1 ?_)
  | (refine run_retx rfl ?_))
 ·exact i64_eq (by omega)
 ·refine sl_eq ?_
  rw [ix_ext (xs := ys) (ys := markP2 l k) (by rw [markP2_len, hy]) (fun j j0 j1 => (hP j j0 (by omega)).trans (markP2_ix l k j0 (by omega)).symm)]
theorem heldFileS_ok (l : List P2) (k : Int) (h0 : 0 ≤ k) (hk : k + 2 * l.length ≤ 1099511627776) (hh : Blw l.length (fun j => ix l j = ⟨k + 2 * j, k + 2 * j + 1⟩)) : FunOk PP W n_l_heldFileS s_l_heldFileS [eP2s l, i64 k] [i64 (k + 2 * l.length)] := by
 refine F_l_heldFileS (run_fun ?_)
 (repeat' first
  | (refine run_ite rfl (fun h => ?_) (fun h => ?_) <;> (try simp (disch := omega) only [zA, z13, z19, z20, z21, z22, z23, z24, z25, z31, eqDs, eqD, Nat.reduceAdd, wrap64] at h) <;> (try (exfalso; omega)))
  | (refine run_need rfl (by (try simp (disch := omega) only [zA, z13, z19, z20, z21, z22, z23, z24, z25, z31, eqDs, eqD, Nat.reduceAdd, wrap64]); first | exact elp_m (by omega) (by first | omega | (simp only [List.length_set]; omega)) (fun _ => rfl) | exact eld_m (by omega) (by first | omega | (simp only [List.length_set]; omega)) (fun _ => rfl) | exact els_m (by omega) (by omega) (by omega) rfl | exact lsl_m (by omega) (fun _ => rfl) | exact app_nil_m (by omega) (fun _ => rfl) (fun _ => rfl) | exact app_m_one (by omega) (fun _ => rfl) rfl rfl | exact app_m_m (by omega) (fun _ => rfl) (fun _ => rfl)) ?_)
  | (refine run_need rfl (by first | decide | omega | (simp only [List.length_map]; omega)) ?_)
  | (refine run_need rfl ?_ ?_)
  | (refine run_ret rfl ?_ ; first | refine rb ?_ | refine ri ?_ | refine rs2 ?_ ?_ | refine rs1 ?_)
  | (refine run_retx rfl ?_))
 refine run_loop rfl (fun x : Int => 0 ≤ x ∧ x ≤ l.length) (fun x => [(5, .val (i64 x)), (1, .val (i64 (k + 2 * x))), (0, .val (eP2s l))]) (fun x => (l.length - x).toNat) 0 ⟨by omega, by simp⟩ ⟨rfl, i64_eq (by simp), rfl, trivial⟩ rfl ?_
 rintro i e ⟨i0, hN⟩
 by_cases hi : i < l.length
 ·have hx : ix l i = ⟨k + 2 * i, k + 2 * i + 1⟩ := hh i i0 hi
  have hxa : (ix l i).a = k + 2 * i := by rw [hx]
  have hxb : (ix l i).b = k + 2 * i + 1 := by rw [hx]
  (repeat' first
  | (refine run_ite rfl (fun h => ?_) (fun h => ?_) <;> (try simp (disch := omega) only [zA, z13, z19, z20, z21, z22, z23, z24, z25, z31, eqDs, eqD, Nat.reduceAdd, wrap64] at h) <;> (try (exfalso; omega)))
  | (refine run_need rfl (by (try simp (disch := omega) only [zA, z13, z19, z20, z21, z22, z23, z24, z25, z31, eqDs, eqD, Nat.reduceAdd, wrap64]); first | exact elp_m (by omega) (by first | omega | (simp only [List.length_set]; omega)) (fun _ => rfl) | exact eld_m (by omega) (by first | omega | (simp only [List.length_set]; omega)) (fun _ => rfl) | exact els_m (by omega) (by omega) (by omega) rfl | exact lsl_m (by omega) (fun _ => rfl) | exact app_nil_m (by omega) (fun _ => rfl) (fun _ => rfl) | exact app_m_one (by omega) (fun _ => rfl) rfl rfl | exact app_m_m (by omega) (fun _ => rfl) (fun _ => rfl)) ?_)
  | (refine run_need rfl (by first | decide | omega | (simp only [List.length_map]; omega)) ?_)
  | (refine run_next rfl (Exists.intro (i + 1) ⟨by omega, ⟨by omega, by omega⟩, i64_eq (wrap64 _ (by omega)), i64_eq (by rw [wrap64 (k + 2 * i + 1) (by omega), wrap64 _ (by omega)]; omega), rfl, trivial⟩))
  | (refine run_need rfl ?_ ?_)
  | (refine run_ret rfl ?_ ; first | refine rb ?_ | refine ri ?_ | refine rs2 ?_ ?_ | refine rs1 ?_)
  | (refine run_retx rfl ?_))
 ·(repeat' first
  | (refine run_ite rfl (fun h => ?_) (fun h => ?_) <;> (try simp (disch := omega) only [zA, z13, z19, z20, z21, z22, z23, z24, z25, z31, eqDs, eqD, Nat.reduceAdd, wrap64] at h) <;> (try (exfalso; omega)))
  | (refine run_need rfl (by (try simp (disch := omega) only [zA, z13, z19, z20, z21, z22, z23, z24, z25, z31, eqDs, eqD, Nat.reduceAdd, wrap64]); first | exact elp_m (by omega) (by first | omega | (simp only [List.length_set]; omega)) (fun _ => rfl) | exact eld_m (by omega) (by first | omega | (simp only [List.length_set]; omega)) (fun _ => rfl) | exact els_m (by omega) (by omega) (by omega) rfl | exact lsl_m (by omega) (fun _ => rfl) | exact app_nil_m (by omega) (fun _ => rfl) (fun _ => rfl) | exact app_m_one (by omega) (fun _ => rfl) rfl rfl | exact app_m_m (by omega) (fun _ => rfl) (fun _ => rfl)) ?_)
  | (refine run_need rfl (by first | decide | omega | (simp only [List.length_map]; omega)) ?_)
  | (refine run_need rfl ?_ ?_)
  | (refine run_ret rfl ?_ ; first | refine rb ?_ | refine ri ?_ | refine rs2 ?_ ?_ | refine rs1 ?_)
  | (refine run_retx rfl ?_))
  omega

theorem markDepS_ok (l : List P2) (k : Int) (h0 : 0 ≤ k) (hk : k + 2 * l.length ≤ 1099511627776) : FunOk PP W n_l_markDepS s_l_markDepS_X [eP2s l, i64 k] [i64 (k + 2 * l.length), eP2s (markP2 l k)] := by
 refine F_l_markDepS_X (run_fun ?_)
 (repeat' first
  | (refine run_ite rfl (fun h => ?_) (fun h => ?_) <;> (try simp (disch := omega) only [zA, z13, z19, z20, z21, z22, z23, z24, z25, z31, eqDs, eqD, Nat.reduceAdd, wrap64] at h) <;> (try (exfalso; omega)))
  | (refine run_need rfl (by (try simp (disch := omega) only [zA, z13, z19, z20, z21, z22, z23, z24, z25, z31, eqDs, eqD, Nat.reduceAdd, wrap64]); first | exact elp_m (by omega) (by first | omega | (simp only [List.length_set]; omega)) (fun _ => rfl) | exact eld_m (by omega) (by first | omega | (simp only [List.length_set]; omega)) (fun _ => rfl) | exact els_m (by omega) (by omega) (by omega) rfl | exact lsl_m (by omega) (fun _ => rfl) | exact app_nil_m (by omega) (fun _ => rfl) (fun _ => rfl) | exact app_m_one (by omega) (fun _ => rfl) rfl rfl | exact app_m_m (by omega) (fun _ => rfl) (fun _ => rfl)) ?_)
  | (refine run_need rfl (by first | decide | omega | (simp only [List.length_map]; omega)) ?_)
  | (refine run_need rfl ?_ ?_)
  | (refine run_ret rfl ?_ ; first | refine rb ?_ | refine ri ?_ | refine rs2 ?_ ?_ | refine rs1 ?_)
  | (refine run_retx rfl ?_))
 refine run_loop rfl (fun x : Int × List P2 => 0 ≤ x.1 ∧ x.1 ≤ l.length ∧ x.2.length = l.length ∧ Blw x.1 (fun j => ix x.2 j = ⟨k + 2 * j, k + 2 * j + 1⟩)) (fun x => [(5, .val (i64 x.1)), (1, .val (i64 (k + 2 * x.1))), (0, .val (eP2s x.2))]) (fun x => (l.length - x.1).toNat) (0, l) ⟨by omega, by simp, rfl, blw_zero _⟩ ⟨rfl, i64_eq (by simp), rfl, trivial⟩ rfl ?_
 rintro ⟨i, ys⟩ e ⟨i0, hN, hy, hP⟩
 dsimp only at i0 hN hy hP ⊢
 (repeat' first
  | (refine run_ite rfl (fun h => ?_) (fun h => ?_) <;> (try simp (disch := omega) only [zA, z13, z19, z20, z21, z22, z23, z24, z25, z31, eqDs, eqD, Nat.reduceAdd, wrap64] at h) <;> (try (exfalso; omega)))
  | (refine run_need rfl (by (try simp (disch := omega) only [zA, z13, z19, z20, z21, z22, z23, z24, z25, z31, eqDs, eqD, Nat.reduceAdd, wrap64]); first | exact elp_m (by omega) (by first | omega | (simp only [List.length_set]; omega)) (fun _ => rfl) | exact eld_m (by omega) (by first | omega | (simp only [List.length_set]; omega)) (fun _ => rfl) | exact els_m (by omega) (by omega) (by omega) rfl | exact lsl_m (by omega) (fun _ => rfl) | exact app_nil_m (by omega) (fun _ => rfl) (fun _ => rfl) | exact app_m_one (by omega) (fun _ => rfl) rfl rfl | exact app_m_m (by omega) (fun _ => rfl) (fun _ => rfl)) ?_)
  | (refine run_need rfl (by first | decide | omega | (simp only [List.length_map]; omega)) ?_)
  | (refine run_elsc rfl (els_gx (sz := 2) i0 (by first | omega | (simp only [List.length_set]; omega)) (by first | omega | (simp only [List.length_set]; omega)) (fun _ => rfl) (Nat.le_of_ble_eq_true rfl)) (sl_eq (elsP2_0 i0 (by omega))) ?_)
  | (refine run_elsc rfl (els_gx (sz := 2) i0 (by first | omega | (simp only [List.length_set]; omega)) (by first | omega | (simp only [List.length_set]; omega)) (fun _ => rfl) (Nat.le_of_ble_eq_true rfl)) (sl_eq ((elsP2_1 i0 (by first | omega | (simp only [List.length_set]; omega))).trans (by rw [ix_ssx i0 (by omega), List.set_set, wrap64 _ (by omega)]))) ?_)
  | (refine run_next rfl (Exists.intro (i + 1, ys.set i.toNat ⟨k + 2 * i, k + 2 * i + 1⟩) ⟨by dsimp only; omega, ⟨by dsimp only; omega, by dsimp only; omega, by simpa using hy, blw_put (f := fun j => (⟨k + 2 * j, k + 2 * j + 1⟩ : P2)) i0 (by omega) hP⟩, i64_eq (wrap64 _ (by omega)), i64_eq (by rw [wrap64 (k + 2 * i + 1) (by omega), wrap64 _ (by omega)]; dsimp only; omega), rfl, trivial⟩))
  | (refine run_need rfl ?_ ?_)
  | (refine run_ret rfl ?_ ; first | refine rb ?_ | refine ri ?_ | refine rs2 ?_ ?_ | refine rs1 ?_)
  | (refine run_retx rfl ?_))
 ·exact i64_eq (by omega)
 ·refine sl_eq ?_
  rw [ix_ext (xs := ys) (ys := markP2 l k) (by rw [markP2_len, hy]) (fun j j0 j1 => (hP j j0 (by omega)).trans (markP2_ix l k j0 (by omega)).symm)]
theorem heldDepS_ok (l : List P2) (k : Int) (h0 : 0 ≤ k) (hk : k + 2 * l.length ≤ 1099511627776) (hh : Blw l.length (fun j => ix l j = ⟨k + 2 * j, k + 2 * j + 1⟩)) : FunOk PP W n_l_heldDepS s_l_heldDepS [eP2s l, i64 k] [i64 (k + 2 * l.length)] := by
 refine F_l_heldDepS (run_fun ?_)
 (repeat' first
  | (refine run_ite rfl (fun h => ?_) (fun h => ?_) <;> (try simp (disch := omega) only [zA, z13, z19, z20, z21, z22, z23, z24, z25, z31, eqDs, eqD, Nat.reduceAdd, wrap64] at h) <;> (try (exfalso; omega)))
  | (refine run_need rfl (by (try simp (disch := omega) only [zA, z13, z19, z20, z21, z22, z23, z24, z25, z31, eqDs, eqD, Nat.reduceAdd, wrap64]); first | exact elp_m (by omega) (by first | omega | (simp only [List.length_set]; omega)) (fun _ => rfl) | exact eld_m (by omega) (by first | omega | (simp only [List.length_set]; omega)) (fun _ => rfl) | exact els_m (by omega) (by omega) (by omega) rfl | exact lsl_m (by omega) (fun _ => rfl) | exact app_nil_m (by omega) (fun _ => rfl) (fun _ => rfl) | exact app_m_one (by omega) (fun _ => rfl) rfl rfl | exact app_m_m (by omega) (fun _ => rfl) (fun _ => rfl)) ?_)
  | (refine run_need rfl (by first | decide | omega | (simp only [List.length_map]; omega)) ?_)
  | (refine run_need rfl ?_ ?_)
  | (refine run_ret rfl ?_ ; first | refine rb ?_ | refine ri ?_ | refine rs2 ?_ ?_ | refine rs1 ?_)
  | (refine run_retx rfl ?_))
 refine run_loop rfl (fun x : Int => 0 ≤ x ∧ x ≤ l.length) (fun x => [(5, .val (i64 x)), (1, .val (i64 (k + 2 * x))), (0, .val (eP2s l))]) (fun x => (l.length - x).toNat) 0 ⟨by omega, by simp⟩ ⟨rfl, i64_eq (by simp), rfl, trivial⟩ rfl ?_
 rintro i e ⟨i0, hN⟩
 by_cases hi : i < l.length
 ·have hx : ix l i = ⟨k + 2 * i, k + 2 * i + 1⟩ := hh i i0 hi
  have hxa : (ix l i).a = k + 2 * i := by rw [hx]
  have hxb : (ix l i).b = k + 2 * i + 1 := by rw [hx]
  (repeat' first
  | (refine run_ite rfl (fun h => ?_) (fun h => ?_) <;> (try simp (disch := omega) only [zA, z13, z19, z20, z21, z22, z23, z24, z25, z31, eqDs, eqD, Nat.reduceAdd, wrap64] at h) <;> (try (exfalso; omega)))
  | (refine run_need rfl (by (try simp (disch := omega) only [zA, z13, z19, z20, z21, z22, z23, z24, z25, z31, eqDs, eqD, Nat.reduceAdd, wrap64]); first | exact elp_m (by omega) (by first | omega | (simp only [List.length_set]; omega)) (fun _ => rfl) | exact eld_m (by omega) (by first | omega | (simp only [List.length_set]; omega)) (fun _ => rfl) | exact els_m (by omega) (by omega) (by omega) rfl | exact lsl_m (by omega) (fun _ => rfl) | exact app_nil_m (by omega) (fun _ => rfl) (fun _ => rfl) | exact app_m_one (by omega) (fun _ => rfl) rfl rfl | exact app_m_m (by omega) (fun _ => rfl) (fun _ => rfl)) ?_)
  | (refine run_need rfl (by first | decide | omega | (simp only [List.length_map]; omega)) ?_)
  | (refine run_next rfl (Exists.intro (i + 1) ⟨by omega, ⟨by omega, by omega⟩, i64_eq (wrap64 _ (by omega)), i64_eq (by rw [wrap64 (k + 2 * i + 1) (by omega), wrap64 _ (by omega)]; omega), rfl, trivial⟩))
  | (refine run_need rfl ?_ ?_)
  | (refine run_ret rfl ?_ ; first | refine rb ?_ | refine ri ?_ | refine rs2 ?_ ?_ | refine rs1 ?_)
  | (refine run_retx rfl ?_))
 ·(repeat' first
  | (refine run_ite rfl (fun h => ?_) (fun h => ?_) <;> (try simp (disch := omega) only [zA, z13, z19, z20, z21, z22, z23, z24, z25, z31, eqDs, eqD, Nat.reduceAdd, wrap64] at h) <;> (try (exfalso; omega)))
  | (refine run_need rfl (by (try simp (disch := omega) only [zA, z13, z19, z20, z21, z22, z23, z24, z25, z31, eqDs, eqD, Nat.reduceAdd, wrap64]); first | exact elp_m (by omega) (by first | omega | (simp only [List.length_set]; omega)) (fun _ => rfl) | exact eld_m (by omega) (by first | omega | (simp only [List.length_set]; omega)) (fun _ => rfl) | exact els_m (by omega) (by omega) (by omega) rfl | exact lsl_m (by omega) (fun _ => rfl) | exact app_nil_m (by omega) (fun _ => rfl) (fun _ => rfl) | exact app_m_one (by omega) (fun _ => rfl) rfl rfl | exact app_m_m (by omega) (fun _ => rfl) (fun _ => rfl)) ?_)
  | (refine run_need rfl (by first | decide | omega | (simp only [List.length_map]; omega)) ?_)
  | (refine run_need rfl ?_ ?_)
  | (refine run_ret rfl ?_ ; first | refine rb ?_ | refine ri ?_ | refine rs2 ?_ ?_ | refine rs1 ?_)
  | (refine run_retx rfl ?_))
  omega
end V
end Go.Proofs.Ytgialjcichiaoaa

/-
Plain proofs: packages that are marked, and found marked.
-/
namespace Go.Proofs.Ytgialjcichiaoaa
namespace V
open Classical
set_option maxRecDepth 100000
variable {W : Wld}

def cntP (p : Pk) : Int := 2 + 2 * p.files.length + 2 * p.deps.length
theorem cntP_nn (p : Pk) : 0 ≤ cntP p := by unfold cntP; omega
def cntPs (ps : List Pk) : Int := sumF cntP ps
def markPk (p : Pk) (k : Int) : Pk := ⟨k, k + 1, markP2 p.files (k + 2), markP2 p.deps (k + 2 + 2 * p.files.length)⟩
def markPs (l : List Pk) (k : Int) : List Pk := (List.range l.length).map fun (j : Nat) => markPk (ix l j) (k + cntPs (l.take j))
theorem markPs_len (l : List Pk) (k : Int) : (markPs l k).length = l.length := by simp [markPs]
theorem markPs_ix (l : List Pk) (k : Int) {i : Int} (h0 : 0 ≤ i) (h1 : i < l.length) : ix (markPs l k) i = markPk (ix l i) (k + cntPs (l.take i.toNat)) := by
 unfold markPs
 rw [ix_range h0 h1]
 simp only [show ((i.toNat : Nat) : Int) = i by omega]
theorem cntP_mark (p : Pk) (k : Int) : cntP (markPk p k) = cntP p := by simp [cntP, markPk, markP2_len]
theorem sumF_ext {α : Type} [Inhabited α] {f : α → Int} {xs ys : List α} (hl : xs.length = ys.length) (h : Blw xs.length (fun i => f (ix xs i) = f (ix ys i))) : sumF f xs = sumF f ys := by
 unfold sumF
 congr 1
 refine List.ext_getElem (by simp [hl]) (fun n h1 h2 => ?_)
 have h1' : n < xs.length := by simpa using h1
 have h2' : n < ys.length := by simpa using h2
 have h3 : f (ix xs (n : Int)) = f (ix ys (n : Int)) := h n (by omega) (by omega)
 simpa [ix, h1', h2'] using h3
theorem ix_takeN {α : Type} [Inhabited α] (xs : List α) {n : Nat} {i : Int} (h0 : 0 ≤ i) (h1 : i < n) : ix (xs.take n) i = ix xs i := by
 have : i.toNat < n := by omega
 simp only [ix, List.getD_eq_getElem?_getD]
 rw [List.getElem?_take_of_lt this]
theorem cntPs_mark (l : List Pk) (k : Int) (n : Nat) : cntPs ((markPs l k).take n) = cntPs (l.take n) := by
 refine sumF_ext (by simp [markPs_len]) (fun i h0 h1 => ?_)
 simp only [List.length_take, markPs_len] at h1
 show cntP _ = cntP _
 rw [ix_takeN _ h0 (by omega), ix_takeN _ h0 (by omega), markPs_ix l k h0 (by omega), cntP_mark]
theorem cntPs_mark' (l : List Pk) (k : Int) : cntPs (markPs l k) = cntPs l := by
 have := cntPs_mark l k l.length
 rwa [List.take_of_length_le (by rw [markPs_len]; exact Nat.le_refl _), List.take_of_length_le (Nat.le_refl _)] at this
theorem cntPs_nn (l : List Pk) : 0 ≤ cntPs l := sumF_nn cntP_nn l

theorem len_cnt : ∀ l : List Pk, 2 * (l.length : Int) ≤ cntPs l
 | [] => by simp [cntPs, sumF]
 | p :: r => by
  have h := len_cnt r
  simp only [cntPs, sumF, List.map_cons, List.sum_cons, List.length_cons] at *
  have : cntP p = 2 + 2 * p.files.length + 2 * p.deps.length := rfl
  omega
theorem get_ss {α : Type} [Inhabited α] {enc : α → List D} {ys : List α} {i : Int} {q : α} (h0 : 0 ≤ i) (h1 : i < ys.length) : ((ys.set i.toNat q).map enc)[i.toNat]? = some (enc q) := by
 have : i.toNat < ys.length := by omega
 simp [this]
theorem set_ss {α : Type} {enc : α → List D} {ys : List α} {i : Int} {q q' : α} {j : Nat} {d : D} (h : (enc q).set j d = enc q') : ([.sl ((ys.set i.toNat q).map enc)] : List D).set 0 (.sl (((ys.set i.toNat q).map enc).set i.toNat ((enc q).set j d))) = [.sl ((ys.set i.toNat q').map enc)] := by
 rw [h, ← List.map_set, List.set_set]
 rfl

theorem blw_from {α : Type} [Inhabited α] {l ys : List α} {i : Int} {z : α} (h0 : 0 ≤ i) (h1 : i < ys.length) (h : ∀ j, i ≤ j → ix ys j = ix l j) : ∀ j, i + 1 ≤ j → ix (ys.set i.toNat z) j = ix l j := fun j hj => by
 rw [ix_sgx h0 h1 (by omega), if_neg (by omega)]
 exact h j (by omega)

theorem markPkgS_ok (l : List Pk) (k : Int) (h0 : 0 ≤ k) (hk : k + cntPs l ≤ 1099511627776) : FunOk PP W n_l_markPkgS s_l_markPkgS_X [ePks l, i64 k] [i64 (k + cntPs l), ePks (markPs l k)] := by
 refine F_l_markPkgS_X (run_fun ?_)
 have hlc := len_cnt l
 (repeat' first
  | (refine run_ite rfl (fun h => ?_) (fun h => ?_) <;> (try simp (disch := omega) only [zA, z13, z19, z20, z21, z22, z23, z24, z25, z31, eqDs, eqD, Nat.reduceAdd, wrap64] at h) <;> (try (exfalso; omega)))
  | (refine run_need rfl (by (try simp (disch := omega) only [zA, z13, z19, z20, z21, z22, z23, z24, z25, z31, eqDs, eqD, Nat.reduceAdd, wrap64]); first | exact elp_m (by omega) (by first | omega | (simp only [List.length_set]; omega)) (fun _ => rfl) | exact eld_m (by omega) (by first | omega | (simp only [List.length_set]; omega)) (fun _ => rfl) | exact els_m (by omega) (by omega) (by omega) rfl | exact lsl_m (by omega) (fun _ => rfl) | exact app_nil_m (by omega) (fun _ => rfl) (fun _ => rfl) | exact app_m_one (by omega) (fun _ => rfl) rfl rfl | exact app_m_m (by omega) (fun _ => rfl) (fun _ => rfl)) ?_)
  | (refine run_need rfl (by first | decide | omega | (simp only [List.length_map]; omega)) ?_)
  | (refine run_need rfl ?_ ?_)
  | (refine run_ret rfl ?_ ; first | refine rb ?_ | refine ri ?_ | refine rs2 ?_ ?_ | refine rs1 ?_)
  | (refine run_retx rfl ?_))
 refine run_loop rfl (fun x : Int × List Pk => 0 ≤ x.1 ∧ x.1 ≤ l.length ∧ x.2.length = l.length ∧ Blw x.1 (fun j => ix x.2 j = markPk (ix l j) (k + cntPs (l.take j.toNat))) ∧ ∀ j, x.1 ≤ j → ix x.2 j = ix l j)
  (fun x => [(5, .val (i64 x.1)), (1, .val (i64 (k + cntPs (l.take x.1.toNat)))), (0, .val (ePks x.2))]) (fun x => (l.length - x.1).toNat) (0, l) ⟨by omega, by simp, rfl, blw_zero _, fun _ _ => rfl⟩ ⟨rfl, i64_eq (by simp [cntPs, sumF]), rfl, trivial⟩ rfl ?_
 rintro ⟨i, ys⟩ e ⟨i0, hN, hy, hP, hI⟩
 dsimp only at i0 hN hy hP hI ⊢
 have hnn : 0 ≤ cntPs (l.take i.toNat) := cntPs_nn _
 by_cases hi : i < l.length
 ·have hix : ix ys i = ix l i := hI i (by omega)
  have hle := sumF_le cntP_nn l (i + 1).toNat
  have ht := sumF_take cntP l i0 hi
  have hc : cntP (ix l i) = 2 + 2 * (ix l i).files.length + 2 * (ix l i).deps.length := rfl
  simp only [show sumF cntP = cntPs from rfl] at hle ht
  generalize hK : k + cntPs (l.take i.toNat) = K at *
  have f1 := markFileS_ok (W := W) (ix l i).files (K + 2) (by omega) (by omega)
  have f2 := markDepS_ok (W := W) (ix l i).deps (K + 2 + 2 * (ix l i).files.length) (by omega) (by omega)
  (repeat' first
  | (refine run_ite rfl (fun h => ?_) (fun h => ?_) <;> (try simp (disch := omega) only [zA, z13, z19, z20, z21, z22, z23, z24, z25, z31, eqDs, eqD, Nat.reduceAdd, wrap64] at h) <;> (try (exfalso; omega)))
  | (refine run_need rfl (by (try simp (disch := omega) only [zA, z13, z19, z20, z21, z22, z23, z24, z25, z31, eqDs, eqD, Nat.reduceAdd, wrap64]); first | exact elp_m (by omega) (by first | omega | (simp only [List.length_set]; omega)) (fun _ => rfl) | exact eld_m (by omega) (by first | omega | (simp only [List.length_set]; omega)) (fun _ => rfl) | exact els_m (by omega) (by omega) (by omega) rfl | exact lsl_m (by omega) (fun _ => rfl) | exact app_nil_m (by omega) (fun _ => rfl) (fun _ => rfl) | exact app_m_one (by omega) (fun _ => rfl) rfl rfl | exact app_m_m (by omega) (fun _ => rfl) (fun _ => rfl)) ?_)
  | (refine run_need rfl (by first | decide | omega | (simp only [List.length_map]; omega)) ?_)
  | (refine run_elsc rfl (els_gx (sz := 4) i0 (by omega) (by omega) (fun _ => rfl) (Nat.le_of_ble_eq_true rfl)) (sl_eq ((elsPk_0 i0 (by omega)).trans (by rw [hix]))) ?_)
  | (refine run_elsc (c := [.sl ((ys.set i.toNat ⟨K, K + 1, (ix l i).files, (ix l i).deps⟩).map ePk)]) rfl (els_gx (sz := 4) i0 (by simp only [List.length_set]; omega) (by simp only [List.length_set]; omega) (fun _ => rfl) (Nat.le_of_ble_eq_true rfl)) (sl_eq ((elsPk_1 i0 (by simp only [List.length_set]; omega)).trans (by rw [ix_ssx i0 (by omega), List.set_set, wrap64 _ (by omega)]))) ?_)
  | (refine run_ioe rfl rfl rfl (get_ss i0 (by omega)) (get_ss i0 (by omega)) rfl rfl f1 (i64_eq (by rw [wrap64 (K + 1) (by omega), wrap64 _ (by omega)]; omega)) (set_ss (q' := ⟨K, K + 1, markP2 (ix l i).files (K + 2), (ix l i).deps⟩) rfl) ?_)
  | (refine run_ioe rfl rfl rfl (get_ss i0 (by omega)) (get_ss i0 (by omega)) rfl rfl f2 rfl (set_ss (q' := ⟨K, K + 1, markP2 (ix l i).files (K + 2), markP2 (ix l i).deps (K + 2 + 2 * (ix l i).files.length)⟩) rfl) ?_)
  | (refine run_next rfl (Exists.intro (i + 1, ys.set i.toNat (markPk (ix l i) K)) ⟨?_, ⟨?_, ?_, ?_, ?_, ?_⟩, ?_, ?_, ?_, trivial⟩))
  | (refine run_need rfl ?_ ?_)
  | (refine run_ret rfl ?_ ; first | refine rb ?_ | refine ri ?_ | refine rs2 ?_ ?_ | refine rs1 ?_)
  | (refine run_retx rfl ?_))
  ·dsimp only; omega
  ·dsimp only; omega
  ·dsimp only; omega
  ·simpa using hy
  ·subst hK
   exact blw_put (f := fun j => markPk (ix l j) (k + cntPs (l.take j.toNat))) i0 (by omega) hP
  ·exact blw_from i0 (by omega) hI
  ·exact i64_eq (wrap64 _ (by omega))
  ·exact i64_eq (by dsimp only; omega)
  ·rfl
 ·(repeat' first
  | (refine run_ite rfl (fun h => ?_) (fun h => ?_) <;> (try simp (disch := omega) only [zA, z13, z19, z20, z21, z22, z23, z24, z25, z31, eqDs, eqD, Nat.reduceAdd, wrap64] at h) <;> (try (exfalso; omega)))
  | (refine run_need rfl (by (try simp (disch := omega) only [zA, z13, z19, z20, z21, z22, z23, z24, z25, z31, eqDs, eqD, Nat.reduceAdd, wrap64]); first | exact elp_m (by omega) (by first | omega | (simp only [List.length_set]; omega)) (fun _ => rfl) | exact eld_m (by omega) (by first | omega | (simp only [List.length_set]; omega)) (fun _ => rfl) | exact els_m (by omega) (by omega) (by omega) rfl | exact lsl_m (by omega) (fun _ => rfl) | exact app_nil_m (by omega) (fun _ => rfl) (fun _ => rfl) | exact app_m_one (by omega) (fun _ => rfl) rfl rfl | exact app_m_m (by omega) (fun _ => rfl) (fun _ => rfl)) ?_)
  | (refine run_need rfl (by first | decide | omega | (simp only [List.length_map]; omega)) ?_)
  | (refine run_need rfl ?_ ?_)
  | (refine run_ret rfl ?_ ; first | refine rb ?_ | refine ri ?_ | refine rs2 ?_ ?_ | refine rs1 ?_)
  | (refine run_retx rfl ?_))
  ·rw [List.take_of_length_le (by omega)]
  ·refine sl_eq ?_
   rw [ix_ext (xs := ys) (ys := markPs l k) (by rw [markPs_len, hy]) (fun j j0 j1 => (hP j j0 (by omega)).trans (markPs_ix l k j0 (by omega)).symm)]

def HdP2 (l : List P2) (k : Int) : Prop := Blw l.length (fun j => ix l j = ⟨k + 2 * j, k + 2 * j + 1⟩)
def HdPk (p : Pk) (k : Int) : Prop := p.name = k ∧ p.ver = k + 1 ∧ HdP2 p.files (k + 2) ∧ HdP2 p.deps (k + 2 + 2 * p.files.length)
def HdPs (l : List Pk) (k : Int) : Prop := Blw l.length (fun j => HdPk (ix l j) (k + cntPs (l.take j.toNat)))
theorem hdP2_mark (l : List P2) (k : Int) : HdP2 (markP2 l k) k := fun j j0 j1 => by
 rw [markP2_len] at j1
 exact markP2_ix l k j0 j1
theorem hdPk_mark (p : Pk) (k : Int) : HdPk (markPk p k) k := ⟨rfl, rfl, hdP2_mark _ _, by
 show HdP2 (markP2 p.deps (k + 2 + 2 * p.files.length)) (k + 2 + 2 * (markP2 p.files (k + 2)).length)
 rw [markP2_len]
 exact hdP2_mark _ _⟩
theorem hdPs_mark (l : List Pk) (k : Int) : HdPs (markPs l k) k := fun j j0 j1 => by
 rw [markPs_len] at j1
 show HdPk (ix (markPs l k) j) (k + cntPs ((markPs l k).take j.toNat))
 rw [cntPs_mark, markPs_ix l k j0 j1]
 exact hdPk_mark _ _

theorem heldPkgS_ok (l : List Pk) (k : Int) (h0 : 0 ≤ k) (hk : k + cntPs l ≤ 1099511627776) (hh : HdPs l k) : FunOk PP W n_l_heldPkgS s_l_heldPkgS [ePks l, i64 k] [i64 (k + cntPs l)] := by
 refine F_l_heldPkgS (run_fun ?_)
 have hlc := len_cnt l
 (repeat' first
  | (refine run_ite rfl (fun h => ?_) (fun h => ?_) <;> (try simp (disch := omega) only [zA, z13, z19, z20, z21, z22, z23, z24, z25, z31, eqDs, eqD, Nat.reduceAdd, wrap64] at h) <;> (try (exfalso; omega)))
  | (refine run_need rfl (by (try simp (disch := omega) only [zA, z13, z19, z20, z21, z22, z23, z24, z25, z31, eqDs, eqD, Nat.reduceAdd, wrap64]); first | exact elp_m (by omega) (by first | omega | (simp only [List.length_set]; omega)) (fun _ => rfl) | exact eld_m (by omega) (by first | omega | (simp only [List.length_set]; omega)) (fun _ => rfl) | exact els_m (by omega) (by omega) (by omega) rfl | exact lsl_m (by omega) (fun _ => rfl) | exact app_nil_m (by omega) (fun _ => rfl) (fun _ => rfl) | exact app_m_one (by omega) (fun _ => rfl) rfl rfl | exact app_m_m (by omega) (fun _ => rfl) (fun _ => rfl)) ?_)
  | (refine run_need rfl (by first | decide | omega | (simp only [List.length_map]; omega)) ?_)
  | (refine run_need rfl ?_ ?_)
  | (refine run_ret rfl ?_ ; first | refine rb ?_ | refine ri ?_ | refine rs2 ?_ ?_ | refine rs1 ?_)
  | (refine run_retx rfl ?_))
 refine run_loop rfl (fun i : Int => 0 ≤ i ∧ i ≤ l.length) (fun i => [(5, .val (i64 i)), (1, .val (i64 (k + cntPs (l.take i.toNat)))), (0, .val (ePks l))]) (fun i => (l.length - i).toNat) 0 ⟨by omega, by simp⟩ ⟨rfl, i64_eq (by simp [cntPs, sumF]), rfl, trivial⟩ rfl ?_
 rintro i e ⟨i0, hN⟩
 have hnn : 0 ≤ cntPs (l.take i.toNat) := cntPs_nn _
 by_cases hi : i < l.length
 ·have hle := sumF_le cntP_nn l (i + 1).toNat
  have ht := sumF_take cntP l i0 hi
  have hc : cntP (ix l i) = 2 + 2 * (ix l i).files.length + 2 * (ix l i).deps.length := rfl
  simp only [show sumF cntP = cntPs from rfl] at hle ht
  obtain ⟨g1, g2, g3, g4⟩ := hh i i0 hi
  generalize hK : k + cntPs (l.take i.toNat) = K at *
  have f1 := heldFileS_ok (W := W) (ix l i).files (K + 2) (by omega) (by omega) g3
  have f2 := heldDepS_ok (W := W) (ix l i).deps (K + 2 + 2 * (ix l i).files.length) (by omega) (by omega) g4
  have w1 : IntKind.i64.wrap (IntKind.i64.wrap (K + 1) + 1) = K + 2 := by rw [wrap64 (K + 1) (by omega), wrap64 _ (by omega)]; omega
  (repeat' first
  | (refine run_ite rfl (fun h => ?_) (fun h => ?_) <;> (try simp (disch := omega) only [zA, z13, z19, z20, z21, z22, z23, z24, z25, z31, eqDs, eqD, Nat.reduceAdd, wrap64] at h) <;> (try (exfalso; omega)))
  | (refine run_need rfl (by (try simp (disch := omega) only [zA, z13, z19, z20, z21, z22, z23, z24, z25, z31, eqDs, eqD, Nat.reduceAdd, wrap64]); first | exact elp_m (by omega) (by first | omega | (simp only [List.length_set]; omega)) (fun _ => rfl) | exact eld_m (by omega) (by first | omega | (simp only [List.length_set]; omega)) (fun _ => rfl) | exact els_m (by omega) (by omega) (by omega) rfl | exact lsl_m (by omega) (fun _ => rfl) | exact app_nil_m (by omega) (fun _ => rfl) (fun _ => rfl) | exact app_m_one (by omega) (fun _ => rfl) rfl rfl | exact app_m_m (by omega) (fun _ => rfl) (fun _ => rfl)) ?_)
  | (refine run_need rfl (by first | decide | omega | (simp only [List.length_map]; omega)) ?_)
  | (refine run_calleq rfl f1 (rs2 (sl_eq (z5 _ _)) (i64_eq w1)) rfl ?_)
  | (refine run_calleq rfl f2 (rs2 (sl_eq (z6 _ _)) rfl) rfl ?_)
  | (refine run_next rfl (Exists.intro (i + 1) ⟨by omega, ⟨by omega, by omega⟩, i64_eq (wrap64 _ (by omega)), i64_eq (by omega), rfl, trivial⟩))
  | (refine run_need rfl ?_ ?_)
  | (refine run_ret rfl ?_ ; first | refine rb ?_ | refine ri ?_ | refine rs2 ?_ ?_ | refine rs1 ?_)
  | (refine run_retx rfl ?_))
 ·(repeat' first
  | (refine run_ite rfl (fun h => ?_) (fun h => ?_) <;> (try simp (disch := omega) only [zA, z13, z19, z20, z21, z22, z23, z24, z25, z31, eqDs, eqD, Nat.reduceAdd, wrap64] at h) <;> (try (exfalso; omega)))
  | (refine run_need rfl (by (try simp (disch := omega) only [zA, z13, z19, z20, z21, z22, z23, z24, z25, z31, eqDs, eqD, Nat.reduceAdd, wrap64]); first | exact elp_m (by omega) (by first | omega | (simp only [List.length_set]; omega)) (fun _ => rfl) | exact eld_m (by omega) (by first | omega | (simp only [List.length_set]; omega)) (fun _ => rfl) | exact els_m (by omega) (by omega) (by omega) rfl | exact lsl_m (by omega) (fun _ => rfl) | exact app_nil_m (by omega) (fun _ => rfl) (fun _ => rfl) | exact app_m_one (by omega) (fun _ => rfl) rfl rfl | exact app_m_m (by omega) (fun _ => rfl) (fun _ => rfl)) ?_)
  | (refine run_need rfl (by first | decide | omega | (simp only [List.length_map]; omega)) ?_)
  | (refine run_need rfl ?_ ?_)
  | (refine run_ret rfl ?_ ; first | refine rb ?_ | refine ri ?_ | refine rs2 ?_ ?_ | refine rs1 ?_)
  | (refine run_retx rfl ?_))
  rw [List.take_of_length_le (by omega)]
end V
end Go.Proofs.Ytgialjcichiaoaa

/-
Plain proofs: disks that are drawn.
-/
namespace Go.Proofs.Ytgialjcichiaoaa
namespace V
open Classical
set_option maxRecDepth 100000
variable {W : Wld}

def Code (b : List Int) : Prop := b.length ≤ 1048576 ∧ ∀ x ∈ b, 0 ≤ x ∧ x ≤ 255
end V
end Go.Proofs.Ytgialjcichiaoaa

/-
Plain proofs: what the program's functions do, where all that comes back is owned.
-/
namespace Go.Proofs.Ytgialjcichiaoaa
namespace V
open Classical
set_option maxRecDepth 100000
variable {W : Wld}

theorem pkgCopied_X (p : Pk) (hs : SmP p) : FunOk PP W n_i_Pkg_copied s_i_Pkg_copied_X [ePk p] [ePk p] := by
 refine F_i_Pkg_copied_X (run_fun ?_)
 (repeat' first
  | (refine run_ite rfl (fun h => ?_) (fun h => ?_) <;> (try simp (disch := omega) only [zA, z13, z19, z20, z21, z22, z23, z24, z25, z31, eqDs, eqD, Nat.reduceAdd, wrap64] at h) <;> (try (exfalso; omega)))
  | (refine run_need rfl (by (try simp (disch := omega) only [zA, z13, z19, z20, z21, z22, z23, z24, z25, z31, eqDs, eqD, Nat.reduceAdd, wrap64]); first | exact elp_m (by omega) (by first | omega | (simp only [List.length_set]; omega)) (fun _ => rfl) | exact eld_m (by omega) (by first | omega | (simp only [List.length_set]; omega)) (fun _ => rfl) | exact els_m (by omega) (by omega) (by omega) rfl | exact lsl_m (by omega) (fun _ => rfl) | exact app_nil_m (by omega) (fun _ => rfl) (fun _ => rfl) | exact app_m_one (by omega) (fun _ => rfl) rfl rfl | exact app_m_m (by omega) (fun _ => rfl) (fun _ => rfl)) ?_)
  | (refine run_need rfl (by first | decide | omega | (simp only [List.length_map]; omega)) ?_)
  | (refine run_call1 rfl (cloneF_X p.files hs.1) rfl ?_)
  | (refine run_call1 rfl (cloneD_X p.deps hs.2) rfl ?_)
  | (refine run_need rfl ?_ ?_)
  | (refine run_ret rfl ?_ ; first | refine rb ?_ | refine ri ?_ | refine rs2 ?_ ?_ | refine rs1 ?_)
  | (refine run_retx rfl ?_))
 rfl
end V
end Go.Proofs.Ytgialjcichiaoaa

/-
Plain proofs: the newest of a name; the place of a package in a plan.
-/
namespace Go.Proofs.Ytgialjcichiaoaa
namespace V
open Classical
set_option maxRecDepth 100000
variable {W : Wld}

theorem newest_ok (ps : List Pk) (hs : ps.length ≤ lim) (n : Int) : FunOk PP W n_i_newest s_i_newest [ePks ps, i64 n] [i64 (newI ps n)] := by
 refine F_i_newest (run_fun ?_)
 unfold lim at hs
 refine run_loop rfl (fun i : Int => 0 ≤ i ∧ i ≤ ps.length) (fun i => [(10, .val (i64 i)), (8, .val (ePks ps)), (9, .val (i64 (ps.map ePk).length)), (5, .val (i64 (lastI ps n i.toNat))), (1, .val (i64 n))]) (fun i => (ps.length - i).toNat) 0 ⟨by omega, by omega⟩ ⟨rfl, rfl, rfl, rfl, rfl, trivial⟩ rfl ?_
 rintro i e ⟨h0, hN⟩
 (repeat' first
  | (refine run_ite rfl (fun h => ?_) (fun h => ?_) <;> (try simp (disch := omega) only [zA, z13, z19, z20, z21, z22, z23, z24, z25, z31, eqDs, eqD, Nat.reduceAdd, wrap64] at h) <;> (try (exfalso; omega)))
  | (refine run_need rfl (by (try simp (disch := omega) only [zA, z13, z19, z20, z21, z22, z23, z24, z25, z31, eqDs, eqD, Nat.reduceAdd, wrap64]); first | exact elp_m (by omega) (by first | omega | (simp only [List.length_set]; omega)) (fun _ => rfl) | exact eld_m (by omega) (by first | omega | (simp only [List.length_set]; omega)) (fun _ => rfl) | exact els_m (by omega) (by omega) (by omega) rfl | exact lsl_m (by omega) (fun _ => rfl) | exact app_nil_m (by omega) (fun _ => rfl) (fun _ => rfl) | exact app_m_one (by omega) (fun _ => rfl) rfl rfl | exact app_m_m (by omega) (fun _ => rfl) (fun _ => rfl)) ?_)
  | (refine run_need rfl (by first | decide | omega | (simp only [List.length_map]; omega)) ?_)
  | (refine run_next rfl (Exists.intro (i + 1) ⟨by omega, ⟨by omega, by omega⟩, i64_eq (wrap64 _ (by omega)), rfl, rfl, ?_, rfl, trivial⟩))
  | (refine run_need rfl ?_ ?_)
  | (refine run_ret rfl ?_ ; first | refine rb ?_ | refine ri ?_ | refine rs2 ?_ ?_ | refine rs1 ?_)
  | (refine run_retx rfl ?_))
 ·refine i64_eq ?_
  rw [show (i + 1).toNat = i.toNat + 1 by omega, lastI, show ((i.toNat : Nat) : Int) = i by omega, if_pos h]
 ·refine i64_eq ?_
  rw [show (i + 1).toNat = i.toNat + 1 by omega, lastI, show ((i.toNat : Nat) : Int) = i by omega, if_neg h]
 ·rw [newI, show i.toNat = ps.length by omega]

theorem newest_lt (ps : List Pk) (n : Int) : newI ps n < ps.length ∧ -1 ≤ newI ps n := by
 by_cases h : 0 ≤ newI ps n
 ·have := (lastI_some ps n ps.length h).1
  unfold newI at *
  omega
 ·have : ∀ k, -1 ≤ lastI ps n k := fun k => by
   induction k with
   | zero => unfold lastI; omega
   | succ k ih => unfold lastI; split <;> omega
  have := this ps.length
  unfold newI at *
  omega

theorem pick_new (st hv : List Pk) (n : Int) : pickM st hv n = if 0 ≤ newI hv n ∧ (newI st n < 0 ∨ (ix st (newI st n)).ver ≤ (ix hv (newI hv n)).ver) then ix hv (newI hv n) else if 0 ≤ newI st n then ix st (newI st n) else default := by
 unfold pickM newP
 by_cases a : 0 ≤ newI st n <;> by_cases b : 0 ≤ newI hv n
 ·simp only [a, b, if_true, true_and, not_true_eq_false, false_or, show ¬ newI st n < 0 by omega]
  by_cases c : (ix hv (newI hv n)).ver < (ix st (newI st n)).ver
  ·rw [if_pos c, if_neg (by omega)]
  ·rw [if_neg c, if_pos (by omega)]
 ·simp [a, b]
 ·rw [if_neg (by omega), if_pos b, if_pos ⟨b, .inl (by omega)⟩]
 ·rw [if_neg (by omega), if_neg b, if_neg (by omega), if_neg a]

theorem newer_ok (st hv : List Pk) (h1 : st.length ≤ lim) (h2 : hv.length ≤ lim) (n : Int) : FunOk PP W n_i_newer s_i_newer_X [ePks st, ePks hv, i64 n] [ePk (pickM st hv n), bo (decide (0 ≤ newI st n ∨ 0 ≤ newI hv n))] := by
 refine F_i_newer_X (run_fun ?_)
 unfold lim at h1 h2
 have l1 := newest_lt st n
 have l2 := newest_lt hv n
 (repeat' first
  | (refine run_ite rfl (fun h => ?_) (fun h => ?_) <;> (try simp (disch := omega) only [zA, z13, z19, z20, z21, z22, z23, z24, z25, z31, eqDs, eqD, Nat.reduceAdd, wrap64] at h) <;> (try (exfalso; omega)))
  | (refine run_need rfl (by (try simp (disch := omega) only [zA, z13, z19, z20, z21, z22, z23, z24, z25, z31, eqDs, eqD, Nat.reduceAdd, wrap64]); first | exact elp_m (by omega) (by first | omega | (simp only [List.length_set]; omega)) (fun _ => rfl) | exact eld_m (by omega) (by first | omega | (simp only [List.length_set]; omega)) (fun _ => rfl) | exact els_m (by omega) (by omega) (by omega) rfl | exact lsl_m (by omega) (fun _ => rfl) | exact app_nil_m (by omega) (fun _ => rfl) (fun _ => rfl) | exact app_m_one (by omega) (fun _ => rfl) rfl rfl | exact app_m_m (by omega) (fun _ => rfl) (fun _ => rfl)) ?_)
  | (refine run_need rfl (by first | decide | omega | (simp only [List.length_map]; omega)) ?_)
  | (refine run_call1 rfl (newest_ok st h1 n) rfl ?_)
  | (refine run_call1 rfl (newest_ok hv h2 n) rfl ?_)
  | (refine run_need rfl ?_ ?_)
  | (refine run_ret rfl ?_ ; first | refine rb ?_ | refine ri ?_ | refine rs2 ?_ ?_ | refine rs1 ?_)
  | (refine run_retx rfl ?_))
 all_goals first
  | exact bo_eq (tD (by omega))
  | exact bo_eq (fD (by omega))
  | (rw [pick_new, if_pos (by omega)]; simp (disch := omega) only [zA, z13, z19, z20, z21, z22, z23, z24, z25, z31, eqDs, eqD, Nat.reduceAdd, wrap64]; done)
  | (rw [pick_new, if_neg (by omega), if_pos (by omega)]; simp (disch := omega) only [zA, z13, z19, z20, z21, z22, z23, z24, z25, z31, eqDs, eqD, Nat.reduceAdd, wrap64]; done)
  | (rw [pick_new, if_neg (by omega), if_neg (by omega)]; rfl)

theorem mid_eq {i j : Int} (h0 : 0 ≤ i) (h1 : i < j) (h2 : j ≤ 1073741824) : IntKind.i64.wrap ((IntKind.u64.wrap (IntKind.i64.wrap (i + j))).fdiv (2 ^ min (Int.toNat 1) IntKind.u64.bits)) = (i + j) / 2 := by
 have e1 : IntKind.u64.wrap (i + j) = i + j := by
  show (i + j) % (2 ^ 64 : Int) = i + j
  omega
 have e2 : (2 : Int) ^ min (Int.toNat 1) IntKind.u64.bits = 2 := by decide
 rw [wrap64 (i + j) (by omega), e1, e2, Int.fdiv_eq_ediv_of_nonneg _ (by decide), wrap64 _ (by omega)]
theorem cmp_lt {a b c d : Int} (h : a ≠ b) : (if cmpM a b = 0 then cmpM c d else cmpM a b) < 0 ↔ a < b := by
 unfold cmpM
 (repeat' split) <;> omega
theorem cmp_ne {a b c d : Int} (h : a ≠ b) : (if cmpM a b = 0 then cmpM c d else cmpM a b) ≠ 0 := by
 unfold cmpM
 (repeat' split) <;> omega

theorem search_ok (ps : List Pk) (hl : ps.length ≤ lim) (p : Pk) (hs : Srt ps) (hn : ∀ q ∈ ps, q.name ≠ p.name) : FunOk PP W n_sl_BinarySearchFunc_Pkg s_sl_BinarySearchFunc_Pkg [ePks ps, ePk p, [.fn n_i_Pkg_compare [] []]] [i64 (cutI ps p), bo false] := by
 refine F_sl_BinarySearchFunc_Pkg (run_fun ?_)
 unfold lim at hl
 have hc := cutI_le ps p
 refine run_loop rfl (fun x : Int × Int => 0 ≤ x.1 ∧ x.1 ≤ cutI ps p ∧ cutI ps p ≤ x.2 ∧ x.2 ≤ ps.length) (fun x => [(9, .val (i64 x.1)), (10, .val (i64 x.2)), (0, .val (ePks ps)), (4, .val (ePk p)), (2, .val [.fn n_i_Pkg_compare [] []]), (8, .val (i64 (ps.map ePk).length))]) (fun x => (x.2 - x.1).toNat) (0, ps.length) ⟨by dsimp only; omega, by dsimp only; omega, by dsimp only; omega, by dsimp only; omega⟩ ⟨rfl, by simp only [List.length_map]; rfl, rfl, rfl, rfl, rfl, trivial⟩ rfl ?_
 rintro ⟨i, j⟩ e ⟨h0, h1, h2, h3⟩
 dsimp only at h0 h1 h2 h3 ⊢
 (repeat' first
  | (refine run_ite rfl (fun h => ?_) (fun h => ?_) <;> (try simp (disch := omega) only [zA, z13, z19, z20, z21, z22, z23, z24, z25, z31, eqDs, eqD, Nat.reduceAdd, wrap64] at h) <;> (try (exfalso; omega)))
  | (refine run_need rfl (by (try simp (disch := omega) only [zA, z13, z19, z20, z21, z22, z23, z24, z25, z31, eqDs, eqD, Nat.reduceAdd, wrap64]); first | exact elp_m (by omega) (by first | omega | (simp only [List.length_set]; omega)) (fun _ => rfl) | exact eld_m (by omega) (by first | omega | (simp only [List.length_set]; omega)) (fun _ => rfl) | exact els_m (by omega) (by omega) (by omega) rfl | exact lsl_m (by omega) (fun _ => rfl) | exact app_nil_m (by omega) (fun _ => rfl) (fun _ => rfl) | exact app_m_one (by omega) (fun _ => rfl) rfl rfl | exact app_m_m (by omega) (fun _ => rfl) (fun _ => rfl)) ?_)
  | (refine run_need rfl (by first | decide | omega | (simp only [List.length_map]; omega)) ?_)
  | (refine run_need rfl (by rw [mid_eq h0 (by assumption) (by omega)]; exact elp_m (by omega) (by omega) (fun _ => rfl)) ?_)
  | (refine run_need rfl (by rw [mid_eq h0 (by assumption) (by omega)]; exact eld_m (by omega) (by omega) (fun _ => rfl)) ?_)
  | (refine run_clo1 (ins' := [ePk (ix ps ((i + j) / 2)), ePk p]) rfl (compare_ok (ix ps ((i + j) / 2)) p) (by rw [mid_eq h0 (by assumption) (by omega)]; simp (disch := omega) only [zA, z13, z19, z20, z21, z22, z23, z24, z25, z31, eqDs, eqD, Nat.reduceAdd, wrap64]) rfl ?_)
  | (refine run_clo1 (ins' := [ePk (ix ps i), ePk p]) rfl (compare_ok (ix ps i) p) (by simp (disch := omega) only [zA, z13, z19, z20, z21, z22, z23, z24, z25, z31, eqDs, eqD, Nat.reduceAdd, wrap64]) rfl ?_)
  | (refine run_next rfl (Exists.intro ((i + j) / 2 + 1, j) ⟨by dsimp only; omega, ⟨by dsimp only; omega, ?_, by dsimp only; omega, by dsimp only; omega⟩, i64_eq (by rw [mid_eq h0 (by assumption) (by omega)]; exact wrap64 _ (by omega)), rfl, rfl, rfl, rfl, rfl, trivial⟩))
  | (refine run_next rfl (Exists.intro (i, (i + j) / 2) ⟨by dsimp only; omega, ⟨by dsimp only; omega, by dsimp only; omega, ?_, by dsimp only; omega⟩, rfl, i64_eq (mid_eq h0 (by assumption) (by omega)), rfl, rfl, rfl, rfl, trivial⟩))
  | (refine run_need rfl ?_ ?_)
  | (refine run_ret rfl ?_ ; first | refine rb ?_ | refine ri ?_ | refine rs2 ?_ ?_ | refine rs1 ?_)
  | (refine run_retx rfl ?_))
 ·have hm := hn _ (ix_mem (xs := ps) (i := (i + j) / 2) (by omega) (by omega))
  have := (cut_lt hs hn (m := (i + j) / 2) (by omega) (by omega)).1 ((cmp_lt hm).1 h)
  dsimp only
  omega
 ·have hm := hn _ (ix_mem (xs := ps) (i := (i + j) / 2) (by omega) (by omega))
  have h4 : ¬ (i + j) / 2 < cutI ps p := fun h' => h ((cmp_lt hm).2 ((cut_lt hs hn (m := (i + j) / 2) (by omega) (by omega)).2 h'))
  dsimp only
  omega
 ·exact i64_eq (by omega)
 ·have hm := hn _ (ix_mem (xs := ps) (i := i) (by omega) (by omega))
  have := cmp_ne (c := (ix ps i).ver) (d := p.ver) hm
  show [D.bool _] = [D.bool false]
  rw [beq_eq_false_iff_ne.2 this]
 ·exact i64_eq (by omega)
 ·rfl

theorem put_X (ps : List Pk) (hl : ps.length ≤ 1000) (p : Pk) (hp : SmP p) (hs : Srt ps) (hn : ∀ q ∈ ps, q.name ≠ p.name) : FunOk PP W n_i_put s_i_put_X [ePks ps, ePk p] [ePks (putM ps p), bo true] := by
 refine F_i_put_X (run_fun ?_)
 have hc := cutI_le ps p
 have hl' : ps.length ≤ lim := by unfold lim; omega
 (repeat' first
  | (refine run_ite rfl (fun h => ?_) (fun h => ?_) <;> (try simp (disch := omega) only [zA, z13, z19, z20, z21, z22, z23, z24, z25, z31, eqDs, eqD, Nat.reduceAdd, wrap64] at h) <;> (try (exfalso; omega)))
  | (refine run_need rfl (by (try simp (disch := omega) only [zA, z13, z19, z20, z21, z22, z23, z24, z25, z31, eqDs, eqD, Nat.reduceAdd, wrap64]); first | exact elp_m (by omega) (by first | omega | (simp only [List.length_set]; omega)) (fun _ => rfl) | exact eld_m (by omega) (by first | omega | (simp only [List.length_set]; omega)) (fun _ => rfl) | exact els_m (by omega) (by omega) (by omega) rfl | exact lsl_m (by omega) (fun _ => rfl) | exact app_nil_m (by omega) (fun _ => rfl) (fun _ => rfl) | exact app_m_one (by omega) (fun _ => rfl) rfl rfl | exact app_m_m (by omega) (fun _ => rfl) (fun _ => rfl)) ?_)
  | (refine run_need rfl (by first | decide | omega | (simp only [List.length_map]; omega)) ?_)
  | (refine run_call1 rfl (pkgCopied_X p hp) rfl ?_)
  | (refine run_call1 rfl (insert_X ps p (cutI ps p) hc hl') rfl ?_)
  | (refine run_callr rfl (search_ok ps hl' p hs hn) rfl rfl ?_)
  | (refine run_need rfl ?_ ?_)
  | (refine run_ret rfl ?_ ; first | refine rb ?_ | refine ri ?_ | refine rs2 ?_ ?_ | refine rs1 ?_)
  | (refine run_retx rfl ?_))
 all_goals rfl
end V
end Go.Proofs.Ytgialjcichiaoaa

/-
Plain proofs: keys and roots; a world in which one root was published.
-/
namespace Go.Proofs.Ytgialjcichiaoaa
namespace V
open Classical
set_option maxRecDepth 100000
variable {W : Wld}

/-! Keys. -/
/-! How many keys are among both. -/
theorem idxI_ok (l : List Int) (x : Int) (hl : l.length ≤ lim) : FunOk PP W n_sl_Index_int s_sl_Index_int [eIs l, i64 x] [i64 (idxF (fun y => y = x) l l.length 0)] := by
 refine F_sl_Index_int (run_fun ?_)
 unfold lim at hl
 (repeat' first
  | (refine run_ite rfl (fun h => ?_) (fun h => ?_) <;> (try simp (disch := omega) only [zA, z13, z19, z20, z21, z22, z23, z24, z25, z31, eqDs, eqD, Nat.reduceAdd, wrap64] at h) <;> (try (exfalso; omega)))
  | (refine run_need rfl (by (try simp (disch := omega) only [zA, z13, z19, z20, z21, z22, z23, z24, z25, z31, eqDs, eqD, Nat.reduceAdd, wrap64]); first | exact elp_m (by omega) (by first | omega | (simp only [List.length_set]; omega)) (fun _ => rfl) | exact eld_m (by omega) (by first | omega | (simp only [List.length_set]; omega)) (fun _ => rfl) | exact els_m (by omega) (by omega) (by omega) rfl | exact lsl_m (by omega) (fun _ => rfl) | exact app_nil_m (by omega) (fun _ => rfl) (fun _ => rfl) | exact app_m_one (by omega) (fun _ => rfl) rfl rfl | exact app_m_m (by omega) (fun _ => rfl) (fun _ => rfl)) ?_)
  | (refine run_need rfl (by first | decide | omega | (simp only [List.length_map]; omega)) ?_)
  | (refine run_need rfl ?_ ?_)
  | (refine run_ret rfl ?_ ; first | refine rb ?_ | refine ri ?_ | refine rs2 ?_ ?_ | refine rs1 ?_)
  | (refine run_retx rfl ?_))
 refine run_loop rfl (fun i : Int => 0 ≤ i ∧ i ≤ l.length ∧ idxF (fun y => y = x) l l.length 0 = idxF (fun y => y = x) l (l.length - i).toNat i) (fun i => [(8, .val (i64 i)), (6, .val (eIs l)), (7, .val (i64 (l.map i64).length)), (0, .val (eIs l)), (1, .val (i64 x))]) (fun i => (l.length - i).toNat) 0 ⟨by omega, by omega, by simp⟩ ⟨rfl, rfl, rfl, rfl, rfl, trivial⟩ rfl ?_
 rintro i e ⟨h0, hN, hP⟩
 by_cases hi : i < l.length
 ·have hn : (l.length - i).toNat = (l.length - (i + 1)).toNat + 1 := by omega
  rw [hn, idxF] at hP
  (repeat' first
  | (refine run_ite rfl (fun h => ?_) (fun h => ?_) <;> (try simp (disch := omega) only [zA, z13, z19, z20, z21, z22, z23, z24, z25, z31, eqDs, eqD, Nat.reduceAdd, wrap64] at h) <;> (try (exfalso; omega)))
  | (refine run_need rfl (by (try simp (disch := omega) only [zA, z13, z19, z20, z21, z22, z23, z24, z25, z31, eqDs, eqD, Nat.reduceAdd, wrap64]); first | exact elp_m (by omega) (by first | omega | (simp only [List.length_set]; omega)) (fun _ => rfl) | exact eld_m (by omega) (by first | omega | (simp only [List.length_set]; omega)) (fun _ => rfl) | exact els_m (by omega) (by omega) (by omega) rfl | exact lsl_m (by omega) (fun _ => rfl) | exact app_nil_m (by omega) (fun _ => rfl) (fun _ => rfl) | exact app_m_one (by omega) (fun _ => rfl) rfl rfl | exact app_m_m (by omega) (fun _ => rfl) (fun _ => rfl)) ?_)
  | (refine run_need rfl (by first | decide | omega | (simp only [List.length_map]; omega)) ?_)
  | (refine run_next rfl (Exists.intro (i + 1) ⟨by omega, ⟨by omega, by omega, ?_⟩, i64_eq (wrap64 _ (by omega)), rfl, rfl, rfl, rfl, trivial⟩))
  | (refine run_need rfl ?_ ?_)
  | (refine run_ret rfl ?_ ; first | refine rb ?_ | refine ri ?_ | refine rs2 ?_ ?_ | refine rs1 ?_)
  | (refine run_retx rfl ?_))
  all_goals first
   | (rw [hP, if_pos (by omega)])
   | (rw [hP, if_neg (by omega)])
 ·(repeat' first
  | (refine run_ite rfl (fun h => ?_) (fun h => ?_) <;> (try simp (disch := omega) only [zA, z13, z19, z20, z21, z22, z23, z24, z25, z31, eqDs, eqD, Nat.reduceAdd, wrap64] at h) <;> (try (exfalso; omega)))
  | (refine run_need rfl (by (try simp (disch := omega) only [zA, z13, z19, z20, z21, z22, z23, z24, z25, z31, eqDs, eqD, Nat.reduceAdd, wrap64]); first | exact elp_m (by omega) (by first | omega | (simp only [List.length_set]; omega)) (fun _ => rfl) | exact eld_m (by omega) (by first | omega | (simp only [List.length_set]; omega)) (fun _ => rfl) | exact els_m (by omega) (by omega) (by omega) rfl | exact lsl_m (by omega) (fun _ => rfl) | exact app_nil_m (by omega) (fun _ => rfl) (fun _ => rfl) | exact app_m_one (by omega) (fun _ => rfl) rfl rfl | exact app_m_m (by omega) (fun _ => rfl) (fun _ => rfl)) ?_)
  | (refine run_need rfl (by first | decide | omega | (simp only [List.length_map]; omega)) ?_)
  | (refine run_need rfl ?_ ?_)
  | (refine run_ret rfl ?_ ; first | refine rb ?_ | refine ri ?_ | refine rs2 ?_ ?_ | refine rs1 ?_)
  | (refine run_retx rfl ?_))
  rw [hP, show (l.length - i).toNat = 0 by omega, idxF]
theorem conI_ok (l : List Int) (x : Int) (hl : l.length ≤ lim) : FunOk PP W n_sl_Contains_int s_sl_Contains_int [eIs l, i64 x] [bo (decide (x ∈ l))] := by
 refine F_sl_Contains_int (run_fun ?_)
 (repeat' first
  | (refine run_ite rfl (fun h => ?_) (fun h => ?_) <;> (try simp (disch := omega) only [zA, z13, z19, z20, z21, z22, z23, z24, z25, z31, eqDs, eqD, Nat.reduceAdd, wrap64] at h) <;> (try (exfalso; omega)))
  | (refine run_need rfl (by (try simp (disch := omega) only [zA, z13, z19, z20, z21, z22, z23, z24, z25, z31, eqDs, eqD, Nat.reduceAdd, wrap64]); first | exact elp_m (by omega) (by first | omega | (simp only [List.length_set]; omega)) (fun _ => rfl) | exact eld_m (by omega) (by first | omega | (simp only [List.length_set]; omega)) (fun _ => rfl) | exact els_m (by omega) (by omega) (by omega) rfl | exact lsl_m (by omega) (fun _ => rfl) | exact app_nil_m (by omega) (fun _ => rfl) (fun _ => rfl) | exact app_m_one (by omega) (fun _ => rfl) rfl rfl | exact app_m_m (by omega) (fun _ => rfl) (fun _ => rfl)) ?_)
  | (refine run_need rfl (by first | decide | omega | (simp only [List.length_map]; omega)) ?_)
  | (refine run_call1 rfl (idxI_ok l x hl) rfl ?_)
  | (refine run_need rfl ?_ ?_)
  | (refine run_ret rfl ?_ ; first | refine rb ?_ | refine ri ?_ | refine rs2 ?_ ?_ | refine rs1 ?_)
  | (refine run_retx rfl ?_))
 simp only [z19]
 congr 1
 rw [eq_iff_iff, idxF_mem]
 exact ⟨fun ⟨y, h1, h2⟩ => h2 ▸ h1, fun h => ⟨x, h, rfl⟩⟩

/-! Roots. -/
structure Rt where
 num : Int
 keys : List Int
 need : Int
deriving DecidableEq, Inhabited
/-! A new world. -/
structure Wn where
 roots : List SR
 bad : List Int
 tr : Rt
 dk : Dk
deriving DecidableEq, Inhabited
end V
end Go.Proofs.Ytgialjcichiaoaa

/-
Plain proofs: the program's plan for a name.
-/
namespace Go.Proofs.Ytgialjcichiaoaa
namespace V
open Classical
set_option maxRecDepth 100000
variable {W : Wld}

structure PInv (st hv : List Pk) (n : Int) (i : Int) (ns : List Int) (out : List Pk) : Prop where
 i0 : 0 ≤ i
 i1 : i ≤ ns.length
 len : ns.length ≤ 1 + hv.length + 2 * cnt out
 sm : SmPs out
 ol : out.length ≤ cnt out
 ok : OutOk st hv n out (fun m => m ∈ ns)
 rch : ∀ m ∈ ns, Rch st hv n m
 base : n ∈ ns
 got : ∀ q ∈ hv, q.name ∈ ns
 done : ∀ m ∈ ns.take i.toNat, hasN out m
 nam : ∀ q ∈ out, q.name ∈ ns.take i.toNat

theorem cnt_congr {a b : List Pk} (h : ∀ q, q ∈ a ↔ q ∈ b) : cnt a = cnt b := by
 have e : ∀ m, hasN a m = hasN b m := fun m => propext ⟨fun ⟨q, h1, h2⟩ => ⟨q, (h q).1 h1, h2⟩, fun ⟨q, h1, h2⟩ => ⟨q, (h q).2 h1, h2⟩⟩
 unfold cnt
 rw [e, e, e, e]
theorem smPs_put {ps : List Pk} {p : Pk} (h : SmPs ps) (hp : SmP p) (hl : ps.length ≤ 1000) : SmPs (putM ps p) := ⟨by have := putM_len ps p; unfold lim; omega, fun q hq => by
 rcases putM_mem.1 hq with h' | h'
 ·exact h.2 q h'
 ·rw [h']; exact hp⟩

theorem iPlanFor_X (st hv : List Pk) (h1 : SmPs st) (h2 : SmPs hv) (hl : hv.length ≤ 1048576) (n : Int) : FunOk PP W n_i_PlanFor s_i_PlanFor_X [ePks st, ePks hv, i64 n] [ePks (planR st hv n), bo (decide (ForAll st hv n))] := by
 refine F_i_PlanFor_X (run_fun ?_)
 have l1 := h1.1
 have l2 := h2.1
 unfold lim at l1 l2
 (repeat' first
  | (refine run_ite rfl (fun h => ?_) (fun h => ?_) <;> (try simp (disch := omega) only [zA, z13, z19, z20, z21, z22, z23, z24, z25, z31, eqDs, eqD, Nat.reduceAdd, wrap64] at h) <;> (try (exfalso; omega)))
  | (refine run_need rfl (by (try simp (disch := omega) only [zA, z13, z19, z20, z21, z22, z23, z24, z25, z31, eqDs, eqD, Nat.reduceAdd, wrap64]); first | exact elp_m (by omega) (by first | omega | (simp only [List.length_set]; omega)) (fun _ => rfl) | exact eld_m (by omega) (by first | omega | (simp only [List.length_set]; omega)) (fun _ => rfl) | exact els_m (by omega) (by omega) (by omega) rfl | exact lsl_m (by omega) (fun _ => rfl) | exact app_nil_m (by omega) (fun _ => rfl) (fun _ => rfl) | exact app_m_one (by omega) (fun _ => rfl) rfl rfl | exact app_m_m (by omega) (fun _ => rfl) (fun _ => rfl)) ?_)
  | (refine run_need rfl (by first | decide | omega | (simp only [List.length_map]; omega)) ?_)
  | (refine run_call1 rfl (iStoreOk_ok st h1) rfl ?_)
  | (refine run_call1 rfl (iPlanOk_ok hv h2) rfl ?_)
  | (refine run_call1 rfl (isName_ok n) rfl ?_)
  | (refine run_need rfl ?_ ?_)
  | (refine run_ret rfl ?_ ; first | refine rb ?_ | refine ri ?_ | refine rs2 ?_ ?_ | refine rs1 ?_)
  | (refine run_retx rfl ?_))
 all_goals try first
  | exact planR_no (fun h => absurd h.1.1 (by assumption))
  | exact planB_no (fun h => absurd h.1.1 (by assumption))
  | exact planR_no (fun h => absurd h.1.2.1 (by assumption))
  | exact planB_no (fun h => absurd h.1.2.1 (by assumption))
  | exact planR_no (fun h => absurd h.1.2.2 (by assumption))
  | exact planB_no (fun h => absurd h.1.2.2 (by assumption))
 have cst : PksOk st := by assumption
 have cpl : PlanM hv := by assumption
 have cn : 1 ≤ n ∧ n ≤ 4 := by assumption
 have g1 := pks_mem cst
 have g2 := pks_mem cpl.1
 have hrg : ∀ m, Rch st hv n m → 1 ≤ m ∧ m ≤ 4 := fun m h => rch_range cn g1 g2 h
 refine run_loop rfl (fun i : Int => 0 ≤ i ∧ i ≤ hv.length) (fun i => [(34, .val (i64 i)), (32, .val (ePks hv)), (33, .val (i64 (hv.map ePk).length)), (8, .val (eIs (n :: (hv.take i.toNat).map (·.name)))), (0, .val (ePks st)), (1, .val (ePks hv))]) (fun i => (hv.length - i).toNat) 0 ⟨by omega, by omega⟩ ⟨rfl, rfl, rfl, rfl, rfl, rfl, trivial⟩ rfl ?_
 rintro i e ⟨h0, hN⟩
 have ht : (n :: (hv.take i.toNat).map (·.name)).length ≤ 1048577 := by simp; omega
 (repeat' first
  | (refine run_ite rfl (fun h => ?_) (fun h => ?_) <;> (try simp (disch := omega) only [zA, z13, z19, z20, z21, z22, z23, z24, z25, z31, eqDs, eqD, Nat.reduceAdd, wrap64] at h) <;> (try (exfalso; omega)))
  | (refine run_need rfl (by (try simp (disch := omega) only [zA, z13, z19, z20, z21, z22, z23, z24, z25, z31, eqDs, eqD, Nat.reduceAdd, wrap64]); first | exact elp_m (by omega) (by first | omega | (simp only [List.length_set]; omega)) (fun _ => rfl) | exact eld_m (by omega) (by first | omega | (simp only [List.length_set]; omega)) (fun _ => rfl) | exact els_m (by omega) (by omega) (by omega) rfl | exact lsl_m (by omega) (fun _ => rfl) | exact app_nil_m (by omega) (fun _ => rfl) (fun _ => rfl) | exact app_m_one (by omega) (fun _ => rfl) rfl rfl | exact app_m_m (by omega) (fun _ => rfl) (fun _ => rfl)) ?_)
  | (refine run_need rfl (by first | decide | omega | (simp only [List.length_map]; omega)) ?_)
  | (refine run_next rfl (Exists.intro (i + 1) ⟨by omega, ⟨by omega, by omega⟩, i64_eq (wrap64 _ (by omega)), rfl, rfl, ?_, rfl, rfl, trivial⟩))
  | (refine run_need rfl ?_ ?_)
  | (refine run_ret rfl ?_ ; first | refine rb ?_ | refine ri ?_ | refine rs2 ?_ ?_ | refine rs1 ?_)
  | (refine run_retx rfl ?_))
 ·refine sl_eq ?_
  rw [take_ix hv h0 (by omega)]
  simp only [List.map_append, List.map_cons, List.map_nil, cI_Pk_0]
  rfl
 have hti : hv.take i.toNat = hv := List.take_of_length_le (by omega)
 refine run_loop rfl (fun x : Int × List Int × List Pk => PInv st hv n x.1 x.2.1 x.2.2) (fun x => [(12, .val (i64 x.1)), (8, .val (eIs x.2.1)), (11, .val (ePks x.2.2)), (0, .val (ePks st)), (1, .val (ePks hv))]) (fun x => (4 - cnt x.2.2) * 10 + (x.2.1.length - x.1).toNat) (0, n :: (hv.take i.toNat).map (·.name), []) ⟨by dsimp only; omega, by dsimp only; omega, by simp [hti]; omega, smPs_nil', by simp, outOk_nil, fun m hm => ?_, by simp, fun q hq => ?_, fun m hm => by simp at hm, fun q hq => by cases hq⟩ ⟨rfl, rfl, rfl, rfl, rfl, trivial⟩ rfl ?_
 ·dsimp only at hm
  rw [hti] at hm
  rcases List.mem_cons.1 hm with rfl | h'
  ·exact .base
  ·obtain ⟨q, hq, rfl⟩ := List.mem_map.1 h'
   exact .got hq
 ·dsimp only
  rw [hti]
  exact List.mem_cons_of_mem _ (List.mem_map.2 ⟨q, hq, rfl⟩)
 clear h h0 hN ht hti
 rintro ⟨k, ns, out⟩ e iv
 dsimp only at iv ⊢
 have k0 := iv.i0
 have kN := iv.i1
 have hc4 := cnt_le out
 have hnl := iv.len
 have hol := iv.ol
 have htl : (ns.take k.toNat).length ≤ lim := by rw [List.length_take]; unfold lim; omega
 (repeat' first
  | (refine run_ite rfl (fun h => ?_) (fun h => ?_) <;> (try simp (disch := omega) only [zA, z13, z19, z20, z21, z22, z23, z24, z25, z31, eqDs, eqD, Nat.reduceAdd, wrap64] at h) <;> (try (exfalso; omega)))
  | (refine run_need rfl (by (try simp (disch := omega) only [zA, z13, z19, z20, z21, z22, z23, z24, z25, z31, eqDs, eqD, Nat.reduceAdd, wrap64]); first | exact elp_m (by omega) (by first | omega | (simp only [List.length_set]; omega)) (fun _ => rfl) | exact eld_m (by omega) (by first | omega | (simp only [List.length_set]; omega)) (fun _ => rfl) | exact els_m (by omega) (by omega) (by omega) rfl | exact lsl_m (by omega) (fun _ => rfl) | exact app_nil_m (by omega) (fun _ => rfl) (fun _ => rfl) | exact app_m_one (by omega) (fun _ => rfl) rfl rfl | exact app_m_m (by omega) (fun _ => rfl) (fun _ => rfl)) ?_)
  | (refine run_need rfl (by first | decide | omega | (simp only [List.length_map]; omega)) ?_)
  | (refine run_calleq rfl (conI_ok (ns.take k.toNat) (ix ns k) htl) (by simp (disch := omega) only [zA, z13, z19, z20, z21, z22, z23, z24, z25, z31, eqDs, eqD, Nat.reduceAdd, wrap64]; rw [← List.map_take]; rfl) rfl ?_)
  | (refine run_call1 rfl (iPlanOk_ok out iv.sm) rfl ?_)
  | (refine run_callr rfl (newer_ok st hv (by unfold lim; omega) (by unfold lim; omega) (ix ns k)) (by simp (disch := omega) only [zA, z13, z19, z20, z21, z22, z23, z24, z25, z31, eqDs, eqD, Nat.reduceAdd, wrap64]) rfl ?_)
  | (refine run_next rfl (Exists.intro (k + 1, ns, out) ⟨by dsimp only; omega, ⟨by dsimp only; omega, by dsimp only; omega, hnl, iv.sm, hol, iv.ok, iv.rch, iv.base, iv.got, fun m hm => ?_, fun q hq => ?_⟩, i64_eq (wrap64 _ (by omega)), rfl, rfl, rfl, rfl, trivial⟩))
  | (refine run_need rfl ?_ ?_)
  | (refine run_ret rfl ?_ ; first | refine rb ?_ | refine ri ?_ | refine rs2 ?_ ?_ | refine rs1 ?_)
  | (refine run_retx rfl ?_))
 ·dsimp only at hm ⊢
  rw [take_ix ns k0 (by assumption)] at hm
  rcases List.mem_append.1 hm with h' | h'
  ·exact iv.done m h'
  ·rw [List.mem_singleton.1 h']
   exact iv.done _ h
 ·dsimp only at hq ⊢
  rw [take_ix ns k0 (by assumption)]
  exact List.mem_append_left _ (iv.nam q hq)
 ·exact planR_no (fun hf => h (hf.2.1 _ (iv.rch _ (ix_mem k0 (by assumption)))))
 ·exact planB_no (fun hf => h (hf.2.1 _ (iv.rch _ (ix_mem k0 (by assumption)))))
 ·have hkl : k < ns.length := by assumption
  have hk : hasPk st hv (ix ns k) := h
  obtain ⟨hm, hkn⟩ := pickM_of h
  have hno : ¬ ix ns k ∈ ns.take k.toNat := by assumption
  have hrk : Rch st hv n (ix ns k) := iv.rch _ (ix_mem k0 hkl)
  have hpk : PkOk (pickM st hv (ix ns k)) := hm.elim (fun h' => g1 _ h') (fun h' => g2 _ h')
  have hsm : SmP (pickM st hv (ix ns k)) := hm.elim (fun h' => h1.2 _ h') (fun h' => h2.2 _ h')
  have hdp : ∀ d ∈ (pickM st hv (ix ns k)).deps, Rch st hv n d.a := fun d hd => .dep hrk hk hd
  have hadd : ∀ out' N', (∀ m, m ∈ ns → N' m) → Srt out' → (∀ q, q ∈ out' ↔ q ∈ out ∨ q = pickM st hv (ix ns k)) → (∀ d ∈ (pickM st hv (ix ns k)).deps, N' d.a) → OutOk st hv n out' N' := fun out' N' hN hs hm hd => outOk_add iv.ok hN hrk hk hs hm hd
  generalize pickM st hv (ix ns k) = pk at hm hkn hsm hpk hdp hadd
  have hne : ∀ q ∈ out, q.name ≠ pk.name := fun q hq e => hno (by rw [← hkn, ← e]; exact iv.nam q hq)
  have hcw : cnt out + 1 ≤ cnt (putM out pk) := by
   have := cnt_with (ps := out) (p := pk) hpk.1 (fun ⟨q, hq1, hq2⟩ => hne q hq1 hq2)
   rwa [cnt_congr (b := putM out pk) (fun q => (withM_iff hne).trans putM_mem.symm)] at this
  have hcl := cnt_le (putM out pk)
  have hpl := putM_len out pk
  have hd2 : (pk.deps.length : Int) ≤ 2 := hpk.2.2.2.2
  (repeat' first
  | (refine run_ite rfl (fun h => ?_) (fun h => ?_) <;> (try simp (disch := omega) only [zA, z13, z19, z20, z21, z22, z23, z24, z25, z31, eqDs, eqD, Nat.reduceAdd, wrap64] at h) <;> (try (exfalso; omega)))
  | (refine run_need rfl (by (try simp (disch := omega) only [zA, z13, z19, z20, z21, z22, z23, z24, z25, z31, eqDs, eqD, Nat.reduceAdd, wrap64]); first | exact elp_m (by omega) (by first | omega | (simp only [List.length_set]; omega)) (fun _ => rfl) | exact eld_m (by omega) (by first | omega | (simp only [List.length_set]; omega)) (fun _ => rfl) | exact els_m (by omega) (by omega) (by omega) rfl | exact lsl_m (by omega) (fun _ => rfl) | exact app_nil_m (by omega) (fun _ => rfl) (fun _ => rfl) | exact app_m_one (by omega) (fun _ => rfl) rfl rfl | exact app_m_m (by omega) (fun _ => rfl) (fun _ => rfl)) ?_)
  | (refine run_need rfl (by first | decide | omega | (simp only [List.length_map]; omega)) ?_)
  | (refine run_need rfl ?_ ?_)
  | (refine run_ret rfl ?_ ; first | refine rb ?_ | refine ri ?_ | refine rs2 ?_ ?_ | refine rs1 ?_)
  | (refine run_retx rfl ?_))
  refine run_loop rfl (fun j : Int => 0 ≤ j ∧ j ≤ pk.deps.length) (fun j => [(73, .val (i64 j)), (71, .val (eP2s pk.deps)), (72, .val (i64 (pk.deps.map eP2).length)), (8, .val (eIs (ns ++ (pk.deps.take j.toNat).map (·.a)))), (13, .val (ePk pk)), (11, .val (ePks out)), (12, .val (i64 k)), (0, .val (ePks st)), (1, .val (ePks hv))]) (fun j => (pk.deps.length - j).toNat) 0 ⟨by omega, by omega⟩ ⟨rfl, rfl, rfl, sl_eq (by simp), rfl, rfl, rfl, rfl, rfl, trivial⟩ rfl ?_
  rintro j e ⟨j0, jN⟩
  have hjl : (ns ++ (pk.deps.take j.toNat).map (·.a)).length ≤ 1048587 := by simp; omega
  (repeat' first
  | (refine run_ite rfl (fun h => ?_) (fun h => ?_) <;> (try simp (disch := omega) only [zA, z13, z19, z20, z21, z22, z23, z24, z25, z31, eqDs, eqD, Nat.reduceAdd, wrap64] at h) <;> (try (exfalso; omega)))
  | (refine run_need rfl (by (try simp (disch := omega) only [zA, z13, z19, z20, z21, z22, z23, z24, z25, z31, eqDs, eqD, Nat.reduceAdd, wrap64]); first | exact elp_m (by omega) (by first | omega | (simp only [List.length_set]; omega)) (fun _ => rfl) | exact eld_m (by omega) (by first | omega | (simp only [List.length_set]; omega)) (fun _ => rfl) | exact els_m (by omega) (by omega) (by omega) rfl | exact lsl_m (by omega) (fun _ => rfl) | exact app_nil_m (by omega) (fun _ => rfl) (fun _ => rfl) | exact app_m_one (by omega) (fun _ => rfl) rfl rfl | exact app_m_m (by omega) (fun _ => rfl) (fun _ => rfl)) ?_)
  | (refine run_need rfl (by first | decide | omega | (simp only [List.length_map]; omega)) ?_)
  | (refine run_callr rfl (put_X out (by omega) pk hsm iv.ok.srt hne) rfl rfl ?_)
  | (refine run_next rfl (Exists.intro (j + 1) ⟨by omega, ⟨by omega, by omega⟩, i64_eq (wrap64 _ (by omega)), rfl, rfl, ?_, rfl, rfl, rfl, rfl, rfl, trivial⟩))
  | (refine run_next rfl (Exists.intro (k + 1, ns ++ (pk.deps.take j.toNat).map (·.a), putM out pk) ⟨by simp; omega, ⟨by dsimp only; omega, by simp; omega, by simp; omega, smPs_put iv.sm hsm (by omega), by dsimp only; omega, hadd _ _ (fun m hm => List.mem_append_left _ hm) (putM_srt iv.ok.srt hne) (fun q => putM_mem) (fun d hd => ?_), fun m hm => ?_, List.mem_append_left _ iv.base, fun q hq => List.mem_append_left _ (iv.got q hq), fun m hm => ?_, fun q hq => ?_⟩, i64_eq (wrap64 _ (by omega)), rfl, rfl, rfl, rfl, trivial⟩))
  | (refine run_need rfl ?_ ?_)
  | (refine run_ret rfl ?_ ; first | refine rb ?_ | refine ri ?_ | refine rs2 ?_ ?_ | refine rs1 ?_)
  | (refine run_retx rfl ?_))
  ·refine sl_eq ?_
   rw [take_ix pk.deps j0 (by assumption)]
   simp only [List.map_append, List.map_cons, List.map_nil, cI_P2_0, List.append_assoc]
  ·dsimp only
   rw [List.take_of_length_le (by omega)]
   exact List.mem_append_right _ (List.mem_map.2 ⟨d, hd, rfl⟩)
  ·dsimp only at hm
   rcases List.mem_append.1 hm with h' | h'
   ·exact iv.rch m h'
   ·obtain ⟨d, hd, rfl⟩ := List.mem_map.1 h'
    exact hdp d (List.mem_of_mem_take hd)
  ·dsimp only at hm ⊢
   rw [List.take_append_of_le_length (by omega), take_ix ns k0 hkl] at hm
   rcases List.mem_append.1 hm with h' | h'
   ·obtain ⟨q, hq, hqn⟩ := iv.done m h'
    exact ⟨q, putM_mem.2 (.inl hq), hqn⟩
   ·exact ⟨pk, putM_mem.2 (.inr rfl), by rw [hkn, List.mem_singleton.1 h']⟩
  ·dsimp only at hq ⊢
   rw [List.take_append_of_le_length (by omega), take_ix ns k0 hkl]
   rcases putM_mem.1 hq with h' | h'
   ·exact List.mem_append_left _ (iv.nam q h')
   ·rw [h', hkn]
    exact List.mem_append_right _ (List.mem_singleton.2 rfl)
 all_goals
  obtain ⟨ha, ho⟩ := outOk_fin iv.ok hrg iv.base iv.got (fun m hr hm => iv.done m (by rw [List.take_of_length_le (by omega)]; exact hm))
  rw [ho] at h
 ·exact planR_no (fun hf => h hf.2.2)
 ·exact planB_no (fun hf => h hf.2.2)
 ·rw [planR, if_pos ⟨⟨cst, cpl, cn⟩, ha, h⟩, ho]
 ·exact bo_eq (tD ⟨⟨cst, cpl, cn⟩, ha, h⟩)
end V
end Go.Proofs.Ytgialjcichiaoaa

/-
Plain proofs: the reference's plan for a name.
-/
namespace Go.Proofs.Ytgialjcichiaoaa
namespace V
open Classical
set_option maxRecDepth 100000
variable {W : Wld}

theorem nmPk_ok {q : Pk} (h : PkOk q) : NmPk q := ⟨⟨by have := h.1; omega, h.1.2⟩, fun d hd => by
 obtain ⟨j, j0, j1, rfl⟩ := mem_ix hd
 have := (h.2.2.2.1 j j0 j1).1
 omega⟩

def Nb (bt : List Bool) (m : Int) : Prop := (0 ≤ m ∧ m < 5) ∧ ix bt m = true
structure SInv (st hv : List Pk) (n : Int) (k : Int) (bt : List Bool) (out : List Pk) : Prop where
 k0 : 1 ≤ k ∧ k ≤ 5
 len : bt.length = 5
 sm : SmPs out
 nm : NmPs out
 ol : out.length ≤ cnt out
 ok : OutOk st hv n out (Nb bt)
 rch : ∀ m, Nb bt m → Rch st hv n m
 base : Nb bt n
 got : ∀ q ∈ hv, Nb bt q.name
 done : ∀ m, 1 ≤ m → m < k → Nb bt m → hasN out m

theorem nb_set {bt : List Bool} {a m : Int} (hl : bt.length = 5) (a0 : 0 ≤ a) (a1 : a < 5) : Nb (bt.set a.toNat true) m ↔ m = a ∨ Nb bt m := by
 unfold Nb
 constructor
 ·rintro ⟨h, h2⟩
  rw [ix_set a0 (by omega) h.1] at h2
  by_cases e : m = a
  ·exact .inl e
  ·rw [if_neg e] at h2; exact .inr ⟨h, h2⟩
 ·rintro (rfl | ⟨h, h2⟩)
  ·exact ⟨⟨a0, a1⟩, by rw [ix_set a0 (by omega) a0, if_pos rfl]⟩
  ·refine ⟨h, ?_⟩
   rw [ix_set a0 (by omega) h.1]
   split
   ·rfl
   ·exact h2
theorem nb_init (m : Int) : ¬ Nb (List.replicate 5 false) m := by
 rintro ⟨h, h2⟩
 have : m = 0 ∨ m = 1 ∨ m = 2 ∨ m = 3 ∨ m = 4 := by omega
 rcases this with rfl | rfl | rfl | rfl | rfl <;> simp [ix] at h2

theorem forM_no {st hv : List Pk} {n : Int} (h : ¬ ForOk st hv n) : ([D.sl []] : List D) = ePks (forM' st hv n) := by rw [forM', if_neg h]; rfl
theorem forB_no {st hv : List Pk} {n : Int} (h : ¬ ForOk st hv n) : ([D.bool false] : List D) = bo (decide (ForOk st hv n)) := bo_eq (fD h)

theorem sFor_ok (st hv : List Pk) (n : Int) (h1 : SmPs st) (h2 : SmPs hv) (g1 : ∀ q ∈ st, PkOk q) (g2 : ∀ q ∈ hv, PkOk q) (hn : 1 ≤ n ∧ n ≤ 4) : FunOk PP W n_s_l13For s_s_l13For [ePks st, ePks hv, i64 n] [ePks (forM' st hv n), bo (decide (ForOk st hv n))] := by
 have hrg : ∀ m, Rch st hv n m → 1 ≤ m ∧ m ≤ 4 := fun m h => rch_range hn g1 g2 h
 refine F_s_l13For (run_fun ?_)
 have hl := h2.1
 unfold lim at hl
 refine run_need rfl (by decide) ?_
 (repeat' first
  | (refine run_ite rfl (fun h => ?_) (fun h => ?_) <;> (try simp (disch := omega) only [zA, z13, z19, z20, z21, z22, z23, z24, z25, z31, eqDs, eqD, Nat.reduceAdd, wrap64] at h) <;> (try (exfalso; omega)))
  | (refine run_need rfl (by (try simp (disch := omega) only [zA, z13, z19, z20, z21, z22, z23, z24, z25, z31, eqDs, eqD, Nat.reduceAdd, wrap64]); first | exact elp_m (by omega) (by first | omega | (simp only [List.length_set]; omega)) (fun _ => rfl) | exact eld_m (by omega) (by first | omega | (simp only [List.length_set]; omega)) (fun _ => rfl) | exact els_m (by omega) (by omega) (by omega) rfl | exact lsl_m (by omega) (fun _ => rfl) | exact app_nil_m (by omega) (fun _ => rfl) (fun _ => rfl) | exact app_m_one (by omega) (fun _ => rfl) rfl rfl | exact app_m_m (by omega) (fun _ => rfl) (fun _ => rfl)) ?_)
  | (refine run_need rfl (by first | decide | omega | (simp only [List.length_map]; omega)) ?_)
  | (refine run_need rfl (elp_m (enc := bo) (xs := List.replicate 5 false) (by omega) (by simp; omega) (fun _ => rfl)) ?_)
  | (refine run_need rfl (els_g (enc := bo) (sz := 1) (xs := List.replicate 5 false) (ys := List.replicate 5 false) (z := true) (by omega) (by simp; omega) (by simp; omega) (fun _ => rfl)) ?_)
  | (refine run_need rfl ?_ ?_)
  | (refine run_ret rfl ?_ ; first | refine rb ?_ | refine ri ?_ | refine rs2 ?_ ?_ | refine rs1 ?_)
  | (refine run_retx rfl ?_))
 have hnm : ∀ i : Int, 0 ≤ i → i < hv.length → 0 ≤ (ix hv i).name ∧ (ix hv i).name < 5 := fun i i0 i1 => by have := (g2 _ (ix_mem i0 i1)).1; omega
 refine run_loop rfl (fun x : Int × List Bool => (0 ≤ x.1 ∧ x.1 ≤ hv.length) ∧ x.2.length = 5 ∧ (∀ m, Nb x.2 m → Rch st hv n m) ∧ Nb x.2 n ∧ ∀ j : Int, 0 ≤ j → j < x.1 → Nb x.2 (ix hv j).name) (fun x => [(9, .val (i64 x.1)), (8, .val [.sl (x.2.map bo)]), (0, .val (ePks st)), (1, .val (ePks hv))]) (fun x => (hv.length - x.1).toNat) (0, (List.replicate 5 false).set n.toNat true) ⟨⟨by dsimp only; omega, by dsimp only; omega⟩, by simp, fun m hm => ?_, (nb_set (by simp) (by omega) (by omega)).2 (.inl rfl), fun j j0 j1 => by dsimp only at j1; omega⟩ ⟨rfl, sl_eq (els_gv (enc := bo) (sz := 1) (ys := List.replicate 5 false) (z := true) (i := n) (by omega) (by simp; omega) (fun _ => rfl)), rfl, rfl, trivial⟩ rfl ?_
 ·rcases (nb_set (by simp) (by omega) (by omega)).1 hm with rfl | h
  ·exact .base
  ·exact absurd h (nb_init m)
 rintro ⟨i, bs⟩ e ⟨⟨h0, hN⟩, hbl, hb1, hb2, hb3⟩
 dsimp only at h0 hN hbl hb1 hb2 hb3 ⊢
 (repeat' first
  | (refine run_ite rfl (fun h => ?_) (fun h => ?_) <;> (try simp (disch := omega) only [zA, z13, z19, z20, z21, z22, z23, z24, z25, z31, eqDs, eqD, Nat.reduceAdd, wrap64] at h) <;> (try (exfalso; omega)))
  | (refine run_need rfl (by (try simp (disch := omega) only [zA, z13, z19, z20, z21, z22, z23, z24, z25, z31, eqDs, eqD, Nat.reduceAdd, wrap64]); first | exact elp_m (by omega) (by first | omega | (simp only [List.length_set]; omega)) (fun _ => rfl) | exact eld_m (by omega) (by first | omega | (simp only [List.length_set]; omega)) (fun _ => rfl) | exact els_m (by omega) (by omega) (by omega) rfl | exact lsl_m (by omega) (fun _ => rfl) | exact app_nil_m (by omega) (fun _ => rfl) (fun _ => rfl) | exact app_m_one (by omega) (fun _ => rfl) rfl rfl | exact app_m_m (by omega) (fun _ => rfl) (fun _ => rfl)) ?_)
  | (refine run_need rfl (by first | decide | omega | (simp only [List.length_map]; omega)) ?_)
  | (refine run_need rfl (by simp (disch := omega) only [zA, z13, z19, z20, z21, z22, z23, z24, z25, z31, eqDs, eqD, Nat.reduceAdd, wrap64]; have := hnm i h0 (by assumption); exact elp_m (enc := bo) (xs := bs) (by omega) (by omega) (fun _ => rfl)) ?_)
  | (refine run_need rfl (by simp (disch := omega) only [zA, z13, z19, z20, z21, z22, z23, z24, z25, z31, eqDs, eqD, Nat.reduceAdd, wrap64]; have := hnm i h0 (by assumption); exact els_g (enc := bo) (sz := 1) (xs := bs) (ys := bs) (z := true) (by omega) (by omega) (by omega) (fun _ => rfl)) ?_)
  | (refine run_next rfl (Exists.intro (i + 1, bs.set (ix hv i).name.toNat true) ⟨by dsimp only; omega, ⟨⟨by dsimp only; omega, by dsimp only; omega⟩, by simp; omega, fun m hm => ?_, ?_, fun j j0 j1 => ?_⟩, i64_eq (wrap64 _ (by omega)), ?_, rfl, rfl, trivial⟩))
  | (refine run_need rfl ?_ ?_)
  | (refine run_ret rfl ?_ ; first | refine rb ?_ | refine ri ?_ | refine rs2 ?_ ?_ | refine rs1 ?_)
  | (refine run_retx rfl ?_))
 ·have := hnm i h0 (by assumption)
  rcases (nb_set hbl (by omega) (by omega)).1 hm with rfl | h
  ·exact .got (ix_mem h0 (by assumption))
  ·exact hb1 m h
 ·have := hnm i h0 (by assumption)
  exact (nb_set hbl (by omega) (by omega)).2 (.inr hb2)
 ·have := hnm i h0 (by assumption)
  dsimp only at j1
  refine (nb_set hbl (by omega) (by omega)).2 ?_
  by_cases e : j = i
  ·rw [e]; exact .inl rfl
  ·exact .inr (hb3 j j0 (by omega))
 ·refine sl_eq ?_
  have := hnm i h0 (by assumption)
  rw [cI_Pk_0]
  exact els_gv (enc := bo) (sz := 1) (z := true) (by omega) (by omega) (fun _ => rfl)
 have hgot : ∀ q ∈ hv, Nb bs q.name := fun q hq => by
  obtain ⟨j, j0, j1, rfl⟩ := mem_ix hq
  exact hb3 j j0 (by omega)
 clear h h0 hN hb3
 refine run_loop rfl (fun x : Int × List Bool × List Pk => SInv st hv n x.1 x.2.1 x.2.2) (fun x => [(11, .val (i64 x.1)), (8, .val [.sl (x.2.1.map bo)]), (10, .val (ePks x.2.2)), (0, .val (ePks st)), (1, .val (ePks hv))]) (fun x => (4 - cnt x.2.2) * 10 + (5 - x.1).toNat) (1, bs, []) ⟨⟨by dsimp only; omega, by dsimp only; omega⟩, hbl, smPs_nil', (fun q hq => by cases hq), by simp, outOk_nil, hb1, hb2, hgot, fun m m0 m1 => by dsimp only at m1; omega⟩ ⟨rfl, rfl, rfl, rfl, rfl, trivial⟩ rfl ?_
 rintro ⟨k, bt, out⟩ e iv
 dsimp only at iv ⊢
 have k0 := iv.k0
 have hb5 := iv.len
 have ho1 := iv.sm
 have ho2 := iv.nm
 have ho3 := iv.ol
 have hc4 := cnt_le out
 (repeat' first
  | (refine run_ite rfl (fun h => ?_) (fun h => ?_) <;> (try simp (disch := omega) only [zA, z13, z19, z20, z21, z22, z23, z24, z25, z31, eqDs, eqD, Nat.reduceAdd, wrap64] at h) <;> (try (exfalso; omega)))
  | (refine run_need rfl (by (try simp (disch := omega) only [zA, z13, z19, z20, z21, z22, z23, z24, z25, z31, eqDs, eqD, Nat.reduceAdd, wrap64]); first | exact elp_m (by omega) (by first | omega | (simp only [List.length_set]; omega)) (fun _ => rfl) | exact eld_m (by omega) (by first | omega | (simp only [List.length_set]; omega)) (fun _ => rfl) | exact els_m (by omega) (by omega) (by omega) rfl | exact lsl_m (by omega) (fun _ => rfl) | exact app_nil_m (by omega) (fun _ => rfl) (fun _ => rfl) | exact app_m_one (by omega) (fun _ => rfl) rfl rfl | exact app_m_m (by omega) (fun _ => rfl) (fun _ => rfl)) ?_)
  | (refine run_need rfl (by first | decide | omega | (simp only [List.length_map]; omega)) ?_)
  | (refine run_call1 rfl (l13Is_ok out ho1 k) rfl ?_)
  | (refine run_call1 rfl (sPlanOk_ok out ho1) rfl ?_)
  | (refine run_callr rfl (l13Pick_ok st hv h1 h2 k) rfl rfl ?_)
  | (refine run_next rfl (Exists.intro (k + 1, bt, out) ⟨by dsimp only; omega, ⟨⟨by omega, by omega⟩, hb5, ho1, ho2, ho3, iv.ok, iv.rch, iv.base, iv.got, fun m m0 m1 hm => ?_⟩, i64_eq (wrap64 _ (by omega)), rfl, rfl, rfl, rfl, trivial⟩))
  | (refine run_need rfl ?_ ?_)
  | (refine run_ret rfl ?_ ; first | refine rb ?_ | refine ri ?_ | refine rs2 ?_ ?_ | refine rs1 ?_)
  | (refine run_retx rfl ?_))
 ·dsimp only at m1 hm ⊢
  by_cases e : m = k
  ·subst e
   have := hm.2
   simp_all
  ·exact iv.done m m0 (by omega) hm
 ·dsimp only at m1 hm ⊢
  by_cases e : m = k
  ·subst e
   exact ⟨_, (newP_of h).1, (newP_of h).2⟩
  ·exact iv.done m m0 (by omega) hm
 ·exact forM_no (fun hf => absurd (hf.1 k (iv.rch k ⟨⟨by omega, by omega⟩, by assumption⟩)) h)
 ·exact forB_no (fun hf => absurd (hf.1 k (iv.rch k ⟨⟨by omega, by omega⟩, by assumption⟩)) h)
 ·have hk : hasPk st hv k := h
  obtain ⟨hm, hkn⟩ := pickM_of h
  have hno : ¬ 0 ≤ newI out k := by assumption
  have hrk : Rch st hv n k := iv.rch k ⟨⟨by omega, by omega⟩, by assumption⟩
  have hpk : PkOk (pickM st hv k) := hm.elim (fun h' => g1 _ h') (fun h' => g2 _ h')
  have hsm : SmP (pickM st hv k) := hm.elim (fun h' => h1.2 _ h') (fun h' => h2.2 _ h')
  have hdp : ∀ d ∈ (pickM st hv k).deps, Rch st hv n d.a := fun d hd => .dep hrk hk hd
  have hadd : ∀ out' N', (∀ m, Nb bt m → N' m) → Srt out' → (∀ q, q ∈ out' ↔ q ∈ out ∨ q = pickM st hv k) → (∀ d ∈ (pickM st hv k).deps, N' d.a) → OutOk st hv n out' N' := fun out' N' hN hs hm hd => outOk_add iv.ok hN hrk hk hs hm hd
  have hnp := nmPk_ok hpk
  generalize pickM st hv k = pk at hm hkn hsm hnp hpk hdp hadd
  have hnot : ¬ hasN out pk.name := fun ⟨q, hq1, hq2⟩ => hno (by rw [← hkn, ← hq2]; exact newI_of hq1)
  have hne : ∀ q ∈ out, q.name ≠ pk.name := fun q hq e => hnot ⟨q, hq, e⟩
  have hcw := cnt_with (ps := out) (p := pk) (by omega) hnot
  have hcl := cnt_le (withM out pk)
  have hwl := withM_len out pk
  have hdl := hsm.2
  unfold lim at hdl
  have hdm : ∀ j : Int, 0 ≤ j → j < pk.deps.length → 0 ≤ (ix pk.deps j).a ∧ (ix pk.deps j).a < 5 := fun j j0 j1 => by have := hnp.2 _ (ix_mem j0 j1); omega
  (repeat' first
  | (refine run_ite rfl (fun h => ?_) (fun h => ?_) <;> (try simp (disch := omega) only [zA, z13, z19, z20, z21, z22, z23, z24, z25, z31, eqDs, eqD, Nat.reduceAdd, wrap64] at h) <;> (try (exfalso; omega)))
  | (refine run_need rfl (by (try simp (disch := omega) only [zA, z13, z19, z20, z21, z22, z23, z24, z25, z31, eqDs, eqD, Nat.reduceAdd, wrap64]); first | exact elp_m (by omega) (by first | omega | (simp only [List.length_set]; omega)) (fun _ => rfl) | exact eld_m (by omega) (by first | omega | (simp only [List.length_set]; omega)) (fun _ => rfl) | exact els_m (by omega) (by omega) (by omega) rfl | exact lsl_m (by omega) (fun _ => rfl) | exact app_nil_m (by omega) (fun _ => rfl) (fun _ => rfl) | exact app_m_one (by omega) (fun _ => rfl) rfl rfl | exact app_m_m (by omega) (fun _ => rfl) (fun _ => rfl)) ?_)
  | (refine run_need rfl (by first | decide | omega | (simp only [List.length_map]; omega)) ?_)
  | (refine run_call1 rfl (l12With_ok out ho1 (by omega) pk hsm) rfl ?_)
  | (refine run_need rfl ?_ ?_)
  | (refine run_ret rfl ?_ ; first | refine rb ?_ | refine ri ?_ | refine rs2 ?_ ?_ | refine rs1 ?_)
  | (refine run_retx rfl ?_))
  refine run_loop rfl (fun x : Int × List Bool => (0 ≤ x.1 ∧ x.1 ≤ pk.deps.length) ∧ x.2.length = 5 ∧ (∀ m, Nb bt m → Nb x.2 m) ∧ (∀ m, Nb x.2 m → Rch st hv n m) ∧ ∀ j : Int, 0 ≤ j → j < x.1 → Nb x.2 (ix pk.deps j).a) (fun x => [(14, .val (i64 x.1)), (8, .val [.sl (x.2.map bo)]), (12, .val (ePk pk)), (10, .val (ePks (withM out pk))), (11, .val (i64 k)), (0, .val (ePks st)), (1, .val (ePks hv))]) (fun x => (pk.deps.length - x.1).toNat) (0, bt) ⟨⟨by dsimp only; omega, by dsimp only; omega⟩, hb5, fun m h => h, iv.rch, fun j j0 j1 => by dsimp only at j1; omega⟩ ⟨rfl, rfl, rfl, rfl, rfl, rfl, rfl, trivial⟩ rfl ?_
  rintro ⟨j, bu⟩ e ⟨⟨j0, jN⟩, hbu, hu1, hu2, hu3⟩
  dsimp only at j0 jN hbu hu1 hu2 hu3 ⊢
  (repeat' first
  | (refine run_ite rfl (fun h => ?_) (fun h => ?_) <;> (try simp (disch := omega) only [zA, z13, z19, z20, z21, z22, z23, z24, z25, z31, eqDs, eqD, Nat.reduceAdd, wrap64] at h) <;> (try (exfalso; omega)))
  | (refine run_need rfl (by (try simp (disch := omega) only [zA, z13, z19, z20, z21, z22, z23, z24, z25, z31, eqDs, eqD, Nat.reduceAdd, wrap64]); first | exact elp_m (by omega) (by first | omega | (simp only [List.length_set]; omega)) (fun _ => rfl) | exact eld_m (by omega) (by first | omega | (simp only [List.length_set]; omega)) (fun _ => rfl) | exact els_m (by omega) (by omega) (by omega) rfl | exact lsl_m (by omega) (fun _ => rfl) | exact app_nil_m (by omega) (fun _ => rfl) (fun _ => rfl) | exact app_m_one (by omega) (fun _ => rfl) rfl rfl | exact app_m_m (by omega) (fun _ => rfl) (fun _ => rfl)) ?_)
  | (refine run_need rfl (by first | decide | omega | (simp only [List.length_map]; omega)) ?_)
  | (refine run_need rfl (by simp (disch := omega) only [zA, z13, z19, z20, z21, z22, z23, z24, z25, z31, eqDs, eqD, Nat.reduceAdd, wrap64]; have := hdm j j0 (by assumption); exact elp_m (enc := bo) (xs := bu) (by omega) (by omega) (fun _ => rfl)) ?_)
  | (refine run_need rfl (by simp (disch := omega) only [zA, z13, z19, z20, z21, z22, z23, z24, z25, z31, eqDs, eqD, Nat.reduceAdd, wrap64]; have := hdm j j0 (by assumption); exact els_g (enc := bo) (sz := 1) (xs := bu) (ys := bu) (z := true) (by omega) (by omega) (by omega) (fun _ => rfl)) ?_)
  | (refine run_next rfl (Exists.intro (j + 1, bu.set (ix pk.deps j).a.toNat true) ⟨by dsimp only; omega, ⟨⟨by dsimp only; omega, by dsimp only; omega⟩, by simp; omega, fun m hm => ?_, fun m hm => ?_, fun j' j0' j1' => ?_⟩, i64_eq (wrap64 _ (by omega)), ?_, rfl, rfl, rfl, rfl, rfl, trivial⟩))
  | (refine run_next rfl (Exists.intro (1, bu, withM out pk) ⟨by dsimp only; omega, ⟨⟨by dsimp only; omega, by dsimp only; omega⟩, hbu, smPs_with ho1 hsm (by omega), nmPs_with ho2 hnp, by dsimp only; omega, hadd _ _ hu1 (withM_srt iv.ok.srt hne) (fun q => withM_iff hne) (fun d hd => ?_), hu2, hu1 _ iv.base, fun q hq => hu1 _ (iv.got q hq), fun m m0 m1 => by dsimp only at m1; omega⟩, i64_eq (wrap64 _ (by omega)), rfl, rfl, rfl, rfl, trivial⟩))
  | (refine run_need rfl ?_ ?_)
  | (refine run_ret rfl ?_ ; first | refine rb ?_ | refine ri ?_ | refine rs2 ?_ ?_ | refine rs1 ?_)
  | (refine run_retx rfl ?_))
  ·have := hdm j j0 (by assumption)
   exact (nb_set hbu (by omega) (by omega)).2 (.inr (hu1 m hm))
  ·have := hdm j j0 (by assumption)
   rcases (nb_set hbu (by omega) (by omega)).1 hm with rfl | h
   ·exact hdp _ (ix_mem j0 (by assumption))
   ·exact hu2 m h
  ·have := hdm j j0 (by assumption)
   dsimp only at j1'
   refine (nb_set hbu (by omega) (by omega)).2 ?_
   by_cases e : j' = j
   ·rw [e]; exact .inl rfl
   ·exact .inr (hu3 j' j0' (by omega))
  ·refine sl_eq ?_
   have := hdm j j0 (by assumption)
   rw [cI_P2_0]
   exact els_gv (enc := bo) (sz := 1) (z := true) (by omega) (by omega) (fun _ => rfl)
  ·obtain ⟨j', j0', j1', rfl⟩ := mem_ix hd
   exact hu3 j' j0' (by omega)
 all_goals
  obtain ⟨ha, ho⟩ := outOk_fin iv.ok hrg iv.base iv.got (fun m hr hm => iv.done m (hrg m hr).1 (by have := hrg m hr; omega) hm)
  rw [ho] at h
 ·exact forM_no (fun hf => h hf.2)
 ·exact forB_no (fun hf => h hf.2)
 ·rw [forM', if_pos ⟨ha, h⟩, ho]
 ·exact bo_eq (tD ⟨ha, h⟩)

theorem sPlanFor_ok (st hv : List Pk) (n : Int) (h1 : SmPs st) (h2 : SmPs hv) : FunOk PP W n_s_PlanFor s_s_PlanFor [ePks st, ePks hv, i64 n] [ePks (planR st hv n), bo (decide (ForAll st hv n))] := by
 refine F_s_PlanFor (run_fun ?_)
 by_cases c1 : PksOk st <;> by_cases c2 : PlanM hv <;> by_cases c3 : 1 ≤ n ∧ n ≤ 4
 ·have e1 : planR st hv n = forM' st hv n := by
   unfold planR forM' ForAll
   by_cases c : ForOk st hv n
   ·rw [if_pos ⟨⟨c1, c2, c3⟩, c⟩, if_pos c]
   ·rw [if_neg (fun h => c h.2), if_neg c]
  have e2 : decide (ForAll st hv n) = decide (ForOk st hv n) := by
   unfold ForAll
   by_cases c : ForOk st hv n <;> simp [c1, c2, c3, c]
  rw [e1, e2]
  have f := sFor_ok (W := W) st hv n h1 h2 (pks_mem c1) (pks_mem c2.1) c3
  (repeat' first
  | (refine run_ite rfl (fun h => ?_) (fun h => ?_) <;> (try simp (disch := omega) only [zA, z13, z19, z20, z21, z22, z23, z24, z25, z31, eqDs, eqD, Nat.reduceAdd, wrap64] at h) <;> (try (exfalso; omega)))
  | (refine run_need rfl (by (try simp (disch := omega) only [zA, z13, z19, z20, z21, z22, z23, z24, z25, z31, eqDs, eqD, Nat.reduceAdd, wrap64]); first | exact elp_m (by omega) (by first | omega | (simp only [List.length_set]; omega)) (fun _ => rfl) | exact eld_m (by omega) (by first | omega | (simp only [List.length_set]; omega)) (fun _ => rfl) | exact els_m (by omega) (by omega) (by omega) rfl | exact lsl_m (by omega) (fun _ => rfl) | exact app_nil_m (by omega) (fun _ => rfl) (fun _ => rfl) | exact app_m_one (by omega) (fun _ => rfl) rfl rfl | exact app_m_m (by omega) (fun _ => rfl) (fun _ => rfl)) ?_)
  | (refine run_need rfl (by first | decide | omega | (simp only [List.length_map]; omega)) ?_)
  | (refine run_call1 rfl (sStoreOk_ok st h1) rfl ?_)
  | (refine run_call1 rfl (sPlanOk_ok hv h2) rfl ?_)
  | (refine run_call1 rfl (l6In_ok ..) rfl ?_)
  | (refine run_callr rfl f rfl rfl ?_)
  | (refine run_need rfl ?_ ?_)
  | (refine run_ret rfl ?_ ; first | refine rb ?_ | refine ri ?_ | refine rs2 ?_ ?_ | refine rs1 ?_)
  | (refine run_retx rfl ?_))
  all_goals first | rfl | (exfalso; simp_all; done) | skip
 all_goals
  (repeat' first
  | (refine run_ite rfl (fun h => ?_) (fun h => ?_) <;> (try simp (disch := omega) only [zA, z13, z19, z20, z21, z22, z23, z24, z25, z31, eqDs, eqD, Nat.reduceAdd, wrap64] at h) <;> (try (exfalso; omega)))
  | (refine run_need rfl (by (try simp (disch := omega) only [zA, z13, z19, z20, z21, z22, z23, z24, z25, z31, eqDs, eqD, Nat.reduceAdd, wrap64]); first | exact elp_m (by omega) (by first | omega | (simp only [List.length_set]; omega)) (fun _ => rfl) | exact eld_m (by omega) (by first | omega | (simp only [List.length_set]; omega)) (fun _ => rfl) | exact els_m (by omega) (by omega) (by omega) rfl | exact lsl_m (by omega) (fun _ => rfl) | exact app_nil_m (by omega) (fun _ => rfl) (fun _ => rfl) | exact app_m_one (by omega) (fun _ => rfl) rfl rfl | exact app_m_m (by omega) (fun _ => rfl) (fun _ => rfl)) ?_)
  | (refine run_need rfl (by first | decide | omega | (simp only [List.length_map]; omega)) ?_)
  | (refine run_call1 rfl (sStoreOk_ok st h1) rfl ?_)
  | (refine run_call1 rfl (sPlanOk_ok hv h2) rfl ?_)
  | (refine run_call1 rfl (l6In_ok ..) rfl ?_)
  | (refine run_need rfl ?_ ?_)
  | (refine run_ret rfl ?_ ; first | refine rb ?_ | refine ri ?_ | refine rs2 ?_ ?_ | refine rs1 ?_)
  | (refine run_retx rfl ?_))
  all_goals first
   | exact planR_no (fun h => absurd h.1.1 (by assumption))
   | exact planB_no (fun h => absurd h.1.1 (by assumption))
   | exact planR_no (fun h => absurd h.1.2.1 (by assumption))
   | exact planB_no (fun h => absurd h.1.2.1 (by assumption))
   | exact planR_no (fun h => absurd h.1.2.2 (by assumption))
   | exact planB_no (fun h => absurd h.1.2.2 (by assumption))
   | contradiction
   | skip
end V
end Go.Proofs.Ytgialjcichiaoaa

/-
The law FnExactDiskDo, in plain terms: it answers true whatever comes in.
-/
namespace Go.Proofs.Ytgialjcichiaoaa
namespace V
open Classical
set_option maxRecDepth 100000
variable {W : Wld}

theorem cntPs_sz : ∀ ps : List Pk, cntPs ps = 2 * szPs ps
 | [] => by simp [cntPs, szPs, sumF]
 | p :: r => by
  have h := cntPs_sz r
  simp only [cntPs, szPs, sumF, List.map_cons, List.sum_cons, List.length_cons] at *
  have e1 : cntP p = 2 + 2 * p.files.length + 2 * p.deps.length := rfl
  have e2 : cP p = p.files.length + p.deps.length := rfl
  omega
theorem sum_mem {α : Type} {f : α → Int} (hf : ∀ x, 0 ≤ f x) : ∀ {xs : List α} {x : α}, x ∈ xs → f x ≤ sumF f xs
 | y :: r, x, h => by
  have h1 := sumF_nn hf r
  have h2 := hf y
  simp only [sumF, List.map_cons, List.sum_cons] at *
  rcases List.mem_cons.1 h with e | h'
  ·rw [e]; omega
  ·have := sum_mem hf h'
   simp only [sumF] at this
   omega
theorem smPs_sz {ps : List Pk} (h : szPs ps ≤ 1073741824) : SmPs ps := by
 have hn := sumF_nn cP_nn ps
 unfold szPs at h
 refine ⟨by unfold lim; omega, fun p hp => ?_⟩
 have := sum_mem cP_nn hp
 have e : cP p = p.files.length + p.deps.length := rfl
 exact ⟨by unfold lim; omega, by unfold lim; omega⟩
theorem szPs_nil : szPs [] = 0 := by simp [szPs, sumF]
end V
end Go.Proofs.Ytgialjcichiaoaa

/-
Plain proofs: what the reference puts in and mends; the laws FnExactInstMends, FnExactInstSteps, FnExactInstTo, FnExactInstMend in plain terms.
-/
namespace Go.Proofs.Ytgialjcichiaoaa
namespace V
open Classical
set_option maxRecDepth 100000
variable {W : Wld}

/-! How much comes back. -/
theorem eqPkgS_self (l : List Pk) (h : SmPs l) : FunOk PP W n_l_eqPkgS s_l_eqPkgS [ePks l, ePks l] [bo true] := by simpa using eqPkgS_ok (W := W) l l h
end V
end Go.Proofs.Ytgialjcichiaoaa

/-
The law FnExactPlanFor, in plain terms: it answers true whatever comes in.
-/
namespace Go.Proofs.Ytgialjcichiaoaa
namespace V
open Classical
set_option maxRecDepth 100000
variable {W : Wld}

theorem sumF_leN {α : Type} {f : α → Int} {B : Int} : ∀ {xs : List α}, (∀ x ∈ xs, f x ≤ B) → sumF f xs ≤ xs.length * B
 | [], _ => by simp [sumF]
 | x :: r, h => by
  have h1 := sumF_leN (xs := r) (fun y hy => h y (List.mem_cons_of_mem _ hy))
  have h2 := h x (List.mem_cons_self ..)
  simp only [sumF, List.map_cons, List.sum_cons, List.length_cons, Int.natCast_add, Int.natCast_one, Int.add_mul, Int.one_mul] at *
  omega
theorem szPs_plan (st hv : List Pk) (n : Int) : szPs (planR st hv n) ≤ 4 + 4 * (szPs st + szPs hv) := by
 have s1 := szPs_nn st
 have s2 := szPs_nn hv
 unfold planR
 by_cases hf : ForAll st hv n
 ·rw [if_pos hf]
  have hl : (outM st hv n).length ≤ 4 := by
   unfold outM
   rw [List.length_map]
   exact List.length_filter_le _ _
  have hm : ∀ p ∈ outM st hv n, cP p ≤ szPs st + szPs hv := fun p hp => by
   obtain ⟨m, hm, rfl⟩ := List.mem_map.1 hp
   have hr := of_decide_eq_true (List.mem_filter.1 hm).2
   rcases (pickM_of (hf.2.1 m hr)).1 with h | h
   ·have := sum_mem cP_nn h
    have e : szPs st = st.length + sumF cP st := rfl
    omega
   ·have := sum_mem cP_nn h
    have e : szPs hv = hv.length + sumF cP hv := rfl
    omega
  have h1 := sumF_leN hm
  have e : szPs (outM st hv n) = (outM st hv n).length + sumF cP (outM st hv n) := rfl
  have h2 : ((outM st hv n).length : Int) * (szPs st + szPs hv) ≤ 4 * (szPs st + szPs hv) := Int.mul_le_mul_of_nonneg_right (by omega) (by omega)
  omega
 ·rw [if_neg hf, szPs_nil]
  omega

set_option maxHeartbeats 2000000 in
theorem exactPlanFor_ok (st hv : List Pk) (n : Int) (h1 : BgPs st) (h2 : BgPs hv) : FunOk PP W n_l_FnExactPlanFor s_l_FnExactPlanFor_X [ePks st, ePks hv, i64 n] [bo true] := by
 refine F_l_FnExactPlanFor_X (run_fun ?_)
 have n1 := szPs_nn st
 have n2 := szPs_nn hv
 have f1 := szPkgS_ok (W := W) st 1048576 (by omega) h1
 by_cases c1 : 1048576 < szPs st
 ·rw [less_lt c1] at f1
  (repeat' first
  | (refine run_ite rfl (fun h => ?_) (fun h => ?_) <;> (try simp (disch := omega) only [zA, z13, z19, z20, z21, z22, z23, z24, z25, z31, eqDs, eqD, Nat.reduceAdd, wrap64] at h) <;> (try (exfalso; omega)))
  | (refine run_need rfl (by (try simp (disch := omega) only [zA, z13, z19, z20, z21, z22, z23, z24, z25, z31, eqDs, eqD, Nat.reduceAdd, wrap64]); first | exact elp_m (by omega) (by first | omega | (simp only [List.length_set]; omega)) (fun _ => rfl) | exact eld_m (by omega) (by first | omega | (simp only [List.length_set]; omega)) (fun _ => rfl) | exact els_m (by omega) (by omega) (by omega) rfl | exact lsl_m (by omega) (fun _ => rfl) | exact app_nil_m (by omega) (fun _ => rfl) (fun _ => rfl) | exact app_m_one (by omega) (fun _ => rfl) rfl rfl | exact app_m_m (by omega) (fun _ => rfl) (fun _ => rfl)) ?_)
  | (refine run_need rfl (by first | decide | omega | (simp only [List.length_map]; omega)) ?_)
  | (refine run_call1 rfl (f1) rfl ?_)
  | (refine run_need rfl ?_ ?_)
  | (refine run_ret rfl ?_ ; first | refine rb ?_ | refine ri ?_ | refine rs2 ?_ ?_ | refine rs1 ?_)
  | (refine run_retx rfl ?_))
  rfl
 rw [less_ge (by omega)] at f1
 have f2 := szPkgS_ok (W := W) hv (1048576 - szPs st) (by omega) h2
 by_cases c2 : 1048576 - szPs st < szPs hv
 ·rw [less_lt c2] at f2
  (repeat' first
  | (refine run_ite rfl (fun h => ?_) (fun h => ?_) <;> (try simp (disch := omega) only [zA, z13, z19, z20, z21, z22, z23, z24, z25, z31, eqDs, eqD, Nat.reduceAdd, wrap64] at h) <;> (try (exfalso; omega)))
  | (refine run_need rfl (by (try simp (disch := omega) only [zA, z13, z19, z20, z21, z22, z23, z24, z25, z31, eqDs, eqD, Nat.reduceAdd, wrap64]); first | exact elp_m (by omega) (by first | omega | (simp only [List.length_set]; omega)) (fun _ => rfl) | exact eld_m (by omega) (by first | omega | (simp only [List.length_set]; omega)) (fun _ => rfl) | exact els_m (by omega) (by omega) (by omega) rfl | exact lsl_m (by omega) (fun _ => rfl) | exact app_nil_m (by omega) (fun _ => rfl) (fun _ => rfl) | exact app_m_one (by omega) (fun _ => rfl) rfl rfl | exact app_m_m (by omega) (fun _ => rfl) (fun _ => rfl)) ?_)
  | (refine run_need rfl (by first | decide | omega | (simp only [List.length_map]; omega)) ?_)
  | (refine run_call1 rfl (f1) rfl ?_)
  | (refine run_call1 rfl (f2) rfl ?_)
  | (refine run_need rfl ?_ ?_)
  | (refine run_ret rfl ?_ ; first | refine rb ?_ | refine ri ?_ | refine rs2 ?_ ?_ | refine rs1 ?_)
  | (refine run_retx rfl ?_))
  rfl
 rw [less_ge (by omega)] at f2
 have hS : SmPs st := smPs_sz (by omega)
 have hH : SmPs hv := smPs_sz (by omega)
 have hz := szPs_plan st hv n
 have hR : SmPs (planR st hv n) := smPs_sz (by omega)
 have k1 := cntPs_sz st
 have k2 := cntPs_sz hv
 have k3 := cntPs_sz (planR st hv n)
 have hhl : hv.length ≤ 1048576 := by
  have e : szPs hv = hv.length + sumF cP hv := rfl
  have := sumF_nn cP_nn hv
  omega
 have g1 := sPlanFor_ok (W := W) st hv n hS hH
 have g2 := iPlanFor_X (W := W) st hv hS hH hhl n
 generalize decide (ForAll st hv n) = b at g1 g2
 generalize planR st hv n = R at *
 have e1 := eqPkgS_self (W := W) R hR
 have e2 := eqPkgS_self (W := W) st hS
 have e3 := eqPkgS_self (W := W) hv hH
 have n3 := cntPs_nn st
 have n4 := cntPs_nn hv
 have n5 := cntPs_nn R
 have m1 := markPkgS_ok (W := W) st 1 (by omega) (by omega)
 have m2 := markPkgS_ok (W := W) hv (1 + cntPs st) (by omega) (by omega)
 have m3 := markPkgS_ok (W := W) R 1 (by omega) (by omega)
 have q1 := heldPkgS_ok (W := W) (markPs R 1) 1 (by omega) (by rw [cntPs_mark']; omega) (hdPs_mark R 1)
 rw [cntPs_mark'] at q1
 cases b
 all_goals
  (repeat' first
  | (refine run_ite rfl (fun h => ?_) (fun h => ?_) <;> (try simp (disch := omega) only [zA, z13, z19, z20, z21, z22, z23, z24, z25, z31, eqDs, eqD, Nat.reduceAdd, wrap64] at h) <;> (try (exfalso; omega)))
  | (refine run_need rfl (by (try simp (disch := omega) only [zA, z13, z19, z20, z21, z22, z23, z24, z25, z31, eqDs, eqD, Nat.reduceAdd, wrap64]); first | exact elp_m (by omega) (by first | omega | (simp only [List.length_set]; omega)) (fun _ => rfl) | exact eld_m (by omega) (by first | omega | (simp only [List.length_set]; omega)) (fun _ => rfl) | exact els_m (by omega) (by omega) (by omega) rfl | exact lsl_m (by omega) (fun _ => rfl) | exact app_nil_m (by omega) (fun _ => rfl) (fun _ => rfl) | exact app_m_one (by omega) (fun _ => rfl) rfl rfl | exact app_m_m (by omega) (fun _ => rfl) (fun _ => rfl)) ?_)
  | (refine run_need rfl (by first | decide | omega | (simp only [List.length_map]; omega)) ?_)
  | (refine run_call1 rfl (f1) rfl ?_)
  | (refine run_call1 rfl (f2) rfl ?_)
  | (refine run_call1 rfl (toPkgS_X st hS) rfl ?_)
  | (refine run_call1 rfl (toPkgS_X hv hH) rfl ?_)
  | (refine run_call1 rfl (e1) rfl ?_)
  | (refine run_call1 rfl (e2) rfl ?_)
  | (refine run_call1 rfl (e3) rfl ?_)
  | (refine run_call1 rfl (q1) rfl ?_)
  | (refine run_callr rfl g1 rfl rfl ?_)
  | (refine run_callr rfl g2 rfl rfl ?_)
  | (refine run_io rfl rfl m1 rfl rfl rfl rfl ?_)
  | (refine run_io rfl rfl m2 rfl rfl rfl rfl ?_)
  | (refine run_io rfl rfl m3 rfl rfl rfl rfl ?_)
  | (refine run_need rfl ?_ ?_)
  | (refine run_ret rfl ?_ ; first | refine rb ?_ | refine ri ?_ | refine rs2 ?_ ?_ | refine rs1 ?_)
  | (refine run_retx rfl ?_))
  all_goals first | rfl | exact absurd trivial (by assumption)
end V
end Go.Proofs.Ytgialjcichiaoaa

