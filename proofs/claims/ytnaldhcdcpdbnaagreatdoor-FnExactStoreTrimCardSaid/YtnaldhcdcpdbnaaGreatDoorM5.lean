/-
Part 5 of the proof of the claimed statement (its last part holds the theorem, and says what is proved). Conditions: none.
-/
import Derived.Test.YtnaldhcdcpdbnaaGreatDoorM4
import Derived.Test.YtnaldhcdcpdbnaaGreatDoorChecked
import Derived.Tactics
import Derived.Tactics2
import Derived.WalkKit
import Derived.Below
import Derived.RegionTactic
import Derived.Lib.FrozenHead2
import Derived.Lib.OthersKept
import Derived.LoopTactic
import Derived.StillTailTactics
set_option linter.all false
/-
Plain proofs: keys and roots; a world in which one root was published.
-/
namespace Go.Proofs.YtnaldhcdcpdbnaaGreatDoor
namespace V
open Classical
set_option maxRecDepth 100000
variable {W : Wld}

/-! Keys. -/
def KeyAt (l : List Int) (i : Int) : Prop := (1 ≤ ix l i ∧ ix l i ≤ 6) ∧ (0 < i → ix l (i - 1) < ix l i)
def KeysM (l : List Int) : Prop := Blw l.length (KeyAt l)
theorem sKeysOk_ok (l : List Int) (hl : l.length ≤ lim) : FunOk PP W n_s_KeysOk s_s_KeysOk [eIs l] [bo (decide (KeysM l))] := by
 refine F_s_KeysOk (run_fun ?_)
 unfold lim at hl
 (repeat' first
  | (refine run_ite rfl (fun h => ?_) (fun h => ?_) <;> (try simp (disch := omega) only [zB, eqDs, eqD, Nat.reduceAdd, wrap64] at h) <;> (try (exfalso; omega)))
  | refine run_nd rfl ?_
  | refine run_nn rfl ?_
  | refine run_need rfl ?_ ?_
  | (refine run_ret rfl ?_ ; first | refine rb ?_ | refine ri ?_ | refine rs2 ?_ ?_ | refine rs1 ?_)
  | refine run_retx rfl ?_)
 refine run_loop rfl (fun i : Int => 0 ≤ i ∧ i ≤ l.length ∧ Blw i (KeyAt l)) (fun i => [(3, .val (i64 i)), (0, .val (eIs l))]) (fun i => (l.length - i).toNat) 0 ⟨by omega, by omega, blw_zero _⟩ ⟨rfl, rfl, trivial⟩ rfl ?_
 rintro i e ⟨h0, hN, hP⟩
 (repeat' first
  | (refine run_ite rfl (fun h => ?_) (fun h => ?_) <;> (try simp (disch := omega) only [zB, eqDs, eqD, Nat.reduceAdd, wrap64] at h) <;> (try (exfalso; omega)))
  | refine run_nd rfl ?_
  | refine run_nn rfl ?_
  | refine run_call1 rfl (l6In_ok ..) rfl ?_
  | (refine run_next rfl (Exists.intro (i + 1) ⟨by omega, ⟨by omega, by omega, blw_succ hP (by unfold KeyAt; omega)⟩, i64_eq (wrap64 _ (by omega)), rfl, trivial⟩))
  | refine run_need rfl ?_ ?_
  | (refine run_ret rfl ?_ ; first | refine rb ?_ | refine ri ?_ | refine rs2 ?_ ?_ | refine rs1 ?_)
  | refine run_retx rfl ?_)
 all_goals first
  | exact tD (blw_to hP (by omega))
  | exact fD (fun h' => by have := h' i (by omega) (by omega); unfold KeyAt at this; omega)
theorem iKeysOk_ok (l : List Int) (hl : l.length ≤ lim) : FunOk PP W n_i_KeysOk s_i_KeysOk [eIs l] [bo (decide (KeysM l))] := by
 refine F_i_KeysOk (run_fun ?_)
 unfold lim at hl
 (repeat' first
  | (refine run_ite rfl (fun h => ?_) (fun h => ?_) <;> (try simp (disch := omega) only [zB, eqDs, eqD, Nat.reduceAdd, wrap64] at h) <;> (try (exfalso; omega)))
  | refine run_nd rfl ?_
  | refine run_nn rfl ?_
  | refine run_need rfl ?_ ?_
  | (refine run_ret rfl ?_ ; first | refine rb ?_ | refine ri ?_ | refine rs2 ?_ ?_ | refine rs1 ?_)
  | refine run_retx rfl ?_)
 refine run_loop rfl (fun i : Int => 0 ≤ i ∧ i ≤ l.length ∧ Blw i (KeyAt l)) (fun i => [(7, .val (i64 i)), (5, .val (eIs l)), (6, .val (i64 (l.map i64).length)), (0, .val (eIs l))]) (fun i => (l.length - i).toNat) 0 ⟨by omega, by omega, blw_zero _⟩ ⟨rfl, rfl, rfl, rfl, trivial⟩ rfl ?_
 rintro i e ⟨h0, hN, hP⟩
 (repeat' first
  | (refine run_ite rfl (fun h => ?_) (fun h => ?_) <;> (try simp (disch := omega) only [zB, eqDs, eqD, Nat.reduceAdd, wrap64] at h) <;> (try (exfalso; omega)))
  | refine run_nd rfl ?_
  | refine run_nn rfl ?_
  | refine run_call1 rfl (in_ok ..) rfl ?_
  | (refine run_next rfl (Exists.intro (i + 1) ⟨by omega, ⟨by omega, by omega, blw_succ hP (by unfold KeyAt; omega)⟩, i64_eq (wrap64 _ (by omega)), rfl, rfl, rfl, trivial⟩))
  | refine run_need rfl ?_ ?_
  | (refine run_ret rfl ?_ ; first | refine rb ?_ | refine ri ?_ | refine rs2 ?_ ?_ | refine rs1 ?_)
  | refine run_retx rfl ?_)
 all_goals first
  | exact tD (blw_to hP (by omega))
  | exact fD (fun h' => by have := h' i (by omega) (by omega); unfold KeyAt at this; omega)

/-! How many keys are among both. -/
/-! Roots. -/
structure Rt where
 num : Int
 keys : List Int
 need : Int
deriving DecidableEq, Inhabited
abbrev eRt (r : Rt) : List D := [.int .i64 r.num, .sl (r.keys.map i64), .int .i64 r.need]
def RootM (r : Rt) : Prop := (1 ≤ r.num ∧ r.num ≤ 9) ∧ KeysM r.keys ∧ (1 ≤ r.need ∧ r.need ≤ r.keys.length)
theorem sRootOk_ok (r : Rt) (hl : r.keys.length ≤ lim) : FunOk PP W n_s_RootOk s_s_RootOk [eRt r] [bo (decide (RootM r))] := by
 refine F_s_RootOk (run_fun ?_)
 (repeat' first
  | (refine run_ite rfl (fun h => ?_) (fun h => ?_) <;> (try simp (disch := omega) only [zB, eqDs, eqD, Nat.reduceAdd, wrap64] at h) <;> (try (exfalso; omega)))
  | refine run_nd rfl ?_
  | refine run_nn rfl ?_
  | refine run_call1 rfl (sKeysOk_ok r.keys hl) rfl ?_
  | refine run_call1 rfl (l6In_ok ..) rfl ?_
  | refine run_need rfl ?_ ?_
  | (refine run_ret rfl ?_ ; first | refine rb ?_ | refine ri ?_ | refine rs2 ?_ ?_ | refine rs1 ?_)
  | refine run_retx rfl ?_)
 all_goals
  refine dI ?_
  unfold RootM
  try simp only [List.length_map, decide_eq_true_eq]
  grind
theorem iRootOk_ok (r : Rt) (hl : r.keys.length ≤ lim) : FunOk PP W n_i_RootOk s_i_RootOk [eRt r] [bo (decide (RootM r))] := by
 refine F_i_RootOk (run_fun ?_)
 (repeat' first
  | (refine run_ite rfl (fun h => ?_) (fun h => ?_) <;> (try simp (disch := omega) only [zB, eqDs, eqD, Nat.reduceAdd, wrap64] at h) <;> (try (exfalso; omega)))
  | refine run_nd rfl ?_
  | refine run_nn rfl ?_
  | refine run_call1 rfl (iKeysOk_ok r.keys hl) rfl ?_
  | refine run_call1 rfl (in_ok ..) rfl ?_
  | refine run_need rfl ?_ ?_
  | (refine run_ret rfl ?_ ; first | refine rb ?_ | refine ri ?_ | refine rs2 ?_ ?_ | refine rs1 ?_)
  | refine run_retx rfl ?_)
 all_goals
  refine dI ?_
  unfold RootM
  try simp only [List.length_map, decide_eq_true_eq]
  grind
/-! A new world. -/
structure Wn where
 roots : List SR
 bad : List Int
 tr : Rt
 dk : Dk
deriving DecidableEq, Inhabited
end V
end Go.Proofs.YtnaldhcdcpdbnaaGreatDoor

/-
Plain proofs: worlds are compared, marked, found marked.
-/
namespace Go.Proofs.YtnaldhcdcpdbnaaGreatDoor
namespace V
open Classical
set_option maxRecDepth 100000
variable {W : Wld}

theorem rt_ext {p q : Rt} (h1 : p.num = q.num) (h2 : p.keys = q.keys) (h3 : p.need = q.need) : p = q := by cases p; cases q; simp_all
theorem eqRoot_ok (p q : Rt) (hk : p.keys.length ≤ lim) : FunOk PP W n_l_eqRoot s_l_eqRoot [eRt p, eRt q] [bo (decide (p = q))] := by
 refine F_l_eqRoot (run_fun ?_)
 (repeat' first
  | (refine run_ite rfl (fun h => ?_) (fun h => ?_) <;> (try simp (disch := omega) only [zB, eqDs, eqD, Nat.reduceAdd, wrap64] at h) <;> (try (exfalso; omega)))
  | refine run_nd rfl ?_
  | refine run_nn rfl ?_
  | refine run_call1 rfl (eqIntS_ok p.keys q.keys hk) rfl ?_
  | refine run_need rfl ?_ ?_
  | (refine run_ret rfl ?_ ; first | refine rb ?_ | refine ri ?_ | refine rs2 ?_ ?_ | refine rs1 ?_)
  | refine run_retx rfl ?_)
 all_goals first
  | exact tD (rt_ext (by assumption) (by assumption) (by assumption))
  | exact fD (fun h' => by subst h'; exact absurd rfl (by assumption))
theorem eqRoot_self (p : Rt) (h : p.keys.length ≤ lim) : FunOk PP W n_l_eqRoot s_l_eqRoot [eRt p, eRt p] [bo true] := by simpa using eqRoot_ok (W := W) p p h
/-! Roots that are marked. -/
/-! What is empty is marked. -/
/-! A world is marked. -/
def markRt (r : Rt) (k : Int) : Rt := ⟨r.num, markI r.keys k, r.need⟩
theorem markRoot_ok (r : Rt) (k : Int) (h0 : 0 ≤ k) (hk : k + r.keys.length ≤ 1099511627776) : FunOk PP W n_l_markRoot s_l_markRoot_X [eRt r, i64 k] [i64 (k + r.keys.length), eRt (markRt r k)] := by
 refine F_l_markRoot_X (run_fun ?_)
 (repeat' first
  | (refine run_ite rfl (fun h => ?_) (fun h => ?_) <;> (try simp (disch := omega) only [zB, eqDs, eqD, Nat.reduceAdd, wrap64] at h) <;> (try (exfalso; omega)))
  | refine run_nd rfl ?_
  | refine run_nn rfl ?_
  | (refine run_io rfl rfl (markIntS_ok r.keys k h0 hk) rfl rfl rfl rfl ?_)
  | refine run_need rfl ?_ ?_
  | (refine run_ret rfl ?_ ; first | refine rb ?_ | refine ri ?_ | refine rs2 ?_ ?_ | refine rs1 ?_)
  | refine run_retx rfl ?_)
 all_goals rfl
end V
end Go.Proofs.YtnaldhcdcpdbnaaGreatDoor

/-
The law FnExactWorldNew, in plain terms: it answers true whatever comes in.
-/
namespace Go.Proofs.YtnaldhcdcpdbnaaGreatDoor
namespace V
open Classical
set_option maxRecDepth 100000
variable {W : Wld}

theorem szRoot_ok (r : Rt) (left : Int) (h : 0 ≤ left ∧ left ≤ 1048576) (hb : (r.keys.length : Int) ≤ mx) : FunOk PP W n_l_szRoot s_l_szRoot [eRt r, i64 left] [i64 (less left r.keys.length)] := by
 refine F_l_szRoot (run_fun ?_)
 have f1 := szIntS_ok (W := W) r.keys left h hb
 by_cases c1 : left < r.keys.length
 ·rw [less_lt c1] at f1 ⊢
  (repeat' first
  | (refine run_ite rfl (fun h => ?_) (fun h => ?_) <;> (try simp (disch := omega) only [zB, eqDs, eqD, Nat.reduceAdd, wrap64] at h) <;> (try (exfalso; omega)))
  | refine run_nd rfl ?_
  | refine run_nn rfl ?_
  | refine run_call1 rfl (f1) rfl ?_
  | refine run_need rfl ?_ ?_
  | (refine run_ret rfl ?_ ; first | refine rb ?_ | refine ri ?_ | refine rs2 ?_ ?_ | refine rs1 ?_)
  | refine run_retx rfl ?_)
  rfl
 ·rw [less_ge (by omega)] at f1 ⊢
  (repeat' first
  | (refine run_ite rfl (fun h => ?_) (fun h => ?_) <;> (try simp (disch := omega) only [zB, eqDs, eqD, Nat.reduceAdd, wrap64] at h) <;> (try (exfalso; omega)))
  | refine run_nd rfl ?_
  | refine run_nn rfl ?_
  | refine run_call1 rfl (f1) rfl ?_
  | refine run_need rfl ?_ ?_
  | (refine run_ret rfl ?_ ; first | refine rb ?_ | refine ri ?_ | refine rs2 ?_ ?_ | refine rs1 ?_)
  | refine run_retx rfl ?_)
  rfl
theorem toRoot_X (r : Rt) (hl : r.keys.length ≤ lim) : FunOk PP W n_l_toRoot s_l_toRoot_X [eRt r] [eRt r] := by
 refine F_l_toRoot_X (run_fun ?_)
 (repeat' first
  | (refine run_ite rfl (fun h => ?_) (fun h => ?_) <;> (try simp (disch := omega) only [zB, eqDs, eqD, Nat.reduceAdd, wrap64] at h) <;> (try (exfalso; omega)))
  | refine run_nd rfl ?_
  | refine run_nn rfl ?_
  | refine run_call1 rfl (toIntS_X r.keys hl) rfl ?_
  | refine run_need rfl ?_ ?_
  | (refine run_ret rfl ?_ ; first | refine rb ?_ | refine ri ?_ | refine rs2 ?_ ?_ | refine rs1 ?_)
  | refine run_retx rfl ?_)
 rfl
end V
end Go.Proofs.YtnaldhcdcpdbnaaGreatDoor

/-
What comes in, as plain values.
-/
namespace Go.Proofs.YtnaldhcdcpdbnaaGreatDoor
namespace V
set_option maxRecDepth 100000
open Go.ChangeShapes Go.WideShapes Go.ChangeAt Go.RowKit

def ckP2 : Ck := .int .i64 (.int .i64 .nil)
def ckPk : Ck := .int .i64 (.int .i64 (.sl ckP2 (.sl ckP2 .nil)))
def ckI : Ck := .int .i64 .nil
theorem conf_list {α : Type} {enc : α → List D} {Q : α → Prop} : ∀ {xs : List (List D)}, (∀ x ∈ xs, ∃ a, x = enc a ∧ Q a) → ∃ l : List α, xs = l.map enc ∧ ∀ a ∈ l, Q a
 | [], _ => ⟨[], rfl, fun a h => by cases h⟩
 | x :: xs, h => by
  obtain ⟨a, rfl, h1⟩ := h x (List.mem_cons_self ..)
  obtain ⟨l, rfl, h2⟩ := conf_list (xs := xs) (fun y hy => h y (List.mem_cons_of_mem _ hy))
  exact ⟨a :: l, rfl, fun b hb => by rcases List.mem_cons.1 hb with rfl | hb; exact h1; exact h2 b hb⟩
theorem mx_le {n : Nat} (h : n ≤ maxLen) : (n : Int) ≤ mx := by
 unfold maxLen at h
 unfold mx
 omega
theorem conf_I {x : List D} (h : conf ckI x) : ∃ a : Int, x = i64 a ∧ True := by
 obtain ⟨n, ds, rfl, _, h⟩ := h
 have : ds = [] := h
 subst this
 exact ⟨n, rfl, trivial⟩
theorem conf_P2 {x : List D} (h : conf ckP2 x) : ∃ a : P2, x = eP2 a ∧ True := by
 obtain ⟨n, ds, rfl, _, m, ds', rfl, _, h⟩ := h
 have : ds' = [] := h
 subst this
 exact ⟨⟨n, m⟩, rfl, trivial⟩
theorem conf_Pk {x : List D} (h : conf ckPk x) : ∃ a : Pk, x = ePk a ∧ BgP a := by
 obtain ⟨n, _, rfl, _, m, _, rfl, _, xs, _, rfl, h1, h2, ys, _, rfl, h3, h4, h⟩ := h
 have h := (show _ = [] from h)
 subst h
 obtain ⟨f, rfl, _⟩ := conf_list (fun x hx => conf_P2 (h2 x hx))
 obtain ⟨d, rfl, _⟩ := conf_list (fun x hx => conf_P2 (h4 x hx))
 rw [List.length_map] at h1 h3
 exact ⟨⟨n, m, f, d⟩, rfl, mx_le h1, mx_le h3⟩
theorem conf_Pks {xs : List (List D)} (hl : xs.length ≤ maxLen) (h : ∀ x ∈ xs, conf ckPk x) : ∃ l : List Pk, xs = l.map ePk ∧ BgPs l := by
 obtain ⟨l, rfl, h1⟩ := conf_list (fun x hx => conf_Pk (h x hx))
 rw [List.length_map] at hl
 exact ⟨l, rfl, mx_le hl, h1⟩
end V
end Go.Proofs.YtnaldhcdcpdbnaaGreatDoor

/-
The given statements of four laws on putting in.
-/
namespace Go.Proofs.YtnaldhcdcpdbnaaGreatDoor
namespace V
set_option maxRecDepth 100000
open Go.ChangeShapes Go.WideShapes Go.ChangeAt Go.RowKit

def ckPks : Ck := .sl ckPk .nil
theorem conf_ePks {x : List D} (h : conf ckPks x) : ∃ l : List Pk, x = ePks l ∧ BgPs l := by
 obtain ⟨xs, _, rfl, h1, h2, h⟩ := h
 have h := (show _ = [] from h)
 subst h
 obtain ⟨l, rfl, h3⟩ := conf_Pks h1 h2
 exact ⟨l, rfl, h3⟩
end V
end Go.Proofs.YtnaldhcdcpdbnaaGreatDoor

/-
Texts of packages, their sums, and what an index tells, in plain terms.
-/
namespace Go.Proofs.YtnaldhcdcpdbnaaGreatDoor
namespace V
open Classical
set_option maxRecDepth 100000

def bA (l : List UInt8) : ByteArray := ⟨l.toArray⟩
theorem bA_app (a b : List UInt8) : bA a ++ bA b = bA (a ++ b) := by
 apply ByteArray.ext
 simp [bA, ByteArray.data_append]
theorem bA_size (a : List UInt8) : (bA a).size = a.length := by simp [bA, ByteArray.size]
abbrev sT (l : List UInt8) : List D := [.str (bA l)]
def u8 (n : Int) : UInt8 := UInt8.ofNat n.toNat
def nmT (n v : Int) : List UInt8 := [u8 (97 + n - 1), u8 (48 + v)]
def fT (f : P2) : List UInt8 := [32, u8 (48 + f.a), 58, u8 (48 + f.b)]
def dT (d : P2) : List UInt8 := 32 :: nmT d.a d.b
noncomputable def textM (p : Pk) : List UInt8 := if PkOk p then nmT p.name p.ver ++ p.files.flatMap fT ++ p.deps.flatMap dT else []
theorem textM_len (p : Pk) : (textM p).length ≤ 30 := by
 unfold textM
 split
 ·rename_i h
  have h1 : (p.files.length : Int) ≤ 2 := h.2.2.1.2
  have h2 : (p.deps.length : Int) ≤ 2 := h.2.2.2.2
  have e1 : (p.files.flatMap fT).length = 4 * p.files.length := by
   rw [List.length_flatMap]
   induction p.files with
   | nil => rfl
   | cons a r ih => simp [fT, ih] at *; omega
  have e2 : (p.deps.flatMap dT).length = 3 * p.deps.length := by
   rw [List.length_flatMap]
   induction p.deps with
   | nil => rfl
   | cons a r ih => simp [dT, nmT, ih] at *; omega
  simp only [List.length_append, e1, e2]
  simp [nmT]
  omega
 ·simp
def sumS (n : Int) (b : UInt8) : Int := (31 * n + b.toNat + 1).tmod 9973
def sumM (l : List UInt8) : Int := l.foldl sumS 7
theorem sumS_range {n : Int} (b : UInt8) (h : 0 ≤ n) : 0 ≤ sumS n b ∧ sumS n b < 9973 := by
 unfold sumS
 rw [Int.tmod_eq_emod_of_nonneg (by omega)]
 omega
theorem sumM_from : ∀ (l : List UInt8) (n : Int), 0 ≤ n → n < 9973 → 0 ≤ l.foldl sumS n ∧ l.foldl sumS n < 9973
 | [], n, h, h' => ⟨h, h'⟩
 | b :: r, n, h, _ => sumM_from r _ (sumS_range b h).1 (sumS_range b h).2
theorem sumM_range (l : List UInt8) : 0 ≤ sumM l ∧ sumM l < 9973 := sumM_from l 7 (by omega) (by omega)
noncomputable def mtOf (p : Pk) : Mt := ⟨p.name, p.ver, sumM (textM p)⟩

structure Ix where
 num : Int
 till : Int
 ms : List Mt
deriving DecidableEq, Inhabited
abbrev eIx (x : Ix) : List D := [.int .i64 x.num, .int .i64 x.till, .sl (x.ms.map eMt)]
def ixZ : Ix := ⟨0, 0, []⟩
structure Tu where
 r : Rt
 has : Bool
 x : Ix
deriving DecidableEq, Inhabited
abbrev eTu (t : Tu) : List D := [.int .i64 t.r.num, .sl (t.r.keys.map i64), .int .i64 t.r.need, .bool t.has, .int .i64 t.x.num, .int .i64 t.x.till, .sl (t.x.ms.map eMt)]
def MtAt (l : List Mt) (i : Int) : Prop := (1 ≤ (ix l i).name ∧ (ix l i).name ≤ 4) ∧ (1 ≤ (ix l i).ver ∧ (ix l i).ver ≤ 5) ∧ (0 ≤ (ix l i).sum ∧ (ix l i).sum ≤ 9972) ∧
 (0 < i → (ix l (i - 1)).name < (ix l i).name ∨ ((ix l (i - 1)).name = (ix l i).name ∧ (ix l (i - 1)).ver < (ix l i).ver))
def IxM (x : Ix) : Prop := (1 ≤ x.num ∧ x.num ≤ 30) ∧ (0 ≤ x.till ∧ x.till ≤ 60) ∧ (x.ms.length : Int) ≤ 8 ∧ Blw x.ms.length (MtAt x.ms)
def TuM (t : Tu) : Prop := RootM t.r ∧ if t.has = true then IxM t.x else (t.x.num = 0 ∧ t.x.till = 0 ∧ t.x.ms = [])
end V
end Go.Proofs.YtnaldhcdcpdbnaaGreatDoor

/-
What strings.Builder's writing does at this seat (after the kit's own walks, Derived/Shelf/Strings/Builder1.lean and BuilderK.lean: the loader's refused row in copyCheck makes the body another one than the shelf's).
-/
namespace Go.Proofs.YtnaldhcdcpdbnaaGreatDoor
open Go.Shelf Go.RowKit
set_option maxRecDepth 100000
set_option maxHeartbeats 2000000

theorem copyCheck_used (b : Nat) (w : World) (h0 : w.cell? ⟨b, 0, none⟩ = some (.pointer (some ⟨b, 0, none⟩))) :
  Calls Tryz.prog 98 #[.pointer (some ⟨b, 0, none⟩)] w fun e w' => e = .returned (.tuple #[]) ∧ w' = w := by
 have hs : (Tryz.prog.info? 124).map (·.size) = some 2 := Tryz.Builder_Extra_169.sizeBuilder
 obtain ⟨j, hj, _⟩ := Option.map_eq_some_iff.1 hs
 have mixed : Tryz.prog.follows .mixedOrders = true := V.mixed
 go_enter Tryz.func98, Tryz.ntmps98
 go_wp2
 rw [Lib.run_neq_ptr_same w _ Tryz.underlying122 hj]
 go_wp2
 go_end0
 exact ⟨rfl, rfl⟩

theorem copyCheck_fresh (b : Nat) (w : World) (h0 : w.cell? ⟨b, 0, none⟩ = some (.pointer none)) (hsh : w.shape? b = some (124, 2)) (hfz : w.frozen? ⟨b, 0, none⟩ = false) :
  Calls Tryz.prog 98 #[.pointer (some ⟨b, 0, none⟩)] w fun e w' => e = .returned (.tuple #[]) ∧ w' = w.setCell ⟨b, 0, none⟩ (.pointer (some ⟨b, 0, none⟩)) := by
 have hs : (Tryz.prog.info? 124).map (·.size) = some 2 := Tryz.Builder_Extra_169.sizeBuilder
 obtain ⟨j, hj, hjs⟩ := Option.map_eq_some_iff.1 hs
 have hlies : liesAt Tryz.prog Tryz.prog.depth 124 (2 / Tryz.prog.cellsOf 124) 0 124 1 = true := Tryz.Builder_Extra_169.liesBuilder
 have mixed : Tryz.prog.follows .mixedOrders = true := V.mixed
 go_enter Tryz.func98, Tryz.ntmps98
 go_wp2
 rw [Lib.run_to_unsafe w ⟨b, 0, none⟩ Tryz.underlying122 Tryz.underlying138 hj (by rw [hjs]; decide) hsh (Nat.zero_lt_succ 1)]
 simp only [Result.andThen]
 rw [Oper.upon_value]
 go_wp2
 rw [run_callFunc_extern Tryz.func100 (by kernel_rfl) (by kernel_rfl) (by kernel_rfl) (e := Extern.AbiNoEscape.same) (by kernel_rfl)]
 rw [Lib.run_noEscape]
 simp only [Result.andThen]
 rw [Oper.upon_value]
 go_wp2
 rw [Lib.run_from_unsafe w ⟨b, 0, none⟩ Tryz.underlying138 Tryz.underlying122 hj hsh hlies]
 simp only [Result.andThen]
 rw [Oper.upon_value]
 go_wp2
 go_end0
 exact ⟨rfl, rfl⟩

theorem copyCheck_k (B b : Nat) (bs : List Value) (w : World) (h : Lib.IsBuilderF 124 5 B b bs w) :
  Calls Tryz.prog 98 #[.pointer (some ⟨b, 0, none⟩)] w fun e w' => e = .returned (.tuple #[]) ∧ (Lib.BuilderAtF 124 5 B b (.pointer (some ⟨b, 0, none⟩)) bs w' ∧ Below B w w' ∧ Lib.OthersKept 5 (some b) w w') := by
 rcases h with h | h
 ·refine (copyCheck_fresh b w h.cell0 h.shape h.frozen0).mono ?_
  rintro e w' ⟨rfl, rfl⟩
  exact ⟨rfl, h.used _, (Below.refl B w).setCell (p := ⟨b, 0, none⟩) h.1 _, (Lib.OthersKept.refl _ _ w).setCell ⟨b, 0, none⟩ rfl _⟩
 ·refine (copyCheck_used b w h.cell0).mono ?_
  rintro e w' ⟨rfl, rfl⟩
  exact ⟨rfl, h, Below.refl B _, Lib.OthersKept.refl _ _ _⟩

theorem WriteString_k (B b : Nat) (bs : List Value) (s : ByteArray) (w : World) (h : Lib.IsBuilderF 124 5 B b bs w) (hlen : bs.length + s.size ≤ 140737488355328) (hBw : B ≤ w.heap.size) :
  Calls Tryz.prog 87 #[.pointer (some ⟨b, 0, none⟩), .string s] w fun e w' => e = .returned (.tuple #[.int .i64 s.size, .nilIface]) ∧ (Lib.BuilderAtF 124 5 B b (.pointer (some ⟨b, 0, none⟩)) (bs ++ Lib.strCells s) w' ∧ Below B w w' ∧ Lib.OthersKept 5 (some b) w w') := by
 have hib : (Tryz.prog.info? 5).map (fun i => (i.zero, i.size, i.bytes)) = some (some (.int .u8 0), 1, 1) := Tryz.Builder_Extra_169.infoByte
 obtain ⟨i0, hi, hz0, hz1, hz2⟩ := info_parts hib
 have mixed : Tryz.prog.follows .mixedOrders = true := V.mixed
 go_enter Tryz.func87, Tryz.ntmps87
 go_wp2_with (go_at_call 98; refine (copyCheck_k B b bs _ h).mono ?_)
 rintro e w1 ⟨rfl, h1, hb1, hk1⟩
 obtain ⟨hB, v, hbk, hown, hne⟩ := h1
 have c0 : w1.cell? ⟨b, 0, none⟩ = some (.pointer (some ⟨b, 0, none⟩)) := by rw [Lib.cell_of_heap hbk]; rfl
 have c1 : w1.cell? ⟨b, 1, none⟩ = some v := by rw [Lib.cell_of_heap hbk]; rfl
 go_wp2_with (at_builtin; refine Lib.wpList_append_own_stringF _ rfl _ _ 121 9 rfl B 5 i0 Tryz.underlying121 Tryz.underlying9 hi hz0 hz1 hz2 _ _ _ rfl hown s rfl ?c3 ?c4 ?c5 ?_)
 case c3 => unfold maxLen; omega
 case c4 => omega
 case c5 => have := hb1.size; omega
 intro v' w2 hown' hgrow _
 have hlt : b < w1.heap.size := by
  rcases Nat.lt_or_ge b w1.heap.size with h' | h'
  ·exact h'
  ·simp [Array.getElem?_eq_none h'] at hbk
 have hb2 : w2.heap[b]? = some (.cells #[.pointer (some ⟨b, 0, none⟩), v] 124 (0, 0)) := by
  rw [hgrow.block b hlt (fun e => hne e.symm)]
  exact hbk
 have d0 : w2.cell? ⟨b, 0, none⟩ = some (.pointer (some ⟨b, 0, none⟩)) := by rw [Lib.cell_of_heap hb2]; rfl
 have d1 : w2.cell? ⟨b, 1, none⟩ = some v := by rw [Lib.cell_of_heap hb2]; rfl
 have f1 : w2.frozen? ⟨b, 1, none⟩ = false := Lib.frozen_of_heap hb2 1
 obtain ⟨ao, n', cap, rfl⟩ : ∃ ao n' cap, v' = .slice ao n' cap := by
  rcases hown'.2 with ⟨hv, _⟩ | ⟨g, cap, cur, fz, hv, _⟩
  ·exact ⟨_, _, _, hv⟩
  ·exact ⟨_, _, _, hv⟩
 go_wp2
 go_ret2
 refine ⟨rfl, ?_, ?_, (hk1.grown hgrow (Lib.ownsRowF_kind hown)).setCell ⟨b, 1, none⟩ rfl _⟩
 ·exact Lib.BuilderAtF.put (T := 124) (e := 5) hB hb2 (bs' := bs ++ Lib.strCells s) (by simpa [Lib.strCells_length] using hown') Tryz.Builder_Extra_169.neB5
 ·exact (hb1.grown hgrow (by have := hb1.size; omega) (fun k hk => (hown.lt k hk).1)).setCell (p := ⟨b, 1, none⟩) hB _
end Go.Proofs.YtnaldhcdcpdbnaaGreatDoor

/-
What the program's named does.
-/
namespace Go.Proofs.YtnaldhcdcpdbnaaGreatDoor
open Go.Shelf Go.RowKit
set_option maxRecDepth 100000
set_option maxHeartbeats 2000000

theorem enc1 (n : Int) (hn : 1 ≤ n ∧ n ≤ 4) : Utf8.encode (97 + n - 1) = V.bA [V.u8 (97 + n - 1)] := by
 have : n = 1 ∨ n = 2 ∨ n = 3 ∨ n = 4 := by omega
 rcases this with rfl | rfl | rfl | rfl <;> rfl
theorem dig1 (i : Nat) (h : i ≤ 9) : Lib.decDigits i = [V.u8 (48 + (i : Int))] := by
 rw [Lib.decDigits_one (by omega)]
 unfold V.u8
 rw [show (48 + (i : Int)).toNat = 48 + i by omega]
theorem named_walk (n v : Int) (hn : 1 ≤ n ∧ n ≤ 4) (hv : 1 ≤ v ∧ v ≤ 5) (w : World) :
  Calls Tryz.prog 88 #[.int .i64 n, .int .i64 v] w fun e w' => e = .returned (.string (V.bA (V.nmT n v))) ∧ w' = w := by
 have mixed : Tryz.prog.follows .mixedOrders = true := V.mixed
 obtain ⟨i, rfl⟩ : ∃ i : Nat, v = i := ⟨v.toNat, by omega⟩
 have he := enc1 n hn
 have hd := dig1 i (by omega)
 have hs : ¬9223372036854775807 < (Utf8.encode (97 + n - 1)).size + (Lib.decDigits i).length := by rw [he, hd, V.bA_size]; simp
 go_enter Tryz.func88, Tryz.ntmps88
 go_wp2_with (go_at_call 89; refine (Tryz.strconv_Itoa_small i (by omega) _).mono ?_; rintro e w' ⟨rfl, rfl⟩)
 go_ret
 refine ⟨?_, rfl⟩
 show Ending.returned (Value.string (V.bA [V.u8 (97 + n - 1)] ++ V.bA [V.u8 (48 + (i : Int))])) = _
 rw [V.bA_app]
 rfl
namespace V
open Classical
def InW (w : World) (g _o : Nat) : Prop := g < w.heap.size
def ow0 : Own := fun _ => none
def cxW (w : World) : Cx := ⟨InW w, InW w, fun g => w.heap.size ≤ g⟩
theorem wok_refl (w : World) : WOk w ow0 (cxW w) ow0 w where
 kept := Kept.refl _ _
 dom := fun g i h => by cases h
 n := fun g => by
  show w.heap.size ≤ g ↔ _
  exact ⟨fun h => .inl h, fun h => h.elim id (fun h' => absurd rfl h')⟩
 s1 := fun g o h => h
 s2 := fun g o h => ⟨h, not_claimed_of_none rfl⟩
 cl := fun g o _ h => h
 inj := fun g g' i j h => by cases h
theorem bs_inW {w : World} {cx : Cx} {own : Own} {d : D} {v : Value} (h : Rep w (BS cx own) d v) : Rep w (InW w) d v :=
 h.in_ (fun _ _ _ _ h => h) (fun g cur T h => ⟨cur, h, rfl⟩) (fun g o u _ h => cell_lt h)
theorem inW_bs {w : World} {d : D} {v : Value} (h : Rep w (InW w) d v) : Rep w (BS (cxW w) ow0) d v :=
 h.mono (fun _ _ _ => rfl) (fun g cur T h => ⟨cur, h, rfl⟩) (fun g o h => ⟨not_claimed_of_none rfl, .inl h⟩)
theorem Kept.below {w w' : World} (h : Kept ow0 w w') : Below w.heap.size w w' := ⟨h.os, h.tape, h.output, h.size, fun k hk => h.block k hk rfl⟩
theorem inW_below {w w' : World} {B : Nat} {d : D} {v : Value} (h : Rep w (InW w) d v) (hb : Below B w w') (hB : w.heap.size ≤ B) : Rep w' (InW w) d v :=
 h.mono (fun g o hg => by
  have hg : g < w.heap.size := hg
  simp only [World.cell?, hb.block g (by omega)]) (fun g cur T h => by
   have := heap_lt h
   exact ⟨cur, by rw [hb.block g (by omega)]; exact h, rfl⟩) (fun _ _ h => h)
theorem rep_row {w : World} {xs : List P2} {v : Value} (h : Rep w (InW w) (.sl (xs.map eP2)) v) : ∃ A cap, v = .slice A xs.length cap ∧ xs.length ≤ cap + xs.length ∧
  ∀ i : Nat, i < xs.length → ∃ g off, A = some ⟨g, off, none⟩ ∧ xs.length ≤ cap ∧ g < w.heap.size ∧ w.cell? ⟨g, off + i * 2, none⟩ = some (.int .i64 (ix xs i).a) ∧ w.cell? ⟨g, off + i * 2 + 1, none⟩ = some (.int .i64 (ix xs i).b) := by
 generalize hd : D.sl (xs.map eP2) = d at h
 cases h with
 | scal h => subst hd; cases h
 | nil A cap =>
  have : xs = [] := by simpa using hd
  subst this
  exact ⟨A, cap, rfl, by simp, fun i hi => absurd hi (by simp)⟩
 | sl ys g off sz cap vs q1 q2 q3 q4 q5 =>
  have hy : xs.map eP2 = ys := by simpa using hd
  subst hy
  refine ⟨some ⟨g, off, none⟩, cap, by simp, by omega, fun i hi => ?_⟩
  have hx : (xs.map eP2)[i]? = some (eP2 (ix xs i)) := by simp [ix, hi]
  have h2 : sz = 2 := (q2 _ (List.mem_of_getElem? hx)).symm
  subst h2
  have c0 := q3 i _ 0 _ hx rfl
  have c1 := q3 i _ 1 _ hx rfl
  have r0 := q5 i _ 0 _ hx rfl
  have r1 := q5 i _ 1 _ hx rfl
  have s0 := q4 i _ 0 _ hx rfl
  have key : ∀ (n : Int) (u : Value), Rep w (InW w) (.int .i64 n) u → u = .int .i64 n := fun n u h => by
   cases h with
   | scal h => cases h; rfl
  have e0 := key _ _ r0
  have e1 := key _ _ r1
  rw [e0] at c0
  rw [e1] at c1
  exact ⟨g, off, rfl, by simpa using q1, s0, c0, c1⟩
 | fn => cases hd
theorem pkgOk_call (p : Pk) (hs : SmP p) (v1 v2 : Value) (w : World) (h1 : Rep w (InW w) (.sl (p.files.map eP2)) v1) (h2 : Rep w (InW w) (.sl (p.deps.map eP2)) v2) :
  Calls Tryz.prog 56 #[.agg #[.int .i64 p.name, .int .i64 p.ver, v1, v2]] w fun e w' => e = .returned (.bool (decide (PkOk p))) ∧ Below w.heap.size w w' := by
 obtain ⟨_, hf⟩ := iPkgOk_ok (W := topWld) p hs
 have s1 : ∀ {d : D} {v : Value}, Rep w (InW w) d v → (∃ xs, d = .sl xs) → Cell1 v := fun h hd => by
  obtain ⟨xs, rfl⟩ := hd
  cases h with
  | scal h => cases h
  | nil A cap => exact ⟨fun c h => (by cases h), fun c h => (by cases h)⟩
  | sl => exact ⟨fun c h => (by cases h), fun c h => (by cases h)⟩
 refine (hf w ow0 (cxW w) [.agg #[.int .i64 p.name, .int .i64 p.ver, v1, v2]] trivial (wok_refl w) (fun g i h => by cases h) rfl rfl (fun q hq => ?_)).mono ?_
 ·have : q = (0, .v true [.s, .s, .b, .b]) := by simpa [start, starts, startSh] using hq
  subst this
  refine ⟨[.int .i64 p.name, .int .i64 p.ver, v1, v2], rfl, fun h => (by cases h), rfl, rfl, fun i c d v hc hd hv => ?_⟩
  match i, hc, hd, hv with
  | 0, hc, hd, hv => cases hc; cases hd; cases hv; exact ⟨⟨fun c h => (by cases h), fun c h => (by cases h)⟩, .int _ _⟩
  | 1, hc, hd, hv => cases hc; cases hd; cases hv; exact ⟨⟨fun c h => (by cases h), fun c h => (by cases h)⟩, .int _ _⟩
  | 2, hc, hd, hv => cases hc; cases hd; cases hv; exact ⟨s1 h1 ⟨_, rfl⟩, inW_bs h1⟩
  | 3, hc, hd, hv => cases hc; cases hd; cases hv; exact ⟨s1 h2 ⟨_, rfl⟩, inW_bs h2⟩
  | i + 4, hc, hd, hv => simp at hc
 ·rintro e w' ⟨v, own', rfl, hw', hr⟩
  refine ⟨?_, hw'.kept.below⟩
  obtain ⟨rv, hrl, hv, hrs, _⟩ := hr.tv
  match rv, hrl with
  | [r], _ =>
   have hv : v = r := hv
   subst hv
   obtain ⟨vs, e0, l0, a0⟩ := hrs 0 _ rfl
   match vs, l0 rfl with
   | [u], _ =>
    have e0 : v = u := e0
    subst e0
    obtain ⟨_, hsc⟩ := a0.2.2 0 .s (.bool (decide (PkOk p))) v rfl rfl rfl
    have hsc : Scal (.bool (decide (PkOk p))) v := hsc
    cases hsc
    rfl
end V
end Go.Proofs.YtnaldhcdcpdbnaaGreatDoor

/-
The text of a package, as the program writes it.
-/
namespace Go.Proofs.YtnaldhcdcpdbnaaGreatDoor
open Go.Shelf Go.RowKit
open Classical
set_option maxRecDepth 100000
set_option maxHeartbeats 4000000

theorem inW_mono {w w1 : World} {d : V.D} {v : Value} (h : V.Rep w (V.InW w) d v) (hb : Below w.heap.size w w1) : V.Rep w1 (V.InW w1) d v :=
 (V.inW_below h hb (Nat.le_refl _)).mono (fun _ _ _ => rfl) (fun g cur T h => ⟨cur, h, rfl⟩) (fun g o h => Nat.lt_of_lt_of_le h hb.size)
theorem below_alloc (w : World) (o : Obj) : Below w.heap.size w (w.alloc o) := (Below.refl _ w).alloc (Nat.le_refl _) o
theorem below_cell {B : Nat} {w w' : World} (h : Below B w w') (g o : Nat) (hg : g < B) : w'.cell? ⟨g, o, none⟩ = w.cell? ⟨g, o, none⟩ := by
 simp only [World.cell?, h.block g hg]
theorem alloc_cell (w : World) (x : Obj) (g o : Nat) (hg : g < w.heap.size) : (w.alloc x).cell? ⟨g, o, none⟩ = w.cell? ⟨g, o, none⟩ := below_cell (below_alloc w x) g o hg
abbrev Bld (b : Nat) (l : List UInt8) (w : World) : Prop := Lib.IsBuilderF 124 5 b b (Lib.byteCells l) w
theorem strCells_bA (l : List UInt8) : Lib.strCells (V.bA l) = Lib.byteCells l := by
 simp [Lib.strCells, Lib.byteCells, V.bA]
theorem cell_new (w : World) (cs : Array Value) (T : TypeId) (j : Nat) : (w.alloc (.cells cs T)).drew.cell? ⟨w.heap.size, j, none⟩ = cs[j]? := by
 have : (w.alloc (.cells cs T)).drew.heap[w.heap.size]? = some (.cells cs T (0, 0)) := heap_alloc_new w _
 simp only [World.cell?, this]
 rfl
theorem still_tail {P : Program} {id : Nat} {Q : Exit → Act → World → Prop} {a : Act} {w : World} {l : List Oper} (n : Nat) (hm : P.follows .mixedOrders = true) (hB : Region.lexTailB .any l.toArray n = true) (w5 : World) (h5 : w5 = w.drew)
  (h : wpStill P l.toArray w5 (fun a' => wpList P l.toArray Q (l.drop n) a' w5) (l.take n) a) : (Code.region id l.toArray true).wp P Q a w := by
 subst h5
 exact wp_region_still_tail n hm hB h
theorem below_drew {B : Nat} {w w' : World} (h : Below B w w') : Below B w w'.drew := ⟨h.os, h.tape, h.output, h.size, h.block⟩
theorem flat_len {α : Type} (f : α → List UInt8) (n : Nat) (hf : ∀ x, (f x).length = n) : ∀ xs : List α, (xs.flatMap f).length = n * xs.length
 | [] => by simp
 | x :: r => by
  have := flat_len f n hf r
  simp [hf, this, Nat.mul_add, Nat.add_comm]
theorem pieces_len {p : V.Pk} (hP : V.PkOk p) (k : Nat) (hk : k ≤ p.files.length) : (V.nmT p.name p.ver ++ (p.files.take k).flatMap V.fT).length ≤ 10 := by
 have h1 : (p.files.length : Int) ≤ 2 := hP.2.2.1.2
 rw [List.length_append, flat_len V.fT 4 (fun _ => rfl), List.length_take]
 simp only [V.nmT, List.length_cons, List.length_nil]
 omega
theorem pieces_len2 {p : V.Pk} (hP : V.PkOk p) (k : Nat) (hk : k ≤ p.deps.length) : (V.nmT p.name p.ver ++ p.files.flatMap V.fT ++ (p.deps.take k).flatMap V.dT).length ≤ 16 := by
 have h1 : (p.files.length : Int) ≤ 2 := hP.2.2.1.2
 have h2 : (p.deps.length : Int) ≤ 2 := hP.2.2.2.2
 rw [List.length_append, List.length_append, flat_len V.fT 4 (fun _ => rfl), flat_len V.dT 3 (fun _ => rfl), List.length_take]
 simp only [V.nmT, List.length_cons, List.length_nil]
 omega
theorem take_flat {α : Type} [Inhabited α] (f : α → List UInt8) (xs : List α) (k : Nat) (hk : k < xs.length) : (xs.take (k + 1)).flatMap f = (xs.take k).flatMap f ++ f (V.ix xs k) := by
 have : xs.take (k + 1) = xs.take k ++ [V.ix xs k] := by
  rw [List.take_add_one]
  simp [V.ix, hk]
 rw [this]
 simp
theorem pkgText_walk (p : V.Pk) (hs : V.SmP p) (v1 v2 : Value) (w : World) (h1 : V.Rep w (V.InW w) (.sl (p.files.map V.eP2)) v1) (h2 : V.Rep w (V.InW w) (.sl (p.deps.map V.eP2)) v2) :
  Calls Tryz.prog 60 #[.agg #[.int .i64 p.name, .int .i64 p.ver, v1, v2]] w fun e w' => e = .returned (.string (V.bA (V.textM p))) ∧ Below w.heap.size w w' := by
 have mixed : Tryz.prog.follows .mixedOrders = true := V.mixed
 go_enter Tryz.func60, Tryz.ntmps60
 go_wp2_with (go_at_call 56; refine (V.pkgOk_call p hs v1 v2 _ (inW_mono h1 (below_alloc w _)) (inW_mono h2 (below_alloc w _))).mono ?_)
 rintro e w2 ⟨rfl, hb2⟩
 have hsz2 : w.heap.size < w2.heap.size := by
  have := hb2.size
  simp at this
  omega
 have hb0 : Below w.heap.size w w2 := (below_alloc w _).trans (hb2.mono (by simp))
 have hbx : w2.heap[w.heap.size]? = some (.cells #[.int .i64 p.name, .int .i64 p.ver, v1, v2] 63 (0, 0)) := by
  rw [hb2.block _ (by simp)]
  exact heap_alloc_new w _
 have r1 := inW_mono h1 hb0
 have r2 := inW_mono h2 hb0
 by_cases hP : V.PkOk p
 ·have hd : decide (V.PkOk p) = true := decide_eq_true hP
  rw [hd]
  obtain ⟨A1, cap1, rfl, _, row1⟩ := V.rep_row r1
  obtain ⟨A2, cap2, rfl, _, row2⟩ := V.rep_row r2
  clear hb2 h1 h2 r1 r2
  have c0 : ∀ x, (w2.alloc x).cell? ⟨w.heap.size, 0, none⟩ = some (.int .i64 p.name) := fun x => by rw [alloc_cell w2 x _ _ hsz2]; simp only [World.cell?, hbx]; rfl
  have c1 : ∀ x, (w2.alloc x).cell? ⟨w.heap.size, 1, none⟩ = some (.int .i64 p.ver) := fun x => by rw [alloc_cell w2 x _ _ hsz2]; simp only [World.cell?, hbx]; rfl
  go_wp2_with (go_at_call 88; refine (named_walk p.name p.ver hP.1 hP.2.1 _).mono ?_; rintro e w' ⟨rfl, rfl⟩)
  refine (WriteString_k w2.heap.size w2.heap.size [] (V.bA (V.nmT p.name p.ver)) _ (Lib.IsBuilderF.of (Lib.fresh_isBuilder 124 5 w2)) (by rw [V.bA_size]; simp [V.nmT]) (by simp)).mono ?_
  rintro e w3 ⟨rfl, hB3, hbl3, _⟩
  have hI3 : Bld w2.heap.size (V.nmT p.name p.ver) w3 := .inr (by rw [← strCells_bA]; simpa using hB3)
  have hb3 : Below w2.heap.size w2 w3 := (below_alloc w2 _).trans hbl3
  clear c0 c1 hB3 hbl3
  have c2 : w3.cell? ⟨w.heap.size, 2, none⟩ = some (.slice A1 p.files.length cap1) := by rw [below_cell hb3 _ _ hsz2]; simp only [World.cell?, hbx]; rfl
  go_wp2
  go_loopw [20] (fun i wr => ∃ k : Nat, i = .int .i64 k ∧ k ≤ p.files.length ∧ Bld w2.heap.size (V.nmT p.name p.ver ++ (p.files.take k).flatMap V.fT) wr ∧ Below w2.heap.size w2 wr) (fun i wr => p.files.length - (intOf i).toNat)
  case atStart => exact ⟨0, rfl, by omega, by simpa using hI3, hb3⟩
  case round =>
   obtain ⟨k, rfl, hk, hI, hbw⟩ := hrel
   clear c2
   by_cases hlt : k < p.files.length
   ·obtain ⟨g, off, rfl, hcap, hg, x0, x1⟩ := row1 k hlt
    have y0 := (below_cell hbw g (off + k * 2) (by omega)).trans x0
    have y1 := (below_cell hbw g (off + k * 2 + 1) (by omega)).trans x1
    have hfl : (p.files.length : Int) ≤ 2 := hP.2.2.1.2
    obtain ⟨fa, fb, _⟩ := hP.2.2.1.1 k (by omega) (by omega)
    obtain ⟨a, ha⟩ : ∃ a : Nat, (V.ix p.files k).a = a := ⟨(V.ix p.files k).a.toNat, by omega⟩
    obtain ⟨b, hb⟩ : ∃ b : Nat, (V.ix p.files k).b = b := ⟨(V.ix p.files k).b.toNat, by omega⟩
    rw [ha] at y0
    rw [hb] at y1
    have da := dig1 a (by omega)
    have db := dig1 b (by omega)
    go_wp2
    obtain ⟨W5, hW5⟩ : ∃ W5 : World, W5 = (wr.alloc (Obj.cells #[.int .i64 a, .int .i64 b] 97)).drew := ⟨_, rfl⟩
    have z0 : W5.cell? ⟨wr.heap.size, 0, none⟩ = some (.int .i64 a) := by rw [hW5]; exact cell_new wr _ _ 0
    have z1 : W5.cell? ⟨wr.heap.size, 1, none⟩ = some (.int .i64 b) := by rw [hW5]; exact cell_new wr _ _ 1
    refine still_tail 9 mixed (by kernel_rfl) W5 hW5 ?_
    simp only [List.take_succ_cons, List.take_zero, List.drop_succ_cons, List.drop_zero]
    repeat still_step
    still_call (Tryz.strconv_Itoa_small a (by omega) _)
    repeat still_step
    still_call (Tryz.strconv_Itoa_small b (by omega) _)
    repeat still_step
    refine wpStill_nil ?_
    have hstr : ((⟨#[32]⟩ : ByteArray) ++ ⟨#[V.u8 (48 + (a : Int))]⟩ ++ ⟨#[58]⟩ ++ ⟨#[V.u8 (48 + (b : Int))]⟩) = V.bA (V.fT (V.ix p.files k)) := by
     show V.bA [32] ++ V.bA [V.u8 (48 + (a : Int))] ++ V.bA [58] ++ V.bA [V.u8 (48 + (b : Int))] = _
     rw [V.bA_app, V.bA_app, V.bA_app]
     simp [V.fT, ha, hb]
    have hI5 : Bld w2.heap.size (V.nmT p.name p.ver ++ (p.files.take k).flatMap V.fT) W5 := by rw [hW5]; exact hI.alloc _
    have hb5 : Below w2.heap.size w2 W5 := hbw.trans (by rw [hW5]; exact below_drew ((below_alloc wr _).mono hbw.size))
    clear hW5 z0 z1 y0 y1
    go_wp2_with (go_at_call 87; refine (WriteString_k w2.heap.size w2.heap.size _ _ W5 hI5 ?hq1 hb5.size).mono ?_)
    case hq1 =>
     have hl := pieces_len hP k hk
     rw [V.bA_size, Lib.byteCells_length]
     rw [show (V.fT (V.ix p.files k)).length = 4 from rfl]
     omega
    rintro e w6 ⟨rfl, hB6, hbl6, _⟩
    go_wp2
    go_roundw
    case rel =>
     refine ⟨k + 1, rfl, by omega, .inr ?_, hb5.trans hbl6⟩
     rw [strCells_bA, ← Lib.byteCells_append] at hB6
     rw [take_flat V.fT p.files k hlt, ← List.append_assoc]
     exact hB6
    case measure => simp only [intOf]; omega
   ·have hk' : k = p.files.length := by omega
    subst hk'
    rw [List.take_length] at hI
    have c3 : wr.cell? ⟨w.heap.size, 3, none⟩ = some (.slice A2 p.deps.length cap2) := by rw [below_cell hbw _ _ hsz2]; simp only [World.cell?, hbx]; rfl
    clear row1
    go_wp2
    go_loopw [38] (fun i wr => ∃ k : Nat, i = .int .i64 k ∧ k ≤ p.deps.length ∧ Bld w2.heap.size (V.nmT p.name p.ver ++ p.files.flatMap V.fT ++ (p.deps.take k).flatMap V.dT) wr ∧ Below w2.heap.size w2 wr) (fun i wr => p.deps.length - (intOf i).toNat)
    case atStart => exact ⟨0, rfl, by omega, by simpa using hI, hbw⟩
    case round =>
     clear hI hbw c3
     obtain ⟨k, rfl, hk, hI, hbw⟩ := hrel
     have hdl : (p.deps.length : Int) ≤ 2 := hP.2.2.2.2
     by_cases hlt : k < p.deps.length
     ·obtain ⟨g, off, rfl, hcap, hg, x0, x1⟩ := row2 k hlt
      have y0 := (below_cell hbw g (off + k * 2) (by omega)).trans x0
      have y1 := (below_cell hbw g (off + k * 2 + 1) (by omega)).trans x1
      obtain ⟨fa, _, fb, _⟩ := hP.2.2.2.1 k (by omega) (by omega)
      have hz : ¬ 9223372036854775807 < 1 + (V.bA (V.nmT (V.ix p.deps k).a (V.ix p.deps k).b)).size := by rw [V.bA_size]; simp [V.nmT]
      go_wp2_with (go_at_call 88; refine (named_walk _ _ fa fb _).mono ?_; rintro e w' ⟨rfl, rfl⟩)
      have hstr : ((⟨#[32]⟩ : ByteArray) ++ V.bA (V.nmT (V.ix p.deps k).a (V.ix p.deps k).b)) = V.bA (V.dT (V.ix p.deps k)) := by
       show V.bA [32] ++ V.bA _ = _
       rw [V.bA_app]
       rfl
      have hI5 : Bld w2.heap.size (V.nmT p.name p.ver ++ p.files.flatMap V.fT ++ (p.deps.take k).flatMap V.dT) (wr.alloc (Obj.cells #[.int .i64 (V.ix p.deps k).a, .int .i64 (V.ix p.deps k).b] 100)) := hI.alloc _
      have hb5 : Below w2.heap.size w2 (wr.alloc (Obj.cells #[.int .i64 (V.ix p.deps k).a, .int .i64 (V.ix p.deps k).b] 100)) := hbw.trans ((below_alloc wr _).mono hbw.size)
      refine (WriteString_k w2.heap.size w2.heap.size _ _ _ hI5 ?hq2 hb5.size).mono ?_
      case hq2 =>
       have hl := pieces_len2 hP k hk
       rw [hstr, V.bA_size, Lib.byteCells_length]
       rw [show (V.dT (V.ix p.deps k)).length = 3 from rfl]
       omega
      rintro e w6 ⟨rfl, hB6, hbl6, _⟩
      rw [hstr, strCells_bA, ← Lib.byteCells_append] at hB6
      clear hstr
      go_wp2
      go_roundw
      case rel =>
       refine ⟨k + 1, rfl, by omega, .inr ?_, hb5.trans hbl6⟩
       rw [take_flat V.dT p.deps k hlt, ← List.append_assoc]
       exact hB6
      case measure => simp only [intOf]; omega
     ·have hk' : k = p.deps.length := by omega
      subst hk'
      rw [List.take_length] at hI
      clear row2
      go_wp2_with (go_at_call 90; refine (Tryz.Builder_String_any_k w2.heap.size w2.heap.size _ _ hI hbw.size).mono ?_)
      rintro e w7 ⟨rfl, _, hb7, _⟩
      go_wp2
      go_ret
      refine ⟨?_, (hb0.trans (hbw.mono (Nat.le_of_lt hsz2))).trans (hb7.mono (Nat.le_of_lt hsz2))⟩
      show Ending.returned (Value.string (V.bA _)) = _
      rw [V.textM, if_pos hP, List.append_assoc]
 ·have hd : decide (V.PkOk p) = false := decide_eq_false hP
  rw [hd]
  go_wp2
  go_ret
  refine ⟨?_, hb0⟩
  rw [V.textM, if_neg hP]
  rfl
namespace V
variable {W : Wld}
theorem scal_done {w w' : World} {own : Own} {cx : Cx} {sig : Sig} {vals : List Value} {d : D} {v : Value} (hw : WOk w own cx own w) (hlow : ∀ g i, own g = some i → i.leaf.1 < sig.ps.length) (hb : Below w.heap.size w w')
  (hrs : sig.rs = [.v false [.s]]) (hbx : boxPs sig.ps 0 = []) (hio : ioOf sig = none) (hs : Scal d v) : ∃ u own', Ending.returned v = .returned u ∧ WOk w own cx own' w' ∧ ResOk w' cx own' sig [[d]] vals u := by
 refine ⟨v, fun _ => none, rfl, ⟨⟨hb.os, hb.tape, hb.output, hb.size, fun g hg _ => hb.block g hg, fun g o hg _ => by simp only [World.cell?, hb.block g hg], fun g cur T h => ⟨cur, by rw [hb.block g (heap_lt h)]; exact h, rfl⟩⟩, fun g i h => (by cases h), hw.n, hw.s1, hw.s2, fun g o _ hc => ?_, fun g g' i j h => (by cases h)⟩, ?_⟩
 ·obtain ⟨i, b, h1, _⟩ := hc
  cases h1
 ·unfold ResOk
  rw [hio]
  have c1 : Cell1 v := by cases hs <;> exact ⟨fun c h => (by cases h), fun c h => (by cases h)⟩
  refine ⟨by rw [hrs, hbx]; rfl, [v], by rw [hrs]; rfl, rfl, fun k p hp => ?_, fun i b hb => by rw [hbx] at hb; simp at hb⟩
  rw [hrs] at hp
  cases k with
  | succ k => simp at hp
  | zero =>
   have hp : PSh.v false [.s] = p := by simpa using hp
   subst hp
   refine ⟨[v], rfl, fun _ => rfl, rfl, rfl, fun i c dd u hc hd hv => ?_⟩
   cases i with
   | succ i => simp at hc
   | zero =>
    simp only [List.getElem?_cons_zero, Option.some.injEq] at hc hv
    subst hc; subst hv
    have hd : some d = some dd := hd
    simp only [Option.some.injEq] at hd
    subst hd
    exact ⟨c1, hs⟩
theorem iPkgText_ok (p : Pk) (hs : SmP p) : FunOk PP W n_i_PkgText s_i_PkgText [ePk p] [sT (textM p)] := by
 refine ⟨⟨Tryz.f60, Tryz.func60, by kernel_rfl, by kernel_rfl⟩, fun w own cx vals hP hw hlow hvl hil hinv => ?_⟩
 match vals, hvl with
 | [v0], _ =>
  obtain ⟨vs, e0, _, l0, l1, a0⟩ := hinv (0, .v true [.s, .s, .b, .b]) (List.mem_cons_self ..)
  have l1 : vs.length = 4 := l1
  match vs, l1 with
  | [u0, u1, u2, u3], _ =>
   have e0 : v0 = .agg #[u0, u1, u2, u3] := e0
   obtain ⟨_, h0⟩ := a0 0 .s (.int .i64 p.name) u0 rfl rfl rfl
   obtain ⟨_, h1⟩ := a0 1 .s (.int .i64 p.ver) u1 rfl rfl rfl
   obtain ⟨_, h2⟩ := a0 2 .b (.sl (p.files.map eP2)) u2 rfl rfl rfl
   obtain ⟨_, h3⟩ := a0 3 .b (.sl (p.deps.map eP2)) u3 rfl rfl rfl
   have h0 : Scal (.int .i64 p.name) u0 := h0
   have h1 : Scal (.int .i64 p.ver) u1 := h1
   cases h0
   cases h1
   subst e0
   refine (pkgText_walk p hs u2 u3 w (bs_inW h2) (bs_inW h3)).mono ?_
   rintro e w' ⟨rfl, hb⟩
   exact scal_done hw (fun g i h => (hlow g i h).2) hb rfl rfl rfl (.str _)
end V
end Go.Proofs.YtnaldhcdcpdbnaaGreatDoor

/-
Plain proofs: texts of packages and their sums.
-/
namespace Go.Proofs.YtnaldhcdcpdbnaaGreatDoor
namespace V
open Classical
set_option maxRecDepth 100000
variable {W : Wld}

theorem sT_eq {a b : ByteArray} (h : a = b) : ([.str a] : List D) = [.str b] := by rw [h]
theorem wrapU8 (n : Int) (h : 0 ≤ n ∧ n ≤ 255) : IntKind.u8.wrap n = n := by
 show (if (false && decide (n % (2 ^ 8 : Int) ≥ (2 ^ 7 : Int))) = true then n % (2 ^ 8 : Int) - (2 ^ 8 : Int) else n % (2 ^ 8 : Int)) = n
 simp only [Bool.false_and]
 rw [if_neg (by simp)]
 omega
theorem l6Dec_ok (n : Int) (h : 0 ≤ n ∧ n ≤ 9) : FunOk PP W n_s_l6Dec s_s_l6Dec [i64 n] [sT [u8 (48 + n)]] := by
 refine F_s_l6Dec (run_fun ?_)
 (repeat' first
  | (refine run_ite rfl (fun h => ?_) (fun h => ?_) <;> (try simp (disch := omega) only [zB, eqDs, eqD, Nat.reduceAdd, wrap64] at h) <;> (try (exfalso; omega)))
  | refine run_nd rfl ?_
  | refine run_nn rfl ?_
  | refine run_need rfl ?_ ?_
  | (refine run_ret rfl ?_ ; first | refine rb ?_ | refine ri ?_ | refine rs2 ?_ ?_ | refine rs1 ?_)
  | refine run_retx rfl ?_)
 rw [wrap64 _ (by omega), wrapU8 _ (by omega)]
 rfl
theorem l1Name_ok (n v : Int) (hn : 1 ≤ n ∧ n ≤ 4) (hv : 1 ≤ v ∧ v ≤ 5) : FunOk PP W n_s_l1Name s_s_l1Name [i64 n, i64 v] [sT (nmT n v)] := by
 refine F_s_l1Name (run_fun ?_)
 (repeat' first
  | (refine run_ite rfl (fun h => ?_) (fun h => ?_) <;> (try simp (disch := omega) only [zB, eqDs, eqD, Nat.reduceAdd, wrap64] at h) <;> (try (exfalso; omega)))
  | refine run_nd rfl ?_
  | refine run_nn rfl ?_
  | refine run_call1 rfl (l6Dec_ok v (by omega)) rfl ?_
  | refine run_need rfl ?_ ?_
  | (refine run_ret rfl ?_ ; first | refine rb ?_ | refine ri ?_ | refine rs2 ?_ ?_ | refine rs1 ?_)
  | refine run_retx rfl ?_)
 ·rw [bA_size]
  show 1 + 1 ≤ lim
  decide
 ·rw [wrap64 (97 + n) (by omega), wrap64 _ (by omega), wrapU8 _ (by omega)]
  show [D.str (bA [u8 (97 + n - 1)] ++ bA [u8 (48 + v)])] = _
  rw [bA_app]
  rfl
theorem bAt_bA (l : List UInt8) (i : Int) (hi : i.toNat < l.length) : bAt (bA l) i = ((ix l i).toNat : Int) := by
 unfold bAt
 have h : i.toNat < (bA l).size := by rw [bA_size]; exact hi
 rw [getElem?_pos (bA l) i.toNat h]
 have e1 : ix l i = l[i.toNat] := by
  simp [ix, hi]
  rfl
 rw [e1]
 rfl
abbrev eB8 (b : UInt8) : List D := [.int .u8 b.toNat]
theorem bytesD_bA (l : List UInt8) : bytesD (bA l) = l.map eB8 := rfl
theorem cI_B8 (l : List UInt8) (i : Int) (hi : i.toNat < l.length) : cI (l.map eB8) i 0 = ((ix l i).toNat : Int) := by
 simp [cI, cel_m, hi, intD]
theorem sum_step (l : List UInt8) (i : Int) (h0 : 0 ≤ i) (hi : i < l.length) (x : Int) (hx : x = ((ix l i).toNat : Int)) :
  (IntKind.i64.wrap (IntKind.i64.wrap (IntKind.i64.wrap (31 * sumM (l.take i.toNat)) + IntKind.i64.wrap x) + 1)).tmod 9973 = sumM (l.take (i + 1).toNat) := by
 have hr := sumM_range (l.take i.toNat)
 have hb : (ix l i).toNat < 256 := (ix l i).toNat_lt
 rw [wrap64 x (by omega), wrap64 (31 * _) (by omega), wrap64 (_ + x) (by omega), wrap64 _ (by omega), take_ix l h0 hi]
 unfold sumM at hr ⊢
 rw [List.foldl_append]
 simp only [List.foldl_cons, List.foldl_nil]
 rw [hx]
 rfl
theorem sSumOf_ok (l : List UInt8) (hl : l.length ≤ 1000000) : FunOk PP W n_s_SumOf s_s_SumOf [sT l] [i64 (sumM l)] := by
 refine F_s_SumOf (run_fun ?_)
 refine run_loop rfl (fun i : Int => 0 ≤ i ∧ i ≤ l.length) (fun i => [(4, .val (i64 i)), (3, .val (i64 (sumM (l.take i.toNat)))), (0, .val (sT l))]) (fun i => (l.length - i).toNat) 0 ⟨by omega, by omega⟩ ⟨rfl, rfl, rfl, trivial⟩ rfl ?_
 rintro i e ⟨h0, hN⟩
 have hsz := bA_size l
 (repeat' first
  | (refine run_ite rfl (fun h => ?_) (fun h => ?_) <;> (try simp (disch := omega) only [zB, eqDs, eqD, Nat.reduceAdd, wrap64] at h) <;> (try (exfalso; omega)))
  | refine run_nd rfl ?_
  | refine run_nn rfl ?_
  | (refine run_next rfl (Exists.intro (i + 1) ⟨by omega, ⟨by omega, by omega⟩, i64_eq (wrap64 _ (by omega)), i64_eq (sum_step l i h0 (by omega) _ (bAt_bA l i (by omega))), rfl, trivial⟩))
  | refine run_need rfl ?_ ?_
  | (refine run_ret rfl ?_ ; first | refine rb ?_ | refine ri ?_ | refine rs2 ?_ ?_ | refine rs1 ?_)
  | refine run_retx rfl ?_)
 rw [List.take_of_length_le (by omega)]
theorem iSumOf_ok (l : List UInt8) (hl : l.length ≤ 1000000) : FunOk PP W n_i_SumOf s_i_SumOf [sT l] [i64 (sumM l)] := by
 refine F_i_SumOf (run_fun ?_)
 refine run_need rfl (by rw [bA_size]; unfold lim; omega) ?_
 rw [bytesD_bA]
 refine run_loop rfl (fun i : Int => 0 ≤ i ∧ i ≤ l.length) (fun i => [(9, .val (i64 i)), (3, .val (i64 (sumM (l.take i.toNat)))), (7, .val [.sl (l.map eB8)]), (8, .val (i64 (l.map eB8).length))]) (fun i => (l.length - i).toNat) 0 ⟨by omega, by omega⟩ ⟨rfl, rfl, rfl, rfl, trivial⟩ rfl ?_
 rintro i e ⟨h0, hN⟩
 (repeat' first
  | (refine run_ite rfl (fun h => ?_) (fun h => ?_) <;> (try simp (disch := omega) only [zB, eqDs, eqD, Nat.reduceAdd, wrap64] at h) <;> (try (exfalso; omega)))
  | refine run_nd rfl ?_
  | refine run_nn rfl ?_
  | (refine run_next rfl (Exists.intro (i + 1) ⟨by omega, ⟨by omega, by omega⟩, i64_eq (wrap64 _ (by omega)), i64_eq (sum_step l i h0 (by omega) _ (cI_B8 l i (by omega))), rfl, rfl, trivial⟩))
  | refine run_need rfl ?_ ?_
  | (refine run_ret rfl ?_ ; first | refine rb ?_ | refine ri ?_ | refine rs2 ?_ ?_ | refine rs1 ?_)
  | refine run_retx rfl ?_)
 rw [List.take_of_length_le (by omega)]
theorem metaOf_ok (p : Pk) (hs : SmP p) : FunOk PP W n_i_metaOf s_i_metaOf [ePk p] [eMt (mtOf p)] := by
 refine F_i_metaOf (run_fun ?_)
 have hl := textM_len p
 (repeat' first
  | (refine run_ite rfl (fun h => ?_) (fun h => ?_) <;> (try simp (disch := omega) only [zB, eqDs, eqD, Nat.reduceAdd, wrap64] at h) <;> (try (exfalso; omega)))
  | refine run_nd rfl ?_
  | refine run_nn rfl ?_
  | refine run_call1 rfl (iPkgText_ok p hs) rfl ?_
  | refine run_call1 rfl (iSumOf_ok (textM p) (by omega)) rfl ?_
  | refine run_need rfl ?_ ?_
  | (refine run_ret rfl ?_ ; first | refine rb ?_ | refine ri ?_ | refine rs2 ?_ ?_ | refine rs1 ?_)
  | refine run_retx rfl ?_)
 rfl

/-! The specification's text of a package. -/
theorem nmT_len (n v : Int) : (nmT n v).length = 2 := rfl
theorem sz1 (b : UInt8) : (⟨#[b]⟩ : ByteArray).size = 1 := rfl
theorem flatT_len {α : Type} (f : α → List UInt8) (n : Nat) (hf : ∀ x, (f x).length = n) : ∀ xs : List α, (xs.flatMap f).length = n * xs.length
 | [] => by simp
 | x :: r => by
  have := flatT_len f n hf r
  simp [hf, this, Nat.mul_add, Nat.add_comm]
theorem takeT {α : Type} [Inhabited α] (f : α → List UInt8) (xs : List α) {i : Int} (h0 : 0 ≤ i) (h1 : i < xs.length) : (xs.take (i + 1).toNat).flatMap f = (xs.take i.toNat).flatMap f ++ f (ix xs i) := by
 rw [take_ix xs h0 h1]
 simp
theorem fT_step (acc : List UInt8) (f : P2) : bA acc ++ ⟨#[32]⟩ ++ bA [u8 (48 + f.a)] ++ ⟨#[58]⟩ ++ bA [u8 (48 + f.b)] = bA (acc ++ fT f) := by
 show bA acc ++ bA [32] ++ bA [u8 (48 + f.a)] ++ bA [58] ++ bA [u8 (48 + f.b)] = _
 simp only [bA_app, List.append_assoc]
 rfl
theorem dT_step (acc : List UInt8) (f : P2) : bA acc ++ ⟨#[32]⟩ ++ bA (nmT f.a f.b) = bA (acc ++ dT f) := by
 show bA acc ++ bA [32] ++ bA (nmT f.a f.b) = _
 simp only [bA_app, List.append_assoc]
 rfl
theorem sPkgText_ok (p : Pk) (hs : SmP p) : FunOk PP W n_s_PkgText s_s_PkgText [ePk p] [sT (textM p)] := by
 refine F_s_PkgText (run_fun ?_)
 (repeat' first
  | (refine run_ite rfl (fun h => ?_) (fun h => ?_) <;> (try simp (disch := omega) only [zB, eqDs, eqD, Nat.reduceAdd, wrap64] at h) <;> (try (exfalso; omega)))
  | refine run_nd rfl ?_
  | refine run_nn rfl ?_
  | refine run_call1 rfl (sPkgOk_ok p hs) rfl ?_
  | refine run_need rfl ?_ ?_
  | (refine run_ret rfl ?_ ; first | refine rb ?_ | refine ri ?_ | refine rs2 ?_ ?_ | refine rs1 ?_)
  | refine run_retx rfl ?_)
 ·rw [textM, if_neg h]
  rfl
 have h1 : (p.files.length : Int) ≤ 2 := h.2.2.1.2
 have h2 : (p.deps.length : Int) ≤ 2 := h.2.2.2.2
 have hT : textM p = nmT p.name p.ver ++ p.files.flatMap fT ++ p.deps.flatMap dT := by rw [textM, if_pos h]
 rw [hT]
 have hF := h.2.2.1.1
 have hD := h.2.2.2.1
 have hn : (nmT p.name p.ver).length = 2 := rfl
 have hfl := flatT_len fT 4 (fun _ => rfl) p.files
 (repeat' first
  | (refine run_ite rfl (fun h => ?_) (fun h => ?_) <;> (try simp (disch := omega) only [zB, eqDs, eqD, Nat.reduceAdd, wrap64] at h) <;> (try (exfalso; omega)))
  | refine run_nd rfl ?_
  | refine run_nn rfl ?_
  | refine run_call1 rfl (l1Name_ok p.name p.ver h.1 h.2.1) rfl ?_
  | refine run_need rfl ?_ ?_
  | (refine run_ret rfl ?_ ; first | refine rb ?_ | refine ri ?_ | refine rs2 ?_ ?_ | refine rs1 ?_)
  | refine run_retx rfl ?_)
 refine run_loop rfl (fun i : Int => 0 ≤ i ∧ i ≤ p.files.length) (fun i => [(4, .val (i64 i)), (3, .val (sT (nmT p.name p.ver ++ (p.files.take i.toNat).flatMap fT))), (1, .val (ePk p))]) (fun i => (p.files.length - i).toNat) 0 ⟨by omega, by omega⟩ ⟨rfl, rfl, rfl, trivial⟩ rfl ?_
 rintro i e ⟨h0, hN⟩
 by_cases hi : i < p.files.length
 ·obtain ⟨fa, fb, _⟩ := hF i h0 hi
  have hl : (nmT p.name p.ver ++ (p.files.take i.toNat).flatMap fT).length ≤ 10 := by
   rw [List.length_append, flatT_len fT 4 (fun _ => rfl), List.length_take]
   omega
  (repeat' first
  | (refine run_ite rfl (fun h => ?_) (fun h => ?_) <;> (try simp (disch := omega) only [zB, eqDs, eqD, Nat.reduceAdd, wrap64] at h) <;> (try (exfalso; omega)))
  | refine run_nd rfl ?_
  | refine run_nn rfl ?_
  | refine run_call1 rfl (l6Dec_ok _ (by simp only [zB, eqDs, eqD, Nat.reduceAdd]; omega)) rfl ?_
  | (refine run_need rfl (by simp only [ByteArray.size_append, bA_size, sz1, List.length_cons, List.length_nil]; unfold lim; omega) ?_)
  | (refine run_next rfl (Exists.intro (i + 1) ⟨by omega, ⟨by omega, by omega⟩, i64_eq (wrap64 _ (by omega)), ?_, rfl, trivial⟩))
  | refine run_need rfl ?_ ?_
  | (refine run_ret rfl ?_ ; first | refine rb ?_ | refine ri ?_ | refine rs2 ?_ ?_ | refine rs1 ?_)
  | refine run_retx rfl ?_)
  have hx : (⟨cI (p.files.map eP2) i 0, cI (p.files.map eP2) i 1⟩ : P2) = ix p.files i := by rw [cI_P2_0, cI_P2_1]
  exact sT_eq ((fT_step (nmT p.name p.ver ++ (p.files.take i.toNat).flatMap fT) ⟨cI (p.files.map eP2) i 0, cI (p.files.map eP2) i 1⟩).trans (by rw [hx, takeT fT p.files h0 hi, List.append_assoc]))
 ·have ht : p.files.take i.toNat = p.files := List.take_of_length_le (by omega)
  rw [ht]
  (repeat' first
  | (refine run_ite rfl (fun h => ?_) (fun h => ?_) <;> (try simp (disch := omega) only [zB, eqDs, eqD, Nat.reduceAdd, wrap64] at h) <;> (try (exfalso; omega)))
  | refine run_nd rfl ?_
  | refine run_nn rfl ?_
  | refine run_need rfl ?_ ?_
  | (refine run_ret rfl ?_ ; first | refine rb ?_ | refine ri ?_ | refine rs2 ?_ ?_ | refine rs1 ?_)
  | refine run_retx rfl ?_)
  refine run_loop rfl (fun i : Int => 0 ≤ i ∧ i ≤ p.deps.length) (fun i => [(5, .val (i64 i)), (3, .val (sT (nmT p.name p.ver ++ p.files.flatMap fT ++ (p.deps.take i.toNat).flatMap dT))), (1, .val (ePk p))]) (fun i => (p.deps.length - i).toNat) 0 ⟨by omega, by omega⟩ ⟨rfl, sT_eq (by simp), rfl, trivial⟩ rfl ?_
  rintro k e ⟨k0, kN⟩
  by_cases hk : k < p.deps.length
  ·obtain ⟨fa, _, fb, _⟩ := hD k k0 hk
   have hl : (nmT p.name p.ver ++ p.files.flatMap fT ++ (p.deps.take k.toNat).flatMap dT).length ≤ 16 := by
    rw [List.length_append, List.length_append, flatT_len dT 3 (fun _ => rfl), List.length_take, hfl]
    omega
   have hn2 : (nmT (ix p.deps k).a (ix p.deps k).b).length = 2 := rfl
   (repeat' first
  | (refine run_ite rfl (fun h => ?_) (fun h => ?_) <;> (try simp (disch := omega) only [zB, eqDs, eqD, Nat.reduceAdd, wrap64] at h) <;> (try (exfalso; omega)))
  | refine run_nd rfl ?_
  | refine run_nn rfl ?_
  | refine run_call1 rfl (l1Name_ok _ _ (by simp only [zB, eqDs, eqD, Nat.reduceAdd]; exact fa) (by simp only [zB, eqDs, eqD, Nat.reduceAdd]; exact fb)) rfl ?_
  | (refine run_need rfl (by simp only [ByteArray.size_append, bA_size, sz1, nmT_len]; unfold lim; omega) ?_)
  | (refine run_next rfl (Exists.intro (k + 1) ⟨by omega, ⟨by omega, by omega⟩, i64_eq (wrap64 _ (by omega)), ?_, rfl, trivial⟩))
  | refine run_need rfl ?_ ?_
  | (refine run_ret rfl ?_ ; first | refine rb ?_ | refine ri ?_ | refine rs2 ?_ ?_ | refine rs1 ?_)
  | refine run_retx rfl ?_)
   have hx : (⟨cI (p.deps.map eP2) k 0, cI (p.deps.map eP2) k 1⟩ : P2) = ix p.deps k := by rw [cI_P2_0, cI_P2_1]
   exact sT_eq ((dT_step (nmT p.name p.ver ++ p.files.flatMap fT ++ (p.deps.take k.toNat).flatMap dT) ⟨cI (p.deps.map eP2) k 0, cI (p.deps.map eP2) k 1⟩).trans (by rw [hx, takeT dT p.deps k0 hk]; simp only [List.append_assoc]))
  ·have ht : p.deps.take k.toNat = p.deps := List.take_of_length_le (by omega)
   rw [ht]
   (repeat' first
  | (refine run_ite rfl (fun h => ?_) (fun h => ?_) <;> (try simp (disch := omega) only [zB, eqDs, eqD, Nat.reduceAdd, wrap64] at h) <;> (try (exfalso; omega)))
  | refine run_nd rfl ?_
  | refine run_nn rfl ?_
  | refine run_need rfl ?_ ?_
  | (refine run_ret rfl ?_ ; first | refine rb ?_ | refine ri ?_ | refine rs2 ?_ ?_ | refine rs1 ?_)
  | refine run_retx rfl ?_)
   rfl
end V
end Go.Proofs.YtnaldhcdcpdbnaaGreatDoor

/-
Plain proofs: what an index tells; trust.
-/
namespace Go.Proofs.YtnaldhcdcpdbnaaGreatDoor
namespace V
open Classical
set_option maxRecDepth 100000
variable {W : Wld}

theorem mt_ext {p q : Mt} (h1 : p.name = q.name) (h2 : p.ver = q.ver) (h3 : p.sum = q.sum) : p = q := by cases p; cases q; simp_all
theorem eqMt_ok (a b : List Mt) (ha : a.length ≤ lim) : FunOk PP W n_sl_Equal_Meta s_sl_Equal_Meta [eMts a, eMts b] [bo (decide (a = b))] := by
 refine F_sl_Equal_Meta (run_fun ?_)
 unfold lim at ha
 (repeat' first
  | (refine run_ite rfl (fun h => ?_) (fun h => ?_) <;> (try simp (disch := omega) only [zB, eqDs, eqD, Nat.reduceAdd, wrap64] at h) <;> (try (exfalso; omega)))
  | refine run_nd rfl ?_
  | refine run_nn rfl ?_
  | refine run_need rfl ?_ ?_
  | (refine run_ret rfl ?_ ; first | refine rb ?_ | refine ri ?_ | refine rs2 ?_ ?_ | refine rs1 ?_)
  | refine run_retx rfl ?_)
 ·exact fD (fun h' => by simp_all)
 have hn : a.length = b.length := by omega
 clear h
 refine run_loop rfl (fun i : Int => 0 ≤ i ∧ i ≤ a.length ∧ Blw i (fun j => ix a j = ix b j)) (fun i => [(13, .val (i64 i)), (0, .val (eMts a)), (1, .val (eMts b)), (12, .val (i64 (a.map eMt).length))]) (fun i => (a.length - i).toNat) 0 ⟨by omega, by omega, blw_zero _⟩ ⟨rfl, rfl, rfl, rfl, trivial⟩ rfl ?_
 rintro i e ⟨h0, hN, hP⟩
 (repeat' first
  | (refine run_ite rfl (fun h => ?_) (fun h => ?_) <;> (try simp (disch := omega) only [zB, eqDs, eqD, Nat.reduceAdd, wrap64] at h) <;> (try (exfalso; omega)))
  | refine run_nd rfl ?_
  | refine run_nn rfl ?_
  | (refine run_next rfl (Exists.intro (i + 1) ⟨by omega, ⟨by omega, by omega, blw_succ hP ?_⟩, i64_eq (wrap64 _ (by omega)), rfl, rfl, rfl, trivial⟩))
  | refine run_need rfl ?_ ?_
  | (refine run_ret rfl ?_ ; first | refine rb ?_ | refine ri ?_ | refine rs2 ?_ ?_ | refine rs1 ?_)
  | refine run_retx rfl ?_)
 ·exact fD (fun h' => by subst h'; exact h rfl rfl rfl)
 ·exact mt_ext h.1 h.2.1 h.2.2
 ·exact tD (ix_ext hn (blw_to hP (by omega)))
theorem idxMt_ok (l : List Mt) (m : Mt) (hl : l.length ≤ lim) : FunOk PP W n_sl_Index_Meta s_sl_Index_Meta [eMts l, eMt m] [i64 (idxF (fun y => y = m) l l.length 0)] := by
 refine F_sl_Index_Meta (run_fun ?_)
 unfold lim at hl
 refine run_loop rfl (fun i : Int => 0 ≤ i ∧ i ≤ l.length ∧ idxF (fun y => y = m) l l.length 0 = idxF (fun y => y = m) l (l.length - i).toNat i) (fun i => [(8, .val (i64 i)), (0, .val (eMts l)), (3, .val (eMt m)), (7, .val (i64 (l.map eMt).length))]) (fun i => (l.length - i).toNat) 0 ⟨by omega, by omega, by simp⟩ ⟨rfl, rfl, rfl, rfl, trivial⟩ rfl ?_
 rintro i e ⟨h0, hN, hP⟩
 (repeat' first
  | (refine run_ite rfl (fun h => ?_) (fun h => ?_) <;> (try simp (disch := omega) only [zB, eqDs, eqD, Nat.reduceAdd, wrap64] at h) <;> (try (exfalso; omega)))
  | refine run_nd rfl ?_
  | refine run_nn rfl ?_
  | (refine run_next rfl (Exists.intro (i + 1) ⟨by omega, ⟨by omega, by omega, ?_⟩, i64_eq (wrap64 _ (by omega)), rfl, rfl, rfl, trivial⟩))
  | refine run_need rfl ?_ ?_
  | (refine run_ret rfl ?_ ; first | refine rb ?_ | refine ri ?_ | refine rs2 ?_ ?_ | refine rs1 ?_)
  | refine run_retx rfl ?_)
 ·rw [hP, show ((l.length : Int) - i).toNat = ((l.length : Int) - (i + 1)).toNat + 1 by omega, idxF, if_pos (mt_ext h.1.symm h.2.1.symm h.2.2.symm)]
 ·rw [hP, show ((l.length : Int) - i).toNat = ((l.length : Int) - (i + 1)).toNat + 1 by omega, idxF, if_neg (fun h' => by subst h'; exact h rfl rfl rfl)]
 ·rw [hP, show ((l.length : Int) - i).toNat = 0 by omega, idxF]
theorem conMt_ok (l : List Mt) (m : Mt) (hl : l.length ≤ lim) : FunOk PP W n_sl_Contains_Meta s_sl_Contains_Meta [eMts l, eMt m] [bo (decide (m ∈ l))] := by
 refine F_sl_Contains_Meta (run_fun ?_)
 (repeat' first
  | (refine run_ite rfl (fun h => ?_) (fun h => ?_) <;> (try simp (disch := omega) only [zB, eqDs, eqD, Nat.reduceAdd, wrap64] at h) <;> (try (exfalso; omega)))
  | refine run_nd rfl ?_
  | refine run_nn rfl ?_
  | refine run_call1 rfl (idxMt_ok l m hl) rfl ?_
  | refine run_need rfl ?_ ?_
  | (refine run_ret rfl ?_ ; first | refine rb ?_ | refine ri ?_ | refine rs2 ?_ ?_ | refine rs1 ?_)
  | refine run_retx rfl ?_)
 simp only [z19]
 congr 1
 rw [eq_iff_iff, idxF_mem]
 exact ⟨fun ⟨y, h1, h2⟩ => h2 ▸ h1, fun h => ⟨m, h, rfl⟩⟩

theorem sIndexOk_ok (x : Ix) (hl : x.ms.length ≤ lim) : FunOk PP W n_s_IndexOk s_s_IndexOk [eIx x] [bo (decide (IxM x))] := by
 refine F_s_IndexOk (run_fun ?_)
 unfold lim at hl
 (repeat' first
  | (refine run_ite rfl (fun h => ?_) (fun h => ?_) <;> (try simp (disch := omega) only [zB, eqDs, eqD, Nat.reduceAdd, wrap64] at h) <;> (try (exfalso; omega)))
  | refine run_nd rfl ?_
  | refine run_nn rfl ?_
  | refine run_call1 rfl (l6In_ok ..) rfl ?_
  | refine run_need rfl ?_ ?_
  | (refine run_ret rfl ?_ ; first | refine rb ?_ | refine ri ?_ | refine rs2 ?_ ?_ | refine rs1 ?_)
  | refine run_retx rfl ?_)
 ·exact fD (p := IxM x) (fun h' => h h'.1)
 ·exact fD (p := IxM x) (fun h' => h h'.2.1)
 ·exact fD (p := IxM x) (fun h' => by have := h'.2.2.1; omega)
 rename_i q1 q2
 refine run_loop rfl (fun i : Int => 0 ≤ i ∧ i ≤ x.ms.length ∧ Blw i (MtAt x.ms)) (fun i => [(3, .val (i64 i)), (1, .val (eIx x))]) (fun i => (x.ms.length - i).toNat) 0 ⟨by omega, by omega, blw_zero _⟩ ⟨rfl, rfl, trivial⟩ rfl ?_
 rintro i e ⟨h0, hN, hP⟩
 (repeat' first
  | (refine run_ite rfl (fun h => ?_) (fun h => ?_) <;> (try simp (disch := omega) only [zB, eqDs, eqD, Nat.reduceAdd, wrap64] at h) <;> (try (exfalso; omega)))
  | refine run_nd rfl ?_
  | refine run_nn rfl ?_
  | refine run_call1 rfl (l6In_ok ..) rfl ?_
  | refine run_call1 rfl (l3Less_ok ..) rfl ?_
  | (refine run_next rfl (Exists.intro (i + 1) ⟨by omega, ⟨by omega, by omega, blw_succ hP (by unfold MtAt; omega)⟩, i64_eq (wrap64 _ (by omega)), rfl, trivial⟩))
  | refine run_need rfl ?_ ?_
  | (refine run_ret rfl ?_ ; first | refine rb ?_ | refine ri ?_ | refine rs2 ?_ ?_ | refine rs1 ?_)
  | refine run_retx rfl ?_)
 all_goals first
  | exact tD (p := IxM x) ⟨q1, q2, by omega, blw_to hP (by omega)⟩
  | exact fD (p := IxM x) (fun h' => by have := h'.2.2.2 i (by omega) (by omega); unfold MtAt at this; omega)
theorem iIndexOk_ok (x : Ix) (hl : x.ms.length ≤ lim) : FunOk PP W n_i_IndexOk s_i_IndexOk [eIx x] [bo (decide (IxM x))] := by
 refine F_i_IndexOk (run_fun ?_)
 unfold lim at hl
 refine run_loop rfl (fun i : Int => 0 ≤ i ∧ i ≤ x.ms.length ∧ Blw i (MtAt x.ms)) (fun i => [(8, .val (i64 i)), (1, .val (eIx x)), (6, .val (eMts x.ms)), (7, .val (i64 (x.ms.map eMt).length))]) (fun i => (x.ms.length - i).toNat) 0 ⟨by omega, by omega, blw_zero _⟩ ⟨rfl, rfl, rfl, rfl, trivial⟩ rfl ?_
 rintro i e ⟨h0, hN, hP⟩
 (repeat' first
  | (refine run_ite rfl (fun h => ?_) (fun h => ?_) <;> (try simp (disch := omega) only [zB, eqDs, eqD, Nat.reduceAdd, wrap64] at h) <;> (try (exfalso; omega)))
  | refine run_nd rfl ?_
  | refine run_nn rfl ?_
  | refine run_call1 rfl (in_ok ..) rfl ?_
  | refine run_call1 rfl (isName_ok ..) rfl ?_
  | refine run_call1 rfl (isVer_ok ..) rfl ?_
  | (refine run_next rfl (Exists.intro (i + 1) ⟨by omega, ⟨by omega, by omega, blw_succ hP (by unfold MtAt; omega)⟩, i64_eq (wrap64 _ (by omega)), rfl, rfl, rfl, trivial⟩))
  | refine run_need rfl ?_ ?_
  | (refine run_ret rfl ?_ ; first | refine rb ?_ | refine ri ?_ | refine rs2 ?_ ?_ | refine rs1 ?_)
  | refine run_retx rfl ?_)
 all_goals first
  | exact fD (p := IxM x) (fun h' => by have := h'.2.2.2 i (by omega) (by omega); unfold MtAt at this; omega)
  | (refine dI (p := IxM x) ?_; simp only [List.length_map, decide_eq_true_eq]; exact ⟨fun h' => ⟨by assumption, by assumption, h', blw_to hP (by omega)⟩, fun h' => h'.2.2.1⟩)
  | exact fD (p := IxM x) (fun h' => absurd h'.2.1 (by assumption))
  | exact fD (p := IxM x) (fun h' => absurd h'.1 (by assumption))
theorem ixSame_ok (x : Ix) (hl : x.ms.length ≤ lim) : FunOk PP W n_i_Index_same s_i_Index_same [eIx x, eIx ixZ] [bo (decide (x.num = 0 ∧ x.till = 0 ∧ x.ms = []))] := by
 refine F_i_Index_same (run_fun ?_)
 (repeat' first
  | (refine run_ite rfl (fun h => ?_) (fun h => ?_) <;> (try simp (disch := omega) only [zB, eqDs, eqD, Nat.reduceAdd, wrap64] at h) <;> (try (exfalso; omega)))
  | refine run_nd rfl ?_
  | refine run_nn rfl ?_
  | refine run_call1 rfl (eqMt_ok x.ms [] hl) rfl ?_
  | refine run_need rfl ?_ ?_
  | (refine run_ret rfl ?_ ; first | refine rb ?_ | refine ri ?_ | refine rs2 ?_ ?_ | refine rs1 ?_)
  | refine run_retx rfl ?_)
 all_goals simp_all [ixZ]
theorem sTrustOk_ok (t : Tu) (hk : t.r.keys.length ≤ lim) (hl : t.x.ms.length ≤ lim) : FunOk PP W n_s_TrustOk s_s_TrustOk [eTu t] [bo (decide (TuM t))] := by
 refine F_s_TrustOk (run_fun ?_)
 (repeat' first
  | (refine run_ite rfl (fun h => ?_) (fun h => ?_) <;> (try simp (disch := omega) only [zB, eqDs, eqD, Nat.reduceAdd, wrap64] at h) <;> (try (exfalso; omega)))
  | refine run_nd rfl ?_
  | refine run_nn rfl ?_
  | refine run_call1 rfl (sRootOk_ok t.r hk) rfl ?_
  | refine run_call1 rfl (sIndexOk_ok t.x hl) rfl ?_
  | refine run_need rfl ?_ ?_
  | (refine run_ret rfl ?_ ; first | refine rb ?_ | refine ri ?_ | refine rs2 ?_ ?_ | refine rs1 ?_)
  | refine run_retx rfl ?_)
 ·exact fD (p := TuM t) (fun h' => h h'.1)
 ·refine dI (p := TuM t) ?_
  unfold TuM
  rw [if_pos h, decide_eq_true_eq]
  exact ⟨fun h' => ⟨by assumption, h'⟩, fun h' => h'.2⟩
 ·rename_i q1 q2 q3
  refine dI (p := TuM t) ?_
  unfold TuM
  rw [if_neg (by rw [q2]; simp)]
  simp only [List.length_map, beq_iff_eq]
  exact ⟨fun h' => ⟨q1, q3, h, List.length_eq_zero_iff.1 (by omega)⟩, fun h' => by rw [h'.2.2.2]; rfl⟩
 ·rename_i q1 q2 q3
  exact fD (p := TuM t) (fun h' => by unfold TuM at h'; rw [if_neg (by rw [q2]; simp)] at h'; exact h h'.2.2.1)
 ·rename_i q1 q2
  exact fD (p := TuM t) (fun h' => by unfold TuM at h'; rw [if_neg (by rw [q2]; simp)] at h'; exact h h'.2.1)
theorem iTrustOk_ok (t : Tu) (hk : t.r.keys.length ≤ lim) (hl : t.x.ms.length ≤ lim) : FunOk PP W n_i_TrustOk s_i_TrustOk [eTu t] [bo (decide (TuM t))] := by
 refine F_i_TrustOk (run_fun ?_)
 (repeat' first
  | (refine run_ite rfl (fun h => ?_) (fun h => ?_) <;> (try simp (disch := omega) only [zB, eqDs, eqD, Nat.reduceAdd, wrap64] at h) <;> (try (exfalso; omega)))
  | refine run_nd rfl ?_
  | refine run_nn rfl ?_
  | refine run_call1 rfl (iRootOk_ok t.r hk) rfl ?_
  | refine run_call1 rfl (iIndexOk_ok t.x hl) rfl ?_
  | refine run_call1 rfl (ixSame_ok t.x hl) rfl ?_
  | refine run_need rfl ?_ ?_
  | (refine run_ret rfl ?_ ; first | refine rb ?_ | refine ri ?_ | refine rs2 ?_ ?_ | refine rs1 ?_)
  | refine run_retx rfl ?_)
 ·exact fD (p := TuM t) (fun h' => h h'.1)
 ·refine dI (p := TuM t) ?_
  unfold TuM
  rw [if_pos h, decide_eq_true_eq]
  exact ⟨fun h' => ⟨by assumption, h'⟩, fun h' => h'.2⟩
 ·refine dI (p := TuM t) ?_
  unfold TuM
  rw [if_neg (by rw [h]; simp), decide_eq_true_eq]
  exact ⟨fun h' => ⟨by assumption, h'⟩, fun h' => h'.2⟩

/-! What lacks, and what is kept. -/
noncomputable def keptL (t : Tu) (s : List Pk) : List Pk := if t.has = true then s.filter (fun p => decide (mtOf p ∈ t.x.ms)) else []
noncomputable def trimM (t : Tu) (s : List Pk) : List Pk := if TuM t ∧ PksOk s then keptL t s else []
theorem filt_take {α : Type} [Inhabited α] (P : α → Bool) (l : List α) {i : Int} (h0 : 0 ≤ i) (h1 : i < l.length) : (l.take (i + 1).toNat).filter P = (l.take i.toNat).filter P ++ if P (ix l i) = true then [ix l i] else [] := by
 rw [take_ix l h0 h1, List.filter_append]
 congr 1
 by_cases h : P (ix l i) = true <;> simp [h]
end V
end Go.Proofs.YtnaldhcdcpdbnaaGreatDoor

/-
Plain proofs: what an index tells and trust, copied, measured, compared, marked.
-/
namespace Go.Proofs.YtnaldhcdcpdbnaaGreatDoor
namespace V
open Classical
set_option maxRecDepth 100000
variable {W : Wld}

theorem mt_ext' {p q : Mt} (h1 : p.name = q.name) (h2 : p.ver = q.ver) (h3 : p.sum = q.sum) : p = q := by cases p; cases q; simp_all
theorem elsMt_0 {ys : List Mt} {i v : Int} (h0 : 0 ≤ i) (h2 : i < ys.length) : elsV (ys.map eMt) i 0 [.int .i64 v] = (ys.set i.toNat ⟨v, (ix ys i).ver, (ix ys i).sum⟩).map eMt := elsV_gx h0 h2 rfl
theorem elsMt_1 {ys : List Mt} {i v : Int} (h0 : 0 ≤ i) (h2 : i < ys.length) : elsV (ys.map eMt) i 1 [.int .i64 v] = (ys.set i.toNat ⟨(ix ys i).name, v, (ix ys i).sum⟩).map eMt := elsV_gx h0 h2 rfl
theorem elsMt_2 {ys : List Mt} {i v : Int} (h0 : 0 ≤ i) (h2 : i < ys.length) : elsV (ys.map eMt) i 2 [.int .i64 v] = (ys.set i.toNat ⟨(ix ys i).name, (ix ys i).ver, v⟩).map eMt := elsV_gx h0 h2 rfl
theorem elsMt_a {ys : List Mt} {i v u t : Int} (h0 : 0 ≤ i) (h2 : i < ys.length) : elsV (ys.map eMt) i 0 [.int .i64 v, .int .i64 u, .int .i64 t] = (ys.set i.toNat ⟨v, u, t⟩).map eMt := elsV_gx h0 h2 rfl
theorem toMeta_X (m : Mt) : FunOk PP W n_l_toMeta s_l_toMeta_X [eMt m] [eMt m] := by
 refine F_l_toMeta_X (run_fun ?_)
 (repeat' first
  | (refine run_ite rfl (fun h => ?_) (fun h => ?_) <;> (try simp (disch := omega) only [zB, eqDs, eqD, Nat.reduceAdd, wrap64] at h) <;> (try (exfalso; omega)))
  | refine run_nd rfl ?_
  | refine run_nn rfl ?_
  | refine run_need rfl ?_ ?_
  | (refine run_ret rfl ?_ ; first | refine rb ?_ | refine ri ?_ | refine rs2 ?_ ?_ | refine rs1 ?_)
  | refine run_retx rfl ?_)
 rfl
theorem toMetaS_X (l : List Mt) (hl : l.length ≤ lim) : FunOk PP W n_l_toMetaS s_l_toMetaS_X [eMts l] [eMts l] := by
 refine F_l_toMetaS_X (run_fun ?_)
 unfold lim at hl
 (repeat' first
  | (refine run_ite rfl (fun h => ?_) (fun h => ?_) <;> (try simp (disch := omega) only [zB, eqDs, eqD, Nat.reduceAdd, wrap64] at h) <;> (try (exfalso; omega)))
  | refine run_nd rfl ?_
  | refine run_nn rfl ?_
  | refine run_need rfl ?_ ?_
  | (refine run_ret rfl ?_ ; first | refine rb ?_ | refine ri ?_ | refine rs2 ?_ ?_ | refine rs1 ?_)
  | refine run_retx rfl ?_)
 ·simp [lim]; omega
 refine run_loop rfl (fun x : Int × List Mt => 0 ≤ x.1 ∧ x.1 ≤ l.length ∧ x.2.length = l.length ∧ Blw x.1 (fun j => ix x.2 j = ix l j)) (fun x => [(4, .val (i64 x.1)), (3, .val (eMts x.2)), (0, .val (eMts l))]) (fun x => (l.length - x.1).toNat) (0, List.replicate l.length ⟨0, 0, 0⟩) ⟨by omega, by simp, by simp, blw_zero _⟩ ⟨rfl, sl_eq (by simp), rfl, trivial⟩ rfl ?_
 rintro ⟨i, ys⟩ e ⟨h0, hN, hy, hP⟩
 dsimp only at h0 hN hy hP ⊢
 (repeat' first
  | (refine run_ite rfl (fun h => ?_) (fun h => ?_) <;> (try simp (disch := omega) only [zB, eqDs, eqD, Nat.reduceAdd, wrap64] at h) <;> (try (exfalso; omega)))
  | refine run_nd rfl ?_
  | refine run_nn rfl ?_
  | refine run_cq rfl (toMeta_X (ix l i)) rfl ?_
  | (refine run_elsc rfl (els_gx (sz := 3) h0 (by omega) (by omega) (fun _ => rfl) (Nat.le_of_ble_eq_true rfl)) (sl_eq (elsMt_a h0 (by omega))) ?_)
  | (refine run_next rfl (Exists.intro (i + 1, ys.set i.toNat (ix l i)) ⟨by dsimp only; omega, ⟨by dsimp only; omega, by dsimp only; omega, by simpa using hy, blw_set h0 (by omega) hP⟩, i64_eq (wrap64 _ (by omega)), rfl, rfl, trivial⟩))
  | refine run_need rfl ?_ ?_
  | (refine run_ret rfl ?_ ; first | refine rb ?_ | refine ri ?_ | refine rs2 ?_ ?_ | refine rs1 ?_)
  | refine run_retx rfl ?_)
 ·exact sl_eq (by rw [ix_ext hy (blw_to hP (by omega))])
theorem toIndex_X (x : Ix) (hl : x.ms.length ≤ lim) : FunOk PP W n_l_toIndex s_l_toIndex_X [eIx x] [eIx x] := by
 refine F_l_toIndex_X (run_fun ?_)
 (repeat' first
  | (refine run_ite rfl (fun h => ?_) (fun h => ?_) <;> (try simp (disch := omega) only [zB, eqDs, eqD, Nat.reduceAdd, wrap64] at h) <;> (try (exfalso; omega)))
  | refine run_nd rfl ?_
  | refine run_nn rfl ?_
  | refine run_call1 rfl (toMetaS_X x.ms hl) rfl ?_
  | refine run_need rfl ?_ ?_
  | (refine run_ret rfl ?_ ; first | refine rb ?_ | refine ri ?_ | refine rs2 ?_ ?_ | refine rs1 ?_)
  | refine run_retx rfl ?_)
 rfl
theorem toTrust_X (t : Tu) (hk : t.r.keys.length ≤ lim) (hl : t.x.ms.length ≤ lim) : FunOk PP W n_l_toTrust s_l_toTrust_X [eTu t] [eTu t] := by
 refine F_l_toTrust_X (run_fun ?_)
 (repeat' first
  | (refine run_ite rfl (fun h => ?_) (fun h => ?_) <;> (try simp (disch := omega) only [zB, eqDs, eqD, Nat.reduceAdd, wrap64] at h) <;> (try (exfalso; omega)))
  | refine run_nd rfl ?_
  | refine run_nn rfl ?_
  | refine run_call1 rfl (toRoot_X t.r hk) rfl ?_
  | refine run_call1 rfl (toIndex_X t.x hl) rfl ?_
  | refine run_need rfl ?_ ?_
  | (refine run_ret rfl ?_ ; first | refine rb ?_ | refine ri ?_ | refine rs2 ?_ ?_ | refine rs1 ?_)
  | refine run_retx rfl ?_)
 rfl

theorem szMetaS_ok (l : List Mt) (left : Int) (h : 0 ≤ left ∧ left ≤ 1048576) (hb : (l.length : Int) ≤ mx) : FunOk PP W n_l_szMetaS s_l_szMetaS [eMts l, i64 left] [i64 (less left l.length)] := by
 refine F_l_szMetaS (run_fun ?_)
 unfold mx at hb
 (repeat' first
  | (refine run_ite rfl (fun h => ?_) (fun h => ?_) <;> (try simp (disch := omega) only [zB, eqDs, eqD, Nat.reduceAdd, wrap64] at h) <;> (try (exfalso; omega)))
  | refine run_nd rfl ?_
  | refine run_nn rfl ?_
  | refine run_need rfl ?_ ?_
  | (refine run_ret rfl ?_ ; first | refine rb ?_ | refine ri ?_ | refine rs2 ?_ ?_ | refine rs1 ?_)
  | refine run_retx rfl ?_)
 ·rw [less_lt (by omega)]
 ·rw [less_ge (by omega), List.length_map, wrap64 _ (by omega)]
theorem szIndex_ok (x : Ix) (left : Int) (h : 0 ≤ left ∧ left ≤ 1048576) (hb : (x.ms.length : Int) ≤ mx) : FunOk PP W n_l_szIndex s_l_szIndex [eIx x, i64 left] [i64 (less left x.ms.length)] := by
 refine F_l_szIndex (run_fun ?_)
 have f1 := szMetaS_ok (W := W) x.ms left h hb
 by_cases c1 : left < x.ms.length
 ·rw [less_lt c1] at f1 ⊢
  (repeat' first
  | (refine run_ite rfl (fun h => ?_) (fun h => ?_) <;> (try simp (disch := omega) only [zB, eqDs, eqD, Nat.reduceAdd, wrap64] at h) <;> (try (exfalso; omega)))
  | refine run_nd rfl ?_
  | refine run_nn rfl ?_
  | refine run_call1 rfl (f1) rfl ?_
  | refine run_need rfl ?_ ?_
  | (refine run_ret rfl ?_ ; first | refine rb ?_ | refine ri ?_ | refine rs2 ?_ ?_ | refine rs1 ?_)
  | refine run_retx rfl ?_)
  rfl
 ·rw [less_ge (by omega)] at f1 ⊢
  (repeat' first
  | (refine run_ite rfl (fun h => ?_) (fun h => ?_) <;> (try simp (disch := omega) only [zB, eqDs, eqD, Nat.reduceAdd, wrap64] at h) <;> (try (exfalso; omega)))
  | refine run_nd rfl ?_
  | refine run_nn rfl ?_
  | refine run_call1 rfl (f1) rfl ?_
  | refine run_need rfl ?_ ?_
  | (refine run_ret rfl ?_ ; first | refine rb ?_ | refine ri ?_ | refine rs2 ?_ ?_ | refine rs1 ?_)
  | refine run_retx rfl ?_)
  rfl
theorem szTrust_ok (t : Tu) (left : Int) (h : 0 ≤ left ∧ left ≤ 1048576) (h1 : (t.r.keys.length : Int) ≤ mx) (h2 : (t.x.ms.length : Int) ≤ mx) : FunOk PP W n_l_szTrust s_l_szTrust [eTu t, i64 left] [i64 (less left (t.r.keys.length + t.x.ms.length))] := by
 refine F_l_szTrust (run_fun ?_)
 have f1 := szRoot_ok (W := W) t.r left h h1
 by_cases c1 : left < t.r.keys.length
 ·rw [less_lt c1] at f1
  rw [less_lt (by omega)]
  (repeat' first
  | (refine run_ite rfl (fun h => ?_) (fun h => ?_) <;> (try simp (disch := omega) only [zB, eqDs, eqD, Nat.reduceAdd, wrap64] at h) <;> (try (exfalso; omega)))
  | refine run_nd rfl ?_
  | refine run_nn rfl ?_
  | refine run_call1 rfl (f1) rfl ?_
  | refine run_need rfl ?_ ?_
  | (refine run_ret rfl ?_ ; first | refine rb ?_ | refine ri ?_ | refine rs2 ?_ ?_ | refine rs1 ?_)
  | refine run_retx rfl ?_)
  rfl
 ·rw [less_ge (by omega)] at f1
  have f2 := szIndex_ok (W := W) t.x (left - t.r.keys.length) (by omega) h2
  by_cases c2 : left - t.r.keys.length < t.x.ms.length
  ·rw [less_lt c2] at f2
   rw [less_lt (by omega)]
   (repeat' first
  | (refine run_ite rfl (fun h => ?_) (fun h => ?_) <;> (try simp (disch := omega) only [zB, eqDs, eqD, Nat.reduceAdd, wrap64] at h) <;> (try (exfalso; omega)))
  | refine run_nd rfl ?_
  | refine run_nn rfl ?_
  | refine run_call1 rfl (f1) rfl ?_
  | refine run_call1 rfl (f2) rfl ?_
  | refine run_need rfl ?_ ?_
  | (refine run_ret rfl ?_ ; first | refine rb ?_ | refine ri ?_ | refine rs2 ?_ ?_ | refine rs1 ?_)
  | refine run_retx rfl ?_)
   rfl
  ·rw [less_ge (by omega)] at f2
   rw [less_ge (by omega)]
   (repeat' first
  | (refine run_ite rfl (fun h => ?_) (fun h => ?_) <;> (try simp (disch := omega) only [zB, eqDs, eqD, Nat.reduceAdd, wrap64] at h) <;> (try (exfalso; omega)))
  | refine run_nd rfl ?_
  | refine run_nn rfl ?_
  | refine run_call1 rfl (f1) rfl ?_
  | refine run_call1 rfl (f2) rfl ?_
  | refine run_need rfl ?_ ?_
  | (refine run_ret rfl ?_ ; first | refine rb ?_ | refine ri ?_ | refine rs2 ?_ ?_ | refine rs1 ?_)
  | refine run_retx rfl ?_)
   omega

theorem eqMeta_ok (p q : Mt) : FunOk PP W n_l_eqMeta s_l_eqMeta [eMt p, eMt q] [bo (decide (p = q))] := by
 refine F_l_eqMeta (run_fun ?_)
 (repeat' first
  | (refine run_ite rfl (fun h => ?_) (fun h => ?_) <;> (try simp (disch := omega) only [zB, eqDs, eqD, Nat.reduceAdd, wrap64] at h) <;> (try (exfalso; omega)))
  | refine run_nd rfl ?_
  | refine run_nn rfl ?_
  | refine run_need rfl ?_ ?_
  | (refine run_ret rfl ?_ ; first | refine rb ?_ | refine ri ?_ | refine rs2 ?_ ?_ | refine rs1 ?_)
  | refine run_retx rfl ?_)
 ·exact fD (fun h' => by simp_all)
 ·exact fD (fun h' => by simp_all)
 ·exact fD (fun h' => by simp_all)
 ·exact tD (mt_ext' (by assumption) (by assumption) (by assumption))
theorem eqMetaS_ok (a b : List Mt) (ha : a.length ≤ lim) : FunOk PP W n_l_eqMetaS s_l_eqMetaS [eMts a, eMts b] [bo (decide (a = b))] := by
 refine F_l_eqMetaS (run_fun ?_)
 unfold lim at ha
 (repeat' first
  | (refine run_ite rfl (fun h => ?_) (fun h => ?_) <;> (try simp (disch := omega) only [zB, eqDs, eqD, Nat.reduceAdd, wrap64] at h) <;> (try (exfalso; omega)))
  | refine run_nd rfl ?_
  | refine run_nn rfl ?_
  | refine run_need rfl ?_ ?_
  | (refine run_ret rfl ?_ ; first | refine rb ?_ | refine ri ?_ | refine rs2 ?_ ?_ | refine rs1 ?_)
  | refine run_retx rfl ?_)
 ·exact fD (fun h' => by simp_all)
 have hn : a.length = b.length := by omega
 clear h
 refine run_loop rfl (fun i : Int => 0 ≤ i ∧ i ≤ a.length ∧ Blw i (fun j => ix a j = ix b j)) (fun i => [(5, .val (i64 i)), (0, .val (eMts a)), (1, .val (eMts b))]) (fun i => (a.length - i).toNat) 0 ⟨by omega, by omega, blw_zero _⟩ ⟨rfl, rfl, rfl, trivial⟩ rfl ?_
 rintro i e ⟨h0, hN, hP⟩
 (repeat' first
  | (refine run_ite rfl (fun h => ?_) (fun h => ?_) <;> (try simp (disch := omega) only [zB, eqDs, eqD, Nat.reduceAdd, wrap64] at h) <;> (try (exfalso; omega)))
  | refine run_nd rfl ?_
  | refine run_nn rfl ?_
  | refine run_cq rfl (eqMeta_ok (ix a i) (ix b i)) rfl ?_
  | (refine run_next rfl (Exists.intro (i + 1) ⟨by omega, ⟨by omega, by omega, blw_succ hP (by assumption)⟩, i64_eq (wrap64 _ (by omega)), rfl, rfl, trivial⟩))
  | refine run_need rfl ?_ ?_
  | (refine run_ret rfl ?_ ; first | refine rb ?_ | refine ri ?_ | refine rs2 ?_ ?_ | refine rs1 ?_)
  | refine run_retx rfl ?_)
 ·exact fD (fun h' => by subst h'; exact absurd rfl (by assumption))
 ·exact tD (ix_ext hn (blw_to hP (by omega)))
theorem eqIndex_self (x : Ix) (hl : x.ms.length ≤ lim) : FunOk PP W n_l_eqIndex s_l_eqIndex [eIx x, eIx x] [bo true] := by
 refine F_l_eqIndex (run_fun ?_)
 have f : FunOk PP W n_l_eqMetaS s_l_eqMetaS [eMts x.ms, eMts x.ms] [bo true] := by simpa using eqMetaS_ok (W := W) x.ms x.ms hl
 (repeat' first
  | (refine run_ite rfl (fun h => ?_) (fun h => ?_) <;> (try simp (disch := omega) only [zB, eqDs, eqD, Nat.reduceAdd, wrap64] at h) <;> (try (exfalso; omega)))
  | refine run_nd rfl ?_
  | refine run_nn rfl ?_
  | refine run_call1 rfl (f) rfl ?_
  | refine run_need rfl ?_ ?_
  | (refine run_ret rfl ?_ ; first | refine rb ?_ | refine ri ?_ | refine rs2 ?_ ?_ | refine rs1 ?_)
  | refine run_retx rfl ?_)
 all_goals first | rfl | exact absurd trivial (by assumption)
theorem eqTu_self (t : Tu) (hk : t.r.keys.length ≤ lim) (hl : t.x.ms.length ≤ lim) : FunOk PP W n_l_eqTrust s_l_eqTrust [eTu t, eTu t] [bo true] := by
 refine F_l_eqTrust (run_fun ?_)
 (repeat' first
  | (refine run_ite rfl (fun h => ?_) (fun h => ?_) <;> (try simp (disch := omega) only [zB, eqDs, eqD, Nat.reduceAdd, wrap64] at h) <;> (try (exfalso; omega)))
  | refine run_nd rfl ?_
  | refine run_nn rfl ?_
  | refine run_call1 rfl (eqRoot_self t.r hk) rfl ?_
  | refine run_call1 rfl (eqIndex_self t.x hl) rfl ?_
  | refine run_need rfl ?_ ?_
  | (refine run_ret rfl ?_ ; first | refine rb ?_ | refine ri ?_ | refine rs2 ?_ ?_ | refine rs1 ?_)
  | refine run_retx rfl ?_)
 all_goals first | rfl | exact absurd trivial (by assumption)

/-! What is marked. -/
def markMt (l : List Mt) (k : Int) : List Mt := (List.range l.length).map fun (j : Nat) => ⟨k + 3 * (j : Int), k + 3 * (j : Int) + 1, k + 3 * (j : Int) + 2⟩
theorem markMt_len (l : List Mt) (k : Int) : (markMt l k).length = l.length := by simp [markMt]
theorem markMt_ix (l : List Mt) (k : Int) {i : Int} (h0 : 0 ≤ i) (h1 : i < l.length) : ix (markMt l k) i = ⟨k + 3 * i, k + 3 * i + 1, k + 3 * i + 2⟩ := by
 unfold markMt
 rw [ix_range h0 h1]
 simp only [show ((i.toNat : Nat) : Int) = i by omega]
theorem markMetaS_ok (l : List Mt) (k : Int) (h0 : 0 ≤ k) (hk : k + 3 * l.length ≤ 1099511627776) : FunOk PP W n_l_markMetaS s_l_markMetaS_X [eMts l, i64 k] [i64 (k + 3 * l.length), eMts (markMt l k)] := by
 refine F_l_markMetaS_X (run_fun ?_)
 (repeat' first
  | (refine run_ite rfl (fun h => ?_) (fun h => ?_) <;> (try simp (disch := omega) only [zB, eqDs, eqD, Nat.reduceAdd, wrap64] at h) <;> (try (exfalso; omega)))
  | refine run_nd rfl ?_
  | refine run_nn rfl ?_
  | refine run_need rfl ?_ ?_
  | (refine run_ret rfl ?_ ; first | refine rb ?_ | refine ri ?_ | refine rs2 ?_ ?_ | refine rs1 ?_)
  | refine run_retx rfl ?_)
 refine run_loop rfl (fun x : Int × List Mt => 0 ≤ x.1 ∧ x.1 ≤ l.length ∧ x.2.length = l.length ∧ Blw x.1 (fun j => ix x.2 j = ⟨k + 3 * j, k + 3 * j + 1, k + 3 * j + 2⟩)) (fun x => [(5, .val (i64 x.1)), (1, .val (i64 (k + 3 * x.1))), (0, .val (eMts x.2))]) (fun x => (l.length - x.1).toNat) (0, l) ⟨by omega, by simp, rfl, blw_zero _⟩ ⟨rfl, i64_eq (by simp), rfl, trivial⟩ rfl ?_
 rintro ⟨i, ys⟩ e ⟨i0, hN, hy, hP⟩
 dsimp only at i0 hN hy hP ⊢
 (repeat' first
  | (refine run_ite rfl (fun h => ?_) (fun h => ?_) <;> (try simp (disch := omega) only [zB, eqDs, eqD, Nat.reduceAdd, wrap64] at h) <;> (try (exfalso; omega)))
  | refine run_nd rfl ?_
  | refine run_nn rfl ?_
  | (refine run_elsc rfl (els_gx (sz := 3) i0 (by first | omega | (simp only [List.length_set]; omega)) (by first | omega | (simp only [List.length_set]; omega)) (fun _ => rfl) (Nat.le_of_ble_eq_true rfl)) (sl_eq (elsMt_0 i0 (by omega))) ?_)
  | (refine run_elsc rfl (els_gx (sz := 3) i0 (by first | omega | (simp only [List.length_set]; omega)) (by first | omega | (simp only [List.length_set]; omega)) (fun _ => rfl) (Nat.le_of_ble_eq_true rfl)) (sl_eq ((elsMt_1 i0 (by first | omega | (simp only [List.length_set]; omega))).trans (by rw [ix_ssx i0 (by omega), List.set_set, wrap64 _ (by omega)]))) ?_)
  | (refine run_elsc rfl (els_gx (sz := 3) i0 (by first | omega | (simp only [List.length_set]; omega)) (by first | omega | (simp only [List.length_set]; omega)) (fun _ => rfl) (Nat.le_of_ble_eq_true rfl)) (sl_eq ((elsMt_2 i0 (by first | omega | (simp only [List.length_set]; omega))).trans (by rw [ix_ssx i0 (by omega), List.set_set, wrap64 (k + 3 * i + 1) (by omega), wrap64 (k + 3 * i + 1 + 1) (by omega), show k + 3 * i + 1 + 1 = k + 3 * i + 2 by omega]))) ?_)
  | (refine run_next rfl (Exists.intro (i + 1, ys.set i.toNat ⟨k + 3 * i, k + 3 * i + 1, k + 3 * i + 2⟩) ⟨by dsimp only; omega, ⟨by dsimp only; omega, by dsimp only; omega, by simpa using hy, blw_put (f := fun j => (⟨k + 3 * j, k + 3 * j + 1, k + 3 * j + 2⟩ : Mt)) i0 (by omega) hP⟩, i64_eq (wrap64 _ (by omega)), i64_eq (by rw [wrap64 (k + 3 * i + 1) (by omega), wrap64 (k + 3 * i + 1 + 1) (by omega), wrap64 _ (by omega)]; dsimp only; omega), rfl, trivial⟩))
  | refine run_need rfl ?_ ?_
  | (refine run_ret rfl ?_ ; first | refine rb ?_ | refine ri ?_ | refine rs2 ?_ ?_ | refine rs1 ?_)
  | refine run_retx rfl ?_)
 ·exact i64_eq (by omega)
 ·refine sl_eq ?_
  rw [ix_ext (xs := ys) (ys := markMt l k) (by rw [markMt_len, hy]) (fun j j0 j1 => (hP j j0 (by omega)).trans (markMt_ix l k j0 (by omega)).symm)]
def markIx (x : Ix) (k : Int) : Ix := ⟨x.num, x.till, markMt x.ms k⟩
theorem markIndex_ok (x : Ix) (k : Int) (h0 : 0 ≤ k) (hk : k + 3 * x.ms.length ≤ 1099511627776) : FunOk PP W n_l_markIndex s_l_markIndex_X [eIx x, i64 k] [i64 (k + 3 * x.ms.length), eIx (markIx x k)] := by
 refine F_l_markIndex_X (run_fun ?_)
 (repeat' first
  | (refine run_ite rfl (fun h => ?_) (fun h => ?_) <;> (try simp (disch := omega) only [zB, eqDs, eqD, Nat.reduceAdd, wrap64] at h) <;> (try (exfalso; omega)))
  | refine run_nd rfl ?_
  | refine run_nn rfl ?_
  | (refine run_io rfl rfl (markMetaS_ok x.ms k h0 hk) rfl rfl rfl rfl ?_)
  | refine run_need rfl ?_ ?_
  | (refine run_ret rfl ?_ ; first | refine rb ?_ | refine ri ?_ | refine rs2 ?_ ?_ | refine rs1 ?_)
  | refine run_retx rfl ?_)
 all_goals rfl
def cntTu (t : Tu) : Int := t.r.keys.length + 3 * t.x.ms.length
def markTu (t : Tu) (k : Int) : Tu := ⟨markRt t.r k, t.has, markIx t.x (k + t.r.keys.length)⟩
theorem markTu_ok (t : Tu) (k : Int) (h0 : 0 ≤ k) (hk : k + cntTu t ≤ 1099511627776) : FunOk PP W n_l_markTrust s_l_markTrust_X [eTu t, i64 k] [i64 (k + cntTu t), eTu (markTu t k)] := by
 refine F_l_markTrust_X (run_fun ?_)
 unfold cntTu at hk ⊢
 (repeat' first
  | (refine run_ite rfl (fun h => ?_) (fun h => ?_) <;> (try simp (disch := omega) only [zB, eqDs, eqD, Nat.reduceAdd, wrap64] at h) <;> (try (exfalso; omega)))
  | refine run_nd rfl ?_
  | refine run_nn rfl ?_
  | (refine run_io rfl rfl (markRoot_ok t.r k h0 (by omega)) rfl rfl rfl rfl ?_)
  | (refine run_io rfl rfl (markIndex_ok t.x (k + t.r.keys.length) (by omega) (by omega)) rfl rfl rfl rfl ?_)
  | refine run_need rfl ?_ ?_
  | (refine run_ret rfl ?_ ; first | refine rb ?_ | refine ri ?_ | refine rs2 ?_ ?_ | refine rs1 ?_)
  | refine run_retx rfl ?_)
 ·exact i64_eq (by omega)
 ·rfl
end V
end Go.Proofs.YtnaldhcdcpdbnaaGreatDoor

/-
Plain proofs: a package is read back from its text; what the specification keeps.
-/
namespace Go.Proofs.YtnaldhcdcpdbnaaGreatDoor
namespace V
open Classical
set_option maxRecDepth 100000
variable {W : Wld}

def cutS (ws : List (List UInt8)) (b : UInt8) : List (List UInt8) := if b = 32 then ws ++ [[]] else ws.set (ws.length - 1) (ix ws ((ws.length : Int) - 1) ++ [b])
def cutM (l : List UInt8) : List (List UInt8) := l.foldl cutS [[]]
abbrev eW (w : List UInt8) : List D := [.str (bA w)]
abbrev eWs (l : List (List UInt8)) : List D := [.sl (l.map eW)]
theorem cS_W (ws : List (List UInt8)) (i : Int) (hi : i.toNat < ws.length) : cS (ws.map eW) i 0 = bA (ix ws i) := by
 simp [cS, cel_m, hi, strD]
theorem cutS_len (ws : List (List UInt8)) (b : UInt8) (h : 1 ≤ ws.length) : 1 ≤ (cutS ws b).length ∧ (cutS ws b).length ≤ ws.length + 1 := by
 unfold cutS
 split
 ·simp
 ·simp; omega
theorem cutM_len : ∀ (l : List UInt8) (ws : List (List UInt8)), 1 ≤ ws.length → 1 ≤ (l.foldl cutS ws).length ∧ (l.foldl cutS ws).length ≤ ws.length + l.length
 | [], ws, h => ⟨h, by simp⟩
 | b :: r, ws, h => by
  have h1 := cutS_len ws b h
  have h2 := cutM_len r (cutS ws b) h1.1
  simp only [List.foldl_cons, List.length_cons]
  omega
theorem cutM_w : ∀ (l : List UInt8) (ws : List (List UInt8)) (n : Nat), (∀ w ∈ ws, w.length ≤ n) → ∀ w ∈ l.foldl cutS ws, w.length ≤ n + l.length
 | [], ws, n, h, w, hw => by simpa using h w hw
 | b :: r, ws, n, h, w, hw => by
  have h1 : ∀ w ∈ cutS ws b, w.length ≤ n + 1 := by
   intro w hw
   unfold cutS at hw
   split at hw
   ·rcases List.mem_append.1 hw with h' | h'
    ·have := h w h'; omega
    ·rw [List.mem_singleton.1 h']; simp
   ·rcases List.mem_or_eq_of_mem_set hw with h' | h'
    ·have := h w h'; omega
    ·have hx : (ix ws ((ws.length : Int) - 1)).length ≤ n := by
      by_cases hl : ((ws.length : Int) - 1).toNat < ws.length
      ·exact h _ (ix_mem (by omega) (by omega))
      ·rw [ix_out hl]; simp [default]
     rw [h']
     simp
     omega
  have := cutM_w r (cutS ws b) (n + 1) h1 w hw
  simp only [List.length_cons]
  omega
theorem toNat_u8 {a b : UInt8} : ((a.toNat : Int) = (b.toNat : Int)) ↔ a = b := by
 constructor
 ·intro h
  exact UInt8.toNat_inj.1 (by omega)
 ·rintro rfl; rfl
theorem l1Cut_ok (l : List UInt8) (hl : l.length ≤ 1000000) : FunOk PP W n_s_l1Cut s_s_l1Cut [sT l, [.int .u8 32]] [eWs (cutM l)] := by
 refine F_s_l1Cut (run_fun ?_)
 refine run_loop rfl (fun i : Int => 0 ≤ i ∧ i ≤ l.length) (fun i => [(6, .val (i64 i)), (5, .val (eWs (cutM (l.take i.toNat)))), (0, .val (sT l)), (1, .val [.int .u8 32])]) (fun i => (l.length - i).toNat) 0 ⟨by omega, by omega⟩ ⟨rfl, rfl, rfl, rfl, trivial⟩ rfl ?_
 rintro i e ⟨h0, hN⟩
 have hsz := bA_size l
 have hcl := cutM_len (l.take i.toNat) [[]] (by simp)
 rw [List.length_take] at hcl
 have hcd : cutM (l.take i.toNat) = (l.take i.toNat).foldl cutS [[]] := rfl
 rw [← hcd] at hcl
 by_cases hi : i < l.length
 ·have hst : cutM (l.take (i + 1).toNat) = cutS (cutM (l.take i.toNat)) (ix l i) := by
   unfold cutM
   rw [take_ix l h0 hi, List.foldl_append]
   rfl
  have hb := bAt_bA l i (by omega)
  clear hcd
  have hcw := cutM_w (l.take i.toNat) [[]] 0 (fun w hw => by simp at hw; simp [hw])
  rw [Nat.zero_add, List.length_take, show min i.toNat l.length = i.toNat by omega] at hcw
  have hcd : cutM (l.take i.toNat) = (l.take i.toNat).foldl cutS [[]] := rfl
  rw [← hcd] at hcw
  clear hcd
  generalize cutM (l.take i.toNat) = ws at hst hcl hcw ⊢
  simp only [List.length_cons, List.length_nil] at hcl
  have hw64 : IntKind.i64.wrap (((ws.map eW).length : Int) - 1) = (ws.length : Int) - 1 := by rw [List.length_map, wrap64 _ (by omega)]
  have hlst : (ix ws ((ws.length : Int) - 1)).length ≤ i.toNat := hcw _ (ix_mem (by omega) (by omega))
  have hcs : cS (ws.map eW) ((ws.length : Int) - 1) 0 = bA (ix ws ((ws.length : Int) - 1)) := cS_W ws _ (by omega)
  have hu : UInt8.ofNat (bAt (bA l) i).toNat = ix l i := by rw [hb]; simp
  have h32 : bAt (bA l) i = 32 ↔ ix l i = 32 := by
   rw [hb]
   exact toNat_u8 (b := 32)
  (repeat' first
  | (refine run_ite rfl (fun h => ?_) (fun h => ?_) <;> (try simp (disch := omega) only [zB, eqDs, eqD, Nat.reduceAdd, wrap64] at h) <;> (try (exfalso; omega)))
  | refine run_nd rfl ?_
  | refine run_nn rfl ?_
  | refine run_need rfl ?_ ?_
  | (refine run_ret rfl ?_ ; first | refine rb ?_ | refine ri ?_ | refine rs2 ?_ ?_ | refine rs1 ?_)
  | refine run_retx rfl ?_)
  ·refine run_next rfl (Exists.intro (i + 1) ⟨by omega, ⟨by omega, by omega⟩, i64_eq (wrap64 _ (by omega)), sl_eq ?_, rfl, rfl, trivial⟩)
   rw [hst, cutS, if_pos (h32.1 h), List.map_append]
   rfl
  ·rw [hw64, hcs, bA_size, sz1]
   unfold lim
   omega
  ·rw [hw64]
   exact els_gx (sz := 1) (by omega) (by omega) (by omega) (fun _ => rfl) (Nat.le_of_ble_eq_true rfl)
  ·refine run_next rfl (Exists.intro (i + 1) ⟨by omega, ⟨by omega, by omega⟩, i64_eq (wrap64 _ (by omega)), sl_eq ?_, rfl, rfl, trivial⟩)
   rw [hst, cutS, if_neg (fun h' => h (h32.2 h')), hw64, hcs, hu]
   have e1 : bA (ix ws ((ws.length : Int) - 1)) ++ ⟨#[ix l i]⟩ = bA (ix ws ((ws.length : Int) - 1) ++ [ix l i]) := bA_app _ [ix l i]
   rw [e1, show ws.length - 1 = ((ws.length : Int) - 1).toNat by omega]
   exact elsV_gx (by omega) (by omega) rfl
 ·have ht : l.take i.toNat = l := List.take_of_length_le (by omega)
  rw [ht]
  (repeat' first
  | (refine run_ite rfl (fun h => ?_) (fun h => ?_) <;> (try simp (disch := omega) only [zB, eqDs, eqD, Nat.reduceAdd, wrap64] at h) <;> (try (exfalso; omega)))
  | refine run_nd rfl ?_
  | refine run_nn rfl ?_
  | refine run_need rfl ?_ ?_
  | (refine run_ret rfl ?_ ; first | refine rb ?_ | refine ri ?_ | refine rs2 ?_ ?_ | refine rs1 ?_)
  | refine run_retx rfl ?_)
  rfl

/-! The words of a package's text. -/
theorem u8_toNat (n : Int) (h : 0 ≤ n ∧ n ≤ 255) : ((u8 n).toNat : Int) = n := by
 have : n.toNat < 256 := by omega
 unfold u8
 rw [UInt8.toNat_ofNat']
 omega
theorem u8_ne (n : Int) (h : 33 ≤ n ∧ n ≤ 255) : u8 n ≠ 32 := fun e => by
 have h1 := u8_toNat n (by omega)
 rw [e] at h1
 have : (32 : UInt8).toNat = 32 := rfl
 omega
theorem cut_plain : ∀ (w : List UInt8), (∀ b ∈ w, b ≠ 32) → ∀ (ws : List (List UInt8)) (v : List UInt8), w.foldl cutS (ws ++ [v]) = ws ++ [v ++ w]
 | [], _, ws, v => by simp
 | b :: r, h, ws, v => by
  have h1 : cutS (ws ++ [v]) b = ws ++ [v ++ [b]] := by
   unfold cutS
   rw [if_neg (h b (List.mem_cons_self ..))]
   have e : ix (ws ++ [v]) (((ws ++ [v]).length : Int) - 1) = v := by
    have : (((ws ++ [v]).length : Int) - 1).toNat = ws.length := by simp
    simp [ix, this]
   rw [e, show (ws ++ [v]).length - 1 = ws.length by simp]
   simp
  rw [List.foldl_cons, h1, cut_plain r (fun x hx => h x (List.mem_cons_of_mem _ hx))]
  simp
theorem cut_flat {α : Type} (f : α → List UInt8) : ∀ (xs : List α), (∀ x ∈ xs, ∀ b ∈ f x, b ≠ 32) → ∀ ws : List (List UInt8), (xs.flatMap (fun x => 32 :: f x)).foldl cutS ws = ws ++ xs.map f
 | [], _, ws => by simp
 | x :: r, h, ws => by
  rw [List.flatMap_cons, List.foldl_append, List.foldl_cons]
  have : cutS ws 32 = ws ++ [[]] := by unfold cutS; rw [if_pos rfl]
  rw [this, cut_plain (f x) (h x (List.mem_cons_self ..)), cut_flat f r (fun y hy => h y (List.mem_cons_of_mem _ hy))]
  simp
def fW (f : P2) : List UInt8 := [u8 (48 + f.a), 58, u8 (48 + f.b)]
def dW (d : P2) : List UInt8 := nmT d.a d.b
def wordsM (p : Pk) : List (List UInt8) := nmT p.name p.ver :: (p.files.map fW ++ p.deps.map dW)
theorem nmT_ne {n v : Int} (hn : 1 ≤ n ∧ n ≤ 4) (hv : 1 ≤ v ∧ v ≤ 5) : ∀ b ∈ nmT n v, b ≠ 32 := by
 intro b hb
 simp only [nmT, List.mem_cons, List.not_mem_nil, or_false] at hb
 rcases hb with rfl | rfl
 ·exact u8_ne _ (by omega)
 ·exact u8_ne _ (by omega)
theorem cut_text {p : Pk} (h : PkOk p) : cutM (textM p) = wordsM p := by
 have hF := h.2.2.1.1
 have hD := h.2.2.2.1
 have e : textM p = nmT p.name p.ver ++ p.files.flatMap (fun f => 32 :: fW f) ++ p.deps.flatMap (fun d => 32 :: dW d) := by
  rw [textM, if_pos h]
  rfl
 unfold cutM
 rw [e, List.foldl_append, List.foldl_append]
 have h1 : (nmT p.name p.ver).foldl cutS [[]] = [nmT p.name p.ver] := cut_plain _ (nmT_ne h.1 h.2.1) [] []
 rw [h1, cut_flat fW p.files (fun f hf b hb => by
  obtain ⟨j, j0, j1, rfl⟩ := mem_ix hf
  obtain ⟨a1, a2, _⟩ := hF j j0 j1
  simp only [fW, List.mem_cons, List.not_mem_nil, or_false] at hb
  rcases hb with rfl | rfl | rfl
  ·exact u8_ne _ (by omega)
  ·decide
  ·exact u8_ne _ (by omega)), cut_flat dW p.deps (fun d hd => by
  obtain ⟨j, j0, j1, rfl⟩ := mem_ix hd
  obtain ⟨a1, _, a2, _⟩ := hD j j0 j1
  exact nmT_ne a1 a2)]
 simp [wordsM]
theorem tl_loop (bs : ByteArray) : ∀ (n i : Nat) (r : List UInt8), bs.size - i = n → (ByteArray.toList.loop bs i r).length = r.length + n := by
 intro n
 induction n with
 | zero =>
  intro i r h
  unfold ByteArray.toList.loop
  rw [if_neg (by omega)]
  simp
 | succ n ih =>
  intro i r h
  unfold ByteArray.toList.loop
  rw [if_pos (by omega), ih (i + 1) _ (by omega)]
  simp
  omega
theorem toList_len (bs : ByteArray) : bs.toList.length = bs.size := by
 unfold ByteArray.toList
 rw [tl_loop bs bs.size 0 [] (by omega)]
 simp
def readM (p : Pk) (i : Int) : Pk := ⟨if 0 < i then p.name else 0, if 0 < i then p.ver else 0, p.files.take (i - 1).toNat, p.deps.take (i - 1 - p.files.length).toNat⟩
theorem sPkgRead_ok (p : Pk) (hs : SmP p) (hP : PkOk p) : FunOk PP W n_s_PkgRead s_s_PkgRead [sT (textM p)] [ePk p, bo true] := by
 refine F_s_PkgRead (run_fun ?_)
 have hl := textM_len p
 have hsz := bA_size (textM p)
 have hwl : (wordsM p).length = 1 + p.files.length + p.deps.length := by simp [wordsM]; omega
 have h1 : (p.files.length : Int) ≤ 2 := hP.2.2.1.2
 have h2 : (p.deps.length : Int) ≤ 2 := hP.2.2.2.2
 have hc := l1Cut_ok (W := W) (textM p) (by omega)
 rw [cut_text hP] at hc
 (repeat' first
  | (refine run_ite rfl (fun h => ?_) (fun h => ?_) <;> (try simp (disch := omega) only [zB, eqDs, eqD, Nat.reduceAdd, wrap64] at h) <;> (try (exfalso; omega)))
  | refine run_nd rfl ?_
  | refine run_nn rfl ?_
  | refine run_call1 rfl (hc) rfl ?_
  | refine run_need rfl ?_ ?_
  | (refine run_ret rfl ?_ ; first | refine rb ?_ | refine ri ?_ | refine rs2 ?_ ?_ | refine rs1 ?_)
  | refine run_retx rfl ?_)
 refine run_loop rfl (fun i : Int => 0 ≤ i ∧ i ≤ (wordsM p).length) (fun i => [(6, .val (i64 i)), (4, .val (eWs (wordsM p))), (5, .val (ePk (readM p i))), (0, .val (sT (textM p))), (2, .val [.int .i64 0, .int .i64 0, .sl [], .sl []])]) (fun i => ((wordsM p).length - i).toNat) 0 ⟨by omega, by omega⟩ ⟨rfl, rfl, ?_, rfl, rfl, trivial⟩ rfl ?_
 ·show ([.int .i64 0, .int .i64 0, .sl [], .sl []] : List D) = ePk (readM p 0)
  simp [readM]
 rintro i e ⟨h0, hN⟩
 have hF := hP.2.2.1.1
 have hD := hP.2.2.2.1
 have hN' := hP.1
 have hV' := hP.2.1
 have hrf : (readM p i).files.length ≤ 2 := by simp only [readM, List.length_take]; omega
 have hrd : (readM p i).deps.length ≤ 2 := by simp only [readM, List.length_take]; omega
 by_cases hi : i < (wordsM p).length
 ·have hcs : cS ((wordsM p).map eW) i 0 = bA (ix (wordsM p) i) := cS_W _ i (by omega)
  have hbt : ∀ j : Int, j.toNat < (ix (wordsM p) i).length → bAt (cS ((wordsM p).map eW) i 0) j = ((ix (ix (wordsM p) i) j).toNat : Int) := fun j hj => by rw [hcs]; exact bAt_bA _ j hj
  have hsz2 : (cS ((wordsM p).map eW) i 0).size = (ix (wordsM p) i).length := by rw [hcs, bA_size]
  by_cases hi0 : i = 0
  ·subst hi0
   have hw : ix (wordsM p) 0 = nmT p.name p.ver := rfl
   rw [hw] at hbt hsz2
   have b0 := (hbt 0 (by simp [nmT])).trans (u8_toNat (97 + p.name - 1) (by omega))
   have b1 := (hbt 1 (by simp [nmT])).trans (u8_toNat (48 + p.ver) (by omega))
   rw [nmT_len] at hsz2
   (repeat' first
  | (refine run_ite rfl (fun h => ?_) (fun h => ?_) <;> (try simp (disch := omega) only [zB, eqDs, eqD, Nat.reduceAdd, wrap64] at h) <;> (try (exfalso; omega)))
  | refine run_nd rfl ?_
  | refine run_nn rfl ?_
  | (refine run_next rfl (Exists.intro (0 + 1) ⟨by omega, ⟨by omega, by omega⟩, i64_eq (wrap64 _ (by omega)), rfl, ?_, rfl, rfl, trivial⟩))
  | refine run_need rfl ?_ ?_
  | (refine run_ret rfl ?_ ; first | refine rb ?_ | refine ri ?_ | refine rs2 ?_ ?_ | refine rs1 ?_)
  | refine run_retx rfl ?_)
   refine Eq.trans (b := [.int .i64 (IntKind.i64.wrap (IntKind.i64.wrap (IntKind.i64.wrap (bAt (cS ((wordsM p).map eW) 0 0) 0) - 97) + 1)), .int .i64 (IntKind.i64.wrap (IntKind.i64.wrap (bAt (cS ((wordsM p).map eW) 0 0) 1) - 48)), .sl ((readM p 0).files.map eP2), .sl ((readM p 0).deps.map eP2)]) rfl ?_
   rw [b0, b1, wrap64 (97 + p.name - 1) (by omega), wrap64 (48 + p.ver) (by omega), wrap64 (97 + p.name - 1 - 97) (by omega), wrap64 (97 + p.name - 1 - 97 + 1) (by omega), wrap64 (48 + p.ver - 48) (by omega), show 97 + p.name - 1 - 97 + 1 = p.name by omega, show 48 + p.ver - 48 = p.ver by omega]
   simp [readM]
   rfl
  ·by_cases hif : i ≤ p.files.length
   ·have hw : ix (wordsM p) i = fW (ix p.files (i - 1)) := by
     obtain ⟨k, rfl⟩ : ∃ k : Nat, i = k + 1 := ⟨(i - 1).toNat, by omega⟩
     have hk : k < p.files.length := by omega
     have e1 : ((k : Int) + 1).toNat = k + 1 := by omega
     have e2 : ((k : Int) + 1 - 1).toNat = k := by omega
     simp [ix, wordsM, e1, e2, List.getElem?_append, hk]
    obtain ⟨fa, fb, _⟩ := hF (i - 1) (by omega) (by omega)
    rw [hw] at hbt hsz2
    have b0 := (hbt 0 (by simp [fW])).trans (u8_toNat (48 + (ix p.files (i - 1)).a) (by omega))
    have b2 := (hbt 2 (by simp [fW])).trans (u8_toNat (48 + (ix p.files (i - 1)).b) (by omega))
    have hl3 : (fW (ix p.files (i - 1))).length = 3 := rfl
    rw [hl3] at hsz2
    (repeat' first
  | (refine run_ite rfl (fun h => ?_) (fun h => ?_) <;> (try simp (disch := omega) only [zB, eqDs, eqD, Nat.reduceAdd, wrap64] at h) <;> (try (exfalso; omega)))
  | refine run_nd rfl ?_
  | refine run_nn rfl ?_
  | (refine run_next rfl (Exists.intro (i + 1) ⟨by omega, ⟨by omega, by omega⟩, i64_eq (wrap64 _ (by omega)), rfl, ?_, rfl, rfl, trivial⟩))
  | refine run_need rfl ?_ ?_
  | (refine run_ret rfl ?_ ; first | refine rb ?_ | refine ri ?_ | refine rs2 ?_ ?_ | refine rs1 ?_)
  | refine run_retx rfl ?_)
    refine Eq.trans (b := [.int .i64 (readM p i).name, .int .i64 (readM p i).ver, .sl ((readM p i).files.map eP2 ++ [[.int .i64 (IntKind.i64.wrap (IntKind.i64.wrap (bAt (cS ((wordsM p).map eW) i 0) 0) - 48)), .int .i64 (IntKind.i64.wrap (IntKind.i64.wrap (bAt (cS ((wordsM p).map eW) i 0) 2) - 48))]]), .sl ((readM p i).deps.map eP2)]) rfl ?_
    rw [b0, b2]
    generalize hf : ix p.files (i - 1) = f at fa fb
    rw [wrap64 (48 + f.a) (by omega), wrap64 (48 + f.b) (by omega), wrap64 (48 + f.a - 48) (by omega), wrap64 (48 + f.b - 48) (by omega), show 48 + f.a - 48 = f.a by omega, show 48 + f.b - 48 = f.b by omega]
    have ht := take_ix p.files (i := i - 1) (by omega) (by omega)
    rw [show i - 1 + 1 = i by omega, hf] at ht
    have hn : readM p (i + 1) = ⟨p.name, p.ver, p.files.take (i - 1).toNat ++ [f], []⟩ := by
     simp only [readM, if_pos (show 0 < i + 1 by omega), show i + 1 - 1 = i by omega, ht, show (i - (p.files.length : Int)).toNat = 0 by omega, List.take_zero]
    have ho : readM p i = ⟨p.name, p.ver, p.files.take (i - 1).toNat, []⟩ := by
     simp only [readM, if_pos (show 0 < i by omega), show (i - 1 - (p.files.length : Int)).toNat = 0 by omega, List.take_zero]
    rw [hn, ho]
    show _ = ([.int .i64 p.name, .int .i64 p.ver, .sl ((p.files.take (i - 1).toNat ++ [f]).map eP2), .sl []] : List D)
    rw [List.map_append]
    rfl
   ·have hw : ix (wordsM p) i = dW (ix p.deps (i - 1 - p.files.length)) := by
     obtain ⟨k, rfl⟩ : ∃ k : Nat, i = k + 1 + p.files.length := ⟨(i - 1 - p.files.length).toNat, by omega⟩
     have hk : k < p.deps.length := by omega
     have e1 : ((k : Int) + 1 + p.files.length).toNat = (p.files.length + k) + 1 := by omega
     have e2 : ((k : Int) + 1 + p.files.length - 1 - p.files.length).toNat = k := by omega
     simp [ix, wordsM, e1, e2, List.getElem?_append, hk]
    obtain ⟨fa, _, fb, _⟩ := hD (i - 1 - p.files.length) (by omega) (by omega)
    rw [hw] at hbt hsz2
    have b0 := (hbt 0 (by simp [dW, nmT])).trans (u8_toNat (97 + (ix p.deps (i - 1 - p.files.length)).a - 1) (by omega))
    have b1 := (hbt 1 (by simp [dW, nmT])).trans (u8_toNat (48 + (ix p.deps (i - 1 - p.files.length)).b) (by omega))
    have hl2 : (dW (ix p.deps (i - 1 - p.files.length))).length = 2 := rfl
    rw [hl2] at hsz2
    (repeat' first
  | (refine run_ite rfl (fun h => ?_) (fun h => ?_) <;> (try simp (disch := omega) only [zB, eqDs, eqD, Nat.reduceAdd, wrap64] at h) <;> (try (exfalso; omega)))
  | refine run_nd rfl ?_
  | refine run_nn rfl ?_
  | (refine run_next rfl (Exists.intro (i + 1) ⟨by omega, ⟨by omega, by omega⟩, i64_eq (wrap64 _ (by omega)), rfl, ?_, rfl, rfl, trivial⟩))
  | refine run_need rfl ?_ ?_
  | (refine run_ret rfl ?_ ; first | refine rb ?_ | refine ri ?_ | refine rs2 ?_ ?_ | refine rs1 ?_)
  | refine run_retx rfl ?_)
    refine Eq.trans (b := [.int .i64 (readM p i).name, .int .i64 (readM p i).ver, .sl ((readM p i).files.map eP2), .sl ((readM p i).deps.map eP2 ++ [[.int .i64 (IntKind.i64.wrap (IntKind.i64.wrap (IntKind.i64.wrap (bAt (cS ((wordsM p).map eW) i 0) 0) - 97) + 1)), .int .i64 (IntKind.i64.wrap (IntKind.i64.wrap (bAt (cS ((wordsM p).map eW) i 0) 1) - 48))]])]) rfl ?_
    rw [b0, b1]
    generalize hf : ix p.deps (i - 1 - p.files.length) = f at fa fb
    rw [wrap64 (97 + f.a - 1) (by omega), wrap64 (48 + f.b) (by omega), wrap64 (97 + f.a - 1 - 97) (by omega), wrap64 (97 + f.a - 1 - 97 + 1) (by omega), wrap64 (48 + f.b - 48) (by omega), show 97 + f.a - 1 - 97 + 1 = f.a by omega, show 48 + f.b - 48 = f.b by omega]
    have ht := take_ix p.deps (i := i - 1 - p.files.length) (by omega) (by omega)
    rw [show i - 1 - (p.files.length : Int) + 1 = i - p.files.length by omega, hf] at ht
    have hn : readM p (i + 1) = ⟨p.name, p.ver, p.files, p.deps.take (i - 1 - p.files.length).toNat ++ [f]⟩ := by
     simp only [readM, if_pos (show 0 < i + 1 by omega), show i + 1 - 1 = i by omega, ht]
     rw [List.take_of_length_le (by omega)]
    have ho : readM p i = ⟨p.name, p.ver, p.files, p.deps.take (i - 1 - p.files.length).toNat⟩ := by
     simp only [readM, if_pos (show 0 < i by omega)]
     rw [List.take_of_length_le (by omega)]
    rw [hn, ho]
    show _ = ([.int .i64 p.name, .int .i64 p.ver, .sl (p.files.map eP2), .sl ((p.deps.take (i - 1 - p.files.length).toNat ++ [f]).map eP2)] : List D)
    rw [List.map_append]
    rfl
 ·have hr : readM p i = p := by
   have e1 : (i - 1).toNat = p.files.length + p.deps.length := by omega
   have e2 : (i - 1 - (p.files.length : Int)).toNat = p.deps.length := by omega
   simp only [readM, e1, e2, if_pos (show 0 < i by omega)]
   rw [List.take_of_length_le (by omega), List.take_of_length_le (by omega)]
  have hne : ¬ (bA (textM p)).toList = (⟨#[]⟩ : ByteArray).toList := fun h' => by
   have := congrArg List.length h'
   have h0 : (⟨#[]⟩ : ByteArray).size = 0 := rfl
   rw [toList_len, toList_len, bA_size, h0, textM, if_pos hP] at this
   simp [nmT] at this
  rw [hr]
  (repeat' first
  | (refine run_ite rfl (fun h => ?_) (fun h => ?_) <;> (try simp (disch := omega) only [zB, eqDs, eqD, Nat.reduceAdd, wrap64] at h) <;> (try (exfalso; omega)))
  | refine run_nd rfl ?_
  | refine run_nn rfl ?_
  | refine run_call1 rfl (sPkgText_ok p hs) rfl ?_
  | refine run_need rfl ?_ ?_
  | (refine run_ret rfl ?_ ; first | refine rb ?_ | refine ri ?_ | refine rs2 ?_ ?_ | refine rs1 ?_)
  | refine run_retx rfl ?_)
  all_goals first
   | rfl
   | exact absurd h hne
theorem sl3Has_ok (x : Ix) (hl : x.ms.length ≤ lim) (p : Pk) (hs : SmP p) (hP : PkOk p) : ∃ outs, (∃ q, outs = [ePk q, bo (decide (mtOf p ∈ x.ms))]) ∧ FunOk PP W n_s_l3Has s_s_l3Has [eIx x, sT (textM p)] outs := by
 have hlen := textM_len p
 unfold lim at hl
 by_cases hm : mtOf p ∈ x.ms
 ·rw [decide_eq_true hm]
  refine ⟨[ePk p, bo true], ⟨p, rfl⟩, F_s_l3Has (run_fun ?_)⟩
  (repeat' first
  | (refine run_ite rfl (fun h => ?_) (fun h => ?_) <;> (try simp (disch := omega) only [zB, eqDs, eqD, Nat.reduceAdd, wrap64] at h) <;> (try (exfalso; omega)))
  | refine run_nd rfl ?_
  | refine run_nn rfl ?_
  | (refine run_callr rfl (sPkgRead_ok p hs hP) rfl rfl ?_)
  | refine run_need rfl ?_ ?_
  | (refine run_ret rfl ?_ ; first | refine rb ?_ | refine ri ?_ | refine rs2 ?_ ?_ | refine rs1 ?_)
  | refine run_retx rfl ?_)
  refine run_loop rfl (fun i : Int => 0 ≤ i ∧ i ≤ x.ms.length ∧ Blw i (fun j => ¬ ix x.ms j = mtOf p)) (fun i => [(8, .val (i64 i)), (2, .val (eIx x)), (6, .val (ePk p)), (1, .val (sT (textM p))), (4, .val [.int .i64 0, .int .i64 0, .sl [], .sl []])]) (fun i => (x.ms.length - i).toNat) 0 ⟨by omega, by omega, blw_zero _⟩ ⟨rfl, rfl, rfl, rfl, rfl, trivial⟩ rfl ?_
  rintro i e ⟨h0, hN, hB⟩
  have hmt : (ix x.ms i).name = p.name → (ix x.ms i).ver = p.ver → (ix x.ms i).sum = sumM (textM p) → ix x.ms i = mtOf p := fun a b c => mt_ext a b c
  have hno : mtOf p ∈ x.ms → ¬ Blw x.ms.length (fun j => ¬ ix x.ms j = mtOf p) := fun h hb => by
   obtain ⟨j, j0, j1, e⟩ := mem_ix h
   exact hb j j0 j1 e
  have hnm : ∀ {q : Mt}, q = mtOf p → q.name = p.name ∧ q.ver = p.ver ∧ q.sum = sumM (textM p) := fun h => by rw [h]; exact ⟨rfl, rfl, rfl⟩
  (repeat' first
  | (refine run_ite rfl (fun h => ?_) (fun h => ?_) <;> (try simp (disch := omega) only [zB, eqDs, eqD, Nat.reduceAdd, wrap64] at h) <;> (try (exfalso; omega)))
  | refine run_nd rfl ?_
  | refine run_nn rfl ?_
  | refine run_call1 rfl (sSumOf_ok (textM p) (by omega)) rfl ?_
  | (refine run_next rfl (Exists.intro (i + 1) ⟨by omega, ⟨by omega, by omega, blw_succ hB ?_⟩, i64_eq (wrap64 _ (by omega)), rfl, rfl, rfl, rfl, trivial⟩))
  | refine run_need rfl ?_ ?_
  | (refine run_ret rfl ?_ ; first | refine rb ?_ | refine ri ?_ | refine rs2 ?_ ?_ | refine rs1 ?_)
  | refine run_retx rfl ?_)
  all_goals first
   | rfl
   | exact fun h' => h (hnm h').2.2
   | exact fun h' => h (hnm h').2.1
   | exact fun h' => h (hnm h').1
   | exact absurd (hmt (by assumption) (by assumption) h) (fun h' => hm (h' ▸ ix_mem h0 (by omega)))
   | exact absurd hm (fun h' => hno h' (blw_to hB (by omega)))
 ·rw [decide_eq_false hm]
  refine ⟨[ePk ⟨0, 0, [], []⟩, bo false], ⟨_, rfl⟩, F_s_l3Has (run_fun ?_)⟩
  (repeat' first
  | (refine run_ite rfl (fun h => ?_) (fun h => ?_) <;> (try simp (disch := omega) only [zB, eqDs, eqD, Nat.reduceAdd, wrap64] at h) <;> (try (exfalso; omega)))
  | refine run_nd rfl ?_
  | refine run_nn rfl ?_
  | (refine run_callr rfl (sPkgRead_ok p hs hP) rfl rfl ?_)
  | refine run_need rfl ?_ ?_
  | (refine run_ret rfl ?_ ; first | refine rb ?_ | refine ri ?_ | refine rs2 ?_ ?_ | refine rs1 ?_)
  | refine run_retx rfl ?_)
  refine run_loop rfl (fun i : Int => 0 ≤ i ∧ i ≤ x.ms.length ∧ Blw i (fun j => ¬ ix x.ms j = mtOf p)) (fun i => [(8, .val (i64 i)), (2, .val (eIx x)), (6, .val (ePk p)), (1, .val (sT (textM p))), (4, .val [.int .i64 0, .int .i64 0, .sl [], .sl []])]) (fun i => (x.ms.length - i).toNat) 0 ⟨by omega, by omega, blw_zero _⟩ ⟨rfl, rfl, rfl, rfl, rfl, trivial⟩ rfl ?_
  rintro i e ⟨h0, hN, hB⟩
  have hmt : (ix x.ms i).name = p.name → (ix x.ms i).ver = p.ver → (ix x.ms i).sum = sumM (textM p) → ix x.ms i = mtOf p := fun a b c => mt_ext a b c
  have hno : mtOf p ∈ x.ms → ¬ Blw x.ms.length (fun j => ¬ ix x.ms j = mtOf p) := fun h hb => by
   obtain ⟨j, j0, j1, e⟩ := mem_ix h
   exact hb j j0 j1 e
  have hnm : ∀ {q : Mt}, q = mtOf p → q.name = p.name ∧ q.ver = p.ver ∧ q.sum = sumM (textM p) := fun h => by rw [h]; exact ⟨rfl, rfl, rfl⟩
  (repeat' first
  | (refine run_ite rfl (fun h => ?_) (fun h => ?_) <;> (try simp (disch := omega) only [zB, eqDs, eqD, Nat.reduceAdd, wrap64] at h) <;> (try (exfalso; omega)))
  | refine run_nd rfl ?_
  | refine run_nn rfl ?_
  | refine run_call1 rfl (sSumOf_ok (textM p) (by omega)) rfl ?_
  | (refine run_next rfl (Exists.intro (i + 1) ⟨by omega, ⟨by omega, by omega, blw_succ hB ?_⟩, i64_eq (wrap64 _ (by omega)), rfl, rfl, rfl, rfl, trivial⟩))
  | refine run_need rfl ?_ ?_
  | (refine run_ret rfl ?_ ; first | refine rb ?_ | refine ri ?_ | refine rs2 ?_ ?_ | refine rs1 ?_)
  | refine run_retx rfl ?_)
  all_goals first
   | rfl
   | exact fun h' => h (hnm h').2.2
   | exact fun h' => h (hnm h').2.1
   | exact fun h' => h (hnm h').1
   | exact absurd (hmt (by assumption) (by assumption) h) (fun h' => hm (h' ▸ ix_mem h0 (by omega)))
   | exact absurd hm (fun h' => hno h' (blw_to hB (by omega)))
theorem l12Trim_ok (t : Tu) (l : List Pk) (hl : t.x.ms.length ≤ lim) (hs : SmPs l) (hP : ∀ p ∈ l, PkOk p) : FunOk PP W n_s_l12Trim s_s_l12Trim [eTu t, ePks l] [ePks (keptL t l)] := by
 refine F_s_l12Trim (run_fun ?_)
 have hsl := hs.1
 unfold lim at hsl
 refine run_loop rfl (fun i : Int => 0 ≤ i ∧ i ≤ l.length) (fun i => [(6, .val (i64 i)), (1, .val (ePks l)), (5, .val (ePks (keptL t (l.take i.toNat)))), (2, .val (eTu t))]) (fun i => (l.length - i).toNat) 0 ⟨by omega, by omega⟩ ⟨rfl, rfl, sl_eq (by unfold keptL; split <;> rfl), rfl, trivial⟩ rfl ?_
 rintro i e ⟨h0, hN⟩
 have hle : (keptL t (l.take i.toNat)).length ≤ i.toNat := by
  unfold keptL
  split
  ·exact Nat.le_trans (List.length_filter_le _ _) (by rw [List.length_take]; omega)
  ·simp
 by_cases hi : i < l.length
 ·have hst := filt_take (fun p => decide (mtOf p ∈ t.x.ms)) l h0 hi
  have hsm := smPs_ix hs h0 hi
  obtain ⟨outs, ⟨q, rfl⟩, hh⟩ := sl3Has_ok (W := W) t.x hl (ix l i) hsm (hP _ (ix_mem h0 hi))
  (repeat' first
  | (refine run_ite rfl (fun h => ?_) (fun h => ?_) <;> (try simp (disch := omega) only [zB, eqDs, eqD, Nat.reduceAdd, wrap64] at h) <;> (try (exfalso; omega)))
  | refine run_nd rfl ?_
  | refine run_nn rfl ?_
  | refine run_cq rfl (sPkgText_ok (ix l i) hsm) rfl ?_
  | (refine run_callr rfl hh rfl rfl ?_)
  | (refine run_next rfl (Exists.intro (i + 1) ⟨by omega, ⟨by omega, by omega⟩, i64_eq (wrap64 _ (by omega)), rfl, ?_, rfl, trivial⟩))
  | refine run_need rfl ?_ ?_
  | (refine run_ret rfl ?_ ; first | refine rb ?_ | refine ri ?_ | refine rs2 ?_ ?_ | refine rs1 ?_)
  | refine run_retx rfl ?_)
  ·have h1 : t.has = true := by assumption
   refine sl_eq ?_
   unfold keptL
   rw [if_pos h1, if_pos h1, hst, if_pos (decide_eq_true h), List.map_append, cI_Pk_0, cI_Pk_1, cL_Pk_2, cL_Pk_3]
   rfl
  ·have h1 : t.has = true := by assumption
   refine sl_eq ?_
   unfold keptL
   rw [if_pos h1, if_pos h1, hst, if_neg (by simp [h]), List.append_nil]
  ·refine sl_eq ?_
   unfold keptL
   rw [if_neg (by rw [h]; simp), if_neg (by rw [h]; simp)]
 ·have ht : l.take i.toNat = l := List.take_of_length_le (by omega)
  rw [ht] at hle ⊢
  (repeat' first
  | (refine run_ite rfl (fun h => ?_) (fun h => ?_) <;> (try simp (disch := omega) only [zB, eqDs, eqD, Nat.reduceAdd, wrap64] at h) <;> (try (exfalso; omega)))
  | refine run_nd rfl ?_
  | refine run_nn rfl ?_
  | refine run_need rfl ?_ ?_
  | (refine run_ret rfl ?_ ; first | refine rb ?_ | refine ri ?_ | refine rs2 ?_ ?_ | refine rs1 ?_)
  | refine run_retx rfl ?_)
  rfl
theorem sStoreTrim_ok (t : Tu) (s : List Pk) (hk : t.r.keys.length ≤ lim) (hl : t.x.ms.length ≤ lim) (hs : SmPs s) : FunOk PP W n_s_StoreTrim s_s_StoreTrim [eTu t, ePks s] [ePks (trimM t s)] := by
 refine F_s_StoreTrim (run_fun ?_)
 by_cases hc : TuM t ∧ PksOk s
 ·rw [trimM, if_pos hc]
  have hP : ∀ p ∈ s, PkOk p := fun p hp => by
   obtain ⟨j, j0, j1, rfl⟩ := mem_ix hp
   exact (hc.2 j j0 j1).1
  (repeat' first
  | (refine run_ite rfl (fun h => ?_) (fun h => ?_) <;> (try simp (disch := omega) only [zB, eqDs, eqD, Nat.reduceAdd, wrap64] at h) <;> (try (exfalso; omega)))
  | refine run_nd rfl ?_
  | refine run_nn rfl ?_
  | refine run_call1 rfl (sTrustOk_ok t hk hl) rfl ?_
  | refine run_call1 rfl (sStoreOk_ok s hs) rfl ?_
  | refine run_call1 rfl (l12Copy_ok s hs) rfl ?_
  | refine run_call1 rfl (l12Trim_ok t s hl hs hP) rfl ?_
  | refine run_need rfl ?_ ?_
  | (refine run_ret rfl ?_ ; first | refine rb ?_ | refine ri ?_ | refine rs2 ?_ ?_ | refine rs1 ?_)
  | refine run_retx rfl ?_)
  ·exact absurd hc.1 h
  ·exact absurd hc.2 h
  ·rfl
 ·rw [trimM, if_neg hc]
  (repeat' first
  | (refine run_ite rfl (fun h => ?_) (fun h => ?_) <;> (try simp (disch := omega) only [zB, eqDs, eqD, Nat.reduceAdd, wrap64] at h) <;> (try (exfalso; omega)))
  | refine run_nd rfl ?_
  | refine run_nn rfl ?_
  | refine run_call1 rfl (sTrustOk_ok t hk hl) rfl ?_
  | refine run_call1 rfl (sStoreOk_ok s hs) rfl ?_
  | refine run_need rfl ?_ ?_
  | (refine run_ret rfl ?_ ; first | refine rb ?_ | refine ri ?_ | refine rs2 ?_ ?_ | refine rs1 ?_)
  | refine run_retx rfl ?_)
  ·rfl
  ·rfl
  ·exact absurd ⟨by assumption, h⟩ hc
theorem iStoreTrim_X (t : Tu) (s : List Pk) (hk : t.r.keys.length ≤ lim) (hl : t.x.ms.length ≤ lim) (hs : SmPs s) : FunOk PP W n_i_StoreTrim s_i_StoreTrim_X [eTu t, ePks s] [ePks (trimM t s)] := by
 refine F_i_StoreTrim_X (run_fun ?_)
 (repeat' first
  | (refine run_ite rfl (fun h => ?_) (fun h => ?_) <;> (try simp (disch := omega) only [zB, eqDs, eqD, Nat.reduceAdd, wrap64] at h) <;> (try (exfalso; omega)))
  | refine run_nd rfl ?_
  | refine run_nn rfl ?_
  | refine run_call1 rfl (iTrustOk_ok t hk hl) rfl ?_
  | refine run_call1 rfl (iStoreOk_ok s hs) rfl ?_
  | refine run_need rfl ?_ ?_
  | (refine run_ret rfl ?_ ; first | refine rb ?_ | refine ri ?_ | refine rs2 ?_ ?_ | refine rs1 ?_)
  | refine run_retx rfl ?_)
 ·rw [trimM, if_neg (fun h' => h h'.1)]
  rfl
 ·rw [trimM, if_neg (fun h' => h h'.2)]
  rfl
 have hc : TuM t ∧ PksOk s := ⟨by assumption, h⟩
 rw [trimM, if_pos hc]
 clear h hc
 have hsl := hs.1
 unfold lim at hsl
 refine run_loop rfl (fun i : Int => 0 ≤ i ∧ i ≤ s.length) (fun i => [(18, .val (i64 i)), (16, .val (ePks s)), (17, .val (i64 (s.map ePk).length)), (5, .val (ePks (keptL t (s.take i.toNat)))), (2, .val (eTu t))]) (fun i => (s.length - i).toNat) 0 ⟨by omega, by omega⟩ ⟨rfl, rfl, rfl, sl_eq (by unfold keptL; split <;> rfl), rfl, trivial⟩ rfl ?_
 rintro i e ⟨h0, hN⟩
 have hle : (keptL t (s.take i.toNat)).length ≤ i.toNat := by
  unfold keptL
  split
  ·exact Nat.le_trans (List.length_filter_le _ _) (by rw [List.length_take]; omega)
  ·simp
 by_cases hi : i < s.length
 ·have hst := filt_take (fun p => decide (mtOf p ∈ t.x.ms)) s h0 hi
  have hsm := smPs_ix hs h0 hi
  (repeat' first
  | (refine run_ite rfl (fun h => ?_) (fun h => ?_) <;> (try simp (disch := omega) only [zB, eqDs, eqD, Nat.reduceAdd, wrap64] at h) <;> (try (exfalso; omega)))
  | refine run_nd rfl ?_
  | refine run_nn rfl ?_
  | refine run_cq rfl (metaOf_ok (ix s i) hsm) rfl ?_
  | refine run_cq rfl (conMt_ok t.x.ms (mtOf (ix s i)) hl) rfl ?_
  | refine run_cq rfl (pkgCopied_X (ix s i) hsm) rfl ?_
  | (refine run_next rfl (Exists.intro (i + 1) ⟨by omega, ⟨by omega, by omega⟩, i64_eq (wrap64 _ (by omega)), rfl, rfl, ?_, rfl, trivial⟩))
  | refine run_need rfl ?_ ?_
  | (refine run_ret rfl ?_ ; first | refine rb ?_ | refine ri ?_ | refine rs2 ?_ ?_ | refine rs1 ?_)
  | refine run_retx rfl ?_)
  ·have h1 : t.has = true := by assumption
   refine sl_eq ?_
   unfold keptL
   rw [if_pos h1, if_pos h1, hst, if_pos (decide_eq_true h), List.map_append]
   rfl
  ·have h1 : t.has = true := by assumption
   refine sl_eq ?_
   unfold keptL
   rw [if_pos h1, if_pos h1, hst, if_neg (by simp [h]), List.append_nil]
  ·refine sl_eq ?_
   unfold keptL
   rw [if_neg (by rw [h]; simp), if_neg (by rw [h]; simp)]
 ·have ht : s.take i.toNat = s := List.take_of_length_le (by omega)
  rw [ht] at hle ⊢
  (repeat' first
  | (refine run_ite rfl (fun h => ?_) (fun h => ?_) <;> (try simp (disch := omega) only [zB, eqDs, eqD, Nat.reduceAdd, wrap64] at h) <;> (try (exfalso; omega)))
  | refine run_nd rfl ?_
  | refine run_nn rfl ?_
  | refine run_need rfl ?_ ?_
  | (refine run_ret rfl ?_ ; first | refine rb ?_ | refine ri ?_ | refine rs2 ?_ ?_ | refine rs1 ?_)
  | refine run_retx rfl ?_)
  rfl
end V
end Go.Proofs.YtnaldhcdcpdbnaaGreatDoor

/-
The law FnExactStoreTrim, in plain terms: it answers true whatever comes in.
-/
namespace Go.Proofs.YtnaldhcdcpdbnaaGreatDoor
namespace V
open Classical
set_option maxRecDepth 100000
variable {W : Wld}

theorem sumF_filt {α : Type} {f : α → Int} (hf : ∀ x, 0 ≤ f x) (P : α → Bool) : ∀ l : List α, sumF f (l.filter P) ≤ sumF f l
 | [] => by simp [sumF]
 | x :: r => by
  have h := sumF_filt hf P r
  have hx := hf x
  by_cases hp : P x = true
  ·simp only [List.filter_cons, if_pos hp, sumF, List.map_cons, List.sum_cons] at *
   omega
  ·simp only [List.filter_cons, if_neg hp, sumF, List.map_cons, List.sum_cons] at *
   omega
theorem szPs_trim (t : Tu) (s : List Pk) : szPs (trimM t s) ≤ szPs s := by
 have h0 := szPs_nn s
 have key : ∀ P : Pk → Bool, szPs (s.filter P) ≤ szPs s := fun P => by
  have h1 := sumF_filt cP_nn P s
  have h2 := List.length_filter_le P s
  unfold szPs
  omega
 have hz : szPs ([] : List Pk) = 0 := rfl
 unfold trimM keptL
 split
 ·split
  ·exact key _
  ·rw [hz]; exact h0
 ·rw [hz]; exact h0
theorem eqPkgS_self' (l : List Pk) (h : SmPs l) : FunOk PP W n_l_eqPkgS s_l_eqPkgS [ePks l, ePks l] [bo true] := by simpa using eqPkgS_ok (W := W) l l h

set_option maxHeartbeats 2000000 in
theorem exactStoreTrim_ok (t : Tu) (s : List Pk) (h1 : (t.r.keys.length : Int) ≤ mx) (h2 : (t.x.ms.length : Int) ≤ mx) (h3 : BgPs s) : FunOk PP W n_l_FnExactStoreTrim s_l_FnExactStoreTrim_X [eTu t, ePks s] [bo true] := by
 refine F_l_FnExactStoreTrim_X (run_fun ?_)
 have n2 := szPs_nn s
 have f1 := szTrust_ok (W := W) t 1048576 (by omega) h1 h2
 by_cases c1 : 1048576 < (t.r.keys.length : Int) + t.x.ms.length
 ·rw [less_lt c1] at f1
  (repeat' first
  | (refine run_ite rfl (fun h => ?_) (fun h => ?_) <;> (try simp (disch := omega) only [zB, eqDs, eqD, Nat.reduceAdd, wrap64] at h) <;> (try (exfalso; omega)))
  | refine run_nd rfl ?_
  | refine run_nn rfl ?_
  | refine run_call1 rfl (f1) rfl ?_
  | refine run_need rfl ?_ ?_
  | (refine run_ret rfl ?_ ; first | refine rb ?_ | refine ri ?_ | refine rs2 ?_ ?_ | refine rs1 ?_)
  | refine run_retx rfl ?_)
  rfl
 rw [less_ge (by omega)] at f1
 have f2 := szPkgS_ok (W := W) s (1048576 - (t.r.keys.length + t.x.ms.length)) (by omega) h3
 by_cases c2 : 1048576 - ((t.r.keys.length : Int) + t.x.ms.length) < szPs s
 ·rw [less_lt c2] at f2
  (repeat' first
  | (refine run_ite rfl (fun h => ?_) (fun h => ?_) <;> (try simp (disch := omega) only [zB, eqDs, eqD, Nat.reduceAdd, wrap64] at h) <;> (try (exfalso; omega)))
  | refine run_nd rfl ?_
  | refine run_nn rfl ?_
  | refine run_call1 rfl (f1) rfl ?_
  | refine run_call1 rfl (f2) rfl ?_
  | refine run_need rfl ?_ ?_
  | (refine run_ret rfl ?_ ; first | refine rb ?_ | refine ri ?_ | refine rs2 ?_ ?_ | refine rs1 ?_)
  | refine run_retx rfl ?_)
  rfl
 rw [less_ge (by omega)] at f2
 have hk : t.r.keys.length ≤ lim := by unfold lim; omega
 have hl : t.x.ms.length ≤ lim := by unfold lim; omega
 have hS : SmPs s := smPs_sz (by omega)
 have hz := szPs_trim t s
 have hR : SmPs (trimM t s) := smPs_sz (by omega)
 have k2 := cntPs_sz s
 have k3 := cntPs_sz (trimM t s)
 have g1 := sStoreTrim_ok (W := W) t s hk hl hS
 have g2 := iStoreTrim_X (W := W) t s hk hl hS
 generalize trimM t s = R at *
 have e1 := eqPkgS_self' (W := W) R hR
 have e2 := eqPkgS_self' (W := W) s hS
 have e3 := eqTu_self (W := W) t hk hl
 have n4 := cntPs_nn s
 have n5 := cntPs_nn R
 have hct : cntTu t = t.r.keys.length + 3 * t.x.ms.length := rfl
 have m1 := markTu_ok (W := W) t 1 (by omega) (by omega)
 have m2 := markPkgS_ok (W := W) s (1 + cntTu t) (by omega) (by omega)
 have m3 := markPkgS_ok (W := W) R 1 (by omega) (by omega)
 have q1 := heldPkgS_ok (W := W) (markPs R 1) 1 (by omega) (by rw [cntPs_mark']; omega) (hdPs_mark R 1)
 rw [cntPs_mark'] at q1
 (repeat' first
  | (refine run_ite rfl (fun h => ?_) (fun h => ?_) <;> (try simp (disch := omega) only [zB, eqDs, eqD, Nat.reduceAdd, wrap64] at h) <;> (try (exfalso; omega)))
  | refine run_nd rfl ?_
  | refine run_nn rfl ?_
  | refine run_call1 rfl (f1) rfl ?_
  | refine run_call1 rfl (f2) rfl ?_
  | refine run_call1 rfl (toTrust_X t hk hl) rfl ?_
  | refine run_call1 rfl (toPkgS_X s hS) rfl ?_
  | refine run_call1 rfl (g1) rfl ?_
  | refine run_call1 rfl (g2) rfl ?_
  | refine run_call1 rfl (e1) rfl ?_
  | refine run_call1 rfl (e2) rfl ?_
  | refine run_call1 rfl (e3) rfl ?_
  | refine run_call1 rfl (q1) rfl ?_
  | (refine run_io rfl rfl m1 rfl rfl rfl rfl ?_)
  | (refine run_io rfl rfl m2 rfl rfl rfl rfl ?_)
  | (refine run_io rfl rfl m3 rfl rfl rfl rfl ?_)
  | refine run_need rfl ?_ ?_
  | (refine run_ret rfl ?_ ; first | refine rb ?_ | refine ri ?_ | refine rs2 ?_ ?_ | refine rs1 ?_)
  | refine run_retx rfl ?_)
 all_goals first | rfl | exact absurd trivial (by assumption)
end V
end Go.Proofs.YtnaldhcdcpdbnaaGreatDoor

