/-
Part 1 of the proof of the claimed statement (its last part holds the theorem, and says what is proved). Conditions: none.
-/
import Derived.Test.YtgialjcichiaoaaM0
import Derived.Laws.Tables
import Derived.Laws.MakeOwn
import Derived.Lib.ConvBytes
import Derived.Laws.AppendOwn
set_option linter.all false
/-
What is moved into a slot: assignments, boxes, structs.
-/
namespace Go.Proofs.Ytgialjcichiaoaa
namespace V

/-- What an operation must show: whatever holds of all that it may leave, holds behind it. -/
def OpOk (P : Program) (cx : Cx) (own : Own) (w : World) (a : Act) (env : Env) (o : Oper) (u : Up) (env' : Env) : Prop :=
  ∀ (K : Act → World → Prop) (Q : Exit → Act → World → Prop), (∀ own' w' a', Done cx own w a env u own' w' a' env' → K a' w') → o.wp P a w K Q

theorem Runs.opOk {P : Program} {cx : Cx} {own : Own} {w : World} {a : Act} {env env' : Env} {o : Oper} {u : Up} (h : Runs P cx own w a env o u env') : OpOk P cx own w a env o u env' := by
  intro K Q hK
  obtain ⟨v, own', w', hr, hd⟩ := h
  unfold Oper.wp
  rw [hr]
  exact hK own' w' _ hd

theorem RunsQ.opOk {P : Program} {cx : Cx} {own : Own} {w : World} {a : Act} {env env' : Env} {o : Oper} {u : Up} (h : RunsQ P cx own w a env o u env') : OpOk P cx own w a env o u env' := h.runs.opOk

theorem isOwn_false {w : World} {cx : Cx} {own : Own} {c : CS} (h : isOwn c = false) {s i s' i' : Nat} {x : D} {v : Value} (hc : CellIs w cx own s i c x v) : CellIs w cx own s' i' c x v := by
  cases c <;> first | exact hc | cases h

/-- A value on its way into a cell. -/
def Pre (w : World) (cx : Cx) (own : Own) (aas : List Aff) (dd pos : Nat) (c : CS) (x : D) (v : Value) : Prop :=
  Cell1 v ∧ ((∃ a ∈ aas, a.to = .al dd pos a.m a.f ∧ c = .o a.m a.f ∧ OwnRep w cx own (a.h, a.i + 1) a.m a.f x v) ∨ (isOwn c = false ∧ CellIs w cx own 0 0 c x v))

section
variable {w0 : World} {own0 : Own} {cx : Cx} {own own' : Own} {w w' : World} {env env' : Env} {tv tv' : Nat → Value} {u : Up}

theorem Pre.mono {aas bs : List Aff} {dd pos : Nat} {c : CS} {x : D} {v : Value} (h : Pre w cx own aas dd pos c x v) (hs : ∀ a ∈ aas, a ∈ bs) : Pre w cx own bs dd pos c x v :=
  ⟨h.1, h.2.imp (fun ⟨a, ha, h⟩ => ⟨a, hs a ha, h⟩) id⟩

theorem Pre.ok {A : Nat × Nat → Prop} {W : Nat → Prop} {dd' : Option Nat} (st : Step cx own w env tv A W dd' own' w' env' tv') (af : AffOk cx own w u own' w') {aas : List Aff} {dd pos : Nat} {c : CS} {x : D} {v : Value}
    (h : Pre w cx own aas dd pos c x v) (hs : ∀ a ∈ aas, a ∈ u.aff) : CellOk w' cx own' dd pos c x v := by
  refine ⟨h.1, ?_⟩
  rcases h.2 with ⟨a, ha, hto, rfl, ho⟩ | ⟨hc, hi⟩
  · have := af.to a (hs a ha) x v ho dd pos
    rw [hto] at this
    exact this
  · cases c with
    | n => exact hi
    | s => exact hi
    | r => exact st.rs hi
    | b => exact st.bs hi
    | x => trivial
    | o m f => cases hc
    | al h k m f => cases hc

theorem moveCells_ok {s d : Nat} {ds : List D} {vs : List Value} : ∀ {cs : List CS} {i j : Nat} {aas : List Aff} {cs' : List CS}, moveCells s d cs i j = some (aas, cs') →
    (∀ (k : Nat) (c : CS) (x : D) (v : Value), cs[k]? = some c → ds[i + k]? = some x → vs[i + k]? = some v → CellOk w cx own s (i + k) c x v) →
    cs'.length = cs.length ∧ (∀ a ∈ aas, MoveAff a ∧ (∃ k m f, a.to = .al d (j + k) m f ∧ k < cs.length) ∧ a.h ≠ d) ∧ ∀ (k : Nat) (c : CS) (x : D) (v : Value), cs'[k]? = some c → ds[i + k]? = some x → vs[i + k]? = some v → Pre w cx own aas d (j + k) c x v
  | [], i, j, aas, cs', h, _ => by
    simp only [moveCells, Option.some.injEq, Prod.mk.injEq] at h
    obtain ⟨rfl, rfl⟩ := h
    exact ⟨rfl, fun a ha => by simp at ha, fun k c x v hc => by simp at hc⟩
  | c0 :: r, i, j, aas, cs', h, hc => by
    simp only [moveCells] at h
    split at h
    · cases h
    rename_i as1 cs1 hm
    obtain ⟨h1, h2, h3⟩ := moveCells_ok hm (fun k c x v hk hx hv => by
      have := hc (k + 1) c x v (by simpa using hk) (by rw [← hx]; congr 1; omega) (by rw [← hv]; congr 1; omega)
      rwa [show i + (k + 1) = i + 1 + k from by omega] at this)
    have h2' : ∀ a ∈ as1, MoveAff a ∧ (∃ k m f, a.to = .al d (j + k) m f ∧ k < (c0 :: r).length) ∧ a.h ≠ d := fun a ha => by
      obtain ⟨p1, ⟨k, m, f, p2, p3⟩, p4⟩ := h2 a ha
      exact ⟨p1, ⟨k + 1, m, f, by rw [p2]; congr 1; omega, by simp; omega⟩, p4⟩
    have tail : ∀ {bs : List Aff} {c1 : CS}, (∀ a ∈ as1, a ∈ bs) → (∀ (x : D) (v : Value), ds[i]? = some x → vs[i]? = some v → Pre w cx own bs d j c1 x v) →
        ∀ (k : Nat) (c : CS) (x : D) (v : Value), (c1 :: cs1)[k]? = some c → ds[i + k]? = some x → vs[i + k]? = some v → Pre w cx own bs d (j + k) c x v := by
      intro bs c1 hs hz k c x v hk hx hv
      cases k with
      | zero =>
        simp only [List.getElem?_cons_zero, Option.some.injEq] at hk
        subst hk
        exact hz x v hx hv
      | succ k =>
        have := (h3 k c x v (by simpa using hk) (by rw [← hx]; congr 1; omega) (by rw [← hv]; congr 1; omega)).mono hs
        rwa [show j + 1 + k = j + (k + 1) from by omega] at this
    split at h
    · rename_i hown
      split at h
      · rename_i hh k m f ho
        split at h
        · cases h
        · rename_i hd
          simp only [Option.some.injEq, Prod.mk.injEq] at h
          obtain ⟨rfl, rfl⟩ := h
          refine ⟨by simp [h1], fun a ha => ?_, tail (fun a ha => List.mem_cons_of_mem _ ha) (fun x v hx hv => ?_)⟩
          · rcases List.mem_cons.1 ha with rfl | ha
            · exact ⟨⟨rfl, .inl ⟨d, j, rfl⟩⟩, ⟨0, m, f, rfl, by simp⟩, hd⟩
            · exact h2' a ha
          · have hcell := hc 0 c0 x v rfl hx hv
            refine ⟨hcell.1, .inl ⟨_, List.mem_cons_self .., rfl, rfl, ?_⟩⟩
            have h5 := hcell.2
            simp only [Nat.add_zero] at h5
            cases c0 <;> simp only [ownOf, Option.some.injEq, Prod.mk.injEq, reduceCtorEq] at ho
            · obtain ⟨rfl, rfl, rfl, rfl⟩ := ho
              exact h5
            · obtain ⟨rfl, rfl, rfl, rfl⟩ := ho
              exact h5
      · cases h
    · rename_i hown
      simp only [Bool.not_eq_true] at hown
      simp only [Option.some.injEq, Prod.mk.injEq] at h
      obtain ⟨rfl, rfl⟩ := h
      refine ⟨by simp [h1], h2', tail (fun a ha => ha) (fun x v hx hv => ?_)⟩
      have hcell := hc 0 c0 x v rfl hx hv
      exact ⟨hcell.1, .inr ⟨hown, isOwn_false hown hcell.2⟩⟩

/-- The cells of an operand on their way. -/
theorem putCells_ok {a : Act} {L : Look} {g : Gd} (hL : ∀ z, SlotOk w cx own env (tvA a) z (L z)) (hg : ∀ gs b, g = some (gs, b) → env gs = [.bool b]) {d j : Nat} {x : Operand} {aas : List Aff} {ag : Bool} {cs : List CS} (h : putCells L g d j x = some (aas, ag, cs)) :
    ∃ vs, a.eval x = wrapV ag vs ∧ (ag = false → vs.length = 1) ∧ cs.length = ((opd x).get env).length ∧ vs.length = ((opd x).get env).length ∧ (∀ a ∈ aas, MoveAff a ∧ (∃ k m f, a.to = .al d (j + k) m f ∧ k < cs.length) ∧ a.h ≠ d) ∧ (∀ t, x = .tmp t → t ≠ d) ∧
      ∀ (k : Nat) (c : CS) (y : D) (v : Value), cs[k]? = some c → ((opd x).get env)[k]? = some y → vs[k]? = some v → Pre w cx own aas d (j + k) c y v := by
  unfold putCells at h
  split at h
  · rename_i v
    split at h
    · rename_i hk
      simp only [Option.some.injEq, Prod.mk.injEq] at h
      obtain ⟨rfl, rfl, rfl⟩ := h
      refine ⟨[v], rfl, fun _ => rfl, rfl, rfl, fun a ha => by simp at ha, fun t ht => by simp at ht, fun k c y u hc hy hu => ?_⟩
      cases k with
      | zero =>
        simp only [List.getElem?_cons_zero, Option.some.injEq] at hc hu
        simp only [opd, Opd.get, List.getElem?_cons_zero, Option.some.injEq] at hy
        subst hc; subst hu; subst hy
        have := const_ok (w := w) (cx := cx) (own := own) hk 0 0
        refine ⟨this.1, .inr ⟨?_, this.2⟩⟩
        unfold ofConst
        split <;> rfl
      | succ k => simp at hc
    · cases h
  · rename_i s
    have hs := shAt_ok hL hg s
    split at h
    · rename_i ag' cs0 he
      rw [he] at hs
      split at h
      · cases h
      rename_i hsd
      split at h
      · rename_i as0 cs1 hm
        simp only [Option.some.injEq, Prod.mk.injEq] at h
        obtain ⟨rfl, rfl, rfl⟩ := h
        obtain ⟨vs, h1, h2, h3, h4, h5⟩ := hs
        obtain ⟨k1, k2, k3⟩ := moveCells_ok (ds := env s) (vs := vs) hm (fun k c x v hc hx hv => by
          rw [Nat.zero_add] at hx hv ⊢
          exact h5 k c x v hc hx hv)
        refine ⟨vs, h1, h2, k1.trans h3, h4, by rw [k1]; exact k2, fun t ht => ?_, fun k c y v hc hy hv => ?_⟩
        · cases ht; exact hsd
        · exact k3 k c y v hc (by rw [Nat.zero_add]; exact hy) (by rw [Nat.zero_add]; exact hv)
      · cases h
    · cases h
  · cases h

theorem HeapOk.same_world (own : Own) (w : World) (u : Up) : HeapOk own w w u (fun _ => False) :=
  ⟨rfl, rfl, rfl, Nat.le_refl _, fun _ _ _ => rfl, fun _ h => h.elim, fun _ _ h => h.elim, fun _ _ _ h => h.elim⟩

theorem HeapOk.alloc (own : Own) (w : World) (u : Up) (o : Obj) : HeapOk own w (w.alloc o) u (fun _ => False) :=
  ⟨rfl, rfl, rfl, by show _ ≤ (w.heap.push o).size; simp, fun g hg _ => heap_alloc_old w o g hg, fun _ h => h.elim, fun _ _ h => h.elim, fun _ _ _ h => h.elim⟩

theorem done_new {a a' : Act} (hw : WOk w0 own0 cx own w) {nb : Option OI} {gb : Nat → Prop} (hh : HeapOk own w w' u gb) (hgb : ∀ g i, gb g → own g = some i → i.leaf.2 = 0 ∨ ∃ a ∈ u.aff, KeepAff a ∧ i.leaf = (a.h, a.i + 1)) (hnd : noDup u.aff = true) (hm : ∀ a ∈ u.aff, MoveAff a ∨ (KeepAff a ∧ u.W a.h))
    (hnb : ∀ k, nb = some k → w.heap.size < w'.heap.size ∧ u.isDst k.leaf.1 = true ∧ (k.leaf.2 = 0 ∨ ∀ a ∈ u.aff, ∀ d j m f, a.to ≠ .al d j m f))
    (henv : ∀ s, ¬u.W s → env' s = env s) (htv : ∀ s, u.d ≠ some s → tvA a' s = tvA a s) (hsz : a'.tmps.size = a.tmps.size) (hdf : a'.defers = a.defers)
    (hs : Step cx own w env (tvA a) u.A u.W u.d (newOwn own (relabU u) w.heap.size nb) w' env' (tvA a') → AffOk cx own w u (newOwn own (relabU u) w.heap.size nb) w' →
      (∀ p ∈ u.bx, u.isDst p.1 = false → SlotOk w' cx (newOwn own (relabU u) w.heap.size nb) env' (tvA a') p.1 p.2) ∧
      (∀ d sh, u.dst = some (d, sh) → SlotOk w' cx (newOwn own (relabU u) w.heap.size nb) env' (tvA a') d sh)) :
    Done cx own w a env u (newOwn own (relabU u) w.heap.size nb) w' a' env' := by
  have st := step_new hw hh hnd hnb henv htv
  have af := affOk_new hw hh hgb hnd hm st
  obtain ⟨h1, h2⟩ := hs st af
  exact ⟨st, af, h1, h2, hsz, hdf⟩

end

section
variable {P : Program} {C : Cfg} {w0 : World} {own0 : Own} {cx : Cx} {own : Own} {w : World} {a : Act} {env env' : Env} {L : Look} {g : Gd} {o : Oper} {u : Up} {p : PS} {d : Nat}

theorem not_W_dst {aas : List Aff} {d : Nat} {sh : Sh} {s : Nat} (h : ¬Up.W ⟨aas, [], some (d, sh)⟩ s) : s ≠ d := by
  rintro rfl
  exact h (.inl (Nat.beq_refl _))

theorem d_dst {aas : List Aff} {bx : List (Nat × Sh)} {d : Nat} {sh : Sh} {s : Nat} (h : Up.d ⟨aas, bx, some (d, sh)⟩ ≠ some s) : s ≠ d := by
  rintro rfl
  exact h rfl

variable (hC : CfgOk P C) (hw : WOk w0 own0 cx own w) (hL : ∀ z, SlotOk w cx own env (tvA a) z (L z)) (hg : ∀ gs b, g = some (gs, b) → env gs = [.bool b])
  (hod : o.dst = some d) (hd : d < a.tmps.size) (hn : ∀ d sh, u.dst = some (d, sh) → sh.names d = false) (hp : pstep p env = some env')
include hw hL hg hod hd hn hp

theorem assign_ok {x : Operand} (ho : o.op = .assign x) (hc : cAssign L g d x = some (u, p)) : Runs P cx own w a env o u env' := by
  have hr := exec_move (P := P) (w := w) (a := a) x (.inr ho)
  unfold cAssign at hc
  split at hc
  · split at hc
    · split at hc
      · rename_i aas ag cs' hpc
        split at hc
        · rename_i hnd
          simp only [Option.some.injEq, Prod.mk.injEq] at hc
          obtain ⟨rfl, rfl⟩ := hc
          simp only [pstep, Option.some.injEq] at hp
          subst hp
          obtain ⟨vs, h1, h2, h3, h4, h5, h6, h7⟩ := putCells_ok hL hg hpc
          refine ⟨a.eval x, newOwn own (relabU { aff := aas, dst := some (d, .v ag cs') }) w.heap.size none, w, hr, ?_⟩
          rw [hod]
          refine done_new (nb := none) hw (HeapOk.same_world own w _) (fun g i h => h.elim) hnd (fun a ha => .inl (h5 a ha).1) (fun k hk => by cases hk)
            (fun s hs => put_ne _ _ _ _ (not_W_dst hs)) (fun s hs => by rw [tvA_put a d _ hd, if_neg (d_dst hs)]) (by simp [Act.put]) rfl (fun st af => ⟨fun p hp => by simp at hp, fun d' sh' he => ?_⟩)
          simp only [Option.some.injEq, Prod.mk.injEq] at he
          obtain ⟨rfl, rfl⟩ := he
          refine ⟨vs, ?_, h2, ?_⟩
          · rw [tvA_put a d _ hd, if_pos rfl]; exact h1
          · rw [put_self]
            refine ⟨h3, h4, fun k c y v hc hy hv => ?_⟩
            have := h7 k c y v hc hy hv
            rw [Nat.zero_add] at this
            exact this.ok st af (fun a ha => ha)
        · cases hc
      · cases hc
    · exact (move_ok hw hL hg hod hd hn hp (fun w2 => exec_move (w := w2) x (.inr ho)) hc).runs
  · exact (move_ok hw hL hg hod hd hn hp (fun w2 => exec_move (w := w2) x (.inr ho)) hc).runs

include hC in
theorem box_ok {t : TypeId} {x : Operand} (ho : o.op = .box t x) (hc : cBox C L g d t x = some (u, p)) : Runs P cx own w a env o u env' := by
  unfold cBox at hc
  split at hc
  · rename_i ti aas ag cs' hti hpc
    split at hc
    · rename_i hk
      obtain ⟨hk1, hk2, hnd⟩ := hk
      simp only [Option.some.injEq, Prod.mk.injEq] at hc
      obtain ⟨rfl, rfl⟩ := hc
      simp only [pstep, Option.some.injEq] at hp
      subst hp
      obtain ⟨vs, h1, h2, h3, h4, h5, h6, h7⟩ := putCells_ok hL hg hpc
      have hcells : (a.eval x).cells = vs.toArray := by
        rw [h1]
        cases ag with
        | true => rfl
        | false =>
          have hl := h2 rfl
          match vs, hl with
          | [v], _ =>
            have hv : Cell1 v := by
              have hl3 : ((opd x).get env).length = 1 := by rw [← h4]; rfl
              have hl4 : cs'.length = 1 := by rw [h3, hl3]
              match cs', (opd x).get env, hl4, hl3, h7 with
              | [c], [y], _, _, h7 => exact (h7 0 c y v rfl rfl rfl).1
            simp only [wrapV]
            unfold Value.cells
            split
            · rename_i e; exact absurd rfl (hv.1 _)
            · rfl
      have hr : (execOp a.eval o).run P w = .ok (.value (.pointer (some ⟨w.heap.size, 0, none⟩))) (w.alloc (.cells vs.toArray t)) := by
        unfold execOp
        simp only [ho, Instr.box, newVar, newRow, newObj, hcells, Sem.run_bind]
        rfl
      refine ⟨_, newOwn own (relabU { aff := aas, dst := some (d, .box false cs') }) w.heap.size (some ⟨(d, 0), [], some 0⟩), _, hr, ?_⟩
      rw [hod]
      refine done_new (nb := some ⟨(d, 0), [], some 0⟩) hw (HeapOk.alloc own w _ _) (fun g i h => h.elim) hnd (fun a ha => .inl (h5 a ha).1) (fun k hk => ?_)
        (fun s hs => put_ne _ _ _ _ (not_W_dst hs)) (fun s hs => by rw [tvA_put a d _ hd, if_neg (d_dst hs)]) (by simp [Act.put]) rfl (fun st af => ⟨fun p hp => by simp at hp, fun d' sh' he => ?_⟩)
      · simp only [Option.some.injEq] at hk
        subst hk
        exact ⟨by show _ < (w.heap.push _).size; simp, Nat.beq_refl _, .inl rfl⟩
      · simp only [Option.some.injEq, Prod.mk.injEq] at he
        obtain ⟨rfl, rfl⟩ := he
        refine ⟨w.heap.size, vs.toArray, t, ?_, heap_alloc_new w _, ?_, ?_⟩
        · rw [tvA_put a d _ hd, if_pos rfl]
        · rw [put_self]
          refine ⟨h3, h4, fun k c y v hc hy hv => ?_⟩
          have := h7 k c y v hc hy hv
          rw [Nat.zero_add] at this
          exact this.ok st af (fun a ha => ha)
        · simp [newOwn]
    · cases hc
  · cases hc

omit hL hg in
include hC in
theorem alloc_ok {t : TypeId} (ho : o.op = .alloc t) (hc : cAlloc C d t = some (u, p)) : Runs P cx own w a env o u env' := by
  unfold cAlloc at hc
  split at hc
  · rename_i ti hti
    simp only [cPut, Option.some.injEq, Prod.mk.injEq] at hc
    obtain ⟨rfl, rfl⟩ := hc
    simp only [pstep, bldP, Option.some.injEq] at hp
    subst hp
    obtain ⟨z, hz1, hz2, hz3⟩ := (hC t ti hti).zeroV w
    have hr : (execOp a.eval o).run P w = .ok (.value (.pointer (some ⟨w.heap.size, 0, none⟩))) (w.alloc (.cells z.cells t)) := by
      unfold execOp
      simp only [ho, Instr.alloc, newVar, newRow, newObj, Sem.run_bind, hz1, Result.andThen_ok]
      rfl
    refine ⟨_, newOwn own (relabU { dst := some (d, .box false (zcs ti.zero)) }) w.heap.size (some ⟨(d, 0), [], some 0⟩), _, hr, ?_⟩
    rw [hod]
    refine done_new (nb := some ⟨(d, 0), [], some 0⟩) hw (HeapOk.alloc own w _ _) (fun g i h => h.elim) rfl (fun a ha => by simp at ha) (fun k hk => ?_)
      (fun s hs => put_ne _ _ _ _ (not_W_dst hs)) (fun s hs => by rw [tvA_put a d _ hd, if_neg (d_dst hs)]) (by simp [Act.put]) rfl (fun st af => ⟨fun p hp => by simp at hp, fun d' sh' he => ?_⟩)
    · simp only [Option.some.injEq] at hk
      subst hk
      exact ⟨by show _ < (w.heap.push _).size; simp, Nat.beq_refl _, .inl rfl⟩
    · simp only [Option.some.injEq, Prod.mk.injEq] at he
      obtain ⟨rfl, rfl⟩ := he
      refine ⟨w.heap.size, z.cells, t, ?_, heap_alloc_new w _, ?_, ?_⟩
      · rw [tvA_put a d _ hd, if_pos rfl]
      · rw [put_self]
        refine ⟨by simp [zcs], zsChk_len hz2, fun k c y v hc hy hv => ?_⟩
        unfold zcs at hc
        rw [List.getElem?_map, hy] at hc
        simp only [Option.map_some, Option.some.injEq] at hc
        subst hc
        exact zChk_ok (zsChk_get hz2 hy hv) _ _ _ _ _
      · simp [newOwn]
  · cases hc

end

end V
end Go.Proofs.Ytgialjcichiaoaa

/-
Structs and arrays are built.
-/
namespace Go.Proofs.Ytgialjcichiaoaa
namespace V

theorem cells_wrap {ag : Bool} {vs : List Value} (h2 : ag = false → vs.length = 1) (hc : ∀ (i : Nat) (v : Value), vs[i]? = some v → Cell1 v) : (wrapV ag vs).cells = vs.toArray := by
  cases ag with
  | true => rfl
  | false =>
    have hl := h2 rfl
    match vs, hl with
    | [v], _ =>
      have hv := hc 0 v rfl
      simp only [wrapV]
      unfold Value.cells
      split
      · rename_i e; exact absurd rfl (hv.1 _)
      · rfl

/-- Cells are written one by one. -/
theorem foldl_set (off : Nat) : ∀ (vs : List Value) (k : Nat) (cells : Array Value), off + k + vs.length ≤ cells.size →
    ((vs.zipIdx k).foldl (fun (cs : Array Value) (p : Value × Nat) => cs.setIfInBounds (off + p.2) p.1) cells).toList = cells.toList.take (off + k) ++ vs ++ cells.toList.drop (off + k + vs.length)
  | [], k, cells, h => by simp
  | v :: vs, k, cells, h => by
    simp only [List.zipIdx_cons, List.foldl_cons]
    simp only [List.length_cons] at h
    rw [foldl_set off vs (k + 1) _ (by simp; omega)]
    have hlt : off + k < cells.toList.length := by simp; omega
    simp only [Array.toList_setIfInBounds, List.length_cons]
    rw [show off + (k + 1) = off + k + 1 from by omega]
    have e1 : (cells.toList.set (off + k) v).take (off + k + 1) = cells.toList.take (off + k) ++ [v] := by
      rw [List.take_succ, List.take_set_of_le (Nat.le_refl _), List.getElem?_set_self hlt]
      rfl
    have e2 : (cells.toList.set (off + k) v).drop (off + k + 1 + vs.length) = cells.toList.drop (off + k + (vs.length + 1)) := by
      rw [List.drop_set_of_lt (by omega)]
      congr 1
      omega
    rw [e1, e2]
    simp

theorem fill_step (place : Nat → Option (Nat × Nat)) {k off n : Nat} (hp : place k = some (off, n)) {v : Value} {vs : List Value} (hv : v.cells = vs.toArray) (hl : vs.length = n) {cells : List Value} (hb : off + n ≤ cells.length) (rest : List (Nat × Value)) :
    Instr.fill place cells.toArray ((k, v) :: rest) = Instr.fill place (cells.take off ++ vs ++ cells.drop (off + n)).toArray rest := by
  have h1 : (v.cells.size ≠ n || off + v.cells.size > cells.toArray.size) = false := by
    rw [hv]
    simp [hl, hb]
  have h2 : (v.cells.zipIdx.foldl (fun cs (c, j) => cs.setIfInBounds (off + j) c) cells.toArray) = (cells.take off ++ vs ++ cells.drop (off + n)).toArray := by
    apply Array.ext'
    have := foldl_set off vs 0 cells.toArray (by simp; omega)
    rw [hv, ← Array.foldl_toList]
    simp only [Array.toList_zipIdx]
    rw [show (fun (cs : Array Value) (x : Value × Nat) => match x with | (c, j) => cs.setIfInBounds (off + j) c) = (fun (cs : Array Value) (p : Value × Nat) => cs.setIfInBounds (off + p.2) p.1) from rfl]
    rw [this]
    simp [hl]
  rw [Instr.fill, hp]
  simp only [h1, Bool.false_eq_true, if_false]
  rw [h2]

theorem splice_get {α : Type} {c xs : List α} {off : Nat} (h : off + xs.length ≤ c.length) (k : Nat) :
    (c.take off ++ xs ++ c.drop (off + xs.length))[k]? = if k < off then c[k]? else if k < off + xs.length then xs[k - off]? else c[k]? := by
  have hl : (c.take off).length = off := by rw [List.length_take]; omega
  by_cases h1 : k < off
  · rw [if_pos h1, List.append_assoc, List.getElem?_append_left (by omega), List.getElem?_take, if_pos h1]
  · rw [if_neg h1]
    by_cases h2 : k < off + xs.length
    · rw [if_pos h2, List.append_assoc, List.getElem?_append_right (by omega), List.getElem?_append_left (by omega), hl]
    · rw [if_neg h2, List.getElem?_append_right (by rw [List.length_append]; omega), List.getElem?_drop]
      congr 1
      rw [List.length_append]
      omega

theorem splice_len {α : Type} {c xs : List α} {off : Nat} (h : off + xs.length ≤ c.length) : (c.take off ++ xs ++ c.drop (off + xs.length)).length = c.length := by
  simp only [List.length_append, List.length_take, List.length_drop]
  omega

section
variable {P : Program} {C : Cfg} {w0 : World} {own0 : Own} {cx : Cx} {own : Own} {w : World} {a : Act} {env env' : Env} {L : Look} {g : Gd} {o : Oper} {u : Up} {p : PS} {d : Nat}

theorem parts_ok (hL : ∀ z, SlotOk w cx own env (tvA a) z (L z)) (hg : ∀ gs b, g = some (gs, b) → env gs = [.bool b]) {t : Nat} {place : Nat → Option (Nat × Nat)} (hpl : ∀ k off n, C.place t k = some (off, n) → place k = some (off, n)) :
    ∀ {parts : List (Nat × Operand)} {cs cs2 : List CS} {aas as0 : List Aff} {ps : List (Nat × Opd)} {ds : List D} {vs : List Value}, cParts C L g d t cs parts = some (aas, cs2, ps) →
      cs.length = ds.length → vs.length = ds.length → (∀ (k : Nat) (c : CS) (x : D) (v : Value), cs[k]? = some c → ds[k]? = some x → vs[k]? = some v → Pre w cx own as0 d k c x v) →
      ∃ vs2 : List Value, Instr.fill place vs.toArray (parts.map fun p => (p.1, a.eval p.2)) = some vs2.toArray ∧ cs2.length = (bldP env ds ps).length ∧ vs2.length = (bldP env ds ps).length ∧
        (∀ a ∈ aas, MoveAff a) ∧ (∀ (k : Nat) (c : CS) (x : D) (v : Value), cs2[k]? = some c → (bldP env ds ps)[k]? = some x → vs2[k]? = some v → Pre w cx own (as0 ++ aas) d k c x v)
  | [], cs, cs2, aas, as0, ps, ds, vs, h, h1, h2, h3 => by
    simp only [cParts, Option.some.injEq, Prod.mk.injEq] at h
    obtain ⟨rfl, rfl, rfl⟩ := h
    exact ⟨vs, rfl, h1, h2, fun a ha => by simp at ha, fun k c x v hc hx hv => by rw [List.append_nil]; exact h3 k c x v hc hx hv⟩
  | (k0, x) :: r, cs, cs2, aas, as0, ps, ds, vs, h, h1, h2, h3 => by
    simp only [cParts] at h
    split at h
    · rename_i off n hplace
      split at h
      · rename_i as1 ag xs hpc
        split at h
        · rename_i hk
          split at h
          · rename_i as2 cs2' ps' hrec
            simp only [Option.some.injEq, Prod.mk.injEq] at h
            obtain ⟨rfl, rfl, rfl⟩ := h
            obtain ⟨us, q1, q2, q3, q4, q5, q6, q7⟩ := putCells_ok hL hg hpc
            have hn : ((opd x).get env).length = n := q3.symm.trans hk.1
            have hxs : xs.length = n := hk.1
            have hus : us.length = n := q4.trans hn
            have hcells : (a.eval x).cells = us.toArray := by
              rw [q1]
              refine cells_wrap q2 (fun i v hv => ?_)
              have hi : i < us.length := (List.getElem?_eq_some_iff.1 hv).1
              exact (q7 i _ _ v (List.getElem?_eq_getElem (by omega)) (List.getElem?_eq_getElem (by omega)) hv).1
            have hce : cs.take off ++ xs ++ cs.drop (off + n) = cs.take off ++ xs ++ cs.drop (off + xs.length) := by rw [hxs]
            have hde : splice ds off ((opd x).get env) = ds.take off ++ (opd x).get env ++ ds.drop (off + ((opd x).get env).length) := rfl
            have hve : vs.take off ++ us ++ vs.drop (off + n) = vs.take off ++ us ++ vs.drop (off + us.length) := by rw [hus]
            have b1 : off + xs.length ≤ cs.length := by omega
            have b2 : off + ((opd x).get env).length ≤ ds.length := by omega
            have b3 : off + us.length ≤ vs.length := by omega
            obtain ⟨vs2, r1, r2, r3, r4, r5⟩ := parts_ok hL hg hpl (as0 := as0 ++ as1) (ds := splice ds off ((opd x).get env)) (vs := vs.take off ++ us ++ vs.drop (off + n)) hrec
              (by rw [hce, hde, splice_len b1, splice_len b2]; exact h1) (by rw [hve, hde, splice_len b3, splice_len b2]; exact h2)
              (fun k c y v hc hy hv => by
                rw [hce, splice_get b1] at hc
                rw [hde, splice_get b2] at hy
                rw [hve, splice_get b3] at hv
                by_cases c1 : k < off
                · rw [if_pos c1] at hc hy hv
                  exact (h3 k c y v hc hy hv).mono (fun a ha => List.mem_append_left _ ha)
                · rw [if_neg c1] at hc hy hv
                  by_cases c2 : k < off + n
                  · rw [if_pos (by omega)] at hc hy hv
                    have := (q7 (k - off) c y v hc hy hv).mono (bs := as0 ++ as1) (fun a ha => List.mem_append_right _ ha)
                    rwa [show off + (k - off) = k from by omega] at this
                  · rw [if_neg (by omega)] at hc hy hv
                    exact (h3 k c y v hc hy hv).mono (fun a ha => List.mem_append_left _ ha))
            refine ⟨vs2, ?_, r2, r3, fun a ha => ?_, fun k c y v hc hy hv => ?_⟩
            · rw [List.map_cons, fill_step place (hpl _ _ _ hplace) hcells hus (by omega)]
              exact r1
            · rcases List.mem_append.1 ha with ha | ha
              · exact (q5 a ha).1
              · exact r4 a ha
            · rw [← List.append_assoc]
              exact r5 k c y v hc hy hv
          · cases h
        · cases h
      · cases h
    · cases h

theorem mapM_get (P : Program) : ∀ {fs : List Field} {pl : List (Nat × Nat)}, fs.mapM (fun f => (P.info? f.type).map fun i => (f.offset, i.size)) = some pl → ∀ {k : Nat} {f : Field}, fs[k]? = some f → ∃ i, P.info? f.type = some i ∧ pl[k]? = some (f.offset, i.size)
  | [], pl, h, k, f, hk => by simp at hk
  | f0 :: fs, pl, h, k, f, hk => by
    simp only [List.mapM_cons, Option.bind_eq_bind, Option.pure_def] at h
    cases hi : P.info? f0.type with
    | none => simp [hi] at h
    | some i =>
      cases hr : fs.mapM (fun f => (P.info? f.type).map fun i => (f.offset, i.size)) with
      | none => simp [hi, hr] at h
      | some rest =>
        simp [hi, hr] at h
        subst h
        cases k with
        | zero =>
          simp only [List.getElem?_cons_zero, Option.some.injEq] at hk
          subst hk
          exact ⟨i, hi, rfl⟩
        | succ k => exact mapM_get P hr (by simpa using hk)

theorem mapM_some (P : Program) : ∀ {fs : List Field} {l : List (Nat × Nat)}, fsChk fs l = true → (l.all fun p => (P.info? p.2).isSome) = true → ∃ pl, fs.mapM (fun f => (P.info? f.type).map fun i => (f.offset, i.size)) = some pl
  | [], [], _, _ => ⟨[], rfl⟩
  | [], _ :: _, h, _ => by cases h
  | _ :: _, [], h, _ => by cases h
  | f :: r, (x, y) :: q, h, ha => by
    simp only [fsChk, Bool.and_eq_true] at h
    simp only [List.all_cons, Bool.and_eq_true] at ha
    obtain ⟨pl, hpl⟩ := mapM_some P h.2 ha.2
    have : f.type = y := Nat.eq_of_beq_eq_true h.1.2
    obtain ⟨i, hi⟩ := Option.isSome_iff_exists.1 ha.1
    exact ⟨(f.offset, i.size) :: pl, by simp [List.mapM_cons, this, hi, hpl]⟩

/-- The places of a struct's or an array's parts, and that it can be built. -/
theorem built_ok (hC : CfgOk P C) {t : Nat} {ti : TI} (hti : C.ty t = some ti) (hag : ti.agg = true) :
    ∃ place : Nat → Option (Nat × Nat), (∀ k off n, C.place t k = some (off, n) → place k = some (off, n)) ∧ ∃ z : Value, zsChk ti.zero z.cells.toList = true ∧
      ∀ (parts : List (Nat × Value)), P.built t parts = Instr.fill place z.cells parts := by
  have hT := hC t ti hti
  obtain ⟨i, z, h1, h2, h3, h4⟩ := hT.zero
  cases hde : ti.desc with
  | struct fs =>
    have hd := hT.desc
    obtain ⟨dd, hu⟩ := hT.und
    rw [hde, hu] at hd
    cases dd <;> simp only [descChk, Bool.false_eq_true] at hd
    rename_i fields
    have hf := hT.fld
    rw [hde] at hf
    obtain ⟨pl, hpl⟩ := mapM_some P hd hf
    refine ⟨(pl.toArray[·]?), fun k off n hk => ?_, z, h3, fun parts => ?_⟩
    · unfold Cfg.place at hk
      rw [hti] at hk
      simp only [hde] at hk
      split at hk
      · rename_i off' ft hfk
        split at hk
        · rename_i fi hfi
          split at hk
          · cases hk
          · simp only [Option.some.injEq, Prod.mk.injEq] at hk
            obtain ⟨rfl, rfl⟩ := hk
            obtain ⟨f, g1, g2, g3⟩ := fsChk_get hd hfk
            obtain ⟨i', g4, g5⟩ := mapM_get P hpl g1
            obtain ⟨i2, g6, g7, _⟩ := (hC ft fi hfi).info
            rw [g3] at g4
            rw [g4] at g6
            simp only [Option.some.injEq] at g6
            subst g6
            simp only [List.getElem?_toArray]
            rw [g5, g2, g7]
        · cases hk
      · cases hk
    · unfold Program.built
      rw [h1, hu]
      simp only [h2, hpl]
  | array n e =>
    have hu := hT.array hde
    -- the element's type is known where a part is placed
    cases hei : C.ty e with
    | none =>
      cases hie : P.info? e with
      | some ie =>
        refine ⟨fun i => some (i * ie.size, ie.size), fun k off n hk => ?_, z, h3, fun parts => ?_⟩
        · unfold Cfg.place at hk
          rw [hti] at hk
          simp only [hde, hei] at hk
          cases hk
        · unfold Program.built
          rw [h1, hu]
          simp only [h2, hie]
      | none =>
        refine ⟨fun _ => none, fun k off n hk => ?_, z, h3, fun parts => ?_⟩
        · unfold Cfg.place at hk
          rw [hti] at hk
          simp only [hde, hei] at hk
          cases hk
        · have hf := hT.fld
          rw [hde] at hf
          simp [fldChk, hie] at hf
    | some ei =>
      obtain ⟨ie, g1, g2, _⟩ := (hC e ei hei).info
      refine ⟨fun i => some (i * ie.size, ie.size), fun k off n hk => ?_, z, h3, fun parts => ?_⟩
      · unfold Cfg.place at hk
        rw [hti] at hk
        simp only [hde, hei, Option.some.injEq, Prod.mk.injEq] at hk
        obtain ⟨rfl, rfl⟩ := hk
        rw [g2]
      · unfold Program.built
        rw [h1, hu]
        simp only [h2, g1]
  | int k => simp [TI.agg, hde] at hag
  | bool => simp [TI.agg, hde] at hag
  | str => simp [TI.agg, hde] at hag
  | slice e => simp [TI.agg, hde] at hag
  | ptr e => simp [TI.agg, hde] at hag
  | other => simp [TI.agg, hde] at hag

variable (hC : CfgOk P C) (hw : WOk w0 own0 cx own w) (hL : ∀ z, SlotOk w cx own env (tvA a) z (L z)) (hg : ∀ gs b, g = some (gs, b) → env gs = [.bool b])
  (hod : o.dst = some d) (hd : d < a.tmps.size) (hn : ∀ d sh, u.dst = some (d, sh) → sh.names d = false) (hp : pstep p env = some env')
include hC hw hL hg hod hd hn hp

theorem build_ok {t : TypeId} {parts : Array (Nat × Operand)} (ho : o.op = .build t parts) (hc : cBuild C L g d t parts.toList = some (u, p)) : Runs P cx own w a env o u env' := by
  unfold cBuild at hc
  split at hc
  · rename_i ti hti
    split at hc
    · rename_i aas cs' ps hcp
      split at hc
      · rename_i hk
        simp only [Bool.and_eq_true] at hk
        obtain ⟨hag, hnd⟩ := hk
        simp only [Option.some.injEq, Prod.mk.injEq] at hc
        obtain ⟨rfl, rfl⟩ := hc
        simp only [pstep, Option.some.injEq] at hp
        subst hp
        obtain ⟨place, hpl, z, hz, hb⟩ := built_ok hC hti hag
        obtain ⟨vs2, r1, r2, r3, r4, r5⟩ := parts_ok hL hg hpl (as0 := []) (ds := ti.zero) (vs := z.cells.toList) hcp (by simp [zcs]) (zsChk_len hz) (fun k c x v hc hx hv => by
          unfold zcs at hc
          rw [List.getElem?_map, hx] at hc
          simp only [Option.map_some, Option.some.injEq] at hc
          subst hc
          have := zChk_ok (zsChk_get hz hx hv) 0 0 w cx own
          exact ⟨this.1, .inr ⟨by cases x <;> rfl, this.2⟩⟩)
        have hr : (execOp a.eval o).run P w = .ok (.value (.agg vs2.toArray)) w := by
          unfold execOp
          have hbb := hb (parts.toList.map fun p => (p.1, a.eval p.2))
          rw [Array.toArray_toList] at r1
          rw [r1] at hbb
          have := run_build (P := P) w t (parts.map fun p => (p.1, a.eval p.2)) vs2.toArray (by rw [Array.toList_map]; exact hbb)
          simp only [ho, Sem.run_bind]
          rw [show (parts.map fun x => match x with | (i, x) => (i, a.eval x)) = (parts.map fun p => (p.1, a.eval p.2)) from rfl, this]
          simp only [Result.andThen_ok, Sem.run_pure]
        refine ⟨_, newOwn own (relabU { aff := aas, dst := some (d, .v true cs') }) w.heap.size none, w, hr, ?_⟩
        rw [hod]
        refine done_new (nb := none) hw (HeapOk.same_world own w _) (fun g i h => h.elim) hnd (fun a ha => .inl (r4 a ha)) (fun k hk => by cases hk)
          (fun s hs => put_ne _ _ _ _ (not_W_dst hs)) (fun s hs => by rw [tvA_put a d _ hd, if_neg (d_dst hs)]) (by simp [Act.put]) rfl (fun st af => ⟨fun p hp => by simp at hp, fun d' sh' he => ?_⟩)
        simp only [Option.some.injEq, Prod.mk.injEq] at he
        obtain ⟨rfl, rfl⟩ := he
        refine ⟨vs2, ?_, (fun h => by cases h), ?_⟩
        · rw [tvA_put a d _ hd, if_pos rfl]; rfl
        · rw [put_self]
          refine ⟨r2, r3, fun k c y v hc hy hv => ?_⟩
          exact (r5 k c y v hc hy hv).ok st af (fun a ha => by simpa using ha)
      · cases hc
    · cases hc
  · cases hc

end

end V
end Go.Proofs.Ytgialjcichiaoaa

/-
Stores.
-/
namespace Go.Proofs.Ytgialjcichiaoaa
namespace V

theorem run_storeCells_fr (P : Program) (g o : Nat) (t : TypeId) (fz : Nat × Nat) : ∀ (vs : List Value) (i : Nat) (cur : Array Value) (w : World), w.heap[g]? = some (.cells cur t fz) →
    (∀ k, o + i ≤ k → k < o + i + vs.length → (fz.1 ≤ k && k < fz.2) = false) → o + i + vs.length ≤ cur.size → (∀ v ∈ vs, v.oneCell' = true) →
    (storeCells ⟨g, o, none⟩ vs i).run P w = .ok () (w.setRow g (cur.toList.take (o + i) ++ vs ++ cur.toList.drop (o + i + vs.length)).toArray)
  | [], i, cur, w, hg, _, _, _ => by
    simp only [storeCells, List.append_nil, List.length_nil, Nat.add_zero, List.take_append_drop, Array.toArray_toList]
    rw [setRow_self w g cur t fz hg]
    rfl
  | v :: rest, i, cur, w, hg, hfz, hl, h1 => by
    have hi : o + i < cur.size := by simp at hl; omega
    have hadd : (⟨g, o, none⟩ : Addr).add i = ⟨g, o + i, none⟩ := by unfold Addr.add; split <;> simp_all
    have hcell : w.cell? ⟨g, o + i, none⟩ = some cur[o + i] := by simp [World.cell?, hg, hi]
    have hfro : w.frozen? ⟨g, o + i, none⟩ = false := by
      have := hfz (o + i) (Nat.le_refl _) (by simp)
      obtain ⟨lo, hi'⟩ := fz
      simp only [World.frozen?, hg]
      exact this
    have hst : (store ((⟨g, o, none⟩ : Addr).add i) v).run P w = .ok () (w.setRow g (cur.setIfInBounds (o + i) v)) := by
      rw [hadd, run_store P w _ v _ (h1 v (by simp)), hcell]
      simp [hfro, setCell_eq_setRow w g (o + i) cur t fz v hg]
    have ih := run_storeCells_fr P g o t fz rest (i + 1) (cur.setIfInBounds (o + i) v) (w.setRow g (cur.setIfInBounds (o + i) v)) (setRow_heap w g cur _ t _ hg)
      (fun k hk1 hk2 => hfz k (by omega) (by simp at hk2 ⊢; omega)) (by simp at hl ⊢; omega) (fun x hx => h1 x (by simp [hx]))
    simp only [storeCells, Sem.run_bind, hst, Result.andThen_ok, ih, setRow_setRow]
    congr 3
    have e := list_seg_step cur.toList (o + i) v rest (by simp at hl ⊢; omega)
    simpa [Array.toList_setIfInBounds, Nat.add_assoc] using e

theorem Cell1.one {v : Value} (h : Cell1 v) : v.oneCell' = true := by
  unfold Value.oneCell'
  split
  · exact absurd rfl (h.1 _)
  · exact absurd rfl (h.2 _)
  · rfl

section
variable {P : Program} {C : Cfg} {w0 : World} {own0 : Own} {cx : Cx} {own own' : Own} {w w' : World} {a : Act} {env env' : Env} {L : Look} {g : Gd} {o : Oper} {u : Up} {p : PS} {d : Nat}

/-- How a store runs. -/
theorem exec_store {t : TypeId} {ti : TI} (hT : TyOk P t ti) {ad x : Operand} (ho : o.op = .store t ad x) {gg off : Nat} (had : a.eval ad = .pointer (some ⟨gg, off, none⟩)) {vs : List Value} (hv : (a.eval x).cells = vs.toArray) (hl : vs.length = ti.size)
    {cur : Array Value} {T : TypeId} {fr : Nat × Nat} (hg : w.heap[gg]? = some (.cells cur T fr)) (hfr : ∀ k, off ≤ k → k < off + vs.length → (fr.1 ≤ k && k < fr.2) = false) (hb : off + vs.length ≤ cur.size) (h1 : ∀ (i : Nat) (v : Value), vs[i]? = some v → Cell1 v) :
    (execOp a.eval o).run P w = .ok .skip (w.setRow gg (cur.toList.take off ++ vs ++ cur.toList.drop (off + vs.length)).toArray) := by
  have hs := run_storeCells_fr P gg off T fr vs 0 cur w hg (fun k h2 h3 => hfr k (by omega) (by omega)) (by omega) (fun v hv => by
    obtain ⟨i, hi⟩ := List.getElem?_of_mem hv
    exact (h1 i v hi).one)
  simp only [Nat.add_zero] at hs
  unfold execOp
  have hsz : (a.eval x).cells.size = ti.size := by rw [hv]; simpa using hl
  simp only [ho, Instr.storeAt, Instr.sureAddr, had, storeVar, Sem.run_bind, Sem.run_pure, Result.andThen_ok, hT.size w, hsz, ne_eq, not_true_eq_false, if_false]
  rw [hv]
  simp only [hs, Result.andThen_ok]

theorem opOk_skip (hod : o.dst = none) (hr : (execOp a.eval o).run P w = .ok .skip w') (hd : Done cx own w a env u own' w' a env') : OpOk P cx own w a env o u env' := by
  intro K Q hK
  unfold Oper.wp
  rw [hr]
  simp only [Oper.upon, hod, Act.put]
  exact hK own' w' a hd

theorem cell_keep {A : Nat × Nat → Prop} {W : Nat → Prop} {dd : Option Nat} {tv tv' : Nat → Value} (st : Step cx own w env tv A W dd own' w' env' tv') {s i : Nat} {c : CS} (hna : noAl c = true) (hA : ∀ m f, c = .o m f → ¬A (s, i + 1)) {x : D} {v : Value}
    (h : CellOk w cx own s i c x v) : CellOk w' cx own' s i c x v := by
  refine ⟨h.1, ?_⟩
  have h2 := h.2
  cases c with
  | n => exact h2
  | s => exact h2
  | r => exact st.rs h2
  | b => exact st.bs h2
  | x => trivial
  | o m f => exact st.ownr (f := f) (hA m f rfl) h2
  | al hh k m f => cases hna

theorem ownersIn_mem {cs : List CS} {b : Nat} : ∀ {n off : Nat} {x : Aff}, x ∈ ownersIn cs b off n → MoveAff x ∧ x.to = .r ∧ x.h = b ∧ off ≤ x.i ∧ x.i < off + n
  | 0, off, x, h => by simp [ownersIn] at h
  | n + 1, off, x, h => by
    simp only [ownersIn, List.mem_append] at h
    rcases h with h | h
    · split at h
      · simp only [List.mem_singleton] at h
        subst h
        exact ⟨⟨rfl, .inr (.inl rfl)⟩, rfl, rfl, Nat.le_refl _, by simp⟩
      · simp at h
    · obtain ⟨h1, h2, h3, h4, h5⟩ := ownersIn_mem h
      exact ⟨h1, h2, h3, by omega, by omega⟩

theorem HeapOk.row' (own : Own) (w : World) (u : Up) {gg : Nat} {cur cur' : Array Value} {T : TypeId} {fr : Nat × Nat} {i : OI} (hg : w.heap[gg]? = some (.cells cur T fr)) (hs : cur'.size = cur.size) (ho : own gg = some i) (hA : u.A i.leaf) (hb : i.bound = some 0) :
    HeapOk own w (w.setRow gg cur') u (fun g => g = gg) := by
  refine ⟨rfl, rfl, rfl, by simp, fun g _ hne => setRow_other w gg g cur' hne, ?_, ?_, ?_⟩
  · rintro g rfl; exact ⟨i, ho, hA⟩
  · rintro g o' rfl hc; exact absurd ⟨i, 0, ho, hb, Nat.zero_le _⟩ hc
  · rintro g c T' rfl hh
    rw [hg] at hh
    simp only [Option.some.injEq, Obj.cells.injEq] at hh
    obtain ⟨rfl, rfl, rfl⟩ := hh
    exact ⟨cur', setRow_heap w g cur cur' T _ hg, hs⟩

theorem no_dst {aas : List Aff} {bx : List (Nat × Sh)} (s : Nat) : (Up.isDst ⟨aas, bx, none⟩ s) = false := rfl

variable (hC : CfgOk P C) (hw : WOk w0 own0 cx own w) (hL : ∀ z, SlotOk w cx own env (tvA a) z (L z)) (hg : ∀ gs b, g = some (gs, b) → env gs = [.bool b])
  (hod : o.dst = none) (hp : pstep p env = some env')
include hC hw hL hg hod hp

theorem storeBox_ok {t : TypeId} {ti : TI} (hti : C.ty t = some ti) {s b off gg : Nat} {x : Operand} (ho : o.op = .store t (.tmp s) x) (h1 : tvA a b = .pointer (some ⟨gg, 0, none⟩)) (h2 : tvA a s = .pointer (some ⟨gg, off, none⟩))
    {cs xs : List CS} {aas : List Aff} {ag : Bool} (hb : L b = .box false cs) (hpc : putCells L g b off x = some (aas, ag, xs)) (hxs : xs.length = ti.size) (hle : off + ti.size ≤ cs.length) (hnd : noDup (ownersIn cs b off ti.size ++ aas) = true) (hal : cs.all noAl = true)
    (hu : u = { aff := ownersIn cs b off ti.size ++ aas, bx := [(b, .box false (cs.take off ++ xs ++ cs.drop (off + ti.size)))] }) (hpp : p = .st b off (opd x)) : OpOk P cx own w a env o u env' := by
  subst hpp
  have hLb := hL b
  rw [hb] at hLb
  obtain ⟨g2, cur, T, h3, h4, h5, h6⟩ := hLb
  rw [h1] at h3
  simp only [Value.pointer.injEq, Option.some.injEq, Addr.mk.injEq, and_true] at h3
  subst h3
  simp only [Bool.false_eq_true, if_false] at h6
  obtain ⟨vs, q1, q2, q3, q4, q5, q6, q7⟩ := putCells_ok hL hg hpc
  have hcl : cs.length = (env b).length := h5.1
  have hvl : cur.size = (env b).length := by have := h5.2.1; simpa using this
  have hxe : ((opd x).get env).length = ti.size := q3.symm.trans hxs
  have hvs : vs.length = ti.size := q4.trans hxe
  simp only [pstep] at hp
  rw [if_pos (by omega)] at hp
  simp only [Option.some.injEq] at hp
  subst hp
  have hone : ∀ (i : Nat) (v : Value), vs[i]? = some v → Cell1 v := fun i v hv => by
    have hi : i < vs.length := (List.getElem?_eq_some_iff.1 hv).1
    exact (q7 i _ _ v (List.getElem?_eq_getElem (by omega)) (List.getElem?_eq_getElem (by omega)) hv).1
  have hcells : (a.eval x).cells = vs.toArray := by rw [q1]; exact cells_wrap q2 hone
  have hr := exec_store (hC t ti hti) ho (show a.eval (.tmp s) = _ from h2) hcells hvs h4 (fun k _ _ => by simp) (by omega) hone
  have hce : cs.take off ++ xs ++ cs.drop (off + ti.size) = cs.take off ++ xs ++ cs.drop (off + xs.length) := by rw [hxs]
  have b1 : off + xs.length ≤ cs.length := by omega
  have b2 : off + ((opd x).get env).length ≤ (env b).length := by omega
  have b3 : off + vs.length ≤ cur.toList.length := by simp; omega
  have hal' : ∀ c ∈ cs, noAl c = true := fun c hc => List.all_eq_true.1 hal c hc
  have hA : u.A (b, 0) := .inr (.inl ⟨_, by rw [hu]; exact List.mem_cons_self .., rfl, rfl⟩)
  refine opOk_skip hod hr (own' := newOwn own (relabU u) w.heap.size none) ?_
  have hsz : (cur.toList.take off ++ vs ++ cur.toList.drop (off + vs.length)).toArray.size = cur.size := by
    have := splice_len b3
    simpa using this
  have haff : ∀ y ∈ u.aff, (MoveAff y ∧ y.to = .r ∧ y.h = b ∧ off ≤ y.i ∧ y.i < off + ti.size) ∨ (y ∈ aas) := by
    intro y hy
    rw [hu] at hy
    rcases List.mem_append.1 hy with hy | hy
    · exact .inl (ownersIn_mem hy)
    · exact .inr hy
  refine done_new (nb := none) (gb := fun g => g = gg) hw (HeapOk.row' own w u h4 hsz h6 hA rfl) (fun g i hgg hi => ?_) (by rw [hu]; exact hnd) (fun y hy => ?_) (fun k hk => by cases hk)
    (fun z hz => ?_) (fun _ _ => rfl) rfl rfl (fun st af => ⟨fun p hp _ => ?_, fun d' sh' he => ?_⟩)
  · subst hgg
    rw [h6] at hi
    simp only [Option.some.injEq] at hi
    subst hi
    exact .inl rfl
  · rcases haff y hy with h | h
    · exact .inl h.1
    · exact .inl (q5 y h).1
  · refine put_ne _ _ _ _ (fun e => hz (.inr ⟨_, by rw [hu]; exact List.mem_cons_self .., e.symm⟩))
  · rw [hu] at hp
    simp only [List.mem_singleton] at hp
    subst hp
    refine ⟨gg, _, T, h1, setRow_heap w gg cur _ T _ h4, ?_, ?_⟩
    · rw [put_self]
      have hde : splice (env b) off ((opd x).get env) = (env b).take off ++ (opd x).get env ++ (env b).drop (off + ((opd x).get env).length) := rfl
      refine ⟨by rw [hce, hde, splice_len b1, splice_len b2]; exact hcl, by rw [hde, splice_len b2, splice_len b3]; simpa using hvl, fun k c y v hc hy hv => ?_⟩
      rw [hce, splice_get b1] at hc
      rw [hde, splice_get b2] at hy
      rw [splice_get b3] at hv
      have keep : ¬(off ≤ k ∧ k < off + ti.size) → cs[k]? = some c → (env b)[k]? = some y → cur.toList[k]? = some v → CellOk (w.setRow gg (cur.toList.take off ++ vs ++ cur.toList.drop (off + vs.length)).toArray) cx (newOwn own (relabU u) w.heap.size none) b k c y v := by
        intro hk hc hy hv
        refine cell_keep st (hal' c (List.mem_of_getElem? hc)) (fun m f hcf hAA => ?_) (h5.2.2 k c y v hc hy hv)
        rcases hAA with h | ⟨_, _, _, h⟩ | ⟨j, h, h'⟩
        · rw [hu] at h; simp [Up.isDst] at h
        · simp at h
        · simp only [Nat.add_right_cancel_iff] at h
          subst h
          rcases h' with h' | h'
          · obtain ⟨z, hz⟩ := Option.isSome_iff_exists.1 h'
            obtain ⟨z1, z2, z3⟩ := Up.find_some hz
            rcases haff z z1 with h | h
            · obtain ⟨_, _, _, h8, h9⟩ := h
              exact hk ⟨by rw [← z3]; exact h8, by rw [← z3]; exact h9⟩
            · exact (q5 z h).2.2 z2
          · obtain ⟨z, hz, hto⟩ := List.any_eq_true.1 h'
            rcases haff z hz with h | h
            · rw [h.2.1] at hto; cases hto
            · obtain ⟨_, ⟨kk, m', f', h8, h9⟩, _⟩ := q5 z h
              rw [h8] at hto
              simp only [CS.isTo, Bool.and_eq_true] at hto
              have := Nat.eq_of_beq_eq_true hto.2
              omega
      by_cases c1 : k < off
      · rw [if_pos c1] at hc hy hv
        exact keep (by omega) hc hy hv
      · rw [if_neg c1] at hc hy hv
        by_cases c2 : k < off + ti.size
        · rw [if_pos (by omega)] at hc hy hv
          have := (q7 (k - off) c y v hc hy hv).ok st af (fun y hy => by rw [hu]; exact List.mem_append_right _ hy)
          rwa [show off + (k - off) = k from by omega] at this
        · rw [if_neg (by omega)] at hc hy hv
          exact keep (by omega) hc hy hv
    · simp only [Bool.false_eq_true, if_false]
      rw [newOwn_old hw h6]
      simp only [relabU]
      rw [hu]
      rfl
  · rw [hu] at he; cases he

end

end V
end Go.Proofs.Ytgialjcichiaoaa

/-
Stores into arrays and into elements of lists.
-/
namespace Go.Proofs.Ytgialjcichiaoaa
namespace V

section
variable {P : Program} {C : Cfg} {w0 : World} {own0 : Own} {cx : Cx} {own own' : Own} {w w' : World} {a : Act} {env env' : Env} {L : Look} {g : Gd} {o : Oper} {u : Up} {p : PS} {d : Nat}

/-- An operand by its cells. -/
theorem opCells_ok (hL : ∀ z, SlotOk w cx own env (tvA a) z (L z)) (hg : ∀ gs b, g = some (gs, b) → env gs = [.bool b]) {x : Operand} {n : Nat} (hx : ∀ c, opCells L g x ≠ [c] ∨ c ≠ .x) (hn : (opCells L g x).length = n) :
    ∃ ag vs s, a.eval x = wrapV ag vs ∧ (ag = false → vs.length = 1) ∧ (∀ t, x = .tmp t → s = t) ∧ ((opd x).get env).length = n ∧ vs.length = n ∧ opSh L g x = .v ag (opCells L g x) ∧
      All3 (CellOk w cx own s) (opCells L g x) ((opd x).get env) vs := by
  unfold opCells at *
  cases he : opSh L g x with
  | v ag cs =>
    rw [he] at hn
    simp only at hn
    obtain ⟨vs, s, h1, h2, h3, h4⟩ := opV hL hg he
    exact ⟨ag, vs, s, h1, h2, h3, by rw [← h4.1]; exact hn, by rw [h4.2.1, ← h4.1]; exact hn, rfl, h4⟩
  | dead => rw [he] at hx; rcases hx .x with h | h <;> exact absurd rfl h
  | box _ _ => rw [he] at hx; rcases hx .x with h | h <;> exact absurd rfl h
  | pt _ _ => rw [he] at hx; rcases hx .x with h | h <;> exact absurd rfl h
  | el _ _ => rw [he] at hx; rcases hx .x with h | h <;> exact absurd rfl h
  | bx _ _ _ => rw [he] at hx; rcases hx .x with h | h <;> exact absurd rfl h
  | clo _ _ => rw [he] at hx; rcases hx .x with h | h <;> exact absurd rfl h
  | tup _ => rw [he] at hx; rcases hx .x with h | h <;> exact absurd rfl h
  | opt _ _ _ => rw [he] at hx; rcases hx .x with h | h <;> exact absurd rfl h

theorem zcs_s {z : List D} (h : allScal z = true) : ∀ c ∈ zcs z, c = .s := by
  intro c hc
  unfold zcs at hc
  obtain ⟨y, hy, rfl⟩ := List.mem_map.1 hc
  have := List.all_eq_true.1 h y hy
  cases y <;> first | rfl | cases this

variable (hC : CfgOk P C) (hw : WOk w0 own0 cx own w) (hL : ∀ z, SlotOk w cx own env (tvA a) z (L z)) (hg : ∀ gs b, g = some (gs, b) → env gs = [.bool b])
  (hod : o.dst = none) (hp : pstep p env = some env')
include hC hw hL hg hod hp

theorem storeBx_ok {t : TypeId} {ti : TI} (hti : C.ty t = some ti) {s b es off : Nat} {x : Operand} (ho : o.op = .store t (.tmp s) x) (hs : SlotOk w cx own env (tvA a) s (.bx b es off))
    {cs : List CS} (hb : L b = .box false cs) (hall : cs.all (· = .s) = true) (hx : opCells L g x = zcs ti.zero) (hz : allScal ti.zero = true)
    (hu : u = { bx := [(b, .box false cs)] }) (hpp : p = .bxs s b es off (opd x)) : OpOk P cx own w a env o u env' := by
  subst hpp
  have hT := hC t ti hti
  obtain ⟨k, n, gg, h1, h2, h3, h4⟩ := hs
  have hLb := hL b
  rw [hb] at hLb
  obtain ⟨g2, cur, T, h5, h6, h7, h8⟩ := hLb
  rw [h3] at h5
  simp only [Value.pointer.injEq, Option.some.injEq, Addr.mk.injEq, and_true] at h5
  subst h5
  simp only [Bool.false_eq_true, if_false] at h8
  have hzs := zcs_s hz
  obtain ⟨ag, vs, sx, q1, q2, q3, q4, q5, q6, q7⟩ := opCells_ok (n := ti.size) hL hg (x := x) (fun c => by
    rcases Classical.em (c = .x) with rfl | hc
    · left
      intro he
      have := hzs .x (by rw [← hx, he]; simp)
      cases this
    · exact .inr hc) (by rw [hx]; simp [zcs, hT.len])
  simp only [pstep, h1] at hp
  split at hp
  · rename_i hle
    simp only [Option.some.injEq] at hp
    subst hp
    have hcl : cs.length = (env b).length := h7.1
    have hvl : cur.size = (env b).length := by have := h7.2.1; simpa using this
    have hone : ∀ (i : Nat) (v : Value), vs[i]? = some v → Cell1 v := fun i v hv => by
      have hi : i < vs.length := (List.getElem?_eq_some_iff.1 hv).1
      have hl : (opCells L g x).length = ti.size := by rw [hx]; simp [zcs, hT.len]
      exact (q7.2.2 i _ _ v (List.getElem?_eq_getElem (by omega)) (List.getElem?_eq_getElem (by omega)) hv).1
    have hcells : (a.eval x).cells = vs.toArray := by rw [q1]; exact cells_wrap q2 hone
    have hr := exec_store hT ho (show a.eval (.tmp s) = _ from h4) hcells q5 h6 (fun k _ _ => by simp) (by omega) hone
    have b2 : (n.toNat * es + off) + ((opd x).get env).length ≤ (env b).length := by omega
    have b3 : (n.toNat * es + off) + vs.length ≤ cur.toList.length := by simp; omega
    have hA : u.A (b, 0) := .inr (.inl ⟨_, by rw [hu]; exact List.mem_cons_self .., rfl, rfl⟩)
    refine opOk_skip hod hr (own' := newOwn own (relabU u) w.heap.size none) ?_
    have hsz : (cur.toList.take (n.toNat * es + off) ++ vs ++ cur.toList.drop (n.toNat * es + off + vs.length)).toArray.size = cur.size := by
      have := splice_len b3
      simpa using this
    refine done_new (nb := none) (gb := fun g => g = gg) hw (HeapOk.row' own w u h6 hsz h8 hA rfl) (fun g i hgg hi => ?_) (by rw [hu]; rfl) (fun y hy => by rw [hu] at hy; simp at hy) (fun k hk => by cases hk)
      (fun z hz => ?_) (fun _ _ => rfl) rfl rfl (fun st af => ⟨fun p hp _ => ?_, fun d' sh' he => ?_⟩)
    · subst hgg
      rw [h8] at hi
      simp only [Option.some.injEq] at hi
      subst hi
      exact .inl rfl
    · refine put_ne _ _ _ _ (fun e => hz (.inr ⟨_, by rw [hu]; exact List.mem_cons_self .., e.symm⟩))
    · rw [hu] at hp
      simp only [List.mem_singleton] at hp
      subst hp
      refine ⟨gg, _, T, h3, setRow_heap w gg cur _ T _ h6, ?_, ?_⟩
      · rw [put_self]
        have hde : splice (env b) (n.toNat * es + off) ((opd x).get env) = (env b).take (n.toNat * es + off) ++ (opd x).get env ++ (env b).drop (n.toNat * es + off + ((opd x).get env).length) := rfl
        refine ⟨by rw [hde, splice_len b2]; exact hcl, by rw [hde, splice_len b2, splice_len b3]; simpa using hvl, fun k c y v hc hy hv => ?_⟩
        have hcs : c = .s := by simpa using List.all_eq_true.1 hall c (List.mem_of_getElem? hc)
        subst hcs
        rw [hde, splice_get b2] at hy
        rw [splice_get b3] at hv
        by_cases c1 : k < n.toNat * es + off
        · rw [if_pos c1] at hy hv
          exact h7.2.2 k .s y v hc hy hv
        · rw [if_neg c1] at hy hv
          by_cases c2 : k < n.toNat * es + off + ti.size
          · rw [if_pos (by omega)] at hy hv
            have hl : (opCells L g x).length = ti.size := by rw [hx]; simp [zcs, hT.len]
            have hk : k - (n.toNat * es + off) < (opCells L g x).length := by omega
            have := q7.2.2 _ _ y v (List.getElem?_eq_getElem hk) hy hv
            have hc2 : (opCells L g x)[k - (n.toNat * es + off)] = .s := hzs _ (by rw [← hx]; exact List.getElem_mem hk)
            rw [hc2] at this
            exact this
          · rw [if_neg (by omega)] at hy hv
            exact h7.2.2 k .s y v hc hy hv
      · simp only [Bool.false_eq_true, if_false]
        rw [newOwn_old hw h8]
        simp only [relabU]
        rw [hu]
        rfl
    · rw [hu] at he; cases he
  · cases hp

end

section
variable {P : Program} {C : Cfg} {w0 : World} {own0 : Own} {cx : Cx} {own own' : Own} {w w' : World} {a : Act} {env env' : Env} {L : Look} {g : Gd} {o : Oper} {u : Up} {p : PS} {d : Nat}

/-- A value that is given up: frozen behind the operation. -/
def PreR (w : World) (cx : Cx) (own : Own) (aas : List Aff) (x : D) (v : Value) : Prop :=
  Cell1 v ∧ (Rep w (RS cx own) x v ∨ ∃ a ∈ aas, a.to = .r ∧ OwnRep w cx own (a.h, a.i + 1) a.m a.f x v)

theorem PreR.mono {aas bs : List Aff} {x : D} {v : Value} (h : PreR w cx own aas x v) (hs : ∀ a ∈ aas, a ∈ bs) : PreR w cx own bs x v :=
  ⟨h.1, h.2.imp id (fun ⟨a, ha, h⟩ => ⟨a, hs a ha, h⟩)⟩

theorem PreR.ok {A : Nat × Nat → Prop} {W : Nat → Prop} {dd' : Option Nat} {tv tv' : Nat → Value} (st : Step cx own w env tv A W dd' own' w' env' tv') (af : AffOk cx own w u own' w') {aas : List Aff} {x : D} {v : Value}
    (h : PreR w cx own aas x v) (hs : ∀ a ∈ aas, a ∈ u.aff) : Rep w' (RS cx own') x v := by
  rcases h.2 with h | ⟨a, ha, hto, ho⟩
  · exact st.rs h
  · have := af.to a (hs a ha) x v ho 0 0
    rw [hto] at this
    exact this

theorem freezeCells_ok {s : Nat} {ds : List D} {vs : List Value} : ∀ {cs : List CS} {i : Nat} {aas : List Aff}, freezeCells s cs i = some aas →
    (∀ (k : Nat) (c : CS) (x : D) (v : Value), cs[k]? = some c → ds[i + k]? = some x → vs[i + k]? = some v → CellOk w cx own s (i + k) c x v) →
    (∀ a ∈ aas, MoveAff a ∧ a.to = .r) ∧ ∀ (k : Nat) (x : D) (v : Value), k < cs.length → ds[i + k]? = some x → vs[i + k]? = some v → PreR w cx own aas x v
  | [], i, aas, h, _ => by
    simp only [freezeCells, Option.some.injEq] at h
    subst h
    exact ⟨fun a ha => by simp at ha, fun k x v hk => by simp at hk⟩
  | c0 :: r, i, aas, h, hc => by
    simp only [freezeCells] at h
    split at h
    · cases h
    rename_i as1 hm
    obtain ⟨h1, h2⟩ := freezeCells_ok hm (fun k c x v hk hx hv => by
      have := hc (k + 1) c x v (by simpa using hk) (by rw [← hx]; congr 1; omega) (by rw [← hv]; congr 1; omega)
      rwa [show i + (k + 1) = i + 1 + k from by omega] at this)
    have tail : ∀ {bs : List Aff}, (∀ a ∈ as1, a ∈ bs) → (∀ (x : D) (v : Value), ds[i]? = some x → vs[i]? = some v → PreR w cx own bs x v) →
        ∀ (k : Nat) (x : D) (v : Value), k < (c0 :: r).length → ds[i + k]? = some x → vs[i + k]? = some v → PreR w cx own bs x v := by
      intro bs hs hz k x v hk hx hv
      cases k with
      | zero => exact hz x v hx hv
      | succ k =>
        exact (h2 k x v (by simpa using hk) (by rw [← hx]; congr 1; omega) (by rw [← hv]; congr 1; omega)).mono hs
    have h0 : ∀ (x : D) (v : Value), ds[i]? = some x → vs[i]? = some v → CellOk w cx own s i c0 x v := fun x v hx hv => hc 0 c0 x v rfl hx hv
    cases c0 with
    | s =>
      simp only [Option.some.injEq] at h
      subst h
      exact ⟨h1, tail (fun a ha => ha) (fun x v hx hv => ⟨(h0 x v hx hv).1, .inl (.scal (h0 x v hx hv).2)⟩)⟩
    | n =>
      simp only [Option.some.injEq] at h
      subst h
      exact ⟨h1, tail (fun a ha => ha) (fun x v hx hv => ⟨(h0 x v hx hv).1, .inl (by obtain ⟨e1, e2⟩ := (h0 x v hx hv).2; rw [e1, e2]; exact .nil _ _)⟩)⟩
    | r =>
      simp only [Option.some.injEq] at h
      subst h
      exact ⟨h1, tail (fun a ha => ha) (fun x v hx hv => ⟨(h0 x v hx hv).1, .inl (h0 x v hx hv).2⟩)⟩
    | o m f =>
      simp only [Option.some.injEq] at h
      subst h
      refine ⟨fun a ha => ?_, tail (fun a ha => List.mem_cons_of_mem _ ha) (fun x v hx hv => ⟨(h0 x v hx hv).1, .inr ⟨_, List.mem_cons_self .., rfl, (h0 x v hx hv).2⟩⟩)⟩
      rcases List.mem_cons.1 ha with rfl | ha
      · exact ⟨⟨rfl, .inr (.inl rfl)⟩, rfl⟩
      · exact h1 a ha
    | al hh k m f =>
      simp only [Option.some.injEq] at h
      subst h
      refine ⟨fun a ha => ?_, tail (fun a ha => List.mem_cons_of_mem _ ha) (fun x v hx hv => ⟨(h0 x v hx hv).1, .inr ⟨_, List.mem_cons_self .., rfl, (h0 x v hx hv).2⟩⟩)⟩
      rcases List.mem_cons.1 ha with rfl | ha
      · exact ⟨⟨rfl, .inr (.inl rfl)⟩, rfl⟩
      · exact h1 a ha
    | b => cases h
    | x => cases h

theorem freezeOp_ok (hL : ∀ z, SlotOk w cx own env (tvA a) z (L z)) (hg : ∀ gs b, g = some (gs, b) → env gs = [.bool b]) {x : Operand} {aas : List Aff} (h : freezeOp L g x = some aas) :
    ∃ ag vs, a.eval x = wrapV ag vs ∧ (ag = false → vs.length = 1) ∧ ((opd x).get env).length = (opCells L g x).length ∧ vs.length = (opCells L g x).length ∧ (∀ a ∈ aas, MoveAff a ∧ a.to = .r) ∧
      ∀ (k : Nat) (y : D) (v : Value), ((opd x).get env)[k]? = some y → vs[k]? = some v → PreR w cx own aas y v := by
  unfold freezeOp at h
  split at h
  · rename_i v
    split at h
    · rename_i hk
      have hcc := const_ok (w := w) (cx := cx) (own := own) hk 0 0
      refine ⟨false, [v], rfl, fun _ => rfl, ?_, ?_, ?_, ?_⟩
      · simp [opCells, opSh, hk, opd, Opd.get]
      · simp [opCells, opSh, hk]
      · intro a ha
        split at h
        · cases h
        · simp only [Option.some.injEq] at h; subst h; simp at ha
      · intro k y u hy hu
        cases k with
        | zero =>
          simp only [opd, Opd.get, List.getElem?_cons_zero, Option.some.injEq] at hy hu
          subst hy; subst hu
          refine ⟨hcc.1, .inl ?_⟩
          have h2 := hcc.2
          generalize he : (ofConst v).2 = c at h h2
          unfold ofConst at he
          split at he
          all_goals first
            | (subst he; exact .scal h2)
            | (subst he; obtain ⟨e1, e2⟩ := h2; rw [e1, e2]; exact .nil _ _)
            | (subst he; cases h)
        | succ k => simp at hu
    · cases h
  · rename_i s
    have hs := shAt_ok hL hg s
    split at h
    · rename_i ag cs he
      rw [he] at hs
      obtain ⟨vs, h1, h2, h3⟩ := hs
      obtain ⟨k1, k2⟩ := freezeCells_ok (ds := env s) (vs := vs) h (fun k c x v hc hx hv => by
        rw [Nat.zero_add] at hx hv ⊢
        exact h3.2.2 k c x v hc hx hv)
      have hoc : opCells L g (.tmp s) = cs := by simp [opCells, opSh, he]
      refine ⟨ag, vs, h1, h2, by rw [hoc]; exact h3.1.symm, by rw [hoc, h3.2.1, h3.1], k1, fun k y v hy hv => ?_⟩
      have hy' : (env s)[k]? = some y := hy
      have hk : k < cs.length := by rw [h3.1]; exact (List.getElem?_eq_some_iff.1 hy').1
      exact k2 k y v hk (by rw [Nat.zero_add]; exact hy') (by rw [Nat.zero_add]; exact hv)
    · cases h
  · cases h

end

end V
end Go.Proofs.Ytgialjcichiaoaa

/-
Stores into elements of owned lists; all stores.
-/
namespace Go.Proofs.Ytgialjcichiaoaa
namespace V

section
variable {P : Program} {C : Cfg} {w0 : World} {own0 : Own} {cx : Cx} {own own' : Own} {w w' : World} {a : Act} {env env' : Env} {L : Look} {g : Gd} {o : Oper} {u : Up} {p : PS} {d : Nat}

variable (hC : CfgOk P C) (hw : WOk w0 own0 cx own w) (hL : ∀ z, SlotOk w cx own env (tvA a) z (L z)) (hg : ∀ gs b, g = some (gs, b) → env gs = [.bool b])
  (hod : o.dst = none) (hp : pstep p env = some env')
include hC hw hL hg hod hp

theorem storeEl_ok {t : TypeId} {ti : TI} (hti : C.ty t = some ti) {s h i off : Nat} {x : Operand} (ho : o.op = .store t (.tmp s) x) {fsz : Nat} (hs : SlotOk w cx own env (tvA a) s (.el (.al h i true ⟨fsz, false⟩) off))
    {aas : List Aff} (hfz : freezeOp L g x = some aas) (hnd : noDup (⟨h, i, true, ⟨fsz, false⟩, .o true ⟨fsz, false⟩, .x⟩ :: aas) = true) (hsz : (opCells L g x).length = ti.size) (hho : holdsO i ⟨fsz, false⟩ (L h) = true) (hne : ∀ y ∈ aas, y.h ≠ h)
    (hu : u = { aff := ⟨h, i, true, ⟨fsz, false⟩, .o true ⟨fsz, false⟩, .x⟩ :: aas, bx := [(h, L h)] }) (hpp : p = .els s off h i (opd x)) : OpOk P cx own w a env o u env' := by
  subst hpp
  have hT := hC t ti hti
  obtain ⟨xs, k, n, g1, o0, sz, len, cap, h1, h2, h3, h4, h5, h6, h7⟩ := hs
  obtain ⟨ag, vs, q1, q2, q3, q4, q5, q6⟩ := freezeOp_ok hL hg hfz
  rw [hsz] at q3 q4
  have hone : ∀ (i : Nat) (v : Value), vs[i]? = some v → Cell1 v := fun i v hv => by
    have hi : i < vs.length := (List.getElem?_eq_some_iff.1 hv).1
    exact (q6 i _ v (List.getElem?_eq_getElem (by omega)) hv).1
  have hcells : (a.eval x).cells = vs.toArray := by rw [q1]; exact cells_wrap q2 hone
  simp only [pstep, h1] at hp
  split at hp
  rotate_left
  · cases hp
  rename_i _ _ xs1 k1 n1 ys he1 he2
  simp only [List.cons.injEq, D.sl.injEq, D.int.injEq, and_true] at he1
  obtain ⟨rfl, rfl, rfl⟩ := he1
  split at hp
  rotate_left
  · cases hp
  rename_i _ _ xa yb hxa hyb
  split at hp
  rotate_left
  · cases hp
  rename_i hle
  simp only [Option.some.injEq] at hp
  subst hp
  -- the spine
  have h62 : OwnRep w cx own (h, i + 1) true ⟨fsz, false⟩ (.sl xs) (.slice (some ⟨g1, o0, none⟩) len cap) := h6.2
  have hspine : o0 = 0 ∧ own g1 = some ⟨(h, i + 1), [], some 0⟩ := by
    cases h62 with
    | sl _ g cap cur T fr vs e1 e2 => exact ⟨rfl, e2⟩
  obtain ⟨rfl, hown1⟩ := hspine
  -- what slot h holds
  have hkey : ∀ (cs : List CS) (vsh : List Value), isM ⟨fsz, false⟩ (cs.getD i .x) = true → cs.all noAl = true → All3 (CellOk w cx own h) cs (env h) vsh →
      ∃ (cur : Array Value) (T : TypeId) (fr : Nat × Nat), w.heap[g1]? = some (.cells cur T fr) ∧
        (∀ j, n.toNat * sz + off ≤ j → j < n.toNat * sz + off + vs.length → (fr.1 ≤ j && j < fr.2) = false) ∧ n.toNat * sz + off + vs.length ≤ cur.size ∧
        ∀ (w' : World) (own' : Own) (st : Step cx own w env (tvA a) u.A u.W u.d own' w' (put env h ((env h).set i (.sl (ys.set n.toNat (splice yb off ((opd x).get env)))))) (tvA a)) (af : AffOk cx own w u own' w'),
          own' g1 = some ⟨(h, i + 1), [], some 0⟩ → w'.heap[g1]? = some (.cells (cur.toList.take (n.toNat * sz + off) ++ vs ++ cur.toList.drop (n.toNat * sz + off + vs.length)).toArray T fr) →
          All3 (CellOk w' cx own' h) cs ((env h).set i (.sl (ys.set n.toNat (splice yb off ((opd x).get env))))) vsh := by
    intro cs vsh hci hal h3'
    have hil : i < cs.length := by
      rcases Nat.lt_or_ge i cs.length with hh | hh
      · exact hh
      · rw [List.getD_eq_getElem?_getD, List.getElem?_eq_none hh] at hci; cases hci
    have hcs : cs[i]? = some (.o true ⟨fsz, false⟩) := by
      rw [List.getD_eq_getElem?_getD, List.getElem?_eq_getElem hil] at hci
      rw [List.getElem?_eq_getElem hil]
      simp only [Option.getD_some] at hci
      unfold isM at hci
      split at hci
      · rename_i e; rw [e, ← fEq_iff.1 hci]
      · cases hci
    have hvi : i < vsh.length := by rw [h3'.2.1, ← h3'.1]; exact hil
    have hvh : vsh[i]? = some vsh[i] := List.getElem?_eq_getElem hvi
    have hc := h3'.2.2 i _ _ _ hcs he2 hvh
    have hc2 : OwnRep w cx own (h, i + 1) true ⟨fsz, false⟩ (.sl ys) vsh[i] := hc.2
    generalize hvhe : vsh[i] = vh at hc hc2 hvh
    cases hc2 with
    | nil => simp at hyb
    | sl _ g2 cap2 cur T fr vs2 e1 e2 e3 e4 e5 e6 e7 e8 e9 e10 =>
      have hgg : g2 = g1 := hw.inj g2 g1 _ _ e2 hown1 rfl rfl
      subst hgg
      have hszz : fsz = sz := by
        have q1 := e8 yb (List.mem_of_getElem? hyb)
        have q2 := h4 xa (List.mem_of_getElem? hxa)
        exact q1.symm.trans (hle.1.symm.trans q2)
      subst hszz
      simp only [] at e5 e6 e7 e8 e9 e10
      have hybl : yb.length = fsz := e8 yb (List.mem_of_getElem? hyb)
      have hnl : n.toNat < ys.length := (List.getElem?_eq_some_iff.1 hyb).1
      have hmul : n.toNat * fsz + fsz ≤ ys.length * fsz := by rw [← Nat.succ_mul]; exact Nat.mul_le_mul_right _ hnl
      have hmul2 : ys.length * fsz ≤ cap2 * fsz := Nat.mul_le_mul_right _ e3
      refine ⟨cur, T, fr, e1, fun j hj1 hj2 => e6 j (by omega), by omega, fun w' own' st af hown' hheap' => ?_⟩
      have b2 : off + ((opd x).get env).length ≤ yb.length := hle.2
      have b3 : (n.toNat * fsz + off) + vs.length ≤ cur.toList.length := by simp; omega
      refine ⟨by rw [List.length_set]; exact h3'.1, by rw [List.length_set]; exact h3'.2.1, fun j c y v hcj hyj hvj => ?_⟩
      by_cases hji : j = i
      · subst hji
        rw [hcs] at hcj
        simp only [Option.some.injEq] at hcj
        subst hcj
        rw [hvh] at hvj
        simp only [Option.some.injEq] at hvj
        subst hvj
        rw [List.getElem?_set_self (by rw [← h3'.1]; exact hil)] at hyj
        simp only [Option.some.injEq] at hyj
        subst hyj
        refine ⟨hc.1, ?_⟩
        have hyl : (ys.set n.toNat (splice yb off ((opd x).get env))).length = ys.length := by simp
        have hde : splice yb off ((opd x).get env) = yb.take off ++ (opd x).get env ++ yb.drop (off + ((opd x).get env).length) := rfl
        have hsl : (splice yb off ((opd x).get env)).length = fsz := by rw [hde, splice_len b2]; exact hybl
        have hcur : ∀ j, (cur.toList.take (n.toNat * fsz + off) ++ vs ++ cur.toList.drop (n.toNat * fsz + off + vs.length)).toArray[j]? = if j < n.toNat * fsz + off then cur[j]? else if j < n.toNat * fsz + off + vs.length then vs[j - (n.toNat * fsz + off)]? else cur[j]? := by
          intro j
          rw [List.getElem?_toArray, splice_get b3]
          simp
        have hcs2 : (cur.toList.take (n.toNat * fsz + off) ++ vs ++ cur.toList.drop (n.toNat * fsz + off + vs.length)).toArray.size = cur.size := by
          have := splice_len b3
          simpa using this
        have hget : ∀ (i' : Nat) (x' : List D), (ys.set n.toNat (splice yb off ((opd x).get env)))[i']? = some x' → (i' = n.toNat ∧ x' = splice yb off ((opd x).get env)) ∨ (i' ≠ n.toNat ∧ ys[i']? = some x') := by
          intro i' x' hx'
          by_cases hin : i' = n.toNat
          · subst hin
            rw [List.getElem?_set_self hnl] at hx'
            simp only [Option.some.injEq] at hx'
            exact .inl ⟨rfl, hx'.symm⟩
          · rw [List.getElem?_set_ne (Ne.symm hin)] at hx'
            exact .inr ⟨hin, hx'⟩
        -- what stands at each place, and that it is good
        have hval : ∀ (i' : Nat) (x' : List D) (j' : Nat) (d' : D), (ys.set n.toNat (splice yb off ((opd x).get env)))[i']? = some x' → x'[j']? = some d' →
            ∃ v', (cur.toList.take (n.toNat * fsz + off) ++ vs ++ cur.toList.drop (n.toNat * fsz + off + vs.length)).toArray[i' * fsz + j']? = some v' ∧ Rep w' (RS cx own') d' v' := by
          intro i' x' j' d' hx' hd'
          rcases hget i' x' hx' with ⟨rfl, rfl⟩ | ⟨hin, hx2⟩
          · have hj' : j' < fsz := by rw [← hsl]; exact (List.getElem?_eq_some_iff.1 hd').1
            rw [hde, splice_get b2] at hd'
            rw [hcur]
            by_cases c1 : j' < off
            · rw [if_pos c1] at hd'
              rw [if_pos (by omega)]
              exact ⟨_, e9 _ yb j' d' hyb hd', st.rs (e10 _ yb j' d' hyb hd')⟩
            · rw [if_neg c1] at hd'
              rw [if_neg (by omega)]
              by_cases c2 : j' < off + ((opd x).get env).length
              · rw [if_pos c2] at hd'
                rw [if_pos (by omega)]
                have hjv : j' - off < vs.length := by omega
                have hv' : vs[j' - off]? = some vs[j' - off] := List.getElem?_eq_getElem hjv
                refine ⟨vs[j' - off], by rw [← hv']; congr 1; omega, ?_⟩
                exact (q6 _ d' _ hd' hv').ok st af (fun y hy => by rw [hu]; exact List.mem_cons_of_mem _ hy)
              · rw [if_neg c2] at hd'
                rw [if_neg (by omega)]
                exact ⟨_, e9 _ yb j' d' hyb hd', st.rs (e10 _ yb j' d' hyb hd')⟩
          · have hj' : j' < fsz := by rw [← e8 x' (List.mem_of_getElem? hx2)]; exact (List.getElem?_eq_some_iff.1 hd').1
            rw [hcur]
            have hout : ¬(n.toNat * fsz + off ≤ i' * fsz + j' ∧ i' * fsz + j' < n.toNat * fsz + off + vs.length) := by
              rintro ⟨hx1, hx3⟩
              rcases Nat.lt_or_gt_of_ne hin with hlt | hgt
              · have : i' * fsz + fsz ≤ n.toNat * fsz := by rw [← Nat.succ_mul]; exact Nat.mul_le_mul_right _ hlt
                omega
              · have : n.toNat * fsz + fsz ≤ i' * fsz := by rw [← Nat.succ_mul]; exact Nat.mul_le_mul_right _ hgt
                omega
            refine ⟨vs2 i' j', ?_, st.rs (e10 i' x' j' d' hx2 hd')⟩
            split
            · exact e9 i' x' j' d' hx2 hd'
            · rw [if_neg (by omega)]
              exact e9 i' x' j' d' hx2 hd'
        have := OwnRep.sl (w := w') (cx := cx) (own := own') (lf := (h, j + 1)) (m := true) (f := ⟨fsz, false⟩) (ys.set n.toNat (splice yb off ((opd x).get env))) g2 cap2 _ T fr
          (fun i' j' => ((cur.toList.take (n.toNat * fsz + off) ++ vs ++ cur.toList.drop (n.toNat * fsz + off + vs.length)).toArray[i' * fsz + j']?).getD undef) hheap' hown' (by rw [hyl]; exact e3) e4 (by rw [hcs2]; exact e5) e6 e7
          (fun x' hx' => by
            obtain ⟨i', hi'⟩ := List.getElem?_of_mem hx'
            rcases hget i' x' hi' with ⟨_, rfl⟩ | ⟨_, hx2⟩
            · exact hsl
            · exact e8 x' (List.mem_of_getElem? hx2))
          (fun i' x' j' d' hx' hd' => by
            obtain ⟨v', hv', _⟩ := hval i' x' j' d' hx' hd'
            rw [hv']; rfl)
          (fun i' x' j' d' hx' hd' => by
            obtain ⟨v', hv', hr'⟩ := hval i' x' j' d' hx' hd'
            rw [hv']
            exact hr')
        rw [hyl] at this
        exact this
      · rw [List.getElem?_set_ne (Ne.symm hji)] at hyj
        refine cell_keep st (List.all_eq_true.1 hal c (List.mem_of_getElem? hcj)) (fun m f hcf hAA => ?_) (h3'.2.2 j c y v hcj hyj hvj)
        rcases hAA with hh | ⟨_, _, _, hh⟩ | ⟨jj, hh, hh'⟩
        · rw [hu] at hh; simp [Up.isDst] at hh
        · simp at hh
        · simp only [Nat.add_right_cancel_iff] at hh
          subst hh
          rcases hh' with hh' | hh'
          · obtain ⟨z, hz⟩ := Option.isSome_iff_exists.1 hh'
            obtain ⟨z1, z2, z3⟩ := Up.find_some hz
            rw [hu] at z1
            rcases List.mem_cons.1 z1 with rfl | z1
            · exact hji z3.symm
            · exact hne z z1 z2
          · obtain ⟨z, hz, hto⟩ := List.any_eq_true.1 hh'
            rw [hu] at hz
            rcases List.mem_cons.1 hz with rfl | hz
            · cases hto
            · rw [(q5 z hz).2] at hto; cases hto
  have hA : u.A (h, i + 1) := .inr (.inr ⟨i, rfl, .inl (by
    rw [hu]
    simp [Up.find])⟩)
  have hfind : u.find h i = some ⟨h, i, true, ⟨fsz, false⟩, .o true ⟨fsz, false⟩, .x⟩ := by
    have := find_mem (u := u) (by rw [hu]; exact hnd) (a := ⟨h, i, true, ⟨fsz, false⟩, .o true ⟨fsz, false⟩, .x⟩) (by rw [hu]; exact List.mem_cons_self ..)
    exact this
  have hto : u.isTo h i = false := by
    rw [hu]
    refine List.any_eq_false.2 fun y hy => ?_
    rcases List.mem_cons.1 hy with rfl | hy
    · simp [CS.isTo]
    · rw [(q5 y hy).2]; simp [CS.isTo]
  have hlab : newOwn own (relabU u) w.heap.size none g1 = some ⟨(h, i + 1), [], some 0⟩ := by
    rw [newOwn_old hw hown1]
    simp only [relabU, hfind, hto]
    rw [hu]
    rfl
  -- the run
  have main : ∀ (cs : List CS) (vsh : List Value), isM ⟨fsz, false⟩ (cs.getD i .x) = true → cs.all noAl = true → All3 (CellOk w cx own h) cs (env h) vsh →
      (∀ (w' : World) (own' : Own), own' = newOwn own (relabU u) w.heap.size none → (∀ g, g ≠ g1 → w'.heap[g]? = w.heap[g]?) →
        All3 (CellOk w' cx own' h) cs ((env h).set i (.sl (ys.set n.toNat (splice yb off ((opd x).get env))))) vsh →
        SlotOk w' cx own' (put env h ((env h).set i (.sl (ys.set n.toNat (splice yb off ((opd x).get env)))))) (tvA a) h (L h)) → OpOk P cx own w a env o u (put env h ((env h).set i (.sl (ys.set n.toNat (splice yb off ((opd x).get env)))))) := by
    intro cs vsh hci hal h3' hslot
    obtain ⟨cur, T, fr, e1, e2, e3, e4⟩ := hkey cs vsh hci hal h3'
    have had : a.eval (.tmp s) = .pointer (some ⟨g1, n.toNat * sz + off, none⟩) := by rw [eval_tmp, h7, Nat.zero_add]
    have hr := exec_store hT ho had hcells q4 e1 e2 e3 hone
    have b3 : (n.toNat * sz + off) + vs.length ≤ cur.toList.length := by simpa using e3
    have hfsz : (cur.toList.take (n.toNat * sz + off) ++ vs ++ cur.toList.drop (n.toNat * sz + off + vs.length)).toArray.size = cur.size := by
      have := splice_len b3
      simpa using this
    refine opOk_skip hod hr (own' := newOwn own (relabU u) w.heap.size none) ?_
    refine done_new (nb := none) (gb := fun g => g = g1) hw (HeapOk.row' own w u e1 hfsz hown1 hA rfl) (fun g i' hgg hi => ?_) (by rw [hu]; exact hnd) (fun y hy => ?_) (fun k hk => by cases hk)
      (fun z hz => ?_) (fun _ _ => rfl) rfl rfl (fun st af => ⟨fun p hp _ => ?_, fun d' sh' he => ?_⟩)
    · subst hgg
      rw [hown1] at hi
      simp only [Option.some.injEq] at hi
      subst hi
      exact .inr ⟨_, by rw [hu]; exact List.mem_cons_self .., ⟨rfl, rfl⟩, rfl⟩
    · rw [hu] at hy
      rcases List.mem_cons.1 hy with rfl | hy
      · exact .inr ⟨⟨rfl, rfl⟩, .inr ⟨_, by rw [hu]; exact List.mem_cons_self .., rfl⟩⟩
      · exact .inl (q5 y hy).1
    · refine put_ne _ _ _ _ (fun e => hz (.inr ⟨_, by rw [hu]; exact List.mem_cons_self .., e.symm⟩))
    · rw [hu] at hp
      simp only [List.mem_singleton] at hp
      subst hp
      exact hslot _ _ rfl (fun g hgg => setRow_other w g1 g _ hgg) (e4 _ _ st af hlab (setRow_heap w g1 cur _ T fr e1))
    · rw [hu] at he; cases he
  have hLh := hL h
  cases hsh : L h with
  | v ag' cs =>
    rw [hsh] at hLh hho
    simp only [holdsO, Bool.and_eq_true] at hho
    obtain ⟨vsh, r1, r2, r3⟩ := hLh
    refine main cs vsh hho.1 hho.2 r3 (fun w' own' _ _ h3'' => ?_)
    rw [hsh]
    exact ⟨vsh, r1, r2, by rw [put_self]; exact h3''⟩
  | box ro cs =>
    rw [hsh] at hLh hho
    cases ro with
    | true => cases hho
    | false =>
      simp only [holdsO, Bool.and_eq_true] at hho
      obtain ⟨gb, cur, T, r1, r2, r3, r4⟩ := hLh
      simp only [Bool.false_eq_true, if_false] at r4
      refine main cs cur.toList hho.1 hho.2 r3 (fun w' own' ho' hh' h3'' => ?_)
      rw [hsh]
      have hgne : gb ≠ g1 := fun e => by
        rw [e, hown1] at r4
        simp at r4
      refine ⟨gb, cur, T, r1, (hh' gb hgne).trans r2, by rw [put_self]; exact h3'', ?_⟩
      simp only [Bool.false_eq_true, if_false]
      rw [ho', newOwn_old hw r4]
      simp only [relabU]
      rw [hu]
      rfl
  | dead => rw [hsh] at hho; cases hho
  | pt _ _ => rw [hsh] at hho; cases hho
  | el _ _ => rw [hsh] at hho; cases hho
  | bx _ _ _ => rw [hsh] at hho; cases hho
  | clo _ _ => rw [hsh] at hho; cases hho
  | tup _ => rw [hsh] at hho; cases hho
  | opt _ _ _ => rw [hsh] at hho; cases hho

end

end V
end Go.Proofs.Ytgialjcichiaoaa

/-
All stores; lists are made.
-/
namespace Go.Proofs.Ytgialjcichiaoaa
namespace V

section
variable {P : Program} {C : Cfg} {w0 : World} {own0 : Own} {cx : Cx} {own own' : Own} {w w' : World} {a : Act} {env env' : Env} {L : Look} {g : Gd} {o : Oper} {u : Up} {p : PS} {d : Nat}

theorem store_ok (hC : CfgOk P C) (hw : WOk w0 own0 cx own w) (hL : ∀ z, SlotOk w cx own env (tvA a) z (L z)) (hg : ∀ gs b, g = some (gs, b) → env gs = [.bool b])
    (hod : o.dst = none) (hp : pstep p env = some env') {t : TypeId} {ad x : Operand} (ho : o.op = .store t ad x) (hc : cStore C L g t ad x = some (u, p)) : OpOk P cx own w a env o u env' := by
  unfold cStore at hc
  split at hc
  · rename_i ti s hti
    have hs := shAt_ok hL hg s
    have box : ∀ (b off gg : Nat), tvA a b = .pointer (some ⟨gg, 0, none⟩) → tvA a s = .pointer (some ⟨gg, off, none⟩) →
        (match L b with
          | .box false cs =>
            if off + ti.size ≤ cs.length then
              let old := ownersIn cs b off ti.size
              match putCells L g b off x with
              | some (aas, _, xs) =>
                if xs.length = ti.size ∧ noDup (old ++ aas) ∧ cs.all noAl then
                  some ({ aff := old ++ aas, bx := [(b, .box false (cs.take off ++ xs ++ cs.drop (off + ti.size)))] }, PS.st b off (opd x))
                else none
              | none => none
            else none
          | _ => none) = some (u, p) → OpOk P cx own w a env o u env' := by
      intro b off gg h1 h2 hc
      split at hc
      · rename_i cs hb
        split at hc
        · rename_i hle
          simp only at hc
          split at hc
          · rename_i aas ag xs hpc
            split at hc
            · rename_i hk
              simp only [Option.some.injEq, Prod.mk.injEq] at hc
              exact storeBox_ok hC hw hL hg hod hp hti ho h1 h2 hb hpc hk.1 hle hk.2.1 hk.2.2 hc.1.symm hc.2.symm
            · cases hc
          · cases hc
        · cases hc
      · cases hc
    simp only at hc
    split at hc
    · rename_i ro cs he
      rw [he] at hs
      obtain ⟨gg, cur, T, h1, _⟩ := hs
      exact box s 0 gg h1 h1 hc
    · rename_i b off he
      rw [he] at hs
      obtain ⟨gg, h1, h2⟩ := hs
      exact box b off gg h1 h2 hc
    · rename_i h i fsz off he
      rw [he] at hs
      split at hc
      · rename_i aas hfz
        split at hc
        · rename_i hk
          simp only [Bool.and_eq_true] at hk
          simp only [Option.some.injEq, Prod.mk.injEq] at hc
          refine storeEl_ok (i := i) hC hw hL hg hod hp hti ho hs hfz hk.1.1.1 (Nat.eq_of_beq_eq_true hk.1.1.2) hk.1.2 (fun y hy e => ?_) hc.1.symm hc.2.symm
          have := List.all_eq_true.1 hk.2 y hy
          rw [e] at this
          simp at this
        · cases hc
      · cases hc
    · rename_i b es off he
      rw [he] at hs
      split at hc
      · rename_i cs hb
        split at hc
        · rename_i hk
          simp only [Option.some.injEq, Prod.mk.injEq] at hc
          exact storeBx_ok hC hw hL hg hod hp hti ho hs hb hk.1 hk.2.1 hk.2.2 hc.1.symm hc.2.symm
        · cases hc
      · cases hc
    · cases hc
  · cases hc

/-- A new list that is owned: the slot, if its cells are good behind the operation. -/
theorem newList_ok {tv' : Nat → Value} (d : Nat) (m : Bool) {xs : List (List D)} {gg sz cap : Nat} {cur : Array Value} {T : TypeId} {fr : Nat × Nat} (htv : tv' d = .slice (some ⟨gg, 0, none⟩) xs.length cap) (henv : env' d = [.sl xs])
    (hh : w'.heap[gg]? = some (.cells cur T fr)) (ho : own' gg = some ⟨(d, 1), [], if m then some 0 else some (xs.length * sz)⟩) (hcap : xs.length ≤ cap) (hmax : cap ≤ maxLen) (hsz : cap * sz ≤ cur.size)
    (hfr : ∀ o, o < cap * sz → (fr.1 ≤ o && o < fr.2) = false) (hpos : 0 < sz) (hall : ∀ x ∈ xs, x.length = sz)
    (hval : ∀ (i : Nat) (x : List D) (j : Nat) (d : D), xs[i]? = some x → x[j]? = some d → ∃ v, cur[i * sz + j]? = some v ∧ Rep w' (RS cx own') d v) :
    SlotOk w' cx own' env' tv' d (.v false [.o m ⟨sz, false⟩]) := by
  refine ⟨[.slice (some ⟨gg, 0, none⟩) xs.length cap], htv, fun _ => rfl, by rw [henv]; rfl, by rw [henv]; rfl, fun i c x v hc hx hv => ?_⟩
  rw [henv] at hx
  cases i with
  | zero =>
    simp only [List.getElem?_cons_zero, Option.some.injEq] at hc hx hv
    subst hc; subst hx; subst hv
    refine ⟨⟨fun _ => by simp, fun _ => by simp⟩, ?_⟩
    refine OwnRep.sl xs gg cap cur T fr (fun i j => (cur[i * sz + j]?).getD undef) hh ho hcap hmax hsz hfr hpos hall (fun i x j dd hx hj => ?_) (fun i x j dd hx hj => ?_)
    · obtain ⟨v, hv, _⟩ := hval i x j dd hx hj
      rw [hv]; rfl
    · obtain ⟨v, hv, hr⟩ := hval i x j dd hx hj
      rw [hv]
      exact hr
  | succ i => simp at hc

/-- The cells of n elements that are all the same. -/
theorem zeros_get (z : List Value) (n sz : Nat) (hl : z.length = sz) (hpos : 0 < sz) {i j : Nat} (hi : i < n) (hj : j < sz) :
    (((Array.range (n * sz)).map (fun k => z.toArray[k % z.toArray.size]!)) : Array Value)[i * sz + j]? = z[j]? := by
  have hlt : i * sz + j < n * sz := by
    have : i * sz + sz ≤ n * sz := by rw [← Nat.succ_mul]; exact Nat.mul_le_mul_right _ hi
    omega
  rw [Array.getElem?_map]
  have : (Array.range (n * sz))[i * sz + j]? = some (i * sz + j) := by simp [hlt]
  rw [this]
  have hm : (i * sz + j) % sz = j := by rw [Nat.mul_comm, Nat.mul_add_mod, Nat.mod_eq_of_lt hj]
  simp only [Option.map_some, List.size_toArray, hl, hm]
  rw [List.getElem?_eq_getElem (by omega)]
  simp [hl, hj]

/-- A zero that can stand in a list. -/
theorem allNS_ok (cx : Cx) (own : Own) {zs : List D} {z : Value} (hz : zsChk zs z.cells.toList = true) (hn : allNS zs = true) {j : Nat} {x : D} {v : Value} (hx : zs[j]? = some x) (hv : z.cells.toList[j]? = some v) (S : Nat → Nat → Prop) : Rep w S x v := by
  have h1 := zChk_ok (zsChk_get hz hx hv) 0 0 w cx own
  have h2 := List.all_eq_true.1 hn x (List.mem_of_getElem? hx)
  have h3 := h1.2
  cases x with
  | int k n => exact .scal h3
  | bool b => exact .scal h3
  | str s => exact .scal h3
  | sl xs => obtain ⟨e1, e2⟩ := h3; rw [e1, e2]; exact .nil _ _
  | fn _ _ _ => cases h2
  | bad => cases h2

variable (hC : CfgOk P C) (hw : WOk w0 own0 cx own w) (hL : ∀ z, SlotOk w cx own env (tvA a) z (L z)) (hg : ∀ gs b, g = some (gs, b) → env gs = [.bool b])
  (hod : o.dst = some d) (hd : d < a.tmps.size) (hn : ∀ d sh, u.dst = some (d, sh) → sh.names d = false) (hp : pstep p env = some env')
include hC hw hL hg hod hd hn hp

theorem make_ok {t : TypeId} {n c : Operand} (ho : o.op = .makeSlice t n c) (hc : cMake C L g d t n c = some (u, p)) : Runs P cx own w a env o u env' := by
  unfold cMake at hc
  split at hc
  · rename_i ti hti
    split at hc
    · rename_i e hde
      split at hc
      · rename_i ei hei
        split at hc
        · rename_i hk
          simp only [Bool.and_eq_true] at hk
          obtain ⟨⟨⟨hns, hpos⟩, hk1⟩, hk2⟩ := hk
          have hpos' : 0 < ei.size := Nat.le_of_ble_eq_true hpos
          simp only [cPut, Option.some.injEq, Prod.mk.injEq] at hc
          obtain ⟨rfl, rfl⟩ := hc
          obtain ⟨dx, vx, h1, h2, h3⟩ := opS hL hg hk1
          obtain ⟨dy, vy, h4, h5, h6⟩ := opS hL hg hk2
          simp only [pstep, h2, h5] at hp
          split at hp
          · rename_i k1 l k2 m he1 he2
            simp only [List.cons.injEq, and_true] at he1 he2
            subst he1; subst he2
            split at hp
            · rename_i hb
              obtain ⟨hb1, hb2, hb3⟩ := hb
              simp only [Option.some.injEq] at hp
              subst hp
              have hvx := h3.int'
              have hvy := h6.int'
              have hE := hC e ei hei
              obtain ⟨z, hz1, hz2, _⟩ := hE.zeroV w
              obtain ⟨ie, hi1, hi2, hi3, hi4⟩ := hE.info
              have hu := (hC t ti hti).slice hde
              have hb3' : m ≤ 1073741824 := by
                have : (lim : Int) = 1073741824 := rfl
                omega
              obtain ⟨ie', z', hj1, hj2, hj3, _⟩ := hE.zero
              have hr : (execOp a.eval o).run P w = .ok (.value (.slice (some ⟨w.heap.size, 0, none⟩) l.toNat m.toNat)) (w.alloc (.cells (madeCells z.cells (m.toNat * ei.size)) e)) := by
                have hie : ie' = ie := by rw [hi1] at hj1; exact (Option.some.inj hj1).symm
                subst hie
                have hzz : z' = z := by
                  have : (zeroValue e).run P w = .ok z' w := by simp [zeroValue, typeInfo, hi1, hj2]
                  rw [this] at hz1
                  cases hz1; rfl
                subst hzz
                have hbb : (ie'.bytes : Int) * m ≤ 281474976710656 := by
                  have e1 : (ie'.bytes : Int) ≤ 100000 := by omega
                  have e2 : (ie'.bytes : Int) * m ≤ 100000 * 1073741824 := Int.mul_le_mul e1 hb3' (by omega) (by omega)
                  omega
                have := run_make (P := P) w t e ie' z' hu hi1 hj2 k1 k2 l m hb1 hb2 hbb (by omega)
                unfold execOp
                simp only [ho, h1, h4, hvx, hvy, Sem.run_bind, this, Result.andThen_ok, Sem.run_pure, hi2]
              refine ⟨_, newOwn own (relabU { dst := some (d, .v false [.o true ⟨ei.size, false⟩]) }) w.heap.size (some ⟨(d, 1), [], some 0⟩), _, hr, ?_⟩
              rw [hod]
              refine done_new (nb := some ⟨(d, 1), [], some 0⟩) hw (HeapOk.alloc own w _ _) (fun g i h => h.elim) rfl (fun a ha => by simp at ha) (fun k hk => ?_)
                (fun s hs => put_ne _ _ _ _ (not_W_dst hs)) (fun s hs => by rw [tvA_put a d _ hd, if_neg (d_dst hs)]) (by simp [Act.put]) rfl (fun st af => ⟨fun p hp => by simp at hp, fun d' sh' he => ?_⟩)
              · simp only [Option.some.injEq] at hk
                subst hk
                exact ⟨by show _ < (w.heap.push _).size; simp, Nat.beq_refl _, .inr (fun a ha => by simp at ha)⟩
              · simp only [Option.some.injEq, Prod.mk.injEq] at he
                obtain ⟨rfl, rfl⟩ := he
                have hzl : z.cells.toList.length = ei.size := by rw [zsChk_len hz2]; exact hE.len
                have hxl : (List.replicate l.toNat ei.zero).length = l.toNat := List.length_replicate ..
                refine newList_ok d true (xs := List.replicate l.toNat ei.zero) (sz := ei.size) (cap := m.toNat) (by rw [tvA_put a d _ hd, if_pos rfl, hxl]) (put_self _ _ _) (heap_alloc_new w _) (by simp [newOwn]) (by rw [hxl]; omega) (by
                    have : maxLen = 9223372036854775806 ∨ 1073741824 ≤ maxLen := by right; decide
                    rcases this with h | h <;> omega) (Nat.le_of_eq (size_madeCells _ _).symm) (fun o _ => by simp) hpos' (fun x hx => by rw [List.eq_of_mem_replicate hx]; exact hE.len) (fun i x j dd hx hj => ?_)
                have hil : i < l.toNat := by
                  have := (List.getElem?_eq_some_iff.1 hx).1
                  rwa [hxl] at this
                have hxe : x = ei.zero := List.eq_of_mem_replicate (List.mem_of_getElem? hx)
                subst hxe
                have hjl : j < ei.size := by rw [← hE.len]; exact (List.getElem?_eq_some_iff.1 hj).1
                have hv : z.cells.toList[j]? = some z.cells.toList[j] := List.getElem?_eq_getElem (by omega)
                refine ⟨z.cells.toList[j], ?_, allNS_ok cx own hz2 hns hj hv _⟩
                have := zeros_get z.cells.toList m.toNat ei.size hzl hpos' (i := i) (by omega) hjl
                rw [Array.toArray_toList] at this
                unfold madeCells
                rw [this, hv]
            · cases hp
          · cases hp
        · cases hc
      · cases hc
    · cases hc
  · cases hc

end

end V
end Go.Proofs.Ytgialjcichiaoaa

/-
Lists are written out; strings become lists of bytes.
-/
namespace Go.Proofs.Ytgialjcichiaoaa
namespace V

section
variable {P : Program} {C : Cfg} {w0 : World} {own0 : Own} {cx : Cx} {own own' : Own} {w w' : World} {a : Act} {env env' : Env} {L : Look} {g : Gd} {o : Oper} {u : Up} {p : PS} {d : Nat}

/-- A part of a list that is written out. -/
def GoodPart (a : Act) (env : Env) (size len : Nat) (G : D → Value → Prop) (p : Nat × Operand) : Prop :=
  p.1 < len ∧ ∃ ag us, a.eval p.2 = wrapV ag us ∧ (ag = false → us.length = 1) ∧ us.length = size ∧ ((opd p.2).get env).length = size ∧
    ∀ (k : Nat) (y : D) (v : Value), ((opd p.2).get env)[k]? = some y → us[k]? = some v → Cell1 v ∧ G y v

/-- A row of cells holds a list. -/
def Holds2 (size len : Nat) (G : D → Value → Prop) (xs : List (List D)) (vs : List Value) : Prop :=
  vs.length = len * size ∧ xs.length = len ∧ (∀ x ∈ xs, x.length = size) ∧
    ∀ (i : Nat) (x : List D) (j : Nat) (d : D), xs[i]? = some x → x[j]? = some d → ∃ v, vs[i * size + j]? = some v ∧ G d v

theorem litFill_ok {size len : Nat} {G : D → Value → Prop} : ∀ {parts : List (Nat × Operand)} {vs : List Value} {xs : List (List D)}, (∀ p ∈ parts, GoodPart a env size len G p) → Holds2 size len G xs vs →
    ∃ vs2 : List Value, Instr.fill (fun i => some (i * size, size)) vs.toArray (parts.map fun p => (p.1, a.eval p.2)) = some vs2.toArray ∧ Holds2 size len G (litP env xs (parts.map fun p => (p.1, opd p.2))) vs2
  | [], vs, xs, _, h => ⟨vs, rfl, h⟩
  | (k0, x) :: r, vs, xs, hp, h => by
    obtain ⟨h1, h2, h3, h4⟩ := h
    obtain ⟨g1, ag, us, g2, g3, g4, g5, g6⟩ := hp (k0, x) (List.mem_cons_self ..)
    have hcells : (a.eval x).cells = us.toArray := by
      rw [g2]
      exact cells_wrap g3 (fun i v hv => by
        have hi : i < us.length := (List.getElem?_eq_some_iff.1 hv).1
        exact (g6 i _ v (List.getElem?_eq_getElem (by omega)) hv).1)
    have hb : k0 * size + size ≤ vs.length := by
      rw [h1, ← Nat.succ_mul]
      exact Nat.mul_le_mul_right _ g1
    have b3 : k0 * size + us.length ≤ vs.length := by omega
    have hnew : Holds2 size len G (xs.set k0 ((opd x).get env)) (vs.take (k0 * size) ++ us ++ vs.drop (k0 * size + us.length)) := by
      refine ⟨by rw [splice_len b3]; exact h1, by simpa using h2, fun y hy => ?_, fun i y j dd hy hd => ?_⟩
      · rcases List.mem_or_eq_of_mem_set hy with hy | rfl
        · exact h3 y hy
        · exact g5
      · rw [splice_get b3]
        by_cases hik : i = k0
        · subst hik
          rw [List.getElem?_set_self (by omega)] at hy
          simp only [Option.some.injEq] at hy
          subst hy
          have hj : j < size := by rw [← g5]; exact (List.getElem?_eq_some_iff.1 hd).1
          have hv : us[j]? = some us[j] := List.getElem?_eq_getElem (by omega)
          rw [if_neg (by omega), if_pos (by omega)]
          exact ⟨us[j], by rw [← hv]; congr 1; omega, (g6 j dd _ hd hv).2⟩
        · rw [List.getElem?_set_ne (Ne.symm hik)] at hy
          have hj : j < size := by rw [← h3 y (List.mem_of_getElem? hy)]; exact (List.getElem?_eq_some_iff.1 hd).1
          have hout : ¬(k0 * size ≤ i * size + j ∧ i * size + j < k0 * size + us.length) := by
            rintro ⟨hx1, hx3⟩
            rcases Nat.lt_or_gt_of_ne hik with hlt | hgt
            · have : i * size + size ≤ k0 * size := by rw [← Nat.succ_mul]; exact Nat.mul_le_mul_right _ hlt
              omega
            · have : k0 * size + size ≤ i * size := by rw [← Nat.succ_mul]; exact Nat.mul_le_mul_right _ hgt
              omega
          obtain ⟨v, hv, hG⟩ := h4 i y j dd hy hd
          refine ⟨v, ?_, hG⟩
          split
          · exact hv
          · rw [if_neg (by omega)]; exact hv
    obtain ⟨vs2, e1, e2⟩ := litFill_ok (fun p hp' => hp p (List.mem_cons_of_mem _ hp')) hnew
    refine ⟨vs2, ?_, e2⟩
    rw [List.map_cons, fill_step (fun i => some (i * size, size)) rfl hcells g4 hb]
    have : vs.take (k0 * size) ++ us ++ vs.drop (k0 * size + size) = vs.take (k0 * size) ++ us ++ vs.drop (k0 * size + us.length) := by rw [g4]
    rw [this]
    exact e1

theorem freezeOps_mem {L : Look} {g : Gd} : ∀ {parts : List (Nat × Operand)} {aas : List Aff}, freezeOps L g parts = some aas → (∀ p ∈ parts, ∃ asp, freezeOp L g p.2 = some asp ∧ ∀ y ∈ asp, y ∈ aas) ∧ ∀ y ∈ aas, ∃ p ∈ parts, ∃ asp, freezeOp L g p.2 = some asp ∧ y ∈ asp
  | [], aas, h => by
    simp only [freezeOps, Option.some.injEq] at h
    subst h
    exact ⟨fun p hp => by simp at hp, fun y hy => by simp at hy⟩
  | (k, x) :: r, aas, h => by
    simp only [freezeOps] at h
    split at h
    · rename_i as1 bs h1 h2
      simp only [Option.some.injEq] at h
      subst h
      obtain ⟨i1, i2⟩ := freezeOps_mem h2
      refine ⟨fun p hp => ?_, fun y hy => ?_⟩
      · rcases List.mem_cons.1 hp with rfl | hp
        · exact ⟨as1, h1, fun y hy => List.mem_append_left _ hy⟩
        · obtain ⟨asp, e1, e2⟩ := i1 p hp
          exact ⟨asp, e1, fun y hy => List.mem_append_right _ (e2 y hy)⟩
      · rcases List.mem_append.1 hy with hy | hy
        · exact ⟨(k, x), List.mem_cons_self .., as1, h1, hy⟩
        · obtain ⟨p, hp, asp, e1, e2⟩ := i2 y hy
          exact ⟨p, List.mem_cons_of_mem _ hp, asp, e1, e2⟩
    · cases h

variable (hC : CfgOk P C) (hw : WOk w0 own0 cx own w) (hL : ∀ z, SlotOk w cx own env (tvA a) z (L z)) (hg : ∀ gs b, g = some (gs, b) → env gs = [.bool b])
  (hod : o.dst = some d) (hd : d < a.tmps.size) (hn : ∀ d sh, u.dst = some (d, sh) → sh.names d = false) (hp : pstep p env = some env')
include hC hw hL hg hod hd hn hp

theorem lit_ok {t len : Nat} {parts : Array (Nat × Operand)} (ho : o.op = .buildSlice t len parts) (hc : cLit C L g d t len parts.toList = some (u, p)) : Runs P cx own w a env o u env' := by
  unfold cLit at hc
  split at hc
  rotate_left
  · cases hc
  rename_i ti hti
  split at hc
  rotate_left
  · cases hc
  rename_i e hde
  split at hc
  rotate_left
  · cases hc
  rename_i ei hei
  simp only at hc
  split at hc
  · cases hc
  rename_i hk
  simp only [Bool.and_eq_true] at hk
  obtain ⟨⟨⟨hns, hparts⟩, hbig⟩, hpos⟩ := hk
  have hpos' : 0 < ei.size := Nat.le_of_ble_eq_true hpos
  have hbig' : len * ei.size ≤ 16777216 := Nat.le_of_ble_eq_true hbig
  have hpp : ∀ q ∈ parts.toList, (opCells L g q.2).length = ei.size ∧ q.1 < len := fun q hq => by
    have := List.all_eq_true.1 hparts q hq
    simp only [Bool.and_eq_true] at this
    exact ⟨Nat.eq_of_beq_eq_true this.1, Nat.le_of_ble_eq_true this.2⟩
  have hE := hC e ei hei
  have hu := (hC t ti hti).slice hde
  obtain ⟨z, hz1, hz2, _⟩ := hE.zeroV w
  have hzl : z.cells.toList.length = ei.size := by rw [zsChk_len hz2]; exact hE.len
  have hll : len ≤ len * ei.size := Nat.le_mul_of_pos_right _ hpos'
  -- the row that it begins with, and the run
  have begin_ : ∀ (G : D → Value → Prop), (∀ x v, (∀ S, Rep w S x v) → Cell1 v → G x v) → (∀ q ∈ parts.toList, GoodPart a env ei.size len G q) →
      ∃ vs2 : List Value, Holds2 ei.size len G (litP env (List.replicate len ei.zero) (parts.toList.map fun p => (p.1, opd p.2))) vs2 ∧
        (execOp a.eval o).run P w = .ok (.value (.slice (some ⟨w.heap.size, 0, none⟩) len len)) (w.alloc (.cells vs2.toArray e)) := by
    intro G hG hgood
    have h0 : Holds2 ei.size len G (List.replicate len ei.zero) (madeCells z.cells (len * ei.size)).toList := by
      refine ⟨by simp [size_madeCells], List.length_replicate .., fun x hx => by rw [List.eq_of_mem_replicate hx]; exact hE.len, fun i x j dd hx hj => ?_⟩
      have hil : i < len := by
        have := (List.getElem?_eq_some_iff.1 hx).1
        simpa using this
      have hxe : x = ei.zero := List.eq_of_mem_replicate (List.mem_of_getElem? hx)
      subst hxe
      have hjl : j < ei.size := by rw [← hE.len]; exact (List.getElem?_eq_some_iff.1 hj).1
      have hv : z.cells.toList[j]? = some z.cells.toList[j] := List.getElem?_eq_getElem (by omega)
      refine ⟨z.cells.toList[j], ?_, hG _ _ (fun S => allNS_ok cx own hz2 hns hj hv S) (zChk_ok (zsChk_get hz2 hj hv) 0 0 w cx own).1⟩
      have := zeros_get z.cells.toList len ei.size hzl hpos' hil hjl
      rw [Array.toArray_toList] at this
      rw [Array.getElem?_toList]
      unfold madeCells
      rw [this, hv]
    obtain ⟨vs2, e1, e2⟩ := litFill_ok (a := a) (env := env) hgood h0
    refine ⟨vs2, e2, ?_⟩
    rw [Array.toArray_toList] at e1
    unfold execOp
    have hmap : (parts.map fun x => match x with | (i, x) => (i, a.eval x)).toList = parts.toList.map fun p => (p.1, a.eval p.2) := by rw [Array.toList_map]
    have hlim : ¬(len * ei.size > 2 ^ 24) := by omega
    by_cases h00 : len * ei.size = 0
    · have hm : madeCells z.cells (len * ei.size) = (Array.range (len * ei.size)).map (fun k => (#[] : Array Value)[k % (#[] : Array Value).size]!) := by
        rw [h00]; simp [madeCells]
      rw [hm] at e1
      simp only [ho, Instr.buildSlice, Sem.run_bind, run_underlying hu, hE.size w, Result.andThen_ok, if_neg hlim, if_pos h00, Sem.run_pure, hmap, e1, newRow, newObj]
      rfl
    · simp only [ho, Instr.buildSlice, Sem.run_bind, run_underlying hu, hE.size w, Result.andThen_ok, if_neg hlim, if_neg h00, hz1, Sem.run_pure, hmap, newRow, newObj]
      unfold madeCells at e1
      rw [e1]
      rfl
  split at hc
  · -- borrowed
    split at hc
    · rename_i hfirst
      simp only [cPut, Option.some.injEq, Prod.mk.injEq] at hc
      obtain ⟨rfl, rfl⟩ := hc
      simp only [pstep, Option.some.injEq] at hp
      subst hp
      have hN : ∀ g i, own g = some i → cx.N g := fun g i hi => (hw.dom g i hi).2
      obtain ⟨vs2, hh, hr⟩ := begin_ (fun x v => Cell1 v ∧ Rep w (BS cx own) x v) (fun x v h hc => ⟨hc, h _⟩) (fun q hq => by
        have h1 := List.all_eq_true.1 hfirst q hq
        obtain ⟨h2, h3⟩ := hpp q hq
        unfold firstOk at h1
        split at h1
        · rename_i ag cs he
          obtain ⟨vs, s, k1, k2, k3, k4⟩ := opV hL hg he
          have hcs : opCells L g q.2 = cs := by simp [opCells, he]
          rw [hcs] at h2
          refine ⟨h3, ag, vs, k1, k2, by rw [k4.2.1, ← k4.1]; exact h2, by rw [← k4.1]; exact h2, fun k y v hy hv => ?_⟩
          have hk : k < cs.length := by rw [k4.1]; exact (List.getElem?_eq_some_iff.1 hy).1
          have hcell := k4.2.2 k _ y v (List.getElem?_eq_getElem hk) hy hv
          exact ⟨hcell.1, hcell.1, hcell.bs hN hw.s1 (List.all_eq_true.1 h1 _ (List.getElem_mem hk))⟩
        · cases h1)
      obtain ⟨e1, e2, e3, e4⟩ := hh
      refine ⟨_, newOwn own (relabU { dst := some (d, .v false [.b]) }) w.heap.size none, _, hr, ?_⟩
      rw [hod]
      refine done_new (nb := none) hw (HeapOk.alloc own w _ _) (fun g i h => h.elim) rfl (fun a ha => by simp at ha) (fun k hk => by cases hk)
        (fun s hs => put_ne _ _ _ _ (not_W_dst hs)) (fun s hs => by rw [tvA_put a d _ hd, if_neg (d_dst hs)]) (by simp [Act.put]) rfl (fun st af => ⟨fun p hp => by simp at hp, fun d' sh' he => ?_⟩)
      simp only [Option.some.injEq, Prod.mk.injEq] at he
      obtain ⟨rfl, rfl⟩ := he
      refine slot_one hd ⟨⟨fun _ => by simp, fun _ => by simp⟩, ?_⟩
      have hxl := e2
      generalize litP env (List.replicate len ei.zero) (parts.toList.map fun p => (p.1, opd p.2)) = xs at *
      subst hxl
      refine Rep.sl xs w.heap.size 0 ei.size _ (fun i j => (vs2[i * ei.size + j]?).getD undef) (Nat.le_refl _) e3 (fun i x j dd hx hj => ?_) (fun i x j dd hx hj => ?_) (fun i x j dd hx hj => ?_)
      · obtain ⟨v, hv, _⟩ := e4 i x j dd hx hj
        rw [Nat.zero_add, cell_of_heap (heap_alloc_new w _), List.getElem?_toArray, hv]
        rfl
      · refine ⟨?_, .inr ((hw.n _).2 (.inl hw.kept.size))⟩
        rintro ⟨i', b', h9, _⟩
        simp [newOwn] at h9
      · obtain ⟨v, hv, _, hG⟩ := e4 i x j dd hx hj
        rw [hv]
        exact st.bs hG
    · cases hc
  · split at hc
    · rename_i aas hfz
      split at hc
      · rename_i hnd
        simp only [Option.some.injEq, Prod.mk.injEq] at hc
        obtain ⟨rfl, rfl⟩ := hc
        simp only [pstep, Option.some.injEq] at hp
        subst hp
        obtain ⟨m1, m2⟩ := freezeOps_mem hfz
        have hmv : ∀ y ∈ aas, MoveAff y ∧ y.to = .r := fun y hy => by
          obtain ⟨q, hq, asp, h1, h2⟩ := m2 y hy
          obtain ⟨_, _, _, _, _, _, h3, _⟩ := freezeOp_ok hL hg h1
          exact h3 y h2
        obtain ⟨vs2, hh, hr⟩ := begin_ (PreR w cx own aas) (fun x v h hc => ⟨hc, .inl (h _)⟩) (fun q hq => by
          obtain ⟨asp, h1, h2⟩ := m1 q hq
          obtain ⟨ag, us, k1, k2, k3, k4, k5, k6⟩ := freezeOp_ok hL hg h1
          obtain ⟨h3, h4⟩ := hpp q hq
          exact ⟨h4, ag, us, k1, k2, by rw [k4]; exact h3, by rw [k3]; exact h3, fun k y v hy hv => ⟨(k6 k y v hy hv).1, (k6 k y v hy hv).mono h2⟩⟩)
        obtain ⟨e1, e2, e3, e4⟩ := hh
        refine ⟨_, newOwn own (relabU { aff := aas, dst := some (d, .v false [.o (C.bm.any (Nat.beq d)) ⟨ei.size, false⟩]) }) w.heap.size (some ⟨(d, 1), [], if (C.bm.any (Nat.beq d)) then some 0 else some (len * ei.size)⟩), _, hr, ?_⟩
        rw [hod]
        refine done_new (nb := some ⟨(d, 1), [], if (C.bm.any (Nat.beq d)) then some 0 else some (len * ei.size)⟩) hw (HeapOk.alloc own w _ _) (fun g i h => h.elim) hnd (fun y hy => .inl (hmv y hy).1) (fun k hk => ?_)
          (fun s hs => put_ne _ _ _ _ (not_W_dst hs)) (fun s hs => by rw [tvA_put a d _ hd, if_neg (d_dst hs)]) (by simp [Act.put]) rfl (fun st af => ⟨fun p hp => by simp at hp, fun d' sh' he => ?_⟩)
        · simp only [Option.some.injEq] at hk
          subst hk
          exact ⟨by show _ < (w.heap.push _).size; simp, Nat.beq_refl _, .inr (fun y hy d j m f => by rw [(hmv y hy).2]; simp)⟩
        · simp only [Option.some.injEq, Prod.mk.injEq] at he
          obtain ⟨rfl, rfl⟩ := he
          have hxl := e2
          generalize litP env (List.replicate len ei.zero) (parts.toList.map fun p => (p.1, opd p.2)) = xs at *
          subst hxl
          refine newList_ok d _ (xs := xs) (sz := ei.size) (cap := xs.length) (by rw [tvA_put a d _ hd, if_pos rfl]) (put_self _ _ _) (heap_alloc_new w _) (by simp [newOwn]) (Nat.le_refl _) (by
              have : 16777216 ≤ maxLen := by decide
              omega) (by simp [e1]) (fun o _ => by simp) hpos' e3 (fun i x j dd hx hj => ?_)
          obtain ⟨v, hv, hG⟩ := e4 i x j dd hx hj
          exact ⟨v, by rw [List.getElem?_toArray]; exact hv, hG.ok st af (fun y hy => hy)⟩
      · cases hc
    · cases hc

end

end V
end Go.Proofs.Ytgialjcichiaoaa

/-
Strings become lists of bytes; lists are appended to.
-/
namespace Go.Proofs.Ytgialjcichiaoaa
namespace V

section
variable {P : Program} {C : Cfg} {w0 : World} {own0 : Own} {cx : Cx} {own own' : Own} {w w' : World} {a : Act} {env env' : Env} {L : Look} {g : Gd} {o : Oper} {u : Up} {p : PS} {d : Nat}

theorem run_firstCells_row (P : Program) (w : World) {sz n gg off cap : Nat} {news : List Value} (hl : news.length = n * sz) (hc : ∀ (k : Nat) (v : Value), news[k]? = some v → w.cell? ⟨gg, off + k, none⟩ = some v) :
    (Builtin.firstCells sz n (.slice (some ⟨gg, off, none⟩) n cap)).run P w = .ok news.toArray w :=
  run_firstCells_some (P := P) w sz n ⟨gg, off, none⟩ n cap news hl (fun j v hv => by rw [Addr.add_lit]; exact hc j v hv)

/-- What is appended. -/
structure Row (P : Program) (w : World) (G : D → Value → Prop) (sz : Nat) (ys : List (List D)) (v : Value) (news : List Value) : Prop where
  val : ∃ A cap, v = .slice A ys.length cap ∧ ys.length ≤ cap ∧ (A = none → ys = [])
  len : news.length = ys.length * sz
  run : ∀ w' : World, w'.heap = w.heap → (Builtin.firstCells sz ys.length v).run P w' = .ok news.toArray w'
  get : ∀ (i : Nat) (x : List D) (j : Nat) (d : D), ys[i]? = some x → x[j]? = some d → ∃ u, news[i * sz + j]? = some u ∧ Cell1 u ∧ G d u
  one : ∀ u ∈ news, Cell1 u

theorem row_of {G : D → Value → Prop} {sz : Nat} (hpos : 0 < sz) {ys : List (List D)} (hys : ∀ y ∈ ys, y.length = sz) {v : Value} {gg off sz' cap : Nat} {vs : Nat → Nat → Value} (hv : v = .slice (some ⟨gg, off, none⟩) ys.length cap) (hcap : ys.length ≤ cap) (hsz : ∀ x ∈ ys, x.length = sz')
    (hc : ∀ (i : Nat) (x : List D) (j : Nat) (d : D), ys[i]? = some x → x[j]? = some d → w.cell? ⟨gg, off + i * sz' + j, none⟩ = some (vs i j))
    (h1 : ∀ (i : Nat) (x : List D) (j : Nat) (d : D), ys[i]? = some x → x[j]? = some d → Cell1 (vs i j) ∧ G d (vs i j)) : ∃ news, Row P w G sz ys v news := by
  have hl : ((List.range (ys.length * sz)).map fun k => vs (k / sz) (k % sz)).length = ys.length * sz := by simp
  have hat : ∀ k, k < ys.length * sz → ∃ x d, ys[k / sz]? = some x ∧ x[k % sz]? = some d ∧ x.length = sz := by
    intro k hk
    have hi : k / sz < ys.length := Nat.div_lt_of_lt_mul (by rw [Nat.mul_comm]; exact hk)
    have hx : ys[k / sz]? = some ys[k / sz] := List.getElem?_eq_getElem hi
    have hxl := hys _ (List.mem_of_getElem? hx)
    have hj : k % sz < ys[k / sz].length := by rw [hxl]; exact Nat.mod_lt _ hpos
    exact ⟨_, _, hx, List.getElem?_eq_getElem hj, hxl⟩
  have hget : ∀ (k : Nat) (u : Value), ((List.range (ys.length * sz)).map fun k => vs (k / sz) (k % sz))[k]? = some u → k < ys.length * sz ∧ u = vs (k / sz) (k % sz) := by
    intro k u hu
    rw [List.getElem?_map] at hu
    by_cases hk : k < ys.length * sz
    · rw [List.getElem?_range hk] at hu
      simp only [Option.map_some, Option.some.injEq] at hu
      exact ⟨hk, hu.symm⟩
    · rw [List.getElem?_eq_none (by simpa using hk)] at hu; cases hu
  refine ⟨(List.range (ys.length * sz)).map fun k => vs (k / sz) (k % sz), ⟨_, cap, hv, hcap, fun h => by cases h⟩, hl, fun w' hw' => ?_, fun i x j dd hx hj => ?_, fun u hu => ?_⟩
  · rw [hv]
    refine run_firstCells_row P w' hl (fun k u hu => ?_)
    obtain ⟨hk, rfl⟩ := hget k u hu
    obtain ⟨x, dd, h2, h3, h4⟩ := hat k hk
    have hs : sz' = sz := by rw [← hsz x (List.mem_of_getElem? h2)]; exact h4
    subst hs
    have := hc _ x _ dd h2 h3
    rw [show off + k / sz' * sz' + k % sz' = off + k from by rw [Nat.add_assoc, Nat.div_add_mod']] at this
    unfold World.cell? at this ⊢
    rw [hw']
    exact this
  · have hj' : j < sz := by rw [← hys x (List.mem_of_getElem? hx)]; exact (List.getElem?_eq_some_iff.1 hj).1
    have hi : i < ys.length := (List.getElem?_eq_some_iff.1 hx).1
    have hlt : i * sz + j < ys.length * sz := by
      have : i * sz + sz ≤ ys.length * sz := by rw [← Nat.succ_mul]; exact Nat.mul_le_mul_right _ hi
      omega
    refine ⟨vs i j, ?_, h1 i x j dd hx hj⟩
    rw [List.getElem?_map, List.getElem?_range hlt, Option.map_some]
    have e1 : (i * sz + j) / sz = i := by rw [Nat.mul_comm, Nat.mul_add_div hpos, Nat.div_eq_of_lt hj', Nat.add_zero]
    have e2 : (i * sz + j) % sz = j := by rw [Nat.mul_comm, Nat.mul_add_mod, Nat.mod_eq_of_lt hj']
    rw [e1, e2]
  · obtain ⟨k, hk⟩ := List.getElem?_of_mem hu
    obtain ⟨hlt, rfl⟩ := hget k u hk
    obtain ⟨x, dd, h2, h3, h4⟩ := hat k hlt
    exact (h1 _ x _ dd h2 h3).1

theorem row_nil {G : D → Value → Prop} {sz : Nat} (A : Option Addr) (cap : Nat) : Row P w G sz [] (.slice A 0 cap) [] := by
  refine ⟨⟨A, cap, rfl, Nat.zero_le _, fun _ => rfl⟩, by simp, fun w' _ => ?_, fun i x j d h => by simp at h, fun u hu => by simp at hu⟩
  cases A with
  | none => simp [Builtin.firstCells]
  | some A => simp [Builtin.firstCells, loadCells, loadCellsFrom]

/-- The runs of 'append'. -/
theorem run_app_room {t t2 ty e e2 : TypeId} {i : TypeInfo} (ht : P.underlying t = some (.slice e)) (ht2 : P.underlying t2 = some (.slice e2)) (hi : P.info? e = some i) {gg sLen sCap : Nat} {cur : Array Value} {T : TypeId} {fr : Nat × Nat} (hg : w.heap[gg]? = some (.cells cur T fr))
    {A : Option Addr} {n cap : Nat} {news : List Value} (hn : news.length = n * i.size) (hf : (Builtin.firstCells i.size n (.slice A n cap)).run P w = .ok news.toArray w) (h1 : ∀ u ∈ news, Cell1 u) (hroom : sLen + n ≤ sCap)
    (hfr : ∀ o, o < sCap * i.size → (fr.1 ≤ o && o < fr.2) = false) (hfit : sCap * i.size ≤ cur.size) :
    (Builtin.append_ #[t, t2] ty #[.slice (some ⟨gg, 0, none⟩) sLen sCap, .slice A n cap]).run P w =
      .ok (.slice (some ⟨gg, 0, none⟩) (sLen + n) sCap) (w.setRow gg (cur.toList.take (sLen * i.size) ++ news ++ cur.toList.drop (sLen * i.size + news.length)).toArray) := by
  have hm : sLen * i.size + n * i.size ≤ sCap * i.size := by rw [← Nat.add_mul]; exact Nat.mul_le_mul_right _ hroom
  have hst := run_storeCells_fr P gg (sLen * i.size) T fr news 0 cur w hg (fun k h2 h3 => hfr k (by omega)) (by omega) (fun v hv => (h1 v hv).one)
  simp only [Nat.add_zero] at hst
  simp [Builtin.append_, run_underlying ht, run_underlying ht2, sizeOf, typeInfo, hi, Builtin.lenOf, hroom, hf, Addr.add_lit, hst]

theorem run_app_none {t t2 ty e e2 : TypeId} {i : TypeInfo} (ht : P.underlying t = some (.slice e)) (ht2 : P.underlying t2 = some (.slice e2)) (hi : P.info? e = some i)
    {A : Option Addr} {cap : Nat} (hf : (Builtin.firstCells i.size 0 (.slice A 0 cap)).run P w = .ok #[] w) :
    (Builtin.append_ #[t, t2] ty #[.slice none 0 0, .slice A 0 cap]).run P w = .ok (.slice none 0 0) w := by
  simp [Builtin.append_, run_underlying ht, run_underlying ht2, sizeOf, typeInfo, hi, Builtin.lenOf, hf]

theorem run_app_grow {t t2 ty e e2 : TypeId} {i : TypeInfo} {z : Value} (ht : P.underlying t = some (.slice e)) (ht2 : P.underlying t2 = some (.slice e2)) (hi : P.info? e = some i) (hz : i.zero = some z) {B : Option Addr} {sLen sCap : Nat} {olds : List Value}
    {A : Option Addr} {n cap : Nat} {news : List Value} (hfo : (Builtin.firstCells i.size sLen (.slice B sLen sCap)).run P w.drew = .ok olds.toArray w.drew) (hf : (Builtin.firstCells i.size n (.slice A n cap)).run P w.drew = .ok news.toArray w.drew) (hg : sCap < sLen + n)
    (h63 : ((sLen + n : Nat) : Int) ≤ 9223372036854775807) (hfit : Builtin.nextslicecap (sLen + n) sCap * i.bytes ≤ 281474976710656) :
    (Builtin.append_ #[t, t2] ty #[.slice B sLen sCap, .slice A n cap]).run P w =
      .ok (.slice (some ⟨w.heap.size, 0, none⟩) (sLen + n) (grownCap w (sLen + n) sCap e))
        (w.drew.alloc (.cells (olds.toArray ++ news.toArray ++ Builtin.zeroCells z.cells (grownCap w (sLen + n) sCap e - (sLen + n))) e)) := by
  have hn : ¬ (sLen + n ≤ sCap) := by omega
  have h63' : ¬ (9223372036854775807 < ((sLen : Int) + (n : Int))) := by omega
  have h48' : ¬ (281474976710656 < Builtin.nextslicecap (sLen + n) sCap * i.bytes) := by omega
  simp [Builtin.append_, run_underlying ht, run_underlying ht2, sizeOf, typeInfo, zeroValue, hi, hz, Builtin.lenOf, hn, h63', h48', Question.forced, hf, hfo, newRow, grownCap]
  congr 2
  apply Array.ext'
  simp

theorem HeapOk.drew (own : Own) (w : World) (u : Up) (o : Obj) : HeapOk own w (w.drew.alloc o) u (fun _ => False) :=
  ⟨rfl, rfl, rfl, by show _ ≤ (w.heap.push o).size; simp, fun g hg _ => heap_alloc_old w.drew o g hg, fun _ h => h.elim, fun _ _ h => h.elim, fun _ _ _ h => h.elim⟩

theorem HeapOk.bytes (own : Own) (w : World) (u : Up) (e : TypeId) (s : ByteArray) : HeapOk own w (Lib.bytesWorld w e s) u (fun _ => False) := by
  refine ⟨?_, ?_, ?_, by rw [Lib.bytesWorld_size]; omega, fun g hg _ => Lib.bytesWorld_at_old w e s g hg, fun _ h => h.elim, fun _ _ h => h.elim, fun _ _ _ h => h.elim⟩ <;>
  · unfold Lib.bytesWorld World.freeze
    rw [if_neg (by decide)]
    rfl

variable (hC : CfgOk P C) (hw : WOk w0 own0 cx own w) (hL : ∀ z, SlotOk w cx own env (tvA a) z (L z)) (hg : ∀ gs b, g = some (gs, b) → env gs = [.bool b])
  (hod : o.dst = some d) (hd : d < a.tmps.size) (hn : ∀ d sh, u.dst = some (d, sh) → sh.names d = false) (hp : pstep p env = some env')
include hC hw hL hg hod hd hn hp

theorem s2b_ok {src dst : TypeId} {x : Operand} {ta tb : TI} {e : Nat} (ho : o.op = .convert src dst x) (hta : C.ty src = some ta) (htb : C.ty dst = some tb) (hda : ta.desc = .str) (hdb : tb.desc = .slice e) (hby : C.isByte e = true) (hx : scal L g x = true)
    (hu : u = { dst := some (d, .v false [.o true ⟨1, false⟩]) }) (hpp : p = .s2b d (opd x)) : Runs P cx own w a env o u env' := by
  subst hpp
  subst hu
  obtain ⟨dx, vx, h1, h2, h3⟩ := opS hL hg hx
  simp only [pstep, h2] at hp
  split at hp
  · rename_i s he
    simp only [List.cons.injEq, and_true] at he
    subst he
    split at hp
    · rename_i hlim
      simp only [Option.some.injEq] at hp
      subst hp
      have hv := h3.str'
      have hr0 := Lib.run_convert_string_bytes (P := P) w src dst e s ((hC src ta hta).str hda) ((hC dst tb htb).slice hdb) (isByte_ok hC hby)
      have hr : (execOp a.eval o).run P w = .ok (.value (.slice (some ⟨w.heap.size, 0, none⟩) s.size (grownCap w s.size 0 e))) (Lib.bytesWorld w e s) := by
        unfold execOp
        simp only [ho, h1, hv, Sem.run_bind, hr0, Result.andThen_ok, Sem.run_pure]
      have hml : s.size ≤ maxLen := by
        have : lim ≤ maxLen := by decide
        omega
      have hge := grownCap_ge w s.size 0 e
      refine ⟨_, newOwn own (relabU { dst := some (d, .v false [.o true ⟨1, false⟩]) }) w.heap.size (some ⟨(d, 1), [], some 0⟩), _, hr, ?_⟩
      rw [hod]
      refine done_new (nb := some ⟨(d, 1), [], some 0⟩) hw (HeapOk.bytes own w _ e s) (fun g i h => h.elim) rfl (fun a ha => by simp at ha) (fun k hk => ?_)
        (fun s hs => put_ne _ _ _ _ (not_W_dst hs)) (fun s hs => by rw [tvA_put a d _ hd, if_neg (d_dst hs)]) (by simp [Act.put]) rfl (fun st af => ⟨fun p hp => by simp at hp, fun d' sh' he => ?_⟩)
      · simp only [Option.some.injEq] at hk
        subst hk
        exact ⟨by rw [Lib.bytesWorld_size]; omega, Nat.beq_refl _, .inr (fun a ha => by simp at ha)⟩
      · simp only [Option.some.injEq, Prod.mk.injEq] at he
        obtain ⟨rfl, rfl⟩ := he
        have hsz : s.data.size = s.size := rfl
        have hcs : (Lib.bytesCells w e s).size = grownCap w s.size 0 e := by
          simp [Lib.bytesCells, hsz]; omega
        have hxl : (bytesD s).length = s.size := by simp [bytesD, hsz]
        refine newList_ok d true (xs := bytesD s) (sz := 1) (cap := grownCap w s.size 0 e) (by rw [tvA_put a d _ hd, if_pos rfl, hxl]) (put_self _ _ _) (Lib.bytesWorld_at_new w e s) (by simp [newOwn]) (by rw [hxl]; exact hge) (grownCap_le_maxLen w _ 0 e hml)
          (by rw [hcs, Nat.mul_one]; exact Nat.le_refl _) (fun o ho => by rw [hcs]; simp; intro h; omega) (by decide) (fun x hx => ?_) (fun i x j dd hx hj => ?_)
        · unfold bytesD at hx
          obtain ⟨b, _, rfl⟩ := List.mem_map.1 hx
          rfl
        · unfold bytesD at hx
          rw [List.getElem?_map] at hx
          cases hb : s.data.toList[i]? with
          | none => rw [hb] at hx; cases hx
          | some b =>
            rw [hb] at hx
            simp only [Option.map_some, Option.some.injEq] at hx
            subst hx
            cases j with
            | succ j => simp at hj
            | zero =>
              simp only [List.getElem?_cons_zero, Option.some.injEq] at hj
              subst hj
              refine ⟨.int .u8 b.toNat, ?_, .scal (.int _ _)⟩
              have hi : i < s.data.size := by
                have := (List.getElem?_eq_some_iff.1 hb).1
                simpa using this
              have hb' : s.data[i]? = some b := by rw [← Array.getElem?_toList]; exact hb
              simp only [Nat.mul_one, Nat.add_zero, Lib.bytesCells]
              rw [Array.getElem?_append_left (by simpa using hi), Array.getElem?_map, hb']
              rfl
    · cases hp
  · cases hp

end

end V
end Go.Proofs.Ytgialjcichiaoaa

/-
Lists are appended to.
-/
namespace Go.Proofs.Ytgialjcichiaoaa
namespace V

section
variable {P : Program} {C : Cfg} {w0 : World} {own0 : Own} {cx : Cx} {own own' : Own} {w w' : World} {a : Act} {env env' : Env} {L : Look} {g : Gd} {o : Oper} {u : Up} {p : PS} {d : Nat}

/-- The new list's elements, one behind the other. -/
theorem app_get {xs ys : List (List D)} {sz : Nat} (hx : ∀ x ∈ xs, x.length = sz) {G : D → Value → Prop} {cur : Array Value}
    (h1 : ∀ (i : Nat) (x : List D) (j : Nat) (d : D), xs[i]? = some x → x[j]? = some d → ∃ v, cur[i * sz + j]? = some v ∧ G d v)
    (h2 : ∀ (i : Nat) (x : List D) (j : Nat) (d : D), ys[i]? = some x → x[j]? = some d → ∃ v, cur[(xs.length + i) * sz + j]? = some v ∧ G d v) :
    ∀ (i : Nat) (x : List D) (j : Nat) (d : D), (xs ++ ys)[i]? = some x → x[j]? = some d → ∃ v, cur[i * sz + j]? = some v ∧ G d v := by
  intro i x j dd hi hj
  by_cases h : i < xs.length
  · rw [List.getElem?_append_left h] at hi
    exact h1 i x j dd hi hj
  · rw [List.getElem?_append_right (by omega)] at hi
    have := h2 _ x j dd hi hj
    rwa [show xs.length + (i - xs.length) = i from by omega] at this

variable (hC : CfgOk P C) (hw : WOk w0 own0 cx own w) (hL : ∀ z, SlotOk w cx own env (tvA a) z (L z)) (hg : ∀ gs b, g = some (gs, b) → env gs = [.bool b])
  (hod : o.dst = some d) (hd : d < a.tmps.size)
include hC hw hod hd

/-- The list is copied into a new row. -/
theorem app_grow {t t2 e e2 : TypeId} {ei : TI} {c : Call} (ho : o.op = .call c) (hb : c.callee = .builtin .append) {x y : Operand} (hargs : c.args = #[x, y]) (htys : c.argTypes = #[t, t2]) (ht : P.underlying t = some (.slice e)) (ht2 : P.underlying t2 = some (.slice e2)) (hei : C.ty e = some ei)
    {m : Bool} {aas : List Aff} (hu : u = { aff := aas, dst := some (d, .v false [.o m ⟨ei.size, false⟩]) }) (hnd : noDup aas = true) (has : ∀ z ∈ aas, MoveAff z ∧ ∀ d j m f, z.to ≠ .al d j m f)
    {xs ys : List (List D)} {vx vy : Value} {olds news : List Value} (hvx : a.eval x = vx) (hvy : a.eval y = vy) {B : Option Addr} {sCap : Nat} (hB : vx = .slice B xs.length sCap) (hpos : 0 < ei.size)
    (hrx : Row P w (Rep w (RS cx own)) ei.size xs vx olds) (hry : Row P w (Rep w (RS cx own)) ei.size ys vy news) (hlim : xs.length + ys.length ≤ lim) (hsz : ∀ x ∈ xs ++ ys, x.length = ei.size) (hgr : sCap < xs.length + ys.length) :
    Runs P cx own w a env o u (put env d [.sl (xs ++ ys)]) := by
  have hE := hC e ei hei
  obtain ⟨ie, z, hi1, hi2, hi3, _⟩ := hE.zero
  obtain ⟨ie', hj1, hj2, hj3, hj4⟩ := hE.info
  have hie : ie' = ie := by rw [hi1] at hj1; exact (Option.some.inj hj1).symm
  subst hie
  obtain ⟨A, cap, hv2, _, _⟩ := hry.val
  have hlim' : xs.length + ys.length ≤ 1073741824 := hlim
  have hbb : (xs.length + ys.length) * ie'.bytes ≤ 140737488355328 := by
    have e1 : ie'.bytes ≤ 100000 := by omega
    have := Nat.mul_le_mul hlim' e1
    omega
  have hml : xs.length + ys.length ≤ maxLen := by
    have : lim ≤ maxLen := by decide
    omega
  have hfo := hrx.run w.drew rfl
  have hf := hry.run w.drew rfl
  rw [hB, ← hj2] at hfo
  rw [hv2, ← hj2] at hf
  have hrun := run_app_grow (P := P) (w := w) (ty := o.type) ht ht2 hi1 hi2 hfo hf hgr (by omega) (growslice_fits hgr hbb)
  have hr : (execOp a.eval o).run P w = .ok (.value (.slice (some ⟨w.heap.size, 0, none⟩) (xs.length + ys.length) (grownCap w (xs.length + ys.length) sCap e)))
      (w.drew.alloc (.cells (olds.toArray ++ news.toArray ++ Builtin.zeroCells z.cells (grownCap w (xs.length + ys.length) sCap e - (xs.length + ys.length))) e)) := by
    obtain ⟨k9, he9⟩ := exec_builtin (P := P) (w := w) (a := a) ho hb
    rw [he9]
    simp only [builtin, hargs, htys, List.map_toArray, List.map_cons, List.map_nil, hvx, hvy, hB, hv2, Sem.run_bind, hrun, Result.andThen_ok, Sem.run_pure]
  subst hu
  have hlen : (xs ++ ys).length = xs.length + ys.length := List.length_append
  refine ⟨_, newOwn own (relabU { aff := aas, dst := some (d, .v false [.o m ⟨ei.size, false⟩]) }) w.heap.size (some ⟨(d, 1), [], if m then some 0 else some ((xs.length + ys.length) * ei.size)⟩), _, hr, ?_⟩
  rw [hod]
  refine done_new (nb := some ⟨(d, 1), [], if m then some 0 else some ((xs.length + ys.length) * ei.size)⟩) hw (HeapOk.drew own w _ _) (fun g i h => h.elim) hnd (fun y hy => .inl (has y hy).1) (fun k hk => ?_)
    (fun s hs => put_ne _ _ _ _ (not_W_dst hs)) (fun s hs => by rw [tvA_put a d _ hd, if_neg (d_dst hs)]) (by simp [Act.put]) rfl (fun st af => ⟨fun p hp => by simp at hp, fun d' sh' he => ?_⟩)
  · simp only [Option.some.injEq] at hk
    subst hk
    exact ⟨by show _ < (w.heap.push _).size; simp, Nat.beq_refl _, .inr (fun y hy => (has y hy).2)⟩
  · simp only [Option.some.injEq, Prod.mk.injEq] at he
    obtain ⟨rfl, rfl⟩ := he
    have hge := grownCap_ge w (xs.length + ys.length) sCap e
    have hzs : z.cells.size = ei.size := by
      have := zsChk_len hi3
      rw [hE.len] at this
      simpa using this
    have hcs : (olds.toArray ++ news.toArray ++ Builtin.zeroCells z.cells (grownCap w (xs.length + ys.length) sCap e - (xs.length + ys.length))).size = grownCap w (xs.length + ys.length) sCap e * ei.size := by
      simp only [Array.size_append, List.size_toArray, size_zeroCells, hzs, hrx.len, hry.len, ← Nat.add_mul]
      congr 1
      omega
    refine newList_ok d m (xs := xs ++ ys) (sz := ei.size) (cap := grownCap w (xs.length + ys.length) sCap e) (by rw [tvA_put a d _ hd, if_pos rfl, hlen]) (put_self _ _ _) (gg := w.heap.size) (heap_alloc_new w.drew _) (by rw [hlen]; simp [newOwn]) (by rw [hlen]; exact hge) (grownCap_le_maxLen w _ sCap e hml)
      (by rw [hcs]; exact Nat.le_refl _) (fun o _ => by simp) hpos hsz (app_get (fun x hx => hsz x (List.mem_append_left _ hx)) (fun i x j dd hx hj => ?_) (fun i x j dd hx hj => ?_))
    · obtain ⟨v, hv, _, hG⟩ := hrx.get i x j dd hx hj
      refine ⟨v, ?_, st.rs hG⟩
      have hlt := (List.getElem?_eq_some_iff.1 hv).1
      rw [Array.append_assoc, Array.getElem?_append_left (by simpa using hlt), List.getElem?_toArray]
      exact hv
    · obtain ⟨v, hv, _, hG⟩ := hry.get i x j dd hx hj
      refine ⟨v, ?_, st.rs hG⟩
      have hlt := (List.getElem?_eq_some_iff.1 hv).1
      have hol := hrx.len
      rw [Array.append_assoc, Array.getElem?_append_right (by rw [List.size_toArray, hol, Nat.add_mul]; omega), Array.getElem?_append_left (by rw [List.size_toArray, List.size_toArray, hol, Nat.add_mul]; omega), List.getElem?_toArray]
      rw [← hv]
      congr 1
      rw [List.size_toArray, hol, Nat.add_mul]
      omega

/-- The list is appended to in its place. -/
theorem app_room {t t2 e e2 : TypeId} {ei : TI} {c : Call} (ho : o.op = .call c) (hb : c.callee = .builtin .append) {x y : Operand} (hargs : c.args = #[x, y]) (htys : c.argTypes = #[t, t2]) (ht : P.underlying t = some (.slice e)) (ht2 : P.underlying t2 = some (.slice e2)) (hei : C.ty e = some ei)
    {m : Bool} {h i : Nat} {ay : List Aff} (hu : u = { aff := ⟨h, i, m, ⟨ei.size, false⟩, if m then .x else .b, if m then .x else .b⟩ :: ay, dst := some (d, .v false [.o m ⟨ei.size, false⟩]) }) (hnd : noDup u.aff = true) (has : ∀ z ∈ u.aff, MoveAff z ∧ ∀ d j m f, z.to ≠ .al d j m f) (hhd : h ≠ d)
    {xs ys : List (List D)} {vy : Value} {news : List Value} {gg sCap : Nat} {cur : Array Value} {T : TypeId} {fr : Nat × Nat} {vs : Nat → Nat → Value} (hvx : a.eval x = .slice (some ⟨gg, 0, none⟩) xs.length sCap) (hvy : a.eval y = vy)
    (e1 : w.heap[gg]? = some (.cells cur T fr)) (e2' : own gg = some ⟨(h, i + 1), [], if m then some 0 else some (xs.length * ei.size)⟩) (e4 : sCap ≤ maxLen) (e5 : sCap * ei.size ≤ cur.size) (e6 : ∀ o, o < sCap * ei.size → (fr.1 ≤ o && o < fr.2) = false) (hpos : 0 < ei.size)
    (e9 : ∀ (i : Nat) (x : List D) (j : Nat) (d : D), xs[i]? = some x → x[j]? = some d → cur[i * ei.size + j]? = some (vs i j)) (e10 : ∀ (i : Nat) (x : List D) (j : Nat) (d : D), xs[i]? = some x → x[j]? = some d → Rep w (RS cx own) d (vs i j))
    (hry : Row P w (Rep w (RS cx own)) ei.size ys vy news) (hsz : ∀ x ∈ xs ++ ys, x.length = ei.size) (hroom : xs.length + ys.length ≤ sCap) :
    Runs P cx own w a env o u (put env d [.sl (xs ++ ys)]) := by
  have hE := hC e ei hei
  obtain ⟨ie, hj1, hj2, hj3, hj4⟩ := hE.info
  obtain ⟨A, cap, hv2, _, _⟩ := hry.val
  have hf := hry.run w rfl
  rw [hv2, ← hj2] at hf
  have hnl : news.length = ys.length * ie.size := by rw [hj2]; exact hry.len
  have hrun := run_app_room (P := P) (w := w) (ty := o.type) ht ht2 hj1 e1 hnl hf hry.one hroom (by rw [hj2]; exact e6) (by rw [hj2]; exact e5)
  rw [hj2] at hrun
  have hr : (execOp a.eval o).run P w = .ok (.value (.slice (some ⟨gg, 0, none⟩) (xs.length + ys.length) sCap)) (w.setRow gg (cur.toList.take (xs.length * ei.size) ++ news ++ cur.toList.drop (xs.length * ei.size + news.length)).toArray) := by
    obtain ⟨k9, he9⟩ := exec_builtin (P := P) (w := w) (a := a) ho hb
    rw [he9]
    simp only [builtin, hargs, htys, List.map_toArray, List.map_cons, List.map_nil, hvx, hvy, hv2, Sem.run_bind, hrun, Result.andThen_ok, Sem.run_pure]
  have hlen : (xs ++ ys).length = xs.length + ys.length := List.length_append
  have hm1 : xs.length * ei.size + ys.length * ei.size ≤ sCap * ei.size := by rw [← Nat.add_mul]; exact Nat.mul_le_mul_right _ hroom
  have hnl2 := hry.len
  have b3 : xs.length * ei.size + news.length ≤ cur.toList.length := by simp; omega
  have hsz2 : (cur.toList.take (xs.length * ei.size) ++ news ++ cur.toList.drop (xs.length * ei.size + news.length)).toArray.size = cur.size := by
    have := splice_len b3
    simpa using this
  have hcur : ∀ j, (cur.toList.take (xs.length * ei.size) ++ news ++ cur.toList.drop (xs.length * ei.size + news.length)).toArray[j]? = if j < xs.length * ei.size then cur[j]? else if j < xs.length * ei.size + news.length then news[j - xs.length * ei.size]? else cur[j]? := by
    intro j
    rw [List.getElem?_toArray, splice_get b3]
    simp
  have hA : u.A (h, i + 1) := .inr (.inr ⟨i, rfl, .inl (by rw [hu]; simp [Up.find])⟩)
  have hheap := setRow_heap w gg cur (cur.toList.take (xs.length * ei.size) ++ news ++ cur.toList.drop (xs.length * ei.size + news.length)).toArray T fr e1
  have hh : HeapOk own w (w.setRow gg (cur.toList.take (xs.length * ei.size) ++ news ++ cur.toList.drop (xs.length * ei.size + news.length)).toArray) u (fun g => g = gg) := by
    refine ⟨rfl, rfl, rfl, by simp, fun g _ hne => setRow_other w gg g _ hne, ?_, ?_, ?_⟩
    · rintro g rfl; exact ⟨_, e2', hA⟩
    · rintro g o' rfl hnc
      rw [cell_of_heap hheap, cell_of_heap e1, hcur]
      by_cases ho' : o' < xs.length * ei.size
      · rw [if_pos ho']
      · exfalso
        cases m with
        | true => exact hnc ⟨_, 0, e2', rfl, Nat.zero_le _⟩
        | false => exact hnc ⟨_, _, e2', rfl, by omega⟩
    · rintro g cc T' rfl hhh
      rw [e1] at hhh
      simp only [Option.some.injEq, Obj.cells.injEq] at hhh
      obtain ⟨rfl, rfl, rfl⟩ := hhh
      exact ⟨_, hheap, hsz2⟩
  have htake : TakeOk own w (w.setRow gg (cur.toList.take (xs.length * ei.size) ++ news ++ cur.toList.drop (xs.length * ei.size + news.length)).toArray) u gg (some ⟨(d, 1), [], if m then some 0 else some ((xs.length + ys.length) * ei.size)⟩) := by
    refine .inr ⟨_, e2', hA, fun k hk o' ⟨b, h1, h2⟩ => ?_⟩
    simp only [Option.some.injEq] at hk
    subst hk
    cases m with
    | true => exact ⟨0, rfl, Nat.zero_le _⟩
    | false =>
      simp only [Bool.false_eq_true, if_false, Option.some.injEq] at h1
      subst h1
      refine ⟨_, rfl, ?_⟩
      rw [Nat.add_mul] at h2
      omega
  have hst := step_gen (env := env) (env' := put env d [.sl (xs ++ ys)]) (tv := tvA a) (tv' := tvA (a.put (some d) (.slice (some ⟨gg, 0, none⟩) (xs.length + ys.length) sCap))) hw hh hnd htake (fun k hk => by
      simp only [Option.some.injEq] at hk
      subst hk
      exact ⟨by rw [hu]; exact Nat.beq_refl _, .inr (fun y hy => (has y hy).2)⟩)
    (fun s hs => put_ne _ _ _ _ (by rw [hu] at hs; exact not_W_dst hs)) (fun s hs => by rw [tvA_put a d _ hd, if_neg (by rw [hu] at hs; exact d_dst hs)])
  have haf := affOk_gen hw hh (fun g j hgj hj => by
      have hgg : g = gg := by rcases hgj with h | h <;> exact h
      subst hgg
      rw [e2'] at hj
      simp only [Option.some.injEq] at hj
      subst hj
      refine .inr (.inr ⟨⟨h, i, m, ⟨ei.size, false⟩, if m then .x else .b, if m then .x else .b⟩, by rw [hu]; exact List.mem_cons_self .., (has _ (by rw [hu]; exact List.mem_cons_self ..)).1, rfl, fun x v hor s k => ?_⟩)
      cases m with
      | true => trivial
      | false => exact hst.bs (OwnRep.borrow hor (fun g i hi => (hw.dom g i hi).2) hw.s1)) hnd (fun y hy => .inl (has y hy).1) hst
  refine ⟨_, newOwn own (relabU u) gg (some ⟨(d, 1), [], if m then some 0 else some ((xs.length + ys.length) * ei.size)⟩), _, hr, ?_⟩
  rw [hod]
  refine ⟨hst, haf, fun p hp => by rw [hu] at hp; simp at hp, fun d' sh' he => ?_, by simp [Act.put], rfl⟩
  rw [hu] at he
  simp only [Option.some.injEq, Prod.mk.injEq] at he
  obtain ⟨rfl, rfl⟩ := he
  refine newList_ok d m (xs := xs ++ ys) (sz := ei.size) (cap := sCap) (by rw [tvA_put a d _ hd, if_pos rfl, hlen]) (put_self _ _ _) hheap (by rw [hlen]; simp [newOwn]) (by rw [hlen]; exact hroom) e4
    (by rw [hsz2]; exact e5) e6 hpos hsz (app_get (fun x hx => hsz x (List.mem_append_left _ hx)) (fun i x j dd hx hj => ?_) (fun i x j dd hx hj => ?_))
  · have hj' : j < ei.size := by rw [← hsz x (List.mem_append_left _ (List.mem_of_getElem? hx))]; exact (List.getElem?_eq_some_iff.1 hj).1
    have hi' : i < xs.length := (List.getElem?_eq_some_iff.1 hx).1
    have : i * ei.size + ei.size ≤ xs.length * ei.size := by rw [← Nat.succ_mul]; exact Nat.mul_le_mul_right _ hi'
    refine ⟨vs i j, ?_, hst.rs (e10 i x j dd hx hj)⟩
    rw [hcur, if_pos (by omega)]
    exact e9 i x j dd hx hj
  · obtain ⟨v, hv, _, hG⟩ := hry.get i x j dd hx hj
    have hlt := (List.getElem?_eq_some_iff.1 hv).1
    refine ⟨v, ?_, hst.rs hG⟩
    rw [hcur, if_neg (by rw [Nat.add_mul]; omega), if_pos (by rw [Nat.add_mul]; omega), ← hv]
    congr 1
    rw [Nat.add_mul]
    omega

end

end V
end Go.Proofs.Ytgialjcichiaoaa

/-
Appends, put together.
-/
namespace Go.Proofs.Ytgialjcichiaoaa
namespace V

section
variable {P : Program} {C : Cfg} {w0 : World} {own0 : Own} {cx : Cx} {own own' : Own} {w w' : World} {a : Act} {env env' : Env} {L : Look} {g : Gd} {o : Oper} {u : Up} {p : PS} {d : Nat}

variable (hC : CfgOk P C) (hw : WOk w0 own0 cx own w) (hL : ∀ z, SlotOk w cx own env (tvA a) z (L z)) (hg : ∀ gs b, g = some (gs, b) → env gs = [.bool b])
  (hod : o.dst = some d) (hd : d < a.tmps.size) (hp : pstep p env = some env')
include hC hw hL hg hod hd hp

/-- A base that is owned, or nil, and a list that is good: the list is appended to. -/
theorem app_all {t t2 e e2 : TypeId} {ei : TI} {c : Call} (ho : o.op = .call c) (hb : c.callee = .builtin .append) {x y : Operand} (hargs : c.args = #[x, y]) (htys : c.argTypes = #[t, t2]) (ht : P.underlying t = some (.slice e)) (ht2 : P.underlying t2 = some (.slice e2)) (hei : C.ty e = some ei)
    {m sc : Bool} {ax ay : List Aff} (hu : u = { aff := ax ++ ay, dst := some (d, .v false [.o m ⟨ei.size, false⟩]) }) (hnd : noDup u.aff = true) (hay : ∀ z ∈ ay, MoveAff z ∧ z.to = .r)
    {dx dy : D} {vx vy : Value} (hvx : a.eval x = vx) (hdx : (opd x).get env = [dx]) (hvy : a.eval y = vy) (hdy : (opd y).get env = [dy]) (hpos : 0 < ei.size)
    (hbase : (∀ xs, dx = .sl xs → xs = [] ∧ vx = .slice none 0 0 ∧ ax = []) ∨ ∃ h i, ax = [⟨h, i, m, ⟨ei.size, false⟩, if m then .x else .b, if m then .x else .b⟩] ∧ h ≠ d ∧ OwnRep w cx own (h, i + 1) m ⟨ei.size, false⟩ dx vx)
    (hrow : ∀ ys, dy = .sl ys → (∀ y ∈ ys, y.length = ei.size) → (sc = true → ∀ y ∈ ys, y.all isScal = true) → ∃ news, Row P w (Rep w (RS cx own)) ei.size ys vy news)
    (hpp : p = .app d ei.size sc (opd x) (opd y)) : Runs P cx own w a env o u env' := by
  subst hpp
  simp only [pstep, hdx, hdy] at hp
  split at hp
  rotate_left
  · cases hp
  rename_i _ _ xs ys he1 he2
  simp only [List.cons.injEq, and_true] at he1 he2
  subst he1; subst he2
  split at hp
  rotate_left
  · cases hp
  rename_i hk
  obtain ⟨hlim, hsz, hsc⟩ := hk
  simp only [Option.some.injEq] at hp
  subst hp
  obtain ⟨news, hry⟩ := hrow ys rfl (fun y hy => hsz y (List.mem_append_right _ hy)) hsc
  have hmov : (∀ z ∈ ax, MoveAff z ∧ ∀ d j m f, z.to ≠ .al d j m f) → ∀ z ∈ u.aff, MoveAff z ∧ ∀ d j m f, z.to ≠ .al d j m f := by
    intro hax z hz
    rw [hu] at hz
    rcases List.mem_append.1 hz with hz | hz
    · exact hax z hz
    · exact ⟨(hay z hz).1, fun d j m f => by rw [(hay z hz).2]; simp⟩
  -- a nil base
  have nilb : xs = [] → vx = .slice none 0 0 → (∀ z ∈ ax, MoveAff z ∧ ∀ d j m f, z.to ≠ .al d j m f) → Runs P cx own w a env o u (put env d [.sl (xs ++ ys)]) := by
    intro hxs hv hax
    subst hxs
    by_cases hys : ys = []
    · subst hys
      obtain ⟨A, cap, hv2, _, _⟩ := hry.val
      obtain ⟨ie, hj1, hj2, _⟩ := (hC e ei hei).info
      have hf := hry.run w rfl
      have hnn : news = [] := List.eq_nil_of_length_eq_zero (by rw [hry.len]; simp)
      rw [hv2, ← hj2, hnn] at hf
      have hrun := run_app_none (P := P) (w := w) (ty := o.type) ht ht2 hj1 hf
      have hr : (execOp a.eval o).run P w = .ok (.value (.slice none 0 0)) w := by
        obtain ⟨k9, he9⟩ := exec_builtin (P := P) (w := w) (a := a) ho hb
        rw [he9]
        simp only [List.length_nil] at hv2
        simp only [builtin, hargs, htys, List.map_toArray, List.map_cons, List.map_nil, hvx, hvy, hv, hv2, Sem.run_bind, hrun, Result.andThen_ok, Sem.run_pure]
      have hm2 := hmov hax
      subst hu
      refine ⟨_, newOwn own (relabU { aff := ax ++ ay, dst := some (d, .v false [.o m ⟨ei.size, false⟩]) }) w.heap.size none, w, hr, ?_⟩
      rw [hod]
      refine done_new (nb := none) hw (HeapOk.same_world own w _) (fun g i h => h.elim) hnd (fun y hy => .inl (hm2 y hy).1) (fun k hk => by cases hk)
        (fun s hs => put_ne _ _ _ _ (not_W_dst hs)) (fun s hs => by rw [tvA_put a d _ hd, if_neg (d_dst hs)]) (by simp [Act.put]) rfl (fun st af => ⟨fun p hp => by simp at hp, fun d' sh' he => ?_⟩)
      simp only [Option.some.injEq, Prod.mk.injEq] at he
      obtain ⟨rfl, rfl⟩ := he
      exact slot_one hd ⟨⟨fun _ => by simp, fun _ => by simp⟩, .nil⟩
    · have hyl : 0 < ys.length := List.length_pos_iff.2 hys
      exact app_grow hC hw hod hd ho hb hargs htys ht ht2 hei hu (by rw [hu] at hnd; exact hnd) (by have := hmov hax; rw [hu] at this; exact this) hvx hvy (B := none) (sCap := 0) hv hpos (by rw [hv]; exact row_nil none 0) hry hlim hsz (by simp; omega)
  rcases hbase with hbase | ⟨h, i, hax, hhd, hor⟩
  · obtain ⟨h1, h2, h3⟩ := hbase xs rfl
    exact nilb h1 h2 (by rw [h3]; intro z hz; simp at hz)
  · have hax' : ∀ z ∈ ax, MoveAff z ∧ ∀ d j m f, z.to ≠ .al d j m f := by
      rw [hax]
      intro z hz
      simp only [List.mem_singleton] at hz
      subst hz
      cases m with
      | true => exact ⟨⟨rfl, .inr (.inr (.inl rfl))⟩, fun d j m f => by simp⟩
      | false => exact ⟨⟨rfl, .inr (.inr (.inr rfl))⟩, fun d j m f => by simp⟩
    generalize hdd : D.sl xs = dd at hor
    cases hor with
    | nil =>
      simp only [D.sl.injEq] at hdd
      exact nilb hdd rfl hax'
    | sl xs' gg cap cur T fr vs e1 e2' e3 e4 e5 e6 e7 e8 e9 e10 =>
      simp only [D.sl.injEq] at hdd
      subst hdd
      by_cases hroom : xs.length + ys.length ≤ cap
      · rw [hax] at hu
        exact app_room hC hw hod hd ho hb hargs htys ht ht2 hei hu hnd (hmov hax') hhd hvx hvy e1 e2' e4 e5 e6 hpos e9 e10 hry hsz hroom
      · obtain ⟨olds, hrx⟩ := row_of (P := P) (G := Rep w (RS cx own)) hpos (fun y hy => hsz y (List.mem_append_left _ hy)) (v := .slice (some ⟨gg, 0, none⟩) xs.length cap) rfl e3 e8
          (fun i x j dd hx hj => by rw [Nat.zero_add, cell_of_heap e1]; exact e9 i x j dd hx hj) (fun i x j dd hx hj => ⟨(e10 i x j dd hx hj).cell1, e10 i x j dd hx hj⟩)
        exact app_grow hC hw hod hd ho hb hargs htys ht ht2 hei hu (by rw [hu] at hnd; exact hnd) (by have := hmov hax'; rw [hu] at this; exact this) hvx hvy rfl hpos hrx hry hlim hsz (by omega)

theorem append_ok {c : Call} {x y : Operand} {t t2 : TypeId} (ho : o.op = .call c) (hb : c.callee = .builtin .append) (hargs : c.args.toList = [x, y]) (htys : c.argTypes.toList = [t, t2]) (hc : cAppend C L g d t t2 x y = some (u, p)) : Runs P cx own w a env o u env' := by
  have hargs' : c.args = #[x, y] := by rw [← Array.toArray_toList (xs := c.args), hargs]
  have htys' : c.argTypes = #[t, t2] := by rw [← Array.toArray_toList (xs := c.argTypes), htys]
  unfold cAppend at hc
  split at hc
  rotate_left
  · cases hc
  rename_i ti t2i hti ht2i
  split at hc
  rotate_left
  · cases hc
  rename_i e e2 hde hde2
  split at hc
  rotate_left
  · cases hc
  rename_i ei cx' cy hei hsx hsy
  obtain ⟨dx, vx, sx, h1, h2, h3, h4, h5, h6⟩ := opL hL hg hsx
  obtain ⟨dy, vy, sy, k1, k2, k3, k4, k5, k6⟩ := opL hL hg hsy
  simp only at hc
  split at hc
  · cases hc
  rename_i m hbase
  split at hc
  · cases hc
  rename_i ay hay
  split at hc
  · cases hc
  rename_i hk
  simp only [Bool.and_eq_true] at hk
  obtain ⟨⟨⟨hnd, hhd⟩, hns⟩, hpos⟩ := hk
  simp only [Option.some.injEq, Prod.mk.injEq] at hc
  obtain ⟨hcu, hcp⟩ := hc
  have hayr : ∀ z ∈ ay, MoveAff z ∧ z.to = .r := by
    intro z hz
    split at hay
    · simp only [Option.some.injEq] at hay; subst hay; simp at hz
    · split at hay
      · obtain ⟨_, _, _, _, _, _, h7, _⟩ := freezeOp_ok hL hg hay
        exact h7 z hz
      · cases hay
  refine app_all hC hw hL hg hod hd hp ho hb hargs' htys' ((hC t ti hti).slice hde) ((hC t2 t2i ht2i).slice hde2) hei hcu.symm (by rw [← hcu]; exact hnd) hayr h1 h2 k1 k2 (Nat.le_of_ble_eq_true hpos) ?_ ?_ hcp.symm
  · -- the base
    split at hbase
    · obtain ⟨e1, e2⟩ := h4.2
      refine .inl fun xs hxs => ⟨?_, e2, ?_⟩
      · rw [e1] at hxs; cases hxs; rfl
      · cases x <;> rfl
    · split at hbase
      · rename_i m1 f1 hox
        split at hbase
        · rename_i hf
          have hf' := fEq_iff.1 hf
          subst hf'
          simp only [Option.some.injEq] at hbase
          subst hbase
          rename_i h0 i0 _
          refine .inr ⟨h0, i0, rfl, ?_, ?_⟩
          · rintro rfl
            first
              | (rw [hox] at hhd; simp at hhd; done)
              | (simp only [Bool.not_eq_true', Nat.beq_refl] at hhd; cases hhd; done)
              | exact absurd hhd (by simp)
          · unfold ownOp at hox
            split at hox
            · rename_i s
              obtain rfl := h3 s rfl
              have h42 := h4.2
              cases cx' <;> simp only [ownOf, Option.some.injEq, Prod.mk.injEq, reduceCtorEq] at hox
              · obtain ⟨rfl, rfl, rfl, rfl⟩ := hox
                exact h42
              · obtain ⟨rfl, rfl, rfl, rfl⟩ := hox
                exact h42
            · cases hox
        · cases hbase
      · cases hbase
  · intro ys hys hysz hsc
    subst hys
    obtain ⟨A, cap, hv2, hcap2⟩ := (CellOk.rep k4 k5).slice'
    have hemp : ys = [] → ∃ news, Row P w (Rep w (RS cx own)) ei.size ys vy news := by
      rintro rfl
      rw [hv2]
      exact ⟨[], row_nil A cap⟩
    rcases elem_ok hw k5 k4 k6 with h | ⟨gg, off, sz, cap', vs, hv', h12, h13, h14, h15⟩
    · exact hemp h
    · rw [hv2] at hv'
      simp only [Value.slice.injEq] at hv'
      obtain ⟨rfl, _, rfl⟩ := hv'
      refine row_of (Nat.le_of_ble_eq_true hpos) hysz hv2 hcap2 h12 h13 (fun i x j dd hx hj => ⟨(h14 i x j dd hx hj).cell1, ?_⟩)
      cases hsca : allScal ei.zero with
      | true =>
        have hall := hsc hsca x (List.mem_of_getElem? hx)
        have hdd := List.all_eq_true.1 hall dd (List.mem_of_getElem? hj)
        refine .scal ((h14 i x j dd hx hj).scal' ?_)
        cases dd <;> first | exact .inl ⟨_, _, rfl⟩ | exact .inr (.inl ⟨_, rfl⟩) | exact .inr (.inr ⟨_, rfl⟩) | cases hdd
      | false =>
        rw [hsca] at hay
        simp only at hay
        split at hay
        · rename_i he
          have := h15 i x j dd 0 0 hx hj
          rw [he] at this
          exact this
        · cases hay

end

end V
end Go.Proofs.Ytgialjcichiaoaa

/-
Structs are compared; one operation that is no call.
-/
namespace Go.Proofs.Ytgialjcichiaoaa
namespace V

/-- What comparing two values of a type comes to. -/
structure EqTy (P : Program) (t : Nat) (zs : List D) : Prop where
  guard : P.eqGuardType P.depth t = false
  run : ∀ (w : World) (xs ys : List D) (vs us : List Value), fits zs xs = true → fits zs ys = true → vs.length = xs.length → us.length = ys.length →
    (∀ (i : Nat) (d : D) (v : Value), xs[i]? = some d → vs[i]? = some v → Scal d v) → (∀ (i : Nat) (d : D) (v : Value), ys[i]? = some d → us[i]? = some v → Scal d v) →
    (Op.equalIn 10000 t (.agg vs.toArray) (.agg us.toArray)).run P w = .ok (eqDs xs ys) w

def EqOk (P : Program) (C : Cfg) : Prop := ∀ t ti, C.eqt.any (Nat.beq t) = true → C.ty t = some ti → EqTy P t ti.zero

theorem fits_scal : ∀ {zs xs : List D}, fits zs xs = true → ∀ {i : Nat} {d : D}, xs[i]? = some d → (∃ k n, d = .int k n) ∨ (∃ b, d = .bool b) ∨ ∃ s, d = .str s
  | [], [], _, i, d, h => by simp at h
  | [], _ :: _, h, _, _, _ => by cases h
  | _ :: _, [], h, _, _, _ => by cases h
  | a :: r, b :: q, h, 0, d, hd => by
    simp only [fits, Bool.and_eq_true] at h
    simp only [List.getElem?_cons_zero, Option.some.injEq] at hd
    subst hd
    have h1 := h.1
    split at h1
    · exact .inl ⟨_, _, rfl⟩
    · exact .inr (.inl ⟨_, rfl⟩)
    · exact .inr (.inr ⟨_, rfl⟩)
    · cases h1
  | a :: r, b :: q, h, i + 1, d, hd => by
    simp only [fits, Bool.and_eq_true] at h
    exact fits_scal h.2 (by simpa using hd)

section
variable {P : Program} {C : Cfg} {w0 : World} {own0 : Own} {cx : Cx} {own own' : Own} {w w' : World} {a : Act} {env env' : Env} {L : Look} {g : Gd} {o : Oper} {u : Up} {p : PS} {d : Nat}

section
variable (hE : EqOk P C) (hw : WOk w0 own0 cx own w) (hL : ∀ z, SlotOk w cx own env (tvA a) z (L z)) (hg : ∀ gs b, g = some (gs, b) → env gs = [.bool b])
  (hod : o.dst = some d) (hd : d < a.tmps.size) (hp : pstep p env = some env')
include hE hw hL hg hod hd hp

theorem eqs_ok {op : BinOp} {neg : Bool} {t t2 : TypeId} {x y : Operand} {ti : TI} {cs ds : List CS} (hti : C.ty t = some ti) (hq : C.eqt.any (Nat.beq t) = true) (hop : (op = .eql ∧ neg = false) ∨ (op = .neq ∧ neg = true)) (ho : o.op = .binOp op t x y t2)
    (hx : opSh L g x = .v true cs) (hy : opSh L g y = .v true ds) (hcs : cs.all (· = .s) = true) (hds : ds.all (· = .s) = true) (hpp : p = .eqs d neg ti.zero (opd x) (opd y)) :
    Runs P cx own w a env o { dst := some (d, .v false [.s]) } env' := by
  subst hpp
  obtain ⟨vs, s, h1, h2, h3, h4⟩ := opV hL hg hx
  obtain ⟨us, s', k1, k2, k3, k4⟩ := opV hL hg hy
  simp only [pstep] at hp
  split at hp
  · rename_i hf
    simp only [Bool.and_eq_true] at hf
    simp only [Option.some.injEq] at hp
    subst hp
    have hq' := hE t ti hq hti
    have sc : ∀ {cs : List CS} {xs : List D} {vs : List Value} {s : Nat}, cs.all (· = .s) = true → All3 (CellOk w cx own s) cs xs vs → ∀ (i : Nat) (d : D) (v : Value), xs[i]? = some d → vs[i]? = some v → Scal d v := by
      intro cs xs vs s hcs h i d v hd hv
      have hi : i < cs.length := by rw [h.1]; exact (List.getElem?_eq_some_iff.1 hd).1
      have h5 := (h.2.2 i _ d v (List.getElem?_eq_getElem hi) hd hv).2
      have h6 : cs[i] = .s := by simpa using List.all_eq_true.1 hcs _ (List.getElem_mem hi)
      rw [h6] at h5
      exact h5
    have hrun := hq'.run w _ _ vs us hf.1 hf.2 h4.2.1 k4.2.1 (sc hcs h4) (sc hds k4)
    have h1' : a.eval x = .agg vs.toArray := h1
    have k1' : a.eval y = .agg us.toArray := k1
    refine runs_scal hw hod hd ?_ (.bool _)
    unfold execOp
    rcases hop with ⟨rfl, rfl⟩ | ⟨rfl, rfl⟩
    · simp only [ho, h1', k1', Sem.run_bind, run_eqGuard_agg w _ t x y _ _ hq'.guard, Result.andThen_ok, run_eql_struct, hrun, Sem.run_pure]
      cases eqDs _ _ <;> rfl
    · simp only [ho, h1', k1', Sem.run_bind, run_eqGuard_agg w _ t x y _ _ hq'.guard, Result.andThen_ok, run_neq_struct, hrun, Sem.run_pure]
      cases eqDs _ _ <;> rfl
  · cases hp

end

theorem op_ok (hC : CfgOk P C) (hE : EqOk P C) (hw : WOk w0 own0 cx own w) (hL : ∀ z, SlotOk w cx own env (tvA a) z (L z)) (hg : ∀ gs b, g = some (gs, b) → env gs = [.bool b])
    (hd : ∀ d, o.dst = some d → d < a.tmps.size) (hn : ∀ d sh, u.dst = some (d, sh) → sh.names d = false) (hp : pstep p env = some env') (hcl : isCall o.op = false) (hc : cOp C L g o = some (u, p)) : OpOk P cx own w a env o u env' := by
  unfold cOp at hc
  split at hc
  · rename_i x d ho hod
    exact (move_ok hw hL hg hod (hd d hod) hn hp (fun w2 => exec_move (w := w2) x (.inl ho)) hc).opOk
  · rename_i x d ho hod
    exact (assign_ok hw hL hg hod (hd d hod) hn hp ho hc).opOk
  · rename_i c x y d ho hod
    exact (pick_ok hw hL hg hod (hd d hod) hn hp ho hc).opOk
  · rename_i t d ho hod
    exact (alloc_ok hC hw hod (hd d hod) hn hp ho hc).opOk
  · rename_i t x d ho hod
    exact (box_ok hC hw hL hg hod (hd d hod) hn hp ho hc).opOk
  · rename_i t ps d ho hod
    exact (build_ok hC hw hL hg hod (hd d hod) hn hp ho hc).opOk
  · rename_i t n ps d ho hod
    exact (lit_ok hC hw hL hg hod (hd d hod) hn hp ho hc).opOk
  · rename_i t x d ho hod
    exact (load_ok hC hw hL hg hod (hd d hod) hn hp ho hc).opOk
  · rename_i t ad x ho hod
    exact store_ok hC hw hL hg hod hp ho hc
  · rename_i x d ho hod
    exact (nil_ok hw hL hg hod (hd d hod) hn hp ho hc).opOk
  · rename_i op t x y pos d ho hod
    split at hc
    · cases hc
    rename_i ti hti
    split at hc
    · rename_i hs
      simp only [Bool.and_eq_true] at hs
      split at hc
      · rename_i hde
        split at hc
        · simp only [cPut, Option.some.injEq, Prod.mk.injEq] at hc
          obtain ⟨rfl, rfl⟩ := hc
          exact (beq_ok hw hL hg hod (hd d hod) hp ((hC t ti hti).bool hde) (.inl ⟨rfl, rfl⟩) ho hs.1 hs.2 rfl).opOk
        · simp only [cPut, Option.some.injEq, Prod.mk.injEq] at hc
          obtain ⟨rfl, rfl⟩ := hc
          exact (beq_ok hw hL hg hod (hd d hod) hp ((hC t ti hti).bool hde) (.inr ⟨rfl, rfl⟩) ho hs.1 hs.2 rfl).opOk
        · cases hc
      · simp only [cPut, Option.some.injEq, Prod.mk.injEq] at hc
        obtain ⟨rfl, rfl⟩ := hc
        exact (bin_ok hw hL hg hod (hd d hod) hp ho hs.1 hs.2 rfl).opOk
    · split at hc
      · rename_i cs ds hx hy
        split at hc
        · rename_i hk
          simp only [Bool.and_eq_true] at hk
          split at hc
          · simp only [cPut, Option.some.injEq, Prod.mk.injEq] at hc
            obtain ⟨rfl, rfl⟩ := hc
            exact (eqs_ok hE hw hL hg hod (hd d hod) hp hti hk.2 (.inl ⟨rfl, rfl⟩) ho hx hy hk.1.1 hk.1.2 rfl).opOk
          · simp only [cPut, Option.some.injEq, Prod.mk.injEq] at hc
            obtain ⟨rfl, rfl⟩ := hc
            exact (eqs_ok hE hw hL hg hod (hd d hod) hp hti hk.2 (.inr ⟨rfl, rfl⟩) ho hx hy hk.1.1 hk.1.2 rfl).opOk
          · cases hc
        · cases hc
      · cases hc
  · rename_i op t x d ho hod
    split at hc
    · rename_i hx
      simp only [cPut, Option.some.injEq, Prod.mk.injEq] at hc
      obtain ⟨rfl, rfl⟩ := hc
      exact (un_ok hw hL hg hod (hd d hod) hp ho hx rfl).opOk
    · cases hc
  · rename_i src dst x d ho hod
    by_cases hst : ∃ ti : TI, C.ty src = some ti ∧ ti.desc = .str
    · obtain ⟨ta, hta, hda⟩ := hst
      unfold cConvert at hc
      rw [hta] at hc
      split at hc
      · rename_i ta' tb hta' htb
        simp only [Option.some.injEq] at hta'
        subst hta'
        rw [hda] at hc
        split at hc
        · rename_i h _; cases h
        · rename_i h _; cases h
        · rename_i e _ hdb
          split at hc
          · rename_i hk
            simp only [Bool.and_eq_true] at hk
            simp only [cPut, Option.some.injEq, Prod.mk.injEq] at hc
            exact (s2b_ok hC hw hL hg hod (hd d hod) hn hp ho hta htb hda hdb hk.1 hk.2 hc.1.symm hc.2.symm).opOk
          · cases hc
        · rename_i h _; cases h
        · cases hc
      · cases hc
    · exact (convert_ok hC hw hL hg hod (hd d hod) hn hp ho (fun ti h1 h2 => hst ⟨ti, h1, h2⟩) hc).opOk
  · rename_i t n c d ho hod
    exact (make_ok hC hw hL hg hod (hd d hod) hn hp ho hc).opOk
  · rename_i t x lo hi mx d ho hod
    exact (slice_ok hC hw hL hg hod (hd d hod) hn hp ho hc).opOk
  · rename_i t x k d ho hod
    exact (fieldAddr_ok hC hw hL hg hod (hd d hod) hn hp ho hc).opOk
  · rename_i t x k d ho hod
    exact (field_ok hC hw hL hg hod (hd d hod) hn hp ho hc).opOk
  · rename_i t x i d ho hod
    exact (indexAddr_ok hC hw hL hg hod (hd d hod) hn hp ho hc).opOk
  · rename_i t x i d ho hod
    exact (index_ok hC hw hL hg hod (hd d hod) hn hp ho hc).opOk
  · rename_i x k d ho hod
    exact (extract_ok hC hw hL hg hod (hd d hod) hn hp ho hc).opOk
  · rename_i f fs cs d ho hod
    exact (func_ok hw hL hg hod (hd d hod) hn hp ho hc).opOk
  · rename_i c d ho hod
    split at hc
    · rename_i x t hb hargs htys
      split at hc
      · rename_i ti hti
        split at hc
        · rename_i e hde
          split at hc
          · rename_i k hk
            simp only [cPut, Option.some.injEq, Prod.mk.injEq] at hc
            obtain ⟨rfl, rfl⟩ := hc
            exact (lenL_ok hC hw hL hg hod (hd d hod) hn hp ho hb hargs htys hti hde hk rfl).opOk
          · cases hc
        · rename_i hde
          split at hc
          · rename_i hk
            simp only [cPut, Option.some.injEq, Prod.mk.injEq] at hc
            obtain ⟨rfl, rfl⟩ := hc
            exact (lenS_ok hC hw hL hg hod (hd d hod) hn hp ho hb hargs htys hti hde hk rfl).opOk
          · cases hc
        · cases hc
      · cases hc
    · rename_i x y hb hargs
      split at hc
      · rename_i hk
        simp only [Bool.and_eq_true] at hk
        simp only [cPut, Option.some.injEq, Prod.mk.injEq] at hc
        obtain ⟨rfl, rfl⟩ := hc
        exact (min_ok hw hL hg hod (hd d hod) hn hp ho hb hargs hk.1 hk.2 rfl).opOk
      · cases hc
    · rename_i x y t t2 hb hargs htys
      exact (append_ok hC hw hL hg hod (hd d hod) hp ho hb hargs htys hc).opOk
    · rename_i hb
      rw [ho] at hcl
      simp [isCall, hb] at hcl
    · rename_i hb
      rw [ho] at hcl
      simp [isCall, hb] at hcl
    · cases hc
  · cases hc

end

end V
end Go.Proofs.Ytgialjcichiaoaa

/-
What a function promises.
-/
namespace Go.Proofs.Ytgialjcichiaoaa
namespace V

def envL (l : List (List D)) : Env := fun k => l.getD k []
def tvL (l : List Value) : Nat → Value := fun k => l.getD k undef

/-- A result, as the caller has it. -/
def resSh1 : PSh → Sh
  | .v a cs => .v a cs
  | .nbox cs => .box false cs
  | _ => .dead

def retV : List Value → Value
  | [v] => v
  | vs => .tuple vs.toArray

/-- What holds of results and of the boxes that were handed over: the results stand in the slots 0, 1, .., the boxes behind them. -/
structure ResOk (w : World) (cx : Cx) (own : Own) (sig : Sig) (outs : List (List D)) (vals : List Value) (v : Value) : Prop where
  len : outs.length = sig.rs.length + (boxPs sig.ps 0).length
  tv : ∃ rv : List Value, rv.length = sig.rs.length ∧ v = retV rv ∧ (∀ (k : Nat) (p : PSh), sig.rs[k]? = some p → SlotOk w cx own (envL outs) (tvL (rv ++ (boxPs sig.ps 0).map fun b => tvL vals b.1)) k (resSh1 p)) ∧
    (∀ (i : Nat) (b : Nat × List CS), (boxPs sig.ps 0)[i]? = some b → SlotOk w cx own (envL outs) (tvL (rv ++ (boxPs sig.ps 0).map fun b => tvL vals b.1)) (sig.rs.length + i) (.box false b.2))

/-- A condition on the world's variables that a call does not touch. -/
structure Wld where
  G : Nat
  P : World → Prop
  size : ∀ w, P w → G ≤ w.heap.size
  keep : ∀ (own : Own) (w w' : World), Kept own w w' → (∀ g i, own g = some i → G ≤ g) → P w → P w'

/-- The function has a body that a call enters. -/
def Ent (P : Program) (f : Nat) : Prop := ∃ fn, P.funcs[f]? = some fn ∧ (fn.name == "runtime.NumGoroutine") = false ∧ fn.body.isNone = false

/-- A function's promise at these data. -/
def FunOk (P : Program) (W : Wld) (f : Nat) (sig : Sig) (ins outs : List (List D)) : Prop := Ent P f ∧
  ∀ (w : World) (own : Own) (cx : Cx) (vals : List Value), W.P w → WOk w own cx own w → (∀ g i, own g = some i → W.G ≤ g ∧ i.leaf.1 < sig.ps.length) → vals.length = sig.ps.length → ins.length = sig.ps.length →
    Inv (start sig) w cx own (envL ins) (tvL vals) →
    Calls P f vals.toArray w (fun e w' => ∃ v own', e = .returned v ∧ WOk w own cx own' w' ∧ ResOk w' cx own' sig outs vals v)

end V
end Go.Proofs.Ytgialjcichiaoaa

/-
What a called function finds: its own view of the world.
-/
namespace Go.Proofs.Ytgialjcichiaoaa
namespace V

theorem leafEq_iff {a b : Leaf} : leafEq a b = true ↔ a = b := by
  unfold leafEq
  simp only [Bool.and_eq_true]
  constructor
  · intro h; exact Prod.ext (Nat.eq_of_beq_eq_true h.1) (Nat.eq_of_beq_eq_true h.2)
  · rintro rfl; exact ⟨Nat.beq_refl _, Nat.beq_refl _⟩

def leafMap (hs : List (Leaf × Leaf)) (l : Leaf) : Option Leaf := (hs.find? fun p => leafEq p.1 l).map (·.2)

def ownC (own : Own) (hs : List (Leaf × Leaf)) : Own := fun g => (own g).bind fun i => (leafMap hs i.leaf).map fun l => { i with leaf := l }

/-- Is a leaf frozen by the call. -/
def frozenL (aas : List Aff) (l : Leaf) : Bool := aas.any fun a => leafEq (a.h, a.i + 1) l && (match a.to with | .r => true | _ => false)

def own1 (own : Own) (aas : List Aff) : Own := fun g => (own g).bind fun i => if frozenL aas i.leaf then none else some i

def cxC (cx : Cx) (own : Own) (n : Nat) (A : CA) (bres : Bool) : Cx where
  S1 := fun g o => g < n ∧ own1 own A.aas g = none ∧ (cx.S1 g o ∨ cx.N g)
  S2 := fun g o => g < n ∧ ¬claimed (ownC own A.hs) g o ∧ (bres = true → ¬claimed (own1 own A.aas) g o ∧ (cx.S2 g o ∨ cx.N g))
  N := fun g => n ≤ g ∨ ownC own A.hs g ≠ none

theorem leafMap_some {hs : List (Leaf × Leaf)} {l l' : Leaf} (h : leafMap hs l = some l') : (l, l') ∈ hs := by
  unfold leafMap at h
  cases hf : hs.find? fun p => leafEq p.1 l with
  | none => rw [hf] at h; cases h
  | some p =>
    rw [hf] at h
    simp only [Option.map_some, Option.some.injEq] at h
    have h1 := List.mem_of_find?_eq_some hf
    have h2 := List.find?_some hf
    have h3 : p.1 = l := leafEq_iff.1 h2
    rw [← h3, ← h]
    exact h1

theorem distinctL_inj {α : Type} (f : α → Leaf) : ∀ {l : List α}, distinctL (l.map f) = true → ∀ {a b : α}, a ∈ l → b ∈ l → f a = f b → a = b
  | [], _, a, b, ha, _, _ => by simp at ha
  | c :: r, h, a, b, ha, hb, he => by
    simp only [List.map_cons, distinctL, Bool.and_eq_true, Bool.not_eq_true'] at h
    have key : ∀ x ∈ r, f x ≠ f c := fun x hx e => by
      have := List.any_eq_false.1 h.1 (f x) (List.mem_map.2 ⟨x, hx, rfl⟩)
      exact this (leafEq_iff.2 e.symm)
    rcases List.mem_cons.1 ha with ea | ha'
    · rcases List.mem_cons.1 hb with eb | hb'
      · rw [ea, eb]
      · exact absurd (by rw [← he, ea]) (key b hb')
    · rcases List.mem_cons.1 hb with eb | hb'
      · exact absurd (by rw [he, eb]) (key a ha')
      · exact distinctL_inj f h.2 ha' hb' he

theorem leafMap_mem {hs : List (Leaf × Leaf)} (hd : distinctL (srcs hs) = true) {l l' : Leaf} (h : (l, l') ∈ hs) : leafMap hs l = some l' := by
  cases hm : leafMap hs l with
  | none =>
    unfold leafMap at hm
    simp only [Option.map_eq_none_iff, List.find?_eq_none] at hm
    exact absurd (leafEq_iff.2 rfl) (hm _ h)
  | some l2 =>
    have := leafMap_some hm
    have := distinctL_inj (fun p : Leaf × Leaf => p.1) hd this h rfl
    rw [Prod.mk.injEq] at this
    rw [this.2]

theorem ownC_some {own : Own} {hs : List (Leaf × Leaf)} {g : Nat} {j : OI} (h : ownC own hs g = some j) : ∃ i, own g = some i ∧ leafMap hs i.leaf = some j.leaf ∧ j = { i with leaf := j.leaf } := by
  unfold ownC at h
  cases ho : own g with
  | none => rw [ho] at h; cases h
  | some i =>
    rw [ho] at h
    simp only [Option.bind_some] at h
    cases hm : leafMap hs i.leaf with
    | none => rw [hm] at h; cases h
    | some l =>
      rw [hm] at h
      simp only [Option.map_some, Option.some.injEq] at h
      subst h
      exact ⟨i, rfl, hm, rfl⟩

/-- What is handed over, is handed over of cells that change their owner, or of boxes. -/
def HandOk (A : CA) : Prop := ∀ p ∈ A.hs, (∃ a ∈ A.aas, p.1 = (a.h, a.i + 1) ∧ a.to ≠ .r) ∨ (p.1.2 = 0 ∧ ∃ b ∈ A.bs, b.1 = p.1.1)

section
variable {w0 : World} {own0 : Own} {cx : Cx} {own : Own} {w : World} {A : CA} {bres : Bool}

theorem frozen_not_handed (hnd : noDup A.aas = true) (hh : HandOk A) {l : Leaf} (hf : frozenL A.aas l = true) : leafMap A.hs l = none := by
  cases hm : leafMap A.hs l with
  | none => rfl
  | some l' =>
    exfalso
    obtain ⟨a, ha, hr⟩ := List.any_eq_true.1 hf
    simp only [Bool.and_eq_true] at hr
    have hl : (a.h, a.i + 1) = l := leafEq_iff.1 hr.1
    rcases hh _ (leafMap_some hm) with ⟨b, hb, h1, h2⟩ | ⟨h1, _⟩
    · simp only at h1
      rw [← hl] at h1
      simp only [Prod.mk.injEq, Nat.add_right_cancel_iff] at h1
      rcases noDup_mem hnd ha hb with rfl | hne
      · have := hr.2
        split at this
        · rename_i e; exact h2 e
        · cases this
      · exact hne.1 h1
    · simp only at h1
      rw [← hl] at h1
      simp at h1

theorem ownC_of_own1 (hnd : noDup A.aas = true) (hh : HandOk A) {g : Nat} (h : own1 own A.aas g = none) : ownC own A.hs g = none := by
  unfold own1 at h
  unfold ownC
  cases ho : own g with
  | none => rfl
  | some i =>
    rw [ho] at h
    simp only [Option.bind_some] at h ⊢
    split at h
    · rename_i hf
      rw [frozen_not_handed hnd hh hf]; rfl
    · cases h

theorem ownC_claimed {g o : Nat} (h : claimed (ownC own A.hs) g o) : claimed own g o := by
  obtain ⟨j, b, h1, h2, h3⟩ := h
  obtain ⟨i, h4, _, h5⟩ := ownC_some h1
  rw [h5] at h2
  exact ⟨i, b, h4, h2, h3⟩

theorem own1_none {g : Nat} {aas : List Aff} (h : own g = none) : own1 own aas g = none := by
  unfold own1; rw [h]; rfl

theorem own1_claimed {g o : Nat} {aas : List Aff} (h : claimed (own1 own aas) g o) : claimed own g o := by
  obtain ⟨j, b, h1, h2, h3⟩ := h
  unfold own1 at h1
  cases ho : own g with
  | none => rw [ho] at h1; cases h1
  | some i =>
    rw [ho] at h1
    simp only [Option.bind_some] at h1
    split at h1
    · cases h1
    · simp only [Option.some.injEq] at h1
      subst h1
      exact ⟨i, b, ho, h2, h3⟩

theorem wok_callee (hw : WOk w0 own0 cx own w) (hnd : noDup A.aas = true) (hh : HandOk A) (hdst : distinctL (A.hs.map (·.2)) = true) :
    WOk w (ownC own A.hs) (cxC cx own w.heap.size A bres) (ownC own A.hs) w where
  kept := Kept.refl _ _
  dom := fun g j h => by
    obtain ⟨i, h1, _⟩ := ownC_some h
    exact ⟨(hw.dom g i h1).1, .inr (by rw [h]; simp)⟩
  n := fun g => Iff.rfl
  s1 := fun g o h => by
    obtain ⟨h1, h2, h3⟩ := h
    refine ⟨h1, not_claimed_of_none (ownC_of_own1 hnd hh h2), fun _ => ⟨not_claimed_of_none h2, h3.imp (hw.s1 g o) id⟩⟩
  s2 := fun g o h => ⟨h.1, h.2.1⟩
  cl := fun g o _ h => h
  inj := fun g g' i j h h' hl hp => by
    obtain ⟨i0, h1, h2, h3⟩ := ownC_some h
    obtain ⟨j0, k1, k2, k3⟩ := ownC_some h'
    have := distinctL_inj (fun p : Leaf × Leaf => p.2) hdst (leafMap_some h2) (leafMap_some k2) hl
    rw [Prod.mk.injEq] at this
    rw [h3, k3] at hp
    exact hw.inj g g' i0 j0 h1 k1 this.1 hp

end

end V
end Go.Proofs.Ytgialjcichiaoaa

/-
The arguments, as the called function finds them.
-/
namespace Go.Proofs.Ytgialjcichiaoaa
namespace V

section
variable {w0 : World} {own0 : Own} {cx : Cx} {own : Own} {w : World} {A : CA} {bres : Bool}

theorem rep_rsC (hnd : noDup A.aas = true) (hh : HandOk A) {x : D} {v : Value} (h : Rep w (RS cx own) x v) : Rep w (RS (cxC cx own w.heap.size A bres) (ownC own A.hs)) x v :=
  h.in_ (fun _ _ _ _ h => h) (fun _ cur _ h => ⟨cur, h, rfl⟩) (fun g o u hs hc => ⟨ownC_of_own1 hnd hh (own1_none hs.1), .inl ⟨cell_lt hc, own1_none hs.1, hs.2⟩⟩)

theorem rep_bsC {x : D} {v : Value} (h : Rep w (BS cx own) x v) : Rep w (BS (cxC cx own w.heap.size A bres) (ownC own A.hs)) x v :=
  h.in_ (fun _ _ _ _ h => h) (fun _ cur _ h => ⟨cur, h, rfl⟩) (fun g o u hs hc => ⟨fun h' => hs.1 (ownC_claimed h'), .inl ⟨cell_lt hc, fun h' => hs.1 (ownC_claimed h'), fun _ => ⟨fun h' => hs.1 (own1_claimed h'), hs.2⟩⟩⟩)

theorem own_frozenC (hw : WOk w0 own0 cx own w) (hnd : noDup A.aas = true) (hh : HandOk A) {h k : Nat} {m : Bool} {f : Fz} {x : D} {v : Value} (ho : OwnRep w cx own (h, k + 1) m f x v) (hf : frozenL A.aas (h, k + 1) = true) :
    Rep w (RS (cxC cx own w.heap.size A bres) (ownC own A.hs)) x v := by
  have key : ∀ {g : Nat} {i : OI} (o : Nat), own g = some i → i.leaf = (h, k + 1) → RS (cxC cx own w.heap.size A bres) (ownC own A.hs) g o := fun {g i} o hi hl => by
    have h1n : own1 own A.aas g = none := by
      unfold own1; rw [hi]; simp [hl, hf]
    exact ⟨ownC_of_own1 hnd hh h1n, .inl ⟨(hw.dom g _ hi).1, h1n, .inr (hw.dom g _ hi).2⟩⟩
  cases ho with
  | nil => exact .nil _ _
  | sl xs g cap cur T fr vs h1 h2 h3 h4 h5 h6 h7 h8 h9 h10 =>
    refine .sl xs g 0 f.sz cap vs h3 h8 (fun i x j d hx hj => by rw [Nat.zero_add, cell_of_heap h1]; exact h9 i x j d hx hj) (fun i x j d hx hj => key _ h2 rfl) (fun i x j d hx hj => ?_)
    have h11 := h10 i x j d hx hj
    obtain ⟨sz, u⟩ := f
    cases u with
    | false => exact rep_rsC hnd hh h11
    | true => exact InRep.rep h11 (fun g i o hi hl _ => ⟨key o hi hl, rfl⟩)

theorem own_handC (hnd : noDup A.aas = true) (hh : HandOk A) {l l' : Leaf} (hm : leafMap A.hs l = some l') {m : Bool} {f : Fz} {x : D} {v : Value} (ho : OwnRep w cx own l m f x v) :
    OwnRep w (cxC cx own w.heap.size A bres) (ownC own A.hs) l' m f x v := by
  cases ho with
  | nil => exact .nil
  | sl xs g cap cur T fr vs h1 h2 h3 h4 h5 h6 h7 h8 h9 h10 =>
    refine .sl xs g cap cur T fr vs h1 ?_ h3 h4 h5 h6 h7 h8 h9 (fun i x j d hx hj => ?_)
    · unfold ownC; rw [h2]; simp [hm]
    · have h11 := h10 i x j d hx hj
      obtain ⟨sz, u⟩ := f
      cases u with
      | false => exact rep_rsC hnd hh h11
      | true => exact InRep.keep h11 (fun g i hi hl => ⟨by unfold ownC; rw [hi]; simp [hl, hm], rfl⟩)

theorem own_readC (hnd : noDup A.aas = true) (hh : HandOk A) {l : Leaf} (hm : leafMap A.hs l = none) {m : Bool} {f : Fz} {x : D} {v : Value} (hw : WOk w0 own0 cx own w) (ho : OwnRep w cx own l m f x v) :
    Rep w (BS (cxC cx own w.heap.size A false) (ownC own A.hs)) x v := by
  have key : ∀ {g : Nat} {i : OI} (o : Nat), own g = some i → i.leaf = l → BS (cxC cx own w.heap.size A false) (ownC own A.hs) g o := fun {g i} o hi hl => by
    have hn : ownC own A.hs g = none := by unfold ownC; rw [hi]; simp [hl, hm]
    exact ⟨not_claimed_of_none hn, .inl ⟨(hw.dom g _ hi).1, not_claimed_of_none hn, fun h => by cases h⟩⟩
  cases ho with
  | nil => exact .nil _ _
  | sl xs g cap cur T fr vs h1 h2 h3 h4 h5 h6 h7 h8 h9 h10 =>
    refine .sl xs g 0 f.sz cap vs h3 h8 (fun i x j d hx hj => by rw [Nat.zero_add, cell_of_heap h1]; exact h9 i x j d hx hj) (fun i x j d hx hj => key _ h2 rfl) (fun i x j d hx hj => ?_)
    have h11 := h10 i x j d hx hj
    obtain ⟨sz, u⟩ := f
    cases u with
    | true => exact InRep.rep h11 (fun g i o hi hl _ => ⟨key o hi hl, rfl⟩)
    | false =>
      refine Rep.sub (rep_rsC (bres := false) hnd hh h11) (fun g o => rs_bs (fun g o hs => ?_))
      exact ⟨hs.1, not_claimed_of_none (ownC_of_own1 hnd hh hs.2.1), fun h => by cases h⟩

theorem arg1_ok (hw : WOk w0 own0 cx own w) (hnd : noDup A.aas = true) (hh : HandOk A) (hds : distinctL (srcs A.hs) = true) (hrd : A.rd.all (fun l => !((srcs A.hs).any (leafEq l))) = true) {s kp i : Nat} {c want : CS} {x : D} {v : Value} {a1 : List Aff} {h1 : List (Leaf × Leaf)} {r1 : List Leaf}
    (h : arg1 bres s kp i c want = some (a1, h1, r1)) (ha : ∀ y ∈ a1, y ∈ A.aas) (hhs : ∀ y ∈ h1, y ∈ A.hs) (hr : ∀ y ∈ r1, y ∈ A.rd) (hc : CellOk w cx own s i c x v) :
    CellOk w (cxC cx own w.heap.size A bres) (ownC own A.hs) kp i want x v := by
  refine ⟨hc.1, ?_⟩
  have h2 := hc.2
  have hread : ∀ {l : Leaf}, l ∈ A.rd → leafMap A.hs l = none := by
    intro l hl
    cases hm : leafMap A.hs l with
    | none => rfl
    | some l' =>
      have h3 := List.all_eq_true.1 hrd l hl
      simp only [Bool.not_eq_true'] at h3
      have := List.any_eq_false.1 h3 l (List.mem_map.2 ⟨_, leafMap_some hm, rfl⟩)
      exact absurd (leafEq_iff.2 rfl) this
  have hfro : ∀ {h k : Nat} {m : Bool} {f : Fz}, ⟨h, k, m, f, .r, .r⟩ ∈ A.aas → frozenL A.aas (h, k + 1) = true := fun hm =>
    List.any_eq_true.2 ⟨_, hm, by simp [leafEq]⟩
  cases want with
  | n => simp [arg1] at h
  | al _ _ _ _ => simp [arg1] at h
  | x => trivial
  | s =>
    cases c <;> simp only [arg1, reduceCtorEq] at h
    exact h2
  | b =>
    have hbs : bReadable c = true → Rep w (BS (cxC cx own w.heap.size A bres) (ownC own A.hs)) x v := fun hb => rep_bsC (hc.bs (fun g i hi => (hw.dom g i hi).2) hw.s1 hb)
    cases c with
    | n => exact hbs rfl
    | r => exact hbs rfl
    | b => exact hbs rfl
    | s => simp [arg1] at h
    | x => simp [arg1] at h
    | o m f =>
      cases m with
      | false => exact hbs rfl
      | true =>
        simp only [arg1] at h
        cases bres with
        | true => cases h
        | false =>
          simp only [Option.some.injEq, Prod.mk.injEq] at h
          obtain ⟨_, _, rfl⟩ := h
          exact own_readC hnd hh (hread (hr _ (List.mem_singleton.2 rfl))) hw h2
    | al hh' k m f =>
      cases m with
      | false => exact hbs rfl
      | true =>
        simp only [arg1] at h
        cases bres with
        | true => cases h
        | false =>
          simp only [Option.some.injEq, Prod.mk.injEq] at h
          obtain ⟨_, _, rfl⟩ := h
          exact own_readC hnd hh (hread (hr _ (List.mem_singleton.2 rfl))) hw h2
  | r =>
    cases c with
    | n => obtain ⟨e1, e2⟩ := h2; rw [e1, e2]; exact .nil _ _
    | r => exact rep_rsC hnd hh h2
    | o m f =>
      simp only [arg1, Option.some.injEq, Prod.mk.injEq] at h
      obtain ⟨rfl, _, _⟩ := h
      exact own_frozenC hw hnd hh h2 (hfro (ha _ (List.mem_singleton.2 rfl)))
    | al hh' k m f =>
      simp only [arg1, Option.some.injEq, Prod.mk.injEq] at h
      obtain ⟨rfl, _, _⟩ := h
      exact own_frozenC hw hnd hh h2 (hfro (ha _ (List.mem_singleton.2 rfl)))
    | s => simp [arg1] at h
    | b => simp [arg1] at h
    | x => simp [arg1] at h
  | o m f =>
    cases c with
    | n => obtain ⟨e1, e2⟩ := h2; rw [e1, e2]; exact .nil
    | o m' f' =>
      simp only [arg1] at h
      split at h
      · rename_i hb
        obtain ⟨rfl, rfl⟩ := bEq2 hb
        simp only [Option.some.injEq, Prod.mk.injEq] at h
        obtain ⟨_, rfl, _⟩ := h
        exact own_handC hnd hh (leafMap_mem hds (hhs _ (List.mem_singleton.2 rfl))) h2
      · cases h
    | al hh' k m' f' =>
      simp only [arg1] at h
      split at h
      · rename_i hb
        obtain ⟨rfl, rfl⟩ := bEq2 hb
        simp only [Option.some.injEq, Prod.mk.injEq] at h
        obtain ⟨_, rfl, _⟩ := h
        exact own_handC hnd hh (leafMap_mem hds (hhs _ (List.mem_singleton.2 rfl))) h2
      · cases h
    | s => simp [arg1] at h
    | b => simp [arg1] at h
    | r => simp [arg1] at h
    | x => simp [arg1] at h

end

end V
end Go.Proofs.Ytgialjcichiaoaa

/-
The arguments, as the called function finds them: whole slots.
-/
namespace Go.Proofs.Ytgialjcichiaoaa
namespace V

section
variable {w0 : World} {own0 : Own} {cx : Cx} {own : Own} {w : World} {A : CA} {bres : Bool}

theorem argCells_ok (hw : WOk w0 own0 cx own w) (hnd : noDup A.aas = true) (hh : HandOk A) (hds : distinctL (srcs A.hs) = true) (hrd : A.rd.all (fun l => !((srcs A.hs).any (leafEq l))) = true) {s kp : Nat} {ds : List D} {vs : List Value} :
    ∀ {cs ws : List CS} {i : Nat} {aas : List Aff} {hs : List (Leaf × Leaf)} {rd : List Leaf}, argCells bres s kp cs ws i = some (aas, hs, rd) → (∀ y ∈ aas, y ∈ A.aas) → (∀ y ∈ hs, y ∈ A.hs) → (∀ y ∈ rd, y ∈ A.rd) →
      (∀ (k : Nat) (c : CS) (x : D) (v : Value), cs[k]? = some c → ds[i + k]? = some x → vs[i + k]? = some v → CellOk w cx own s (i + k) c x v) →
      ws.length = cs.length ∧ ∀ (k : Nat) (c : CS) (x : D) (v : Value), ws[k]? = some c → ds[i + k]? = some x → vs[i + k]? = some v → CellOk w (cxC cx own w.heap.size A bres) (ownC own A.hs) kp (i + k) c x v
  | [], [], i, aas, hs, rd, _, _, _, _, _ => ⟨rfl, fun k c x v h => by simp at h⟩
  | [], _ :: _, _, _, _, _, h, _, _, _, _ => by simp [argCells] at h
  | _ :: _, [], _, _, _, _, h, _, _, _, _ => by simp [argCells] at h
  | c0 :: r, w0' :: ws, i, aas, hs, rd, h, h1, h2, h3, hc => by
    simp only [argCells] at h
    split at h
    · rename_i a1 b1 r1 a2 b2 r2 e1 e2
      simp only [Option.some.injEq, Prod.mk.injEq] at h
      obtain ⟨rfl, rfl, rfl⟩ := h
      obtain ⟨k1, k2⟩ := argCells_ok hw hnd hh hds hrd e2 (fun y hy => h1 y (List.mem_append_right _ hy)) (fun y hy => h2 y (List.mem_append_right _ hy)) (fun y hy => h3 y (List.mem_append_right _ hy)) (fun k c x v hk hx hv => by
        have := hc (k + 1) c x v (by simpa using hk) (by rw [← hx]; congr 1; omega) (by rw [← hv]; congr 1; omega)
        rwa [show i + (k + 1) = i + 1 + k from by omega] at this)
      refine ⟨by simp [k1], fun k c x v hk hx hv => ?_⟩
      cases k with
      | zero =>
        simp only [List.getElem?_cons_zero, Option.some.injEq] at hk
        subst hk
        exact arg1_ok hw hnd hh hds hrd e1 (fun y hy => h1 y (List.mem_append_left _ hy)) (fun y hy => h2 y (List.mem_append_left _ hy)) (fun y hy => h3 y (List.mem_append_left _ hy)) (hc 0 c0 x v rfl hx hv)
      | succ k =>
        have := k2 k c x v (by simpa using hk) (by rw [← hx]; congr 1; omega) (by rw [← hv]; congr 1; omega)
        rwa [show i + 1 + k = i + (k + 1) from by omega] at this
    · cases h

theorem boxHand_mem {b kp : Nat} : ∀ {cs : List CS} {j k : Nat} {m : Bool} {f : Fz}, cs[k]? = some (.o m f) → ((b, j + k + 1), (kp, j + k + 1)) ∈ boxHand b kp cs j
  | [], j, k, m, f, h => by simp at h
  | c :: r, j, 0, m, f, h => by
    simp only [List.getElem?_cons_zero, Option.some.injEq] at h
    subst h
    exact List.mem_cons_self ..
  | c :: r, j, k + 1, m, f, h => by
    have := boxHand_mem (b := b) (kp := kp) (cs := r) (j := j + 1) (k := k) (by simpa using h)
    rw [show j + 1 + k + 1 = j + (k + 1) + 1 from by omega] at this
    cases c <;> simp only [boxHand] <;> first | exact this | exact List.mem_cons_of_mem _ this

theorem boxFits_get : ∀ {cs ws : List CS}, boxFits cs ws = true → ws.length = cs.length ∧ ∀ (k : Nat) (c w' : CS), cs[k]? = some c → ws[k]? = some w' → boxFit c w' = true
  | [], [], _ => ⟨rfl, fun k c w' h => by simp at h⟩
  | [], _ :: _, h => by cases h
  | _ :: _, [], h => by cases h
  | c :: r, w' :: ws, h => by
    simp only [boxFits, Bool.and_eq_true] at h
    obtain ⟨h1, h2⟩ := boxFits_get h.2
    refine ⟨by simp [h1], fun k c' w'' hc hw => ?_⟩
    cases k with
    | zero =>
      simp only [List.getElem?_cons_zero, Option.some.injEq] at hc hw
      subst hc; subst hw
      exact h.1
    | succ k => exact h2 k c' w'' (by simpa using hc) (by simpa using hw)

theorem boxFit_ok (hw : WOk w0 own0 cx own w) (hnd : noDup A.aas = true) (hh : HandOk A) (hds : distinctL (srcs A.hs) = true) {b kp j : Nat} {c want : CS} {x : D} {v : Value} (h : boxFit c want = true) (hhs : ∀ m f, c = .o m f → ((b, j + 1), (kp, j + 1)) ∈ A.hs) (hc : CellOk w cx own b j c x v) :
    CellOk w (cxC cx own w.heap.size A bres) (ownC own A.hs) kp j want x v := by
  refine ⟨hc.1, ?_⟩
  have h2 := hc.2
  cases want with
  | n => simp [boxFit] at h
  | al _ _ _ _ => simp [boxFit] at h
  | x => trivial
  | s => cases c <;> simp only [boxFit, reduceCtorEq, Bool.false_eq_true] at h; exact h2
  | r =>
    cases c <;> simp only [boxFit, reduceCtorEq, Bool.false_eq_true] at h
    · obtain ⟨e1, e2⟩ := h2; rw [e1, e2]; exact .nil _ _
    · exact rep_rsC hnd hh h2
  | b =>
    cases c <;> simp only [boxFit, reduceCtorEq, Bool.false_eq_true] at h
    · obtain ⟨e1, e2⟩ := h2; rw [e1, e2]; exact .nil _ _
    · exact rep_bsC (Rep.sub h2 (fun g o => rs_bs hw.s1))
    · exact rep_bsC h2
  | o m f =>
    cases c <;> simp only [boxFit, reduceCtorEq, Bool.false_eq_true] at h
    · obtain ⟨e1, e2⟩ := h2; rw [e1, e2]; exact .nil
    · obtain ⟨rfl, rfl⟩ := bEq2 h
      exact own_handC hnd hh (leafMap_mem hds (hhs _ _ rfl)) h2

end

end V
end Go.Proofs.Ytgialjcichiaoaa

/-
One argument, as the called function finds it.
-/
namespace Go.Proofs.Ytgialjcichiaoaa
namespace V

section
variable {w0 : World} {own0 : Own} {cx : Cx} {own : Own} {w : World} {A : CA} {bres : Bool} {a : Act} {env : Env} {L : Look} {g : Gd}

/-- One part of all that is handed over. -/
structure CA.Sub (a b : CA) : Prop where
  aas : ∀ y ∈ a.aas, y ∈ b.aas
  hs : ∀ y ∈ a.hs, y ∈ b.hs
  rd : ∀ y ∈ a.rd, y ∈ b.rd
  deps : ∀ y ∈ a.deps, y ∈ b.deps

theorem boxOf_ok (hL : ∀ z, SlotOk w cx own env (tvA a) z (L z)) (hg : ∀ gs b, g = some (gs, b) → env gs = [.bool b]) {x : Operand} {b : Nat} (h : boxOf L g x = some b) {ro : Bool} {cs : List CS} (hb : L b = .box ro cs) : a.eval x = tvA a b := by
  unfold boxOf at h
  split at h
  · rename_i s
    have hs := shAt_ok hL hg s
    split at h
    · simp only [Option.some.injEq] at h
      subst h
      rfl
    · rename_i b' he
      simp only [Option.some.injEq] at h
      subst h
      rw [he] at hs
      obtain ⟨gg, h1, h2⟩ := hs
      exact h2.trans h1.symm
    · cases h
  · cases h

theorem cArg_ok (hw : WOk w0 own0 cx own w) (hL : ∀ z, SlotOk w cx own env (tvA a) z (L z)) (hg : ∀ gs b, g = some (gs, b) → env gs = [.bool b])
    (hnd : noDup A.aas = true) (hh : HandOk A) (hds : distinctL (srcs A.hs) = true) (hrd : A.rd.all (fun l => !((srcs A.hs).any (leafEq l))) = true) (hdp : A.deps.all (fun x => !((srcs A.hs).any (fun l => Nat.beq l.1 x))) = true)
    {x : Operand} {p : PSh} {kp : Nat} {c : CA} (h : cArg L g bres x p kp = some c) (hs : c.Sub A) {E : Env} {T : Nat → Value} :
    ∃ o, c.os = [o] ∧ (E kp = o.get env → T kp = a.eval x → SlotOk w (cxC cx own w.heap.size A bres) (ownC own A.hs) E T kp (startSh p)) := by
  unfold cArg at h
  split at h
  · rename_i ag ws
    split at h
    · rename_i v
      split at h
      · rename_i hk
        simp only [Option.some.injEq] at h
        subst h
        refine ⟨_, rfl, fun hE hT => ?_⟩
        unfold argConst at hk
        split at hk
        · rename_i _ _ _ w' hcv
          have hcc := const_ok (w := w) (cx := cx) (own := own) hcv 0 0
          refine ⟨[v], hT, fun _ => rfl, by rw [hE]; rfl, by rw [hE]; rfl, fun i c' y u hc' hy hu => ?_⟩
          rw [hE] at hy
          cases i with
          | succ i => simp at hc'
          | zero =>
            simp only [List.getElem?_cons_zero, Option.some.injEq] at hc' hu
            simp only [opd, Opd.get, List.getElem?_cons_zero, Option.some.injEq] at hy
            subst hc'; subst hu; subst hy
            refine ⟨hcc.1, ?_⟩
            have h2 := hcc.2
            split at hk
            · rename_i e1; rw [e1] at h2; exact h2
            · rename_i e1; rw [e1] at h2; obtain ⟨q1, q2⟩ := h2; rw [q1, q2]; exact .nil _ _
            · rename_i e1; rw [e1] at h2; obtain ⟨q1, q2⟩ := h2; rw [q1, q2]; exact .nil _ _
            · rename_i e1; rw [e1] at h2; obtain ⟨q1, q2⟩ := h2; rw [q1, q2]; exact .nil
            · cases hk
        · cases hk
      · cases h
    · rename_i s
      have hsl := shAt_ok hL hg s
      split at h
      · rename_i a' cs he
        rw [he] at hsl
        split at h
        · rename_i hb
          split at h
          · rename_i aas hs' rd hac
            simp only [Option.some.injEq] at h
            subst h
            refine ⟨_, rfl, fun hE hT => ?_⟩
            obtain ⟨vs, q1, q2, q3⟩ := hsl
            have hag : ag = a' := by cases ag <;> cases a' <;> first | rfl | cases hb
            subst hag
            obtain ⟨k1, k2⟩ := argCells_ok (ds := env s) (vs := vs) hw hnd hh hds hrd hac hs.aas hs.hs hs.rd (fun k c x v hc hx hv => by
              rw [Nat.zero_add] at hx hv ⊢
              exact q3.2.2 k c x v hc hx hv)
            refine ⟨vs, hT.trans q1, q2, by rw [hE]; exact k1.trans q3.1, by rw [hE]; exact q3.2.1, fun k c y v hc hy hv => ?_⟩
            rw [hE] at hy
            have := k2 k c y v hc (by rw [Nat.zero_add]; exact hy) (by rw [Nat.zero_add]; exact hv)
            rwa [Nat.zero_add] at this
          · cases h
        · cases h
      · cases h
    · cases h
  · rename_i ws
    split at h
    · rename_i b hbo
      split at h
      · rename_i cs hLb
        split at h
        · rename_i hbf
          simp only [Option.some.injEq] at h
          subst h
          refine ⟨_, rfl, fun hE hT => ?_⟩
          have hsl := hL b
          rw [hLb] at hsl
          obtain ⟨gg, cur, Ty, q1, q2, q3, q4⟩ := hsl
          simp only [Bool.false_eq_true, if_false] at q4
          obtain ⟨k1, k2⟩ := boxFits_get hbf
          refine ⟨gg, cur, Ty, hT.trans ((boxOf_ok hL hg hbo hLb).trans q1), q2, ?_, ?_⟩
          · refine ⟨by rw [hE]; exact k1.trans q3.1, by rw [hE]; exact q3.2.1, fun j c y v hc hy hv => ?_⟩
            rw [hE] at hy
            have hy' : (env b)[j]? = some y := hy
            have hj : j < cs.length := by rw [q3.1]; exact (List.getElem?_eq_some_iff.1 hy').1
            refine boxFit_ok hw hnd hh hds (k2 j _ c (List.getElem?_eq_getElem hj) hc) (fun m f hcf => ?_) (q3.2.2 j _ y v (List.getElem?_eq_getElem hj) hy' hv)
            have := boxHand_mem (b := b) (kp := kp) (cs := cs) (j := 0) (k := j) (by rw [List.getElem?_eq_getElem hj, hcf])
            rw [Nat.zero_add] at this
            exact hs.hs _ (List.mem_cons_of_mem _ this)
          · simp only [Bool.false_eq_true, if_false]
            unfold ownC
            rw [q4]
            simp [leafMap_mem hds (hs.hs _ (List.mem_cons_self ..))]
        · cases h
      · cases h
    · cases h
  · rename_i f
    split at h
    · rename_i f' deps hos
      split at h
      · rename_i hff
        simp only [Option.some.injEq] at h
        subst h
        have hf : f = f' := Nat.eq_of_beq_eq_true hff
        subst hf
        refine ⟨_, rfl, fun hE hT => ?_⟩
        have hlow : ∀ {dps : List Nat} {d : D} {v : Value}, (∀ y ∈ dps, y ∈ A.deps) → Rep w (CSet cx own dps) d v → Rep w (CSet (cxC cx own w.heap.size A false) (ownC own A.hs) []) d v := by
          intro dps d v hsub hr
          refine hr.in_ (fun _ _ _ _ h => h) (fun _ cur _ h => ⟨cur, h, rfl⟩) (fun g o u hs hc => ?_)
          rcases hs with hs | ⟨i, hi, hd⟩
          · exact .inl ⟨fun h' => hs.1 (ownC_claimed h'), .inl ⟨cell_lt hc, fun h' => hs.1 (ownC_claimed h'), fun h => by cases h⟩⟩
          · have hn : ownC own A.hs g = none := by
              unfold ownC
              rw [hi]
              cases hm : leafMap A.hs i.leaf with
              | none => simp [hm]
              | some l' =>
                have h3 := List.all_eq_true.1 hdp _ (hsub _ hd)
                simp only [Bool.not_eq_true'] at h3
                have := List.any_eq_false.1 h3 i.leaf (List.mem_map.2 ⟨_, leafMap_some hm, rfl⟩)
                exact absurd (Nat.beq_refl _) this
            exact .inl ⟨not_claimed_of_none hn, .inl ⟨cell_lt hc, not_claimed_of_none hn, fun h => by cases h⟩⟩
        cases x with
        | tmp s =>
          have hsl := shAt_ok hL hg s
          have hos' : shAt L g s = .clo f deps := hos
          rw [hos'] at hsl
          obtain ⟨fs, cs, q1, q2⟩ := hsl
          refine ⟨fs, cs, hE.trans q1, ?_⟩
          rw [hT]
          exact hlow hs.deps q2
        | const v => simp only [opSh] at hos; split at hos <;> cases hos
        | global => simp [opSh] at hos
        | func f' =>
          simp only [opSh, Sh.clo.injEq] at hos
          obtain ⟨rfl, rfl⟩ := hos
          refine ⟨[], [], hE, ?_⟩
          rw [hT]
          exact .fn f' [] [] [] [] (fun _ _ => undef) rfl rfl (fun i p vs h => by simp at h) (fun i p vs j d v h => by simp at h) (fun i c g h => by simp at h) (fun i c g j d h => by simp at h) (fun i c g j d h => by simp at h)
      · cases h
    · cases h
  · cases h

end

end V
end Go.Proofs.Ytgialjcichiaoaa

/-
All arguments.
-/
namespace Go.Proofs.Ytgialjcichiaoaa
namespace V

section
variable {bres : Bool} {L : Look} {g : Gd}

theorem cArg_os {x : Operand} {p : PSh} {kp : Nat} {c : CA} (h : cArg L g bres x p kp = some c) : ∃ o, c.os = [o] := by
  unfold cArg at h
  repeat' (split at h)
  all_goals first
    | (cases h; done)
    | (simp only [Option.some.injEq] at h; subst h; exact ⟨_, rfl⟩)

theorem arg1_hand {s kp i : Nat} {c w : CS} {a1 : List Aff} {h1 : List (Leaf × Leaf)} {r1 : List Leaf} (h : arg1 bres s kp i c w = some (a1, h1, r1)) : ∀ p ∈ h1, ∃ a ∈ a1, p.1 = (a.h, a.i + 1) ∧ a.to ≠ .r := by
  unfold arg1 at h
  repeat' (split at h)
  all_goals first
    | (cases h; done)
    | (simp only [Option.some.injEq, Prod.mk.injEq] at h
       obtain ⟨rfl, rfl, rfl⟩ := h
       intro p hp
       first
         | (simp at hp; done)
         | (simp only [List.mem_singleton] at hp
            subst hp
            refine ⟨_, List.mem_singleton.2 rfl, rfl, ?_⟩
            first
              | (dsimp only; split <;> simp; done)
              | simp))

theorem argCells_hand {s kp : Nat} : ∀ {cs ws : List CS} {i : Nat} {aas : List Aff} {hs : List (Leaf × Leaf)} {rd : List Leaf}, argCells bres s kp cs ws i = some (aas, hs, rd) → ∀ p ∈ hs, ∃ a ∈ aas, p.1 = (a.h, a.i + 1) ∧ a.to ≠ .r
  | [], [], i, aas, hs, rd, h => by
    simp only [argCells, Option.some.injEq, Prod.mk.injEq] at h
    obtain ⟨rfl, rfl, rfl⟩ := h
    intro p hp; simp at hp
  | [], _ :: _, _, _, _, _, h => by simp [argCells] at h
  | _ :: _, [], _, _, _, _, h => by simp [argCells] at h
  | c :: r, w :: ws, i, aas, hs, rd, h => by
    simp only [argCells] at h
    split at h
    · rename_i a1 b1 r1 a2 b2 r2 e1 e2
      simp only [Option.some.injEq, Prod.mk.injEq] at h
      obtain ⟨rfl, rfl, rfl⟩ := h
      intro p hp
      rcases List.mem_append.1 hp with hp | hp
      · obtain ⟨a, ha, h2⟩ := arg1_hand e1 p hp
        exact ⟨a, List.mem_append_left _ ha, h2⟩
      · obtain ⟨a, ha, h2⟩ := argCells_hand e2 p hp
        exact ⟨a, List.mem_append_right _ ha, h2⟩
    · cases h

theorem boxHand_src {b kp : Nat} : ∀ {cs : List CS} {j : Nat}, ∀ p ∈ boxHand b kp cs j, ∃ a ∈ boxAff b cs j, p.1 = (a.h, a.i + 1) ∧ a.to ≠ .r
  | [], j, p, hp => by simp [boxHand] at hp
  | c :: r, j, p, hp => by
    have ih := @boxHand_src b kp r (j + 1)
    cases c with
    | o m f =>
      simp only [boxHand, List.mem_cons] at hp
      rcases hp with rfl | hp
      · refine ⟨_, List.mem_cons_self .., rfl, ?_⟩
        dsimp only
        split <;> simp
      · obtain ⟨a, ha, h2⟩ := ih p hp
        exact ⟨a, List.mem_cons_of_mem _ ha, h2⟩
    | _ =>
      simp only [boxHand] at hp
      obtain ⟨a, ha, h2⟩ := ih p hp
      exact ⟨a, List.mem_cons_of_mem _ ha, h2⟩

theorem cArg_hand {x : Operand} {p : PSh} {kp : Nat} {c : CA} (h : cArg L g bres x p kp = some c) : HandOk c := by
  unfold cArg at h
  split at h
  · split at h
    · split at h
      · simp only [Option.some.injEq] at h; subst h
        intro p hp; simp at hp
      · cases h
    · split at h
      · split at h
        · split at h
          · rename_i hac
            simp only [Option.some.injEq] at h; subst h
            intro p hp
            exact .inl (argCells_hand hac p hp)
          · cases h
        · cases h
      · cases h
    · cases h
  · split at h
    · split at h
      · split at h
        · simp only [Option.some.injEq] at h; subst h
          intro p hp
          rcases List.mem_cons.1 hp with rfl | hp
          · exact .inr ⟨rfl, _, List.mem_singleton.2 rfl, rfl⟩
          · exact .inl (boxHand_src p hp)
        · cases h
      · cases h
    · cases h
  · split at h
    · split at h
      · simp only [Option.some.injEq] at h; subst h
        intro p hp; simp at hp
      · cases h
    · cases h
  · cases h

theorem cArgs_get : ∀ {xs : List Operand} {ps : List PSh} {kp : Nat} {A : CA}, cArgs L g bres xs ps kp = some A → xs.length = ps.length ∧ A.os.length = ps.length ∧ HandOk A ∧
    ∀ (i : Nat) (x : Operand) (p : PSh), xs[i]? = some x → ps[i]? = some p → ∃ c, cArg L g bres x p (kp + i) = some c ∧ c.Sub A ∧ ∃ o, c.os = [o] ∧ A.os[i]? = some o
  | [], [], kp, A, h => by
    simp only [cArgs, Option.some.injEq] at h
    subst h
    exact ⟨rfl, rfl, fun p hp => by simp at hp, fun i x p h => by simp at h⟩
  | [], _ :: _, _, _, h => by simp [cArgs] at h
  | _ :: _, [], _, _, h => by simp [cArgs] at h
  | x :: xs, p :: ps, kp, A, h => by
    simp only [cArgs] at h
    split at h
    · rename_i c1 c2 e1 e2
      simp only [Option.some.injEq] at h
      subst h
      obtain ⟨k1, k2, k3, k4⟩ := cArgs_get e2
      obtain ⟨o, ho⟩ := cArg_os e1
      have hh1 := cArg_hand e1
      refine ⟨by simp [k1], by simp [CA.add, ho, k2], fun q hq => ?_, fun i y q hy hq => ?_⟩
      · rcases List.mem_append.1 hq with hq | hq
        · rcases hh1 q hq with ⟨a, ha, h2⟩ | ⟨h0, b, hb, h2⟩
          · exact .inl ⟨a, List.mem_append_left _ ha, h2⟩
          · exact .inr ⟨h0, b, List.mem_append_left _ hb, h2⟩
        · rcases k3 q hq with ⟨a, ha, h2⟩ | ⟨h0, b, hb, h2⟩
          · exact .inl ⟨a, List.mem_append_right _ ha, h2⟩
          · exact .inr ⟨h0, b, List.mem_append_right _ hb, h2⟩
      · cases i with
        | zero =>
          simp only [List.getElem?_cons_zero, Option.some.injEq] at hy hq
          subst hy; subst hq
          refine ⟨c1, e1, ⟨fun y hy => List.mem_append_left _ hy, fun y hy => List.mem_append_left _ hy, fun y hy => List.mem_append_left _ hy, fun y hy => List.mem_append_left _ hy⟩, o, ho, ?_⟩
          simp [CA.add, ho]
        | succ i =>
          obtain ⟨c, h1, h2, o', h3, h4⟩ := k4 i y q (by simpa using hy) (by simpa using hq)
          refine ⟨c, by rw [← h1]; congr 1; omega, ⟨fun y hy => List.mem_append_right _ (h2.aas y hy), fun y hy => List.mem_append_right _ (h2.hs y hy), fun y hy => List.mem_append_right _ (h2.rd y hy), fun y hy => List.mem_append_right _ (h2.deps y hy)⟩, o', h3, ?_⟩
          simp [CA.add, ho, h4]
    · cases h

end

end V
end Go.Proofs.Ytgialjcichiaoaa

/-
Behind a call: who owns what.
-/
namespace Go.Proofs.Ytgialjcichiaoaa
namespace V

/-- Whose a block is behind a call. -/
def ownN (own ownE : Own) (hs : List (Leaf × Leaf)) (back : Leaf → Option Leaf) (u : Up) : Own := fun g =>
  match ownE g with
  | some i => (back i.leaf).map fun l => { i with leaf := l }
  | none => match ownC own hs g with
    | some _ => none
    | none => (own g).bind (relabU u)

section
variable {w0 : World} {own0 : Own} {cx : Cx} {own ownE : Own} {w w1 : World} {A : CA} {bres : Bool} {back : Leaf → Option Leaf} {u : Up}

theorem ownN_of_old {g : Nat} (hE : ownE g = none) (hC : ownC own A.hs g = none) : ownN own ownE A.hs back u g = (own g).bind (relabU u) := by
  unfold ownN; rw [hE, hC]

theorem callee_none (hw1 : WOk w (ownC own A.hs) (cxC cx own w.heap.size A bres) ownE w1) {g : Nat} (hg : g < w.heap.size) (hC : ownC own A.hs g = none) : ownE g = none := by
  cases hE : ownE g with
  | none => rfl
  | some j =>
    rcases (hw1.dom g j hE).2 with h | h
    · omega
    · exact absurd hC h

theorem relabU_frozen (hnd : noDup A.aas = true) (hu : u.aff = A.aas) (hmr : ∀ a ∈ A.aas, a.to = .r → a.own = .r) {i : OI} (hf : frozenL A.aas i.leaf = true) : relabU u i = none := by
  obtain ⟨a, ha, hr⟩ := List.any_eq_true.1 hf
  simp only [Bool.and_eq_true] at hr
  have hl : (a.h, a.i + 1) = i.leaf := leafEq_iff.1 hr.1
  have hto : a.to = .r := by
    have := hr.2
    split at this
    · assumption
    · cases this
  have hfind := find_mem (u := u) (by rw [hu]; exact hnd) (by rw [hu]; exact ha)
  unfold relabU
  have h2 : i.leaf.2 = a.i + 1 := by rw [← hl]
  have h1 : i.leaf.1 = a.h := by rw [← hl]
  rw [h2, h1]
  simp only [hfind, hto, hmr a ha hto]

/-- What the callee's results may name, the caller may. -/
theorem rs_back (hw : WOk w0 own0 cx own w) (hw1 : WOk w (ownC own A.hs) (cxC cx own w.heap.size A bres) ownE w1) (hnd : noDup A.aas = true) (hh : HandOk A) (hu : u.aff = A.aas) (hmr : ∀ a ∈ A.aas, a.to = .r → a.own = .r) {g o : Nat}
    (h : RS (cxC cx own w.heap.size A bres) ownE g o) : RS cx (ownN own ownE A.hs back u) g o := by
  obtain ⟨hE, h | h⟩ := h
  · obtain ⟨h1, h2, h3⟩ := h
    refine ⟨?_, h3⟩
    rw [ownN_of_old hE (ownC_of_own1 hnd hh h2)]
    unfold own1 at h2
    cases ho : own g with
    | none => rfl
    | some i =>
      rw [ho] at h2
      simp only [Option.bind_some] at h2 ⊢
      split at h2
      · rename_i hf
        exact relabU_frozen hnd hu hmr hf
      · cases h2
  · rcases h with h | h
    · have ho : own g = none := by
        cases ho : own g with
        | none => rfl
        | some i => have := (hw.dom g i ho).1; omega
      refine ⟨?_, .inr ((hw.n g).2 (.inl (Nat.le_trans hw.kept.size h)))⟩
      rw [ownN_of_old hE (by unfold ownC; rw [ho]; rfl), ho]
      rfl
    · cases hc : ownC own A.hs g with
      | none => exact absurd hc h
      | some j =>
        obtain ⟨i, ho, _⟩ := ownC_some hc
        refine ⟨?_, .inr (hw.dom g i ho).2⟩
        unfold ownN
        rw [hE, hc]

theorem bs_back (hw : WOk w0 own0 cx own w) (hw1 : WOk w (ownC own A.hs) (cxC cx own w.heap.size A true) ownE w1) (hnd : noDup A.aas = true) (hh : HandOk A) (hu : u.aff = A.aas) (hmr : ∀ a ∈ A.aas, a.to = .r → a.own = .r) {g o : Nat}
    (h : BS (cxC cx own w.heap.size A true) ownE g o) : BS cx (ownN own ownE A.hs back u) g o := by
  obtain ⟨hE, h⟩ := h
  have hclaim : claimed (ownN own ownE A.hs back u) g o → ∃ i, own g = some i ∧ ownE g = none ∧ ownC own A.hs g = none ∧ frozenL A.aas i.leaf = false ∧ ∃ b, i.bound = some b ∧ b ≤ o := by
    rintro ⟨j, b, h1, h2, h3⟩
    unfold ownN at h1
    cases he : ownE g with
    | some i =>
      rw [he] at h1
      simp only at h1
      cases hb : back i.leaf with
      | none => rw [hb] at h1; cases h1
      | some l =>
        rw [hb] at h1
        simp only [Option.map_some, Option.some.injEq] at h1
        subst h1
        exact absurd ⟨i, b, he, h2, h3⟩ hE
    | none =>
      rw [he] at h1
      simp only at h1
      cases hc : ownC own A.hs g with
      | some _ => rw [hc] at h1; cases h1
      | none =>
        rw [hc] at h1
        simp only at h1
        cases ho : own g with
        | none => rw [ho] at h1; cases h1
        | some i =>
          rw [ho] at h1
          simp only [Option.bind_some] at h1
          refine ⟨i, rfl, rfl, rfl, ?_, ?_⟩
          · cases hf : frozenL A.aas i.leaf with
            | false => rfl
            | true => rw [relabU_frozen hnd hu hmr hf] at h1; cases h1
          · obtain ⟨_, hbd, _⟩ := relabU_some h1
            exact ⟨b, by rw [← hbd]; exact h2, h3⟩
  rcases h with h | h
  · obtain ⟨h1, h2, h3⟩ := h
    obtain ⟨h4, h5⟩ := h3 rfl
    refine ⟨fun hc => ?_, h5⟩
    obtain ⟨i, ho, _, _, hf, b, hb, hbo⟩ := hclaim hc
    refine h4 ⟨i, b, ?_, hb, hbo⟩
    unfold own1
    rw [ho]
    simp [hf]
  · rcases h with h | h
    · refine ⟨fun hc => ?_, .inr ((hw.n g).2 (.inl (Nat.le_trans hw.kept.size h)))⟩
      obtain ⟨i, ho, _⟩ := hclaim hc
      have := (hw.dom g i ho).1
      omega
    · cases hc : ownC own A.hs g with
      | none => exact absurd hc h
      | some j =>
        obtain ⟨i, ho, _⟩ := ownC_some hc
        refine ⟨fun hcl => ?_, .inr (hw.dom g i ho).2⟩
        obtain ⟨_, _, _, hcn, _⟩ := hclaim hcl
        rw [hc] at hcn; cases hcn

end

end V
end Go.Proofs.Ytgialjcichiaoaa

/-
Behind a call: the step.
-/
namespace Go.Proofs.Ytgialjcichiaoaa
namespace V

/-- The way back of the callee's labels. -/
structure BackOk (u : Up) (A : CA) (back : Leaf → Option Leaf) : Prop where
  inj : ∀ l l' m, back l = some m → back l' = some m → l = l'
  /-- where a label goes back to, nothing of the caller's is kept -/
  free : ∀ l m, back l = some m → u.isDst m.1 = true ∨ (∃ b ∈ A.bs, b.1 = m.1 ∧ (m.2 = 0 ∨ ∃ k, m.2 = k + 1 ∧ (u.find b.1 k).isSome = true))

section
variable {w0 : World} {own0 : Own} {cx : Cx} {own ownE : Own} {w w1 : World} {A : CA} {bres : Bool} {back : Leaf → Option Leaf} {u : Up} {env env' : Env} {tv tv' : Nat → Value}

theorem hand_A (hnd : noDup A.aas = true) (hh : HandOk A) (hu : u.aff = A.aas) (hb : u.bx = A.bs) {l l' : Leaf} (h : leafMap A.hs l = some l') : u.A l := by
  rcases hh _ (leafMap_some h) with ⟨a, ha, h1, _⟩ | ⟨h1, b, hb', h2⟩
  · have := find_mem (u := u) (by rw [hu]; exact hnd) (by rw [hu]; exact ha)
    simp only at h1
    exact .inr (.inr ⟨a.i, by rw [h1], .inl (by rw [h1, this]; rfl)⟩)
  · exact .inr (.inl ⟨b, by rw [hb]; exact hb', h2, h1⟩)

theorem call_step (hw : WOk w0 own0 cx own w) (hw1 : WOk w (ownC own A.hs) (cxC cx own w.heap.size A bres) ownE w1) (hnd : noDup A.aas = true) (hh : HandOk A) (hu : u.aff = A.aas) (hub : u.bx = A.bs)
    (hal : ∀ a ∈ A.aas, ∀ d j m f, a.to ≠ .al d j m f) (hbk : BackOk u A back) (hbox : ∀ b ∈ A.bs, ∃ l', leafMap A.hs (b.1, 0) = some l')
    (hkeep : ∀ a ∈ A.aas, ∀ m f, a.own = .o m f → ∃ l', leafMap A.hs (a.h, a.i + 1) = some l')
    (henv : ∀ s, ¬u.W s → env' s = env s) (htv : ∀ s, u.d ≠ some s → tv' s = tv s) :
    Step cx own w env tv u.A u.W u.d (ownN own ownE A.hs back u) w1 env' tv' := by
  have hk := hw1.kept
  have hold : ∀ {g : Nat} {i' : OI}, ownN own ownE A.hs back u g = some i' → (∃ i, ownE g = some i ∧ back i.leaf = some i'.leaf ∧ i' = { i with leaf := i'.leaf }) ∨ (ownE g = none ∧ ownC own A.hs g = none ∧ ∃ i, own g = some i ∧ relabU u i = some i' ∧ i' = i) := by
    intro g i' h
    unfold ownN at h
    cases he : ownE g with
    | some i =>
      rw [he] at h
      simp only at h
      cases hb : back i.leaf with
      | none => rw [hb] at h; cases h
      | some l =>
        rw [hb] at h
        simp only [Option.map_some, Option.some.injEq] at h
        subst h
        exact .inl ⟨i, rfl, hb, rfl⟩
    | none =>
      rw [he] at h
      simp only at h
      cases hc : ownC own A.hs g with
      | some _ => rw [hc] at h; cases h
      | none =>
        rw [hc] at h
        simp only at h
        cases ho : own g with
        | none => rw [ho] at h; cases h
        | some i =>
          rw [ho] at h
          simp only [Option.bind_some] at h
          refine .inr ⟨rfl, rfl, i, rfl, h, ?_⟩
          obtain ⟨_, _, h1 | ⟨k, a, d, j, m, f, _, h2, h3, _⟩⟩ := relabU_some h
          · exact h1.1
          · exact absurd h3 (hal a (by rw [← hu]; exact (Up.find_some h2).1) d j m f)
  refine ⟨⟨hk.os, hk.tape, hk.output, hk.size, fun g hg hn => hk.block g hg (by unfold ownC; rw [hn]; rfl), fun g o hg hc => hk.cell g o hg (fun h => hc (ownC_claimed h)), hk.row⟩, fun g hg hn => ?_, fun g o hg hc hc' => ?_, fun g i hi hA => ?_, fun g i' h => ?_, fun g g' i' j' h h' hl hp => ?_, henv, htv⟩
  · have hC : ownC own A.hs g = none := by unfold ownC; rw [hn]; rfl
    rw [ownN_of_old (callee_none hw1 hg hC) hC, hn]; rfl
  · obtain ⟨i', b, h1, h2, h3⟩ := hc'
    rcases hold h1 with ⟨i, h4, _, h5⟩ | ⟨_, _, i, h4, _, h5⟩
    · rw [h5] at h2
      exact hc (ownC_claimed (hw1.cl g o hg ⟨i, b, h4, h2, h3⟩))
    · rw [h5] at h2
      exact hc ⟨i, b, h4, h2, h3⟩
  · have hg := (hw.dom g i hi).1
    have hC : ownC own A.hs g = none := by
      unfold ownC
      rw [hi]
      cases hm : leafMap A.hs i.leaf with
      | none => simp [hm]
      | some l' => exact absurd (hand_A hnd hh hu hub hm) hA
    exact ⟨by rw [ownN_of_old (callee_none hw1 hg hC) hC, hi]; exact relabU_keep hA, hk.block g hg hC⟩
  · rcases hold h with ⟨i, h4, _, _⟩ | ⟨_, _, i, h4, _, _⟩
    · obtain ⟨h5, h6⟩ := hw1.dom g i h4
      refine ⟨h5, ?_⟩
      rcases h6 with h6 | h6
      · exact (hw.n g).2 (.inl (Nat.le_trans hw.kept.size h6))
      · cases hc : ownC own A.hs g with
        | none => exact absurd hc h6
        | some j =>
          obtain ⟨i0, ho, _⟩ := ownC_some hc
          exact (hw.dom g i0 ho).2
    · obtain ⟨h5, h6⟩ := hw.dom g i h4
      exact ⟨Nat.lt_of_lt_of_le h5 hk.size, h6⟩
  · have cross : ∀ {g : Nat} {m : Leaf} {l : Leaf}, back l = some m → ∀ {i : OI}, ownC own A.hs g = none → own g = some i → relabU u i = some i → i.leaf = m → False := by
      intro g m l hb i hC ho hr he
      obtain ⟨_, _, h1⟩ := relabU_some hr
      have hnd' : u.isDst i.leaf.1 = false := by
        rcases h1 with h1 | ⟨k, a, d, j, mm, f, _, h2, h3, _⟩
        · exact h1.2.1
        · exact absurd h3 (hal a (by rw [← hu]; exact (Up.find_some h2).1) d j mm f)
      rcases hbk.free l m hb with h2 | ⟨b, hb', h2, h3⟩
      · rw [he, h2] at hnd'; cases hnd'
      · rcases h3 with h3 | ⟨k, h3, h4⟩
        · obtain ⟨l', hl'⟩ := hbox b hb'
          have : i.leaf = (b.1, 0) := by rw [he]; exact Prod.ext h2.symm h3
          unfold ownC at hC
          rw [ho] at hC
          simp [this, hl'] at hC
        · obtain ⟨a, ha⟩ := Option.isSome_iff_exists.1 h4
          obtain ⟨h5, h6, h7⟩ := Up.find_some ha
          unfold relabU at hr
          have e2 : i.leaf.2 = k + 1 := by rw [he]; exact h3
          have e1 : i.leaf.1 = b.1 := by rw [he]; exact h2.symm
          rw [e2, e1] at hr
          simp only [ha] at hr
          split at hr
          · rename_i d j mm f hto
            exact hal a (by rw [← hu]; exact h5) d j mm f hto
          · split at hr
            · rename_i mm f how
              obtain ⟨l', hl'⟩ := hkeep a (by rw [← hu]; exact h5) mm f how
              have : i.leaf = (a.h, a.i + 1) := Prod.ext (by rw [e1, h6]) (by rw [e2, h7])
              unfold ownC at hC
              rw [ho] at hC
              simp [this, hl'] at hC
            · cases hr
    rcases hold h with ⟨i, h1, h2, h3⟩ | ⟨_, h1, i, h2, h3, h4⟩
    · rcases hold h' with ⟨j, k1, k2, k3⟩ | ⟨_, k1, j, k2, k3, k4⟩
      · refine hw1.inj g g' i j h1 k1 (hbk.inj _ _ _ h2 (by rw [hl]; exact k2)) ?_
        rw [h3, k3] at hp
        exact hp
      · subst k4
        exact (cross h2 k1 k2 k3 hl.symm).elim
    · subst h4
      rcases hold h' with ⟨j, k1, k2, k3⟩ | ⟨_, k1, j, k2, k3, k4⟩
      · exact (cross k2 h1 h2 h3 hl).elim
      · subst k4
        exact hw.inj g g' _ _ h2 k2 hl hp

end

end V
end Go.Proofs.Ytgialjcichiaoaa

/-
Behind a call: the owners that change.
-/
namespace Go.Proofs.Ytgialjcichiaoaa
namespace V

/-- What a call does to an owner: frozen, handed on, or forgotten. -/
def CallAff (A : CA) (a : Aff) : Prop :=
  (a.to = .r ∧ a.own = .r) ∨ (a.to = .x ∧ (a.own = .x ∨ ∃ b ∈ A.bs, b.1 = a.h)) ∨ (a.to = .b ∧ a.m = false ∧ (a.own = .b ∨ ∃ b ∈ A.bs, b.1 = a.h))

section
variable {w0 : World} {own0 : Own} {cx : Cx} {own ownE : Own} {w w1 : World} {A : CA} {bres : Bool} {back : Leaf → Option Leaf} {u : Up} {env env' : Env} {tv tv' : Nat → Value}

theorem call_aff (hw : WOk w0 own0 cx own w) (hw1 : WOk w (ownC own A.hs) (cxC cx own w.heap.size A bres) ownE w1) (hnd : noDup A.aas = true) (hh : HandOk A) (hu : u.aff = A.aas) (hub : u.bx = A.bs)
    (hca : ∀ a ∈ A.aas, CallAff A a) (hbd : ∀ b ∈ A.bs, u.isDst b.1 = false)
    (st : Step cx own w env tv u.A u.W u.d (ownN own ownE A.hs back u) w1 env' tv') : AffOk cx own w u (ownN own ownE A.hs back u) w1 := by
  have hmr : ∀ a ∈ A.aas, a.to = .r → a.own = .r := fun a ha hr => by
    rcases hca a ha with h | h | h
    · exact h.2
    · rw [h.1] at hr; cases hr
    · rw [h.1] at hr; cases hr
  have hto : ∀ a ∈ A.aas, ∀ x v, OwnRep w cx own (a.h, a.i + 1) a.m a.f x v → ∀ s i, CellIs w1 cx (ownN own ownE A.hs back u) s i a.to x v := by
    intro a ha x v ho s i
    rcases hca a ha with ⟨h1, _⟩ | ⟨h1, _⟩ | ⟨h1, h2, _⟩
    · rw [h1]
      have hfr : frozenL A.aas (a.h, a.i + 1) = true := List.any_eq_true.2 ⟨a, ha, by simp [leafEq, h1]⟩
      refine OwnRep.frozen' ho (fun g j hj hl => ?_) (fun d v h => st.rs h)
      have hC : ownC own A.hs g = none := by
        unfold ownC; rw [hj]; simp [hl, frozen_not_handed hnd hh hfr]
      have hg := (hw.dom g j hj).1
      refine ⟨?_, (hw.dom g j hj).2, hw1.kept.block g hg hC⟩
      rw [ownN_of_old (callee_none hw1 hg hC) hC, hj]
      exact relabU_frozen hnd hu hmr (by rw [hl]; exact hfr)
    · rw [h1]; trivial
    · rw [h1]
      rw [h2] at ho
      exact st.bs (OwnRep.borrow ho (fun g i hi => (hw.dom g i hi).2) hw.s1)
  refine ⟨fun a ha m f => ?_, fun a ha => hto a (by rw [← hu]; exact ha), fun a ha hW x v ho => ?_, fun h i hd hf m f x v ho => ?_⟩
  · rcases hca a (by rw [← hu]; exact ha) with h | h | h <;> rw [h.1] <;> simp
  · have ha' : a ∈ A.aas := by rw [← hu]; exact ha
    have hno : ¬∃ b ∈ A.bs, b.1 = a.h := fun ⟨b, hb, he⟩ => hW (.inr ⟨b, by rw [hub]; exact hb, he⟩)
    have hown : a.own = a.to := by
      rcases hca a ha' with h | ⟨h1, h2 | h2⟩ | ⟨h1, _, h2 | h2⟩
      · rw [h.1, h.2]
      · rw [h1, h2]
      · exact absurd h2 hno
      · rw [h1, h2]
      · exact absurd h2 hno
    rw [hown]
    exact hto a ha' x v ho _ _
  · have hnm : leafMap A.hs (h, i + 1) = none := by
      cases hm : leafMap A.hs (h, i + 1) with
      | none => rfl
      | some l' =>
        rcases hh _ (leafMap_some hm) with ⟨a, ha, h1, _⟩ | ⟨h1, _⟩
        · simp only [Prod.mk.injEq, Nat.add_right_cancel_iff] at h1
          have := find_mem (u := u) (by rw [hu]; exact hnd) (by rw [hu]; exact ha)
          rw [← h1.1, ← h1.2, hf] at this
          cases this
        · simp at h1
    refine OwnRep.frozen' ho (fun g j hj hl => ?_) (fun d v h => st.rs h)
    have hC : ownC own A.hs g = none := by
      unfold ownC; rw [hj]; simp [hl, hnm]
    have hg := (hw.dom g j hj).1
    refine ⟨?_, (hw.dom g j hj).2, hw1.kept.block g hg hC⟩
    rw [ownN_of_old (callee_none hw1 hg hC) hC, hj]
    simp only [Option.bind_some]
    unfold relabU
    have h2 : j.leaf.2 = i + 1 := by rw [hl]
    have h1 : j.leaf.1 = h := by rw [hl]
    rw [h2, h1]
    simp [hf, hd]

end

end V
end Go.Proofs.Ytgialjcichiaoaa

/-
Behind a call: the results' cells.
-/
namespace Go.Proofs.Ytgialjcichiaoaa
namespace V

section
variable {w0 : World} {own0 : Own} {cx : Cx} {own ownE : Own} {w w1 : World} {A : CA} {bres : Bool} {back : Leaf → Option Leaf} {u : Up}

theorem OwnRep.relab2 {cx1 cx2 : Cx} {o1 o2 : Own} {lf lf' : Nat × Nat} {m : Bool} {f : Fz} {d : D} {v : Value} (h : OwnRep w1 cx1 o1 lf m f d v)
    (hl : ∀ g i, o1 g = some i → i.leaf = lf → o2 g = some { i with leaf := lf' }) (hr : ∀ d v, Rep w1 (RS cx1 o1) d v → Rep w1 (RS cx2 o2) d v) : OwnRep w1 cx2 o2 lf' m f d v := by
  cases h with
  | nil => exact .nil
  | sl xs g cap cur T fr vs h1 h2 h3 h4 h5 h6 h7 h8 h9 h10 =>
    refine .sl xs g cap cur T fr vs h1 (hl g _ h2 rfl) h3 h4 h5 h6 h7 h8 h9 (fun i x j d hx hj => ?_)
    have h11 := h10 i x j d hx hj
    obtain ⟨sz, u⟩ := f
    cases u with
    | false => exact hr _ _ h11
    | true => exact InRep.keep h11 (fun g i hi hl' => ⟨hl g i hi hl', rfl⟩)

theorem cell_back (hw : WOk w0 own0 cx own w) (hw1 : WOk w (ownC own A.hs) (cxC cx own w.heap.size A bres) ownE w1) (hnd : noDup A.aas = true) (hh : HandOk A) (hu : u.aff = A.aas) (hmr : ∀ a ∈ A.aas, a.to = .r → a.own = .r)
    {k j k' j' : Nat} {c : CS} {x : D} {v : Value} (hb : c = .b → bres = true) (hna : noAl c = true) (hback : ∀ m f, c = .o m f → back (k, j + 1) = some (k', j' + 1))
    (h : CellOk w1 (cxC cx own w.heap.size A bres) ownE k j c x v) : CellOk w1 cx (ownN own ownE A.hs back u) k' j' c x v := by
  refine ⟨h.1, ?_⟩
  have h2 := h.2
  have hrs : ∀ {d : D} {v : Value}, Rep w1 (RS (cxC cx own w.heap.size A bres) ownE) d v → Rep w1 (RS cx (ownN own ownE A.hs back u)) d v := fun hr => hr.sub (fun g o => rs_back hw hw1 hnd hh hu hmr)
  cases c with
  | n => exact h2
  | s => exact h2
  | r => exact hrs h2
  | b =>
    have := hb rfl
    subst this
    exact Rep.sub h2 (fun g o => bs_back hw hw1 hnd hh hu hmr)
  | x => trivial
  | al _ _ _ _ => cases hna
  | o m f =>
    have hbk := hback m f rfl
    refine OwnRep.relab2 h2 (fun g i hi hl => ?_) (fun d v hr => hrs hr)
    unfold ownN
    rw [hi]
    simp [hl, hbk]

end

end V
end Go.Proofs.Ytgialjcichiaoaa

/-
Behind a call: the results' slot and the boxes.
-/
namespace Go.Proofs.Ytgialjcichiaoaa
namespace V

/-- The cells ahead of result k. -/
def offR : List PSh → Nat → Nat
  | [], _ => 0
  | _, 0 => 0
  | .v _ cs :: r, k + 1 => cs.length + offR r k
  | _ :: r, k + 1 => offR r k

/-- Where a label of a result, or of a box, goes back to. -/
def backR (sig : Sig) (bs : List (Nat × Sh)) (d : Nat) (l : Leaf) : Option Leaf :=
  if l.1 < sig.rs.length then
    match sig.rs with
    | [.v _ cs] => if 1 ≤ l.2 ∧ l.2 ≤ cs.length then some (d, l.2) else none
    | [.nbox cs] => if l.2 ≤ cs.length then some (d, l.2) else none
    | ps => match ps[l.1]? with
      | some (.v _ cs) => if 1 ≤ l.2 ∧ l.2 ≤ cs.length then some (d, offR ps l.1 + l.2) else none
      | _ => none
  else match bs[l.1 - sig.rs.length]? with
    | some (b, .box false ws) => if l.2 ≤ ws.length then some (b, l.2) else none
    | _ => none

theorem putAll_ne {e : Env} : ∀ {bs : List Nat} {cs : List (List D)} {s : Nat}, s ∉ bs → putAll e bs cs s = e s
  | [], cs, s, _ => by cases cs <;> rfl
  | b :: bs, [], s, _ => rfl
  | b :: bs, c :: cs, s, h => by
    simp only [List.mem_cons, not_or] at h
    simp only [putAll]
    rw [putAll_ne (e := put e b c) h.2, put_ne _ _ _ _ h.1]

theorem putAll_get : ∀ {bs : List Nat} {cs : List (List D)} {e : Env}, distinctN bs = true → cs.length = bs.length → ∀ {i b : Nat} {c : List D}, bs[i]? = some b → cs[i]? = some c → putAll e bs cs b = c
  | [], _, _, _, _, i, b, c, h, _ => by simp at h
  | b0 :: bs, [], _, _, h, _, _, _, _, _ => by simp at h
  | b0 :: bs, c0 :: cs, e, hd, hl, 0, b, c, hb, hc => by
    simp only [List.getElem?_cons_zero, Option.some.injEq] at hb hc
    subst hb; subst hc
    simp only [distinctN, Bool.and_eq_true, Bool.not_eq_true'] at hd
    simp only [putAll]
    rw [putAll_ne (fun hm => ?_), put_self]
    have := List.any_eq_false.1 hd.1 b0 hm
    simp at this
  | b0 :: bs, c0 :: cs, e, hd, hl, i + 1, b, c, hb, hc => by
    simp only [distinctN, Bool.and_eq_true] at hd
    simp only [putAll]
    exact putAll_get hd.2 (by simpa using hl) (by simpa using hb) (by simpa using hc)

theorem offR_le : ∀ {ps : List PSh} {k : Nat} {a : Bool} {cs : List CS}, ps[k]? = some (.v a cs) → ∀ {k' : Nat} {a' : Bool} {cs' : List CS}, ps[k']? = some (.v a' cs') → k < k' → offR ps k + cs.length ≤ offR ps k'
  | [], k, _, _, h, _, _, _, _, _ => by simp at h
  | p :: r, 0, a, cs, h, k', a', cs', h', hlt => by
    simp only [List.getElem?_cons_zero, Option.some.injEq] at h
    subst h
    match k', hlt with
    | k' + 1, _ => simp only [offR]; omega
  | p :: r, k + 1, a, cs, h, k', a', cs', h', hlt => by
    match k', hlt with
    | k' + 1, hlt =>
      have := offR_le (ps := r) (k := k) (by simpa using h) (k' := k') (by simpa using h') (by omega)
      cases p <;> simp only [offR] <;> omega

end V
end Go.Proofs.Ytgialjcichiaoaa

/-
Behind a call: several results.
-/
namespace Go.Proofs.Ytgialjcichiaoaa
namespace V

theorem All3.append {Q : Nat → CS → D → Value → Prop} {c1 c2 : List CS} {d1 d2 : List D} {v1 v2 : List Value} (h1 : All3 Q c1 d1 v1) (h2 : All3 (fun j => Q (c1.length + j)) c2 d2 v2) : All3 Q (c1 ++ c2) (d1 ++ d2) (v1 ++ v2) := by
  obtain ⟨a1, a2, a3⟩ := h1
  obtain ⟨b1, b2, b3⟩ := h2
  refine ⟨by simp [a1, b1], by simp [a2, b2], fun i c d v hc hd hv => ?_⟩
  by_cases hi : i < c1.length
  · rw [List.getElem?_append_left hi] at hc
    rw [List.getElem?_append_left (by omega)] at hd hv
    exact a3 i c d v hc hd hv
  · rw [List.getElem?_append_right (by omega)] at hc hd hv
    have := b3 (i - c1.length) c d v hc (by rw [← hd]; congr 1; omega) (by rw [← hv]; congr 1; omega)
    dsimp only at this
    rwa [show c1.length + (i - c1.length) = i from by omega] at this

theorem tup_ok {Q : Nat → CS → D → Value → Prop} : ∀ {ps : List PSh} {qs : List (Bool × List CS)} {rs : List (List D)} {rv : List Value} {off : Nat}, resSh.go ps = some qs → rs.length = ps.length → rv.length = ps.length →
    (∀ (k : Nat) (a : Bool) (cs : List CS) (r : List D) (v : Value), ps[k]? = some (.v a cs) → rs[k]? = some r → rv[k]? = some v → ∃ vs, v = wrapV a vs ∧ (a = false → vs.length = 1) ∧ All3 (fun j => Q (off + offR ps k + j)) cs r vs) →
    ∃ vss : List (List Value), rv = List.zipWith (fun (p : Bool × List CS) vs => wrapV p.1 vs) qs vss ∧ vss.length = qs.length ∧
      (∀ (i : Nat) (p : Bool × List CS) (vs : List Value), qs[i]? = some p → vss[i]? = some vs → vs.length = p.2.length ∧ (p.1 = false → vs.length = 1)) ∧ All3 (fun j => Q (off + j)) (qs.flatMap (·.2)) rs.flatten vss.flatten
  | [], qs, rs, rv, off, h, h1, h2, _ => by
    simp only [resSh.go, Option.some.injEq] at h
    subst h
    have e1 : rs = [] := List.eq_nil_of_length_eq_zero h1
    have e2 : rv = [] := List.eq_nil_of_length_eq_zero h2
    subst e1; subst e2
    exact ⟨[], rfl, rfl, fun i p vs h => by simp at h, rfl, rfl, fun i c d v h => by simp at h⟩
  | p :: ps, qs, [], rv, off, h, h1, h2, _ => by simp at h1
  | p :: ps, qs, r :: rs, [], off, h, h1, h2, _ => by simp at h2
  | p :: ps, qs, r :: rs, v :: rv, off, h, h1, h2, h3 => by
    cases p with
    | v a cs =>
      simp only [resSh.go] at h
      cases hg : resSh.go ps with
      | none => rw [hg] at h; cases h
      | some qs' =>
        rw [hg] at h
        simp only [Option.map_some, Option.some.injEq] at h
        subst h
        obtain ⟨vs, k1, k2, k3⟩ := h3 0 a cs r v rfl rfl rfl
        simp only [offR, Nat.add_zero] at k3
        obtain ⟨vss, m1, m2, m3, m4⟩ := tup_ok (Q := Q) (off := off + cs.length) hg (by simpa using h1) (by simpa using h2) (fun k a' cs' r' v' e1 e2 e3 => by
          obtain ⟨vs', q1, q2, q3⟩ := h3 (k + 1) a' cs' r' v' (by simpa using e1) (by simpa using e2) (by simpa using e3)
          refine ⟨vs', q1, q2, ?_⟩
          simp only [offR] at q3
          rwa [← Nat.add_assoc] at q3)
        refine ⟨vs :: vss, by simp [k1, m1], by simp [m2], fun i p ws hp hw => ?_, ?_⟩
        · cases i with
          | zero =>
            simp only [List.getElem?_cons_zero, Option.some.injEq] at hp hw
            subst hp; subst hw
            exact ⟨k3.2.1.trans k3.1.symm, k2⟩
          | succ i => exact m3 i p ws (by simpa using hp) (by simpa using hw)
        · simp only [List.flatMap_cons, List.flatten_cons]
          refine All3.append k3 ?_
          refine All3.imp m4 (fun j c d v h => ?_)
          rwa [Nat.add_assoc] at h
    | io a cs => simp [resSh.go] at h
    | box ro cs => simp [resSh.go] at h
    | clo f => simp [resSh.go] at h
    | nbox cs => simp [resSh.go] at h

end V
end Go.Proofs.Ytgialjcichiaoaa

/-
What the checker says of the boxes and the owners of a call.
-/
namespace Go.Proofs.Ytgialjcichiaoaa
namespace V

section
variable {bres : Bool} {L : Look} {g : Gd}

theorem arg1_aff {B : CA} {s kp i : Nat} {c w : CS} {a1 : List Aff} {h1 : List (Leaf × Leaf)} {r1 : List Leaf} (h : arg1 bres s kp i c w = some (a1, h1, r1)) : (∀ a ∈ a1, CallAff B a ∧ ∀ m f, a.own ≠ .o m f) ∧ ∀ p ∈ h1, p.2.1 = kp := by
  unfold arg1 at h
  repeat' (split at h)
  all_goals first
    | (cases h; done)
    | (simp only [Option.some.injEq, Prod.mk.injEq] at h
       obtain ⟨rfl, rfl, rfl⟩ := h
       refine ⟨fun a ha => ?_, fun p hp => ?_⟩
       · first
           | (simp at ha; done)
           | (simp only [List.mem_singleton] at ha
              subst ha
              first
                | exact ⟨.inl ⟨rfl, rfl⟩, fun m f => by simp⟩
                | exact ⟨.inr (.inl ⟨rfl, .inl rfl⟩), fun m f => by simp⟩
                | (rename_i hm
                   exact ⟨.inr (.inr ⟨rfl, by simpa using hm, .inl rfl⟩), fun m f => by simp⟩))
       · first
           | (simp at hp; done)
           | (simp only [List.mem_singleton] at hp
              subst hp; rfl))

theorem argCells_aff {B : CA} {s kp : Nat} : ∀ {cs ws : List CS} {i : Nat} {aas : List Aff} {hs : List (Leaf × Leaf)} {rd : List Leaf}, argCells bres s kp cs ws i = some (aas, hs, rd) → (∀ a ∈ aas, CallAff B a ∧ ∀ m f, a.own ≠ .o m f) ∧ ∀ p ∈ hs, p.2.1 = kp
  | [], [], i, aas, hs, rd, h => by
    simp only [argCells, Option.some.injEq, Prod.mk.injEq] at h
    obtain ⟨rfl, rfl, rfl⟩ := h
    exact ⟨fun a ha => by simp at ha, fun p hp => by simp at hp⟩
  | [], _ :: _, _, _, _, _, h => by simp [argCells] at h
  | _ :: _, [], _, _, _, _, h => by simp [argCells] at h
  | c :: r, w :: ws, i, aas, hs, rd, h => by
    simp only [argCells] at h
    split at h
    · rename_i a1 b1 r1 a2 b2 r2 e1 e2
      simp only [Option.some.injEq, Prod.mk.injEq] at h
      obtain ⟨rfl, rfl, rfl⟩ := h
      obtain ⟨k1, k2⟩ := arg1_aff (B := B) e1
      obtain ⟨m1, m2⟩ := argCells_aff (B := B) e2
      refine ⟨fun a ha => ?_, fun p hp => ?_⟩
      · rcases List.mem_append.1 ha with ha | ha
        · exact k1 a ha
        · exact m1 a ha
      · rcases List.mem_append.1 hp with hp | hp
        · exact k2 p hp
        · exact m2 p hp
    · cases h

theorem boxAff_get {b : Nat} : ∀ {cs : List CS} {j k : Nat}, k < cs.length → ∃ a ∈ boxAff b cs j, a.h = b ∧ a.i = j + k
  | [], j, k, h => by simp at h
  | c :: r, j, 0, _ => by
    cases c <;> exact ⟨_, List.mem_cons_self .., rfl, rfl⟩
  | c :: r, j, k + 1, h => by
    obtain ⟨a, ha, h1, h2⟩ := boxAff_get (b := b) (cs := r) (j := j + 1) (k := k) (by simpa using h)
    refine ⟨a, ?_, h1, by omega⟩
    cases c <;> exact List.mem_cons_of_mem _ ha

theorem boxAff_aff {B : CA} {b kp : Nat} (hB : ∃ p ∈ B.bs, p.1 = b) : ∀ {cs : List CS} {j : Nat}, ∀ a ∈ boxAff b cs j, CallAff B a ∧ ∀ m f, a.own = .o m f → ((a.h, a.i + 1), (kp, a.i + 1)) ∈ boxHand b kp cs j
  | [], j, a, ha => by simp [boxAff] at ha
  | c :: r, j, a, ha => by
    have ih := @boxAff_aff B b kp hB r (j + 1)
    cases c with
    | o m f =>
      simp only [boxAff, List.mem_cons] at ha
      rcases ha with rfl | ha
      · refine ⟨?_, fun m' f' _ => List.mem_cons_self ..⟩
        cases m with
        | true => exact .inr (.inl ⟨rfl, .inr hB⟩)
        | false => exact .inr (.inr ⟨rfl, rfl, .inr hB⟩)
      · obtain ⟨h1, h2⟩ := ih a ha
        exact ⟨h1, fun m' f' he => List.mem_cons_of_mem _ (h2 m' f' he)⟩
    | _ =>
      simp only [boxAff, List.mem_cons] at ha
      rcases ha with rfl | ha
      · exact ⟨.inr (.inl ⟨rfl, .inl rfl⟩), fun m' f' he => by cases he⟩
      · obtain ⟨h1, h2⟩ := ih a ha
        exact ⟨h1, h2⟩

theorem boxHand_dst {b kp : Nat} : ∀ {cs : List CS} {j : Nat}, ∀ p ∈ boxHand b kp cs j, p.2.1 = kp
  | [], j, p, hp => by simp [boxHand] at hp
  | c :: r, j, p, hp => by
    have ih := @boxHand_dst b kp r (j + 1)
    cases c <;> simp only [boxHand, List.mem_cons] at hp <;> first
      | exact ih p hp
      | (rcases hp with rfl | hp
         · rfl
         · exact ih p hp)

/-- What holds of one argument's part. -/
structure PartOk (L : Look) (g : Gd) (x : Operand) (p : PSh) (kp : Nat) (c B : CA) : Prop where
  aff : ∀ a ∈ c.aas, CallAff B a ∧ ∀ m f, a.own = .o m f → ∃ l', ((a.h, a.i + 1), l') ∈ c.hs
  dst : ∀ q ∈ c.hs, q.2.1 = kp
  box : (∃ ws b cs, p = .box false ws ∧ c.bs = [(b, .box false ws)] ∧ boxOf L g x = some b ∧ L b = .box false cs ∧ ws.length = cs.length ∧ ((b, 0), (kp, 0)) ∈ c.hs ∧ ∀ k, k < cs.length → ∃ a ∈ c.aas, a.h = b ∧ a.i = k) ∨ ((∀ ws, p ≠ .box false ws) ∧ c.bs = [])

theorem cArg_part {x : Operand} {p : PSh} {kp : Nat} {c B : CA} (h : cArg L g bres x p kp = some c) (hB : ∀ q ∈ c.bs, q ∈ B.bs) : PartOk L g x p kp c B := by
  unfold cArg at h
  split at h
  · split at h
    · split at h
      · simp only [Option.some.injEq] at h; subst h
        exact ⟨fun a ha => by simp at ha, fun q hq => by simp at hq, .inr ⟨(fun ws e => by cases e), rfl⟩⟩
      · cases h
    · split at h
      · split at h
        · split at h
          · rename_i hac
            simp only [Option.some.injEq] at h; subst h
            obtain ⟨k1, k2⟩ := argCells_aff (B := B) hac
            exact ⟨fun a ha => ⟨(k1 a ha).1, fun m f he => absurd he ((k1 a ha).2 m f)⟩, k2, .inr ⟨(fun ws e => by cases e), rfl⟩⟩
          · cases h
        · cases h
      · cases h
    · cases h
  · rename_i ws
    split at h
    · rename_i b hbo
      split at h
      · rename_i cs hLb
        split at h
        · rename_i hbf
          simp only [Option.some.injEq] at h; subst h
          have hBb : ∃ q ∈ B.bs, q.1 = b := ⟨_, hB _ (List.mem_singleton.2 rfl), rfl⟩
          refine ⟨fun a ha => ?_, fun q hq => ?_, .inl ⟨ws, b, cs, rfl, rfl, hbo, hLb, (boxFits_get hbf).1, List.mem_cons_self .., fun k hk => ?_⟩⟩
          · obtain ⟨k1, k2⟩ := boxAff_aff (B := B) (kp := kp) hBb a ha
            exact ⟨k1, fun m f he => ⟨_, List.mem_cons_of_mem _ (k2 m f he)⟩⟩
          · rcases List.mem_cons.1 hq with rfl | hq
            · rfl
            · exact boxHand_dst q hq
          · obtain ⟨a, ha, h1, h2⟩ := boxAff_get (b := b) (cs := cs) (j := 0) hk
            exact ⟨a, ha, h1, by omega⟩
        · cases h
      · cases h
    · cases h
  · split at h
    · split at h
      · simp only [Option.some.injEq] at h; subst h
        exact ⟨fun a ha => by simp at ha, fun q hq => by simp at hq, .inr ⟨(fun ws e => by cases e), rfl⟩⟩
      · cases h
    · cases h
  · cases h

/-- What holds of all arguments' parts. -/
structure PartsOk (L : Look) (g : Gd) (xs : List Operand) (ps : List PSh) (kp : Nat) (A B : CA) : Prop where
  aff : ∀ a ∈ A.aas, CallAff B a ∧ ∀ m f, a.own = .o m f → ∃ l', ((a.h, a.i + 1), l') ∈ A.hs
  dst : ∀ q ∈ A.hs, kp ≤ q.2.1 ∧ q.2.1 < kp + ps.length
  len : A.bs.length = (boxPs ps kp).length
  box : ∀ (i k : Nat) (ws : List CS), (boxPs ps kp)[i]? = some (k, ws) → kp ≤ k ∧ ∃ b cs x, A.bs[i]? = some (b, .box false ws) ∧ xs[k - kp]? = some x ∧ boxOf L g x = some b ∧ L b = .box false cs ∧ ws.length = cs.length ∧ ((b, 0), (k, 0)) ∈ A.hs ∧ ∀ j, j < cs.length → ∃ a ∈ A.aas, a.h = b ∧ a.i = j

theorem cArgs_parts {B : CA} : ∀ {xs : List Operand} {ps : List PSh} {kp : Nat} {A : CA}, cArgs L g bres xs ps kp = some A → (∀ q ∈ A.bs, q ∈ B.bs) → PartsOk L g xs ps kp A B
  | [], [], kp, A, h, _ => by
    simp only [cArgs, Option.some.injEq] at h
    subst h
    exact ⟨fun a ha => by simp at ha, fun q hq => by simp at hq, rfl, fun i k ws h => by simp [boxPs] at h⟩
  | [], _ :: _, _, _, h, _ => by simp [cArgs] at h
  | _ :: _, [], _, _, h, _ => by simp [cArgs] at h
  | x :: xs, p :: ps, kp, A, h, hB => by
    simp only [cArgs] at h
    split at h
    · rename_i c1 c2 e1 e2
      simp only [Option.some.injEq] at h
      subst h
      have P1 := cArg_part (B := B) e1 (fun q hq => hB q (List.mem_append_left _ hq))
      have P2 := cArgs_parts (B := B) e2 (fun q hq => hB q (List.mem_append_right _ hq))
      have bound : ∀ q ∈ c2.hs, kp ≤ q.2.1 ∧ q.2.1 < kp + (p :: ps).length := fun q hq => by
        have := P2.dst q hq
        simp only [List.length_cons]
        omega
      have later : ∀ (i k : Nat) (ws : List CS), (boxPs ps (kp + 1))[i]? = some (k, ws) → ∀ (n : Nat), n = c1.bs.length → kp ≤ k ∧ ∃ b cs y, (c1.add c2).bs[n + i]? = some (b, .box false ws) ∧ (x :: xs)[k - kp]? = some y ∧ boxOf L g y = some b ∧ L b = .box false cs ∧ ws.length = cs.length ∧ ((b, 0), (k, 0)) ∈ (c1.add c2).hs ∧ ∀ j, j < cs.length → ∃ a ∈ (c1.add c2).aas, a.h = b ∧ a.i = j := by
        intro i k ws hi n hn
        obtain ⟨h1, b, cs, y, h2, h3, h4, h5, h6, h7, h8⟩ := P2.box i k ws hi
        refine ⟨by omega, b, cs, y, ?_, ?_, h4, h5, h6, List.mem_append_right _ h7, fun j hj => ?_⟩
        · show (c1.bs ++ c2.bs)[n + i]? = _
          rw [List.getElem?_append_right (by omega), ← h2]
          congr 1; omega
        · rw [show k - kp = (k - (kp + 1)) + 1 from by omega, List.getElem?_cons_succ]
          exact h3
        · obtain ⟨a, ha, h9⟩ := h8 j hj
          exact ⟨a, List.mem_append_right _ ha, h9⟩
      refine ⟨fun a ha => ?_, fun q hq => ?_, ?_, fun i k ws hi => ?_⟩
      · rcases List.mem_append.1 ha with ha | ha
        · obtain ⟨h1, h2⟩ := P1.aff a ha
          exact ⟨h1, fun m f he => (h2 m f he).imp fun l' hl => List.mem_append_left _ hl⟩
        · obtain ⟨h1, h2⟩ := P2.aff a ha
          exact ⟨h1, fun m f he => (h2 m f he).imp fun l' hl => List.mem_append_right _ hl⟩
      · rcases List.mem_append.1 hq with hq | hq
        · have := P1.dst q hq
          simp only [List.length_cons]
          omega
        · exact bound q hq
      · rcases P1.box with ⟨ws, b, cs, rfl, h2, _⟩ | ⟨h1, h2⟩
        · simp [CA.add, h2, boxPs, P2.len]
        · have hb : boxPs (p :: ps) kp = boxPs ps (kp + 1) := by
            cases p with
            | box ro ws => cases ro with
              | false => exact absurd rfl (h1 ws)
              | true => rfl
            | _ => rfl
          rw [hb]
          simp [CA.add, h2, P2.len]
      · rcases P1.box with ⟨ws0, b, cs, rfl, h2, h3, h4, h5, h6, h7⟩ | ⟨h1, h2⟩
        · cases i with
          | zero =>
            simp only [boxPs, List.getElem?_cons_zero, Option.some.injEq, Prod.mk.injEq] at hi
            obtain ⟨rfl, rfl⟩ := hi
            refine ⟨Nat.le_refl _, b, cs, x, ?_, by simp, h3, h4, h5, List.mem_append_left _ h6, fun j hj => ?_⟩
            · show (c1.bs ++ c2.bs)[0]? = _
              rw [h2]; rfl
            · obtain ⟨a, ha, h9⟩ := h7 j hj
              exact ⟨a, List.mem_append_left _ ha, h9⟩
          | succ i =>
            have := later i k ws (by simpa [boxPs] using hi) 1 (by rw [h2]; rfl)
            rwa [show 1 + i = i + 1 from by omega] at this
        · have hb : boxPs (p :: ps) kp = boxPs ps (kp + 1) := by
            cases p with
            | box ro ws => cases ro with
              | false => exact absurd rfl (h1 ws)
              | true => rfl
            | _ => rfl
          rw [hb] at hi
          have := later i k ws hi 0 (by rw [h2]; rfl)
          rwa [Nat.zero_add] at this
    · cases h

end

end V
end Go.Proofs.Ytgialjcichiaoaa

/-
A call, put together.
-/
namespace Go.Proofs.Ytgialjcichiaoaa
namespace V

theorem run_enter {P : Program} {f : Nat} (h : Ent P f) (args : Array Value) (w : World) : (callFunc f args).run P w = .ok (.enter f args) w := by
  obtain ⟨fn, h1, h2, h3⟩ := h
  have h2' : ¬fn.name = "runtime.NumGoroutine" := by simpa using h2
  have h3' : ¬fn.body = none := by intro e; rw [e] at h3; cases h3
  simp [callFunc, go_sem, h1, h2', h3']

theorem exec_call {P : Program} {a : Act} {o : Oper} {c : Call} {f : Nat} (ho : o.op = .call c) (hc : c.callee = .value (.func f)) (h : Ent P f) (w : World) :
    (execOp a.eval o).run P w = .ok (.enter f (c.args.map a.eval)) w := by
  have : execOp a.eval o = callFunc f (#[] ++ c.args.map a.eval ++ #[]) := by
    unfold execOp
    simp only [ho]
    obtain ⟨ce, aas, ats⟩ := c
    subst hc
    rfl
  rw [this, run_enter h]
  simp

section
variable {w0 : World} {own0 : Own} {cx : Cx} {own ownE : Own} {w w1 : World} {A : CA} {bres : Bool} {back : Leaf → Option Leaf} {u : Up}

theorem slot_back_v (hw : WOk w0 own0 cx own w) (hw1 : WOk w (ownC own A.hs) (cxC cx own w.heap.size A bres) ownE w1) (hnd : noDup A.aas = true) (hh : HandOk A) (hu : u.aff = A.aas) (hmr : ∀ a ∈ A.aas, a.to = .r → a.own = .r)
    {k d off : Nat} {cs : List CS} {ds : List D} {vs : List Value} (hb : hasB cs = true → bres = true) (hna : cs.all noAl = true) (hback : ∀ j, j < cs.length → back (k, j + 1) = some (d, off + j + 1))
    (h : All3 (CellOk w1 (cxC cx own w.heap.size A bres) ownE k) cs ds vs) : All3 (fun j => CellOk w1 cx (ownN own ownE A.hs back u) d (off + j)) cs ds vs := by
  refine ⟨h.1, h.2.1, fun j c x v hc hx hv => ?_⟩
  have hj : j < cs.length := (List.getElem?_eq_some_iff.1 hc).1
  refine cell_back hw hw1 hnd hh hu hmr (fun e => hb ?_) (List.all_eq_true.1 hna c (List.mem_of_getElem? hc)) (fun m f _ => hback j hj) (h.2.2 j c x v hc hx hv)
  subst e
  exact List.any_eq_true.2 ⟨.b, List.mem_of_getElem? hc, rfl⟩

end

theorem boxPs_mem : ∀ {ps : List PSh} {kp i k : Nat} {ws : List CS}, (boxPs ps kp)[i]? = some (k, ws) → .box false ws ∈ ps
  | [], kp, i, k, ws, h => by simp [boxPs] at h
  | p :: ps, kp, i, k, ws, h => by
    cases p with
    | box ro cs =>
      cases ro with
      | false =>
        cases i with
        | zero =>
          simp only [boxPs, List.getElem?_cons_zero, Option.some.injEq, Prod.mk.injEq] at h
          rw [h.2]; exact List.mem_cons_self ..
        | succ i => exact List.mem_cons_of_mem _ (boxPs_mem (by simpa [boxPs] using h))
      | true => exact List.mem_cons_of_mem _ (boxPs_mem (by simpa [boxPs] using h))
    | _ => exact List.mem_cons_of_mem _ (boxPs_mem (by simpa [boxPs] using h))

theorem boxPs_len {ps qs : List PSh} : ∀ {kp : Nat}, (boxPs ps kp).length = (boxPs ps 0).length := by
  suffices h : ∀ (ps : List PSh) (a b : Nat), (boxPs ps a).length = (boxPs ps b).length from fun {kp} => h ps kp 0
  intro ps
  induction ps with
  | nil => intro a b; rfl
  | cons p r ih =>
    intro a b
    cases p with
    | box ro cs => cases ro <;> simp [boxPs, ih (a + 1) (b + 1)]
    | _ => simp [boxPs, ih (a + 1) (b + 1)]

/-- What the checker asks of results. -/
theorem resSh_cases {ps : List PSh} {sh : Sh} (h : resSh ps = some sh) :
    (∃ a cs, ps = [.v a cs] ∧ sh = .v a cs) ∨ (∃ cs, ps = [.nbox cs] ∧ sh = .box false cs) ∨ (ps.length ≠ 1 ∧ (∀ p ∈ ps, ∃ a cs, p = .v a cs) ∧ ∃ qs, resSh.go ps = some qs ∧ sh = .tup qs) := by
  have go_v : ∀ {ps : List PSh} {qs : List (Bool × List CS)}, resSh.go ps = some qs → ∀ p ∈ ps, ∃ a cs, p = .v a cs := by
    intro ps
    induction ps with
    | nil => intro qs _ p hp; simp at hp
    | cons p r ih =>
      intro qs hq q hm
      cases p with
      | v a cs =>
        simp only [resSh.go] at hq
        cases hg : resSh.go r with
        | none => rw [hg] at hq; cases hq
        | some qs' =>
          rcases List.mem_cons.1 hm with rfl | hm
          · exact ⟨a, cs, rfl⟩
          · exact ih hg q hm
      | io a cs => simp [resSh.go] at hq
      | box ro cs => simp [resSh.go] at hq
      | clo f => simp [resSh.go] at hq
      | nbox cs => simp [resSh.go] at hq
  unfold resSh at h
  split at h
  · simp only [Option.some.injEq] at h
    exact .inl ⟨_, _, rfl, h.symm⟩
  · simp only [Option.some.injEq] at h
    exact .inr (.inl ⟨_, rfl, h.symm⟩)
  · rename_i h1 h2
    cases hg : resSh.go ps with
    | none => rw [hg] at h; cases h
    | some qs =>
      rw [hg] at h
      simp only [Option.map_some, Option.some.injEq] at h
      refine .inr (.inr ⟨fun hl => ?_, go_v hg, qs, rfl, h.symm⟩)
      match ps, hl with
      | [p], _ =>
        obtain ⟨a, cs, e⟩ := go_v hg p (List.mem_singleton.2 rfl)
        exact h1 a cs (by rw [e])

section
variable {sig : Sig} {bs : List (Nat × Sh)} {d : Nat}

theorem backR_lt {l m : Leaf} (hl : l.1 < sig.rs.length) {sh : Sh} (hs : resSh sig.rs = some sh) (h : backR sig bs d l = some m) :
    m.1 = d ∧ ∀ l' : Leaf, l'.1 < sig.rs.length → backR sig bs d l' = some m → l = l' := by
  unfold backR at h
  rw [if_pos hl] at h
  rcases resSh_cases hs with ⟨a, cs, e, _⟩ | ⟨cs, e, _⟩ | ⟨hn, hv, _⟩
  · rw [e] at h hl
    simp only [List.length_singleton] at hl
    dsimp only at h
    split at h
    · simp only [Option.some.injEq] at h
      subst h
      refine ⟨rfl, fun l' hl' h' => ?_⟩
      unfold backR at h'
      rw [if_pos hl', e] at h'
      rw [e] at hl'
      simp only [List.length_singleton] at hl'
      dsimp only at h'
      split at h'
      · simp only [Option.some.injEq, Prod.mk.injEq, true_and] at h'
        exact Prod.ext (by omega) h'.symm
      · cases h'
    · cases h
  · rw [e] at h hl
    simp only [List.length_singleton] at hl
    dsimp only at h
    split at h
    · simp only [Option.some.injEq] at h
      subst h
      refine ⟨rfl, fun l' hl' h' => ?_⟩
      unfold backR at h'
      rw [if_pos hl', e] at h'
      rw [e] at hl'
      simp only [List.length_singleton] at hl'
      dsimp only at h'
      split at h'
      · simp only [Option.some.injEq, Prod.mk.injEq, true_and] at h'
        exact Prod.ext (by omega) h'.symm
      · cases h'
    · cases h
  · have key : ∀ l : Leaf, l.1 < sig.rs.length → ∀ m, backR sig bs d l = some m → ∃ a cs, sig.rs[l.1]? = some (.v a cs) ∧ 1 ≤ l.2 ∧ l.2 ≤ cs.length ∧ m = (d, offR sig.rs l.1 + l.2) := by
      intro l hl m h
      unfold backR at h
      rw [if_pos hl] at h
      split at h
      · rename_i e; rw [e] at hn; simp at hn
      · rename_i e; rw [e] at hn; simp at hn
      · split at h
        · rename_i cs hk
          split at h
          · rename_i hc
            simp only [Option.some.injEq] at h
            exact ⟨_, _, hk, hc.1, hc.2, h.symm⟩
          · cases h
        · cases h
    have h0 : backR sig bs d l = some m := by unfold backR; rw [if_pos hl]; exact h
    obtain ⟨a, cs, e1, e2, e3, rfl⟩ := key l hl m h0
    refine ⟨rfl, fun l' hl' h' => ?_⟩
    obtain ⟨a', cs', k1, k2, k3, k4⟩ := key l' hl' _ h'
    simp only [Prod.mk.injEq, true_and] at k4
    rcases Nat.lt_trichotomy l.1 l'.1 with hlt | heq | hgt
    · have := offR_le e1 k1 hlt; omega
    · exact Prod.ext heq (by rw [heq] at k4; omega)
    · have := offR_le k1 e1 hgt; omega

theorem backR_ge {l m : Leaf} (hl : ¬l.1 < sig.rs.length) (h : backR sig bs d l = some m) : ∃ b ws, bs[l.1 - sig.rs.length]? = some (b, .box false ws) ∧ l.2 ≤ ws.length ∧ m = (b, l.2) := by
  unfold backR at h
  rw [if_neg hl] at h
  split at h
  · rename_i b ws hb
    split at h
    · rename_i hle
      simp only [Option.some.injEq] at h
      exact ⟨b, ws, hb, hle, h.symm⟩
    · cases h
  · cases h

end

theorem distinctN_get : ∀ {l : List Nat}, distinctN l = true → ∀ {i j x : Nat}, l[i]? = some x → l[j]? = some x → i = j
  | [], _, i, j, x, h, _ => by simp at h
  | a :: r, h, i, j, x, hi, hj => by
    simp only [distinctN, Bool.and_eq_true, Bool.not_eq_true'] at h
    have key : ∀ y ∈ r, y ≠ a := fun y hy e => by
      have := List.any_eq_false.1 h.1 y hy
      rw [e] at this
      exact this (Nat.beq_refl _)
    cases i with
    | zero =>
      cases j with
      | zero => rfl
      | succ j =>
        simp only [List.getElem?_cons_zero, Option.some.injEq] at hi
        simp only [List.getElem?_cons_succ] at hj
        exact absurd hi.symm (key x (List.mem_of_getElem? hj))
    | succ i =>
      cases j with
      | zero =>
        simp only [List.getElem?_cons_zero, Option.some.injEq] at hj
        simp only [List.getElem?_cons_succ] at hi
        exact absurd hj.symm (key x (List.mem_of_getElem? hi))
      | succ j => exact congrArg (· + 1) (distinctN_get (i := i) (j := j) (x := x) h.2 (by simpa using hi) (by simpa using hj))

/-- What is handed over with a call: owners, boxes. -/
structure HandsOk (sig : Sig) (A : CA) (a : Act) (vals : List Value) : Prop where
  aff : ∀ a ∈ A.aas, CallAff A a ∧ ∀ m f, a.own = .o m f → ∃ l', ((a.h, a.i + 1), l') ∈ A.hs
  len : A.bs.length = (boxPs sig.ps 0).length
  box : ∀ (i k : Nat) (ws : List CS), (boxPs sig.ps 0)[i]? = some (k, ws) → ∃ b, A.bs[i]? = some (b, .box false ws) ∧ tvL vals k = tvA a b ∧ ((b, 0), (k, 0)) ∈ A.hs ∧ ∀ j, j < ws.length → ∃ a ∈ A.aas, a.h = b ∧ a.i = j

theorem back_ok {sig : Sig} {A : CA} {d : Nat} {sh : Sh} {u : Up} {a : Act} {vals : List Value} (hs : resSh sig.rs = some sh) (hP : HandsOk sig A a vals) (hnd : noDup A.aas = true) (hdn : distinctN (A.bs.map (·.1)) = true)
    (hbd : ∀ b ∈ A.bs, b.1 ≠ d) (hu : u = { aff := A.aas, bx := A.bs, dst := some (d, sh) }) : BackOk u A (backR sig A.bs d) := by
  refine ⟨fun l l' m h h' => ?_, fun l m h => ?_⟩
  · by_cases hl : l.1 < sig.rs.length
    · obtain ⟨h1, h2⟩ := backR_lt hl hs h
      by_cases hl' : l'.1 < sig.rs.length
      · exact h2 l' hl' h'
      · obtain ⟨b, ws, h3, _, rfl⟩ := backR_ge hl' h'
        exact absurd h1 (hbd _ (List.mem_of_getElem? h3))
    · obtain ⟨b, ws, h3, _, rfl⟩ := backR_ge hl h
      by_cases hl' : l'.1 < sig.rs.length
      · exact absurd (backR_lt hl' hs h').1 (hbd _ (List.mem_of_getElem? h3))
      · obtain ⟨b', ws', h5, _, h6⟩ := backR_ge hl' h'
        simp only [Prod.mk.injEq] at h6
        obtain ⟨rfl, h7⟩ := h6
        have := distinctN_get hdn (i := l.1 - sig.rs.length) (j := l'.1 - sig.rs.length) (x := b) (by rw [List.getElem?_map, h3]; rfl) (by rw [List.getElem?_map, h5]; rfl)
        exact Prod.ext (by omega) h7
  · by_cases hl : l.1 < sig.rs.length
    · exact .inl (by rw [Up.isDst_iff, hu, (backR_lt hl hs h).1]; rfl)
    · obtain ⟨b, ws, h3, h4, rfl⟩ := backR_ge hl h
      refine .inr ⟨_, List.mem_of_getElem? h3, rfl, ?_⟩
      cases hl2 : l.2 with
      | zero => exact .inl rfl
      | succ k =>
        refine .inr ⟨k, rfl, ?_⟩
        have hi : l.1 - sig.rs.length < (boxPs sig.ps 0).length := by rw [← hP.len]; exact (List.getElem?_eq_some_iff.1 h3).1
        obtain ⟨b', k1, _, _, k7⟩ := hP.box (l.1 - sig.rs.length) (boxPs sig.ps 0)[l.1 - sig.rs.length].1 (boxPs sig.ps 0)[l.1 - sig.rs.length].2 (by rw [List.getElem?_eq_getElem hi])
        rw [h3] at k1
        simp only [Option.some.injEq, Prod.mk.injEq, Sh.box.injEq, true_and] at k1
        obtain ⟨rfl, k5⟩ := k1
        rw [k5] at h4
        obtain ⟨a, ha, e1, e2⟩ := k7 k (by omega)
        have := find_mem (u := u) (by rw [hu]; exact hnd) (by rw [hu]; exact ha)
        rw [e1, e2] at this
        rw [this]; rfl

end V
end Go.Proofs.Ytgialjcichiaoaa

/-
A call of a function does what the statement says.
-/
namespace Go.Proofs.Ytgialjcichiaoaa
namespace V

theorem starts_get : ∀ {ps : List PSh} {k : Nat} {q : Nat × Sh}, q ∈ starts ps k → ∃ i p, ps[i]? = some p ∧ q = (k + i, startSh p)
  | [], k, q, h => by simp [starts] at h
  | p :: r, k, q, h => by
    simp only [starts, List.mem_cons] at h
    rcases h with rfl | h
    · exact ⟨0, p, rfl, rfl⟩
    · obtain ⟨i, p', h1, h2⟩ := starts_get h
      exact ⟨i + 1, p', by simpa using h1, by rw [h2]; congr 1; omega⟩

theorem retV_put {rv : List Value} {n : Nat} (h : rv.length = n) (hn : n ≠ 1) : retV rv = .tuple rv.toArray := by
  match rv, h with
  | [], _ => rfl
  | [v], h => simp at h; omega
  | a :: b :: r, _ => rfl

theorem Sig.fine_rs {sig : Sig} (h : sig.fine = true) {k : Nat} {a : Bool} {cs : List CS} (hk : sig.rs[k]? = some (.v a cs)) : cs.all noAl = true := by
  unfold Sig.fine at h
  simp only [Bool.and_eq_true] at h
  exact List.all_eq_true.1 h.1 _ (List.mem_of_getElem? hk)

theorem Sig.fine_nb {sig : Sig} (h : sig.fine = true) {k : Nat} {cs : List CS} (hk : sig.rs[k]? = some (.nbox cs)) : cs.all noAl = true := by
  unfold Sig.fine at h
  simp only [Bool.and_eq_true] at h
  exact List.all_eq_true.1 h.1 _ (List.mem_of_getElem? hk)

theorem Sig.fine_box {sig : Sig} (h : sig.fine = true) {cs : List CS} (hk : .box false cs ∈ sig.ps) : cs.all noAl = true := by
  unfold Sig.fine at h
  simp only [Bool.and_eq_true] at h
  exact List.all_eq_true.1 h.2 _ hk

theorem Sig.bres_rs {sig : Sig} {k : Nat} {a : Bool} {cs : List CS} (hk : sig.rs[k]? = some (.v a cs)) (h : hasB cs = true) : sig.bres = true := by
  unfold Sig.bres
  simp only [Bool.or_eq_true]
  exact .inl (List.any_eq_true.2 ⟨_, List.mem_of_getElem? hk, h⟩)

theorem Sig.bres_nb {sig : Sig} {k : Nat} {cs : List CS} (hk : sig.rs[k]? = some (.nbox cs)) (h : hasB cs = true) : sig.bres = true := by
  unfold Sig.bres
  simp only [Bool.or_eq_true]
  exact .inl (List.any_eq_true.2 ⟨_, List.mem_of_getElem? hk, h⟩)

theorem Sig.bres_box {sig : Sig} {cs : List CS} (hk : .box false cs ∈ sig.ps) (h : hasB cs = true) : sig.bres = true := by
  unfold Sig.bres
  simp only [Bool.or_eq_true]
  exact .inr (List.any_eq_true.2 ⟨_, hk, h⟩)

section
variable {P : Program} {C : Cfg} {W : Wld} {w0 : World} {own0 : Own} {cx : Cx} {own : Own} {w : World} {a : Act} {env env' : Env} {L : Look} {g : Gd} {o : Oper} {u : Up} {p : PS} {d : Nat}

theorem call_tail (hw : WOk w0 own0 cx own w) (hd : d < a.tmps.size) (hod : o.dst = some d) {sig : Sig} {A : CA} {sh : Sh} {vals : List Value} {v : Value} {w1 : World} {ownE : Own} {rs xs : List (List D)}
    (hu : { aff := A.aas, bx := A.bs, dst := some (d, sh) } = u) (hsh : resSh sig.rs = some sh) (hfine : sig.fine = true) (hnd : noDup A.aas = true) (hds : distinctL (srcs A.hs) = true) (hdn : distinctN (A.bs.map (·.1)) = true) (hh : HandOk A)
    (hbd' : ∀ b ∈ A.bs, b.1 ≠ d) (hPt : HandsOk sig A a vals) (hrl : rs.length = sig.rs.length) (hxl : xs.length = (A.bs.map (·.1)).length)
    (hw1 : WOk w (ownC own A.hs) (cxC cx own w.heap.size A sig.bres) ownE w1) (hres : ResOk w1 (cxC cx own w.heap.size A sig.bres) ownE sig (rs ++ xs) vals v) :
    Done cx own w a env u (ownN own ownE A.hs (backR sig A.bs d) u) w1 (a.put o.dst v) (put (putAll env (A.bs.map (·.1)) xs) d rs.flatten) := by
  have hau : u.aff = A.aas := by rw [← hu]
  have hbu : u.bx = A.bs := by rw [← hu]
  have hdu : u.d = some d := by rw [← hu]; rfl
  have hmr : ∀ a ∈ A.aas, a.to = .r → a.own = .r := fun a ha hr => by
    rcases (hPt.aff a ha).1 with h | h | h
    · exact h.2
    · rw [h.1] at hr; cases hr
    · rw [h.1] at hr; cases hr
  obtain ⟨hlen, rv, hrvl, rfl, hrs, hbx⟩ := hres
  have hbk := back_ok hsh hPt hnd hdn hbd' hu.symm
  have hal : ∀ a ∈ A.aas, ∀ d j m f, a.to ≠ .al d j m f := fun a ha d j m f e => by
    rcases (hPt.aff a ha).1 with h | h | h <;> rw [h.1] at e <;> cases e
  have hbox : ∀ b ∈ A.bs, ∃ l', leafMap A.hs (b.1, 0) = some l' := fun b hb => by
    obtain ⟨i, hi⟩ := List.getElem?_of_mem hb
    have hib : i < (boxPs sig.ps 0).length := by rw [← hPt.len]; exact (List.getElem?_eq_some_iff.1 hi).1
    obtain ⟨b', q1, _, q6, _⟩ := hPt.box i (boxPs sig.ps 0)[i].1 (boxPs sig.ps 0)[i].2 (by rw [List.getElem?_eq_getElem hib])
    rw [hi] at q1
    simp only [Option.some.injEq] at q1
    subst q1
    exact ⟨_, leafMap_mem hds q6⟩
  have hkeep : ∀ a ∈ A.aas, ∀ m f, a.own = .o m f → ∃ l', leafMap A.hs (a.h, a.i + 1) = some l' := fun a ha m f e => by
    obtain ⟨l', hl⟩ := (hPt.aff a ha).2 m f e
    exact ⟨l', leafMap_mem hds hl⟩
  have hxl' : xs.length = A.bs.length := by simpa using hxl
  have henv : ∀ s, ¬u.W s → put (putAll env (A.bs.map (·.1)) xs) d rs.flatten s = env s := fun s hs => by
    have h1 : s ≠ d := fun e => hs (.inl (by rw [Up.isDst_iff, hdu, e]))
    rw [put_ne _ _ _ _ h1, putAll_ne (fun hm => ?_)]
    obtain ⟨b, hb, rfl⟩ := List.mem_map.1 hm
    exact hs (.inr ⟨b, by rw [hbu]; exact hb, rfl⟩)
  have htv : ∀ s, u.d ≠ some s → tvA (a.put (some d) (retV rv)) s = tvA a s := fun s hs => by
    rw [tvA_put a d _ hd, if_neg (fun e => hs (by rw [hdu, e]))]
  have st := call_step (env := env) (tv := tvA a) (env' := put (putAll env (A.bs.map (·.1)) xs) d rs.flatten) (tv' := tvA (a.put (some d) (retV rv))) (back := backR sig A.bs d) hw hw1 hnd hh hau hbu hal hbk hbox hkeep henv htv
  have hndst : ∀ b ∈ A.bs, u.isDst b.1 = false := fun b hb => by
    cases hq : u.isDst b.1 with
    | false => rfl
    | true =>
      rw [Up.isDst_iff, hdu] at hq
      simp only [Option.some.injEq] at hq
      exact absurd hq.symm (hbd' b hb)
  have af := call_aff hw hw1 hnd hh hau hbu (fun a ha => (hPt.aff a ha).1) hndst st
  have houts : ∀ k, k < sig.rs.length → envL (rs ++ xs) k = rs.getD k [] := fun k hk => by
    unfold envL
    rw [List.getD_eq_getElem?_getD, List.getD_eq_getElem?_getD, List.getElem?_append_left (by omega)]
  rw [hod]
  refine ⟨st, af, fun b hb _ => ?_, fun d' sh' hds' => ?_, by simp [Act.put], rfl⟩
  · rw [hbu] at hb
    obtain ⟨i, hi⟩ := List.getElem?_of_mem hb
    have hib : i < (boxPs sig.ps 0).length := by rw [← hPt.len]; exact (List.getElem?_eq_some_iff.1 hi).1
    have hq0 : (boxPs sig.ps 0)[i]? = some ((boxPs sig.ps 0)[i].1, (boxPs sig.ps 0)[i].2) := by rw [List.getElem?_eq_getElem hib]
    obtain ⟨b', q1, q2, q6, q7⟩ := hPt.box i _ _ hq0
    have hmem := boxPs_mem hq0
    rw [hi] at q1
    simp only [Option.some.injEq] at q1
    subst q1
    obtain ⟨gg, cur, T, r1, r2, r3, r4⟩ := hbx i _ hq0
    dsimp only at r3
    simp only [Bool.false_eq_true, if_false] at r4
    have htvb : tvA (a.put (some d) (retV rv)) b' = .pointer (some ⟨gg, 0, none⟩) := by
      rw [tvA_put a d _ hd, if_neg (hbd' _ hb), ← q2, ← r1]
      conv => rhs; unfold tvL
      rw [List.getD_eq_getElem?_getD, List.getElem?_append_right (by omega), hrvl, Nat.add_sub_cancel_left, List.getElem?_map, List.getElem?_eq_getElem hib]
      rfl
    have hback : ∀ j, j ≤ (boxPs sig.ps 0)[i].2.length → backR sig A.bs d (sig.rs.length + i, j) = some (b', j) := fun j hj => by
      unfold backR
      rw [if_neg (by simp)]
      dsimp only
      rw [Nat.add_sub_cancel_left, hi]
      simp [hj]
    have henvb : put (putAll env (A.bs.map (·.1)) xs) d rs.flatten b' = xs.getD i [] := by
      rw [put_ne _ _ _ _ (hbd' _ hb)]
      have hix : i < xs.length := by rw [hxl']; exact (List.getElem?_eq_some_iff.1 hi).1
      rw [putAll_get (c := xs[i]) hdn hxl (i := i) (by rw [List.getElem?_map, hi]; rfl) (List.getElem?_eq_getElem hix)]
      simp [List.getD_eq_getElem?_getD, hix]
    have henvo : envL (rs ++ xs) (sig.rs.length + i) = xs.getD i [] := by
      unfold envL
      rw [List.getD_eq_getElem?_getD, List.getElem?_append_right (by omega), hrl, Nat.add_sub_cancel_left, List.getD_eq_getElem?_getD]
    refine ⟨gg, cur, T, htvb, r2, ?_, ?_⟩
    · rw [henvb, ← henvo]
      have := slot_back_v (d := b') (off := 0) (back := backR sig A.bs d) hw hw1 hnd hh hau hmr (fun hbb => Sig.bres_box hmem hbb) (Sig.fine_box hfine hmem) (fun j hj => by rw [hback (j + 1) (by omega)]; simp) r3
      simpa using this
    · simp only [Bool.false_eq_true, if_false]
      unfold ownN
      rw [r4]
      simp [hback 0 (Nat.zero_le _)]
  · have hds2 : u.dst = some (d, sh) := by rw [← hu]
    rw [hds2] at hds'
    simp only [Option.some.injEq, Prod.mk.injEq] at hds'
    obtain ⟨rfl, rfl⟩ := hds'
    have htvd : ∀ v, tvA (a.put (some d) v) d = v := fun v => by rw [tvA_put a d _ hd, if_pos rfl]
    have hsk : ∀ k v, rv[k]? = some v → tvL (rv ++ (boxPs sig.ps 0).map fun b => tvL vals b.1) k = v := fun k v hk => by
      unfold tvL
      rw [List.getD_eq_getElem?_getD, List.getElem?_append_left (List.getElem?_eq_some_iff.1 hk).1, hk]; rfl
    rcases resSh_cases hsh with ⟨ag, cs, e1, e2⟩ | ⟨cs, e1, e2⟩ | ⟨hn, hv, qs, e1, e2⟩
    · have hl1 : sig.rs.length = 1 := by rw [e1]; rfl
      obtain ⟨v, rfl⟩ := List.length_eq_one_iff.1 (hrvl.trans hl1)
      obtain ⟨r, rfl⟩ := List.length_eq_one_iff.1 (hrl.trans hl1)
      have h0 := hrs 0 (.v ag cs) (by rw [e1]; rfl)
      rw [e2]
      obtain ⟨vs, m1, m2, m3⟩ := h0
      refine ⟨vs, ?_, m2, ?_⟩
      · rw [htvd, ← m1, hsk 0 v rfl]; rfl
      · rw [put_self]
        have := slot_back_v (d := d) (off := 0) (back := backR sig A.bs d) hw hw1 hnd hh hau hmr (fun hbb => Sig.bres_rs (k := 0) (by rw [e1]; rfl) hbb) (Sig.fine_rs (k := 0) hfine (by rw [e1]; rfl)) (fun j hj => by
          unfold backR
          rw [if_pos (by simp [hl1]), e1]
          dsimp only
          rw [if_pos (by omega)]; simp) m3
        simp only [Nat.zero_add] at this
        simpa [envL] using this
    · have hl1 : sig.rs.length = 1 := by rw [e1]; rfl
      obtain ⟨v, rfl⟩ := List.length_eq_one_iff.1 (hrvl.trans hl1)
      obtain ⟨r, rfl⟩ := List.length_eq_one_iff.1 (hrl.trans hl1)
      have h0 := hrs 0 (.nbox cs) (by rw [e1]; rfl)
      rw [e2]
      obtain ⟨gg, cur, T, m1, m2, m3, m4⟩ := h0
      simp only [Bool.false_eq_true, if_false] at m4
      refine ⟨gg, cur, T, ?_, m2, ?_, ?_⟩
      · rw [htvd, ← m1, hsk 0 v rfl]; rfl
      · rw [put_self]
        have := slot_back_v (d := d) (off := 0) (back := backR sig A.bs d) hw hw1 hnd hh hau hmr (fun hbb => Sig.bres_nb (k := 0) (by rw [e1]; rfl) hbb) (Sig.fine_nb (k := 0) hfine (by rw [e1]; rfl)) (fun j hj => by
          unfold backR
          rw [if_pos (by simp [hl1]), e1]
          dsimp only
          rw [if_pos (by omega)]; simp) m3
        simp only [Nat.zero_add] at this
        simpa [envL] using this
      · simp only [Bool.false_eq_true, if_false]
        unfold ownN
        rw [m4]
        have : backR sig A.bs d (0, 0) = some (d, 0) := by
          unfold backR
          rw [if_pos (by simp [hl1]), e1]
          simp
        simp [this]
    · rw [e2]
      obtain ⟨vss, m1, m2, m3, m4⟩ := tup_ok (Q := CellOk w1 cx (ownN own ownE A.hs (backR sig A.bs d) u) d) (off := 0) e1 hrl hrvl (fun k ag cs r v hk hr hvk => by
        have h0 := hrs k (.v ag cs) hk
        obtain ⟨vs, n1, n2, n3⟩ := h0
        have hkl : k < sig.rs.length := (List.getElem?_eq_some_iff.1 hk).1
        refine ⟨vs, by rw [← n1, hsk k v hvk], n2, ?_⟩
        have := slot_back_v (d := d) (off := offR sig.rs k) (back := backR sig A.bs d) hw hw1 hnd hh hau hmr (fun hbb => Sig.bres_rs hk hbb) (Sig.fine_rs hfine hk) (fun j hj => by
          unfold backR
          rw [if_pos hkl]
          split
          · rename_i e; rw [e] at hn; simp at hn
          · rename_i e; rw [e] at hn; simp at hn
          · dsimp only
            rw [hk]
            dsimp only
            rw [if_pos (by omega)]; rfl) n3
        rw [houts k hkl, List.getD_eq_getElem?_getD, hr] at this
        simpa using this)
      refine ⟨vss, ?_, m2, m3, ?_⟩
      · rw [htvd, retV_put hrvl hn, m1]
      · rw [put_self]
        simpa using m4

theorem call_ok (hw : WOk w0 own0 cx own w) (hG : ∀ g, cx.N g → W.G ≤ g) (hP : W.P w) (hL : ∀ z, SlotOk w cx own env (tvA a) z (L z)) (hg : ∀ gs b, g = some (gs, b) → env gs = [.bool b])
    (hod : o.dst = some d) (hd : d < a.tmps.size) {c : Call} {f : Nat} {sig : Sig} (ho : o.op = .call c) (hce : c.callee = .value (.func f)) {Φ : Ask} (hΦ : ∀ ins outs, Φ f sig ins outs → FunOk P W f sig ins outs)
    (hc : cCall1 L g d f sig c.args.toList = some (u, p)) (hp : PRel Φ p env env') : OpOk P cx own w a env o u env' := by
  unfold cCall1 at hc
  split at hc
  · rename_i A sh hA hsh
    split at hc
    · rename_i hok
      simp only [Option.some.injEq, Prod.mk.injEq] at hc
      obtain ⟨hu, rfl⟩ := hc
      simp only [Bool.and_eq_true] at hok
      obtain ⟨hok, hfine⟩ := hok
      unfold CA.ok at hok
      simp only [Bool.and_eq_true] at hok
      obtain ⟨⟨⟨⟨⟨⟨⟨hnd, hds⟩, hdst⟩, hdn⟩, hrd⟩, hdp⟩, had⟩, hbd⟩ := hok
      obtain ⟨k1, k2, hh, k4⟩ := cArgs_get hA
      have hPt := cArgs_parts (B := A) hA (fun q hq => hq)
      simp only [PRel] at hp
      obtain ⟨rs, xs, hphi, hrl, hxl, rfl⟩ := hp
      obtain ⟨hent, hfun⟩ := hΦ _ _ hphi
      have hbd' : ∀ b ∈ A.bs, b.1 ≠ d := fun b hb e => by
        have := List.all_eq_true.1 hbd b hb
        simp only [Bool.not_eq_true'] at this
        rw [e, show Nat.beq d d = true from Nat.beq_refl d] at this
        cases this
      have hvl : (c.args.map a.eval).toList.length = sig.ps.length := by simp [← k1]
      have hins : (A.os.map (·.get env)).length = sig.ps.length := by simp [k2]
      have hwc := wok_callee (bres := sig.bres) hw hnd hh hdst
      intro K Q hK
      unfold Oper.wp
      rw [exec_call ho hce hent]
      show Calls P f (c.args.map a.eval) w _
      have hinv : Inv (start sig) w (cxC cx own w.heap.size A sig.bres) (ownC own A.hs) (envL (A.os.map (·.get env))) (tvL (c.args.map a.eval).toList) := by
        intro q hq
        obtain ⟨i, p, hi, rfl⟩ := starts_get hq
        rw [Nat.zero_add]
        have hil : i < c.args.toList.length := by rw [k1]; exact (List.getElem?_eq_some_iff.1 hi).1
        obtain ⟨ca, m1, m2, oo, m3, m4⟩ := k4 i _ p (List.getElem?_eq_getElem hil) hi
        rw [Nat.zero_add] at m1
        obtain ⟨o', n1, n2⟩ := cArg_ok (E := envL (A.os.map (·.get env))) (T := tvL (c.args.map a.eval).toList) hw hL hg hnd hh hds hrd hdp m1 m2
        rw [m3] at n1
        simp only [List.cons.injEq, and_true] at n1
        subst n1
        refine n2 ?_ ?_
        · simp [envL, m4]
        · have hil' : i < c.args.size := by simpa using hil
          simp [tvL, hil']
      have hcall := hfun w (ownC own A.hs) (cxC cx own w.heap.size A sig.bres) (c.args.map a.eval).toList hP hwc (fun gg j hj => by
        obtain ⟨i, h1, h2, _⟩ := ownC_some hj
        refine ⟨hG _ (hw.dom gg i h1).2, ?_⟩
        have := (hPt.dst _ (leafMap_some h2)).2
        simpa using this) hvl hins hinv
      rw [Array.toArray_toList] at hcall
      refine Calls.mono hcall ?_
      rintro e w1 ⟨v, ownE, rfl, hw1, hres⟩
      refine hK _ w1 (a.put o.dst v) (call_tail hw hd hod hu hsh hfine hnd hds hdn hh hbd' ⟨hPt.aff, hPt.len, fun i k ws hi => ?_⟩ hrl hxl hw1 hres)
      obtain ⟨_, b', cs, x, q1, q2, q3, q4, q5, q6, q7⟩ := hPt.box i k ws hi
      refine ⟨b', q1, ?_, q6, fun j hj => q7 j (by omega)⟩
      rw [← boxOf_ok hL hg q3 q4]
      have hk : k < c.args.size := by
        have := (List.getElem?_eq_some_iff.1 q2).1
        simpa using this
      have hx : x = c.args[k] := by
        have := (List.getElem?_eq_some_iff.1 q2).2
        simpa using this.symm
      simp [tvL, hx, hk]
    · cases hc
  · cases hc

end

end V
end Go.Proofs.Ytgialjcichiaoaa

